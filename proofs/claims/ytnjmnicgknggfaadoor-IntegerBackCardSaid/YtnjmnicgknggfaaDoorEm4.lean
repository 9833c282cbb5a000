/- Lemmas for the statement: the walks of the functions that it reaches, and plain laws. -/
import Derived.Test.YtnjmnicgknggfaaDoorEm1
import Derived.Test.YtnjmnicgknggfaaDoorEm2
import Derived.Test.YtnjmnicgknggfaaDoorEm3
set_option linter.unusedVariables false
set_option linter.unusedSimpArgs false
namespace Go.Proofs.YtnjmnicgknggfaaDoor.E
open Go Go.RowKit Go.Proofs.YtnjmnicgknggfaaDoorW.PrintWords Go.Proofs.YtnjmnicgknggfaaDoorW.PrintLast Go.Proofs.YtnjmnicgknggfaaDoorW.PrintMore
attribute [local go_sem] max2_int min2_int max_two min_two max_three min_three max_four min_four
open Go.Proofs.YtnjmnicgknggfaaDoorW.PrintWords.Kd renaming R_alloc → zRa, R_drewN → zRn, R_drew → zRd, V_alloc → zVa, V_drewN → zVn, V_drew → zVd, V_below → zVb, C_alloc → zCa, C_drewN → zCn, C_drew → zCd, R_mono → zRm, V_mono → zVm, at_int → zAi, R_elder' → zRe, R_lower → zRl, R_new' → zRw, R_lt → zRt, R_below → zRb, R_base → zRz, R_reads' → zRr, R_slice → zRs, V_elder' → zVe, V_lower → zVl, V_slice → zVs, V_reads' → zVr
open Go.Proofs.YtnjmnicgknggfaaDoorW.PrintWords renaming pw_below_drewN → zBn, below_alloc → zBa, below_drew1 → zBd, below_size → zBs, below_step → zBt, blk_drewN → zKn, blk_drew → zKd, blk_alloc → zKa, blk_below → zKb, blk_cell → zKc, blk_frozen → zKf
open List renaming setIfInBounds_toArray → zSa, set_cons_zero → zSb, set_cons_succ → zSc, length_drop → zLd, length_take → zLt, map_toArray → zMa, map_cons → zMc, map_nil → zMn, length_cons → zLc, length_nil → zLn
open Go.Proofs.YtnjmnicgknggfaaDoorW.PrintWords.Aside0 renaming mk → zMk
open Option renaming bind_eq_some_iff → zBi, bind_some → zOb
open Option.some renaming inj → zOi
open Int renaming toNat_natCast → zTn

def r1_DivMod.l0 : Nat → List Int → List Int → List Int → List Int → Int → Option (List Int × List Int × Int)
  | 0, _, _, _, _, _ => none
  | k + 1, x1, x7, x8, x9, x10 => if x10 ≥ 0 then (if 0 ≤ x10 then (if x10 < (x7.length : Int) then ((some (([rd x7 x10] : List Int) : List Int)).bind fun y706 => ((r1_bits.f k x9).bind fun t709 => (if y706.length + t709.length < 140737488355328 then ((r1_limbs.f k (y706 ++ t709)).bind fun t715 => ((r1_Cmp.f k t715 x1).bind fun t718 => (if t718 ≥ 0 then ((r1_Sub.f k t715 x1).bind fun bt719 => (if x10 < (x8.length : Int) then (r1_DivMod.l0 k x1 x7 (x8.set (x10 : Int).toNat 1) bt719.1 (wrap64 (x10 - 1))) else (none))) else (r1_DivMod.l0 k x1 x7 x8 t715 (wrap64 (x10 - 1)))))) else (none)))) else (none)) else (none)) else ((r1_limbs.f k x8).bind fun t702 => (some (t702, x9, 0)))
def r1_DivMod.f (k : Nat) (l0 : List Int) (l1 : List Int) : Option (List Int × List Int × Int) := (r1_Norm.f k l1).bind fun t693 => (if (t693.length : Int) = 0 then (some (([] : List Int), ([] : List Int), 15)) else ((r1_bits.f k l0).bind fun t696 => (if 0 ≤ (t696.length : Int) then (if ((t696.length : Int) : Int).toNat ≤ 281474976710656 then (r1_DivMod.l0 k t693 t696 (List.replicate ((t696.length : Int) : Int).toNat 0) ([] : List Int) (wrap64 ((t696.length : Int) - 1))) else (none)) else (none))))
def r1_DivMod.T10 : Bool × List (List Nat × List Nat) := (true, [([], []), ([], []), ([0, 1], [0, 1]), ([2], [2]), ([3], [3]), ([], []), ([5], [5]), ([4, 6, 6], [4, 6]), ([7, 7], [7]), ([8, 8, 0, 1, 2, 3, 4, 5, 6, 7, 8], [5, 8])])
def r1_DivMod.B10 : List Nat := [0, 0, 3, 7, 15, 0, 32, 127, 255, 511]
theorem r1_DivMod.tab10 : rtab .any (opsOf Tryd.f37 10) = r1_DivMod.T10 := by kernel_rfl
theorem r1_DivMod.bits10 : waitsOk r1_DivMod.T10.2 r1_DivMod.B10 = true := by kernel_rfl
set_option maxHeartbeats 8000000 in
set_option maxRecDepth 100000 in
theorem r1_DivMod.calls (k : Nat) (A0 : Option Addr) (c0 : Nat) (l0 : List Int) (A1 : Option Addr) (c1 : Nat) (l1 : List Int) (r1 : List Int) (r2 : List Int) (r3 : Int) (w : World) (hr0 : Kd.C (Kd.int .u32) w A0 l0.length l0) (hc0 : l0.length ≤ c0) (hr1 : Kd.C (Kd.int .u32) w A1 l1.length l1) (hc1 : l1.length ≤ c1) (h : r1_DivMod.f k l0 l1 = some (r1, r2, r3)) :
    Calls Tryd.prog 37 #[.slice A0 l0.length c0, .slice A1 l1.length c1] w fun e w' => ∃ v0_ v1_ : Value, e = .returned (.tuple #[v0_, v1_, .int .i64 r3]) ∧ Kd.R (Kd.int .u32) 58 w' w.heap.size (fun k_ => some k_ ≠ (v1_ : Value).ownBlock) v0_ r1 ∧ Kd.R (Kd.int .u32) 58 w' w.heap.size (fun k_ => some k_ ≠ (v0_ : Value).ownBlock) v1_ r2 ∧ Below w.heap.size w w' := by
  have HR0 := zMk hr0
  have HC0 := zMk hc0
  clear hr0 hc0
  have HR1 := zMk hr1
  have HC1 := zMk hc1
  clear hr1 hc1
  have HB := zMk (Below.refl w.heap.size w)
  have H : ((r1_Norm.f k l1).bind fun t693 => (if (t693.length : Int) = 0 then (some (([] : List Int), ([] : List Int), 15)) else ((r1_bits.f k l0).bind fun t696 => (if 0 ≤ (t696.length : Int) then (if ((t696.length : Int) : Int).toNat ≤ 281474976710656 then (r1_DivMod.l0 k t693 t696 (List.replicate ((t696.length : Int) : Int).toNat 0) ([] : List Int) (wrap64 ((t696.length : Int) - 1))) else (none)) else (none))))) = some (r1, r2, r3) := h
  clear h
  replace H := bnd H
  obtain ⟨t693, A30, H⟩ := H
  have A3 := zMk A30
  clear A30
  by_cases c4 : (t693.length : Int) = 0
  · rw [if_pos c4] at H
    have c4b0 : ((t693.length : Int) == 0) = true := beq_iff_eq.mpr c4
    have c4b1 : ((t693.length : Int) != 0) = false := bne_eq_false_iff_eq.mpr c4
    clear c4
    simp only [Option.some.injEq, Prod.mk.injEq] at H
    obtain ⟨rfl, rfl, rfl⟩ := H
    go_enter Tryd.func37, Tryd.ntmps37
    go_wp2_with (first |  ((with_reducible refine gate_callee (f := 63) rfl ?_); refine goesL_ (some 12) rfl rfl Tryd.func63 (by kernel_rfl) rfl #[.slice A1 l1.length c1] rfl (by (try simp only [zMa, zMc, zMn]); first |  done|  rfl|  (simp only [zLd, zLt]; rfl)) ?_; (with_reducible refine (r1_Norm.calls k _ _ l1 t693 _ ?side1 ?side2 A3.out).mono ?_); (case side1 => repeat (first |  exact HR1.out|  (with_reducible refine zCa ?_ _)|  (with_reducible refine zCn ?_ _)|  (with_reducible refine zCd ?_))); (case side2 => exact HC1.out); rintro e w5 ⟨v694, rfl, ho0, hb⟩; refine ⟨_, rfl, ?_⟩; have HO695 := zMk (zRl ho0 (zBs (by exact uT HB.out))); replace HB := zMk (zBt (by exact uT HB.out) hb); (try clear hb); (try clear hb2); (try clear hk); (try clear hi); (try clear ho0); obtain ⟨Ao6, co6, eo6⟩ := zRs HO695.out; subst eo6))
    go_ret3
    exact ⟨_, _, by first | rfl | (simp [errW_none, errW_some] <;> rfl) | (simp [*, errW_none, errW_some] <;> rfl), by first | exact Kd.R_nil _ _ _ _ _ | exact Kd.N_nil _ _ _ _ _ | exact Kd.V_nil _ _ _ _ _ | exact Kd.Q_nil _ _ _ _ _ | exact Kd.S_nil _ _ _ _ _, by first | exact Kd.R_nil _ _ _ _ _ | exact Kd.N_nil _ _ _ _ _ | exact Kd.V_nil _ _ _ _ _ | exact Kd.Q_nil _ _ _ _ _ | exact Kd.S_nil _ _ _ _ _, by exact uT HB.out⟩
  · rw [if_neg c4] at H
    have c4b0 : ((t693.length : Int) == 0) = false := beq_eq_false_iff_ne.mpr c4
    have c4b1 : ((t693.length : Int) != 0) = true := bne_iff_ne.mpr c4
    have c4b2 : ¬ (t693 = []) := fun h_ => c4 (by rw [h_]; rfl)
    replace H := bnd H
    obtain ⟨t696, A70, H⟩ := H
    have A7 := zMk A70
    clear A70
    by_cases c8 : 0 ≤ (t696.length : Int)
    · rw [if_pos c8] at H
      have c8b0 := eq_true c8
      have c8b1 : decide (0 ≤ (t696.length : Int)) = true := decide_eq_true c8
      clear c8
      by_cases c9 : ((t696.length : Int) : Int).toNat ≤ 281474976710656
      rotate_left
      · rw [if_neg c9] at H; exact absurd H (by simp)
      rw [if_pos c9] at H
      have c9b0 := eq_true c9
      have c9b1 : decide (((t696.length : Int) : Int).toNat ≤ 281474976710656) = true := decide_eq_true c9
      clear c9
      obtain ⟨y699, hy699⟩ : ∃ y_ : List Int, y_ = (List.replicate ((t696.length : Int) : Int).toNat 0) := ⟨_, rfl⟩
      replace H : (r1_DivMod.l0 k t693 t696 y699 ([] : List Int) (wrap64 ((t696.length : Int) - 1))) = some (r1, r2, r3) := by first | (rw [hy699]; with_reducible exact H) | (have H2_ := (zOb _ _).symm.trans H; rw [hy699]; with_reducible exact H2_) | (have H2_ := (zOb _ _).symm.trans H; with_reducible exact H2_) | with_reducible exact H | (rw [hy699]; exact H) | exact H
      have Ny699 := zMk hy699
      clear hy699
      have H' := zMk H
      clear H
      go_enter Tryd.func37, Tryd.ntmps37
      go_wp2_with (first |  ((with_reducible refine gate_callee (f := 63) rfl ?_); refine goesL_ (some 12) rfl rfl Tryd.func63 (by kernel_rfl) rfl #[.slice A1 l1.length c1] rfl (by (try simp only [zMa, zMc, zMn]); first |  done|  rfl|  (simp only [zLd, zLt]; rfl)) ?_; (with_reducible refine (r1_Norm.calls k _ _ l1 t693 _ ?side1 ?side2 A3.out).mono ?_); (case side1 => repeat (first |  exact HR1.out|  (with_reducible refine zCa ?_ _)|  (with_reducible refine zCn ?_ _)|  (with_reducible refine zCd ?_))); (case side2 => exact HC1.out); rintro e w10 ⟨v694, rfl, ho0, hb⟩; refine ⟨_, rfl, ?_⟩; have HO695 := zMk (zRl ho0 (zBs (by exact uT HB.out))); replace HB := zMk (zBt (by exact uT HB.out) hb); (try clear hb); (try clear hb2); (try clear hk); (try clear hi); (try clear ho0); obtain ⟨Ao11, co11, eo11⟩ := zRs HO695.out; subst eo11)|  ((with_reducible refine gate_callee (f := 64) rfl ?_); refine goesL_ (some 17) rfl rfl Tryd.func64 (by kernel_rfl) rfl #[.slice A0 l0.length c0] rfl (by (try simp only [zMa, zMc, zMn]); first |  done|  rfl|  (simp only [zLd, zLt]; rfl)) ?_; (with_reducible refine (r1_bits.calls k _ _ l0 t696 _ ?side1 ?side2 A7.out).mono ?_); (case side1 => repeat (first |  exact (Kd.C_below HR0.out HB.out)|  (with_reducible refine zCa ?_ _)|  (with_reducible refine zCn ?_ _)|  (with_reducible refine zCd ?_))); (case side2 => exact HC0.out); rintro e w12 ⟨v697, rfl, ho0, hb⟩; refine ⟨_, rfl, ?_⟩; replace HO695 := zMk (zRb (by exact uR HO695.out) hb); have HO698 := zMk (zRl ho0 (zBs (by exact uT HB.out))); replace HB := zMk (zBt (by exact uT HB.out) hb); (try clear hb); (try clear hb2); (try clear hk); (try clear hi); (try clear ho0); obtain ⟨Ao13, co13, eo13⟩ := zRs HO698.out; subst eo13)|  ((with_reducible refine gate_dst (N := 20) rfl ?_); refine Kd.R_make (Kd.int .u8) _ 5 rfl (N := 20) rfl 67 _ _ rfl (t696.length : Int) rfl rfl Tryd.underlying67 (.int .u8 0) 1 info5 rfl (by decide) (by omega) 0 (ok := fun _ => True) (okp := fun _ => True) rfl (fun _ hk => hk) trivial (of_decide_eq_true (by first |  (with_reducible assumption)|  assumption)) (Nat.le_trans (Nat.mul_le_mul_right _ (of_decide_eq_true (by first |  (with_reducible assumption)|  assumption) : (t696.length : Int).toNat ≤ 281474976710656)) (by omega)) (Below.refl _ _) (Nat.le_refl _) ?_; intro v700 w14 ho15 hb hg_ hnew_; clear hg_ hnew_; (first |  rw [← Ny699.out] at ho15|  (simp only [Int.reduceToNat] at ho15; rw [← Ny699.out] at ho15)); replace HO695 := zMk (zRb (by exact uR HO695.out) hb); have HO701 := zMk (zRl (zRw ho15 (zRt (by exact uR HO698.out))) (zBs (by exact uT HB.out))); replace HO698 := zMk (zRe (by exact uR HO698.out) (zRz ho15) hb); replace HB := zMk (zBt (by exact uT HB.out) hb); clear hb ho15))
      go_loopg [9, 10] k (fun kq v9 v10 w' => ∃ (x8_1 : List Int) (x9_1 : List Int) (x10_1 : Int), v10 = .int .i64 x10_1 ∧ Aside0 (r1_DivMod.l0 kq t693 t696 x8_1 x9_1 x10_1 = some (r1, r2, r3)) ∧ Aside0 (kq ≤ k) ∧ Aside0 (Kd.R (Kd.int .u32) 58 w' w.heap.size (fun k_ => some k_ ≠ (v9 : Value).ownBlock) (.slice Ao11 t693.length co11) t693) ∧ Aside0 (Kd.R (Kd.int .u8) 5 w' w.heap.size (fun k_ => some k_ ≠ (v700 : Value).ownBlock) (.slice Ao13 t696.length co13) t696) ∧ Aside0 (Kd.R (Kd.int .u8) 5 w' w.heap.size (fun k_ => some k_ ≠ ((.slice Ao13 t696.length co13) : Value).ownBlock) v700 x8_1) ∧ Aside0 (Kd.R (Kd.int .u32) 58 w' w.heap.size (fun k_ => some k_ ≠ ((.slice Ao11 t693.length co11) : Value).ownBlock) v9 x9_1) ∧ Aside0 (Below w.heap.size w w'))
      case atStart => exact ⟨(y699), (([] : List Int)), (wrap64 ((t696.length : Int) - 1)), (by first | rfl | (simp; done) | (simp [*]; done)), H', ⟨Nat.le_refl _⟩, ⟨by (with_reducible repeat (first | apply zRa | apply zRn | apply zRd)); exact zRm HO695.out (fun _ hk => (by simp [Value.ownBlock]))⟩, ⟨by (with_reducible repeat (first | apply zRa | apply zRn | apply zRd)); exact zRm HO698.out (fun _ hk => hk.2)⟩, ⟨by (with_reducible repeat (first | apply zRa | apply zRn | apply zRd)); exact zRm HO701.out (fun _ hk => hk.2)⟩, ⟨by first | exact Kd.R_nil _ _ _ _ _ | exact Kd.N_nil _ _ _ _ _ | exact Kd.V_nil _ _ _ _ _ | exact Kd.Q_nil _ _ _ _ _ | exact Kd.S_nil _ _ _ _ _⟩, ⟨by exact uT HB.out⟩⟩
      clear H'
      obtain ⟨x8_1, x9_1, x10_1, rfl, HA, HK1, HO_1, HO_7, HO_8, HO_9, HB⟩ := hrel
      rcases gk with _ | k1
      · exact absurd HA.out (by simp [r1_DivMod.l0])
      have H := HA.out
      clear HA
      simp only [r1_DivMod.l0] at H
      by_cases c16 : x10_1 ≥ 0
      · rw [if_pos c16] at H
        have c16b0 : decide (0 ≤ x10_1) = true := decide_eq_true c16
        clear c16
        by_cases c17 : 0 ≤ x10_1
        rotate_left
        · rw [if_neg c17] at H; exact absurd H (by simp)
        rw [if_pos c17] at H
        have c17b0 : decide (0 ≤ x10_1) = true := decide_eq_true c17
        clear c17
        by_cases c18 : x10_1 < (t696.length : Int)
        rotate_left
        · rw [if_neg c18] at H; exact absurd H (by simp)
        rw [if_pos c18] at H
        have c18b0 : decide (x10_1 < (t696.length : Int)) = true := decide_eq_true c18
        clear c18
        obtain ⟨y706, hy706⟩ : ∃ y_ : List Int, y_ = (([rd t696 x10_1] : List Int)) := ⟨_, rfl⟩
        replace H : ((r1_bits.f k1 x9_1).bind fun t709 => (if y706.length + t709.length < 140737488355328 then ((r1_limbs.f k1 (y706 ++ t709)).bind fun t715 => ((r1_Cmp.f k1 t715 t693).bind fun t718 => (if t718 ≥ 0 then ((r1_Sub.f k1 t715 t693).bind fun bt719 => (if x10_1 < (x8_1.length : Int) then (r1_DivMod.l0 k1 t693 t696 (x8_1.set (x10_1 : Int).toNat 1) bt719.1 (wrap64 (x10_1 - 1))) else (none))) else (r1_DivMod.l0 k1 t693 t696 x8_1 t715 (wrap64 (x10_1 - 1)))))) else (none))) = some (r1, r2, r3) := by first | (rw [hy706]; with_reducible exact H) | (have H2_ := (zOb _ _).symm.trans H; rw [hy706]; with_reducible exact H2_) | (have H2_ := (zOb _ _).symm.trans H; with_reducible exact H2_) | with_reducible exact H | (rw [hy706]; exact H) | exact H
        have Ny706 := zMk hy706
        clear hy706
        replace H := bnd H
        obtain ⟨t709, A190, H⟩ := H
        have A19 := zMk A190
        clear A190
        by_cases c20 : y706.length + t709.length < 140737488355328
        rotate_left
        · rw [if_neg c20] at H; exact absurd H (by simp)
        rw [if_pos c20] at H
        have LMc20 := zMk c20
        clear c20
        obtain ⟨y712, hy712⟩ : ∃ y_ : List Int, y_ = (y706 ++ t709) := ⟨_, rfl⟩
        replace H : ((r1_limbs.f k1 y712).bind fun t715 => ((r1_Cmp.f k1 t715 t693).bind fun t718 => (if t718 ≥ 0 then ((r1_Sub.f k1 t715 t693).bind fun bt719 => (if x10_1 < (x8_1.length : Int) then (r1_DivMod.l0 k1 t693 t696 (x8_1.set (x10_1 : Int).toNat 1) bt719.1 (wrap64 (x10_1 - 1))) else (none))) else (r1_DivMod.l0 k1 t693 t696 x8_1 t715 (wrap64 (x10_1 - 1)))))) = some (r1, r2, r3) := by first | (rw [hy712]; with_reducible exact H) | (have H2_ := (zOb _ _).symm.trans H; rw [hy712]; with_reducible exact H2_) | (have H2_ := (zOb _ _).symm.trans H; with_reducible exact H2_) | with_reducible exact H | (rw [hy712]; exact H) | exact H
        have Ny712 := zMk hy712
        clear hy712
        replace H := bnd H
        obtain ⟨t715, A210, H⟩ := H
        have A21 := zMk A210
        clear A210
        replace H := bnd H
        obtain ⟨t718, A220, H⟩ := H
        have A22 := zMk A220
        clear A220
        by_cases c23 : t718 ≥ 0
        · rw [if_pos c23] at H
          have c23b0 : decide (0 ≤ t718) = true := decide_eq_true c23
          clear c23
          replace H := bnd H
          obtain ⟨⟨t719, t720⟩, A240, H⟩ := H
          replace H : (if x10_1 < (x8_1.length : Int) then (r1_DivMod.l0 k1 t693 t696 (x8_1.set (x10_1 : Int).toNat 1) t719 (wrap64 (x10_1 - 1))) else (none)) = some (r1, r2, r3) := H
          have A24 := zMk A240
          clear A240
          by_cases c25 : x10_1 < (x8_1.length : Int)
          rotate_left
          · rw [if_neg c25] at H; exact absurd H (by simp)
          rw [if_pos c25] at H
          have c25b0 : decide (x10_1 < (x8_1.length : Int)) = true := decide_eq_true c25
          clear c25
          obtain ⟨y723, hy723⟩ : ∃ y_ : List Int, y_ = (x8_1.set (x10_1 : Int).toNat 1) := ⟨_, rfl⟩
          replace H : (r1_DivMod.l0 k1 t693 t696 y723 t719 (wrap64 (x10_1 - 1))) = some (r1, r2, r3) := by first | (rw [hy723]; with_reducible exact H) | (have H2_ := (zOb _ _).symm.trans H; rw [hy723]; with_reducible exact H2_) | (have H2_ := (zOb _ _).symm.trans H; with_reducible exact H2_) | with_reducible exact H | (rw [hy723]; exact H) | exact H
          have Ny723 := zMk hy723
          clear hy723
          have H' := zMk H
          clear H
          obtain ⟨Ao27, co27, eo27⟩ := zRs HO_9.out
          subst eo27
          try go_wp2
          replace HO_1 := zMk (zRd HO_1.out)
          replace HO_7 := zMk (zRd HO_7.out)
          replace HO_8 := zMk (zRd HO_8.out)
          replace HO_9 := zMk (zRd HO_9.out)
          replace HB := zMk (zBd HB.out)
          have p705 : 0 ≤ (x10_1 : Int) := of_decide_eq_true (by first | (with_reducible assumption) | assumption)
          have q705 : x10_1 < (t696.length : Int) := of_decide_eq_true (by first | (with_reducible assumption) | assumption)
          obtain ⟨ad705, e705, hx705_0⟩ := zAi (zRr HO_7.out).2.2 x10_1 p705 q705
          cases e705
          replace p705 := eq_true p705
          replace q705 := eq_true q705
          refine start_ (n := 10) (S := fun w' => w'.cell? (ad705.add (x10_1).toNat) = some (.int .u8 (rd t696 x10_1))) (ds := [7]) #[false, false, false, false, false, false, false, false, false, false] (by kernel_rfl) rfl rfl (hx705_0) (fun hHeld => ?_); refine with_tabW r1_DivMod.tab10 r1_DivMod.bits10 (fun HT_ HW_ => ?_)
          generalize wr.drew = w28 at HO_1 HO_7 HO_8 HO_9 HB hx705_0 hHeld ⊢
          refine pure_ (i := 0) (N := some 28) (v := ?_) (a' := ?_) #[true, false, false, false, false, false, false, false, false, false] rfl rfl (any_of HT_.out (by kernel_rfl)) (fun _ _ _ h => h) (Or.inl ⟨by rfl, ?_⟩) ?_ ?_
          rotate_left
          · intro w'
            go_simp
            with_reducible rfl
          rotate_left
          · simp only [Act.put, zSa, zSb, zSc, i64_w, i32_w]
            rfl
          refine pure_ (i := 1) (N := some 29) (v := ?_) (a' := ?_) #[true, true, false, false, false, false, false, false, false, false] rfl rfl (any_of HT_.out (by kernel_rfl)) (fun _ _ _ h => h) (Or.inl ⟨by rfl, ?_⟩) ?_ ?_
          rotate_left
          · intro w'
            go_simp
            with_reducible rfl
          rotate_left
          · simp only [Act.put, zSa, zSb, zSc, i64_w, i32_w]
            rfl
          refine pure_ (i := 2) (N := some 30) (v := ?_) (a' := ?_) #[true, true, true, false, false, false, false, false, false, false] rfl rfl (any_of HT_.out (by kernel_rfl)) (fun _ _ _ h => h) (Or.inl ⟨by rfl, ?_⟩) ?_ ?_
          rotate_left
          · intro w'
            go_simp
            with_reducible rfl
          rotate_left
          · simp only [Act.put, zSa, zSb, zSc, i64_w, i32_w]
            rfl
          refine pure_ (i := 5) (N := some 33) (v := ?_) (a' := ?_) #[true, true, true, false, false, true, false, false, false, false] rfl rfl (any_of HT_.out (by kernel_rfl)) (fun _ _ _ h => h) (Or.inl ⟨by rfl, ?_⟩) ?_ ?_
          rotate_left
          · intro w'
            go_simp
            with_reducible rfl
          rotate_left
          · simp only [Act.put, zSa, zSb, zSc, i64_w, i32_w]
            rfl
          refine take_ (i := 3) (N := some 31) (v := ?_) (a' := ?_) #[true, true, true, true, false, true, false, false, false, false] rfl rfl (take_ofW HT_.out HW_.out (by kernel_rfl)) (fun _ _ _ h => h) (Or.inl ⟨by rfl, ?_⟩) hHeld ?_ ?_
          rotate_left
          · intro w' s0
            go_simp
            with_reducible rfl
          rotate_left
          · simp only [Act.put, zSa, zSb, zSc, i64_w, i32_w]
            rfl
          refine join_ (σ := Value × Value) 3 #[true, true, true, true, true, true, true, false, false, false] (fun s_ => [(32, s_.1), (34, s_.2)]) (fun s_ w' => (w'.cell? (ad705.add (x10_1).toNat) = some (.int .u8 (rd t696 x10_1))) ∧ (Kd.R (Kd.int .u8) 5 w' w.heap.size (fun k_ => some k_ ≠ (s_.2 : Value).ownBlock ∧ some k_ ≠ (.slice (some ad705) t696.length co13 : Value).ownBlock ∧ some k_ ≠ (v700 : Value).ownBlock) s_.1 y706) ∧ (Kd.R (Kd.int .u8) 5 w' w.heap.size (fun k_ => some k_ ≠ (s_.1 : Value).ownBlock ∧ some k_ ≠ (.slice (some ad705) t696.length co13 : Value).ownBlock ∧ some k_ ≠ (v700 : Value).ownBlock) s_.2 t709) ∧ (Kd.R (Kd.int .u32) 58 w' w.heap.size (fun k_ => some k_ ≠ (.slice Ao27 x9_1.length co27 : Value).ownBlock) (.slice Ao11 t693.length co11) t693) ∧ (Kd.R (Kd.int .u8) 5 w' w.heap.size (fun k_ => some k_ ≠ (s_.1 : Value).ownBlock ∧ some k_ ≠ (s_.2 : Value).ownBlock ∧ some k_ ≠ (v700 : Value).ownBlock) (.slice (some ad705) t696.length co13) t696) ∧ (Kd.R (Kd.int .u8) 5 w' w.heap.size (fun k_ => some k_ ≠ (s_.1 : Value).ownBlock ∧ some k_ ≠ (s_.2 : Value).ownBlock ∧ some k_ ≠ (.slice (some ad705) t696.length co13 : Value).ownBlock) v700 x8_1) ∧ (Kd.R (Kd.int .u32) 58 w' w.heap.size (fun k_ => some k_ ≠ (.slice Ao11 t693.length co11 : Value).ownBlock) (.slice Ao27 x9_1.length co27) x9_1) ∧ (Below w.heap.size w w')) ?_ ?_
          rotate_left
          · intro hCont
            refine two_ (i := 4) (j := 6) (Ni := some 32) (Nj := some 34) #[true, true, true, true, true, true, false, false, false, false] #[true, true, true, true, false, true, true, false, false, false] rfl rfl rfl rfl (two_of HT_.out (by kernel_rfl)) (by decide) (by decide) (fun K hK => ?_) (fun K hK => ?_)
            · skip
              refine Kd.R_lit_step (Kd.int .u8) _ 5 ?hg (N := 32) ?hd (xs := ([rd t696 x10_1] : List Int)) (inner := [.int .u8 (rd t696 x10_1)]) (ok := fun _ => True) (okp := fun _ => True) ?hr ?hp (fun _ hk => hk) trivial (Below.refl _ _) (Nat.le_refl _) (by simp) ?_; (case hd => rfl); (case hg => rfl); (case hr => first | (go_simp; done) | (go_simp; rfl) | (go_simp; rw [show ∀ x : Int, IntKind.u32.wrap (IntKind.u8.wrap x) = x % 256 from fun x => (by show (x % 256) % 4294967296 = x % 256; omega)])); (case hp => exact (Reps.one (show Kd.M (Kd.int .u8) _ _ _ (rd t696 x10_1) [.int .u8 (rd t696 x10_1)] from rfl) (Reps.none _ _)))
              intro v707 w29 ho30 hb hg_ hnew_
              have HS0_ := (hb.cell (World.block_lt_of_cell? _ _ (hHeld))).trans (hHeld)
              clear hg_ hnew_
              (first | rw [← Ny706.out] at ho30 | (simp only [Int.reduceToNat] at ho30; rw [← Ny706.out] at ho30))
              replace HO_1 := zMk (zRb (by exact uR HO_1.out) hb)
              replace HO_9 := zMk (zRb (by exact uR HO_9.out) hb)
              have HO708 := zMk (zRl (zRw (zRw ho30 (zRt (by exact uR HO_7.out))) (zRt (by exact uR HO_8.out))) (zBs (by exact uT HB.out)))
              replace HO_7 := zMk (zRe (by exact uR HO_7.out) (zRz ho30) hb)
              replace HO_8 := zMk (zRe (by exact uR HO_8.out) (zRz ho30) hb)
              replace HB := zMk (zBt (by exact uT HB.out) hb)
              clear hb ho30
              refine hK.out _ _ (HS0_) (fun hHeld => ?_)
              clear hK K
              refine norm_ (a' := ?_) ?_ ?_
              rotate_left
              · show Act.put _ (some 32) _ = _
                simp only [Act.put, zSa, zSb, zSc, i64_w, i32_w]
                rfl
              refine one_ (i := 6) (N := some 34) #[true, true, true, true, true, true, true, false, false, false] rfl rfl (one_of HT_.out (by kernel_rfl)) (by decide) (fun K hK => ?_)
              refine goes_ Tryd.func64 (by kernel_rfl) rfl #[.slice Ao27 x9_1.length co27] (by rfl) rfl rfl (by (try simp only [zMa, zMc, zMn]); first | done | rfl | (simp only [zLd, zLt]; rfl)) ?_
              with_reducible refine (r1_bits.calls k1 _ _ x9_1 t709 _ ?side1 ?side2 A19.out).mono ?_
              (case side1 => exact uC (zRr HO_9.out).2.2)
              (case side2 => exact (zRr HO_9.out).2.1)
              rintro e w31 ⟨v710, rfl, ho0, hb⟩
              have HS0_ := (hb.cell (World.block_lt_of_cell? _ _ (hHeld))).trans (hHeld)
              refine ⟨_, rfl, ?_⟩
              replace HO_1 := zMk (zRb (by exact uR HO_1.out) hb)
              replace HO_9 := zMk (zRb (by exact uR HO_9.out) hb)
              have HO711 := zMk (zRl (zRw (zRw (zRw ho0 (zRt (by exact uR HO_7.out))) (zRt (by exact uR HO_8.out))) (zRt (by exact uR HO708.out))) (zBs (by exact uT HB.out)))
              replace HO_7 := zMk (zRe (by exact uR HO_7.out) (zRz ho0) hb)
              replace HO_8 := zMk (zRe (by exact uR HO_8.out) (zRz ho0) hb)
              replace HO708 := zMk (zRe (by exact uR HO708.out) (zRz ho0) hb)
              replace HB := zMk (zBt (by exact uT HB.out) hb)
              (try clear hb)
              (try clear hb2)
              (try clear hk)
              (try clear hi)
              (try clear ho0)
              refine hK.out _ _ (HS0_) (fun hHeld => ?_)
              clear hK K
              refine norm_ (a' := ?_) ?_ ?_
              rotate_left
              · show Act.put _ (some 34) _ = _
                simp only [Act.put, zSa, zSb, zSc, i64_w, i32_w]
                rfl
              exact norm_ (by simp only [putAll, Act.put, zSa, zSb, zSc]) (hCont (v707, v710) _ ⟨hHeld, (by (with_reducible repeat (first | apply zRa | apply zRn | apply zRd)); exact zRm HO708.out (fun _ hk => ⟨hk.2, ⟨hk.1.1.2, hk.1.2⟩⟩)), (by (with_reducible repeat (first | apply zRa | apply zRn | apply zRd)); exact zRm HO711.out (fun _ hk => ⟨hk.2, ⟨hk.1.1.2, hk.1.2⟩⟩)), (by exact uR HO_1.out), (by (with_reducible repeat (first | apply zRa | apply zRn | apply zRd)); exact zRm HO_7.out (fun _ hk => ⟨hk.1.2, ⟨hk.2, hk.1.1⟩⟩)), (by (with_reducible repeat (first | apply zRa | apply zRn | apply zRd)); exact zRm HO_8.out (fun _ hk => ⟨hk.1.2, ⟨hk.2, hk.1.1⟩⟩)), (by exact uR HO_9.out), (by exact uT HB.out)⟩)
            · skip
              refine goes_ Tryd.func64 (by kernel_rfl) rfl #[.slice Ao27 x9_1.length co27] (by rfl) rfl rfl (by (try simp only [zMa, zMc, zMn]); first | done | rfl | (simp only [zLd, zLt]; rfl)) ?_
              with_reducible refine (r1_bits.calls k1 _ _ x9_1 t709 _ ?side1 ?side2 A19.out).mono ?_
              (case side1 => exact uC (zRr HO_9.out).2.2)
              (case side2 => exact (zRr HO_9.out).2.1)
              rintro e w29 ⟨v710, rfl, ho0, hb⟩
              have HS0_ := (hb.cell (World.block_lt_of_cell? _ _ (hHeld))).trans (hHeld)
              refine ⟨_, rfl, ?_⟩
              replace HO_1 := zMk (zRb (by exact uR HO_1.out) hb)
              replace HO_9 := zMk (zRb (by exact uR HO_9.out) hb)
              have HO711 := zMk (zRl (zRw (zRw ho0 (zRt (by exact uR HO_7.out))) (zRt (by exact uR HO_8.out))) (zBs (by exact uT HB.out)))
              replace HO_7 := zMk (zRe (by exact uR HO_7.out) (zRz ho0) hb)
              replace HO_8 := zMk (zRe (by exact uR HO_8.out) (zRz ho0) hb)
              replace HB := zMk (zBt (by exact uT HB.out) hb)
              (try clear hb)
              (try clear hb2)
              (try clear hk)
              (try clear hi)
              (try clear ho0)
              refine hK.out _ _ (HS0_) (fun hHeld => ?_)
              clear hK K
              refine norm_ (a' := ?_) ?_ ?_
              rotate_left
              · show Act.put _ (some 34) _ = _
                simp only [Act.put, zSa, zSb, zSc, i64_w, i32_w]
                rfl
              refine one_ (i := 4) (N := some 32) #[true, true, true, true, true, true, true, false, false, false] rfl rfl (one_of HT_.out (by kernel_rfl)) (by decide) (fun K hK => ?_)
              refine Kd.R_lit_step (Kd.int .u8) _ 5 ?hg (N := 32) ?hd (xs := ([rd t696 x10_1] : List Int)) (inner := [.int .u8 (rd t696 x10_1)]) (ok := fun _ => True) (okp := fun _ => True) ?hr ?hp (fun _ hk => hk) trivial (Below.refl _ _) (Nat.le_refl _) (by simp) ?_; (case hd => rfl); (case hg => rfl); (case hr => first | (go_simp; done) | (go_simp; rfl) | (go_simp; rw [show ∀ x : Int, IntKind.u32.wrap (IntKind.u8.wrap x) = x % 256 from fun x => (by show (x % 256) % 4294967296 = x % 256; omega)])); (case hp => exact (Reps.one (show Kd.M (Kd.int .u8) _ _ _ (rd t696 x10_1) [.int .u8 (rd t696 x10_1)] from rfl) (Reps.none _ _)))
              intro v707 w30 ho31 hb hg_ hnew_
              have HS0_ := (hb.cell (World.block_lt_of_cell? _ _ (hHeld))).trans (hHeld)
              clear hg_ hnew_
              (first | rw [← Ny706.out] at ho31 | (simp only [Int.reduceToNat] at ho31; rw [← Ny706.out] at ho31))
              replace HO_1 := zMk (zRb (by exact uR HO_1.out) hb)
              replace HO_9 := zMk (zRb (by exact uR HO_9.out) hb)
              have HO708 := zMk (zRl (zRw (zRw (zRw ho31 (zRt (by exact uR HO_7.out))) (zRt (by exact uR HO_8.out))) (zRt (by exact uR HO711.out))) (zBs (by exact uT HB.out)))
              replace HO_7 := zMk (zRe (by exact uR HO_7.out) (zRz ho31) hb)
              replace HO_8 := zMk (zRe (by exact uR HO_8.out) (zRz ho31) hb)
              replace HO711 := zMk (zRe (by exact uR HO711.out) (zRz ho31) hb)
              replace HB := zMk (zBt (by exact uT HB.out) hb)
              clear hb ho31
              refine hK.out _ _ (HS0_) (fun hHeld => ?_)
              clear hK K
              refine norm_ (a' := ?_) ?_ ?_
              rotate_left
              · show Act.put _ (some 32) _ = _
                simp only [Act.put, zSa, zSb, zSc, i64_w, i32_w]
                rfl
              exact norm_ (by simp only [putAll, Act.put, zSa, zSb, zSc]) (hCont (v707, v710) _ ⟨hHeld, (by (with_reducible repeat (first | apply zRa | apply zRn | apply zRd)); exact zRm HO708.out (fun _ hk => ⟨hk.2, ⟨hk.1.1.2, hk.1.2⟩⟩)), (by (with_reducible repeat (first | apply zRa | apply zRn | apply zRd)); exact zRm HO711.out (fun _ hk => ⟨hk.2, ⟨hk.1.1.2, hk.1.2⟩⟩)), (by exact uR HO_1.out), (by (with_reducible repeat (first | apply zRa | apply zRn | apply zRd)); exact zRm HO_7.out (fun _ hk => ⟨hk.2, ⟨hk.1.2, hk.1.1⟩⟩)), (by (with_reducible repeat (first | apply zRa | apply zRn | apply zRd)); exact zRm HO_8.out (fun _ hk => ⟨hk.2, ⟨hk.1.2, hk.1.1⟩⟩)), (by exact uR HO_9.out), (by exact uT HB.out)⟩)
          rintro ⟨v707, v710⟩ w32 ⟨hS_, h0_, h1_, h2_, h3_, h4_, h5_, h6_⟩
          have n0_ : Aside0 (Kd.R (Kd.int .u8) 5 w32 w.heap.size (fun k_ => some k_ ≠ (v710 : Value).ownBlock ∧ some k_ ≠ (.slice (some ad705) t696.length co13 : Value).ownBlock ∧ some k_ ≠ (v700 : Value).ownBlock) v707 y706) := ⟨h0_⟩
          have n1_ : Aside0 (Kd.R (Kd.int .u8) 5 w32 w.heap.size (fun k_ => some k_ ≠ (v707 : Value).ownBlock ∧ some k_ ≠ (.slice (some ad705) t696.length co13 : Value).ownBlock ∧ some k_ ≠ (v700 : Value).ownBlock) v710 t709) := ⟨h1_⟩
          have n2_ : Aside0 (Kd.R (Kd.int .u32) 58 w32 w.heap.size (fun k_ => some k_ ≠ (.slice Ao27 x9_1.length co27 : Value).ownBlock) (.slice Ao11 t693.length co11) t693) := ⟨h2_⟩
          have n3_ : Aside0 (Kd.R (Kd.int .u8) 5 w32 w.heap.size (fun k_ => some k_ ≠ (v707 : Value).ownBlock ∧ some k_ ≠ (v710 : Value).ownBlock ∧ some k_ ≠ (v700 : Value).ownBlock) (.slice (some ad705) t696.length co13) t696) := ⟨h3_⟩
          have n4_ : Aside0 (Kd.R (Kd.int .u8) 5 w32 w.heap.size (fun k_ => some k_ ≠ (v707 : Value).ownBlock ∧ some k_ ≠ (v710 : Value).ownBlock ∧ some k_ ≠ (.slice (some ad705) t696.length co13 : Value).ownBlock) v700 x8_1) := ⟨h4_⟩
          have n5_ : Aside0 (Kd.R (Kd.int .u32) 58 w32 w.heap.size (fun k_ => some k_ ≠ (.slice Ao11 t693.length co11 : Value).ownBlock) (.slice Ao27 x9_1.length co27) x9_1) := ⟨h5_⟩
          have n6_ : Aside0 (Below w.heap.size w w32) := ⟨h6_⟩
          clear HO_1 HO_7 HO_8 HO_9 HB h0_ h1_ h2_ h3_ h4_ h5_ h6_
          have HO708 := n0_
          have HO711 := n1_
          have HO_1 := n2_
          have HO_7 := n3_
          have HO_8 := n4_
          have HO_9 := n5_
          have HB := n6_
          clear n0_ n1_ n2_ n3_ n4_ n5_ n6_
          have hHeld : w32.cell? (ad705.add (x10_1).toNat) = some (.int .u8 (rd t696 x10_1)) := hS_
          obtain ⟨Ao34, co34, eo34⟩ := zRs HO711.out
          (first |  subst eo34|  (injection eo34 with f1_ f2_ f3_; have f4_ := f1_.symm; have f5_ := f3_.symm; clear f1_ f2_ f3_; subst f4_; subst f5_))
          refine norm_ (a' := ?_) ?_ ?_
          rotate_left
          · simp only [putAll, Act.put, zSa, zSb, zSc]
            rfl
          refine last_ (i := 7) (N := some 35) #[true, true, true, true, true, true, true, true, false, false] rfl rfl (one_of HT_.out (by kernel_rfl)) (by decide) (fun K hK => ?_)
          refine Kd.R_append_rows_step (Kd.int .u8) (w0 := w) w.heap.size (by rfl) (.tmp 32) (.tmp 34) 67 5 (.int .u8 0) 1 rfl Tryd.underlying67 info5 rfl (by decide) (by omega) v707 y706 t709 _ _ _ (fun k_ => some k_ ≠ (.slice (some ad705) t696.length co13 : Value).ownBlock ∧ some k_ ≠ (v700 : Value).ownBlock ∧ some k_ ≠ (.slice Ao34 t709.length co34 : Value).ownBlock) (fun _ => False) rfl rfl ?aO ?aR (fun _ _ h => h) (fun _ h => h.elim) ?aF ?aB ?aS ?aL ?_
          (case aR => exact uC (zRr HO711.out).2.2)
          (case aB => exact (by exact uT HB.out))
          (case aF => exact (fun k_ hk => ⟨Kd.fresh' (zRt (by exact uR HO_7.out)) k_ hk, Kd.fresh' (zRt (by exact uR HO_8.out)) k_ hk, Kd.fresh' (zRt (by exact uR HO711.out)) k_ hk⟩))
          (case aO => exact (by (with_reducible repeat (first | apply zRa | apply zRn | apply zRd)); exact zRm HO708.out (fun _ hk => ⟨hk.2.1, ⟨hk.2.2, hk.1⟩⟩)))
          (case aS => exact (zBs (by exact uT HB.out)))
          (case aL => have := LMc20.out; omega)
          intro v713 w33 ho hb hg hat
          rw [← Ny712.out] at ho
          replace HO_1 := zMk (Kd.R_over' (by exact uR HO_1.out) (Kd.R_typed (by exact uR HO708.out)) (by decide) hg)
          replace HO_7 := zMk (Kd.R_after (ok := (fun k_ => some k_ ≠ (v700 : Value).ownBlock ∧ some k_ ≠ (.slice Ao34 t709.length co34 : Value).ownBlock)) (by (with_reducible repeat (first | apply zRa | apply zRn | apply zRd)); exact zRm HO_7.out (fun _ hk => ⟨⟨hk.2.2, hk.2.1⟩, hk.1⟩)) hg hat)
          replace HO_8 := zMk (Kd.R_after (ok := (fun k_ => some k_ ≠ (.slice (some ad705) t696.length co13 : Value).ownBlock ∧ some k_ ≠ (.slice Ao34 t709.length co34 : Value).ownBlock)) (by (with_reducible repeat (first | apply zRa | apply zRn | apply zRd)); exact zRm HO_8.out (fun _ hk => ⟨⟨hk.2.2, hk.2.1⟩, hk.1⟩)) hg hat)
          replace HO_9 := zMk (Kd.R_over' (by exact uR HO_9.out) (Kd.R_typed (by exact uR HO708.out)) (by decide) hg)
          replace HO711 := zMk (Kd.R_after (ok := (fun k_ => some k_ ≠ (.slice (some ad705) t696.length co13 : Value).ownBlock ∧ some k_ ≠ (v700 : Value).ownBlock)) (by (with_reducible repeat (first | apply zRa | apply zRn | apply zRd)); exact zRm HO711.out (fun _ hk => ⟨⟨hk.2.1, hk.2.2⟩, hk.1⟩)) hg hat)
          replace HB := zMk (hb)
          have HO714 := zMk (ho)
          clear HO708 ho hb hg hat
          obtain ⟨adx_, ex_, hH2_⟩ := zAi (zRr HO_7.out).2.2 x10_1 (by first | assumption | exact of_eq_true (by assumption) | exact of_decide_eq_true (by assumption)) (by first | assumption | exact of_eq_true (by assumption) | exact of_decide_eq_true (by assumption))
          cases ex_
          clear hHeld
          have hHeld := hH2_
          clear hH2_
          obtain ⟨Ao35, co35, eo35⟩ := zRs HO714.out
          (first |  subst eo35|  (injection eo35 with f1_ f2_ f3_; have f4_ := f1_.symm; have f5_ := f3_.symm; clear f1_ f2_ f3_; subst f4_; subst f5_))
          refine hK.out _ _ ?_
          clear hK K
          refine norm_ (a' := ?_) ?_ ?_
          rotate_left
          · show Act.put _ (some 35) _ = _
            simp only [Act.put, zSa, zSb, zSc, i64_w, i32_w]
            rfl
          refine one_ (i := 8) (N := some 36) #[true, true, true, true, true, true, true, true, true, false] rfl rfl (one_of HT_.out (by kernel_rfl)) (by decide) (fun K hK => ?_)
          refine goes_ Tryd.func65 (by kernel_rfl) rfl #[.slice Ao35 y712.length co35] (by rfl) rfl rfl (by (try simp only [zMa, zMc, zMn]); first | done | rfl | (simp only [zLd, zLt]; rfl)) ?_
          with_reducible refine (r1_limbs.calls k1 _ _ y712 t715 _ ?side1 ?side2 A21.out).mono ?_
          (case side1 => exact uC (zRr HO714.out).2.2)
          (case side2 => exact (zRr HO714.out).2.1)
          rintro e w36 ⟨v716, rfl, ho0, hb⟩
          have HS0_ := (hb.cell (World.block_lt_of_cell? _ _ (hHeld))).trans (hHeld)
          refine ⟨_, rfl, ?_⟩
          replace HO_7 := zMk (zRb (by exact uR HO_7.out) hb)
          replace HO_8 := zMk (zRb (by exact uR HO_8.out) hb)
          replace HO711 := zMk (zRb (by exact uR HO711.out) hb)
          replace HO714 := zMk (zRb (by exact uR HO714.out) hb)
          have HO717 := zMk (zRl (zRw (zRw ho0 (zRt (by exact uR HO_1.out))) (zRt (by exact uR HO_9.out))) (zBs (by exact uT HB.out)))
          replace HO_1 := zMk (zRe (by exact uR HO_1.out) (zRz ho0) hb)
          replace HO_9 := zMk (zRe (by exact uR HO_9.out) (zRz ho0) hb)
          replace HB := zMk (zBt (by exact uT HB.out) hb)
          (try clear hb)
          (try clear hb2)
          (try clear hk)
          (try clear hi)
          (try clear ho0)
          refine hK.out _ _ (HS0_) (fun hHeld => ?_)
          clear hK K
          refine norm_ (a' := ?_) ?_ ?_
          rotate_left
          · show Act.put _ (some 36) _ = _
            simp only [Act.put, zSa, zSb, zSc, i64_w, i32_w]
            rfl
          refine pure_ (i := 9) (N := some 9) (v := ?_) (a' := ?_) #[true, true, true, true, true, true, true, true, true, true] rfl rfl (any_of HT_.out (by kernel_rfl)) (fun _ _ _ h => h) (Or.inl ⟨by rfl, ?_⟩) ?_ ?_
          rotate_left
          · intro w'
            go_simp
            with_reducible rfl
          rotate_left
          · simp only [Act.put, zSa, zSb, zSc, i64_w, i32_w]
            rfl
          refine done_ (done_of HT_.out (by kernel_rfl)) ?_
          obtain ⟨Ao37, co37, eo37⟩ := zRs HO717.out
          subst eo37
          try go_wp2_with (first |  ((with_reducible refine gate_callee (f := 42) rfl ?_); refine goesL_ (some 39) rfl rfl Tryd.func42 (by kernel_rfl) rfl #[.slice Ao37 t715.length co37, .slice Ao11 t693.length co11] rfl (by (try simp only [zMa, zMc, zMn]); first |  done|  rfl|  (simp only [zLd, zLt]; rfl)) ?_; (with_reducible refine (r1_Cmp.calls k1 _ _ t715 _ _ t693 t718 _ ?side1 ?side2 ?side3 ?side4 A22.out).mono ?_); (case side1 => exact uC (zRr HO717.out).2.2); (case side2 => exact (zRr HO717.out).2.1); (case side3 => exact uC (zRr HO_1.out).2.2); (case side4 => exact (zRr HO_1.out).2.1); rintro e w38 ⟨rfl, hb⟩; refine ⟨_, rfl, ?_⟩; replace HO_1 := zMk (zRb (by exact uR HO_1.out) hb); replace HO_7 := zMk (zRb (by exact uR HO_7.out) hb); replace HO_8 := zMk (zRb (by exact uR HO_8.out) hb); replace HO_9 := zMk (zRb (by exact uR HO_9.out) hb); replace HO711 := zMk (zRb (by exact uR HO711.out) hb); replace HO714 := zMk (zRb (by exact uR HO714.out) hb); replace HO717 := zMk (zRb (by exact uR HO717.out) hb); replace HB := zMk (zBt (by exact uT HB.out) hb); (try clear hb); (try clear hb2); (try clear hk); (try clear hi))|  ((with_reducible refine gate_callee (f := 43) rfl ?_); refine goesL_ (some 44) rfl rfl Tryd.func43 (by kernel_rfl) rfl #[.slice Ao37 t715.length co37, .slice Ao11 t693.length co11] rfl (by (try simp only [zMa, zMc, zMn]); first |  done|  rfl|  (simp only [zLd, zLt]; rfl)) ?_; (with_reducible refine (r1_Sub.calls k1 _ _ t715 _ _ t693 t719 t720 _ ?side1 ?side2 ?side3 ?side4 A24.out).mono ?_); (case side1 => exact uC (zRr HO717.out).2.2); (case side2 => exact (zRr HO717.out).2.1); (case side3 => exact uC (zRr HO_1.out).2.2); (case side4 => exact (zRr HO_1.out).2.1); rintro e w39 ⟨v721, rfl, ho0, hb⟩; refine ⟨_, rfl, ?_⟩; replace HO_7 := zMk (zRb (by exact uR HO_7.out) hb); replace HO_8 := zMk (zRb (by exact uR HO_8.out) hb); replace HO711 := zMk (zRb (by exact uR HO711.out) hb); replace HO714 := zMk (zRb (by exact uR HO714.out) hb); have HO722 := zMk (zRl (zRw (zRw (zRw ho0 (zRt (by exact uR HO_1.out))) (zRt (by exact uR HO_9.out))) (zRt (by exact uR HO717.out))) (zBs (by exact uT HB.out))); replace HO_1 := zMk (zRe (by exact uR HO_1.out) (zRz ho0) hb); replace HO_9 := zMk (zRe (by exact uR HO_9.out) (zRz ho0) hb); replace HO717 := zMk (zRe (by exact uR HO717.out) (zRz ho0) hb); replace HB := zMk (zBt (by exact uT HB.out) hb); (try clear hb); (try clear hb2); (try clear hk); (try clear hi); (try clear ho0); have p26 : 0 ≤ (x10_1 : Int) := of_decide_eq_true (by first |  (with_reducible assumption)|  assumption); have q26 : (x10_1 : Int) < ((x8_1.length : Int) : Int) := of_decide_eq_true (by first |  (with_reducible assumption)|  assumption); obtain ⟨go26, co26, eo26, gb26, gl26, cl26, HG26⟩ := Kd.R_form HO_8.out (by omega); (first |  cases eo26|  (injection eo26 with ea_ en_ ec_; (first |  subst ea_|  (injection ea_ with ea_; subst ea_)); subst ec_; clear en_)); have GB26 := zMk gb26; have IGB26 := ownGe GB26.out; have GG26 := zMk HG26; clear gb26 gl26 HG26; obtain ⟨hx26_0, hf26_0⟩ := Kd.R_celln 0 HO_8.out (x10_1 : Int) p26 q26; replace p26 := eq_true p26; replace q26 := eq_true q26; have n_ := zMk (zRm (ok' := (fun k_ => some k_ ≠ (.slice (some ad705) t696.length co13 : Value).ownBlock ∧ some k_ ≠ (.slice Ao34 t709.length co34 : Value).ownBlock ∧ some k_ ≠ (.slice Ao35 y712.length co35 : Value).ownBlock)) HO_8.out (fun k_ hk => ⟨hk.1.1, ⟨hk.1.2, hk.2⟩⟩)); clear HO_8; have HO_8 := n_; clear n_; obtain ⟨hy40_, hz40_⟩ := Kd.R_celln 0 HO_8.out (x10_1 : Int) (of_decide_eq_true (by first |  (with_reducible assumption)|  assumption)) (of_decide_eq_true (by first |  (with_reducible assumption)|  assumption)); have HP40 := Kd.R_putg HO_8.out (x10_1 : Int) 1)|  ((with_reducible refine gate_store (t := 5) (p := 49) rfl ?_); refine store_event (t := 5) (p := 49) (v := ?vo_w41) (w1 := (w39.setCell ⟨go26, (x10_1 : Int).toNat, none⟩ (.int .u8 1))) ?hg ?ho ?hn ?hr ?_; (case ho => rfl); (case hg => rfl); (case hn => rfl); (case hr => first |  (go_simp; done)|  (go_simp; rfl)|  (go_simp; rw [show ∀ x : Int, IntKind.u32.wrap (IntKind.u8.wrap x) = x % 256 from fun x => (by show (x % 256) % 4294967296 = x % 256; omega)])); intro w41 hw; have hg : w39.grownBy w41 (some go26) := (by rw [hw]; exact HP40.2); have hp_ : Kd.R (Kd.int .u8) 5 w41 w.heap.size (fun k_ => some k_ ≠ (.slice (some ad705) t696.length co13 : Value).ownBlock ∧ some k_ ≠ (.slice Ao34 t709.length co34 : Value).ownBlock ∧ some k_ ≠ (.slice Ao35 y712.length co35 : Value).ownBlock) (.slice (some ⟨go26, 0, none⟩) x8_1.length co26) y723 := (by rw [hw, Ny723.out]; exact HP40.1); clear HP40; replace HO_1 := zMk (Kd.R_over' (v := (.slice (some ⟨go26, 0, none⟩) x8_1.length co26)) (by exact uR HO_1.out) (Kd.R_typed HO_8.out) (by decide) hg); replace HO_7 := zMk (Kd.R_after (v := (.slice (some ⟨go26, 0, none⟩) x8_1.length co26)) (v1 := (.slice (some ⟨go26, 0, none⟩) x8_1.length co26)) (ok := (fun k_ => some k_ ≠ (.slice Ao34 t709.length co34 : Value).ownBlock ∧ some k_ ≠ (.slice Ao35 y712.length co35 : Value).ownBlock)) (by (with_reducible repeat (first |  apply zRa|  apply zRn|  apply zRd)); exact zRm HO_7.out (fun _ hk => ⟨⟨hk.1.2, hk.2⟩, hk.1.1⟩)) hg (.inl rfl)); replace HO_9 := zMk (Kd.R_over' (v := (.slice (some ⟨go26, 0, none⟩) x8_1.length co26)) (by exact uR HO_9.out) (Kd.R_typed HO_8.out) (by decide) hg); replace HO711 := zMk (Kd.R_after (v := (.slice (some ⟨go26, 0, none⟩) x8_1.length co26)) (v1 := (.slice (some ⟨go26, 0, none⟩) x8_1.length co26)) (ok := (fun k_ => some k_ ≠ (.slice (some ad705) t696.length co13 : Value).ownBlock ∧ some k_ ≠ (.slice Ao35 y712.length co35 : Value).ownBlock)) (by (with_reducible repeat (first |  apply zRa|  apply zRn|  apply zRd)); exact zRm HO711.out (fun _ hk => ⟨⟨hk.1.1, hk.2⟩, hk.1.2⟩)) hg (.inl rfl)); replace HO714 := zMk (Kd.R_after (v := (.slice (some ⟨go26, 0, none⟩) x8_1.length co26)) (v1 := (.slice (some ⟨go26, 0, none⟩) x8_1.length co26)) (ok := (fun k_ => some k_ ≠ (.slice (some ad705) t696.length co13 : Value).ownBlock ∧ some k_ ≠ (.slice Ao34 t709.length co34 : Value).ownBlock)) (by (with_reducible repeat (first |  apply zRa|  apply zRn|  apply zRd)); exact zRm HO714.out (fun _ hk => ⟨⟨hk.1, hk.2.2⟩, hk.2.1⟩)) hg (.inl rfl)); replace HO717 := zMk (Kd.R_over' (v := (.slice (some ⟨go26, 0, none⟩) x8_1.length co26)) (by exact uR HO717.out) (Kd.R_typed HO_8.out) (by decide) hg); replace HO722 := zMk (Kd.R_over' (v := (.slice (some ⟨go26, 0, none⟩) x8_1.length co26)) (by exact uR HO722.out) (Kd.R_typed HO_8.out) (by decide) hg); replace HO_8 := zMk (hp_); replace HB := zMk ((by rw [hw]; exact below_set (HB.out) GB26.out : Below w.heap.size w w41)); clear hg hw hp_))
          go_roundg k1
          case measure => have := HK1.out; omega
          case rel => exact ⟨(y723), (t719), (wrap64 (x10_1 - 1)), (by first | rfl | (simp; done) | (simp [*]; done)), H', ⟨by have := HK1.out; omega⟩, ⟨by (with_reducible repeat (first | apply zRa | apply zRn | apply zRd)); exact zRm HO_1.out (fun _ hk => hk.2)⟩, ⟨by (with_reducible repeat (first | apply zRa | apply zRn | apply zRd)); exact zRm HO_7.out (fun _ hk => hk.2)⟩, ⟨by (with_reducible repeat (first | apply zRa | apply zRn | apply zRd)); exact zRm HO_8.out (fun _ hk => hk.1)⟩, ⟨by (with_reducible repeat (first | apply zRa | apply zRn | apply zRd)); exact zRm HO722.out (fun _ hk => hk.1.1.2)⟩, ⟨by exact uT HB.out⟩⟩
        · rw [if_neg c23] at H
          have c23b0 : decide (0 ≤ t718) = false := decide_eq_false c23
          clear c23
          have H' := zMk H
          clear H
          obtain ⟨Ao42, co42, eo42⟩ := zRs HO_9.out
          subst eo42
          try go_wp2
          replace HO_1 := zMk (zRd HO_1.out)
          replace HO_7 := zMk (zRd HO_7.out)
          replace HO_8 := zMk (zRd HO_8.out)
          replace HO_9 := zMk (zRd HO_9.out)
          replace HB := zMk (zBd HB.out)
          have p705 : 0 ≤ (x10_1 : Int) := of_decide_eq_true (by first | (with_reducible assumption) | assumption)
          have q705 : x10_1 < (t696.length : Int) := of_decide_eq_true (by first | (with_reducible assumption) | assumption)
          obtain ⟨ad705, e705, hx705_0⟩ := zAi (zRr HO_7.out).2.2 x10_1 p705 q705
          cases e705
          replace p705 := eq_true p705
          replace q705 := eq_true q705
          refine start_ (n := 10) (S := fun w' => w'.cell? (ad705.add (x10_1).toNat) = some (.int .u8 (rd t696 x10_1))) (ds := [7]) #[false, false, false, false, false, false, false, false, false, false] (by kernel_rfl) rfl rfl (hx705_0) (fun hHeld => ?_); refine with_tabW r1_DivMod.tab10 r1_DivMod.bits10 (fun HT_ HW_ => ?_)
          generalize wr.drew = w43 at HO_1 HO_7 HO_8 HO_9 HB hx705_0 hHeld ⊢
          refine pure_ (i := 0) (N := some 28) (v := ?_) (a' := ?_) #[true, false, false, false, false, false, false, false, false, false] rfl rfl (any_of HT_.out (by kernel_rfl)) (fun _ _ _ h => h) (Or.inl ⟨by rfl, ?_⟩) ?_ ?_
          rotate_left
          · intro w'
            go_simp
            with_reducible rfl
          rotate_left
          · simp only [Act.put, zSa, zSb, zSc, i64_w, i32_w]
            rfl
          refine pure_ (i := 1) (N := some 29) (v := ?_) (a' := ?_) #[true, true, false, false, false, false, false, false, false, false] rfl rfl (any_of HT_.out (by kernel_rfl)) (fun _ _ _ h => h) (Or.inl ⟨by rfl, ?_⟩) ?_ ?_
          rotate_left
          · intro w'
            go_simp
            with_reducible rfl
          rotate_left
          · simp only [Act.put, zSa, zSb, zSc, i64_w, i32_w]
            rfl
          refine pure_ (i := 2) (N := some 30) (v := ?_) (a' := ?_) #[true, true, true, false, false, false, false, false, false, false] rfl rfl (any_of HT_.out (by kernel_rfl)) (fun _ _ _ h => h) (Or.inl ⟨by rfl, ?_⟩) ?_ ?_
          rotate_left
          · intro w'
            go_simp
            with_reducible rfl
          rotate_left
          · simp only [Act.put, zSa, zSb, zSc, i64_w, i32_w]
            rfl
          refine pure_ (i := 5) (N := some 33) (v := ?_) (a' := ?_) #[true, true, true, false, false, true, false, false, false, false] rfl rfl (any_of HT_.out (by kernel_rfl)) (fun _ _ _ h => h) (Or.inl ⟨by rfl, ?_⟩) ?_ ?_
          rotate_left
          · intro w'
            go_simp
            with_reducible rfl
          rotate_left
          · simp only [Act.put, zSa, zSb, zSc, i64_w, i32_w]
            rfl
          refine take_ (i := 3) (N := some 31) (v := ?_) (a' := ?_) #[true, true, true, true, false, true, false, false, false, false] rfl rfl (take_ofW HT_.out HW_.out (by kernel_rfl)) (fun _ _ _ h => h) (Or.inl ⟨by rfl, ?_⟩) hHeld ?_ ?_
          rotate_left
          · intro w' s0
            go_simp
            with_reducible rfl
          rotate_left
          · simp only [Act.put, zSa, zSb, zSc, i64_w, i32_w]
            rfl
          refine join_ (σ := Value × Value) 3 #[true, true, true, true, true, true, true, false, false, false] (fun s_ => [(32, s_.1), (34, s_.2)]) (fun s_ w' => (w'.cell? (ad705.add (x10_1).toNat) = some (.int .u8 (rd t696 x10_1))) ∧ (Kd.R (Kd.int .u8) 5 w' w.heap.size (fun k_ => some k_ ≠ (s_.2 : Value).ownBlock ∧ some k_ ≠ (.slice (some ad705) t696.length co13 : Value).ownBlock ∧ some k_ ≠ (v700 : Value).ownBlock) s_.1 y706) ∧ (Kd.R (Kd.int .u8) 5 w' w.heap.size (fun k_ => some k_ ≠ (s_.1 : Value).ownBlock ∧ some k_ ≠ (.slice (some ad705) t696.length co13 : Value).ownBlock ∧ some k_ ≠ (v700 : Value).ownBlock) s_.2 t709) ∧ (Kd.R (Kd.int .u32) 58 w' w.heap.size (fun k_ => some k_ ≠ (.slice Ao42 x9_1.length co42 : Value).ownBlock) (.slice Ao11 t693.length co11) t693) ∧ (Kd.R (Kd.int .u8) 5 w' w.heap.size (fun k_ => some k_ ≠ (s_.1 : Value).ownBlock ∧ some k_ ≠ (s_.2 : Value).ownBlock ∧ some k_ ≠ (v700 : Value).ownBlock) (.slice (some ad705) t696.length co13) t696) ∧ (Kd.R (Kd.int .u8) 5 w' w.heap.size (fun k_ => some k_ ≠ (s_.1 : Value).ownBlock ∧ some k_ ≠ (s_.2 : Value).ownBlock ∧ some k_ ≠ (.slice (some ad705) t696.length co13 : Value).ownBlock) v700 x8_1) ∧ (Kd.R (Kd.int .u32) 58 w' w.heap.size (fun k_ => some k_ ≠ (.slice Ao11 t693.length co11 : Value).ownBlock) (.slice Ao42 x9_1.length co42) x9_1) ∧ (Below w.heap.size w w')) ?_ ?_
          rotate_left
          · intro hCont
            refine two_ (i := 4) (j := 6) (Ni := some 32) (Nj := some 34) #[true, true, true, true, true, true, false, false, false, false] #[true, true, true, true, false, true, true, false, false, false] rfl rfl rfl rfl (two_of HT_.out (by kernel_rfl)) (by decide) (by decide) (fun K hK => ?_) (fun K hK => ?_)
            · skip
              refine Kd.R_lit_step (Kd.int .u8) _ 5 ?hg (N := 32) ?hd (xs := ([rd t696 x10_1] : List Int)) (inner := [.int .u8 (rd t696 x10_1)]) (ok := fun _ => True) (okp := fun _ => True) ?hr ?hp (fun _ hk => hk) trivial (Below.refl _ _) (Nat.le_refl _) (by simp) ?_; (case hd => rfl); (case hg => rfl); (case hr => first | (go_simp; done) | (go_simp; rfl) | (go_simp; rw [show ∀ x : Int, IntKind.u32.wrap (IntKind.u8.wrap x) = x % 256 from fun x => (by show (x % 256) % 4294967296 = x % 256; omega)])); (case hp => exact (Reps.one (show Kd.M (Kd.int .u8) _ _ _ (rd t696 x10_1) [.int .u8 (rd t696 x10_1)] from rfl) (Reps.none _ _)))
              intro v707 w44 ho45 hb hg_ hnew_
              have HS0_ := (hb.cell (World.block_lt_of_cell? _ _ (hHeld))).trans (hHeld)
              clear hg_ hnew_
              (first | rw [← Ny706.out] at ho45 | (simp only [Int.reduceToNat] at ho45; rw [← Ny706.out] at ho45))
              replace HO_1 := zMk (zRb (by exact uR HO_1.out) hb)
              replace HO_9 := zMk (zRb (by exact uR HO_9.out) hb)
              have HO708 := zMk (zRl (zRw (zRw ho45 (zRt (by exact uR HO_7.out))) (zRt (by exact uR HO_8.out))) (zBs (by exact uT HB.out)))
              replace HO_7 := zMk (zRe (by exact uR HO_7.out) (zRz ho45) hb)
              replace HO_8 := zMk (zRe (by exact uR HO_8.out) (zRz ho45) hb)
              replace HB := zMk (zBt (by exact uT HB.out) hb)
              clear hb ho45
              refine hK.out _ _ (HS0_) (fun hHeld => ?_)
              clear hK K
              refine norm_ (a' := ?_) ?_ ?_
              rotate_left
              · show Act.put _ (some 32) _ = _
                simp only [Act.put, zSa, zSb, zSc, i64_w, i32_w]
                rfl
              refine one_ (i := 6) (N := some 34) #[true, true, true, true, true, true, true, false, false, false] rfl rfl (one_of HT_.out (by kernel_rfl)) (by decide) (fun K hK => ?_)
              refine goes_ Tryd.func64 (by kernel_rfl) rfl #[.slice Ao42 x9_1.length co42] (by rfl) rfl rfl (by (try simp only [zMa, zMc, zMn]); first | done | rfl | (simp only [zLd, zLt]; rfl)) ?_
              with_reducible refine (r1_bits.calls k1 _ _ x9_1 t709 _ ?side1 ?side2 A19.out).mono ?_
              (case side1 => exact uC (zRr HO_9.out).2.2)
              (case side2 => exact (zRr HO_9.out).2.1)
              rintro e w46 ⟨v710, rfl, ho0, hb⟩
              have HS0_ := (hb.cell (World.block_lt_of_cell? _ _ (hHeld))).trans (hHeld)
              refine ⟨_, rfl, ?_⟩
              replace HO_1 := zMk (zRb (by exact uR HO_1.out) hb)
              replace HO_9 := zMk (zRb (by exact uR HO_9.out) hb)
              have HO711 := zMk (zRl (zRw (zRw (zRw ho0 (zRt (by exact uR HO_7.out))) (zRt (by exact uR HO_8.out))) (zRt (by exact uR HO708.out))) (zBs (by exact uT HB.out)))
              replace HO_7 := zMk (zRe (by exact uR HO_7.out) (zRz ho0) hb)
              replace HO_8 := zMk (zRe (by exact uR HO_8.out) (zRz ho0) hb)
              replace HO708 := zMk (zRe (by exact uR HO708.out) (zRz ho0) hb)
              replace HB := zMk (zBt (by exact uT HB.out) hb)
              (try clear hb)
              (try clear hb2)
              (try clear hk)
              (try clear hi)
              (try clear ho0)
              refine hK.out _ _ (HS0_) (fun hHeld => ?_)
              clear hK K
              refine norm_ (a' := ?_) ?_ ?_
              rotate_left
              · show Act.put _ (some 34) _ = _
                simp only [Act.put, zSa, zSb, zSc, i64_w, i32_w]
                rfl
              exact norm_ (by simp only [putAll, Act.put, zSa, zSb, zSc]) (hCont (v707, v710) _ ⟨hHeld, (by (with_reducible repeat (first | apply zRa | apply zRn | apply zRd)); exact zRm HO708.out (fun _ hk => ⟨hk.2, ⟨hk.1.1.2, hk.1.2⟩⟩)), (by (with_reducible repeat (first | apply zRa | apply zRn | apply zRd)); exact zRm HO711.out (fun _ hk => ⟨hk.2, ⟨hk.1.1.2, hk.1.2⟩⟩)), (by exact uR HO_1.out), (by (with_reducible repeat (first | apply zRa | apply zRn | apply zRd)); exact zRm HO_7.out (fun _ hk => ⟨hk.1.2, ⟨hk.2, hk.1.1⟩⟩)), (by (with_reducible repeat (first | apply zRa | apply zRn | apply zRd)); exact zRm HO_8.out (fun _ hk => ⟨hk.1.2, ⟨hk.2, hk.1.1⟩⟩)), (by exact uR HO_9.out), (by exact uT HB.out)⟩)
            · skip
              refine goes_ Tryd.func64 (by kernel_rfl) rfl #[.slice Ao42 x9_1.length co42] (by rfl) rfl rfl (by (try simp only [zMa, zMc, zMn]); first | done | rfl | (simp only [zLd, zLt]; rfl)) ?_
              with_reducible refine (r1_bits.calls k1 _ _ x9_1 t709 _ ?side1 ?side2 A19.out).mono ?_
              (case side1 => exact uC (zRr HO_9.out).2.2)
              (case side2 => exact (zRr HO_9.out).2.1)
              rintro e w44 ⟨v710, rfl, ho0, hb⟩
              have HS0_ := (hb.cell (World.block_lt_of_cell? _ _ (hHeld))).trans (hHeld)
              refine ⟨_, rfl, ?_⟩
              replace HO_1 := zMk (zRb (by exact uR HO_1.out) hb)
              replace HO_9 := zMk (zRb (by exact uR HO_9.out) hb)
              have HO711 := zMk (zRl (zRw (zRw ho0 (zRt (by exact uR HO_7.out))) (zRt (by exact uR HO_8.out))) (zBs (by exact uT HB.out)))
              replace HO_7 := zMk (zRe (by exact uR HO_7.out) (zRz ho0) hb)
              replace HO_8 := zMk (zRe (by exact uR HO_8.out) (zRz ho0) hb)
              replace HB := zMk (zBt (by exact uT HB.out) hb)
              (try clear hb)
              (try clear hb2)
              (try clear hk)
              (try clear hi)
              (try clear ho0)
              refine hK.out _ _ (HS0_) (fun hHeld => ?_)
              clear hK K
              refine norm_ (a' := ?_) ?_ ?_
              rotate_left
              · show Act.put _ (some 34) _ = _
                simp only [Act.put, zSa, zSb, zSc, i64_w, i32_w]
                rfl
              refine one_ (i := 4) (N := some 32) #[true, true, true, true, true, true, true, false, false, false] rfl rfl (one_of HT_.out (by kernel_rfl)) (by decide) (fun K hK => ?_)
              refine Kd.R_lit_step (Kd.int .u8) _ 5 ?hg (N := 32) ?hd (xs := ([rd t696 x10_1] : List Int)) (inner := [.int .u8 (rd t696 x10_1)]) (ok := fun _ => True) (okp := fun _ => True) ?hr ?hp (fun _ hk => hk) trivial (Below.refl _ _) (Nat.le_refl _) (by simp) ?_; (case hd => rfl); (case hg => rfl); (case hr => first | (go_simp; done) | (go_simp; rfl) | (go_simp; rw [show ∀ x : Int, IntKind.u32.wrap (IntKind.u8.wrap x) = x % 256 from fun x => (by show (x % 256) % 4294967296 = x % 256; omega)])); (case hp => exact (Reps.one (show Kd.M (Kd.int .u8) _ _ _ (rd t696 x10_1) [.int .u8 (rd t696 x10_1)] from rfl) (Reps.none _ _)))
              intro v707 w45 ho46 hb hg_ hnew_
              have HS0_ := (hb.cell (World.block_lt_of_cell? _ _ (hHeld))).trans (hHeld)
              clear hg_ hnew_
              (first | rw [← Ny706.out] at ho46 | (simp only [Int.reduceToNat] at ho46; rw [← Ny706.out] at ho46))
              replace HO_1 := zMk (zRb (by exact uR HO_1.out) hb)
              replace HO_9 := zMk (zRb (by exact uR HO_9.out) hb)
              have HO708 := zMk (zRl (zRw (zRw (zRw ho46 (zRt (by exact uR HO_7.out))) (zRt (by exact uR HO_8.out))) (zRt (by exact uR HO711.out))) (zBs (by exact uT HB.out)))
              replace HO_7 := zMk (zRe (by exact uR HO_7.out) (zRz ho46) hb)
              replace HO_8 := zMk (zRe (by exact uR HO_8.out) (zRz ho46) hb)
              replace HO711 := zMk (zRe (by exact uR HO711.out) (zRz ho46) hb)
              replace HB := zMk (zBt (by exact uT HB.out) hb)
              clear hb ho46
              refine hK.out _ _ (HS0_) (fun hHeld => ?_)
              clear hK K
              refine norm_ (a' := ?_) ?_ ?_
              rotate_left
              · show Act.put _ (some 32) _ = _
                simp only [Act.put, zSa, zSb, zSc, i64_w, i32_w]
                rfl
              exact norm_ (by simp only [putAll, Act.put, zSa, zSb, zSc]) (hCont (v707, v710) _ ⟨hHeld, (by (with_reducible repeat (first | apply zRa | apply zRn | apply zRd)); exact zRm HO708.out (fun _ hk => ⟨hk.2, ⟨hk.1.1.2, hk.1.2⟩⟩)), (by (with_reducible repeat (first | apply zRa | apply zRn | apply zRd)); exact zRm HO711.out (fun _ hk => ⟨hk.2, ⟨hk.1.1.2, hk.1.2⟩⟩)), (by exact uR HO_1.out), (by (with_reducible repeat (first | apply zRa | apply zRn | apply zRd)); exact zRm HO_7.out (fun _ hk => ⟨hk.2, ⟨hk.1.2, hk.1.1⟩⟩)), (by (with_reducible repeat (first | apply zRa | apply zRn | apply zRd)); exact zRm HO_8.out (fun _ hk => ⟨hk.2, ⟨hk.1.2, hk.1.1⟩⟩)), (by exact uR HO_9.out), (by exact uT HB.out)⟩)
          rintro ⟨v707, v710⟩ w47 ⟨hS_, h0_, h1_, h2_, h3_, h4_, h5_, h6_⟩
          have n0_ : Aside0 (Kd.R (Kd.int .u8) 5 w47 w.heap.size (fun k_ => some k_ ≠ (v710 : Value).ownBlock ∧ some k_ ≠ (.slice (some ad705) t696.length co13 : Value).ownBlock ∧ some k_ ≠ (v700 : Value).ownBlock) v707 y706) := ⟨h0_⟩
          have n1_ : Aside0 (Kd.R (Kd.int .u8) 5 w47 w.heap.size (fun k_ => some k_ ≠ (v707 : Value).ownBlock ∧ some k_ ≠ (.slice (some ad705) t696.length co13 : Value).ownBlock ∧ some k_ ≠ (v700 : Value).ownBlock) v710 t709) := ⟨h1_⟩
          have n2_ : Aside0 (Kd.R (Kd.int .u32) 58 w47 w.heap.size (fun k_ => some k_ ≠ (.slice Ao42 x9_1.length co42 : Value).ownBlock) (.slice Ao11 t693.length co11) t693) := ⟨h2_⟩
          have n3_ : Aside0 (Kd.R (Kd.int .u8) 5 w47 w.heap.size (fun k_ => some k_ ≠ (v707 : Value).ownBlock ∧ some k_ ≠ (v710 : Value).ownBlock ∧ some k_ ≠ (v700 : Value).ownBlock) (.slice (some ad705) t696.length co13) t696) := ⟨h3_⟩
          have n4_ : Aside0 (Kd.R (Kd.int .u8) 5 w47 w.heap.size (fun k_ => some k_ ≠ (v707 : Value).ownBlock ∧ some k_ ≠ (v710 : Value).ownBlock ∧ some k_ ≠ (.slice (some ad705) t696.length co13 : Value).ownBlock) v700 x8_1) := ⟨h4_⟩
          have n5_ : Aside0 (Kd.R (Kd.int .u32) 58 w47 w.heap.size (fun k_ => some k_ ≠ (.slice Ao11 t693.length co11 : Value).ownBlock) (.slice Ao42 x9_1.length co42) x9_1) := ⟨h5_⟩
          have n6_ : Aside0 (Below w.heap.size w w47) := ⟨h6_⟩
          clear HO_1 HO_7 HO_8 HO_9 HB h0_ h1_ h2_ h3_ h4_ h5_ h6_
          have HO708 := n0_
          have HO711 := n1_
          have HO_1 := n2_
          have HO_7 := n3_
          have HO_8 := n4_
          have HO_9 := n5_
          have HB := n6_
          clear n0_ n1_ n2_ n3_ n4_ n5_ n6_
          have hHeld : w47.cell? (ad705.add (x10_1).toNat) = some (.int .u8 (rd t696 x10_1)) := hS_
          obtain ⟨Ao49, co49, eo49⟩ := zRs HO711.out
          (first |  subst eo49|  (injection eo49 with f1_ f2_ f3_; have f4_ := f1_.symm; have f5_ := f3_.symm; clear f1_ f2_ f3_; subst f4_; subst f5_))
          refine norm_ (a' := ?_) ?_ ?_
          rotate_left
          · simp only [putAll, Act.put, zSa, zSb, zSc]
            rfl
          refine last_ (i := 7) (N := some 35) #[true, true, true, true, true, true, true, true, false, false] rfl rfl (one_of HT_.out (by kernel_rfl)) (by decide) (fun K hK => ?_)
          refine Kd.R_append_rows_step (Kd.int .u8) (w0 := w) w.heap.size (by rfl) (.tmp 32) (.tmp 34) 67 5 (.int .u8 0) 1 rfl Tryd.underlying67 info5 rfl (by decide) (by omega) v707 y706 t709 _ _ _ (fun k_ => some k_ ≠ (.slice (some ad705) t696.length co13 : Value).ownBlock ∧ some k_ ≠ (v700 : Value).ownBlock ∧ some k_ ≠ (.slice Ao49 t709.length co49 : Value).ownBlock) (fun _ => False) rfl rfl ?aO ?aR (fun _ _ h => h) (fun _ h => h.elim) ?aF ?aB ?aS ?aL ?_
          (case aR => exact uC (zRr HO711.out).2.2)
          (case aB => exact (by exact uT HB.out))
          (case aF => exact (fun k_ hk => ⟨Kd.fresh' (zRt (by exact uR HO_7.out)) k_ hk, Kd.fresh' (zRt (by exact uR HO_8.out)) k_ hk, Kd.fresh' (zRt (by exact uR HO711.out)) k_ hk⟩))
          (case aO => exact (by (with_reducible repeat (first | apply zRa | apply zRn | apply zRd)); exact zRm HO708.out (fun _ hk => ⟨hk.2.1, ⟨hk.2.2, hk.1⟩⟩)))
          (case aS => exact (zBs (by exact uT HB.out)))
          (case aL => have := LMc20.out; omega)
          intro v713 w48 ho hb hg hat
          rw [← Ny712.out] at ho
          replace HO_1 := zMk (Kd.R_over' (by exact uR HO_1.out) (Kd.R_typed (by exact uR HO708.out)) (by decide) hg)
          replace HO_7 := zMk (Kd.R_after (ok := (fun k_ => some k_ ≠ (v700 : Value).ownBlock ∧ some k_ ≠ (.slice Ao49 t709.length co49 : Value).ownBlock)) (by (with_reducible repeat (first | apply zRa | apply zRn | apply zRd)); exact zRm HO_7.out (fun _ hk => ⟨⟨hk.2.2, hk.2.1⟩, hk.1⟩)) hg hat)
          replace HO_8 := zMk (Kd.R_after (ok := (fun k_ => some k_ ≠ (.slice (some ad705) t696.length co13 : Value).ownBlock ∧ some k_ ≠ (.slice Ao49 t709.length co49 : Value).ownBlock)) (by (with_reducible repeat (first | apply zRa | apply zRn | apply zRd)); exact zRm HO_8.out (fun _ hk => ⟨⟨hk.2.2, hk.2.1⟩, hk.1⟩)) hg hat)
          replace HO_9 := zMk (Kd.R_over' (by exact uR HO_9.out) (Kd.R_typed (by exact uR HO708.out)) (by decide) hg)
          replace HO711 := zMk (Kd.R_after (ok := (fun k_ => some k_ ≠ (.slice (some ad705) t696.length co13 : Value).ownBlock ∧ some k_ ≠ (v700 : Value).ownBlock)) (by (with_reducible repeat (first | apply zRa | apply zRn | apply zRd)); exact zRm HO711.out (fun _ hk => ⟨⟨hk.2.1, hk.2.2⟩, hk.1⟩)) hg hat)
          replace HB := zMk (hb)
          have HO714 := zMk (ho)
          clear HO708 ho hb hg hat
          obtain ⟨adx_, ex_, hH2_⟩ := zAi (zRr HO_7.out).2.2 x10_1 (by first | assumption | exact of_eq_true (by assumption) | exact of_decide_eq_true (by assumption)) (by first | assumption | exact of_eq_true (by assumption) | exact of_decide_eq_true (by assumption))
          cases ex_
          clear hHeld
          have hHeld := hH2_
          clear hH2_
          obtain ⟨Ao50, co50, eo50⟩ := zRs HO714.out
          (first |  subst eo50|  (injection eo50 with f1_ f2_ f3_; have f4_ := f1_.symm; have f5_ := f3_.symm; clear f1_ f2_ f3_; subst f4_; subst f5_))
          refine hK.out _ _ ?_
          clear hK K
          refine norm_ (a' := ?_) ?_ ?_
          rotate_left
          · show Act.put _ (some 35) _ = _
            simp only [Act.put, zSa, zSb, zSc, i64_w, i32_w]
            rfl
          refine one_ (i := 8) (N := some 36) #[true, true, true, true, true, true, true, true, true, false] rfl rfl (one_of HT_.out (by kernel_rfl)) (by decide) (fun K hK => ?_)
          refine goes_ Tryd.func65 (by kernel_rfl) rfl #[.slice Ao50 y712.length co50] (by rfl) rfl rfl (by (try simp only [zMa, zMc, zMn]); first | done | rfl | (simp only [zLd, zLt]; rfl)) ?_
          with_reducible refine (r1_limbs.calls k1 _ _ y712 t715 _ ?side1 ?side2 A21.out).mono ?_
          (case side1 => exact uC (zRr HO714.out).2.2)
          (case side2 => exact (zRr HO714.out).2.1)
          rintro e w51 ⟨v716, rfl, ho0, hb⟩
          have HS0_ := (hb.cell (World.block_lt_of_cell? _ _ (hHeld))).trans (hHeld)
          refine ⟨_, rfl, ?_⟩
          replace HO_7 := zMk (zRb (by exact uR HO_7.out) hb)
          replace HO_8 := zMk (zRb (by exact uR HO_8.out) hb)
          replace HO711 := zMk (zRb (by exact uR HO711.out) hb)
          replace HO714 := zMk (zRb (by exact uR HO714.out) hb)
          have HO717 := zMk (zRl (zRw (zRw ho0 (zRt (by exact uR HO_1.out))) (zRt (by exact uR HO_9.out))) (zBs (by exact uT HB.out)))
          replace HO_1 := zMk (zRe (by exact uR HO_1.out) (zRz ho0) hb)
          replace HO_9 := zMk (zRe (by exact uR HO_9.out) (zRz ho0) hb)
          replace HB := zMk (zBt (by exact uT HB.out) hb)
          (try clear hb)
          (try clear hb2)
          (try clear hk)
          (try clear hi)
          (try clear ho0)
          refine hK.out _ _ (HS0_) (fun hHeld => ?_)
          clear hK K
          refine norm_ (a' := ?_) ?_ ?_
          rotate_left
          · show Act.put _ (some 36) _ = _
            simp only [Act.put, zSa, zSb, zSc, i64_w, i32_w]
            rfl
          refine pure_ (i := 9) (N := some 9) (v := ?_) (a' := ?_) #[true, true, true, true, true, true, true, true, true, true] rfl rfl (any_of HT_.out (by kernel_rfl)) (fun _ _ _ h => h) (Or.inl ⟨by rfl, ?_⟩) ?_ ?_
          rotate_left
          · intro w'
            go_simp
            with_reducible rfl
          rotate_left
          · simp only [Act.put, zSa, zSb, zSc, i64_w, i32_w]
            rfl
          refine done_ (done_of HT_.out (by kernel_rfl)) ?_
          obtain ⟨Ao52, co52, eo52⟩ := zRs HO717.out
          subst eo52
          try go_wp2_with (first |  ((with_reducible refine gate_callee (f := 42) rfl ?_); refine goesL_ (some 39) rfl rfl Tryd.func42 (by kernel_rfl) rfl #[.slice Ao52 t715.length co52, .slice Ao11 t693.length co11] rfl (by (try simp only [zMa, zMc, zMn]); first |  done|  rfl|  (simp only [zLd, zLt]; rfl)) ?_; (with_reducible refine (r1_Cmp.calls k1 _ _ t715 _ _ t693 t718 _ ?side1 ?side2 ?side3 ?side4 A22.out).mono ?_); (case side1 => exact uC (zRr HO717.out).2.2); (case side2 => exact (zRr HO717.out).2.1); (case side3 => exact uC (zRr HO_1.out).2.2); (case side4 => exact (zRr HO_1.out).2.1); rintro e w53 ⟨rfl, hb⟩; refine ⟨_, rfl, ?_⟩; replace HO_1 := zMk (zRb (by exact uR HO_1.out) hb); replace HO_7 := zMk (zRb (by exact uR HO_7.out) hb); replace HO_8 := zMk (zRb (by exact uR HO_8.out) hb); replace HO_9 := zMk (zRb (by exact uR HO_9.out) hb); replace HO711 := zMk (zRb (by exact uR HO711.out) hb); replace HO714 := zMk (zRb (by exact uR HO714.out) hb); replace HO717 := zMk (zRb (by exact uR HO717.out) hb); replace HB := zMk (zBt (by exact uT HB.out) hb); (try clear hb); (try clear hb2); (try clear hk); (try clear hi)))
          go_roundg k1
          case measure => have := HK1.out; omega
          case rel => exact ⟨(x8_1), (t715), (wrap64 (x10_1 - 1)), (by first | rfl | (simp; done) | (simp [*]; done)), H', ⟨by have := HK1.out; omega⟩, ⟨by (with_reducible repeat (first | apply zRa | apply zRn | apply zRd)); exact zRm HO_1.out (fun _ hk => hk.2)⟩, ⟨by (with_reducible repeat (first | apply zRa | apply zRn | apply zRd)); exact zRm HO_7.out (fun _ hk => hk.1.1)⟩, ⟨by (with_reducible repeat (first | apply zRa | apply zRn | apply zRd)); exact zRm HO_8.out (fun _ hk => hk.1.1)⟩, ⟨by (with_reducible repeat (first | apply zRa | apply zRn | apply zRd)); exact zRm HO717.out (fun _ hk => hk.1.2)⟩, ⟨by exact uT HB.out⟩⟩
      · rw [if_neg c16] at H
        have c16b0 : decide (0 ≤ x10_1) = false := decide_eq_false c16
        clear c16
        replace H := bnd H
        obtain ⟨t702, A540, H⟩ := H
        have A54 := zMk A540
        clear A540
        simp only [Option.some.injEq, Prod.mk.injEq] at H
        obtain ⟨rfl, rfl, rfl⟩ := H
        obtain ⟨Ao55, co55, eo55⟩ := zRs HO_8.out
        subst eo55
        go_wp2_with (first |  ((with_reducible refine gate_callee (f := 65) rfl ?_); refine goesL_ (some 51) rfl rfl Tryd.func65 (by kernel_rfl) rfl #[.slice Ao55 x8_1.length co55] rfl (by (try simp only [zMa, zMc, zMn]); first |  done|  rfl|  (simp only [zLd, zLt]; rfl)) ?_; (with_reducible refine (r1_limbs.calls k1 _ _ x8_1 t702 _ ?side1 ?side2 A54.out).mono ?_); (case side1 => exact uC (zRr HO_8.out).2.2); (case side2 => exact (zRr HO_8.out).2.1); rintro e w56 ⟨v703, rfl, ho0, hb⟩; refine ⟨_, rfl, ?_⟩; replace HO_7 := zMk (zRb (by exact uR HO_7.out) hb); replace HO_8 := zMk (zRb (by exact uR HO_8.out) hb); have HO704 := zMk (zRl (zRw (zRw ho0 (zRt (by exact uR HO_1.out))) (zRt (by exact uR HO_9.out))) (zBs (by exact uT HB.out))); replace HO_1 := zMk (zRe (by exact uR HO_1.out) (zRz ho0) hb); replace HO_9 := zMk (zRe (by exact uR HO_9.out) (zRz ho0) hb); replace HB := zMk (zBt (by exact uT HB.out) hb); (try clear hb); (try clear hb2); (try clear hk); (try clear hi); (try clear ho0)))
        go_ret3
        exact ⟨_, _, by first | rfl | (simp [errW_none, errW_some] <;> rfl) | (simp [*, errW_none, errW_some] <;> rfl), by (with_reducible repeat (first | apply zRa | apply zRn | apply zRd)); exact zRm HO704.out (fun _ hk => hk.2), by (with_reducible repeat (first | apply zRa | apply zRn | apply zRd)); exact zRm HO_9.out (fun _ hk => hk.2), by exact uT HB.out⟩
    · rw [if_neg c8] at H
      exact absurd H (by simp)


def r1_Text.l0 : Nat → List Int → List Int → Option (ByteArray)
  | 0, _, _ => none
  | k + 1, x0, x3 => if (x0.length : Int) > 0 then ((r1_DivMod.f k x0 (([10] : List Int))).bind fun bt1125 => (if (bt1125.2.1.length : Int) > 0 then (if 0 < (bt1125.2.1.length : Int) then ((some (([(48 + ((rd bt1125.2.1 0) % 256)) % 256] : List Int) : List Int)).bind fun y1133 => (if y1133.length + x3.length < 140737488355328 then (r1_Text.l0 k bt1125.1 (y1133 ++ x3)) else (none))) else (none)) else ((some (([48] : List Int) : List Int)).bind fun y1139 => (if y1139.length + x3.length < 140737488355328 then (r1_Text.l0 k bt1125.1 (y1139 ++ x3)) else (none))))) else (some (strOfNums x3))
def r1_Text.f (k : Nat) (l0 : List Int) : Option (ByteArray) := (r1_Norm.f k l0).bind fun t1119 => (if (t1119.length : Int) = 0 then (some (⟨#[48]⟩ : ByteArray)) else (r1_Text.l0 k t1119 ([] : List Int)))
set_option maxHeartbeats 8000000 in
set_option maxRecDepth 100000 in
theorem r1_Text.calls (k : Nat) (A0 : Option Addr) (c0 : Nat) (l0 : List Int) (r : ByteArray) (w : World) (hr0 : Kd.C (Kd.int .u32) w A0 l0.length l0) (hc0 : l0.length ≤ c0) (h : r1_Text.f k l0 = some r) :
    Calls Tryd.prog 55 #[.slice A0 l0.length c0] w fun e w' => e = .returned (.string r) ∧ Below w.heap.size w w' := by
  have HR0 := zMk hr0
  have HC0 := zMk hc0
  clear hr0 hc0
  have HB := zMk (Below.refl w.heap.size w)
  have H : ((r1_Norm.f k l0).bind fun t1119 => (if (t1119.length : Int) = 0 then (some (⟨#[48]⟩ : ByteArray)) else (r1_Text.l0 k t1119 ([] : List Int)))) = some r := h
  clear h
  replace H := bnd H
  obtain ⟨t1119, A20, H⟩ := H
  have A2 := zMk A20
  clear A20
  by_cases c3 : (t1119.length : Int) = 0
  · rw [if_pos c3] at H
    have c3b0 : ((t1119.length : Int) == 0) = true := beq_iff_eq.mpr c3
    have c3b1 : ((t1119.length : Int) != 0) = false := bne_eq_false_iff_eq.mpr c3
    clear c3
    obtain rfl := zOi H
    go_enter Tryd.func55, Tryd.ntmps55
    go_wp2_with (first |  ((with_reducible refine gate_callee (f := 63) rfl ?_); refine goesL_ (some 9) rfl rfl Tryd.func63 (by kernel_rfl) rfl #[.slice A0 l0.length c0] rfl (by (try simp only [zMa, zMc, zMn]); first |  done|  rfl|  (simp only [zLd, zLt]; rfl)) ?_; (with_reducible refine (r1_Norm.calls k _ _ l0 t1119 _ ?side1 ?side2 A2.out).mono ?_); (case side1 => repeat (first |  exact HR0.out|  (with_reducible refine zCa ?_ _)|  (with_reducible refine zCn ?_ _)|  (with_reducible refine zCd ?_))); (case side2 => exact HC0.out); rintro e w4 ⟨v1120, rfl, ho0, hb⟩; refine ⟨_, rfl, ?_⟩; have HO1121 := zMk (zRl ho0 (zBs (by exact uT HB.out))); replace HB := zMk (zBt (by exact uT HB.out) hb); (try clear hb); (try clear hb2); (try clear hk); (try clear hi); (try clear ho0); obtain ⟨Ao5, co5, eo5⟩ := zRs HO1121.out; subst eo5))
    go_ret
    exact ⟨by first | rfl | (simp [errW_none, errW_some] <;> rfl) | (simp [*, errW_none, errW_some] <;> rfl), by exact uT HB.out⟩
  · rw [if_neg c3] at H
    have c3b0 : ((t1119.length : Int) == 0) = false := beq_eq_false_iff_ne.mpr c3
    have c3b1 : ((t1119.length : Int) != 0) = true := bne_iff_ne.mpr c3
    have c3b2 : ¬ (t1119 = []) := fun h_ => c3 (by rw [h_]; rfl)
    have H' := zMk H
    clear H
    go_enter Tryd.func55, Tryd.ntmps55
    go_wp2_with (first |  ((with_reducible refine gate_callee (f := 63) rfl ?_); refine goesL_ (some 9) rfl rfl Tryd.func63 (by kernel_rfl) rfl #[.slice A0 l0.length c0] rfl (by (try simp only [zMa, zMc, zMn]); first |  done|  rfl|  (simp only [zLd, zLt]; rfl)) ?_; (with_reducible refine (r1_Norm.calls k _ _ l0 t1119 _ ?side1 ?side2 A2.out).mono ?_); (case side1 => repeat (first |  exact HR0.out|  (with_reducible refine zCa ?_ _)|  (with_reducible refine zCn ?_ _)|  (with_reducible refine zCd ?_))); (case side2 => exact HC0.out); rintro e w6 ⟨v1120, rfl, ho0, hb⟩; refine ⟨_, rfl, ?_⟩; have HO1121 := zMk (zRl ho0 (zBs (by exact uT HB.out))); replace HB := zMk (zBt (by exact uT HB.out) hb); (try clear hb); (try clear hb2); (try clear hk); (try clear hi); (try clear ho0); obtain ⟨Ao7, co7, eo7⟩ := zRs HO1121.out; subst eo7))
    go_loopg [0, 3] k (fun kq v0 v3 w' => ∃ (x0_1 : List Int) (x3_1 : List Int), Aside0 (r1_Text.l0 kq x0_1 x3_1 = some r) ∧ Aside0 (kq ≤ k) ∧ Aside0 (Kd.R (Kd.int .u32) 58 w' w.heap.size (fun _ => True) v0 x0_1) ∧ Aside0 (Kd.R (Kd.int .u8) 5 w' w.heap.size (fun _ => True) v3 x3_1) ∧ Aside0 (Below w.heap.size w w'))
    case atStart => exact ⟨(t1119), (([] : List Int)), H', ⟨Nat.le_refl _⟩, ⟨by exact uR HO1121.out⟩, ⟨by first | exact Kd.R_nil _ _ _ _ _ | exact Kd.N_nil _ _ _ _ _ | exact Kd.V_nil _ _ _ _ _ | exact Kd.Q_nil _ _ _ _ _ | exact Kd.S_nil _ _ _ _ _⟩, ⟨by exact uT HB.out⟩⟩
    clear H'
    obtain ⟨x0_1, x3_1, HA, HK1, HO_0, HO_3, HB⟩ := hrel
    rcases gk with _ | k1
    · exact absurd HA.out (by simp [r1_Text.l0])
    have H := HA.out
    clear HA
    simp only [r1_Text.l0] at H
    by_cases c8 : (x0_1.length : Int) > 0
    · rw [if_pos c8] at H
      have c8b0 : decide (0 < (x0_1.length : Int)) = true := decide_eq_true c8
      have c8b1 : decide (0 < x0_1.length) = true := decide_eq_true (by omega)
      clear c8
      obtain ⟨y1122, hy1122⟩ : ∃ y_ : List Int, y_ = (([10] : List Int)) := ⟨_, rfl⟩
      replace H : ((r1_DivMod.f k1 x0_1 y1122).bind fun bt1125 => (if (bt1125.2.1.length : Int) > 0 then (if 0 < (bt1125.2.1.length : Int) then ((some (([(48 + ((rd bt1125.2.1 0) % 256)) % 256] : List Int) : List Int)).bind fun y1133 => (if y1133.length + x3_1.length < 140737488355328 then (r1_Text.l0 k1 bt1125.1 (y1133 ++ x3_1)) else (none))) else (none)) else ((some (([48] : List Int) : List Int)).bind fun y1139 => (if y1139.length + x3_1.length < 140737488355328 then (r1_Text.l0 k1 bt1125.1 (y1139 ++ x3_1)) else (none))))) = some r := by first | (rw [hy1122]; with_reducible exact H) | (have H2_ := (zOb _ _).symm.trans H; rw [hy1122]; with_reducible exact H2_) | (have H2_ := (zOb _ _).symm.trans H; with_reducible exact H2_) | with_reducible exact H | (rw [hy1122]; exact H) | exact H
      have Ny1122 := zMk hy1122
      clear hy1122
      replace H := bnd H
      obtain ⟨⟨t1125, t1126, t1127⟩, A90, H⟩ := H
      replace H : (if (t1126.length : Int) > 0 then (if 0 < (t1126.length : Int) then ((some (([(48 + ((rd t1126 0) % 256)) % 256] : List Int) : List Int)).bind fun y1133 => (if y1133.length + x3_1.length < 140737488355328 then (r1_Text.l0 k1 t1125 (y1133 ++ x3_1)) else (none))) else (none)) else ((some (([48] : List Int) : List Int)).bind fun y1139 => (if y1139.length + x3_1.length < 140737488355328 then (r1_Text.l0 k1 t1125 (y1139 ++ x3_1)) else (none)))) = some r := H
      have A9 := zMk A90
      clear A90
      by_cases c10 : (t1126.length : Int) > 0
      · rw [if_pos c10] at H
        have c10b0 : decide (0 < (t1126.length : Int)) = true := decide_eq_true c10
        have c10b1 : decide (0 < t1126.length) = true := decide_eq_true (by omega)
        clear c10
        by_cases c11 : 0 < (t1126.length : Int)
        rotate_left
        · rw [if_neg c11] at H; exact absurd H (by simp)
        rw [if_pos c11] at H
        have c11b0 : decide (0 < (t1126.length : Int)) = true := decide_eq_true c11
        have c11b1 : decide (0 < t1126.length) = true := decide_eq_true (by omega)
        clear c11
        obtain ⟨y1133, hy1133⟩ : ∃ y_ : List Int, y_ = (([(48 + ((rd t1126 0) % 256)) % 256] : List Int)) := ⟨_, rfl⟩
        replace H : (if y1133.length + x3_1.length < 140737488355328 then (r1_Text.l0 k1 t1125 (y1133 ++ x3_1)) else (none)) = some r := by first | (rw [hy1133]; with_reducible exact H) | (have H2_ := (zOb _ _).symm.trans H; rw [hy1133]; with_reducible exact H2_) | (have H2_ := (zOb _ _).symm.trans H; with_reducible exact H2_) | with_reducible exact H | (rw [hy1133]; exact H) | exact H
        have Ny1133 := zMk hy1133
        clear hy1133
        by_cases c12 : y1133.length + x3_1.length < 140737488355328
        rotate_left
        · rw [if_neg c12] at H; exact absurd H (by simp)
        rw [if_pos c12] at H
        have LMc12 := zMk c12
        clear c12
        obtain ⟨y1136, hy1136⟩ : ∃ y_ : List Int, y_ = (y1133 ++ x3_1) := ⟨_, rfl⟩
        replace H : (r1_Text.l0 k1 t1125 y1136) = some r := by first | (rw [hy1136]; with_reducible exact H) | (have H2_ := (zOb _ _).symm.trans H; rw [hy1136]; with_reducible exact H2_) | (have H2_ := (zOb _ _).symm.trans H; with_reducible exact H2_) | with_reducible exact H | (rw [hy1136]; exact H) | exact H
        have Ny1136 := zMk hy1136
        clear hy1136
        have H' := zMk H
        clear H
        obtain ⟨Ao13, co13, eo13⟩ := zRs HO_0.out
        subst eo13
        go_wp2_with (first |  ((with_reducible refine gate_dst (N := 18) rfl ?_); refine Kd.R_lit (Kd.int .u32) _ 58 ?hg (N := 18) ?hd (xs := ([10] : List Int)) (inner := [.int .u32 10]) (ok := fun _ => True) (okp := fun _ => True) ?hr ?hp (fun _ hk => hk) trivial (Below.refl _ _) (Nat.le_refl _) (by simp) ?_; (case hd => rfl); (case hg => rfl); (case hr => first |  (go_simp; done)|  (go_simp; rfl)|  (go_simp; rw [show ∀ x : Int, IntKind.u32.wrap (IntKind.u8.wrap x) = x % 256 from fun x => (by show (x % 256) % 4294967296 = x % 256; omega)])); (case hp => exact (Reps.one (show Kd.M (Kd.int .u32) _ _ _ 10 [.int .u32 10] from rfl) (Reps.none _ _))); intro v1123 w14 ho15 hb hg_ hnew_; clear hg_ hnew_; (first |  rw [← Ny1122.out] at ho15|  (simp only [Int.reduceToNat] at ho15; rw [← Ny1122.out] at ho15)); replace HO_3 := zMk (zRb (by exact uR HO_3.out) hb); have HO1124 := zMk (zRl (zRw ho15 (zRt (by exact uR HO_0.out))) (zBs (by exact uT HB.out))); replace HO_0 := zMk (zRe (by exact uR HO_0.out) (zRz ho15) hb); replace HB := zMk (zBt (by exact uT HB.out) hb); clear hb ho15; obtain ⟨Ao16, co16, eo16⟩ := zRs HO1124.out; subst eo16)|  ((with_reducible refine gate_callee (f := 37) rfl ?_); refine goesL_ (some 19) rfl rfl Tryd.func37 (by kernel_rfl) rfl #[.slice Ao13 x0_1.length co13, .slice Ao16 y1122.length co16] rfl (by (try simp only [zMa, zMc, zMn]); first |  done|  rfl|  (simp only [zLd, zLt]; rfl)) ?_; (with_reducible refine (r1_DivMod.calls k1 _ _ x0_1 _ _ y1122 t1125 t1126 t1127 _ ?side1 ?side2 ?side3 ?side4 A9.out).mono ?_); (case side1 => exact uC (zRr HO_0.out).2.2); (case side2 => exact (zRr HO_0.out).2.1); (case side3 => exact uC (zRr HO1124.out).2.2); (case side4 => exact (zRr HO1124.out).2.1); rintro e w17 ⟨v1128, v1130, rfl, ho0, ho1, hb⟩; refine ⟨_, rfl, ?_⟩; replace HO_3 := zMk (zRb (by exact uR HO_3.out) hb); have HO1129 := zMk (zRl (zRw (zRw ho0 (zRt (by exact uR HO_0.out))) (zRt (by exact uR HO1124.out))) (zBs (by exact uT HB.out))); have HO1131 := zMk (zRl (zRw (zRw ho1 (zRt (by exact uR HO_0.out))) (zRt (by exact uR HO1124.out))) (zBs (by exact uT HB.out))); replace HO_0 := zMk (zRm (Kd.R_told (Kd.R_told (Kd.R_old (by exact uR HO_0.out) hb) (zRz ho0)) (zRz ho1)) (fun _ h_ => h_.1)); replace HO1124 := zMk (zRm (Kd.R_told (Kd.R_told (Kd.R_old (by exact uR HO1124.out) hb) (zRz ho0)) (zRz ho1)) (fun _ h_ => h_.1)); replace HB := zMk (zBt (by exact uT HB.out) hb); (try clear hb); (try clear hb2); (try clear hk); (try clear hi); (try clear ho0); (try clear ho1); obtain ⟨Ao18, co18, eo18⟩ := zRs HO1131.out; subst eo18; have p1132 : 0 ≤ (0 : Int) := (by omega); have q1132 : 0 < (t1126.length : Int) := of_decide_eq_true (by first |  (with_reducible assumption)|  assumption); obtain ⟨ad1132, e1132, hx1132_0⟩ := zAi (zRr HO1131.out).2.2 0 p1132 q1132; cases e1132; have qi1132 : (0 < t1126.length) = True := eq_true (by omega); (try rw [show ((0 : Int)).toNat = 0 from rfl] at hx1132_0); (try rw [Addr.add_zero'] at hx1132_0); replace p1132 := eq_true p1132; replace q1132 := eq_true q1132)|  ((with_reducible refine gate_dst (N := 33) rfl ?_); refine Kd.R_lit (Kd.int .u8) _ 5 ?hg (N := 33) ?hd (xs := ([(48 + ((rd t1126 0) % 256)) % 256] : List Int)) (inner := [.int .u8 ((48 + ((rd t1126 0) % 256)) % 256)]) (ok := fun _ => True) (okp := fun _ => True) ?hr ?hp (fun _ hk => hk) trivial (Below.refl _ _) (Nat.le_refl _) (by simp) ?_; (case hd => rfl); (case hg => rfl); (case hr => first |  (go_simp; done)|  (go_simp; rfl)|  (go_simp; rw [show ∀ x : Int, IntKind.u32.wrap (IntKind.u8.wrap x) = x % 256 from fun x => (by show (x % 256) % 4294967296 = x % 256; omega)])); (case hp => exact (Reps.one (show Kd.M (Kd.int .u8) _ _ _ ((48 + ((rd t1126 0) % 256)) % 256) [.int .u8 ((48 + ((rd t1126 0) % 256)) % 256)] from rfl) (Reps.none _ _))); intro v1134 w19 ho20 hb hg_ hnew_; clear hg_ hnew_; (first |  rw [← Ny1133.out] at ho20|  (simp only [Int.reduceToNat] at ho20; rw [← Ny1133.out] at ho20)); replace HO_0 := zMk (zRb (by exact uR HO_0.out) hb); replace HO1124 := zMk (zRb (by exact uR HO1124.out) hb); replace HO1129 := zMk (zRb (by exact uR HO1129.out) hb); replace HO1131 := zMk (zRb (by exact uR HO1131.out) hb); have HO1135 := zMk (zRl (zRw ho20 (zRt (by exact uR HO_3.out))) (zBs (by exact uT HB.out))); replace HO_3 := zMk (zRe (by exact uR HO_3.out) (zRz ho20) hb); replace HB := zMk (zBt (by exact uT HB.out) hb); clear hb ho20; obtain ⟨Ao22, co22, eo22⟩ := zRs HO_3.out; subst eo22)|  ((with_reducible refine gate_builtin (b := .append) (xs := #[.tmp 33, .tmp 34]) rfl ?_); at_builtin; refine Kd.R_append_rows (Kd.int .u8) (w0 := w) w.heap.size rfl (.tmp 33) (.tmp 34) 67 5 (.int .u8 0) 1 rfl Tryd.underlying67 info5 rfl (by decide) (by omega) v1134 y1133 x3_1 _ _ _ (fun k_ => some k_ ≠ (.slice Ao22 x3_1.length co22 : Value).ownBlock) (fun _ => False) rfl rfl ?aO ?aR (fun _ _ h => h) (fun _ h => h.elim) ?aF ?aB ?aS ?aL ?_; (case aR => exact uC (zRr HO_3.out).2.2); (case aB => exact (by exact uT HB.out)); (case aF => exact (fun k_ hk => Kd.fresh' (zRt (by exact uR HO_3.out)) k_ hk)); (case aO => exact (by (with_reducible repeat (first |  apply zRa|  apply zRn|  apply zRd)); exact zRm HO1135.out (fun _ hk => hk.2))); (case aS => exact (zBs (by exact uT HB.out))); (case aL => have := LMc12.out; omega); intro v1137 w21 ho hb hg hat; rw [← Ny1136.out] at ho; replace HO_0 := zMk (Kd.R_over' (by exact uR HO_0.out) (Kd.R_typed (by exact uR HO1135.out)) (by decide) hg); replace HO_3 := zMk (Kd.R_after (ok := (fun _ => True)) (by exact uR HO_3.out) hg hat); replace HO1124 := zMk (Kd.R_over' (by exact uR HO1124.out) (Kd.R_typed (by exact uR HO1135.out)) (by decide) hg); replace HO1129 := zMk (Kd.R_over' (by exact uR HO1129.out) (Kd.R_typed (by exact uR HO1135.out)) (by decide) hg); replace HO1131 := zMk (Kd.R_over' (by exact uR HO1131.out) (Kd.R_typed (by exact uR HO1135.out)) (by decide) hg); replace HB := zMk (hb); have HO1138 := zMk (ho); clear HO1135 ho hb hg hat))
        go_roundg k1
        case measure => have := HK1.out; omega
        case rel => exact ⟨(t1125), (y1136), H', ⟨by have := HK1.out; omega⟩, ⟨by (with_reducible repeat (first | apply zRa | apply zRn | apply zRd)); exact zRm HO1129.out (fun _ hk => trivial)⟩, ⟨by (with_reducible repeat (first | apply zRa | apply zRn | apply zRd)); exact zRm HO1138.out (fun _ hk => trivial)⟩, ⟨by exact uT HB.out⟩⟩
      · rw [if_neg c10] at H
        have c10b0 : decide (0 < (t1126.length : Int)) = false := decide_eq_false c10
        have c10b1 : decide (0 < t1126.length) = false := decide_eq_false (by omega)
        clear c10
        obtain ⟨y1139, hy1139⟩ : ∃ y_ : List Int, y_ = (([48] : List Int)) := ⟨_, rfl⟩
        replace H : (if y1139.length + x3_1.length < 140737488355328 then (r1_Text.l0 k1 t1125 (y1139 ++ x3_1)) else (none)) = some r := by first | (rw [hy1139]; with_reducible exact H) | (have H2_ := (zOb _ _).symm.trans H; rw [hy1139]; with_reducible exact H2_) | (have H2_ := (zOb _ _).symm.trans H; with_reducible exact H2_) | with_reducible exact H | (rw [hy1139]; exact H) | exact H
        have Ny1139 := zMk hy1139
        clear hy1139
        by_cases c23 : y1139.length + x3_1.length < 140737488355328
        rotate_left
        · rw [if_neg c23] at H; exact absurd H (by simp)
        rw [if_pos c23] at H
        have LMc23 := zMk c23
        clear c23
        obtain ⟨y1142, hy1142⟩ : ∃ y_ : List Int, y_ = (y1139 ++ x3_1) := ⟨_, rfl⟩
        replace H : (r1_Text.l0 k1 t1125 y1142) = some r := by first | (rw [hy1142]; with_reducible exact H) | (have H2_ := (zOb _ _).symm.trans H; rw [hy1142]; with_reducible exact H2_) | (have H2_ := (zOb _ _).symm.trans H; with_reducible exact H2_) | with_reducible exact H | (rw [hy1142]; exact H) | exact H
        have Ny1142 := zMk hy1142
        clear hy1142
        have H' := zMk H
        clear H
        obtain ⟨Ao24, co24, eo24⟩ := zRs HO_0.out
        subst eo24
        go_wp2_with (first |  ((with_reducible refine gate_dst (N := 18) rfl ?_); refine Kd.R_lit (Kd.int .u32) _ 58 ?hg (N := 18) ?hd (xs := ([10] : List Int)) (inner := [.int .u32 10]) (ok := fun _ => True) (okp := fun _ => True) ?hr ?hp (fun _ hk => hk) trivial (Below.refl _ _) (Nat.le_refl _) (by simp) ?_; (case hd => rfl); (case hg => rfl); (case hr => first |  (go_simp; done)|  (go_simp; rfl)|  (go_simp; rw [show ∀ x : Int, IntKind.u32.wrap (IntKind.u8.wrap x) = x % 256 from fun x => (by show (x % 256) % 4294967296 = x % 256; omega)])); (case hp => exact (Reps.one (show Kd.M (Kd.int .u32) _ _ _ 10 [.int .u32 10] from rfl) (Reps.none _ _))); intro v1123 w25 ho26 hb hg_ hnew_; clear hg_ hnew_; (first |  rw [← Ny1122.out] at ho26|  (simp only [Int.reduceToNat] at ho26; rw [← Ny1122.out] at ho26)); replace HO_3 := zMk (zRb (by exact uR HO_3.out) hb); have HO1124 := zMk (zRl (zRw ho26 (zRt (by exact uR HO_0.out))) (zBs (by exact uT HB.out))); replace HO_0 := zMk (zRe (by exact uR HO_0.out) (zRz ho26) hb); replace HB := zMk (zBt (by exact uT HB.out) hb); clear hb ho26; obtain ⟨Ao27, co27, eo27⟩ := zRs HO1124.out; subst eo27)|  ((with_reducible refine gate_callee (f := 37) rfl ?_); refine goesL_ (some 19) rfl rfl Tryd.func37 (by kernel_rfl) rfl #[.slice Ao24 x0_1.length co24, .slice Ao27 y1122.length co27] rfl (by (try simp only [zMa, zMc, zMn]); first |  done|  rfl|  (simp only [zLd, zLt]; rfl)) ?_; (with_reducible refine (r1_DivMod.calls k1 _ _ x0_1 _ _ y1122 t1125 t1126 t1127 _ ?side1 ?side2 ?side3 ?side4 A9.out).mono ?_); (case side1 => exact uC (zRr HO_0.out).2.2); (case side2 => exact (zRr HO_0.out).2.1); (case side3 => exact uC (zRr HO1124.out).2.2); (case side4 => exact (zRr HO1124.out).2.1); rintro e w28 ⟨v1128, v1130, rfl, ho0, ho1, hb⟩; refine ⟨_, rfl, ?_⟩; replace HO_3 := zMk (zRb (by exact uR HO_3.out) hb); have HO1129 := zMk (zRl (zRw (zRw ho0 (zRt (by exact uR HO_0.out))) (zRt (by exact uR HO1124.out))) (zBs (by exact uT HB.out))); have HO1131 := zMk (zRl (zRw (zRw ho1 (zRt (by exact uR HO_0.out))) (zRt (by exact uR HO1124.out))) (zBs (by exact uT HB.out))); replace HO_0 := zMk (zRm (Kd.R_told (Kd.R_told (Kd.R_old (by exact uR HO_0.out) hb) (zRz ho0)) (zRz ho1)) (fun _ h_ => h_.1)); replace HO1124 := zMk (zRm (Kd.R_told (Kd.R_told (Kd.R_old (by exact uR HO1124.out) hb) (zRz ho0)) (zRz ho1)) (fun _ h_ => h_.1)); replace HB := zMk (zBt (by exact uT HB.out) hb); (try clear hb); (try clear hb2); (try clear hk); (try clear hi); (try clear ho0); (try clear ho1); obtain ⟨Ao29, co29, eo29⟩ := zRs HO1131.out; subst eo29)|  ((with_reducible refine gate_dst (N := 33) rfl ?_); refine Kd.R_lit (Kd.int .u8) _ 5 ?hg (N := 33) ?hd (xs := ([48] : List Int)) (inner := [.int .u8 48]) (ok := fun _ => True) (okp := fun _ => True) ?hr ?hp (fun _ hk => hk) trivial (Below.refl _ _) (Nat.le_refl _) (by simp) ?_; (case hd => rfl); (case hg => rfl); (case hr => first |  (go_simp; done)|  (go_simp; rfl)|  (go_simp; rw [show ∀ x : Int, IntKind.u32.wrap (IntKind.u8.wrap x) = x % 256 from fun x => (by show (x % 256) % 4294967296 = x % 256; omega)])); (case hp => exact (Reps.one (show Kd.M (Kd.int .u8) _ _ _ 48 [.int .u8 48] from rfl) (Reps.none _ _))); intro v1140 w30 ho31 hb hg_ hnew_; clear hg_ hnew_; (first |  rw [← Ny1139.out] at ho31|  (simp only [Int.reduceToNat] at ho31; rw [← Ny1139.out] at ho31)); replace HO_0 := zMk (zRb (by exact uR HO_0.out) hb); replace HO1124 := zMk (zRb (by exact uR HO1124.out) hb); replace HO1129 := zMk (zRb (by exact uR HO1129.out) hb); replace HO1131 := zMk (zRb (by exact uR HO1131.out) hb); have HO1141 := zMk (zRl (zRw ho31 (zRt (by exact uR HO_3.out))) (zBs (by exact uT HB.out))); replace HO_3 := zMk (zRe (by exact uR HO_3.out) (zRz ho31) hb); replace HB := zMk (zBt (by exact uT HB.out) hb); clear hb ho31; obtain ⟨Ao33, co33, eo33⟩ := zRs HO_3.out; subst eo33)|  ((with_reducible refine gate_builtin (b := .append) (xs := #[.tmp 33, .tmp 34]) rfl ?_); at_builtin; refine Kd.R_append_rows (Kd.int .u8) (w0 := w) w.heap.size rfl (.tmp 33) (.tmp 34) 67 5 (.int .u8 0) 1 rfl Tryd.underlying67 info5 rfl (by decide) (by omega) v1140 y1139 x3_1 _ _ _ (fun k_ => some k_ ≠ (.slice Ao33 x3_1.length co33 : Value).ownBlock) (fun _ => False) rfl rfl ?aO ?aR (fun _ _ h => h) (fun _ h => h.elim) ?aF ?aB ?aS ?aL ?_; (case aR => exact uC (zRr HO_3.out).2.2); (case aB => exact (by exact uT HB.out)); (case aF => exact (fun k_ hk => Kd.fresh' (zRt (by exact uR HO_3.out)) k_ hk)); (case aO => exact (by (with_reducible repeat (first |  apply zRa|  apply zRn|  apply zRd)); exact zRm HO1141.out (fun _ hk => hk.2))); (case aS => exact (zBs (by exact uT HB.out))); (case aL => have := LMc23.out; omega); intro v1143 w32 ho hb hg hat; rw [← Ny1142.out] at ho; replace HO_0 := zMk (Kd.R_over' (by exact uR HO_0.out) (Kd.R_typed (by exact uR HO1141.out)) (by decide) hg); replace HO_3 := zMk (Kd.R_after (ok := (fun _ => True)) (by exact uR HO_3.out) hg hat); replace HO1124 := zMk (Kd.R_over' (by exact uR HO1124.out) (Kd.R_typed (by exact uR HO1141.out)) (by decide) hg); replace HO1129 := zMk (Kd.R_over' (by exact uR HO1129.out) (Kd.R_typed (by exact uR HO1141.out)) (by decide) hg); replace HO1131 := zMk (Kd.R_over' (by exact uR HO1131.out) (Kd.R_typed (by exact uR HO1141.out)) (by decide) hg); replace HB := zMk (hb); have HO1144 := zMk (ho); clear HO1141 ho hb hg hat))
        go_roundg k1
        case measure => have := HK1.out; omega
        case rel => exact ⟨(t1125), (y1142), H', ⟨by have := HK1.out; omega⟩, ⟨by (with_reducible repeat (first | apply zRa | apply zRn | apply zRd)); exact zRm HO1129.out (fun _ hk => trivial)⟩, ⟨by (with_reducible repeat (first | apply zRa | apply zRn | apply zRd)); exact zRm HO1144.out (fun _ hk => trivial)⟩, ⟨by exact uT HB.out⟩⟩
    · rw [if_neg c8] at H
      have c8b0 : decide (0 < (x0_1.length : Int)) = false := decide_eq_false c8
      have c8b1 : decide (0 < x0_1.length) = false := decide_eq_false (by omega)
      clear c8
      obtain rfl := zOi H
      obtain ⟨Ao34, co34, eo34⟩ := zRs HO_0.out
      subst eo34
      have hcv35 := own_string (P := Tryd.prog) Tryd.underlying67 Tryd.underlying5 Tryd.underlying9 (Kd.own_of_R HO_3.out)
      go_wp2
      go_ret
      exact ⟨by first | rfl | (simp [errW_none, errW_some] <;> rfl) | (simp [*, errW_none, errW_some] <;> rfl), by exact uT HB.out⟩


def filigreeref02_Text.f (k : Nat) (a0_0 : Bool) (l0_1 : List Int) : Option (ByteArray) := (filigreeref02_Norm.f k a0_0 l0_1).bind fun bt1146 => (if bt1146.1 = true then ((r1_Text.f k bt1146.2).bind fun t1150 => (if 1 + t1150.size ≤ 9223372036854775807 then (some ((⟨#[45]⟩ : ByteArray) ++ t1150)) else (none))) else ((r1_Text.f k bt1146.2).bind fun t1151 => (some t1151)))
set_option maxHeartbeats 8000000 in
set_option maxRecDepth 100000 in
theorem filigreeref02_Text.calls (k : Nat) (a0_0 : Bool) (A0_1 : Option Addr) (c0_1 : Nat) (l0_1 : List Int) (r : ByteArray) (w : World) (hr0_1 : Kd.C (Kd.int .u32) w A0_1 l0_1.length l0_1) (hc0_1 : l0_1.length ≤ c0_1) (h : filigreeref02_Text.f k a0_0 l0_1 = some r) :
    Calls Tryd.prog 30 #[.agg #[.bool a0_0, .slice A0_1 l0_1.length c0_1]] w fun e w' => e = .returned (.string r) ∧ Below w.heap.size w w' := by
  have hu24 := Tryd.underlying24
  have HR0_1 := zMk hr0_1
  have HC0_1 := zMk hc0_1
  clear hr0_1 hc0_1
  have HB := zMk (Below.refl w.heap.size w)
  have H : ((filigreeref02_Norm.f k a0_0 l0_1).bind fun bt1146 => (if bt1146.1 = true then ((r1_Text.f k bt1146.2).bind fun t1150 => (if 1 + t1150.size ≤ 9223372036854775807 then (some ((⟨#[45]⟩ : ByteArray) ++ t1150)) else (none))) else ((r1_Text.f k bt1146.2).bind fun t1151 => (some t1151)))) = some r := h
  clear h
  replace H := bnd H
  obtain ⟨⟨t1146, t1147⟩, A20, H⟩ := H
  replace H : (if t1146 = true then ((r1_Text.f k t1147).bind fun t1150 => (if 1 + t1150.size ≤ 9223372036854775807 then (some ((⟨#[45]⟩ : ByteArray) ++ t1150)) else (none))) else ((r1_Text.f k t1147).bind fun t1151 => (some t1151))) = some r := H
  have A2 := zMk A20
  clear A20
  by_cases c3 : t1146 = true
  · subst c3
    have H1 : ((r1_Text.f k t1147).bind fun t1150 => (if 1 + t1150.size ≤ 9223372036854775807 then (some ((⟨#[45]⟩ : ByteArray) ++ t1150)) else (none))) = some r := by rw [if_pos rfl] at H; exact H
    clear H
    have H := H1
    clear H1
    replace H := bnd H
    obtain ⟨t1150, A40, H⟩ := H
    have A4 := zMk A40
    clear A40
    by_cases c5 : 1 + t1150.size ≤ 9223372036854775807
    rotate_left
    · rw [if_neg c5] at H; exact absurd H (by simp)
    rw [if_pos c5] at H
    have c5b0 := eq_true c5
    have c5b1 : decide (1 + t1150.size ≤ 9223372036854775807) = true := decide_eq_true c5
    try have c5b2 : (9223372036854775807 < 1 + t1150.size) = False := eq_false (Nat.not_lt.2 c5)
    obtain rfl := zOi H
    go_enter Tryd.func30, Tryd.ntmps30
    go_wp2_with (first |  ((with_reducible refine gate_dst (N := 1) rfl ?_); refine box_event ?hg (N := 1) ?hd (cs := #[.bool a0_0, .slice A0_1 l0_1.length c0_1]) (t := 24) ?hr ?_; (case hd => rfl); (case hg => rfl); (case hr => first |  (go_simp; done)|  (go_simp; rfl)|  (go_simp; rw [show ∀ x : Int, IntKind.u32.wrap (IntKind.u8.wrap x) = x % 256 from fun x => (by show (x % 256) % 4294967296 = x % 256; omega)])); intro gb1145 hg w6 hbox hb; have BK1145 := zMk (hbox); have GW1145 := zMk ((by rw [hg]; exact (zBs (by exact uT HB.out)) : w.heap.size ≤ gb1145)); have GE1145 := zMk ((by rw [hg]; exact (zBs (by exact uT HB.out)) : w.heap.size ≤ gb1145)); have IGE1145 := ownGe GE1145.out; replace HB := zMk (zBt (by exact uT HB.out) hb); clear hb hbox hg; have hcz7_0 : w6.cell? ⟨gb1145, 0, none⟩ = some (.bool a0_0) := (zKc BK1145.out 0).trans rfl; have hcz7_1 : w6.cell? ⟨gb1145, 1, none⟩ = some (.slice A0_1 l0_1.length c0_1) := (zKc BK1145.out 1).trans rfl; have hfz7_0 := zKf BK1145.out 0; have hfz7_1 := zKf BK1145.out 1)|  ((with_reducible refine gate_callee (f := 24) rfl ?_); refine goesL_ (some 4) rfl rfl Tryd.func24 (by kernel_rfl) rfl #[.agg #[.bool a0_0, .slice A0_1 l0_1.length c0_1]] rfl (by (try simp only [zMa, zMc, zMn]); first |  done|  rfl|  (simp only [zLd, zLt]; rfl)) ?_; (with_reducible refine (filigreeref02_Norm.calls k a0_0 _ _ l0_1 true t1147 _ ?side1 ?side2 A2.out).mono ?_); (case side1 => repeat (first |  exact (Kd.C_below HR0_1.out HB.out)|  (with_reducible refine zCa ?_ _)|  (with_reducible refine zCn ?_ _)|  (with_reducible refine zCd ?_))); (case side2 => exact HC0_1.out); rintro e w8 ⟨v1148, rfl, ho0, hb⟩; refine ⟨_, rfl, ?_⟩; have HO1149 := zMk (zRl ho0 (zBs (by exact uT HB.out))); replace BK1145 := zMk (zKb (g := gb1145) (o := .cells #[.bool a0_0, .slice A0_1 l0_1.length c0_1] 24 (0, 0)) (by (with_reducible repeat (first |  refine zKn ?_ _|  refine zKd ?_|  refine zKa ?_ _)); exact BK1145.out) hb); replace HB := zMk (zBt (by exact uT HB.out) hb); (try clear hb); (try clear hb2); (try clear hk); (try clear hi); (try clear ho0); have hcz9_0 : w8.cell? ⟨gb1145, 0, none⟩ = some (.bool a0_0) := (zKc BK1145.out 0).trans rfl; have hcz9_1 : w8.cell? ⟨gb1145, 1, none⟩ = some (.slice A0_1 l0_1.length c0_1) := (zKc BK1145.out 1).trans rfl; have hfz9_0 := zKf BK1145.out 0; have hfz9_1 := zKf BK1145.out 1; obtain ⟨Ao10, co10, eo10⟩ := zRs HO1149.out; subst eo10)|  ((with_reducible refine gate_callee (f := 55) rfl ?_); refine goesL_ (some 9) rfl rfl Tryd.func55 (by kernel_rfl) rfl #[.slice Ao10 t1147.length co10] rfl (by (try simp only [zMa, zMc, zMn]); first |  done|  rfl|  (simp only [zLd, zLt]; rfl)) ?_; (with_reducible refine (r1_Text.calls k _ _ t1147 t1150 _ ?side1 ?side2 A4.out).mono ?_); (case side1 => refine (zRr (e := 58) (base := w.heap.size) (ok := fun k_ => True) (n := t1147.length) (c := co10) ?_).2.2; exact (by (with_reducible repeat (first |  apply zRa|  apply zRn|  apply zRd)); exact (zRm (Kd.R_far (p := ⟨gb1145, 1, none⟩) (Kd.R_far (p := ⟨gb1145, 0, none⟩) (Kd.R_types HO1149.out BK1145.out (by decide)) (fun _ hk => hk.2) (.bool true)) (fun _ hk => hk.2) (.slice Ao10 t1147.length co10)) (fun _ h_ => h_.1)))); (case side2 => exact (zRr HO1149.out).2.1); rintro e w11 ⟨rfl, hb⟩; refine ⟨_, rfl, ?_⟩; replace HO1149 := zMk (zRb (by (with_reducible repeat (first |  apply zRa|  apply zRn|  apply zRd)); exact (zRm (Kd.R_far (p := ⟨gb1145, 1, none⟩) (Kd.R_far (p := ⟨gb1145, 0, none⟩) (Kd.R_types HO1149.out BK1145.out (by decide)) (fun _ hk => hk.2) (.bool true)) (fun _ hk => hk.2) (.slice Ao10 t1147.length co10)) (fun _ h_ => h_.1))) hb); replace BK1145 := zMk (zKb (g := gb1145) (o := .cells #[.bool true, .slice Ao10 t1147.length co10] 24 (0, 0)) (by (with_reducible repeat (first |  refine zKn ?_ _|  refine zKd ?_|  refine zKa ?_ _)); refine blk_put (cs := #[.bool true, .slice A0_1 l0_1.length c0_1]) ?_ 1 _ rfl; (with_reducible repeat (first |  refine zKn ?_ _|  refine zKd ?_|  refine zKa ?_ _)); refine blk_put (cs := #[.bool a0_0, .slice A0_1 l0_1.length c0_1]) ?_ 0 _ rfl; (with_reducible repeat (first |  refine zKn ?_ _|  refine zKd ?_|  refine zKa ?_ _)); exact BK1145.out) hb); replace HB := zMk (zBt (by exact uT HB.out) hb); (try clear hb); (try clear hb2); (try clear hk); (try clear hi)))
    go_ret
    exact ⟨by first | rfl | (simp [errW_none, errW_some] <;> rfl) | (simp [*, errW_none, errW_some] <;> rfl), by exact uT HB.out⟩
  · replace c3 := Bool.eq_false_iff.mpr c3
    subst c3
    have H1 : ((r1_Text.f k t1147).bind fun t1151 => (some t1151)) = some r := by rw [if_neg (show ¬ (false = true) by decide)] at H; exact H
    clear H
    have H := H1
    clear H1
    replace H := bnd H
    obtain ⟨t1151, A120, H⟩ := H
    have A12 := zMk A120
    clear A120
    obtain rfl := zOi H
    go_enter Tryd.func30, Tryd.ntmps30
    go_wp2_with (first |  ((with_reducible refine gate_dst (N := 1) rfl ?_); refine box_event ?hg (N := 1) ?hd (cs := #[.bool a0_0, .slice A0_1 l0_1.length c0_1]) (t := 24) ?hr ?_; (case hd => rfl); (case hg => rfl); (case hr => first |  (go_simp; done)|  (go_simp; rfl)|  (go_simp; rw [show ∀ x : Int, IntKind.u32.wrap (IntKind.u8.wrap x) = x % 256 from fun x => (by show (x % 256) % 4294967296 = x % 256; omega)])); intro gb1145 hg w13 hbox hb; have BK1145 := zMk (hbox); have GW1145 := zMk ((by rw [hg]; exact (zBs (by exact uT HB.out)) : w.heap.size ≤ gb1145)); have GE1145 := zMk ((by rw [hg]; exact (zBs (by exact uT HB.out)) : w.heap.size ≤ gb1145)); have IGE1145 := ownGe GE1145.out; replace HB := zMk (zBt (by exact uT HB.out) hb); clear hb hbox hg; have hcz14_0 : w13.cell? ⟨gb1145, 0, none⟩ = some (.bool a0_0) := (zKc BK1145.out 0).trans rfl; have hcz14_1 : w13.cell? ⟨gb1145, 1, none⟩ = some (.slice A0_1 l0_1.length c0_1) := (zKc BK1145.out 1).trans rfl; have hfz14_0 := zKf BK1145.out 0; have hfz14_1 := zKf BK1145.out 1)|  ((with_reducible refine gate_callee (f := 24) rfl ?_); refine goesL_ (some 4) rfl rfl Tryd.func24 (by kernel_rfl) rfl #[.agg #[.bool a0_0, .slice A0_1 l0_1.length c0_1]] rfl (by (try simp only [zMa, zMc, zMn]); first |  done|  rfl|  (simp only [zLd, zLt]; rfl)) ?_; (with_reducible refine (filigreeref02_Norm.calls k a0_0 _ _ l0_1 false t1147 _ ?side1 ?side2 A2.out).mono ?_); (case side1 => repeat (first |  exact (Kd.C_below HR0_1.out HB.out)|  (with_reducible refine zCa ?_ _)|  (with_reducible refine zCn ?_ _)|  (with_reducible refine zCd ?_))); (case side2 => exact HC0_1.out); rintro e w15 ⟨v1148, rfl, ho0, hb⟩; refine ⟨_, rfl, ?_⟩; have HO1149 := zMk (zRl ho0 (zBs (by exact uT HB.out))); replace BK1145 := zMk (zKb (g := gb1145) (o := .cells #[.bool a0_0, .slice A0_1 l0_1.length c0_1] 24 (0, 0)) (by (with_reducible repeat (first |  refine zKn ?_ _|  refine zKd ?_|  refine zKa ?_ _)); exact BK1145.out) hb); replace HB := zMk (zBt (by exact uT HB.out) hb); (try clear hb); (try clear hb2); (try clear hk); (try clear hi); (try clear ho0); have hcz16_0 : w15.cell? ⟨gb1145, 0, none⟩ = some (.bool a0_0) := (zKc BK1145.out 0).trans rfl; have hcz16_1 : w15.cell? ⟨gb1145, 1, none⟩ = some (.slice A0_1 l0_1.length c0_1) := (zKc BK1145.out 1).trans rfl; have hfz16_0 := zKf BK1145.out 0; have hfz16_1 := zKf BK1145.out 1; obtain ⟨Ao17, co17, eo17⟩ := zRs HO1149.out; subst eo17)|  ((with_reducible refine gate_callee (f := 55) rfl ?_); refine goesL_ (some 13) rfl rfl Tryd.func55 (by kernel_rfl) rfl #[.slice Ao17 t1147.length co17] rfl (by (try simp only [zMa, zMc, zMn]); first |  done|  rfl|  (simp only [zLd, zLt]; rfl)) ?_; (with_reducible refine (r1_Text.calls k _ _ t1147 t1151 _ ?side1 ?side2 A12.out).mono ?_); (case side1 => refine (zRr (e := 58) (base := w.heap.size) (ok := fun k_ => True) (n := t1147.length) (c := co17) ?_).2.2; exact (by (with_reducible repeat (first |  apply zRa|  apply zRn|  apply zRd)); exact (zRm (Kd.R_far (p := ⟨gb1145, 1, none⟩) (Kd.R_far (p := ⟨gb1145, 0, none⟩) (Kd.R_types HO1149.out BK1145.out (by decide)) (fun _ hk => hk.2) (.bool false)) (fun _ hk => hk.2) (.slice Ao17 t1147.length co17)) (fun _ h_ => h_.1)))); (case side2 => exact (zRr HO1149.out).2.1); rintro e w18 ⟨rfl, hb⟩; refine ⟨_, rfl, ?_⟩; replace HO1149 := zMk (zRb (by (with_reducible repeat (first |  apply zRa|  apply zRn|  apply zRd)); exact (zRm (Kd.R_far (p := ⟨gb1145, 1, none⟩) (Kd.R_far (p := ⟨gb1145, 0, none⟩) (Kd.R_types HO1149.out BK1145.out (by decide)) (fun _ hk => hk.2) (.bool false)) (fun _ hk => hk.2) (.slice Ao17 t1147.length co17)) (fun _ h_ => h_.1))) hb); replace BK1145 := zMk (zKb (g := gb1145) (o := .cells #[.bool false, .slice Ao17 t1147.length co17] 24 (0, 0)) (by (with_reducible repeat (first |  refine zKn ?_ _|  refine zKd ?_|  refine zKa ?_ _)); refine blk_put (cs := #[.bool false, .slice A0_1 l0_1.length c0_1]) ?_ 1 _ rfl; (with_reducible repeat (first |  refine zKn ?_ _|  refine zKd ?_|  refine zKa ?_ _)); refine blk_put (cs := #[.bool a0_0, .slice A0_1 l0_1.length c0_1]) ?_ 0 _ rfl; (with_reducible repeat (first |  refine zKn ?_ _|  refine zKd ?_|  refine zKa ?_ _)); exact BK1145.out) hb); replace HB := zMk (zBt (by exact uT HB.out) hb); (try clear hb); (try clear hb2); (try clear hk); (try clear hi)))
    go_ret
    exact ⟨by first | rfl | (simp [errW_none, errW_some] <;> rfl) | (simp [*, errW_none, errW_some] <;> rfl), by exact uT HB.out⟩


def stringslite_HasPrefix.f (a0 : ByteArray) (a1 : ByteArray) : Option (Bool) := if (a0.size : Int) ≥ (a1.size : Int) then (if 0 ≤ (a1.size : Int) then (if (a1.size : Int) ≤ (a0.size : Int) then (some ((a0.extract 0 ((a1.size : Int) : Int).toNat).toList == a1.toList)) else (none)) else (none)) else (some false)
set_option maxHeartbeats 8000000 in
set_option maxRecDepth 100000 in
theorem stringslite_HasPrefix.calls (a0 : ByteArray) (a1 : ByteArray) (r : Bool) (w : World) (h : stringslite_HasPrefix.f a0 a1 = some r) :
    Calls Tryd.prog 84 #[.string a0, .string a1] w fun e w' => e = .returned (.bool r) ∧ Drawn0 w w' := by
  have H : (if (a0.size : Int) ≥ (a1.size : Int) then (if 0 ≤ (a1.size : Int) then (if (a1.size : Int) ≤ (a0.size : Int) then (some ((a0.extract 0 ((a1.size : Int) : Int).toNat).toList == a1.toList)) else (none)) else (none)) else (some false)) = some r := h
  clear h
  by_cases c3 : (a0.size : Int) ≥ (a1.size : Int)
  · rw [if_pos c3] at H
    have c3b0 : decide ((a1.size : Int) ≤ (a0.size : Int)) = true := decide_eq_true c3
    have c3b1 : decide (a1.size ≤ a0.size) = true := decide_eq_true (Int.ofNat_le.mp c3)
    clear c3
    by_cases c4 : 0 ≤ (a1.size : Int)
    rotate_left
    · rw [if_neg c4] at H; exact absurd H (by simp)
    rw [if_pos c4] at H
    have c4b0 := eq_true c4
    have c4b1 : decide (0 ≤ (a1.size : Int)) = true := decide_eq_true c4
    clear c4
    by_cases c5 : (a1.size : Int) ≤ (a0.size : Int)
    rotate_left
    · rw [if_neg c5] at H; exact absurd H (by simp)
    rw [if_pos c5] at H
    have c5b0 := eq_true c5
    have c5b1 : decide ((a1.size : Int) ≤ (a0.size : Int)) = true := decide_eq_true c5
    clear c5
    obtain rfl := zOi H
    go_enter Tryd.func84, Tryd.ntmps84
    go_wp2
    go_ret
    exact ⟨by first | rfl | (simp; done) | (simp [*]; done), by repeat (first | exact Drawn0.refl _ | apply Drawn0.step)⟩
  · rw [if_neg c3] at H
    have c3b0 : decide ((a1.size : Int) ≤ (a0.size : Int)) = false := decide_eq_false c3
    have c3b1 : decide (a1.size ≤ a0.size) = false := decide_eq_false (fun h => c3 (Int.ofNat_le.mpr h))
    clear c3
    obtain rfl := zOi H
    go_enter Tryd.func84, Tryd.ntmps84
    go_wp2
    go_ret
    exact ⟨by first | rfl | (simp; done) | (simp [*]; done), by repeat (first | exact Drawn0.refl _ | apply Drawn0.step)⟩


def stringslite_CutPrefix.f (a0 : ByteArray) (a1 : ByteArray) : Option (ByteArray × Bool) := (stringslite_HasPrefix.f a0 a1).bind fun t450 => (if t450 = true then (if 0 ≤ (a1.size : Int) then (if (a1.size : Int) ≤ (a0.size : Int) then (some (a0.extract ((a1.size : Int) : Int).toNat a0.size, true)) else (none)) else (none)) else (some (a0, false)))
set_option maxHeartbeats 8000000 in
set_option maxRecDepth 100000 in
theorem stringslite_CutPrefix.calls (a0 : ByteArray) (a1 : ByteArray) (r1 : ByteArray) (r2 : Bool) (w : World) (h : stringslite_CutPrefix.f a0 a1 = some (r1, r2)) :
    Calls Tryd.prog 73 #[.string a0, .string a1] w fun e w' => e = .returned (.tuple #[.string r1, .bool r2]) ∧ Drawn0 w w' := by
  have H : ((stringslite_HasPrefix.f a0 a1).bind fun t450 => (if t450 = true then (if 0 ≤ (a1.size : Int) then (if (a1.size : Int) ≤ (a0.size : Int) then (some (a0.extract ((a1.size : Int) : Int).toNat a0.size, true)) else (none)) else (none)) else (some (a0, false)))) = some (r1, r2) := h
  clear h
  replace H := bnd H
  obtain ⟨t450, A30, H⟩ := H
  have A3 := zMk A30
  clear A30
  by_cases c4 : t450 = true
  · subst c4
    have H1 : (if 0 ≤ (a1.size : Int) then (if (a1.size : Int) ≤ (a0.size : Int) then (some (a0.extract ((a1.size : Int) : Int).toNat a0.size, true)) else (none)) else (none)) = some (r1, r2) := by rw [if_pos rfl] at H; exact H
    clear H
    have H := H1
    clear H1
    by_cases c5 : 0 ≤ (a1.size : Int)
    rotate_left
    · rw [if_neg c5] at H; exact absurd H (by simp)
    rw [if_pos c5] at H
    have c5b0 := eq_true c5
    have c5b1 : decide (0 ≤ (a1.size : Int)) = true := decide_eq_true c5
    clear c5
    by_cases c6 : (a1.size : Int) ≤ (a0.size : Int)
    rotate_left
    · rw [if_neg c6] at H; exact absurd H (by simp)
    rw [if_pos c6] at H
    have c6b0 := eq_true c6
    have c6b1 : decide ((a1.size : Int) ≤ (a0.size : Int)) = true := decide_eq_true c6
    clear c6
    simp only [Option.some.injEq, Prod.mk.injEq] at H
    obtain ⟨rfl, rfl⟩ := H
    go_enter Tryd.func73, Tryd.ntmps73
    go_wp2_with (first | ((with_reducible refine gate_callee (f := 84) rfl ?_); refine goesL_ (some 8) rfl rfl Tryd.func84 (by kernel_rfl) rfl #[.string a0, .string a1] rfl (by (try simp only [zMa, zMc, zMn]); first | done | rfl | (simp only [zLd, zLt]; rfl)) ?_; (with_reducible refine (stringslite_HasPrefix.calls a0 a1 true _ A3.out).mono ?_); rintro e w' ⟨rfl, ⟨nd, rfl⟩⟩; refine ⟨_, rfl, ?_⟩))
    go_ret2
    exact ⟨by first | rfl | (simp; done) | (simp [*]; done), by repeat (first | exact Drawn0.refl _ | apply Drawn0.step)⟩
  · replace c4 := Bool.eq_false_iff.mpr c4
    subst c4
    have H1 : (some (a0, false)) = some (r1, r2) := by rw [if_neg (show ¬ (false = true) by decide)] at H; exact H
    clear H
    have H := H1
    clear H1
    simp only [Option.some.injEq, Prod.mk.injEq] at H
    obtain ⟨rfl, rfl⟩ := H
    go_enter Tryd.func73, Tryd.ntmps73
    go_wp2_with (first | ((with_reducible refine gate_callee (f := 84) rfl ?_); refine goesL_ (some 8) rfl rfl Tryd.func84 (by kernel_rfl) rfl #[.string a0, .string a1] rfl (by (try simp only [zMa, zMc, zMn]); first | done | rfl | (simp only [zLd, zLt]; rfl)) ?_; (with_reducible refine (stringslite_HasPrefix.calls a0 a1 false _ A3.out).mono ?_); rintro e w' ⟨rfl, ⟨nd, rfl⟩⟩; refine ⟨_, rfl, ?_⟩))
    go_ret2
    exact ⟨by first | rfl | (simp; done) | (simp [*]; done), by repeat (first | exact Drawn0.refl _ | apply Drawn0.step)⟩


def strings_CutPrefix.f (a0 : ByteArray) (a1 : ByteArray) : Option (ByteArray × Bool) := (stringslite_CutPrefix.f a0 a1).bind fun bt451 => (some (bt451.1, bt451.2))
set_option maxHeartbeats 8000000 in
set_option maxRecDepth 100000 in
theorem strings_CutPrefix.calls (a0 : ByteArray) (a1 : ByteArray) (r1 : ByteArray) (r2 : Bool) (w : World) (h : strings_CutPrefix.f a0 a1 = some (r1, r2)) :
    Calls Tryd.prog 51 #[.string a0, .string a1] w fun e w' => e = .returned (.tuple #[.string r1, .bool r2]) ∧ Drawn0 w w' := by
  have H : ((stringslite_CutPrefix.f a0 a1).bind fun bt451 => (some (bt451.1, bt451.2))) = some (r1, r2) := h
  clear h
  replace H := bnd H
  obtain ⟨⟨t451, t452⟩, A30, H⟩ := H
  replace H : (some (t451, t452)) = some (r1, r2) := H
  have A3 := zMk A30
  clear A30
  simp only [Option.some.injEq, Prod.mk.injEq] at H
  obtain ⟨rfl, rfl⟩ := H
  go_enter Tryd.func51, Tryd.ntmps51
  go_wp2_with (first | ((with_reducible refine gate_callee (f := 73) rfl ?_); refine goesL_ (some 8) rfl rfl Tryd.func73 (by kernel_rfl) rfl #[.string a0, .string a1] rfl (by (try simp only [zMa, zMc, zMn]); first | done | rfl | (simp only [zLd, zLt]; rfl)) ?_; (with_reducible refine (stringslite_CutPrefix.calls a0 a1 t451 t452 _ A3.out).mono ?_); rintro e w' ⟨rfl, ⟨nd, rfl⟩⟩; refine ⟨_, rfl, ?_⟩))
  go_ret2
  exact ⟨by first | rfl | (simp; done) | (simp [*]; done), by repeat (first | exact Drawn0.refl _ | apply Drawn0.step)⟩


mutual
def n_Mul.l0 : Nat → List Int → List Int → List Int → Int → Int → Option (List Int)
  | 0, _, _, _, _, _ => none
  | k + 1, x1, x5, x22, x23, x24 => if x24 < x23 then (if 0 ≤ x24 then (if x24 < (x22.length : Int) then (n_Mul.l1 k x1 x5 x24 (rd x22 x24) 0 x22 x23 x24 x1 (x1.length : Int) 0) else (none)) else (none)) else ((n_cut.f x5).bind fun t116 => (some t116))
def n_Mul.l1 : Nat → List Int → List Int → Int → Int → Int → List Int → Int → Int → List Int → Int → Int → Option (List Int)
  | 0, _, _, _, _, _, _, _, _, _, _, _ => none
  | k + 1, x1, x5, x6, x7, x8, x22, x23, x24, x29, x30, x31 => if x31 < x30 then (if 0 ≤ x31 then (if x31 < (x29.length : Int) then (if 0 ≤ (wrap64 (x6 + x31)) then (if (wrap64 (x6 + x31)) < (x5.length : Int) then (n_Mul.l1 k x1 (x5.set ((wrap64 (x6 + x31)) : Int).toNat ((IntKind.u64.wrap ((IntKind.u64.wrap ((IntKind.u64.wrap ((IntKind.u64.wrap (x7)) * (IntKind.u64.wrap (rd x29 x31)))) + (IntKind.u64.wrap (rd x5 (wrap64 (x6 + x31)))))) + x8)) % 4294967296)) x6 x7 ((IntKind.u64.wrap ((IntKind.u64.wrap ((IntKind.u64.wrap ((IntKind.u64.wrap (x7)) * (IntKind.u64.wrap (rd x29 x31)))) + (IntKind.u64.wrap (rd x5 (wrap64 (x6 + x31)))))) + x8)) / 4294967296) x22 x23 x24 x29 x30 (wrap64 (x31 + 1))) else (none)) else (none)) else (none)) else (none)) else (if 0 ≤ (wrap64 (x6 + (x1.length : Int))) then (if (wrap64 (x6 + (x1.length : Int))) < (x5.length : Int) then (n_Mul.l0 k x1 (x5.set ((wrap64 (x6 + (x1.length : Int))) : Int).toNat ((x8) % 4294967296)) x22 x23 (wrap64 (x24 + 1))) else (none)) else (none))
end
def n_Mul.f (k : Nat) (l0 : List Int) (l1 : List Int) : Option (List Int) := (n_cut.f l0).bind fun t107 => ((n_cut.f l1).bind fun t110 => (if 0 ≤ (wrap64 ((t107.length : Int) + (t110.length : Int))) then (if (wrap64 ((t107.length : Int) + (t110.length : Int)) : Int).toNat ≤ 70368744177664 then (n_Mul.l0 k t110 (List.replicate (wrap64 ((t107.length : Int) + (t110.length : Int)) : Int).toNat 0) t107 (t107.length : Int) 0) else (none)) else (none)))
set_option maxHeartbeats 8000000 in
set_option maxRecDepth 100000 in
theorem n_Mul.calls (k : Nat) (P0_ : Nat → Prop) (A0 : Option Addr) (c0 : Nat) (l0 : List Int) (P1_ : Nat → Prop) (A1 : Option Addr) (c1 : Nat) (l1 : List Int) (r : List Int) (w : World) (hs0 : Kd.V (Kd.int .u32) 58 w w.heap.size (fun k_ => P0_ k_) (.slice A0 l0.length c0) l0) (hs1 : Kd.V (Kd.int .u32) 58 w w.heap.size (fun k_ => P1_ k_) (.slice A1 l1.length c1) l1) (h : n_Mul.f k l0 l1 = some r) :
    Calls Tryd.prog 45 #[.slice A0 l0.length c0, .slice A1 l1.length c1] w fun e w' => ∃ v0_ : Value, e = .returned (v0_) ∧ Kd.V (Kd.int .u32) 58 w' w.heap.size (fun k_ => ((P0_ k_ ∨ P1_ k_) ∨ w.heap.size ≤ k_)) v0_ r ∧ Below w.heap.size w w' := by
  have HO0 := zMk (show Kd.V (Kd.int .u32) 58 w w.heap.size (fun k_ => ((P0_ k_ ∨ P1_ k_) ∨ w.heap.size ≤ k_)) (.slice A0 l0.length c0) l0 from zVm hs0 (fun k_ hk => .inl (.inl hk)))
  have HO1 := zMk (show Kd.V (Kd.int .u32) 58 w w.heap.size (fun k_ => ((P0_ k_ ∨ P1_ k_) ∨ w.heap.size ≤ k_)) (.slice A1 l1.length c1) l1 from zVm hs1 (fun k_ hk => .inl (.inr hk)))
  have HB := zMk (Below.refl w.heap.size w)
  have H : ((n_cut.f l0).bind fun t107 => ((n_cut.f l1).bind fun t110 => (if 0 ≤ (wrap64 ((t107.length : Int) + (t110.length : Int))) then (if (wrap64 ((t107.length : Int) + (t110.length : Int)) : Int).toNat ≤ 70368744177664 then (n_Mul.l0 k t110 (List.replicate (wrap64 ((t107.length : Int) + (t110.length : Int)) : Int).toNat 0) t107 (t107.length : Int) 0) else (none)) else (none)))) = some r := h
  clear h
  replace H := bnd H
  obtain ⟨t107, A30, H⟩ := H
  have A3 := zMk A30
  clear A30
  replace H := bnd H
  obtain ⟨t110, A40, H⟩ := H
  have A4 := zMk A40
  clear A40
  obtain ⟨ji5, hji5⟩ : ∃ j_ : Int, (wrap64 ((t107.length : Int) + (t110.length : Int))) = j_ := ⟨_, rfl⟩
  replace H : (if 0 ≤ (ji5) then (if (ji5 : Int).toNat ≤ 70368744177664 then (n_Mul.l0 k t110 (List.replicate (ji5 : Int).toNat 0) t107 (t107.length : Int) 0) else (none)) else (none)) = some r := by first | (rw [hji5] at H; exact H) | (simp only [hji5] at H ⊢; exact H)
  (try rw [hji5] at A3)
  (try rw [hji5] at A4)
  have hji5w : (IntKind.i64.wrap ((t107.length : Int) + (t110.length : Int))) = ji5 := (i64_w _).trans hji5
  by_cases c6 : 0 ≤ (ji5)
  · rw [if_pos c6] at H
    have c6b0 := eq_true c6
    have c6b1 : decide (0 ≤ (ji5)) = true := decide_eq_true c6
    clear c6
    by_cases c7 : (ji5 : Int).toNat ≤ 70368744177664
    rotate_left
    · rw [if_neg c7] at H; exact absurd H (by simp)
    rw [if_pos c7] at H
    have c7b0 := eq_true c7
    have c7b1 : decide ((ji5 : Int).toNat ≤ 70368744177664) = true := decide_eq_true c7
    clear c7
    obtain ⟨y113, hy113⟩ : ∃ y_ : List Int, y_ = (List.replicate (ji5 : Int).toNat 0) := ⟨_, rfl⟩
    replace H : (n_Mul.l0 k t110 y113 t107 (t107.length : Int) 0) = some r := by first | (rw [hy113]; with_reducible exact H) | (have H2_ := (zOb _ _).symm.trans H; rw [hy113]; with_reducible exact H2_) | (have H2_ := (zOb _ _).symm.trans H; with_reducible exact H2_) | with_reducible exact H | (rw [hy113]; exact H) | exact H
    have Ny113 := zMk hy113
    clear hy113
    have H' := zMk H
    clear H
    go_enter Tryd.func45, Tryd.ntmps45
    go_wp2_with (first |  ((with_reducible refine gate_callee (f := 56) rfl ?_); refine goesL_ (some 13) rfl rfl Tryd.func56 (by kernel_rfl) rfl #[.slice A0 l0.length c0] rfl (by (try simp only [zMa, zMc, zMn]); first |  done|  rfl|  (simp only [zLd, zLt]; rfl)) ?_; (with_reducible refine (n_cut.calls (fun k_ => ((P0_ k_ ∨ P1_ k_) ∨ w.heap.size ≤ k_)) _ _ l0 t107 _ ?side1 A3.out).mono ?_); (case side1 => exact HO0.out); rintro e w8 ⟨v108, rfl, ho0, hb⟩; refine ⟨_, rfl, ?_⟩; replace HO0 := zMk (zVb (by exact uV HO0.out) hb); replace HO1 := zMk (zVb (by exact uV HO1.out) hb); have HO109 := zMk (zVl (zVm (ok' := fun k_ => ((P0_ k_ ∨ P1_ k_) ∨ w.heap.size ≤ k_)) ho0 (fun k_ hk_ => Or.elim hk_ (fun hs_ => hs_) (fun hn_ => (.inr (Nat.le_trans (zBs (by exact uT HB.out)) hn_))))) (zBs (by exact uT HB.out))); replace HB := zMk (zBt (by exact uT HB.out) hb); (try clear hb); (try clear hb2); (try clear hk); (try clear hi); (try clear ho0))|  ((with_reducible refine gate_callee (f := 56) rfl ?_); refine goesL_ (some 15) rfl rfl Tryd.func56 (by kernel_rfl) rfl #[.slice A1 l1.length c1] rfl (by (try simp only [zMa, zMc, zMn]); first |  done|  rfl|  (simp only [zLd, zLt]; rfl)) ?_; (with_reducible refine (n_cut.calls (fun k_ => ((P0_ k_ ∨ P1_ k_) ∨ w.heap.size ≤ k_)) _ _ l1 t110 _ ?side1 A4.out).mono ?_); (case side1 => exact HO1.out); rintro e w9 ⟨v111, rfl, ho0, hb⟩; refine ⟨_, rfl, ?_⟩; replace HO0 := zMk (zVb (by exact uV HO0.out) hb); replace HO1 := zMk (zVb (by exact uV HO1.out) hb); replace HO109 := zMk (zVb (by exact uV HO109.out) hb); have HO112 := zMk (zVl (zVm (ok' := fun k_ => ((P0_ k_ ∨ P1_ k_) ∨ w.heap.size ≤ k_)) ho0 (fun k_ hk_ => Or.elim hk_ (fun hs_ => hs_) (fun hn_ => (.inr (Nat.le_trans (zBs (by exact uT HB.out)) hn_))))) (zBs (by exact uT HB.out))); replace HB := zMk (zBt (by exact uT HB.out) hb); (try clear hb); (try clear hb2); (try clear hk); (try clear hi); (try clear ho0); obtain ⟨Ao10, co10, eo10⟩ := zVs HO109.out; subst eo10; obtain ⟨Ao11, co11, eo11⟩ := zVs HO112.out; subst eo11)|  ((with_reducible refine gate_dst (N := 21) rfl ?_); refine Kd.R_make (Kd.int .u32) _ 58 rfl (N := 21) rfl 22 _ _ rfl ji5 rfl rfl Tryd.underlying22 (.int .u32 0) 4 info58 rfl (by decide) (by omega) 0 (ok := fun _ => True) (okp := fun _ => True) rfl (fun _ hk => hk) trivial (of_decide_eq_true (by first |  (with_reducible assumption)|  assumption)) (Nat.le_trans (Nat.mul_le_mul_right _ (of_decide_eq_true (by first |  (with_reducible assumption)|  assumption) : ji5.toNat ≤ 70368744177664)) (by omega)) (Below.refl _ _) (Nat.le_refl _) ?_; intro v114 w12 ho13 hb hg_ hnew_; clear hg_ hnew_; (first |  rw [← Ny113.out] at ho13|  (simp only [Int.reduceToNat] at ho13; rw [← Ny113.out] at ho13)); replace HO0 := zMk (zVe (by exact uV HO0.out) (zRz ho13) hb); replace HO1 := zMk (zVe (by exact uV HO1.out) (zRz ho13) hb); replace HO109 := zMk (zVe (by exact uV HO109.out) (zRz ho13) hb); replace HO112 := zMk (zVe (by exact uV HO112.out) (zRz ho13) hb); have HO115 := zMk (zRl (Kd.R_newM (M := fun k_ => (w.heap.size ≤ k_)) ho13 (zBs (by exact uT HB.out)) (fun k_ h_ => h_)) (zBs (by exact uT HB.out))); replace HB := zMk (zBt (by exact uT HB.out) hb); clear hb ho13))
    go_loopg [24] k (fun kq v24 w' => ∃ (x5_1 : List Int) (x24_1 : Int), v24 = .int .i64 x24_1 ∧ Aside0 (n_Mul.l0 kq t110 x5_1 t107 (t107.length : Int) x24_1 = some r) ∧ Aside0 (kq ≤ k) ∧ Aside0 (Kd.V (Kd.int .u32) 58 w' w.heap.size (fun k_ => ((P0_ k_ ∨ P1_ k_) ∨ w.heap.size ≤ k_) ∧ some k_ ≠ (v114 : Value).ownBlock) (.slice Ao11 t110.length co11) t110) ∧ Aside0 (Kd.R (Kd.int .u32) 58 w' w.heap.size (fun k_ => (w.heap.size ≤ k_)) v114 x5_1) ∧ Aside0 (Kd.V (Kd.int .u32) 58 w' w.heap.size (fun k_ => ((P0_ k_ ∨ P1_ k_) ∨ w.heap.size ≤ k_) ∧ some k_ ≠ (v114 : Value).ownBlock) (.slice Ao10 t107.length co10) t107) ∧ Aside0 (Below w.heap.size w w'))
    case atStart => exact ⟨(y113), (0), (by first | rfl | (simp; done) | (simp [*]; done)), H', ⟨Nat.le_refl _⟩, ⟨by exact uV HO112.out⟩, ⟨by (with_reducible repeat (first | apply zRa | apply zRn | apply zRd)); exact zRm HO115.out (fun _ hk => hk.1)⟩, ⟨by exact uV HO109.out⟩, ⟨by exact uT HB.out⟩⟩
    clear H'
    obtain ⟨x5_1, x24_1, rfl, HA, HK1, HO_1, HO_5, HO_22, HB⟩ := hrel
    rcases gk with _ | k1
    · exact absurd HA.out (by simp [n_Mul.l0])
    have H := HA.out
    clear HA
    simp only [n_Mul.l0] at H
    by_cases c14 : x24_1 < (t107.length : Int)
    · rw [if_pos c14] at H
      have c14b0 : decide (x24_1 < (t107.length : Int)) = true := decide_eq_true c14
      clear c14
      by_cases c15 : 0 ≤ x24_1
      rotate_left
      · rw [if_neg c15] at H; exact absurd H (by simp)
      rw [if_pos c15] at H
      have c15b0 : decide (0 ≤ x24_1) = true := decide_eq_true c15
      clear c15
      by_cases c16 : x24_1 < (t107.length : Int)
      rotate_left
      · rw [if_neg c16] at H; exact absurd H (by simp)
      rw [if_pos c16] at H
      have c16b0 : decide (x24_1 < (t107.length : Int)) = true := decide_eq_true c16
      clear c16
      have H' := zMk H
      clear H
      have p119 : 0 ≤ (x24_1 : Int) := of_decide_eq_true (by first | (with_reducible assumption) | assumption)
      have q119 : x24_1 < (t107.length : Int) := of_decide_eq_true (by first | (with_reducible assumption) | assumption)
      obtain ⟨ad119, e119, hx119_0⟩ := zAi (zVr HO_22.out).2.2 x24_1 p119 q119
      cases e119
      replace p119 := eq_true p119
      replace q119 := eq_true q119
      go_wp2
      go_loopg [8, 31] k1 (fun kq v8 v31 w' => ∃ (x5_2 : List Int) (x8_2 : Int) (x31_2 : Int), v8 = .int .u64 x8_2 ∧ v31 = .int .i64 x31_2 ∧ Aside0 (n_Mul.l1 kq t110 x5_2 x24_1 (rd t107 x24_1) x8_2 t107 (t107.length : Int) x24_1 t110 (t110.length : Int) x31_2 = some r) ∧ Aside0 (kq ≤ k1) ∧ Aside0 (Kd.V (Kd.int .u32) 58 w' w.heap.size (fun k_ => ((P0_ k_ ∨ P1_ k_) ∨ w.heap.size ≤ k_) ∧ some k_ ≠ (v114 : Value).ownBlock) (.slice Ao11 t110.length co11) t110) ∧ Aside0 (Kd.R (Kd.int .u32) 58 w' w.heap.size (fun k_ => (w.heap.size ≤ k_)) v114 x5_2) ∧ Aside0 (Kd.V (Kd.int .u32) 58 w' w.heap.size (fun k_ => ((P0_ k_ ∨ P1_ k_) ∨ w.heap.size ≤ k_) ∧ some k_ ≠ (v114 : Value).ownBlock) (.slice (some ad119) t107.length co10) t107) ∧ Aside0 (Kd.V (Kd.int .u32) 58 w' w.heap.size (fun k_ => ((P0_ k_ ∨ P1_ k_) ∨ w.heap.size ≤ k_) ∧ some k_ ≠ (v114 : Value).ownBlock) (.slice Ao11 t110.length co11) t110) ∧ Aside0 (Below w.heap.size w w'))
      case atStart => exact ⟨(x5_1), (0), (0), (by first | rfl | (simp; done) | (simp [*]; done)), (by first | rfl | (simp; done) | (simp [*]; done)), H', ⟨Nat.le_refl _⟩, ⟨by exact uV HO_1.out⟩, ⟨by exact uR HO_5.out⟩, ⟨by exact uV HO_22.out⟩, ⟨by exact uV HO_1.out⟩, ⟨by exact uT HB.out⟩⟩
      clear H'
      obtain ⟨x5_2, x8_2, x31_2, rfl, rfl, HA, HK2, HO_1, HO_5, HO_22, HO_29, HB⟩ := hrel
      rcases gk with _ | k2
      · exact absurd HA.out (by simp [n_Mul.l1])
      have H := HA.out
      clear HA
      simp only [n_Mul.l1] at H
      by_cases c17 : x31_2 < (t110.length : Int)
      · rw [if_pos c17] at H
        have c17b0 : decide (x31_2 < (t110.length : Int)) = true := decide_eq_true c17
        clear c17
        by_cases c18 : 0 ≤ x31_2
        rotate_left
        · rw [if_neg c18] at H; exact absurd H (by simp)
        rw [if_pos c18] at H
        have c18b0 : decide (0 ≤ x31_2) = true := decide_eq_true c18
        clear c18
        by_cases c19 : x31_2 < (t110.length : Int)
        rotate_left
        · rw [if_neg c19] at H; exact absurd H (by simp)
        rw [if_pos c19] at H
        have c19b0 : decide (x31_2 < (t110.length : Int)) = true := decide_eq_true c19
        clear c19
        obtain ⟨ji20, hji20⟩ : ∃ j_ : Int, (wrap64 (x24_1 + x31_2)) = j_ := ⟨_, rfl⟩
        replace H : (if 0 ≤ (ji20) then (if (ji20) < (x5_2.length : Int) then (n_Mul.l1 k2 t110 (x5_2.set ((ji20) : Int).toNat ((IntKind.u64.wrap ((IntKind.u64.wrap ((IntKind.u64.wrap ((IntKind.u64.wrap ((rd t107 x24_1))) * (IntKind.u64.wrap (rd t110 x31_2)))) + (IntKind.u64.wrap (rd x5_2 (ji20))))) + x8_2)) % 4294967296)) x24_1 (rd t107 x24_1) ((IntKind.u64.wrap ((IntKind.u64.wrap ((IntKind.u64.wrap ((IntKind.u64.wrap ((rd t107 x24_1))) * (IntKind.u64.wrap (rd t110 x31_2)))) + (IntKind.u64.wrap (rd x5_2 (ji20))))) + x8_2)) / 4294967296) t107 (t107.length : Int) x24_1 t110 (t110.length : Int) (wrap64 (x31_2 + 1))) else (none)) else (none)) = some r := by first | (rw [hji20] at H; exact H) | (simp only [hji20] at H ⊢; exact H)
        have hji20w : (IntKind.i64.wrap (x24_1 + x31_2)) = ji20 := (i64_w _).trans hji20
        by_cases c21 : 0 ≤ (ji20)
        rotate_left
        · rw [if_neg c21] at H; exact absurd H (by simp)
        rw [if_pos c21] at H
        have c21b0 : decide (0 ≤ (ji20)) = true := decide_eq_true c21
        clear c21
        by_cases c22 : (ji20) < (x5_2.length : Int)
        rotate_left
        · rw [if_neg c22] at H; exact absurd H (by simp)
        rw [if_pos c22] at H
        have c22b0 : decide ((ji20) < (x5_2.length : Int)) = true := decide_eq_true c22
        clear c22
        obtain ⟨y122, hy122⟩ : ∃ y_ : List Int, y_ = (x5_2.set ((ji20) : Int).toNat ((IntKind.u64.wrap ((IntKind.u64.wrap ((IntKind.u64.wrap ((IntKind.u64.wrap ((rd t107 x24_1))) * (IntKind.u64.wrap (rd t110 x31_2)))) + (IntKind.u64.wrap (rd x5_2 (ji20))))) + x8_2)) % 4294967296)) := ⟨_, rfl⟩
        replace H : (n_Mul.l1 k2 t110 y122 x24_1 (rd t107 x24_1) ((IntKind.u64.wrap ((IntKind.u64.wrap ((IntKind.u64.wrap ((IntKind.u64.wrap ((rd t107 x24_1))) * (IntKind.u64.wrap (rd t110 x31_2)))) + (IntKind.u64.wrap (rd x5_2 (ji20))))) + x8_2)) / 4294967296) t107 (t107.length : Int) x24_1 t110 (t110.length : Int) (wrap64 (x31_2 + 1))) = some r := by first | (rw [hy122]; with_reducible exact H) | (have H2_ := (zOb _ _).symm.trans H; rw [hy122]; with_reducible exact H2_) | (have H2_ := (zOb _ _).symm.trans H; with_reducible exact H2_) | with_reducible exact H | (rw [hy122]; exact H) | exact H
        have Ny122 := zMk hy122
        clear hy122
        have H' := zMk H
        clear H
        have p120 : 0 ≤ (x31_2 : Int) := of_decide_eq_true (by first | (with_reducible assumption) | assumption)
        have q120 : x31_2 < (t110.length : Int) := of_decide_eq_true (by first | (with_reducible assumption) | assumption)
        obtain ⟨ad120, e120, hx120_0⟩ := zAi (zVr HO_29.out).2.2 x31_2 p120 q120
        cases e120
        replace p120 := eq_true p120
        replace q120 := eq_true q120
        obtain ⟨Ao24, co24, eo24⟩ := zRs HO_5.out
        subst eo24
        have p121 : 0 ≤ ((ji20) : Int) := of_decide_eq_true (by first | (with_reducible assumption) | assumption)
        have q121 : (ji20) < (x5_2.length : Int) := of_decide_eq_true (by first | (with_reducible assumption) | assumption)
        obtain ⟨ad121, e121, hx121_0⟩ := zAi (zRr HO_5.out).2.2 (ji20) p121 q121
        cases e121
        replace p121 := eq_true p121
        replace q121 := eq_true q121
        have p23 : 0 ≤ ((ji20) : Int) := of_decide_eq_true (by first | (with_reducible assumption) | assumption)
        have q23 : ((ji20) : Int) < ((x5_2.length : Int) : Int) := of_decide_eq_true (by first | (with_reducible assumption) | assumption)
        obtain ⟨go23, co23, eo23, gb23, gl23, cl23, HG23⟩ := Kd.R_form HO_5.out (by omega)
        (first |  cases eo23|  (injection eo23 with ea_ en_ ec_; (first |  subst ea_|  (injection ea_ with ea_; subst ea_)); subst ec_; clear en_))
        have GB23 := zMk gb23
        have IGB23 := ownGe GB23.out
        have GG23 := zMk HG23
        clear gb23 gl23 HG23
        (first | simp only [add_plain] at hx121_0 | skip)
        obtain ⟨hx23_0, hf23_0⟩ := Kd.R_celln 0 HO_5.out ((ji20) : Int) p23 q23
        replace p23 := eq_true p23
        replace q23 := eq_true q23
        have HP25 := Kd.R_putg HO_5.out ((ji20) : Int) ((IntKind.u64.wrap ((IntKind.u64.wrap ((IntKind.u64.wrap ((IntKind.u64.wrap ((rd t107 x24_1))) * (IntKind.u64.wrap (rd t110 x31_2)))) + (IntKind.u64.wrap (rd x5_2 (ji20))))) + x8_2)) % 4294967296)
        go_wp2_with (first |  ((with_reducible refine gate_store (t := 58) (p := 59) rfl ?_); refine store_event (t := 58) (p := 59) (v := ?vo_w26) (w1 := (wr.setCell ⟨go23, ((ji20) : Int).toNat, none⟩ (.int .u32 ((IntKind.u64.wrap ((IntKind.u64.wrap ((IntKind.u64.wrap ((IntKind.u64.wrap ((rd t107 x24_1))) * (IntKind.u64.wrap (rd t110 x31_2)))) + (IntKind.u64.wrap (rd x5_2 (ji20))))) + x8_2)) % 4294967296)))) ?hg ?ho ?hn ?hr ?_; (case ho => rfl); (case hg => rfl); (case hn => rfl); (case hr => first |  (go_simp; done)|  (go_simp; rfl)|  (go_simp; rw [show ∀ x : Int, IntKind.u32.wrap (IntKind.u8.wrap x) = x % 256 from fun x => (by show (x % 256) % 4294967296 = x % 256; omega)])); intro w26 hw; have hg : wr.grownBy w26 (some go23) := (by rw [hw]; exact HP25.2); have hp_ : Kd.R (Kd.int .u32) 58 w26 w.heap.size (fun k_ => (w.heap.size ≤ k_)) (.slice (some ⟨go23, 0, none⟩) x5_2.length co24) y122 := (by rw [hw, Ny122.out]; exact HP25.1); clear HP25; replace HO_1 := zMk (Kd.V_afterv (v := (.slice (some ⟨go23, 0, none⟩) x5_2.length co24)) (v1 := (.slice (some ⟨go23, 0, none⟩) x5_2.length co24)) (ok := (fun k_ => ((P0_ k_ ∨ P1_ k_) ∨ w.heap.size ≤ k_))) (by exact uV HO_1.out) hg (.inl rfl)); replace HO_5 := zMk (hp_); replace HO_22 := zMk (Kd.V_afterv (v := (.slice (some ⟨go23, 0, none⟩) x5_2.length co24)) (v1 := (.slice (some ⟨go23, 0, none⟩) x5_2.length co24)) (ok := (fun k_ => ((P0_ k_ ∨ P1_ k_) ∨ w.heap.size ≤ k_))) (by exact uV HO_22.out) hg (.inl rfl)); replace HO_29 := zMk (Kd.V_afterv (v := (.slice (some ⟨go23, 0, none⟩) x5_2.length co24)) (v1 := (.slice (some ⟨go23, 0, none⟩) x5_2.length co24)) (ok := (fun k_ => ((P0_ k_ ∨ P1_ k_) ∨ w.heap.size ≤ k_))) (by exact uV HO_29.out) hg (.inl rfl)); replace HB := zMk ((by rw [hw]; exact below_set (HB.out) GB23.out : Below w.heap.size w w26)); clear hg hw hp_))
        go_roundg k2
        case measure => have := HK1.out; have := HK2.out; omega
        case rel => exact ⟨(y122), ((IntKind.u64.wrap ((IntKind.u64.wrap ((IntKind.u64.wrap ((IntKind.u64.wrap ((rd t107 x24_1))) * (IntKind.u64.wrap (rd t110 x31_2)))) + (IntKind.u64.wrap (rd x5_2 (ji20))))) + x8_2)) / 4294967296), (wrap64 (x31_2 + 1)), (by first | rfl | (simp; done) | (simp only [← hji20] <;> (first | rfl | simp)) | (simp [*]; done)), (by first | rfl | (simp; done) | (simp [*]; done)), H', ⟨by have := HK1.out; have := HK2.out; omega⟩, ⟨by exact uV HO_1.out⟩, ⟨by exact uR HO_5.out⟩, ⟨by exact uV HO_22.out⟩, ⟨by exact uV HO_29.out⟩, ⟨by exact uT HB.out⟩⟩
      · rw [if_neg c17] at H
        have c17b0 : decide (x31_2 < (t110.length : Int)) = false := decide_eq_false c17
        clear c17
        obtain ⟨ji27, hji27⟩ : ∃ j_ : Int, (wrap64 (x24_1 + (t110.length : Int))) = j_ := ⟨_, rfl⟩
        replace H : (if 0 ≤ (ji27) then (if (ji27) < (x5_2.length : Int) then (n_Mul.l0 k2 t110 (x5_2.set ((ji27) : Int).toNat ((x8_2) % 4294967296)) t107 (t107.length : Int) (wrap64 (x24_1 + 1))) else (none)) else (none)) = some r := by first | (rw [hji27] at H; exact H) | (simp only [hji27] at H ⊢; exact H)
        have hji27w : (IntKind.i64.wrap (x24_1 + (t110.length : Int))) = ji27 := (i64_w _).trans hji27
        by_cases c28 : 0 ≤ (ji27)
        rotate_left
        · rw [if_neg c28] at H; exact absurd H (by simp)
        rw [if_pos c28] at H
        have c28b0 : decide (0 ≤ (ji27)) = true := decide_eq_true c28
        clear c28
        by_cases c29 : (ji27) < (x5_2.length : Int)
        rotate_left
        · rw [if_neg c29] at H; exact absurd H (by simp)
        rw [if_pos c29] at H
        have c29b0 : decide ((ji27) < (x5_2.length : Int)) = true := decide_eq_true c29
        clear c29
        obtain ⟨y123, hy123⟩ : ∃ y_ : List Int, y_ = (x5_2.set ((ji27) : Int).toNat ((x8_2) % 4294967296)) := ⟨_, rfl⟩
        replace H : (n_Mul.l0 k2 t110 y123 t107 (t107.length : Int) (wrap64 (x24_1 + 1))) = some r := by first | (rw [hy123]; with_reducible exact H) | (have H2_ := (zOb _ _).symm.trans H; rw [hy123]; with_reducible exact H2_) | (have H2_ := (zOb _ _).symm.trans H; with_reducible exact H2_) | with_reducible exact H | (rw [hy123]; exact H) | exact H
        have Ny123 := zMk hy123
        clear hy123
        have H' := zMk H
        clear H
        have p30 : 0 ≤ ((ji27) : Int) := of_decide_eq_true (by first | (with_reducible assumption) | assumption)
        have q30 : ((ji27) : Int) < ((x5_2.length : Int) : Int) := of_decide_eq_true (by first | (with_reducible assumption) | assumption)
        obtain ⟨go30, co30, eo30, gb30, gl30, cl30, HG30⟩ := Kd.R_form HO_5.out (by omega)
        (first |  cases eo30|  (injection eo30 with ea_ en_ ec_; (first |  subst ea_|  (injection ea_ with ea_; subst ea_)); subst ec_; clear en_))
        have GB30 := zMk gb30
        have IGB30 := ownGe GB30.out
        have GG30 := zMk HG30
        clear gb30 gl30 HG30
        obtain ⟨hx30_0, hf30_0⟩ := Kd.R_celln 0 HO_5.out ((ji27) : Int) p30 q30
        replace p30 := eq_true p30
        replace q30 := eq_true q30
        have HP31 := Kd.R_putg HO_5.out ((ji27) : Int) ((x8_2) % 4294967296)
        go_wp2_with (first |  ((with_reducible refine gate_store (t := 58) (p := 68) rfl ?_); refine store_event (t := 58) (p := 68) (v := ?vo_w32) (w1 := (wr.setCell ⟨go30, ((ji27) : Int).toNat, none⟩ (.int .u32 ((x8_2) % 4294967296)))) ?hg ?ho ?hn ?hr ?_; (case ho => rfl); (case hg => rfl); (case hn => rfl); (case hr => first |  (go_simp; done)|  (go_simp; rfl)|  (go_simp; rw [show ∀ x : Int, IntKind.u32.wrap (IntKind.u8.wrap x) = x % 256 from fun x => (by show (x % 256) % 4294967296 = x % 256; omega)])); intro w32 hw; have hg : wr.grownBy w32 (some go30) := (by rw [hw]; exact HP31.2); have hp_ : Kd.R (Kd.int .u32) 58 w32 w.heap.size (fun k_ => (w.heap.size ≤ k_)) (.slice (some ⟨go30, 0, none⟩) x5_2.length co30) y123 := (by rw [hw, Ny123.out]; exact HP31.1); clear HP31; replace HO_1 := zMk (Kd.V_afterv (v := (.slice (some ⟨go30, 0, none⟩) x5_2.length co30)) (v1 := (.slice (some ⟨go30, 0, none⟩) x5_2.length co30)) (ok := (fun k_ => ((P0_ k_ ∨ P1_ k_) ∨ w.heap.size ≤ k_))) (by exact uV HO_1.out) hg (.inl rfl)); replace HO_5 := zMk (hp_); replace HO_22 := zMk (Kd.V_afterv (v := (.slice (some ⟨go30, 0, none⟩) x5_2.length co30)) (v1 := (.slice (some ⟨go30, 0, none⟩) x5_2.length co30)) (ok := (fun k_ => ((P0_ k_ ∨ P1_ k_) ∨ w.heap.size ≤ k_))) (by exact uV HO_22.out) hg (.inl rfl)); replace HO_29 := zMk (Kd.V_afterv (v := (.slice (some ⟨go30, 0, none⟩) x5_2.length co30)) (v1 := (.slice (some ⟨go30, 0, none⟩) x5_2.length co30)) (ok := (fun k_ => ((P0_ k_ ∨ P1_ k_) ∨ w.heap.size ≤ k_))) (by exact uV HO_29.out) hg (.inl rfl)); replace HB := zMk ((by rw [hw]; exact below_set (HB.out) GB30.out : Below w.heap.size w w32)); clear hg hw hp_))
        go_roundg k2
        case measure => have := HK1.out; have := HK2.out; omega
        case rel => exact ⟨(y123), (wrap64 (x24_1 + 1)), (by first | rfl | (simp; done) | (simp [*]; done)), H', ⟨by have := HK1.out; have := HK2.out; omega⟩, ⟨by exact uV HO_1.out⟩, ⟨by exact uR HO_5.out⟩, ⟨by exact uV HO_22.out⟩, ⟨by exact uT HB.out⟩⟩
    · rw [if_neg c14] at H
      have c14b0 : decide (x24_1 < (t107.length : Int)) = false := decide_eq_false c14
      clear c14
      replace H := bnd H
      obtain ⟨t116, A330, H⟩ := H
      have A33 := zMk A330
      clear A330
      obtain rfl := zOi H
      obtain ⟨Ao34, co34, eo34⟩ := zRs HO_5.out
      subst eo34
      go_wp2_with (first |  ((with_reducible refine gate_callee (f := 56) rfl ?_); refine goesL_ (some 71) rfl rfl Tryd.func56 (by kernel_rfl) rfl #[.slice Ao34 x5_1.length co34] rfl (by (try simp only [zMa, zMc, zMn]); first |  done|  rfl|  (simp only [zLd, zLt]; rfl)) ?_; (with_reducible refine (n_cut.calls (fun k_ => some k_ = (.slice Ao34 x5_1.length co34 : Value).ownBlock) _ _ x5_1 t116 _ ?side1 A33.out).mono ?_); (case side1 => exact Kd.R_V (Kd.R_tight rfl (HO_5.out))); rintro e w35 ⟨v117, rfl, ho0, hb⟩; refine ⟨_, rfl, ?_⟩; replace HO_1 := zMk (zVb (by exact uV HO_1.out) hb); replace HO_22 := zMk (zVb (by exact uV HO_22.out) hb); have HO118 := zMk (zVl (zVm (ok' := fun k_ => ((P0_ k_ ∨ P1_ k_) ∨ w.heap.size ≤ k_)) ho0 (fun k_ hk_ => Or.elim hk_ (fun hs_ => (.inr (((HO_5.out).1 k_ hs_.symm)))) (fun hn_ => (.inr (Nat.le_trans (zBs (by exact uT HB.out)) hn_))))) (zBs (by exact uT HB.out))); replace HO_5 := zMk (zRb (by exact uR HO_5.out) hb); replace HB := zMk (zBt (by exact uT HB.out) hb); (try clear hb); (try clear hb2); (try clear hk); (try clear hi); (try clear ho0)))
      go_ret
      exact ⟨_, by first | rfl | (simp [errW_none, errW_some] <;> rfl) | (simp only [← hji5]; first | rfl | (simp [errW_none, errW_some] <;> rfl)) | (simp [*, errW_none, errW_some] <;> rfl), by exact uV HO118.out, by exact uT HB.out⟩
  · rw [if_neg c6] at H
    exact absurd H (by simp)



theorem n_Parse.conv (s : ByteArray) (w : World) : (convert 9 67 (.string s)).run Tryd.prog w = .ok (.slice (some ⟨w.heap.size, 0, none⟩) s.size (grownCap w s.size 0 5)) (Lib.bytesWorld w 5 s) := Lib.run_convert_string_bytes w 9 67 5 s Tryd.underlying9 Tryd.underlying67 Tryd.underlying5
theorem n_Parse.below (w : World) (s : ByteArray) : Below w.heap.size w (Lib.bytesWorld (w.alloc (.cells #[.int .u32 10] 77)) 5 s) :=
  ⟨rfl, rfl, rfl, by rw [Lib.bytesWorld_size, World.size_alloc]; omega, fun k hk => by
    rw [Lib.bytesWorld_at_old _ _ _ _ (by rw [World.size_alloc]; omega)]
    exact (zBa (Below.refl w.heap.size w) _).block k hk⟩
theorem n_Parse.vbase {d : Kd Int} {e : Nat} {W : World} {b b' : Nat} {ok : Nat → Prop} {v : Value} {xs : List Int} (h : Kd.V d e W b ok v xs) : Kd.V d e W b' ok v xs := h
theorem n_Parse.step {w w1 W : World} (h1 : Below w.heap.size w w1) (h2 : Below w1.heap.size w1 W) : Below w.heap.size w W :=
  h1.trans (h2.mono h1.size)
theorem n_Parse.le {n : Nat} {w1 W : World} (hz : w1.heap.size = n + 2) (h2 : Below w1.heap.size w1 W) : n ≤ W.heap.size := by have := h2.size; omega
theorem n_Parse.ten (w : World) (s : ByteArray) : ∀ W, Below (Lib.bytesWorld (w.alloc (.cells #[.int .u32 10] 77)) 5 s).heap.size (Lib.bytesWorld (w.alloc (.cells #[.int .u32 10] 77)) 5 s) W → Kd.F (Kd.int .u32) W (fun k => w.heap.size ≤ k) (some ⟨w.heap.size, 0, none⟩) [(10 : Int)].length [(10 : Int)] := by
  intro W hb W' hW
  have hsz : (Lib.bytesWorld (w.alloc (.cells #[.int .u32 10] 77)) 5 s).heap.size = w.heap.size + 2 := by rw [Lib.bytesWorld_size, World.size_alloc]
  have h1 := hb.size
  have h2 := hb.block w.heap.size (by omega)
  have h3 := hW w.heap.size (Nat.le_refl _) (by omega)
  rw [h2, Lib.bytesWorld_at_old _ _ _ _ (by rw [World.size_alloc]; omega)] at h3
  have h4 : (w.alloc (.cells #[.int .u32 10] 77)).heap[w.heap.size]? = some (.cells #[.int .u32 10] 77) := by simp [World.alloc, -World.alloc_eq]
  rw [h4] at h3
  refine ⟨rfl, by simp, fun _ => ⟨_, rfl, fun j p hj => ?_⟩⟩
  cases j with
  | zero =>
    obtain rfl : 10 = p := by simpa using hj
    refine ⟨[.int .u32 10], rfl, rfl, fun i u hu => ?_⟩
    cases i with
    | zero =>
      obtain rfl : Value.int .u32 10 = u := by simpa using hu
      simp [World.cell?, h3, Addr.add]
    | succ i => simp at hu
  | succ j => simp at hj
theorem n_Parse.bytes (w : World) (s : ByteArray) : ∀ W, Below (Lib.bytesWorld (w.alloc (.cells #[.int .u32 10] 77)) 5 s).heap.size (Lib.bytesWorld (w.alloc (.cells #[.int .u32 10] 77)) 5 s) W → ∀ i : Int, 0 ≤ i → i < (s.size : Int) → W.cell? ((⟨w.heap.size + 1, 0, none⟩ : Addr).add i.toNat) = some (.int .u8 (bt s i)) := by
  intro W hb i h0 h1
  have hsz : (w.alloc (.cells #[.int .u32 10] 77)).heap.size = w.heap.size + 1 := by rw [World.size_alloc]
  have hc := Lib.bytesWorld_cell (w.alloc (.cells #[.int .u32 10] 77)) 5 s i.toNat (by omega)
  have hc2 := (hb.cell (World.block_lt_of_cell? _ _ hc)).trans hc
  rw [hsz] at hc2
  have : ((⟨w.heap.size + 1, 0, none⟩ : Addr).add i.toNat) = ⟨w.heap.size + 1, i.toNat, none⟩ := by
    unfold Addr.add
    split
    · rename_i h; rw [h]
    · simp
  rw [this, hc2, ← bt_at s i (by omega)]
  have hl : i.toNat < s.data.toList.length := by rw [Array.length_toList]; show i.toNat < s.size; omega
  rw [List.getD_eq_getElem?_getD, List.getElem?_eq_getElem hl]
  simp
  rfl
section
attribute [local go_sem] n_Parse.conv
def n_Parse.l (k : Nat) (s : ByteArray) : Nat → List Int → Int → Option (List Int × Int)
  | 0, _, _ => none
  | d + 1, out, i => if i < (s.size : Int) then if 0 ≤ i then (if bt s i < 48 then some ([], 2) else if bt s i > 57 then some ([], 2) else (n_Mul.f k out [10]).bind fun a => (n_Of.f (bt s i - 48)).bind fun b => (n_Add.f k a b).bind fun c => n_Parse.l k s d c (wrap64 (i + 1))) else none else some (out, 0)
def n_Parse.f (k : Nat) (a0 : ByteArray) : Option (List Int × Int) := if a0.size = 0 then some ([], 2) else if 1 < a0.size ∧ bt a0 0 = 48 then some ([], 2) else n_Parse.l k a0 (a0.size + 1) [] 0
set_option maxHeartbeats 4000000 in
set_option maxRecDepth 100000 in
theorem n_Parse.calls (k : Nat) (a0 : ByteArray) (r1 : List Int) (r2 : Int) (w : World) (h : n_Parse.f k a0 = some (r1, r2)) :
    Calls Tryd.prog 52 #[.string a0] w fun e w' => ∃ v0_ : Value, e = .returned (.tuple #[v0_, .int .i64 r2]) ∧ Kd.V (Kd.int .u32) 58 w' w.heap.size (fun k_ => (w.heap.size ≤ k_)) v0_ r1 ∧ Below w.heap.size w w' := by
  have HH := zMk h
  clear h
  have he : a0.toList.isEmpty = (decide (a0.size = 0)) := by
    have hs : a0.size = a0.data.toList.length := by rw [Array.length_toList]; rfl
    rw [ByteArray.toList_eq, hs]
    cases a0.data.toList <;> simp
  by_cases c1 : a0.size = 0
  · have hH := HH.out
    unfold n_Parse.f at hH
    rw [if_pos c1] at hH
    simp only [Option.some.injEq, Prod.mk.injEq] at hH
    obtain ⟨rfl, rfl⟩ := hH
    rw [decide_eq_true c1] at he
    go_enter Tryd.func52, Tryd.ntmps52
    go_wp2_with (fail)
    go_ret2
    exact ⟨_, rfl, Kd.V_nil _ _ _ _ _, Below.refl _ _⟩
  rw [decide_eq_false c1] at he
  have hx6 : ∀ h : 0 < a0.size, ((a0[0]'h).toNat : Int) = bt a0 0 := bt_at a0 0
  have p6 : (0 < a0.size) = True := eq_true (by omega)
  by_cases c3 : 1 < a0.size ∧ bt a0 0 = 48
  · have hH := HH.out
    unfold n_Parse.f at hH
    rw [if_neg c1, if_pos c3] at hH
    simp only [Option.some.injEq, Prod.mk.injEq] at hH
    obtain ⟨rfl, rfl⟩ := hH
    have c2b : decide (1 < (a0.size : Int)) = true := decide_eq_true (by omega)
    have c2c : decide (1 < a0.size) = true := decide_eq_true c3.1
    have c3b : (bt a0 0 == 48) = true := beq_iff_eq.mpr c3.2
    go_enter Tryd.func52, Tryd.ntmps52
    go_wp2_with (fail)
    go_ret2
    exact ⟨_, rfl, Kd.V_nil _ _ _ _ _, Below.refl _ _⟩
  have hH := HH.out
  unfold n_Parse.f at hH
  rw [if_neg c1, if_neg c3] at hH
  clear HH
  have HH := zMk hH
  clear hH
  have hb6 := bt_range a0 0
  go_enter Tryd.func52, Tryd.ntmps52
  go_upto_region 1 with (fail)
  go_cut [19] (fun v19 wc => v19 = .bool false ∧ wc = w)
  case first =>
    by_cases c2 : 1 < a0.size
    · have c3n : ¬ bt a0 0 = 48 := fun h => c3 ⟨c2, h⟩
      have c2b : decide (1 < (a0.size : Int)) = true := decide_eq_true (by omega)
      have c2c : decide (1 < a0.size) = true := decide_eq_true c2
      have c3b : (bt a0 0 == 48) = false := beq_eq_false_iff_ne.mpr c3n
      go_wp2_with (fail)
      go_meet
      case rel => exact ⟨rfl, rfl⟩
    · have c2b : decide (1 < (a0.size : Int)) = false := decide_eq_false (by omega)
      have c2c : decide (1 < a0.size) = false := decide_eq_false c2
      go_wp2_with (fail)
      go_meet
      case rel => exact ⟨rfl, rfl⟩
  case rest =>
    obtain ⟨e1, e2⟩ := hcut
    subst e1
    rw [e2]
    clear e2
    go_wp2_with (fail)
    have hB1 : Below w.heap.size w (Lib.bytesWorld (w.alloc (.cells #[.int .u32 10] 77)) 5 a0) := n_Parse.below w a0
    have hten := n_Parse.ten w a0
    have hby := n_Parse.bytes w a0
    have hsz : (Lib.bytesWorld (w.alloc (.cells #[.int .u32 10] 77)) 5 a0).heap.size = w.heap.size + 2 := by rw [Lib.bytesWorld_size, World.size_alloc]
    generalize Lib.bytesWorld (w.alloc (.cells #[.int .u32 10] 77)) 5 a0 = w1 at hB1 hten hby hsz ⊢
    generalize grownCap (w.alloc (.cells #[.int .u32 10] 77)) a0.size 0 5 = cp
    generalize (⟨w.heap.size + 1, 0, none⟩ : Addr) = adb at hby ⊢
    have HB1 := zMk hB1
    have HT := zMk hten
    have HY := zMk hby
    have HZ := zMk hsz
    clear hB1 hten hby hsz he hb6 hx6 p6
    go_loopg [4, 24] (a0.size + 1) (fun kq v4 v24 w' => ∃ (out : List Int) (i : Int), v24 = .int .i64 i ∧ Aside0 (n_Parse.l k a0 kq out i = some (r1, r2)) ∧ Aside0 (Kd.V (Kd.int .u32) 58 w' w1.heap.size (fun k_ => w.heap.size ≤ k_) v4 out) ∧ Aside0 (Below w1.heap.size w1 w'))
    case atStart => exact ⟨[], 0, rfl, HH, ⟨Kd.V_nil _ _ _ _ _⟩, ⟨Below.refl _ _⟩⟩
    clear HH
    obtain ⟨out, i, rfl, HA, HO, HB⟩ := hrel
    rcases gk with _ | d
    · exact absurd HA.out (by simp [n_Parse.l])
    have H := HA.out
    clear HA
    simp only [n_Parse.l] at H
    by_cases c8 : i < (a0.size : Int)
    · rw [if_pos c8] at H
      have c8b : decide (i < (a0.size : Int)) = true := decide_eq_true c8
      by_cases hi0 : 0 ≤ i
      rotate_left
      · rw [if_neg hi0] at H; exact absurd H (by simp)
      rw [if_pos hi0] at H
      have hx := (HY.out _ HB.out) i hi0 c8
      have p1 := eq_true hi0
      have p2 := eq_true c8
      have p3 : decide (0 ≤ i) = true := decide_eq_true hi0
      by_cases c9 : bt a0 i < 48
      · rw [if_pos c9] at H
        simp only [Option.some.injEq, Prod.mk.injEq] at H
        obtain ⟨rfl, rfl⟩ := H
        have c9b : decide (bt a0 i < 48) = true := decide_eq_true c9
        clear c9 c8 hi0
        go_wp2_with (fail)
        go_ret2
        exact ⟨_, rfl, Kd.V_nil _ _ _ _ _, n_Parse.step HB1.out HB.out⟩
      rw [if_neg c9] at H
      have c9b : decide (bt a0 i < 48) = false := decide_eq_false c9
      by_cases c10 : bt a0 i > 57
      · rw [if_pos c10] at H
        simp only [Option.some.injEq, Prod.mk.injEq] at H
        obtain ⟨rfl, rfl⟩ := H
        have c10b : decide (57 < bt a0 i) = true := decide_eq_true c10
        clear c9 c10 c8 hi0
        go_wp2_with (fail)
        go_ret2
        exact ⟨_, rfl, Kd.V_nil _ _ _ _ _, n_Parse.step HB1.out HB.out⟩
      rw [if_neg c10] at H
      have c10b : decide (57 < bt a0 i) = false := decide_eq_false c10
      obtain ⟨ta, hA, H⟩ := bnd H
      obtain ⟨tb, hBq, H⟩ := bnd H
      obtain ⟨tc, hC, H⟩ := bnd H
      have AA := zMk hA
      have AB := zMk hBq
      have AC := zMk hC
      have H' := zMk H
      have hw8 : (bt a0 i - 48) % 256 = bt a0 i - 48 := by have := bt_range a0 i; omega
      clear hA hBq hC H c9 c10 c8 hi0
      obtain ⟨Ao, co, eo⟩ := zVs HO.out
      subst eo
      go_wp2_with (first |  (go_at_call 45; refine (n_Mul.calls k (fun k_ => w.heap.size ≤ k_) Ao co out (fun k_ => w.heap.size ≤ k_) (some ⟨w.heap.size, 0, none⟩) 1 [10] ta _ (n_Parse.vbase HO.out) (Kd.V_mk (xs := [(10 : Int)]) (Nat.le_refl _) (HT.out _ HB.out)) AA.out).mono ?_; rintro e w2 ⟨va, rfl, ha, hb⟩; have HA2 := zMk (zVm (ok' := fun k_ => w.heap.size ≤ k_) ha (fun _ h => h.elim (fun h => h.elim id id) (fun h => Nat.le_trans (n_Parse.le HZ.out HB.out) h))); replace HB := zMk (zBt HB.out hb); clear HO ha hb)|  (go_at_call 34; refine (n_Of.calls (bt a0 i - 48) tb _ AB.out).mono ?_; rintro e w3 ⟨vb, rfl, ha, hb⟩; have HB2 := zMk (zVm (ok' := fun k_ => w.heap.size ≤ k_) ha (fun _ h => Nat.le_trans (n_Parse.le HZ.out HB.out) h)); replace HB := zMk (zBt HB.out hb); replace HA2 := zMk (zVb HA2.out hb); clear ha hb; obtain ⟨A3, c3_, e3⟩ := zVs HA2.out; subst e3; obtain ⟨A4, c4_, e4⟩ := zVs HB2.out; subst e4)|  (go_at_call 33; refine (n_Add.calls k (fun k_ => w.heap.size ≤ k_) A3 c3_ ta (fun k_ => w.heap.size ≤ k_) A4 c4_ tb tc _ (n_Parse.vbase HA2.out) (n_Parse.vbase HB2.out) AC.out).mono ?_; rintro e w4 ⟨vc, rfl, ha, hb⟩; have HO := zMk (zVm (ok' := fun k_ => w.heap.size ≤ k_) ha (fun _ h => h.elim (fun h => h.elim id id) (fun h => Nat.le_trans (n_Parse.le HZ.out HB.out) h))); replace HB := zMk (zBt HB.out hb); clear HA2 HB2 ha hb))
      go_roundg d
      case measure => omega
      case rel => exact ⟨tc, wrap64 (i + 1), rfl, H', ⟨n_Parse.vbase HO.out⟩, HB⟩
    · rw [if_neg c8] at H
      simp only [Option.some.injEq, Prod.mk.injEq] at H
      obtain ⟨rfl, rfl⟩ := H
      have c8b : decide (i < (a0.size : Int)) = false := decide_eq_false c8
      clear c8
      go_wp2_with (fail)
      go_ret2
      exact ⟨_, rfl, n_Parse.vbase HO.out, n_Parse.step HB1.out HB.out⟩
end


def integer_Parse.f (k : Nat) (a0 : ByteArray) : Option (Bool × List Int × Int) := (strings_CutPrefix.f a0 (⟨#[45]⟩ : ByteArray)).bind fun bt454 => ((n_Parse.f k bt454.1).bind fun bt456 => (if bt456.2 = 0 then (if bt454.2 = true then (if (bt456.1.length : Int) = 0 then (some (false, ([] : List Int), 2)) else ((integer_signed.f bt454.2 bt456.1).bind fun bt460 => (some (bt460.1, bt460.2, 0)))) else ((integer_signed.f bt454.2 bt456.1).bind fun bt464 => (some (bt464.1, bt464.2, 0)))) else (some (false, ([] : List Int), 2))))
set_option maxHeartbeats 8000000 in
set_option maxRecDepth 100000 in
theorem integer_Parse.calls (k : Nat) (a0 : ByteArray) (r1 : Bool) (r2 : List Int) (r3 : Int) (w : World) (h : integer_Parse.f k a0 = some (r1, r2, r3)) :
    Calls Tryd.prog 27 #[.string a0] w fun e w' => ∃ v1_ : Value, e = .returned (.tuple #[.agg #[.bool r1, v1_], .int .i64 r3]) ∧ Kd.R (Kd.int .u32) 58 w' w.heap.size (fun _ => True) v1_ r2 ∧ Below w.heap.size w w' := by
  have hu24 := Tryd.underlying24
  have HB := zMk (Below.refl w.heap.size w)
  have H : ((strings_CutPrefix.f a0 (⟨#[45]⟩ : ByteArray)).bind fun bt454 => ((n_Parse.f k bt454.1).bind fun bt456 => (if bt456.2 = 0 then (if bt454.2 = true then (if (bt456.1.length : Int) = 0 then (some (false, ([] : List Int), 2)) else ((integer_signed.f bt454.2 bt456.1).bind fun bt460 => (some (bt460.1, bt460.2, 0)))) else ((integer_signed.f bt454.2 bt456.1).bind fun bt464 => (some (bt464.1, bt464.2, 0)))) else (some (false, ([] : List Int), 2))))) = some (r1, r2, r3) := h
  clear h
  replace H := bnd H
  obtain ⟨⟨t454, t455⟩, A20, H⟩ := H
  replace H : ((n_Parse.f k t454).bind fun bt456 => (if bt456.2 = 0 then (if t455 = true then (if (bt456.1.length : Int) = 0 then (some (false, ([] : List Int), 2)) else ((integer_signed.f t455 bt456.1).bind fun bt460 => (some (bt460.1, bt460.2, 0)))) else ((integer_signed.f t455 bt456.1).bind fun bt464 => (some (bt464.1, bt464.2, 0)))) else (some (false, ([] : List Int), 2)))) = some (r1, r2, r3) := H
  have A2 := zMk A20
  clear A20
  replace H := bnd H
  obtain ⟨⟨t456, t459⟩, A30, H⟩ := H
  replace H : (if t459 = 0 then (if t455 = true then (if (t456.length : Int) = 0 then (some (false, ([] : List Int), 2)) else ((integer_signed.f t455 t456).bind fun bt460 => (some (bt460.1, bt460.2, 0)))) else ((integer_signed.f t455 t456).bind fun bt464 => (some (bt464.1, bt464.2, 0)))) else (some (false, ([] : List Int), 2))) = some (r1, r2, r3) := H
  have A3 := zMk A30
  clear A30
  by_cases c4 : t459 = 0
  · rw [if_pos c4] at H
    have c4b0 : (t459 == 0) = true := beq_iff_eq.mpr c4
    have c4b1 : (t459 != 0) = false := bne_eq_false_iff_eq.mpr c4
    clear c4
    by_cases c5 : t455 = true
    · subst c5
      have H1 : (if (t456.length : Int) = 0 then (some (false, ([] : List Int), 2)) else ((integer_signed.f true t456).bind fun bt460 => (some (bt460.1, bt460.2, 0)))) = some (r1, r2, r3) := by rw [if_pos rfl] at H; exact H
      clear H
      have H := H1
      clear H1
      by_cases c6 : (t456.length : Int) = 0
      · rw [if_pos c6] at H
        have c6b0 : ((t456.length : Int) == 0) = true := beq_iff_eq.mpr c6
        have c6b1 : ((t456.length : Int) != 0) = false := bne_eq_false_iff_eq.mpr c6
        clear c6
        simp only [Option.some.injEq, Prod.mk.injEq] at H
        obtain ⟨rfl, rfl, rfl⟩ := H
        go_enter Tryd.func27, Tryd.ntmps27
        go_wp2_with (first |  ((with_reducible refine gate_dst (N := 2) rfl ?_); (try (refine gate_guard (by rfl) ?_; dsimp only)); refine box_event ?hg (N := 2) ?hd (cs := #[.bool false, .slice none 0 0]) (t := 24) ?hr ?_; (case hd => rfl); (case hg => rfl); (case hr => first |  (go_simp; done)|  (go_simp; rfl)|  (go_simp; rw [show ∀ x : Int, IntKind.u32.wrap (IntKind.u8.wrap x) = x % 256 from fun x => (by show (x % 256) % 4294967296 = x % 256; omega)])); intro gb453 hg w7 hbox hb; have BK453 := zMk (hbox); have GW453 := zMk ((by rw [hg]; exact (zBs (by exact uT HB.out)) : w.heap.size ≤ gb453)); have GE453 := zMk ((by rw [hg]; exact (zBs (by exact uT HB.out)) : w.heap.size ≤ gb453)); have IGE453 := ownGe GE453.out; replace HB := zMk (zBt (by exact uT HB.out) hb); clear hb hbox hg)|  ((with_reducible refine gate_callee (f := 51) rfl ?_); refine goesL_ (some 10) rfl rfl Tryd.func51 (by kernel_rfl) rfl #[.string a0, .string (⟨#[45]⟩ : ByteArray)] rfl (by (try simp only [zMa, zMc, zMn]); first |  done|  rfl|  (simp only [zLd, zLt]; rfl)) ?_; (with_reducible refine (strings_CutPrefix.calls a0 (⟨#[45]⟩ : ByteArray) t454 true _ A2.out).mono ?_); rintro e w' ⟨rfl, ⟨nd, rfl⟩⟩; refine ⟨_, rfl, ?_⟩; (try (rw [drewN_self w7]; generalize hq_ : World.drewN w7 _ = w7; have n0_ : Aside0 (w7.heap[gb453]? = some (.cells #[.bool false, .slice none 0 0] 24 (0, 0))) := ⟨by rw [← hq_]; exact (by (with_reducible repeat (first |  refine zKn ?_ _|  refine zKd ?_|  refine zKa ?_ _)); exact BK453.out)⟩; have n1_ : Aside0 (Below w.heap.size w w7) := ⟨by rw [← hq_]; exact (by exact uT HB.out)⟩; clear BK453 HB hq_; have BK453 := n0_; have HB := n1_; clear n0_ n1_)))|  ((with_reducible refine gate_callee (f := 52) rfl ?_); refine goesL_ (some 15) rfl rfl Tryd.func52 (by kernel_rfl) rfl #[.string t454] rfl (by (try simp only [zMa, zMc, zMn]); first |  done|  rfl|  (simp only [zLd, zLt]; rfl)) ?_; (with_reducible refine (n_Parse.calls k t454 t456 t459 _ A3.out).mono ?_); rintro e w8 ⟨v457, rfl, ho0, hb⟩; refine ⟨_, rfl, ?_⟩; have HO458 := zMk (zVl (zVm (ok' := fun k_ => k_ ≠ gb453) ho0 (fun k_ hk_ => (Kd.freshB (g := gb453) (o := .cells #[.bool false, .slice none 0 0] 24 (0, 0)) (by (with_reducible repeat (first |  refine zKn ?_ _|  refine zKd ?_|  refine zKa ?_ _)); exact BK453.out) k_ hk_))) (zBs (by exact uT HB.out))); replace BK453 := zMk (zKb (g := gb453) (o := .cells #[.bool false, .slice none 0 0] 24 (0, 0)) (by (with_reducible repeat (first |  refine zKn ?_ _|  refine zKd ?_|  refine zKa ?_ _)); exact BK453.out) hb); replace HB := zMk (zBt (by exact uT HB.out) hb); (try clear hb); (try clear hb2); (try clear hk); (try clear hi); (try clear ho0); obtain ⟨Ao9, co9, eo9⟩ := zVs HO458.out; subst eo9; have hcz10_0 : w8.cell? ⟨gb453, 0, none⟩ = some (.bool false) := (zKc BK453.out 0).trans rfl; have hcz10_1 : w8.cell? ⟨gb453, 1, none⟩ = some (.slice none 0 0) := (zKc BK453.out 1).trans rfl; have hfz10_0 := zKf BK453.out 0; have hfz10_1 := zKf BK453.out 1))
        refine bodyPost_ret (results_ct rfl _ _ gb453 24 #[.bool false, .slice none 0 0] (0, 0) _ rfl (by (with_reducible repeat (first | refine zKn ?_ _ | refine zKd ?_ | refine zKa ?_ _)); refine blk_put (cs := #[.bool false, .slice none 0 0]) ?_ 1 _ rfl; (with_reducible repeat (first | refine zKn ?_ _ | refine zKd ?_ | refine zKa ?_ _)); refine blk_put (cs := #[.bool false, .slice none 0 0]) ?_ 0 _ rfl; (with_reducible repeat (first | refine zKn ?_ _ | refine zKd ?_ | refine zKa ?_ _)); exact BK453.out) Tryd.underlying24 rfl (by kernel_rfl)) rfl ?_
        exact ⟨_, by first | rfl | (simp [errW_none, errW_some] <;> rfl) | (simp [*, errW_none, errW_some] <;> rfl), by first | exact Kd.R_nil _ _ _ _ _ | exact Kd.N_nil _ _ _ _ _ | exact Kd.V_nil _ _ _ _ _ | exact Kd.Q_nil _ _ _ _ _ | exact Kd.S_nil _ _ _ _ _, by exact uT HB.out⟩
      · rw [if_neg c6] at H
        have c6b0 : ((t456.length : Int) == 0) = false := beq_eq_false_iff_ne.mpr c6
        have c6b1 : ((t456.length : Int) != 0) = true := bne_iff_ne.mpr c6
        have c6b2 : ¬ (t456 = []) := fun h_ => c6 (by rw [h_]; rfl)
        replace H := bnd H
        obtain ⟨⟨t460, t461⟩, A110, H⟩ := H
        replace H : (some (t460, t461, 0)) = some (r1, r2, r3) := H
        have A11 := zMk A110
        clear A110
        simp only [Option.some.injEq, Prod.mk.injEq] at H
        obtain ⟨rfl, rfl, rfl⟩ := H
        go_enter Tryd.func27, Tryd.ntmps27
        go_wp2_with (first |  ((with_reducible refine gate_dst (N := 2) rfl ?_); (try (refine gate_guard (by rfl) ?_; dsimp only)); refine box_event ?hg (N := 2) ?hd (cs := #[.bool false, .slice none 0 0]) (t := 24) ?hr ?_; (case hd => rfl); (case hg => rfl); (case hr => first |  (go_simp; done)|  (go_simp; rfl)|  (go_simp; rw [show ∀ x : Int, IntKind.u32.wrap (IntKind.u8.wrap x) = x % 256 from fun x => (by show (x % 256) % 4294967296 = x % 256; omega)])); intro gb453 hg w12 hbox hb; have BK453 := zMk (hbox); have GW453 := zMk ((by rw [hg]; exact (zBs (by exact uT HB.out)) : w.heap.size ≤ gb453)); have GE453 := zMk ((by rw [hg]; exact (zBs (by exact uT HB.out)) : w.heap.size ≤ gb453)); have IGE453 := ownGe GE453.out; replace HB := zMk (zBt (by exact uT HB.out) hb); clear hb hbox hg)|  ((with_reducible refine gate_callee (f := 51) rfl ?_); refine goesL_ (some 10) rfl rfl Tryd.func51 (by kernel_rfl) rfl #[.string a0, .string (⟨#[45]⟩ : ByteArray)] rfl (by (try simp only [zMa, zMc, zMn]); first |  done|  rfl|  (simp only [zLd, zLt]; rfl)) ?_; (with_reducible refine (strings_CutPrefix.calls a0 (⟨#[45]⟩ : ByteArray) t454 true _ A2.out).mono ?_); rintro e w' ⟨rfl, ⟨nd, rfl⟩⟩; refine ⟨_, rfl, ?_⟩; (try (rw [drewN_self w12]; generalize hq_ : World.drewN w12 _ = w12; have n0_ : Aside0 (w12.heap[gb453]? = some (.cells #[.bool false, .slice none 0 0] 24 (0, 0))) := ⟨by rw [← hq_]; exact (by (with_reducible repeat (first |  refine zKn ?_ _|  refine zKd ?_|  refine zKa ?_ _)); exact BK453.out)⟩; have n1_ : Aside0 (Below w.heap.size w w12) := ⟨by rw [← hq_]; exact (by exact uT HB.out)⟩; clear BK453 HB hq_; have BK453 := n0_; have HB := n1_; clear n0_ n1_)))|  ((with_reducible refine gate_callee (f := 52) rfl ?_); refine goesL_ (some 15) rfl rfl Tryd.func52 (by kernel_rfl) rfl #[.string t454] rfl (by (try simp only [zMa, zMc, zMn]); first |  done|  rfl|  (simp only [zLd, zLt]; rfl)) ?_; (with_reducible refine (n_Parse.calls k t454 t456 t459 _ A3.out).mono ?_); rintro e w13 ⟨v457, rfl, ho0, hb⟩; refine ⟨_, rfl, ?_⟩; have HO458 := zMk (zVl (zVm (ok' := fun k_ => k_ ≠ gb453) ho0 (fun k_ hk_ => (Kd.freshB (g := gb453) (o := .cells #[.bool false, .slice none 0 0] 24 (0, 0)) (by (with_reducible repeat (first |  refine zKn ?_ _|  refine zKd ?_|  refine zKa ?_ _)); exact BK453.out) k_ hk_))) (zBs (by exact uT HB.out))); replace BK453 := zMk (zKb (g := gb453) (o := .cells #[.bool false, .slice none 0 0] 24 (0, 0)) (by (with_reducible repeat (first |  refine zKn ?_ _|  refine zKd ?_|  refine zKa ?_ _)); exact BK453.out) hb); replace HB := zMk (zBt (by exact uT HB.out) hb); (try clear hb); (try clear hb2); (try clear hk); (try clear hi); (try clear ho0); obtain ⟨Ao14, co14, eo14⟩ := zVs HO458.out; subst eo14)|  ((with_reducible refine gate_callee (f := 36) rfl ?_); refine goesL_ (some 31) rfl rfl Tryd.func36 (by kernel_rfl) rfl #[.bool true, .slice Ao14 t456.length co14] rfl (by (try simp only [zMa, zMc, zMn]); first |  done|  rfl|  (simp only [zLd, zLt]; rfl)) ?_; (with_reducible refine (integer_signed.calls true _ _ t456 t460 t461 _ ?side1 ?side2 A11.out).mono ?_); (case side1 => exact uC (zVr HO458.out).2.2); (case side2 => exact (zVr HO458.out).2.1); rintro e w15 ⟨v462, rfl, ho0, hb⟩; refine ⟨_, rfl, ?_⟩; replace HO458 := zMk (zVe (by exact uV HO458.out) (zRz ho0) hb); have HO463 := zMk (zRl ho0 (zBs (by exact uT HB.out))); replace BK453 := zMk (zKb (g := gb453) (o := .cells #[.bool false, .slice none 0 0] 24 (0, 0)) (by (with_reducible repeat (first |  refine zKn ?_ _|  refine zKd ?_|  refine zKa ?_ _)); exact BK453.out) hb); replace HB := zMk (zBt (by exact uT HB.out) hb); (try clear hb); (try clear hb2); (try clear hk); (try clear hi); (try clear ho0); have hcz16_0 : w15.cell? ⟨gb453, 0, none⟩ = some (.bool false) := (zKc BK453.out 0).trans rfl; have hcz16_1 : w15.cell? ⟨gb453, 1, none⟩ = some (.slice none 0 0) := (zKc BK453.out 1).trans rfl; have hfz16_0 := zKf BK453.out 0; have hfz16_1 := zKf BK453.out 1; obtain ⟨Ao17, co17, eo17⟩ := zRs HO463.out; subst eo17))
        refine bodyPost_ret (results_ct rfl _ _ gb453 24 #[.bool t460, .slice Ao17 t461.length co17] (0, 0) _ rfl (by (with_reducible repeat (first | refine zKn ?_ _ | refine zKd ?_ | refine zKa ?_ _)); refine blk_put (cs := #[.bool t460, .slice none 0 0]) ?_ 1 _ rfl; (with_reducible repeat (first | refine zKn ?_ _ | refine zKd ?_ | refine zKa ?_ _)); refine blk_put (cs := #[.bool false, .slice none 0 0]) ?_ 0 _ rfl; (with_reducible repeat (first | refine zKn ?_ _ | refine zKd ?_ | refine zKa ?_ _)); exact BK453.out) Tryd.underlying24 rfl (by kernel_rfl)) rfl ?_
        exact ⟨_, by first | rfl | (simp [errW_none, errW_some] <;> rfl) | (simp [*, errW_none, errW_some] <;> rfl), by (with_reducible repeat (first | apply zRa | apply zRn | apply zRd)); exact zRm (Kd.R_far (p := ⟨gb453, 1, none⟩) (Kd.R_far (p := ⟨gb453, 0, none⟩) (Kd.R_types HO463.out BK453.out (by decide)) (fun _ hk => hk.2) (.bool t460)) (fun _ hk => hk.2) (.slice Ao17 t461.length co17)) (fun _ hk => trivial), by exact uT HB.out⟩
    · replace c5 := Bool.eq_false_iff.mpr c5
      subst c5
      have H1 : ((integer_signed.f false t456).bind fun bt464 => (some (bt464.1, bt464.2, 0))) = some (r1, r2, r3) := by rw [if_neg (show ¬ (false = true) by decide)] at H; exact H
      clear H
      have H := H1
      clear H1
      replace H := bnd H
      obtain ⟨⟨t464, t465⟩, A180, H⟩ := H
      replace H : (some (t464, t465, 0)) = some (r1, r2, r3) := H
      have A18 := zMk A180
      clear A180
      simp only [Option.some.injEq, Prod.mk.injEq] at H
      obtain ⟨rfl, rfl, rfl⟩ := H
      go_enter Tryd.func27, Tryd.ntmps27
      go_wp2_with (first |  ((with_reducible refine gate_dst (N := 2) rfl ?_); (try (refine gate_guard (by rfl) ?_; dsimp only)); refine box_event ?hg (N := 2) ?hd (cs := #[.bool false, .slice none 0 0]) (t := 24) ?hr ?_; (case hd => rfl); (case hg => rfl); (case hr => first |  (go_simp; done)|  (go_simp; rfl)|  (go_simp; rw [show ∀ x : Int, IntKind.u32.wrap (IntKind.u8.wrap x) = x % 256 from fun x => (by show (x % 256) % 4294967296 = x % 256; omega)])); intro gb453 hg w19 hbox hb; have BK453 := zMk (hbox); have GW453 := zMk ((by rw [hg]; exact (zBs (by exact uT HB.out)) : w.heap.size ≤ gb453)); have GE453 := zMk ((by rw [hg]; exact (zBs (by exact uT HB.out)) : w.heap.size ≤ gb453)); have IGE453 := ownGe GE453.out; replace HB := zMk (zBt (by exact uT HB.out) hb); clear hb hbox hg)|  ((with_reducible refine gate_callee (f := 51) rfl ?_); refine goesL_ (some 10) rfl rfl Tryd.func51 (by kernel_rfl) rfl #[.string a0, .string (⟨#[45]⟩ : ByteArray)] rfl (by (try simp only [zMa, zMc, zMn]); first |  done|  rfl|  (simp only [zLd, zLt]; rfl)) ?_; (with_reducible refine (strings_CutPrefix.calls a0 (⟨#[45]⟩ : ByteArray) t454 false _ A2.out).mono ?_); rintro e w' ⟨rfl, ⟨nd, rfl⟩⟩; refine ⟨_, rfl, ?_⟩; (try (rw [drewN_self w19]; generalize hq_ : World.drewN w19 _ = w19; have n0_ : Aside0 (w19.heap[gb453]? = some (.cells #[.bool false, .slice none 0 0] 24 (0, 0))) := ⟨by rw [← hq_]; exact (by (with_reducible repeat (first |  refine zKn ?_ _|  refine zKd ?_|  refine zKa ?_ _)); exact BK453.out)⟩; have n1_ : Aside0 (Below w.heap.size w w19) := ⟨by rw [← hq_]; exact (by exact uT HB.out)⟩; clear BK453 HB hq_; have BK453 := n0_; have HB := n1_; clear n0_ n1_)))|  ((with_reducible refine gate_callee (f := 52) rfl ?_); refine goesL_ (some 15) rfl rfl Tryd.func52 (by kernel_rfl) rfl #[.string t454] rfl (by (try simp only [zMa, zMc, zMn]); first |  done|  rfl|  (simp only [zLd, zLt]; rfl)) ?_; (with_reducible refine (n_Parse.calls k t454 t456 t459 _ A3.out).mono ?_); rintro e w20 ⟨v457, rfl, ho0, hb⟩; refine ⟨_, rfl, ?_⟩; have HO458 := zMk (zVl (zVm (ok' := fun k_ => k_ ≠ gb453) ho0 (fun k_ hk_ => (Kd.freshB (g := gb453) (o := .cells #[.bool false, .slice none 0 0] 24 (0, 0)) (by (with_reducible repeat (first |  refine zKn ?_ _|  refine zKd ?_|  refine zKa ?_ _)); exact BK453.out) k_ hk_))) (zBs (by exact uT HB.out))); replace BK453 := zMk (zKb (g := gb453) (o := .cells #[.bool false, .slice none 0 0] 24 (0, 0)) (by (with_reducible repeat (first |  refine zKn ?_ _|  refine zKd ?_|  refine zKa ?_ _)); exact BK453.out) hb); replace HB := zMk (zBt (by exact uT HB.out) hb); (try clear hb); (try clear hb2); (try clear hk); (try clear hi); (try clear ho0); obtain ⟨Ao21, co21, eo21⟩ := zVs HO458.out; subst eo21)|  ((with_reducible refine gate_callee (f := 36) rfl ?_); refine goesL_ (some 31) rfl rfl Tryd.func36 (by kernel_rfl) rfl #[.bool false, .slice Ao21 t456.length co21] rfl (by (try simp only [zMa, zMc, zMn]); first |  done|  rfl|  (simp only [zLd, zLt]; rfl)) ?_; (with_reducible refine (integer_signed.calls false _ _ t456 t464 t465 _ ?side1 ?side2 A18.out).mono ?_); (case side1 => exact uC (zVr HO458.out).2.2); (case side2 => exact (zVr HO458.out).2.1); rintro e w22 ⟨v466, rfl, ho0, hb⟩; refine ⟨_, rfl, ?_⟩; replace HO458 := zMk (zVe (by exact uV HO458.out) (zRz ho0) hb); have HO467 := zMk (zRl ho0 (zBs (by exact uT HB.out))); replace BK453 := zMk (zKb (g := gb453) (o := .cells #[.bool false, .slice none 0 0] 24 (0, 0)) (by (with_reducible repeat (first |  refine zKn ?_ _|  refine zKd ?_|  refine zKa ?_ _)); exact BK453.out) hb); replace HB := zMk (zBt (by exact uT HB.out) hb); (try clear hb); (try clear hb2); (try clear hk); (try clear hi); (try clear ho0); have hcz23_0 : w22.cell? ⟨gb453, 0, none⟩ = some (.bool false) := (zKc BK453.out 0).trans rfl; have hcz23_1 : w22.cell? ⟨gb453, 1, none⟩ = some (.slice none 0 0) := (zKc BK453.out 1).trans rfl; have hfz23_0 := zKf BK453.out 0; have hfz23_1 := zKf BK453.out 1; obtain ⟨Ao24, co24, eo24⟩ := zRs HO467.out; subst eo24))
      refine bodyPost_ret (results_ct rfl _ _ gb453 24 #[.bool t464, .slice Ao24 t465.length co24] (0, 0) _ rfl (by (with_reducible repeat (first | refine zKn ?_ _ | refine zKd ?_ | refine zKa ?_ _)); refine blk_put (cs := #[.bool t464, .slice none 0 0]) ?_ 1 _ rfl; (with_reducible repeat (first | refine zKn ?_ _ | refine zKd ?_ | refine zKa ?_ _)); refine blk_put (cs := #[.bool false, .slice none 0 0]) ?_ 0 _ rfl; (with_reducible repeat (first | refine zKn ?_ _ | refine zKd ?_ | refine zKa ?_ _)); exact BK453.out) Tryd.underlying24 rfl (by kernel_rfl)) rfl ?_
      exact ⟨_, by first | rfl | (simp [errW_none, errW_some] <;> rfl) | (simp [*, errW_none, errW_some] <;> rfl), by (with_reducible repeat (first | apply zRa | apply zRn | apply zRd)); exact zRm (Kd.R_far (p := ⟨gb453, 1, none⟩) (Kd.R_far (p := ⟨gb453, 0, none⟩) (Kd.R_types HO467.out BK453.out (by decide)) (fun _ hk => hk.2) (.bool t464)) (fun _ hk => hk.2) (.slice Ao24 t465.length co24)) (fun _ hk => trivial), by exact uT HB.out⟩
  · rw [if_neg c4] at H
    have c4b0 : (t459 == 0) = false := beq_eq_false_iff_ne.mpr c4
    have c4b1 : (t459 != 0) = true := bne_iff_ne.mpr c4
    simp only [Option.some.injEq, Prod.mk.injEq] at H
    obtain ⟨rfl, rfl, rfl⟩ := H
    go_enter Tryd.func27, Tryd.ntmps27
    go_wp2_with (first |  ((with_reducible refine gate_dst (N := 2) rfl ?_); (try (refine gate_guard (by rfl) ?_; dsimp only)); refine box_event ?hg (N := 2) ?hd (cs := #[.bool false, .slice none 0 0]) (t := 24) ?hr ?_; (case hd => rfl); (case hg => rfl); (case hr => first |  (go_simp; done)|  (go_simp; rfl)|  (go_simp; rw [show ∀ x : Int, IntKind.u32.wrap (IntKind.u8.wrap x) = x % 256 from fun x => (by show (x % 256) % 4294967296 = x % 256; omega)])); intro gb453 hg w25 hbox hb; have BK453 := zMk (hbox); have GW453 := zMk ((by rw [hg]; exact (zBs (by exact uT HB.out)) : w.heap.size ≤ gb453)); have GE453 := zMk ((by rw [hg]; exact (zBs (by exact uT HB.out)) : w.heap.size ≤ gb453)); have IGE453 := ownGe GE453.out; replace HB := zMk (zBt (by exact uT HB.out) hb); clear hb hbox hg)|  ((with_reducible refine gate_callee (f := 51) rfl ?_); refine goesL_ (some 10) rfl rfl Tryd.func51 (by kernel_rfl) rfl #[.string a0, .string (⟨#[45]⟩ : ByteArray)] rfl (by (try simp only [zMa, zMc, zMn]); first |  done|  rfl|  (simp only [zLd, zLt]; rfl)) ?_; (with_reducible refine (strings_CutPrefix.calls a0 (⟨#[45]⟩ : ByteArray) t454 t455 _ A2.out).mono ?_); rintro e w' ⟨rfl, ⟨nd, rfl⟩⟩; refine ⟨_, rfl, ?_⟩; (try (rw [drewN_self w25]; generalize hq_ : World.drewN w25 _ = w25; have n0_ : Aside0 (w25.heap[gb453]? = some (.cells #[.bool false, .slice none 0 0] 24 (0, 0))) := ⟨by rw [← hq_]; exact (by (with_reducible repeat (first |  refine zKn ?_ _|  refine zKd ?_|  refine zKa ?_ _)); exact BK453.out)⟩; have n1_ : Aside0 (Below w.heap.size w w25) := ⟨by rw [← hq_]; exact (by exact uT HB.out)⟩; clear BK453 HB hq_; have BK453 := n0_; have HB := n1_; clear n0_ n1_)))|  ((with_reducible refine gate_callee (f := 52) rfl ?_); refine goesL_ (some 15) rfl rfl Tryd.func52 (by kernel_rfl) rfl #[.string t454] rfl (by (try simp only [zMa, zMc, zMn]); first |  done|  rfl|  (simp only [zLd, zLt]; rfl)) ?_; (with_reducible refine (n_Parse.calls k t454 t456 t459 _ A3.out).mono ?_); rintro e w26 ⟨v457, rfl, ho0, hb⟩; refine ⟨_, rfl, ?_⟩; have HO458 := zMk (zVl (zVm (ok' := fun k_ => k_ ≠ gb453) ho0 (fun k_ hk_ => (Kd.freshB (g := gb453) (o := .cells #[.bool false, .slice none 0 0] 24 (0, 0)) (by (with_reducible repeat (first |  refine zKn ?_ _|  refine zKd ?_|  refine zKa ?_ _)); exact BK453.out) k_ hk_))) (zBs (by exact uT HB.out))); replace BK453 := zMk (zKb (g := gb453) (o := .cells #[.bool false, .slice none 0 0] 24 (0, 0)) (by (with_reducible repeat (first |  refine zKn ?_ _|  refine zKd ?_|  refine zKa ?_ _)); exact BK453.out) hb); replace HB := zMk (zBt (by exact uT HB.out) hb); (try clear hb); (try clear hb2); (try clear hk); (try clear hi); (try clear ho0); have hcz27_0 : w26.cell? ⟨gb453, 0, none⟩ = some (.bool false) := (zKc BK453.out 0).trans rfl; have hcz27_1 : w26.cell? ⟨gb453, 1, none⟩ = some (.slice none 0 0) := (zKc BK453.out 1).trans rfl; have hfz27_0 := zKf BK453.out 0; have hfz27_1 := zKf BK453.out 1))
    refine bodyPost_ret (results_ct rfl _ _ gb453 24 #[.bool false, .slice none 0 0] (0, 0) _ rfl (by (with_reducible repeat (first | refine zKn ?_ _ | refine zKd ?_ | refine zKa ?_ _)); refine blk_put (cs := #[.bool false, .slice none 0 0]) ?_ 1 _ rfl; (with_reducible repeat (first | refine zKn ?_ _ | refine zKd ?_ | refine zKa ?_ _)); refine blk_put (cs := #[.bool false, .slice none 0 0]) ?_ 0 _ rfl; (with_reducible repeat (first | refine zKn ?_ _ | refine zKd ?_ | refine zKa ?_ _)); exact BK453.out) Tryd.underlying24 rfl (by kernel_rfl)) rfl ?_
    exact ⟨_, by first | rfl | (simp [errW_none, errW_some] <;> rfl) | (simp [*, errW_none, errW_some] <;> rfl), by first | exact Kd.R_nil _ _ _ _ _ | exact Kd.N_nil _ _ _ _ _ | exact Kd.V_nil _ _ _ _ _ | exact Kd.Q_nil _ _ _ _ _ | exact Kd.S_nil _ _ _ _ _, by exact uT HB.out⟩


def filigreeref02_Add.f (k : Nat) (a0_0 : Bool) (l0_1 : List Int) (a1_0 : Bool) (l1_1 : List Int) : Option (Bool × List Int) := if (a0_0 == a1_0) = true then ((r1_Add.f k l0_1 l1_1).bind fun t652 => ((filigreeref02_make2.f k a0_0 t652).bind fun bt655 => (some (bt655.1, bt655.2)))) else ((r1_Cmp.f k l0_1 l1_1).bind fun t659 => (if t659 ≥ 0 then ((r1_Sub.f k l0_1 l1_1).bind fun bt660 => ((filigreeref02_make2.f k a0_0 bt660.1).bind fun bt664 => (some (bt664.1, bt664.2)))) else ((r1_Sub.f k l1_1 l0_1).bind fun bt668 => ((filigreeref02_make2.f k a1_0 bt668.1).bind fun bt672 => (some (bt672.1, bt672.2))))))
def filigreeref02_Add.T2 : Bool × List (List Nat × List Nat) := (true, [([], []), ([0], [0]), ([], []), ([2], [2]), ([], []), ([4], [4]), ([3, 5], [3, 5]), ([1, 6, 6], [1, 6]), ([7, 7, 0, 1, 2, 3, 4, 5, 6, 7], [7])])
def filigreeref02_Add.B2 : List Nat := [0, 1, 0, 4, 0, 16, 60, 127, 255]
theorem filigreeref02_Add.tab2 : rtab .any (opsOf Tryd.f18 2) = filigreeref02_Add.T2 := by kernel_rfl
theorem filigreeref02_Add.bits2 : waitsOk filigreeref02_Add.T2.2 filigreeref02_Add.B2 = true := by kernel_rfl
set_option maxHeartbeats 8000000 in
set_option maxRecDepth 100000 in
theorem filigreeref02_Add.calls (k : Nat) (a0_0 : Bool) (A0_1 : Option Addr) (c0_1 : Nat) (l0_1 : List Int) (a1_0 : Bool) (A1_1 : Option Addr) (c1_1 : Nat) (l1_1 : List Int) (r1 : Bool) (r2 : List Int) (w : World) (hr0_1 : Kd.C (Kd.int .u32) w A0_1 l0_1.length l0_1) (hc0_1 : l0_1.length ≤ c0_1) (hr1_1 : Kd.C (Kd.int .u32) w A1_1 l1_1.length l1_1) (hc1_1 : l1_1.length ≤ c1_1) (h : filigreeref02_Add.f k a0_0 l0_1 a1_0 l1_1 = some (r1, r2)) :
    Calls Tryd.prog 18 #[.agg #[.bool a0_0, .slice A0_1 l0_1.length c0_1], .agg #[.bool a1_0, .slice A1_1 l1_1.length c1_1]] w fun e w' => ∃ v1_ : Value, e = .returned (.agg #[.bool r1, v1_]) ∧ Kd.R (Kd.int .u32) 58 w' w.heap.size (fun _ => True) v1_ r2 ∧ Below w.heap.size w w' := by
  have hu24 := Tryd.underlying24
  have HR0_1 := zMk hr0_1
  have HC0_1 := zMk hc0_1
  clear hr0_1 hc0_1
  have HR1_1 := zMk hr1_1
  have HC1_1 := zMk hc1_1
  clear hr1_1 hc1_1
  have HB := zMk (Below.refl w.heap.size w)
  have H : (if (a0_0 == a1_0) = true then ((r1_Add.f k l0_1 l1_1).bind fun t652 => ((filigreeref02_make2.f k a0_0 t652).bind fun bt655 => (some (bt655.1, bt655.2)))) else ((r1_Cmp.f k l0_1 l1_1).bind fun t659 => (if t659 ≥ 0 then ((r1_Sub.f k l0_1 l1_1).bind fun bt660 => ((filigreeref02_make2.f k a0_0 bt660.1).bind fun bt664 => (some (bt664.1, bt664.2)))) else ((r1_Sub.f k l1_1 l0_1).bind fun bt668 => ((filigreeref02_make2.f k a1_0 bt668.1).bind fun bt672 => (some (bt672.1, bt672.2))))))) = some (r1, r2) := h
  clear h
  by_cases c3 : (a0_0 == a1_0) = true
  · rw [if_pos c3] at H
    have c3b0 : (a0_0 == a1_0) = true := c3
    (try (have c3b1 : decide (a0_0 = a1_0) = true := by simpa using c3))
    (try (have c3b2 : (a0_0 == a1_0) = true := by simpa using c3))
    clear c3
    replace H := bnd H
    obtain ⟨t652, A40, H⟩ := H
    have A4 := zMk A40
    clear A40
    replace H := bnd H
    obtain ⟨⟨t655, t656⟩, A50, H⟩ := H
    replace H : (some (t655, t656)) = some (r1, r2) := H
    have A5 := zMk A50
    clear A50
    simp only [Option.some.injEq, Prod.mk.injEq] at H
    obtain ⟨rfl, rfl⟩ := H
    go_enter Tryd.func18, Tryd.ntmps18
    try go_wp2_with (first |  ((with_reducible refine gate_dst (N := 2) rfl ?_); refine box_event ?hg (N := 2) ?hd (cs := #[.bool a0_0, .slice A0_1 l0_1.length c0_1]) (t := 24) ?hr ?_; (case hd => rfl); (case hg => rfl); (case hr => first |  (go_simp; done)|  (go_simp; rfl)|  (go_simp; rw [show ∀ x : Int, IntKind.u32.wrap (IntKind.u8.wrap x) = x % 256 from fun x => (by show (x % 256) % 4294967296 = x % 256; omega)])); intro gb649 hg w6 hbox hb; have BK649 := zMk (hbox); have GW649 := zMk ((by rw [hg]; exact (zBs (by exact uT HB.out)) : w.heap.size ≤ gb649)); have GE649 := zMk ((by rw [hg]; exact (zBs (by exact uT HB.out)) : w.heap.size ≤ gb649)); have IGE649 := ownGe GE649.out; replace HB := zMk (zBt (by exact uT HB.out) hb); clear hb hbox hg)|  ((with_reducible refine gate_dst (N := 3) rfl ?_); refine box_event ?hg (N := 3) ?hd (cs := #[.bool a1_0, .slice A1_1 l1_1.length c1_1]) (t := 24) ?hr ?_; (case hd => rfl); (case hg => rfl); (case hr => first |  (go_simp; done)|  (go_simp; rfl)|  (go_simp; rw [show ∀ x : Int, IntKind.u32.wrap (IntKind.u8.wrap x) = x % 256 from fun x => (by show (x % 256) % 4294967296 = x % 256; omega)])); intro gb650 hg w7 hbox hb; have BK650 := zMk (hbox); have GW650 := zMk ((by rw [hg]; exact (zBs (by exact uT HB.out)) : w.heap.size ≤ gb650)); have GE650 := zMk ((by rw [hg]; exact (zBs (by exact uT HB.out)) : w.heap.size ≤ gb650)); have IGE650 := ownGe GE650.out; replace HB := zMk (zBt (by exact uT HB.out) hb); have NB649_650 := zMk ((by rw [hg]; exact Nat.ne_of_lt (blk_lt (g := gb649) (o := .cells #[.bool a0_0, .slice A0_1 l0_1.length c0_1] 24 (0, 0)) (by (with_reducible repeat (first |  refine zKn ?_ _|  refine zKd ?_|  refine zKa ?_ _)); exact BK649.out)) : gb649 ≠ gb650)); have NB650_649 := zMk ((by rw [hg]; exact Nat.ne_of_gt (blk_lt (g := gb649) (o := .cells #[.bool a0_0, .slice A0_1 l0_1.length c0_1] 24 (0, 0)) (by (with_reducible repeat (first |  refine zKn ?_ _|  refine zKd ?_|  refine zKa ?_ _)); exact BK649.out)) : gb650 ≠ gb649)); replace BK649 := zMk (zKb (g := gb649) (o := .cells #[.bool a0_0, .slice A0_1 l0_1.length c0_1] 24 (0, 0)) (by (with_reducible repeat (first |  refine zKn ?_ _|  refine zKd ?_|  refine zKa ?_ _)); exact BK649.out) hb); clear hb hbox hg)|  ((with_reducible refine gate_dst (N := 4) rfl ?_); refine box_event ?hg (N := 4) ?hd (cs := #[.bool false, .slice none 0 0]) (t := 24) ?hr ?_; (case hd => rfl); (case hg => rfl); (case hr => first |  (go_simp; done)|  (go_simp; rfl)|  (go_simp; rw [show ∀ x : Int, IntKind.u32.wrap (IntKind.u8.wrap x) = x % 256 from fun x => (by show (x % 256) % 4294967296 = x % 256; omega)])); intro gb651 hg w8 hbox hb; have BK651 := zMk (hbox); have GW651 := zMk ((by rw [hg]; exact (zBs (by exact uT HB.out)) : w.heap.size ≤ gb651)); have GE651 := zMk ((by rw [hg]; exact (zBs (by exact uT HB.out)) : w.heap.size ≤ gb651)); have IGE651 := ownGe GE651.out; replace HB := zMk (zBt (by exact uT HB.out) hb); have NB649_651 := zMk ((by rw [hg]; exact Nat.ne_of_lt (blk_lt (g := gb649) (o := .cells #[.bool a0_0, .slice A0_1 l0_1.length c0_1] 24 (0, 0)) (by (with_reducible repeat (first |  refine zKn ?_ _|  refine zKd ?_|  refine zKa ?_ _)); exact BK649.out)) : gb649 ≠ gb651)); have NB651_649 := zMk ((by rw [hg]; exact Nat.ne_of_gt (blk_lt (g := gb649) (o := .cells #[.bool a0_0, .slice A0_1 l0_1.length c0_1] 24 (0, 0)) (by (with_reducible repeat (first |  refine zKn ?_ _|  refine zKd ?_|  refine zKa ?_ _)); exact BK649.out)) : gb651 ≠ gb649)); replace BK649 := zMk (zKb (g := gb649) (o := .cells #[.bool a0_0, .slice A0_1 l0_1.length c0_1] 24 (0, 0)) (by (with_reducible repeat (first |  refine zKn ?_ _|  refine zKd ?_|  refine zKa ?_ _)); exact BK649.out) hb); have NB650_651 := zMk ((by rw [hg]; exact Nat.ne_of_lt (blk_lt (g := gb650) (o := .cells #[.bool a1_0, .slice A1_1 l1_1.length c1_1] 24 (0, 0)) (by (with_reducible repeat (first |  refine zKn ?_ _|  refine zKd ?_|  refine zKa ?_ _)); exact BK650.out)) : gb650 ≠ gb651)); have NB651_650 := zMk ((by rw [hg]; exact Nat.ne_of_gt (blk_lt (g := gb650) (o := .cells #[.bool a1_0, .slice A1_1 l1_1.length c1_1] 24 (0, 0)) (by (with_reducible repeat (first |  refine zKn ?_ _|  refine zKd ?_|  refine zKa ?_ _)); exact BK650.out)) : gb651 ≠ gb650)); replace BK650 := zMk (zKb (g := gb650) (o := .cells #[.bool a1_0, .slice A1_1 l1_1.length c1_1] 24 (0, 0)) (by (with_reducible repeat (first |  refine zKn ?_ _|  refine zKd ?_|  refine zKa ?_ _)); exact BK650.out) hb); clear hb hbox hg; have hnb9 := NB649_650.out; have hnc9 := NB650_649.out; have hnb10 := NB649_651.out; have hnc10 := NB651_649.out; have hcz11_0 : w8.cell? ⟨gb649, 0, none⟩ = some (.bool a0_0) := (zKc BK649.out 0).trans rfl; have hcz11_1 : w8.cell? ⟨gb649, 1, none⟩ = some (.slice A0_1 l0_1.length c0_1) := (zKc BK649.out 1).trans rfl; have hfz11_0 := zKf BK649.out 0; have hfz11_1 := zKf BK649.out 1; have hnb12 := NB650_651.out; have hnc12 := NB651_650.out; have hcz13_0 : w8.cell? ⟨gb650, 0, none⟩ = some (.bool a1_0) := (zKc BK650.out 0).trans rfl; have hcz13_1 : w8.cell? ⟨gb650, 1, none⟩ = some (.slice A1_1 l1_1.length c1_1) := (zKc BK650.out 1).trans rfl; have hfz13_0 := zKf BK650.out 0; have hfz13_1 := zKf BK650.out 1))
    replace BK649 := zMk (zKd BK649.out)
    replace BK650 := zMk (zKd BK650.out)
    replace BK651 := zMk (zKd BK651.out)
    replace HB := zMk (zBd HB.out)
    refine start_ (n := 9) (S := fun w' => w'.cell? ⟨gb649, 0, none⟩ = some (.bool a0_0) ∧ w'.cell? ⟨gb649, 1, none⟩ = some (.slice A0_1 l0_1.length c0_1) ∧ w'.cell? ⟨gb650, 0, none⟩ = some (.bool a1_0) ∧ w'.cell? ⟨gb650, 1, none⟩ = some (.slice A1_1 l1_1.length c1_1)) (ds := []) #[false, false, false, false, false, false, false, false, false] (by kernel_rfl) rfl rfl ⟨(zKc BK649.out 0).trans rfl, (zKc BK649.out 1).trans rfl, (zKc BK650.out 0).trans rfl, (zKc BK650.out 1).trans rfl⟩ (fun hHeld => ?_); refine with_tabW filigreeref02_Add.tab2 filigreeref02_Add.bits2 (fun HT_ HW_ => ?_)
    generalize w8.drew = w14 at BK649 BK650 BK651 HB hHeld ⊢
    refine pure_ (i := 0) (N := some 14) (v := ?_) (a' := ?_) #[true, false, false, false, false, false, false, false, false] rfl rfl (any_of HT_.out (by kernel_rfl)) (fun _ _ _ h => h) (Or.inl ⟨by rfl, ?_⟩) ?_ ?_
    rotate_left
    · intro w'
      go_simp
      with_reducible rfl
    rotate_left
    · simp only [Act.put, zSa, zSb, zSc, i64_w, i32_w]
      rfl
    refine pure_ (i := 2) (N := some 16) (v := ?_) (a' := ?_) #[true, false, true, false, false, false, false, false, false] rfl rfl (any_of HT_.out (by kernel_rfl)) (fun _ _ _ h => h) (Or.inl ⟨by rfl, ?_⟩) ?_ ?_
    rotate_left
    · intro w'
      go_simp
      with_reducible rfl
    rotate_left
    · simp only [Act.put, zSa, zSb, zSc, i64_w, i32_w]
      rfl
    refine pure_ (i := 4) (N := some 18) (v := ?_) (a' := ?_) #[true, false, true, false, true, false, false, false, false] rfl rfl (any_of HT_.out (by kernel_rfl)) (fun _ _ _ h => h) (Or.inl ⟨by rfl, ?_⟩) ?_ ?_
    rotate_left
    · intro w'
      go_simp
      with_reducible rfl
    rotate_left
    · simp only [Act.put, zSa, zSb, zSc, i64_w, i32_w]
      rfl
    refine take_ (i := 1) (N := some 15) (v := ?_) (a' := ?_) #[true, true, true, false, true, false, false, false, false] rfl rfl (take_ofW HT_.out HW_.out (by kernel_rfl)) (fun _ _ _ h => h) (Or.inl ⟨by rfl, ?_⟩) hHeld ?_ ?_
    rotate_left
    · rintro w' ⟨s0, s1, s2, s3⟩
      go_simp
      with_reducible rfl
    rotate_left
    · simp only [Act.put, zSa, zSb, zSc, i64_w, i32_w]
      rfl
    refine take_ (i := 3) (N := some 17) (v := ?_) (a' := ?_) #[true, true, true, true, true, false, false, false, false] rfl rfl (take_ofW HT_.out HW_.out (by kernel_rfl)) (fun _ _ _ h => h) (Or.inl ⟨by rfl, ?_⟩) hHeld ?_ ?_
    rotate_left
    · rintro w' ⟨s0, s1, s2, s3⟩
      go_simp
      with_reducible rfl
    rotate_left
    · simp only [Act.put, zSa, zSb, zSc, i64_w, i32_w]
      rfl
    refine take_ (i := 5) (N := some 19) (v := ?_) (a' := ?_) #[true, true, true, true, true, true, false, false, false] rfl rfl (take_ofW HT_.out HW_.out (by kernel_rfl)) (fun _ _ _ h => h) (Or.inl ⟨by rfl, ?_⟩) hHeld ?_ ?_
    rotate_left
    · rintro w' ⟨s0, s1, s2, s3⟩
      go_simp
      with_reducible rfl
    rotate_left
    · simp only [Act.put, zSa, zSb, zSc, i64_w, i32_w]
      rfl
    refine one_ (i := 6) (N := some 20) #[true, true, true, true, true, true, true, false, false] rfl rfl (one_of HT_.out (by kernel_rfl)) (by decide) (fun K hK => ?_)
    refine goes_ Tryd.func41 (by kernel_rfl) rfl #[.slice A0_1 l0_1.length c0_1, .slice A1_1 l1_1.length c1_1] (by rfl) rfl rfl (by (try simp only [zMa, zMc, zMn]); first | done | rfl | (simp only [zLd, zLt]; rfl)) ?_
    with_reducible refine (r1_Add.calls k _ _ l0_1 _ _ l1_1 t652 _ ?side1 ?side2 ?side3 ?side4 A4.out).mono ?_
    (case side1 => repeat (first | exact (Kd.C_below HR0_1.out HB.out) | (with_reducible refine zCa ?_ _) | (with_reducible refine zCn ?_ _) | (with_reducible refine zCd ?_)))
    (case side2 => exact HC0_1.out)
    (case side3 => repeat (first | exact (Kd.C_below HR1_1.out HB.out) | (with_reducible refine zCa ?_ _) | (with_reducible refine zCn ?_ _) | (with_reducible refine zCd ?_)))
    (case side4 => exact HC1_1.out)
    rintro e w15 ⟨v653, rfl, ho0, hb⟩
    refine ⟨_, rfl, ?_⟩
    have HO654 := zMk (zRl ho0 (zBs (by exact uT HB.out)))
    replace BK649 := zMk (zKb (g := gb649) (o := .cells #[.bool a0_0, .slice A0_1 l0_1.length c0_1] 24 (0, 0)) (by (with_reducible repeat (first | refine zKn ?_ _ | refine zKd ?_ | refine zKa ?_ _)); exact BK649.out) hb)
    replace BK650 := zMk (zKb (g := gb650) (o := .cells #[.bool a1_0, .slice A1_1 l1_1.length c1_1] 24 (0, 0)) (by (with_reducible repeat (first | refine zKn ?_ _ | refine zKd ?_ | refine zKa ?_ _)); exact BK650.out) hb)
    replace BK651 := zMk (zKb (g := gb651) (o := .cells #[.bool false, .slice none 0 0] 24 (0, 0)) (by (with_reducible repeat (first | refine zKn ?_ _ | refine zKd ?_ | refine zKa ?_ _)); exact BK651.out) hb)
    replace HB := zMk (zBt (by exact uT HB.out) hb)
    (try clear hb)
    (try clear hb2)
    (try clear hk)
    (try clear hi)
    (try clear ho0)
    obtain ⟨Ao16, co16, eo16⟩ := zRs HO654.out
    (first |  subst eo16|  (injection eo16 with f1_ f2_ f3_; have f4_ := f1_.symm; have f5_ := f3_.symm; clear f1_ f2_ f3_; subst f4_; subst f5_))
    refine hK.out _ _ ⟨(zKc BK649.out 0).trans rfl, (zKc BK649.out 1).trans rfl, (zKc BK650.out 0).trans rfl, (zKc BK650.out 1).trans rfl⟩ (fun hHeld => ?_)
    clear hK K
    refine norm_ (a' := ?_) ?_ ?_
    rotate_left
    · show Act.put _ (some 20) _ = _
      simp only [Act.put, zSa, zSb, zSc, i64_w, i32_w]
      rfl
    refine one_ (i := 7) (N := some 21) #[true, true, true, true, true, true, true, true, false] rfl rfl (one_of HT_.out (by kernel_rfl)) (by decide) (fun K hK => ?_)
    refine goes_ Tryd.func38 (by kernel_rfl) rfl #[.bool a0_0, .slice Ao16 t652.length co16] (by rfl) rfl rfl (by (try simp only [zMa, zMc, zMn]); first | done | rfl | (simp only [zLd, zLt]; rfl)) ?_
    with_reducible refine (filigreeref02_make2.calls k a0_0 _ _ t652 t655 t656 _ ?side1 ?side2 A5.out).mono ?_
    (case side1 => exact uC (zRr HO654.out).2.2)
    (case side2 => exact (zRr HO654.out).2.1)
    rintro e w17 ⟨v657, rfl, ho0, hb⟩
    refine ⟨_, rfl, ?_⟩
    have HO658 := zMk (zRl (zRw ho0 (zRt (by exact uR HO654.out))) (zBs (by exact uT HB.out)))
    replace HO654 := zMk (zRe (by exact uR HO654.out) (zRz ho0) hb)
    replace BK649 := zMk (zKb (g := gb649) (o := .cells #[.bool a0_0, .slice A0_1 l0_1.length c0_1] 24 (0, 0)) (by (with_reducible repeat (first | refine zKn ?_ _ | refine zKd ?_ | refine zKa ?_ _)); exact BK649.out) hb)
    replace BK650 := zMk (zKb (g := gb650) (o := .cells #[.bool a1_0, .slice A1_1 l1_1.length c1_1] 24 (0, 0)) (by (with_reducible repeat (first | refine zKn ?_ _ | refine zKd ?_ | refine zKa ?_ _)); exact BK650.out) hb)
    replace BK651 := zMk (zKb (g := gb651) (o := .cells #[.bool false, .slice none 0 0] 24 (0, 0)) (by (with_reducible repeat (first | refine zKn ?_ _ | refine zKd ?_ | refine zKa ?_ _)); exact BK651.out) hb)
    replace HB := zMk (zBt (by exact uT HB.out) hb)
    (try clear hb)
    (try clear hb2)
    (try clear hk)
    (try clear hi)
    (try clear ho0)
    obtain ⟨Ao19, co19, eo19⟩ := zRs HO658.out
    (first |  subst eo19|  (injection eo19 with f1_ f2_ f3_; have f4_ := f1_.symm; have f5_ := f3_.symm; clear f1_ f2_ f3_; subst f4_; subst f5_))
    refine hK.out _ _ ⟨(zKc BK649.out 0).trans rfl, (zKc BK649.out 1).trans rfl, (zKc BK650.out 0).trans rfl, (zKc BK650.out 1).trans rfl⟩ (fun hHeld => ?_)
    clear hK K
    refine norm_ (a' := ?_) ?_ ?_
    rotate_left
    · show Act.put _ (some 21) _ = _
      simp only [Act.put, zSa, zSb, zSc, i64_w, i32_w]
      rfl
    refine one_ (i := 8) (N := none) #[true, true, true, true, true, true, true, true, true] rfl rfl (one_of HT_.out (by kernel_rfl)) (by decide) (fun K hK => ?_)
    have hs18 : w17.cell? ⟨gb651, 0, none⟩ = some (.bool false) := (zKc BK651.out 0).trans rfl
    have hfs18 := zKf BK651.out 0
    have hns18_0 := NB649_651.out
    have hns18_1 := NB650_651.out
    have hms18_0 := NB651_649.out
    have hms18_1 := NB651_650.out
    have hs20 : w17.cell? ⟨gb651, 1, none⟩ = some (.slice none 0 0) := (zKc BK651.out 1).trans rfl
    have hfs20 := zKf BK651.out 1
    have hns20_0 := NB649_651.out
    have hns20_1 := NB650_651.out
    have hms20_0 := NB651_649.out
    have hms20_1 := NB651_650.out
    refine skip_ (w1 := ?_) (by rfl) rfl ?_ ?_
    rotate_left
    · go_simp
      rfl
    refine hK.out _ _ ⟨((cell_far (p := ⟨gb651, _, none⟩) NB649_651.out _).trans (((cell_far (p := ⟨gb651, _, none⟩) NB649_651.out _).trans (hHeld.1)))), ((cell_far (p := ⟨gb651, _, none⟩) NB649_651.out _).trans (((cell_far (p := ⟨gb651, _, none⟩) NB649_651.out _).trans (hHeld.2.1)))), ((cell_far (p := ⟨gb651, _, none⟩) NB650_651.out _).trans (((cell_far (p := ⟨gb651, _, none⟩) NB650_651.out _).trans (hHeld.2.2.1)))), ((cell_far (p := ⟨gb651, _, none⟩) NB650_651.out _).trans (((cell_far (p := ⟨gb651, _, none⟩) NB650_651.out _).trans (hHeld.2.2.2))))⟩ (fun hHeld => ?_)
    clear hK K
    refine done_ (done_of HT_.out (by kernel_rfl)) ?_
    try go_wp2
    refine bodyPost_ret (results_cell_row rfl _ _ gb651 24 #[.bool t655, .slice Ao19 t656.length co19] (0, 0) _ rfl (by (with_reducible repeat (first | refine zKn ?_ _ | refine zKd ?_ | refine zKa ?_ _)); refine blk_put (cs := #[.bool t655, .slice none 0 0]) ?_ 1 _ rfl; (with_reducible repeat (first | refine zKn ?_ _ | refine zKd ?_ | refine zKa ?_ _)); refine blk_put (cs := #[.bool false, .slice none 0 0]) ?_ 0 _ rfl; (with_reducible repeat (first | refine zKn ?_ _ | refine zKd ?_ | refine zKa ?_ _)); exact BK651.out) Tryd.underlying24 rfl (by kernel_rfl)) rfl ?_
    exact ⟨_, by first | rfl | (simp [errW_none, errW_some] <;> rfl) | (simp [*, errW_none, errW_some] <;> rfl), by (with_reducible repeat (first | apply zRa | apply zRn | apply zRd)); exact zRm (Kd.R_far (p := ⟨gb651, 1, none⟩) (Kd.R_far (p := ⟨gb651, 0, none⟩) (Kd.R_types HO658.out BK651.out (by decide)) (fun _ hk => hk.2) (.bool t655)) (fun _ hk => hk.2) (.slice Ao19 t656.length co19)) (fun _ hk => trivial), by exact uT HB.out⟩
  · rw [if_neg c3] at H
    have c3b0 : (a0_0 == a1_0) = false := by simpa using c3
    (try (have c3b1 : decide (a0_0 = a1_0) = false := by simpa using c3))
    (try (have c3b2 : (a0_0 == a1_0) = false := by simpa using c3))
    (try (have c3b3 : ¬ (a0_0 = a1_0) := by simpa using c3))
    clear c3
    replace H := bnd H
    obtain ⟨t659, A210, H⟩ := H
    have A21 := zMk A210
    clear A210
    by_cases c22 : t659 ≥ 0
    · rw [if_pos c22] at H
      have c22b0 : decide (0 ≤ t659) = true := decide_eq_true c22
      clear c22
      replace H := bnd H
      obtain ⟨⟨t660, t661⟩, A230, H⟩ := H
      replace H : ((filigreeref02_make2.f k a0_0 t660).bind fun bt664 => (some (bt664.1, bt664.2))) = some (r1, r2) := H
      have A23 := zMk A230
      clear A230
      replace H := bnd H
      obtain ⟨⟨t664, t665⟩, A240, H⟩ := H
      replace H : (some (t664, t665)) = some (r1, r2) := H
      have A24 := zMk A240
      clear A240
      simp only [Option.some.injEq, Prod.mk.injEq] at H
      obtain ⟨rfl, rfl⟩ := H
      go_enter Tryd.func18, Tryd.ntmps18
      go_wp2_with (first |  ((with_reducible refine gate_dst (N := 2) rfl ?_); refine box_event ?hg (N := 2) ?hd (cs := #[.bool a0_0, .slice A0_1 l0_1.length c0_1]) (t := 24) ?hr ?_; (case hd => rfl); (case hg => rfl); (case hr => first |  (go_simp; done)|  (go_simp; rfl)|  (go_simp; rw [show ∀ x : Int, IntKind.u32.wrap (IntKind.u8.wrap x) = x % 256 from fun x => (by show (x % 256) % 4294967296 = x % 256; omega)])); intro gb649 hg w25 hbox hb; have BK649 := zMk (hbox); have GW649 := zMk ((by rw [hg]; exact (zBs (by exact uT HB.out)) : w.heap.size ≤ gb649)); have GE649 := zMk ((by rw [hg]; exact (zBs (by exact uT HB.out)) : w.heap.size ≤ gb649)); have IGE649 := ownGe GE649.out; replace HB := zMk (zBt (by exact uT HB.out) hb); clear hb hbox hg)|  ((with_reducible refine gate_dst (N := 3) rfl ?_); refine box_event ?hg (N := 3) ?hd (cs := #[.bool a1_0, .slice A1_1 l1_1.length c1_1]) (t := 24) ?hr ?_; (case hd => rfl); (case hg => rfl); (case hr => first |  (go_simp; done)|  (go_simp; rfl)|  (go_simp; rw [show ∀ x : Int, IntKind.u32.wrap (IntKind.u8.wrap x) = x % 256 from fun x => (by show (x % 256) % 4294967296 = x % 256; omega)])); intro gb650 hg w26 hbox hb; have BK650 := zMk (hbox); have GW650 := zMk ((by rw [hg]; exact (zBs (by exact uT HB.out)) : w.heap.size ≤ gb650)); have GE650 := zMk ((by rw [hg]; exact (zBs (by exact uT HB.out)) : w.heap.size ≤ gb650)); have IGE650 := ownGe GE650.out; replace HB := zMk (zBt (by exact uT HB.out) hb); have NB649_650 := zMk ((by rw [hg]; exact Nat.ne_of_lt (blk_lt (g := gb649) (o := .cells #[.bool a0_0, .slice A0_1 l0_1.length c0_1] 24 (0, 0)) (by (with_reducible repeat (first |  refine zKn ?_ _|  refine zKd ?_|  refine zKa ?_ _)); exact BK649.out)) : gb649 ≠ gb650)); have NB650_649 := zMk ((by rw [hg]; exact Nat.ne_of_gt (blk_lt (g := gb649) (o := .cells #[.bool a0_0, .slice A0_1 l0_1.length c0_1] 24 (0, 0)) (by (with_reducible repeat (first |  refine zKn ?_ _|  refine zKd ?_|  refine zKa ?_ _)); exact BK649.out)) : gb650 ≠ gb649)); replace BK649 := zMk (zKb (g := gb649) (o := .cells #[.bool a0_0, .slice A0_1 l0_1.length c0_1] 24 (0, 0)) (by (with_reducible repeat (first |  refine zKn ?_ _|  refine zKd ?_|  refine zKa ?_ _)); exact BK649.out) hb); clear hb hbox hg)|  ((with_reducible refine gate_dst (N := 4) rfl ?_); refine box_event ?hg (N := 4) ?hd (cs := #[.bool false, .slice none 0 0]) (t := 24) ?hr ?_; (case hd => rfl); (case hg => rfl); (case hr => first |  (go_simp; done)|  (go_simp; rfl)|  (go_simp; rw [show ∀ x : Int, IntKind.u32.wrap (IntKind.u8.wrap x) = x % 256 from fun x => (by show (x % 256) % 4294967296 = x % 256; omega)])); intro gb651 hg w27 hbox hb; have BK651 := zMk (hbox); have GW651 := zMk ((by rw [hg]; exact (zBs (by exact uT HB.out)) : w.heap.size ≤ gb651)); have GE651 := zMk ((by rw [hg]; exact (zBs (by exact uT HB.out)) : w.heap.size ≤ gb651)); have IGE651 := ownGe GE651.out; replace HB := zMk (zBt (by exact uT HB.out) hb); have NB649_651 := zMk ((by rw [hg]; exact Nat.ne_of_lt (blk_lt (g := gb649) (o := .cells #[.bool a0_0, .slice A0_1 l0_1.length c0_1] 24 (0, 0)) (by (with_reducible repeat (first |  refine zKn ?_ _|  refine zKd ?_|  refine zKa ?_ _)); exact BK649.out)) : gb649 ≠ gb651)); have NB651_649 := zMk ((by rw [hg]; exact Nat.ne_of_gt (blk_lt (g := gb649) (o := .cells #[.bool a0_0, .slice A0_1 l0_1.length c0_1] 24 (0, 0)) (by (with_reducible repeat (first |  refine zKn ?_ _|  refine zKd ?_|  refine zKa ?_ _)); exact BK649.out)) : gb651 ≠ gb649)); replace BK649 := zMk (zKb (g := gb649) (o := .cells #[.bool a0_0, .slice A0_1 l0_1.length c0_1] 24 (0, 0)) (by (with_reducible repeat (first |  refine zKn ?_ _|  refine zKd ?_|  refine zKa ?_ _)); exact BK649.out) hb); have NB650_651 := zMk ((by rw [hg]; exact Nat.ne_of_lt (blk_lt (g := gb650) (o := .cells #[.bool a1_0, .slice A1_1 l1_1.length c1_1] 24 (0, 0)) (by (with_reducible repeat (first |  refine zKn ?_ _|  refine zKd ?_|  refine zKa ?_ _)); exact BK650.out)) : gb650 ≠ gb651)); have NB651_650 := zMk ((by rw [hg]; exact Nat.ne_of_gt (blk_lt (g := gb650) (o := .cells #[.bool a1_0, .slice A1_1 l1_1.length c1_1] 24 (0, 0)) (by (with_reducible repeat (first |  refine zKn ?_ _|  refine zKd ?_|  refine zKa ?_ _)); exact BK650.out)) : gb651 ≠ gb650)); replace BK650 := zMk (zKb (g := gb650) (o := .cells #[.bool a1_0, .slice A1_1 l1_1.length c1_1] 24 (0, 0)) (by (with_reducible repeat (first |  refine zKn ?_ _|  refine zKd ?_|  refine zKa ?_ _)); exact BK650.out) hb); clear hb hbox hg; have hnb28 := NB649_650.out; have hnc28 := NB650_649.out; have hnb29 := NB649_651.out; have hnc29 := NB651_649.out; have hcz30_0 : w27.cell? ⟨gb649, 0, none⟩ = some (.bool a0_0) := (zKc BK649.out 0).trans rfl; have hcz30_1 : w27.cell? ⟨gb649, 1, none⟩ = some (.slice A0_1 l0_1.length c0_1) := (zKc BK649.out 1).trans rfl; have hfz30_0 := zKf BK649.out 0; have hfz30_1 := zKf BK649.out 1; have hnb31 := NB650_651.out; have hnc31 := NB651_650.out; have hcz32_0 : w27.cell? ⟨gb650, 0, none⟩ = some (.bool a1_0) := (zKc BK650.out 0).trans rfl; have hcz32_1 : w27.cell? ⟨gb650, 1, none⟩ = some (.slice A1_1 l1_1.length c1_1) := (zKc BK650.out 1).trans rfl; have hfz32_0 := zKf BK650.out 0; have hfz32_1 := zKf BK650.out 1)|  ((with_reducible refine gate_callee (f := 42) rfl ?_); refine goesL_ (some 26) rfl rfl Tryd.func42 (by kernel_rfl) rfl #[.slice A0_1 l0_1.length c0_1, .slice A1_1 l1_1.length c1_1] rfl (by (try simp only [zMa, zMc, zMn]); first |  done|  rfl|  (simp only [zLd, zLt]; rfl)) ?_; (with_reducible refine (r1_Cmp.calls k _ _ l0_1 _ _ l1_1 t659 _ ?side1 ?side2 ?side3 ?side4 A21.out).mono ?_); (case side1 => repeat (first |  exact (Kd.C_below HR0_1.out HB.out)|  (with_reducible refine zCa ?_ _)|  (with_reducible refine zCn ?_ _)|  (with_reducible refine zCd ?_))); (case side2 => exact HC0_1.out); (case side3 => repeat (first |  exact (Kd.C_below HR1_1.out HB.out)|  (with_reducible refine zCa ?_ _)|  (with_reducible refine zCn ?_ _)|  (with_reducible refine zCd ?_))); (case side4 => exact HC1_1.out); rintro e w33 ⟨rfl, hb⟩; refine ⟨_, rfl, ?_⟩; replace BK649 := zMk (zKb (g := gb649) (o := .cells #[.bool a0_0, .slice A0_1 l0_1.length c0_1] 24 (0, 0)) (by (with_reducible repeat (first |  refine zKn ?_ _|  refine zKd ?_|  refine zKa ?_ _)); exact BK649.out) hb); replace BK650 := zMk (zKb (g := gb650) (o := .cells #[.bool a1_0, .slice A1_1 l1_1.length c1_1] 24 (0, 0)) (by (with_reducible repeat (first |  refine zKn ?_ _|  refine zKd ?_|  refine zKa ?_ _)); exact BK650.out) hb); replace BK651 := zMk (zKb (g := gb651) (o := .cells #[.bool false, .slice none 0 0] 24 (0, 0)) (by (with_reducible repeat (first |  refine zKn ?_ _|  refine zKd ?_|  refine zKa ?_ _)); exact BK651.out) hb); replace HB := zMk (zBt (by exact uT HB.out) hb); (try clear hb); (try clear hb2); (try clear hk); (try clear hi); have hcz34_0 : w33.cell? ⟨gb649, 0, none⟩ = some (.bool a0_0) := (zKc BK649.out 0).trans rfl; have hcz34_1 : w33.cell? ⟨gb649, 1, none⟩ = some (.slice A0_1 l0_1.length c0_1) := (zKc BK649.out 1).trans rfl; have hfz34_0 := zKf BK649.out 0; have hfz34_1 := zKf BK649.out 1; have hcz35_0 : w33.cell? ⟨gb650, 0, none⟩ = some (.bool a1_0) := (zKc BK650.out 0).trans rfl; have hcz35_1 : w33.cell? ⟨gb650, 1, none⟩ = some (.slice A1_1 l1_1.length c1_1) := (zKc BK650.out 1).trans rfl; have hfz35_0 := zKf BK650.out 0; have hfz35_1 := zKf BK650.out 1)|  ((with_reducible refine gate_callee (f := 43) rfl ?_); refine goesL_ (some 33) rfl rfl Tryd.func43 (by kernel_rfl) rfl #[.slice A0_1 l0_1.length c0_1, .slice A1_1 l1_1.length c1_1] rfl (by (try simp only [zMa, zMc, zMn]); first |  done|  rfl|  (simp only [zLd, zLt]; rfl)) ?_; (with_reducible refine (r1_Sub.calls k _ _ l0_1 _ _ l1_1 t660 t661 _ ?side1 ?side2 ?side3 ?side4 A23.out).mono ?_); (case side1 => repeat (first |  exact (Kd.C_below HR0_1.out HB.out)|  (with_reducible refine zCa ?_ _)|  (with_reducible refine zCn ?_ _)|  (with_reducible refine zCd ?_))); (case side2 => exact HC0_1.out); (case side3 => repeat (first |  exact (Kd.C_below HR1_1.out HB.out)|  (with_reducible refine zCa ?_ _)|  (with_reducible refine zCn ?_ _)|  (with_reducible refine zCd ?_))); (case side4 => exact HC1_1.out); rintro e w36 ⟨v662, rfl, ho0, hb⟩; refine ⟨_, rfl, ?_⟩; have HO663 := zMk (zRl ho0 (zBs (by exact uT HB.out))); replace BK649 := zMk (zKb (g := gb649) (o := .cells #[.bool a0_0, .slice A0_1 l0_1.length c0_1] 24 (0, 0)) (by (with_reducible repeat (first |  refine zKn ?_ _|  refine zKd ?_|  refine zKa ?_ _)); exact BK649.out) hb); replace BK650 := zMk (zKb (g := gb650) (o := .cells #[.bool a1_0, .slice A1_1 l1_1.length c1_1] 24 (0, 0)) (by (with_reducible repeat (first |  refine zKn ?_ _|  refine zKd ?_|  refine zKa ?_ _)); exact BK650.out) hb); replace BK651 := zMk (zKb (g := gb651) (o := .cells #[.bool false, .slice none 0 0] 24 (0, 0)) (by (with_reducible repeat (first |  refine zKn ?_ _|  refine zKd ?_|  refine zKa ?_ _)); exact BK651.out) hb); replace HB := zMk (zBt (by exact uT HB.out) hb); (try clear hb); (try clear hb2); (try clear hk); (try clear hi); (try clear ho0); have hcz37_0 : w36.cell? ⟨gb649, 0, none⟩ = some (.bool a0_0) := (zKc BK649.out 0).trans rfl; have hcz37_1 : w36.cell? ⟨gb649, 1, none⟩ = some (.slice A0_1 l0_1.length c0_1) := (zKc BK649.out 1).trans rfl; have hfz37_0 := zKf BK649.out 0; have hfz37_1 := zKf BK649.out 1; obtain ⟨Ao38, co38, eo38⟩ := zRs HO663.out; subst eo38)|  ((with_reducible refine gate_callee (f := 38) rfl ?_); refine goesL_ (some 39) rfl rfl Tryd.func38 (by kernel_rfl) rfl #[.bool a0_0, .slice Ao38 t660.length co38] rfl (by (try simp only [zMa, zMc, zMn]); first |  done|  rfl|  (simp only [zLd, zLt]; rfl)) ?_; (with_reducible refine (filigreeref02_make2.calls k a0_0 _ _ t660 t664 t665 _ ?side1 ?side2 A24.out).mono ?_); (case side1 => exact uC (zRr HO663.out).2.2); (case side2 => exact (zRr HO663.out).2.1); rintro e w39 ⟨v666, rfl, ho0, hb⟩; refine ⟨_, rfl, ?_⟩; have HO667 := zMk (zRl (zRw ho0 (zRt (by exact uR HO663.out))) (zBs (by exact uT HB.out))); replace HO663 := zMk (zRe (by exact uR HO663.out) (zRz ho0) hb); replace BK649 := zMk (zKb (g := gb649) (o := .cells #[.bool a0_0, .slice A0_1 l0_1.length c0_1] 24 (0, 0)) (by (with_reducible repeat (first |  refine zKn ?_ _|  refine zKd ?_|  refine zKa ?_ _)); exact BK649.out) hb); replace BK650 := zMk (zKb (g := gb650) (o := .cells #[.bool a1_0, .slice A1_1 l1_1.length c1_1] 24 (0, 0)) (by (with_reducible repeat (first |  refine zKn ?_ _|  refine zKd ?_|  refine zKa ?_ _)); exact BK650.out) hb); replace BK651 := zMk (zKb (g := gb651) (o := .cells #[.bool false, .slice none 0 0] 24 (0, 0)) (by (with_reducible repeat (first |  refine zKn ?_ _|  refine zKd ?_|  refine zKa ?_ _)); exact BK651.out) hb); replace HB := zMk (zBt (by exact uT HB.out) hb); (try clear hb); (try clear hb2); (try clear hk); (try clear hi); (try clear ho0); have hcz40_0 : w39.cell? ⟨gb651, 0, none⟩ = some (.bool false) := (zKc BK651.out 0).trans rfl; have hcz40_1 : w39.cell? ⟨gb651, 1, none⟩ = some (.slice none 0 0) := (zKc BK651.out 1).trans rfl; have hfz40_0 := zKf BK651.out 0; have hfz40_1 := zKf BK651.out 1; obtain ⟨Ao41, co41, eo41⟩ := zRs HO667.out; subst eo41))
      refine bodyPost_ret (results_cell_row rfl _ _ gb651 24 #[.bool t664, .slice Ao41 t665.length co41] (0, 0) _ rfl (by (with_reducible repeat (first | refine zKn ?_ _ | refine zKd ?_ | refine zKa ?_ _)); refine blk_put (cs := #[.bool t664, .slice none 0 0]) ?_ 1 _ rfl; (with_reducible repeat (first | refine zKn ?_ _ | refine zKd ?_ | refine zKa ?_ _)); refine blk_put (cs := #[.bool false, .slice none 0 0]) ?_ 0 _ rfl; (with_reducible repeat (first | refine zKn ?_ _ | refine zKd ?_ | refine zKa ?_ _)); exact BK651.out) Tryd.underlying24 rfl (by kernel_rfl)) rfl ?_
      exact ⟨_, by first | rfl | (simp [errW_none, errW_some] <;> rfl) | (simp [*, errW_none, errW_some] <;> rfl), by (with_reducible repeat (first | apply zRa | apply zRn | apply zRd)); exact zRm (Kd.R_far (p := ⟨gb651, 1, none⟩) (Kd.R_far (p := ⟨gb651, 0, none⟩) (Kd.R_types HO667.out BK651.out (by decide)) (fun _ hk => hk.2) (.bool t664)) (fun _ hk => hk.2) (.slice Ao41 t665.length co41)) (fun _ hk => trivial), by exact uT HB.out⟩
    · rw [if_neg c22] at H
      have c22b0 : decide (0 ≤ t659) = false := decide_eq_false c22
      clear c22
      replace H := bnd H
      obtain ⟨⟨t668, t669⟩, A420, H⟩ := H
      replace H : ((filigreeref02_make2.f k a1_0 t668).bind fun bt672 => (some (bt672.1, bt672.2))) = some (r1, r2) := H
      have A42 := zMk A420
      clear A420
      replace H := bnd H
      obtain ⟨⟨t672, t673⟩, A430, H⟩ := H
      replace H : (some (t672, t673)) = some (r1, r2) := H
      have A43 := zMk A430
      clear A430
      simp only [Option.some.injEq, Prod.mk.injEq] at H
      obtain ⟨rfl, rfl⟩ := H
      go_enter Tryd.func18, Tryd.ntmps18
      go_wp2_with (first |  ((with_reducible refine gate_dst (N := 2) rfl ?_); refine box_event ?hg (N := 2) ?hd (cs := #[.bool a0_0, .slice A0_1 l0_1.length c0_1]) (t := 24) ?hr ?_; (case hd => rfl); (case hg => rfl); (case hr => first |  (go_simp; done)|  (go_simp; rfl)|  (go_simp; rw [show ∀ x : Int, IntKind.u32.wrap (IntKind.u8.wrap x) = x % 256 from fun x => (by show (x % 256) % 4294967296 = x % 256; omega)])); intro gb649 hg w44 hbox hb; have BK649 := zMk (hbox); have GW649 := zMk ((by rw [hg]; exact (zBs (by exact uT HB.out)) : w.heap.size ≤ gb649)); have GE649 := zMk ((by rw [hg]; exact (zBs (by exact uT HB.out)) : w.heap.size ≤ gb649)); have IGE649 := ownGe GE649.out; replace HB := zMk (zBt (by exact uT HB.out) hb); clear hb hbox hg)|  ((with_reducible refine gate_dst (N := 3) rfl ?_); refine box_event ?hg (N := 3) ?hd (cs := #[.bool a1_0, .slice A1_1 l1_1.length c1_1]) (t := 24) ?hr ?_; (case hd => rfl); (case hg => rfl); (case hr => first |  (go_simp; done)|  (go_simp; rfl)|  (go_simp; rw [show ∀ x : Int, IntKind.u32.wrap (IntKind.u8.wrap x) = x % 256 from fun x => (by show (x % 256) % 4294967296 = x % 256; omega)])); intro gb650 hg w45 hbox hb; have BK650 := zMk (hbox); have GW650 := zMk ((by rw [hg]; exact (zBs (by exact uT HB.out)) : w.heap.size ≤ gb650)); have GE650 := zMk ((by rw [hg]; exact (zBs (by exact uT HB.out)) : w.heap.size ≤ gb650)); have IGE650 := ownGe GE650.out; replace HB := zMk (zBt (by exact uT HB.out) hb); have NB649_650 := zMk ((by rw [hg]; exact Nat.ne_of_lt (blk_lt (g := gb649) (o := .cells #[.bool a0_0, .slice A0_1 l0_1.length c0_1] 24 (0, 0)) (by (with_reducible repeat (first |  refine zKn ?_ _|  refine zKd ?_|  refine zKa ?_ _)); exact BK649.out)) : gb649 ≠ gb650)); have NB650_649 := zMk ((by rw [hg]; exact Nat.ne_of_gt (blk_lt (g := gb649) (o := .cells #[.bool a0_0, .slice A0_1 l0_1.length c0_1] 24 (0, 0)) (by (with_reducible repeat (first |  refine zKn ?_ _|  refine zKd ?_|  refine zKa ?_ _)); exact BK649.out)) : gb650 ≠ gb649)); replace BK649 := zMk (zKb (g := gb649) (o := .cells #[.bool a0_0, .slice A0_1 l0_1.length c0_1] 24 (0, 0)) (by (with_reducible repeat (first |  refine zKn ?_ _|  refine zKd ?_|  refine zKa ?_ _)); exact BK649.out) hb); clear hb hbox hg)|  ((with_reducible refine gate_dst (N := 4) rfl ?_); refine box_event ?hg (N := 4) ?hd (cs := #[.bool false, .slice none 0 0]) (t := 24) ?hr ?_; (case hd => rfl); (case hg => rfl); (case hr => first |  (go_simp; done)|  (go_simp; rfl)|  (go_simp; rw [show ∀ x : Int, IntKind.u32.wrap (IntKind.u8.wrap x) = x % 256 from fun x => (by show (x % 256) % 4294967296 = x % 256; omega)])); intro gb651 hg w46 hbox hb; have BK651 := zMk (hbox); have GW651 := zMk ((by rw [hg]; exact (zBs (by exact uT HB.out)) : w.heap.size ≤ gb651)); have GE651 := zMk ((by rw [hg]; exact (zBs (by exact uT HB.out)) : w.heap.size ≤ gb651)); have IGE651 := ownGe GE651.out; replace HB := zMk (zBt (by exact uT HB.out) hb); have NB649_651 := zMk ((by rw [hg]; exact Nat.ne_of_lt (blk_lt (g := gb649) (o := .cells #[.bool a0_0, .slice A0_1 l0_1.length c0_1] 24 (0, 0)) (by (with_reducible repeat (first |  refine zKn ?_ _|  refine zKd ?_|  refine zKa ?_ _)); exact BK649.out)) : gb649 ≠ gb651)); have NB651_649 := zMk ((by rw [hg]; exact Nat.ne_of_gt (blk_lt (g := gb649) (o := .cells #[.bool a0_0, .slice A0_1 l0_1.length c0_1] 24 (0, 0)) (by (with_reducible repeat (first |  refine zKn ?_ _|  refine zKd ?_|  refine zKa ?_ _)); exact BK649.out)) : gb651 ≠ gb649)); replace BK649 := zMk (zKb (g := gb649) (o := .cells #[.bool a0_0, .slice A0_1 l0_1.length c0_1] 24 (0, 0)) (by (with_reducible repeat (first |  refine zKn ?_ _|  refine zKd ?_|  refine zKa ?_ _)); exact BK649.out) hb); have NB650_651 := zMk ((by rw [hg]; exact Nat.ne_of_lt (blk_lt (g := gb650) (o := .cells #[.bool a1_0, .slice A1_1 l1_1.length c1_1] 24 (0, 0)) (by (with_reducible repeat (first |  refine zKn ?_ _|  refine zKd ?_|  refine zKa ?_ _)); exact BK650.out)) : gb650 ≠ gb651)); have NB651_650 := zMk ((by rw [hg]; exact Nat.ne_of_gt (blk_lt (g := gb650) (o := .cells #[.bool a1_0, .slice A1_1 l1_1.length c1_1] 24 (0, 0)) (by (with_reducible repeat (first |  refine zKn ?_ _|  refine zKd ?_|  refine zKa ?_ _)); exact BK650.out)) : gb651 ≠ gb650)); replace BK650 := zMk (zKb (g := gb650) (o := .cells #[.bool a1_0, .slice A1_1 l1_1.length c1_1] 24 (0, 0)) (by (with_reducible repeat (first |  refine zKn ?_ _|  refine zKd ?_|  refine zKa ?_ _)); exact BK650.out) hb); clear hb hbox hg; have hnb47 := NB649_650.out; have hnc47 := NB650_649.out; have hnb48 := NB649_651.out; have hnc48 := NB651_649.out; have hcz49_0 : w46.cell? ⟨gb649, 0, none⟩ = some (.bool a0_0) := (zKc BK649.out 0).trans rfl; have hcz49_1 : w46.cell? ⟨gb649, 1, none⟩ = some (.slice A0_1 l0_1.length c0_1) := (zKc BK649.out 1).trans rfl; have hfz49_0 := zKf BK649.out 0; have hfz49_1 := zKf BK649.out 1; have hnb50 := NB650_651.out; have hnc50 := NB651_650.out; have hcz51_0 : w46.cell? ⟨gb650, 0, none⟩ = some (.bool a1_0) := (zKc BK650.out 0).trans rfl; have hcz51_1 : w46.cell? ⟨gb650, 1, none⟩ = some (.slice A1_1 l1_1.length c1_1) := (zKc BK650.out 1).trans rfl; have hfz51_0 := zKf BK650.out 0; have hfz51_1 := zKf BK650.out 1)|  ((with_reducible refine gate_callee (f := 42) rfl ?_); refine goesL_ (some 26) rfl rfl Tryd.func42 (by kernel_rfl) rfl #[.slice A0_1 l0_1.length c0_1, .slice A1_1 l1_1.length c1_1] rfl (by (try simp only [zMa, zMc, zMn]); first |  done|  rfl|  (simp only [zLd, zLt]; rfl)) ?_; (with_reducible refine (r1_Cmp.calls k _ _ l0_1 _ _ l1_1 t659 _ ?side1 ?side2 ?side3 ?side4 A21.out).mono ?_); (case side1 => repeat (first |  exact (Kd.C_below HR0_1.out HB.out)|  (with_reducible refine zCa ?_ _)|  (with_reducible refine zCn ?_ _)|  (with_reducible refine zCd ?_))); (case side2 => exact HC0_1.out); (case side3 => repeat (first |  exact (Kd.C_below HR1_1.out HB.out)|  (with_reducible refine zCa ?_ _)|  (with_reducible refine zCn ?_ _)|  (with_reducible refine zCd ?_))); (case side4 => exact HC1_1.out); rintro e w52 ⟨rfl, hb⟩; refine ⟨_, rfl, ?_⟩; replace BK649 := zMk (zKb (g := gb649) (o := .cells #[.bool a0_0, .slice A0_1 l0_1.length c0_1] 24 (0, 0)) (by (with_reducible repeat (first |  refine zKn ?_ _|  refine zKd ?_|  refine zKa ?_ _)); exact BK649.out) hb); replace BK650 := zMk (zKb (g := gb650) (o := .cells #[.bool a1_0, .slice A1_1 l1_1.length c1_1] 24 (0, 0)) (by (with_reducible repeat (first |  refine zKn ?_ _|  refine zKd ?_|  refine zKa ?_ _)); exact BK650.out) hb); replace BK651 := zMk (zKb (g := gb651) (o := .cells #[.bool false, .slice none 0 0] 24 (0, 0)) (by (with_reducible repeat (first |  refine zKn ?_ _|  refine zKd ?_|  refine zKa ?_ _)); exact BK651.out) hb); replace HB := zMk (zBt (by exact uT HB.out) hb); (try clear hb); (try clear hb2); (try clear hk); (try clear hi); have hcz53_0 : w52.cell? ⟨gb650, 0, none⟩ = some (.bool a1_0) := (zKc BK650.out 0).trans rfl; have hcz53_1 : w52.cell? ⟨gb650, 1, none⟩ = some (.slice A1_1 l1_1.length c1_1) := (zKc BK650.out 1).trans rfl; have hfz53_0 := zKf BK650.out 0; have hfz53_1 := zKf BK650.out 1; have hcz54_0 : w52.cell? ⟨gb649, 0, none⟩ = some (.bool a0_0) := (zKc BK649.out 0).trans rfl; have hcz54_1 : w52.cell? ⟨gb649, 1, none⟩ = some (.slice A0_1 l0_1.length c0_1) := (zKc BK649.out 1).trans rfl; have hfz54_0 := zKf BK649.out 0; have hfz54_1 := zKf BK649.out 1)|  ((with_reducible refine gate_callee (f := 43) rfl ?_); refine goesL_ (some 45) rfl rfl Tryd.func43 (by kernel_rfl) rfl #[.slice A1_1 l1_1.length c1_1, .slice A0_1 l0_1.length c0_1] rfl (by (try simp only [zMa, zMc, zMn]); first |  done|  rfl|  (simp only [zLd, zLt]; rfl)) ?_; (with_reducible refine (r1_Sub.calls k _ _ l1_1 _ _ l0_1 t668 t669 _ ?side1 ?side2 ?side3 ?side4 A42.out).mono ?_); (case side1 => repeat (first |  exact (Kd.C_below HR1_1.out HB.out)|  (with_reducible refine zCa ?_ _)|  (with_reducible refine zCn ?_ _)|  (with_reducible refine zCd ?_))); (case side2 => exact HC1_1.out); (case side3 => repeat (first |  exact (Kd.C_below HR0_1.out HB.out)|  (with_reducible refine zCa ?_ _)|  (with_reducible refine zCn ?_ _)|  (with_reducible refine zCd ?_))); (case side4 => exact HC0_1.out); rintro e w55 ⟨v670, rfl, ho0, hb⟩; refine ⟨_, rfl, ?_⟩; have HO671 := zMk (zRl ho0 (zBs (by exact uT HB.out))); replace BK649 := zMk (zKb (g := gb649) (o := .cells #[.bool a0_0, .slice A0_1 l0_1.length c0_1] 24 (0, 0)) (by (with_reducible repeat (first |  refine zKn ?_ _|  refine zKd ?_|  refine zKa ?_ _)); exact BK649.out) hb); replace BK650 := zMk (zKb (g := gb650) (o := .cells #[.bool a1_0, .slice A1_1 l1_1.length c1_1] 24 (0, 0)) (by (with_reducible repeat (first |  refine zKn ?_ _|  refine zKd ?_|  refine zKa ?_ _)); exact BK650.out) hb); replace BK651 := zMk (zKb (g := gb651) (o := .cells #[.bool false, .slice none 0 0] 24 (0, 0)) (by (with_reducible repeat (first |  refine zKn ?_ _|  refine zKd ?_|  refine zKa ?_ _)); exact BK651.out) hb); replace HB := zMk (zBt (by exact uT HB.out) hb); (try clear hb); (try clear hb2); (try clear hk); (try clear hi); (try clear ho0); have hcz56_0 : w55.cell? ⟨gb650, 0, none⟩ = some (.bool a1_0) := (zKc BK650.out 0).trans rfl; have hcz56_1 : w55.cell? ⟨gb650, 1, none⟩ = some (.slice A1_1 l1_1.length c1_1) := (zKc BK650.out 1).trans rfl; have hfz56_0 := zKf BK650.out 0; have hfz56_1 := zKf BK650.out 1; obtain ⟨Ao57, co57, eo57⟩ := zRs HO671.out; subst eo57)|  ((with_reducible refine gate_callee (f := 38) rfl ?_); refine goesL_ (some 51) rfl rfl Tryd.func38 (by kernel_rfl) rfl #[.bool a1_0, .slice Ao57 t668.length co57] rfl (by (try simp only [zMa, zMc, zMn]); first |  done|  rfl|  (simp only [zLd, zLt]; rfl)) ?_; (with_reducible refine (filigreeref02_make2.calls k a1_0 _ _ t668 t672 t673 _ ?side1 ?side2 A43.out).mono ?_); (case side1 => exact uC (zRr HO671.out).2.2); (case side2 => exact (zRr HO671.out).2.1); rintro e w58 ⟨v674, rfl, ho0, hb⟩; refine ⟨_, rfl, ?_⟩; have HO675 := zMk (zRl (zRw ho0 (zRt (by exact uR HO671.out))) (zBs (by exact uT HB.out))); replace HO671 := zMk (zRe (by exact uR HO671.out) (zRz ho0) hb); replace BK649 := zMk (zKb (g := gb649) (o := .cells #[.bool a0_0, .slice A0_1 l0_1.length c0_1] 24 (0, 0)) (by (with_reducible repeat (first |  refine zKn ?_ _|  refine zKd ?_|  refine zKa ?_ _)); exact BK649.out) hb); replace BK650 := zMk (zKb (g := gb650) (o := .cells #[.bool a1_0, .slice A1_1 l1_1.length c1_1] 24 (0, 0)) (by (with_reducible repeat (first |  refine zKn ?_ _|  refine zKd ?_|  refine zKa ?_ _)); exact BK650.out) hb); replace BK651 := zMk (zKb (g := gb651) (o := .cells #[.bool false, .slice none 0 0] 24 (0, 0)) (by (with_reducible repeat (first |  refine zKn ?_ _|  refine zKd ?_|  refine zKa ?_ _)); exact BK651.out) hb); replace HB := zMk (zBt (by exact uT HB.out) hb); (try clear hb); (try clear hb2); (try clear hk); (try clear hi); (try clear ho0); have hcz59_0 : w58.cell? ⟨gb651, 0, none⟩ = some (.bool false) := (zKc BK651.out 0).trans rfl; have hcz59_1 : w58.cell? ⟨gb651, 1, none⟩ = some (.slice none 0 0) := (zKc BK651.out 1).trans rfl; have hfz59_0 := zKf BK651.out 0; have hfz59_1 := zKf BK651.out 1; obtain ⟨Ao60, co60, eo60⟩ := zRs HO675.out; subst eo60))
      refine bodyPost_ret (results_cell_row rfl _ _ gb651 24 #[.bool t672, .slice Ao60 t673.length co60] (0, 0) _ rfl (by (with_reducible repeat (first | refine zKn ?_ _ | refine zKd ?_ | refine zKa ?_ _)); refine blk_put (cs := #[.bool t672, .slice none 0 0]) ?_ 1 _ rfl; (with_reducible repeat (first | refine zKn ?_ _ | refine zKd ?_ | refine zKa ?_ _)); refine blk_put (cs := #[.bool false, .slice none 0 0]) ?_ 0 _ rfl; (with_reducible repeat (first | refine zKn ?_ _ | refine zKd ?_ | refine zKa ?_ _)); exact BK651.out) Tryd.underlying24 rfl (by kernel_rfl)) rfl ?_
      exact ⟨_, by first | rfl | (simp [errW_none, errW_some] <;> rfl) | (simp [*, errW_none, errW_some] <;> rfl), by (with_reducible repeat (first | apply zRa | apply zRn | apply zRd)); exact zRm (Kd.R_far (p := ⟨gb651, 1, none⟩) (Kd.R_far (p := ⟨gb651, 0, none⟩) (Kd.R_types HO675.out BK651.out (by decide)) (fun _ hk => hk.2) (.bool t672)) (fun _ hk => hk.2) (.slice Ao60 t673.length co60)) (fun _ hk => trivial), by exact uT HB.out⟩


def filigreeref02_Neg.f (k : Nat) (a0_0 : Bool) (l0_1 : List Int) : Option (Bool × List Int) := (filigreeref02_make2.f k (!a0_0) l0_1).bind fun bt678 => (some (bt678.1, bt678.2))
set_option maxHeartbeats 8000000 in
set_option maxRecDepth 100000 in
theorem filigreeref02_Neg.calls (k : Nat) (a0_0 : Bool) (A0_1 : Option Addr) (c0_1 : Nat) (l0_1 : List Int) (r1 : Bool) (r2 : List Int) (w : World) (hr0_1 : Kd.C (Kd.int .u32) w A0_1 l0_1.length l0_1) (hc0_1 : l0_1.length ≤ c0_1) (h : filigreeref02_Neg.f k a0_0 l0_1 = some (r1, r2)) :
    Calls Tryd.prog 44 #[.agg #[.bool a0_0, .slice A0_1 l0_1.length c0_1]] w fun e w' => ∃ v1_ : Value, e = .returned (.agg #[.bool r1, v1_]) ∧ Kd.R (Kd.int .u32) 58 w' w.heap.size (fun _ => True) v1_ r2 ∧ Below w.heap.size w w' := by
  have hu24 := Tryd.underlying24
  have HR0_1 := zMk hr0_1
  have HC0_1 := zMk hc0_1
  clear hr0_1 hc0_1
  have HB := zMk (Below.refl w.heap.size w)
  have H : ((filigreeref02_make2.f k (!a0_0) l0_1).bind fun bt678 => (some (bt678.1, bt678.2))) = some (r1, r2) := h
  clear h
  replace H := bnd H
  obtain ⟨⟨t678, t679⟩, A20, H⟩ := H
  replace H : (some (t678, t679)) = some (r1, r2) := H
  have A2 := zMk A20
  clear A20
  simp only [Option.some.injEq, Prod.mk.injEq] at H
  obtain ⟨rfl, rfl⟩ := H
  go_enter Tryd.func44, Tryd.ntmps44
  go_wp2_with (first |  ((with_reducible refine gate_dst (N := 1) rfl ?_); refine box_event ?hg (N := 1) ?hd (cs := #[.bool a0_0, .slice A0_1 l0_1.length c0_1]) (t := 24) ?hr ?_; (case hd => rfl); (case hg => rfl); (case hr => first |  (go_simp; done)|  (go_simp; rfl)|  (go_simp; rw [show ∀ x : Int, IntKind.u32.wrap (IntKind.u8.wrap x) = x % 256 from fun x => (by show (x % 256) % 4294967296 = x % 256; omega)])); intro gb676 hg w3 hbox hb; have BK676 := zMk (hbox); have GW676 := zMk ((by rw [hg]; exact (zBs (by exact uT HB.out)) : w.heap.size ≤ gb676)); have GE676 := zMk ((by rw [hg]; exact (zBs (by exact uT HB.out)) : w.heap.size ≤ gb676)); have IGE676 := ownGe GE676.out; replace HB := zMk (zBt (by exact uT HB.out) hb); clear hb hbox hg)|  ((with_reducible refine gate_dst (N := 2) rfl ?_); refine box_event ?hg (N := 2) ?hd (cs := #[.bool false, .slice none 0 0]) (t := 24) ?hr ?_; (case hd => rfl); (case hg => rfl); (case hr => first |  (go_simp; done)|  (go_simp; rfl)|  (go_simp; rw [show ∀ x : Int, IntKind.u32.wrap (IntKind.u8.wrap x) = x % 256 from fun x => (by show (x % 256) % 4294967296 = x % 256; omega)])); intro gb677 hg w4 hbox hb; have BK677 := zMk (hbox); have GW677 := zMk ((by rw [hg]; exact (zBs (by exact uT HB.out)) : w.heap.size ≤ gb677)); have GE677 := zMk ((by rw [hg]; exact (zBs (by exact uT HB.out)) : w.heap.size ≤ gb677)); have IGE677 := ownGe GE677.out; replace HB := zMk (zBt (by exact uT HB.out) hb); have NB676_677 := zMk ((by rw [hg]; exact Nat.ne_of_lt (blk_lt (g := gb676) (o := .cells #[.bool a0_0, .slice A0_1 l0_1.length c0_1] 24 (0, 0)) (by (with_reducible repeat (first |  refine zKn ?_ _|  refine zKd ?_|  refine zKa ?_ _)); exact BK676.out)) : gb676 ≠ gb677)); have NB677_676 := zMk ((by rw [hg]; exact Nat.ne_of_gt (blk_lt (g := gb676) (o := .cells #[.bool a0_0, .slice A0_1 l0_1.length c0_1] 24 (0, 0)) (by (with_reducible repeat (first |  refine zKn ?_ _|  refine zKd ?_|  refine zKa ?_ _)); exact BK676.out)) : gb677 ≠ gb676)); replace BK676 := zMk (zKb (g := gb676) (o := .cells #[.bool a0_0, .slice A0_1 l0_1.length c0_1] 24 (0, 0)) (by (with_reducible repeat (first |  refine zKn ?_ _|  refine zKd ?_|  refine zKa ?_ _)); exact BK676.out) hb); clear hb hbox hg; have hnb5 := NB676_677.out; have hnc5 := NB677_676.out; have hcz6_0 : w4.cell? ⟨gb676, 0, none⟩ = some (.bool a0_0) := (zKc BK676.out 0).trans rfl; have hcz6_1 : w4.cell? ⟨gb676, 1, none⟩ = some (.slice A0_1 l0_1.length c0_1) := (zKc BK676.out 1).trans rfl; have hfz6_0 := zKf BK676.out 0; have hfz6_1 := zKf BK676.out 1)|  ((with_reducible refine gate_callee (f := 38) rfl ?_); refine goesL_ (some 8) rfl rfl Tryd.func38 (by kernel_rfl) rfl #[.bool (!a0_0), .slice A0_1 l0_1.length c0_1] rfl (by (try simp only [zMa, zMc, zMn]); first |  done|  rfl|  (simp only [zLd, zLt]; rfl)) ?_; (with_reducible refine (filigreeref02_make2.calls k (!a0_0) _ _ l0_1 t678 t679 _ ?side1 ?side2 A2.out).mono ?_); (case side1 => repeat (first |  exact (Kd.C_below HR0_1.out HB.out)|  (with_reducible refine zCa ?_ _)|  (with_reducible refine zCn ?_ _)|  (with_reducible refine zCd ?_))); (case side2 => exact HC0_1.out); rintro e w7 ⟨v680, rfl, ho0, hb⟩; refine ⟨_, rfl, ?_⟩; have HO681 := zMk (zRl ho0 (zBs (by exact uT HB.out))); replace BK676 := zMk (zKb (g := gb676) (o := .cells #[.bool a0_0, .slice A0_1 l0_1.length c0_1] 24 (0, 0)) (by (with_reducible repeat (first |  refine zKn ?_ _|  refine zKd ?_|  refine zKa ?_ _)); exact BK676.out) hb); replace BK677 := zMk (zKb (g := gb677) (o := .cells #[.bool false, .slice none 0 0] 24 (0, 0)) (by (with_reducible repeat (first |  refine zKn ?_ _|  refine zKd ?_|  refine zKa ?_ _)); exact BK677.out) hb); replace HB := zMk (zBt (by exact uT HB.out) hb); (try clear hb); (try clear hb2); (try clear hk); (try clear hi); (try clear ho0); have hcz8_0 : w7.cell? ⟨gb677, 0, none⟩ = some (.bool false) := (zKc BK677.out 0).trans rfl; have hcz8_1 : w7.cell? ⟨gb677, 1, none⟩ = some (.slice none 0 0) := (zKc BK677.out 1).trans rfl; have hfz8_0 := zKf BK677.out 0; have hfz8_1 := zKf BK677.out 1; obtain ⟨Ao9, co9, eo9⟩ := zRs HO681.out; subst eo9))
  refine bodyPost_ret (results_cell_row rfl _ _ gb677 24 #[.bool t678, .slice Ao9 t679.length co9] (0, 0) _ rfl (by (with_reducible repeat (first | refine zKn ?_ _ | refine zKd ?_ | refine zKa ?_ _)); refine blk_put (cs := #[.bool t678, .slice none 0 0]) ?_ 1 _ rfl; (with_reducible repeat (first | refine zKn ?_ _ | refine zKd ?_ | refine zKa ?_ _)); refine blk_put (cs := #[.bool false, .slice none 0 0]) ?_ 0 _ rfl; (with_reducible repeat (first | refine zKn ?_ _ | refine zKd ?_ | refine zKa ?_ _)); exact BK677.out) Tryd.underlying24 rfl (by kernel_rfl)) rfl ?_
  exact ⟨_, by first | rfl | (simp [errW_none, errW_some] <;> rfl) | (simp [*, errW_none, errW_some] <;> rfl), by (with_reducible repeat (first | apply zRa | apply zRn | apply zRd)); exact zRm (Kd.R_far (p := ⟨gb677, 1, none⟩) (Kd.R_far (p := ⟨gb677, 0, none⟩) (Kd.R_types HO681.out BK677.out (by decide)) (fun _ hk => hk.2) (.bool t678)) (fun _ hk => hk.2) (.slice Ao9 t679.length co9)) (fun _ hk => trivial), by exact uT HB.out⟩

end Go.Proofs.YtnjmnicgknggfaaDoor.E
