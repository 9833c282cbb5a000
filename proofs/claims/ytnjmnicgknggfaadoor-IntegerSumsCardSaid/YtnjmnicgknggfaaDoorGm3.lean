/- Lemmas for the statement: the walks of the functions that it reaches, and plain laws. -/
import Derived.Test.YtnjmnicgknggfaaDoorGm1
import Derived.Test.YtnjmnicgknggfaaDoorGm2
set_option linter.unusedVariables false
set_option linter.unusedSimpArgs false
namespace Go.Proofs.YtnjmnicgknggfaaDoor.G
open Go Go.RowKit Go.Proofs.YtnjmnicgknggfaaDoorW.PrintWords Go.Proofs.YtnjmnicgknggfaaDoorW.PrintLast Go.Proofs.YtnjmnicgknggfaaDoorW.PrintMore
attribute [local go_sem] max2_int min2_int max_two min_two max_three min_three max_four min_four
open Go.Proofs.YtnjmnicgknggfaaDoorW.PrintWords.Kd renaming R_alloc → zRa, R_drewN → zRn, R_drew → zRd, V_alloc → zVa, V_drewN → zVn, V_drew → zVd, V_below → zVb, C_alloc → zCa, C_drewN → zCn, C_drew → zCd, R_mono → zRm, V_mono → zVm, at_int → zAi
open Go.Proofs.YtnjmnicgknggfaaDoorW.PrintWords renaming pw_below_drewN → zBn, below_alloc → zBa, below_drew1 → zBd, below_size → zBs, below_step → zBt
open List renaming setIfInBounds_toArray → zSa, set_cons_zero → zSb, set_cons_succ → zSc, length_drop → zLd, length_take → zLt
open Go.Proofs.YtnjmnicgknggfaaDoorW.PrintWords.Aside0 renaming mk → zMk
open Option renaming bind_eq_some_iff → zBi, bind_some → zOb
open Option.some renaming inj → zOi
open Int renaming toNat_natCast → zTn

/-! ### n_Mul: function 45 -/
mutual
def n_Mul.l0 : Nat → List Int → List Int → List Int → Int → Int → Option (List Int)
  | 0, _, _, _, _, _ => none
  | k + 1, x1, x5, x22, x23, x24 => if x24 < x23 then (if 0 ≤ x24 then (if x24 < (x22.length : Int) then (n_Mul.l1 k x1 x5 x24 (rd x22 x24) 0 x22 x23 x24 x1 (x1.length : Int) 0) else (none)) else (none)) else ((n_cut.f x5).bind fun t116 => (some t116))
def n_Mul.l1 : Nat → List Int → List Int → Int → Int → Int → List Int → Int → Int → List Int → Int → Int → Option (List Int)
  | 0, _, _, _, _, _, _, _, _, _, _, _ => none
  | k + 1, x1, x5, x6, x7, x8, x22, x23, x24, x29, x30, x31 => if x31 < x30 then (if 0 ≤ x31 then (if x31 < (x29.length : Int) then (if 0 ≤ (wrap64 (x6 + x31)) then (if (wrap64 (x6 + x31)) < (x5.length : Int) then (n_Mul.l1 k x1 (x5.set ((wrap64 (x6 + x31)) : Int).toNat ((IntKind.u64.wrap ((IntKind.u64.wrap ((IntKind.u64.wrap ((IntKind.u64.wrap (x7)) * (IntKind.u64.wrap (rd x29 x31)))) + (IntKind.u64.wrap (rd x5 (wrap64 (x6 + x31)))))) + x8)) % 4294967296)) x6 x7 ((IntKind.u64.wrap ((IntKind.u64.wrap ((IntKind.u64.wrap ((IntKind.u64.wrap (x7)) * (IntKind.u64.wrap (rd x29 x31)))) + (IntKind.u64.wrap (rd x5 (wrap64 (x6 + x31)))))) + x8)) / 4294967296) x22 x23 x24 x29 x30 (wrap64 (x31 + 1))) else (none)) else (none)) else (none)) else (none)) else (if 0 ≤ (wrap64 (x6 + (x1.length : Int))) then (if (wrap64 (x6 + (x1.length : Int))) < (x5.length : Int) then (n_Mul.l0 k x1 (x5.set ((wrap64 (x6 + (x1.length : Int))) : Int).toNat ((x8) % 4294967296)) x22 x23 (wrap64 (x24 + 1))) else (none)) else (none))
end
def n_Mul.f (k : Nat) (l0 : List Int) (l1 : List Int) : Option (List Int) := (n_cut.f l0).bind fun t107 => ((n_cut.f l1).bind fun t110 => (if 0 ≤ (wrap64 ((t107.length : Int) + (t110.length : Int))) then (if (wrap64 ((t107.length : Int) + (t110.length : Int)) : Int).toNat ≤ 70368744177664 then (n_Mul.l0 k t110 (List.replicate (wrap64 ((t107.length : Int) + (t110.length : Int)) : Int).toNat 0) t107 (t107.length : Int) 0) else (none)) else (none)))
set_option maxHeartbeats 8000000 in
set_option maxRecDepth 100000 in
theorem n_Mul.calls (k : Nat) (P0_ : Nat → Prop) (A0 : Option Addr) (c0 : Nat) (l0 : List Int) (P1_ : Nat → Prop) (A1 : Option Addr) (c1 : Nat) (l1 : List Int) (r : List Int) (w : World) (hs0 : Kd.V (Kd.int .u32) 58 w w.heap.size (fun k_ => P0_ k_) (.slice A0 l0.length c0) l0) (hs1 : Kd.V (Kd.int .u32) 58 w w.heap.size (fun k_ => P1_ k_) (.slice A1 l1.length c1) l1) (h : n_Mul.f k l0 l1 = some r) :
    Calls Tryd.prog 45 #[.slice A0 l0.length c0, .slice A1 l1.length c1] w fun e w' => ∃ v0_ : Value, e = .returned (v0_) ∧ Kd.V (Kd.int .u32) 58 w' w.heap.size (fun k_ => ((P0_ k_ ∨ P1_ k_) ∨ w.heap.size ≤ k_)) v0_ r ∧ Below w.heap.size w w' := by
  have HO0 := zMk (show Kd.V (Kd.int .u32) 58 w w.heap.size (fun k_ => ((P0_ k_ ∨ P1_ k_) ∨ w.heap.size ≤ k_)) (.slice A0 l0.length c0) l0 from zVm hs0 (fun k_ hk => .inl (.inl hk)))
  have HO1 := zMk (show Kd.V (Kd.int .u32) 58 w w.heap.size (fun k_ => ((P0_ k_ ∨ P1_ k_) ∨ w.heap.size ≤ k_)) (.slice A1 l1.length c1) l1 from zVm hs1 (fun k_ hk => .inl (.inr hk)))
  have HB := zMk (Below.refl w.heap.size w)
  have H : ((n_cut.f l0).bind fun t107 => ((n_cut.f l1).bind fun t110 => (if 0 ≤ (wrap64 ((t107.length : Int) + (t110.length : Int))) then (if (wrap64 ((t107.length : Int) + (t110.length : Int)) : Int).toNat ≤ 70368744177664 then (n_Mul.l0 k t110 (List.replicate (wrap64 ((t107.length : Int) + (t110.length : Int)) : Int).toNat 0) t107 (t107.length : Int) 0) else (none)) else (none)))) = some r := h
  clear h
  replace H := Option.bind_eq_some_iff.mp H
  obtain ⟨t107, A30, H⟩ := H
  have A3 := zMk A30
  clear A30
  replace H := Option.bind_eq_some_iff.mp H
  obtain ⟨t110, A40, H⟩ := H
  have A4 := zMk A40
  clear A40
  obtain ⟨ji5, hji5⟩ : ∃ j_ : Int, (wrap64 ((t107.length : Int) + (t110.length : Int))) = j_ := ⟨_, rfl⟩
  replace H : (if 0 ≤ (ji5) then (if (ji5 : Int).toNat ≤ 70368744177664 then (n_Mul.l0 k t110 (List.replicate (ji5 : Int).toNat 0) t107 (t107.length : Int) 0) else (none)) else (none)) = some r := by first | (rw [hji5] at H; exact H) | (simp only [hji5] at H ⊢; exact H)
  (try rw [hji5] at A3)
  (try rw [hji5] at A4)
  have hji5w : (IntKind.i64.wrap ((t107.length : Int) + (t110.length : Int))) = ji5 := (i64_w _).trans hji5
  by_cases c6 : 0 ≤ (ji5)
  · rw [if_pos c6] at H
    have c6b0 := eq_true c6
    have c6b1 : decide (0 ≤ (ji5)) = true := decide_eq_true c6
    clear c6
    by_cases c7 : (ji5 : Int).toNat ≤ 70368744177664
    rotate_left
    · rw [if_neg c7] at H; exact absurd H (by simp)
    rw [if_pos c7] at H
    have c7b0 := eq_true c7
    have c7b1 : decide ((ji5 : Int).toNat ≤ 70368744177664) = true := decide_eq_true c7
    clear c7
    obtain ⟨y113, hy113⟩ : ∃ y_ : List Int, y_ = (List.replicate (ji5 : Int).toNat 0) := ⟨_, rfl⟩
    replace H : (n_Mul.l0 k t110 y113 t107 (t107.length : Int) 0) = some r := by first | (rw [hy113]; with_reducible exact H) | (have H2_ := (zOb _ _).symm.trans H; rw [hy113]; with_reducible exact H2_) | (have H2_ := (zOb _ _).symm.trans H; with_reducible exact H2_) | with_reducible exact H | (rw [hy113]; exact H) | exact H
    have Ny113 := zMk hy113
    clear hy113
    have H' := zMk H
    clear H
    go_enter Tryd.func45, Tryd.ntmps45
    go_wp2_with (first | ((with_reducible refine gate_callee (f := 56) rfl ?_); refine goesL_ (some 13) rfl rfl Tryd.func56 (by kernel_rfl) rfl #[.slice A0 l0.length c0] rfl (by (try simp only [List.map_toArray, List.map_cons, List.map_nil]); first | done | rfl | (simp only [zLd, zLt]; rfl)) ?_; (with_reducible refine (n_cut.calls (fun k_ => ((P0_ k_ ∨ P1_ k_) ∨ w.heap.size ≤ k_)) _ _ l0 t107 _ ?side1 A3.out).mono ?_); (case side1 => exact HO0.out); rintro e w8 ⟨v108, rfl, ho0, hb⟩; refine ⟨_, rfl, ?_⟩; have n0_ := zMk (zVb (by (with_reducible repeat (first | apply zVa | apply zVn | apply zVd)); exact HO0.out) hb); have n1_ := zMk (zVb (by (with_reducible repeat (first | apply zVa | apply zVn | apply zVd)); exact HO1.out) hb); have n2_ := zMk (Kd.V_lower (zVm (ok' := fun k_ => ((P0_ k_ ∨ P1_ k_) ∨ w.heap.size ≤ k_)) ho0 (fun k_ hk_ => Or.elim hk_ (fun hs_ => hs_) (fun hn_ => (.inr (Nat.le_trans (zBs (by repeat (first | (with_reducible first | exact HB.out | apply zBa | apply zBn | apply zBd) | exact HB.out))) hn_))))) (zBs (by repeat (first | (with_reducible first | exact HB.out | apply zBa | apply zBn | apply zBd) | exact HB.out)))); have n3_ := zMk (zBt (by repeat (first | (with_reducible first | exact HB.out | apply zBa | apply zBn | apply zBd) | exact HB.out)) hb); clear HO0; clear HO1; clear HB; have HO0 := n0_; have HO1 := n1_; have HO109 := n2_; have HB := n3_; clear n0_ n1_ n2_ n3_; (try clear hb); (try clear hb2); (try clear hk); (try clear hi); (try clear ho0)) | ((with_reducible refine gate_callee (f := 56) rfl ?_); refine goesL_ (some 15) rfl rfl Tryd.func56 (by kernel_rfl) rfl #[.slice A1 l1.length c1] rfl (by (try simp only [List.map_toArray, List.map_cons, List.map_nil]); first | done | rfl | (simp only [zLd, zLt]; rfl)) ?_; (with_reducible refine (n_cut.calls (fun k_ => ((P0_ k_ ∨ P1_ k_) ∨ w.heap.size ≤ k_)) _ _ l1 t110 _ ?side1 A4.out).mono ?_); (case side1 => exact HO1.out); rintro e w9 ⟨v111, rfl, ho0, hb⟩; refine ⟨_, rfl, ?_⟩; have n0_ := zMk (zVb (by (with_reducible repeat (first | apply zVa | apply zVn | apply zVd)); exact HO0.out) hb); have n1_ := zMk (zVb (by (with_reducible repeat (first | apply zVa | apply zVn | apply zVd)); exact HO1.out) hb); have n2_ := zMk (zVb (by (with_reducible repeat (first | apply zVa | apply zVn | apply zVd)); exact HO109.out) hb); have n3_ := zMk (Kd.V_lower (zVm (ok' := fun k_ => ((P0_ k_ ∨ P1_ k_) ∨ w.heap.size ≤ k_)) ho0 (fun k_ hk_ => Or.elim hk_ (fun hs_ => hs_) (fun hn_ => (.inr (Nat.le_trans (zBs (by repeat (first | (with_reducible first | exact HB.out | apply zBa | apply zBn | apply zBd) | exact HB.out))) hn_))))) (zBs (by repeat (first | (with_reducible first | exact HB.out | apply zBa | apply zBn | apply zBd) | exact HB.out)))); have n4_ := zMk (zBt (by repeat (first | (with_reducible first | exact HB.out | apply zBa | apply zBn | apply zBd) | exact HB.out)) hb); clear HO0; clear HO1; clear HO109; clear HB; have HO0 := n0_; have HO1 := n1_; have HO109 := n2_; have HO112 := n3_; have HB := n4_; clear n0_ n1_ n2_ n3_ n4_; (try clear hb); (try clear hb2); (try clear hk); (try clear hi); (try clear ho0); obtain ⟨Ao10, co10, eo10⟩ := Kd.V_slice HO109.out; subst eo10; obtain ⟨Ao11, co11, eo11⟩ := Kd.V_slice HO112.out; subst eo11) | ((with_reducible refine gate_dst (N := 21) rfl ?_); refine Kd.R_make (Kd.int .u32) _ 58 rfl (N := 21) rfl 22 _ _ rfl ji5 rfl rfl Tryd.underlying22 (.int .u32 0) 4 info58 rfl (by decide) (by omega) 0 (ok := fun _ => True) (okp := fun _ => True) rfl (fun _ hk => hk) trivial (of_decide_eq_true (by first | (with_reducible assumption) | assumption)) (Nat.le_trans (Nat.mul_le_mul_right _ (of_decide_eq_true (by first | (with_reducible assumption) | assumption) : ji5.toNat ≤ 70368744177664)) (by omega)) (Below.refl _ _) (Nat.le_refl _) ?_; intro v114 w12 ho13 hb hg_ hnew_; clear hg_ hnew_; (first | rw [← Ny113.out] at ho13 | (simp only [Int.reduceToNat] at ho13; rw [← Ny113.out] at ho13)); have n0_ := zMk (Kd.V_elder' (by (with_reducible repeat (first | apply zVa | apply zVn | apply zVd)); exact HO0.out) (Kd.R_base ho13) hb); have n1_ := zMk (Kd.V_elder' (by (with_reducible repeat (first | apply zVa | apply zVn | apply zVd)); exact HO1.out) (Kd.R_base ho13) hb); have n2_ := zMk (Kd.V_elder' (by (with_reducible repeat (first | apply zVa | apply zVn | apply zVd)); exact HO109.out) (Kd.R_base ho13) hb); have n3_ := zMk (Kd.V_elder' (by (with_reducible repeat (first | apply zVa | apply zVn | apply zVd)); exact HO112.out) (Kd.R_base ho13) hb); have n4_ := zMk (Kd.R_lower (Kd.R_newM (M := fun k_ => (w.heap.size ≤ k_)) ho13 (zBs (by repeat (first | (with_reducible first | exact HB.out | apply zBa | apply zBn | apply zBd) | exact HB.out))) (fun k_ h_ => h_)) (zBs (by repeat (first | (with_reducible first | exact HB.out | apply zBa | apply zBn | apply zBd) | exact HB.out)))); have n5_ := zMk (zBt (by repeat (first | (with_reducible first | exact HB.out | apply zBa | apply zBn | apply zBd) | exact HB.out)) hb); clear HO0; clear HO1; clear HO109; clear HO112; clear HB; have HO0 := n0_; have HO1 := n1_; have HO109 := n2_; have HO112 := n3_; have HO115 := n4_; have HB := n5_; clear n0_ n1_ n2_ n3_ n4_ n5_; clear hb ho13))
    go_loopg [24] k (fun kq v24 w' => ∃ (x5_1 : List Int) (x24_1 : Int), v24 = .int .i64 x24_1 ∧ Aside0 (n_Mul.l0 kq t110 x5_1 t107 (t107.length : Int) x24_1 = some r) ∧ Aside0 (kq ≤ k) ∧ Aside0 (Kd.V (Kd.int .u32) 58 w' w.heap.size (fun k_ => ((P0_ k_ ∨ P1_ k_) ∨ w.heap.size ≤ k_) ∧ some k_ ≠ (v114 : Value).ownBlock) (.slice Ao11 t110.length co11) t110) ∧ Aside0 (Kd.R (Kd.int .u32) 58 w' w.heap.size (fun k_ => (w.heap.size ≤ k_)) v114 x5_1) ∧ Aside0 (Kd.V (Kd.int .u32) 58 w' w.heap.size (fun k_ => ((P0_ k_ ∨ P1_ k_) ∨ w.heap.size ≤ k_) ∧ some k_ ≠ (v114 : Value).ownBlock) (.slice Ao10 t107.length co10) t107) ∧ Aside0 (Below w.heap.size w w'))
    case atStart => exact ⟨(y113), (0), (by first | rfl | (simp; done) | (simp [*]; done)), H', ⟨Nat.le_refl _⟩, ⟨by (with_reducible repeat (first | apply zVa | apply zVn | apply zVd)); exact HO112.out⟩, ⟨by (with_reducible repeat (first | apply zRa | apply zRn | apply zRd)); exact zRm HO115.out (fun _ hk => hk.1)⟩, ⟨by (with_reducible repeat (first | apply zVa | apply zVn | apply zVd)); exact HO109.out⟩, ⟨by repeat (first | (with_reducible first | exact HB.out | apply zBa | apply zBn | apply zBd) | exact HB.out)⟩⟩
    clear H'
    obtain ⟨x5_1, x24_1, rfl, HA, HK1, HO_1, HO_5, HO_22, HB⟩ := hrel
    rcases gk with _ | k1
    · exact absurd HA.out (by simp [n_Mul.l0])
    have H := HA.out
    clear HA
    simp only [n_Mul.l0] at H
    by_cases c14 : x24_1 < (t107.length : Int)
    · rw [if_pos c14] at H
      have c14b0 : decide (x24_1 < (t107.length : Int)) = true := decide_eq_true c14
      clear c14
      by_cases c15 : 0 ≤ x24_1
      rotate_left
      · rw [if_neg c15] at H; exact absurd H (by simp)
      rw [if_pos c15] at H
      have c15b0 : decide (0 ≤ x24_1) = true := decide_eq_true c15
      clear c15
      by_cases c16 : x24_1 < (t107.length : Int)
      rotate_left
      · rw [if_neg c16] at H; exact absurd H (by simp)
      rw [if_pos c16] at H
      have c16b0 : decide (x24_1 < (t107.length : Int)) = true := decide_eq_true c16
      clear c16
      have H' := zMk H
      clear H
      have p119 : 0 ≤ (x24_1 : Int) := of_decide_eq_true (by first | (with_reducible assumption) | assumption)
      have q119 : x24_1 < (t107.length : Int) := of_decide_eq_true (by first | (with_reducible assumption) | assumption)
      obtain ⟨ad119, e119, hx119_0⟩ := zAi (Kd.V_reads' HO_22.out).2.2 x24_1 p119 q119
      cases e119
      replace p119 := eq_true p119
      replace q119 := eq_true q119
      go_wp2
      go_loopg [8, 31] k1 (fun kq v8 v31 w' => ∃ (x5_2 : List Int) (x8_2 : Int) (x31_2 : Int), v8 = .int .u64 x8_2 ∧ v31 = .int .i64 x31_2 ∧ Aside0 (n_Mul.l1 kq t110 x5_2 x24_1 (rd t107 x24_1) x8_2 t107 (t107.length : Int) x24_1 t110 (t110.length : Int) x31_2 = some r) ∧ Aside0 (kq ≤ k1) ∧ Aside0 (Kd.V (Kd.int .u32) 58 w' w.heap.size (fun k_ => ((P0_ k_ ∨ P1_ k_) ∨ w.heap.size ≤ k_) ∧ some k_ ≠ (v114 : Value).ownBlock) (.slice Ao11 t110.length co11) t110) ∧ Aside0 (Kd.R (Kd.int .u32) 58 w' w.heap.size (fun k_ => (w.heap.size ≤ k_)) v114 x5_2) ∧ Aside0 (Kd.V (Kd.int .u32) 58 w' w.heap.size (fun k_ => ((P0_ k_ ∨ P1_ k_) ∨ w.heap.size ≤ k_) ∧ some k_ ≠ (v114 : Value).ownBlock) (.slice (some ad119) t107.length co10) t107) ∧ Aside0 (Kd.V (Kd.int .u32) 58 w' w.heap.size (fun k_ => ((P0_ k_ ∨ P1_ k_) ∨ w.heap.size ≤ k_) ∧ some k_ ≠ (v114 : Value).ownBlock) (.slice Ao11 t110.length co11) t110) ∧ Aside0 (Below w.heap.size w w'))
      case atStart => exact ⟨(x5_1), (0), (0), (by first | rfl | (simp; done) | (simp [*]; done)), (by first | rfl | (simp; done) | (simp [*]; done)), H', ⟨Nat.le_refl _⟩, ⟨by (with_reducible repeat (first | apply zVa | apply zVn | apply zVd)); exact HO_1.out⟩, ⟨by (with_reducible repeat (first | apply zRa | apply zRn | apply zRd)); exact HO_5.out⟩, ⟨by (with_reducible repeat (first | apply zVa | apply zVn | apply zVd)); exact HO_22.out⟩, ⟨by (with_reducible repeat (first | apply zVa | apply zVn | apply zVd)); exact HO_1.out⟩, ⟨by repeat (first | (with_reducible first | exact HB.out | apply zBa | apply zBn | apply zBd) | exact HB.out)⟩⟩
      clear H'
      obtain ⟨x5_2, x8_2, x31_2, rfl, rfl, HA, HK2, HO_1, HO_5, HO_22, HO_29, HB⟩ := hrel
      rcases gk with _ | k2
      · exact absurd HA.out (by simp [n_Mul.l1])
      have H := HA.out
      clear HA
      simp only [n_Mul.l1] at H
      by_cases c17 : x31_2 < (t110.length : Int)
      · rw [if_pos c17] at H
        have c17b0 : decide (x31_2 < (t110.length : Int)) = true := decide_eq_true c17
        clear c17
        by_cases c18 : 0 ≤ x31_2
        rotate_left
        · rw [if_neg c18] at H; exact absurd H (by simp)
        rw [if_pos c18] at H
        have c18b0 : decide (0 ≤ x31_2) = true := decide_eq_true c18
        clear c18
        by_cases c19 : x31_2 < (t110.length : Int)
        rotate_left
        · rw [if_neg c19] at H; exact absurd H (by simp)
        rw [if_pos c19] at H
        have c19b0 : decide (x31_2 < (t110.length : Int)) = true := decide_eq_true c19
        clear c19
        obtain ⟨ji20, hji20⟩ : ∃ j_ : Int, (wrap64 (x24_1 + x31_2)) = j_ := ⟨_, rfl⟩
        replace H : (if 0 ≤ (ji20) then (if (ji20) < (x5_2.length : Int) then (n_Mul.l1 k2 t110 (x5_2.set ((ji20) : Int).toNat ((IntKind.u64.wrap ((IntKind.u64.wrap ((IntKind.u64.wrap ((IntKind.u64.wrap ((rd t107 x24_1))) * (IntKind.u64.wrap (rd t110 x31_2)))) + (IntKind.u64.wrap (rd x5_2 (ji20))))) + x8_2)) % 4294967296)) x24_1 (rd t107 x24_1) ((IntKind.u64.wrap ((IntKind.u64.wrap ((IntKind.u64.wrap ((IntKind.u64.wrap ((rd t107 x24_1))) * (IntKind.u64.wrap (rd t110 x31_2)))) + (IntKind.u64.wrap (rd x5_2 (ji20))))) + x8_2)) / 4294967296) t107 (t107.length : Int) x24_1 t110 (t110.length : Int) (wrap64 (x31_2 + 1))) else (none)) else (none)) = some r := by first | (rw [hji20] at H; exact H) | (simp only [hji20] at H ⊢; exact H)
        have hji20w : (IntKind.i64.wrap (x24_1 + x31_2)) = ji20 := (i64_w _).trans hji20
        by_cases c21 : 0 ≤ (ji20)
        rotate_left
        · rw [if_neg c21] at H; exact absurd H (by simp)
        rw [if_pos c21] at H
        have c21b0 : decide (0 ≤ (ji20)) = true := decide_eq_true c21
        clear c21
        by_cases c22 : (ji20) < (x5_2.length : Int)
        rotate_left
        · rw [if_neg c22] at H; exact absurd H (by simp)
        rw [if_pos c22] at H
        have c22b0 : decide ((ji20) < (x5_2.length : Int)) = true := decide_eq_true c22
        clear c22
        obtain ⟨y122, hy122⟩ : ∃ y_ : List Int, y_ = (x5_2.set ((ji20) : Int).toNat ((IntKind.u64.wrap ((IntKind.u64.wrap ((IntKind.u64.wrap ((IntKind.u64.wrap ((rd t107 x24_1))) * (IntKind.u64.wrap (rd t110 x31_2)))) + (IntKind.u64.wrap (rd x5_2 (ji20))))) + x8_2)) % 4294967296)) := ⟨_, rfl⟩
        replace H : (n_Mul.l1 k2 t110 y122 x24_1 (rd t107 x24_1) ((IntKind.u64.wrap ((IntKind.u64.wrap ((IntKind.u64.wrap ((IntKind.u64.wrap ((rd t107 x24_1))) * (IntKind.u64.wrap (rd t110 x31_2)))) + (IntKind.u64.wrap (rd x5_2 (ji20))))) + x8_2)) / 4294967296) t107 (t107.length : Int) x24_1 t110 (t110.length : Int) (wrap64 (x31_2 + 1))) = some r := by first | (rw [hy122]; with_reducible exact H) | (have H2_ := (zOb _ _).symm.trans H; rw [hy122]; with_reducible exact H2_) | (have H2_ := (zOb _ _).symm.trans H; with_reducible exact H2_) | with_reducible exact H | (rw [hy122]; exact H) | exact H
        have Ny122 := zMk hy122
        clear hy122
        have H' := zMk H
        clear H
        have p120 : 0 ≤ (x31_2 : Int) := of_decide_eq_true (by first | (with_reducible assumption) | assumption)
        have q120 : x31_2 < (t110.length : Int) := of_decide_eq_true (by first | (with_reducible assumption) | assumption)
        obtain ⟨ad120, e120, hx120_0⟩ := zAi (Kd.V_reads' HO_29.out).2.2 x31_2 p120 q120
        cases e120
        replace p120 := eq_true p120
        replace q120 := eq_true q120
        obtain ⟨Ao24, co24, eo24⟩ := Kd.R_slice HO_5.out
        subst eo24
        have p121 : 0 ≤ ((ji20) : Int) := of_decide_eq_true (by first | (with_reducible assumption) | assumption)
        have q121 : (ji20) < (x5_2.length : Int) := of_decide_eq_true (by first | (with_reducible assumption) | assumption)
        obtain ⟨ad121, e121, hx121_0⟩ := zAi (Kd.R_reads' HO_5.out).2.2 (ji20) p121 q121
        cases e121
        replace p121 := eq_true p121
        replace q121 := eq_true q121
        have p23 : 0 ≤ ((ji20) : Int) := of_decide_eq_true (by first | (with_reducible assumption) | assumption)
        have q23 : ((ji20) : Int) < ((x5_2.length : Int) : Int) := of_decide_eq_true (by first | (with_reducible assumption) | assumption)
        obtain ⟨go23, co23, eo23, gb23, gl23, cl23, HG23⟩ := Kd.R_form HO_5.out (by omega)
        (first | cases eo23 | (injection eo23 with ea_ en_ ec_; (first | subst ea_ | (injection ea_ with ea_; subst ea_)); subst ec_; clear en_))
        have GB23 := zMk gb23
        have GG23 := zMk HG23
        clear gb23 gl23 HG23
        (first | simp only [add_plain] at hx121_0 | skip)
        obtain ⟨hx23_0, hf23_0⟩ := Kd.R_celln 0 HO_5.out ((ji20) : Int) p23 q23
        replace p23 := eq_true p23
        replace q23 := eq_true q23
        have HP25 := Kd.R_putg HO_5.out ((ji20) : Int) ((IntKind.u64.wrap ((IntKind.u64.wrap ((IntKind.u64.wrap ((IntKind.u64.wrap ((rd t107 x24_1))) * (IntKind.u64.wrap (rd t110 x31_2)))) + (IntKind.u64.wrap (rd x5_2 (ji20))))) + x8_2)) % 4294967296)
        go_wp2_with (first | ((with_reducible refine gate_store (t := 58) (p := 59) rfl ?_); refine store_event (t := 58) (p := 59) (v := ?vo_w26) (w1 := (wr.setCell ⟨go23, ((ji20) : Int).toNat, none⟩ (.int .u32 ((IntKind.u64.wrap ((IntKind.u64.wrap ((IntKind.u64.wrap ((IntKind.u64.wrap ((rd t107 x24_1))) * (IntKind.u64.wrap (rd t110 x31_2)))) + (IntKind.u64.wrap (rd x5_2 (ji20))))) + x8_2)) % 4294967296)))) ?hg ?ho ?hn ?hr ?_; (case ho => rfl); (case hg => rfl); (case hn => rfl); (case hr => first | (go_simp; done) | (go_simp; rfl) | (go_simp; rw [show ∀ x : Int, IntKind.u32.wrap (IntKind.u8.wrap x) = x % 256 from fun x => (by show (x % 256) % 4294967296 = x % 256; omega)])); intro w26 hw; have hg : wr.grownBy w26 (some go23) := (by rw [hw]; exact HP25.2); have hp_ : Kd.R (Kd.int .u32) 58 w26 w.heap.size (fun k_ => (w.heap.size ≤ k_)) (.slice (some ⟨go23, 0, none⟩) x5_2.length co24) y122 := (by rw [hw, Ny122.out]; exact HP25.1); clear HP25; have n0_ := zMk (Kd.V_afterv (v := (.slice (some ⟨go23, 0, none⟩) x5_2.length co24)) (v1 := (.slice (some ⟨go23, 0, none⟩) x5_2.length co24)) (ok := (fun k_ => ((P0_ k_ ∨ P1_ k_) ∨ w.heap.size ≤ k_))) (by (with_reducible repeat (first | apply zVa | apply zVn | apply zVd)); exact HO_1.out) hg (.inl rfl)); have n1_ := zMk (hp_); have n2_ := zMk (Kd.V_afterv (v := (.slice (some ⟨go23, 0, none⟩) x5_2.length co24)) (v1 := (.slice (some ⟨go23, 0, none⟩) x5_2.length co24)) (ok := (fun k_ => ((P0_ k_ ∨ P1_ k_) ∨ w.heap.size ≤ k_))) (by (with_reducible repeat (first | apply zVa | apply zVn | apply zVd)); exact HO_22.out) hg (.inl rfl)); have n3_ := zMk (Kd.V_afterv (v := (.slice (some ⟨go23, 0, none⟩) x5_2.length co24)) (v1 := (.slice (some ⟨go23, 0, none⟩) x5_2.length co24)) (ok := (fun k_ => ((P0_ k_ ∨ P1_ k_) ∨ w.heap.size ≤ k_))) (by (with_reducible repeat (first | apply zVa | apply zVn | apply zVd)); exact HO_29.out) hg (.inl rfl)); have n4_ := zMk ((by rw [hw]; exact below_set (HB.out) GB23.out : Below w.heap.size w w26)); clear HO_1; clear HO_5; clear HO_22; clear HO_29; clear HB; have HO_1 := n0_; have HO_5 := n1_; have HO_22 := n2_; have HO_29 := n3_; have HB := n4_; clear n0_ n1_ n2_ n3_ n4_; clear hg hw hp_))
        go_roundg k2
        case measure => have := HK1.out; have := HK2.out; omega
        case rel => exact ⟨(y122), ((IntKind.u64.wrap ((IntKind.u64.wrap ((IntKind.u64.wrap ((IntKind.u64.wrap ((rd t107 x24_1))) * (IntKind.u64.wrap (rd t110 x31_2)))) + (IntKind.u64.wrap (rd x5_2 (ji20))))) + x8_2)) / 4294967296), (wrap64 (x31_2 + 1)), (by first | rfl | (simp; done) | (simp only [← hji20] <;> (first | rfl | simp)) | (simp [*]; done)), (by first | rfl | (simp; done) | (simp [*]; done)), H', ⟨by have := HK1.out; have := HK2.out; omega⟩, ⟨by (with_reducible repeat (first | apply zVa | apply zVn | apply zVd)); exact HO_1.out⟩, ⟨by (with_reducible repeat (first | apply zRa | apply zRn | apply zRd)); exact HO_5.out⟩, ⟨by (with_reducible repeat (first | apply zVa | apply zVn | apply zVd)); exact HO_22.out⟩, ⟨by (with_reducible repeat (first | apply zVa | apply zVn | apply zVd)); exact HO_29.out⟩, ⟨by repeat (first | (with_reducible first | exact HB.out | apply zBa | apply zBn | apply zBd) | exact HB.out)⟩⟩
      · rw [if_neg c17] at H
        have c17b0 : decide (x31_2 < (t110.length : Int)) = false := decide_eq_false c17
        clear c17
        obtain ⟨ji27, hji27⟩ : ∃ j_ : Int, (wrap64 (x24_1 + (t110.length : Int))) = j_ := ⟨_, rfl⟩
        replace H : (if 0 ≤ (ji27) then (if (ji27) < (x5_2.length : Int) then (n_Mul.l0 k2 t110 (x5_2.set ((ji27) : Int).toNat ((x8_2) % 4294967296)) t107 (t107.length : Int) (wrap64 (x24_1 + 1))) else (none)) else (none)) = some r := by first | (rw [hji27] at H; exact H) | (simp only [hji27] at H ⊢; exact H)
        have hji27w : (IntKind.i64.wrap (x24_1 + (t110.length : Int))) = ji27 := (i64_w _).trans hji27
        by_cases c28 : 0 ≤ (ji27)
        rotate_left
        · rw [if_neg c28] at H; exact absurd H (by simp)
        rw [if_pos c28] at H
        have c28b0 : decide (0 ≤ (ji27)) = true := decide_eq_true c28
        clear c28
        by_cases c29 : (ji27) < (x5_2.length : Int)
        rotate_left
        · rw [if_neg c29] at H; exact absurd H (by simp)
        rw [if_pos c29] at H
        have c29b0 : decide ((ji27) < (x5_2.length : Int)) = true := decide_eq_true c29
        clear c29
        obtain ⟨y123, hy123⟩ : ∃ y_ : List Int, y_ = (x5_2.set ((ji27) : Int).toNat ((x8_2) % 4294967296)) := ⟨_, rfl⟩
        replace H : (n_Mul.l0 k2 t110 y123 t107 (t107.length : Int) (wrap64 (x24_1 + 1))) = some r := by first | (rw [hy123]; with_reducible exact H) | (have H2_ := (zOb _ _).symm.trans H; rw [hy123]; with_reducible exact H2_) | (have H2_ := (zOb _ _).symm.trans H; with_reducible exact H2_) | with_reducible exact H | (rw [hy123]; exact H) | exact H
        have Ny123 := zMk hy123
        clear hy123
        have H' := zMk H
        clear H
        have p30 : 0 ≤ ((ji27) : Int) := of_decide_eq_true (by first | (with_reducible assumption) | assumption)
        have q30 : ((ji27) : Int) < ((x5_2.length : Int) : Int) := of_decide_eq_true (by first | (with_reducible assumption) | assumption)
        obtain ⟨go30, co30, eo30, gb30, gl30, cl30, HG30⟩ := Kd.R_form HO_5.out (by omega)
        (first | cases eo30 | (injection eo30 with ea_ en_ ec_; (first | subst ea_ | (injection ea_ with ea_; subst ea_)); subst ec_; clear en_))
        have GB30 := zMk gb30
        have GG30 := zMk HG30
        clear gb30 gl30 HG30
        obtain ⟨hx30_0, hf30_0⟩ := Kd.R_celln 0 HO_5.out ((ji27) : Int) p30 q30
        replace p30 := eq_true p30
        replace q30 := eq_true q30
        have HP31 := Kd.R_putg HO_5.out ((ji27) : Int) ((x8_2) % 4294967296)
        go_wp2_with (first | ((with_reducible refine gate_store (t := 58) (p := 68) rfl ?_); refine store_event (t := 58) (p := 68) (v := ?vo_w32) (w1 := (wr.setCell ⟨go30, ((ji27) : Int).toNat, none⟩ (.int .u32 ((x8_2) % 4294967296)))) ?hg ?ho ?hn ?hr ?_; (case ho => rfl); (case hg => rfl); (case hn => rfl); (case hr => first | (go_simp; done) | (go_simp; rfl) | (go_simp; rw [show ∀ x : Int, IntKind.u32.wrap (IntKind.u8.wrap x) = x % 256 from fun x => (by show (x % 256) % 4294967296 = x % 256; omega)])); intro w32 hw; have hg : wr.grownBy w32 (some go30) := (by rw [hw]; exact HP31.2); have hp_ : Kd.R (Kd.int .u32) 58 w32 w.heap.size (fun k_ => (w.heap.size ≤ k_)) (.slice (some ⟨go30, 0, none⟩) x5_2.length co30) y123 := (by rw [hw, Ny123.out]; exact HP31.1); clear HP31; have n0_ := zMk (Kd.V_afterv (v := (.slice (some ⟨go30, 0, none⟩) x5_2.length co30)) (v1 := (.slice (some ⟨go30, 0, none⟩) x5_2.length co30)) (ok := (fun k_ => ((P0_ k_ ∨ P1_ k_) ∨ w.heap.size ≤ k_))) (by (with_reducible repeat (first | apply zVa | apply zVn | apply zVd)); exact HO_1.out) hg (.inl rfl)); have n1_ := zMk (hp_); have n2_ := zMk (Kd.V_afterv (v := (.slice (some ⟨go30, 0, none⟩) x5_2.length co30)) (v1 := (.slice (some ⟨go30, 0, none⟩) x5_2.length co30)) (ok := (fun k_ => ((P0_ k_ ∨ P1_ k_) ∨ w.heap.size ≤ k_))) (by (with_reducible repeat (first | apply zVa | apply zVn | apply zVd)); exact HO_22.out) hg (.inl rfl)); have n3_ := zMk (Kd.V_afterv (v := (.slice (some ⟨go30, 0, none⟩) x5_2.length co30)) (v1 := (.slice (some ⟨go30, 0, none⟩) x5_2.length co30)) (ok := (fun k_ => ((P0_ k_ ∨ P1_ k_) ∨ w.heap.size ≤ k_))) (by (with_reducible repeat (first | apply zVa | apply zVn | apply zVd)); exact HO_29.out) hg (.inl rfl)); have n4_ := zMk ((by rw [hw]; exact below_set (HB.out) GB30.out : Below w.heap.size w w32)); clear HO_1; clear HO_5; clear HO_22; clear HO_29; clear HB; have HO_1 := n0_; have HO_5 := n1_; have HO_22 := n2_; have HO_29 := n3_; have HB := n4_; clear n0_ n1_ n2_ n3_ n4_; clear hg hw hp_))
        go_roundg k2
        case measure => have := HK1.out; have := HK2.out; omega
        case rel => exact ⟨(y123), (wrap64 (x24_1 + 1)), (by first | rfl | (simp; done) | (simp [*]; done)), H', ⟨by have := HK1.out; have := HK2.out; omega⟩, ⟨by (with_reducible repeat (first | apply zVa | apply zVn | apply zVd)); exact HO_1.out⟩, ⟨by (with_reducible repeat (first | apply zRa | apply zRn | apply zRd)); exact HO_5.out⟩, ⟨by (with_reducible repeat (first | apply zVa | apply zVn | apply zVd)); exact HO_22.out⟩, ⟨by repeat (first | (with_reducible first | exact HB.out | apply zBa | apply zBn | apply zBd) | exact HB.out)⟩⟩
    · rw [if_neg c14] at H
      have c14b0 : decide (x24_1 < (t107.length : Int)) = false := decide_eq_false c14
      clear c14
      replace H := Option.bind_eq_some_iff.mp H
      obtain ⟨t116, A330, H⟩ := H
      have A33 := zMk A330
      clear A330
      obtain rfl := zOi H
      obtain ⟨Ao34, co34, eo34⟩ := Kd.R_slice HO_5.out
      subst eo34
      go_wp2_with (first | ((with_reducible refine gate_callee (f := 56) rfl ?_); refine goesL_ (some 71) rfl rfl Tryd.func56 (by kernel_rfl) rfl #[.slice Ao34 x5_1.length co34] rfl (by (try simp only [List.map_toArray, List.map_cons, List.map_nil]); first | done | rfl | (simp only [zLd, zLt]; rfl)) ?_; (with_reducible refine (n_cut.calls (fun k_ => some k_ = (.slice Ao34 x5_1.length co34 : Value).ownBlock) _ _ x5_1 t116 _ ?side1 A33.out).mono ?_); (case side1 => exact Kd.R_V (Kd.R_tight rfl (HO_5.out))); rintro e w35 ⟨v117, rfl, ho0, hb⟩; refine ⟨_, rfl, ?_⟩; have n0_ := zMk (zVb (by (with_reducible repeat (first | apply zVa | apply zVn | apply zVd)); exact HO_1.out) hb); have n1_ := zMk (Kd.R_below (by (with_reducible repeat (first | apply zRa | apply zRn | apply zRd)); exact HO_5.out) hb); have n2_ := zMk (zVb (by (with_reducible repeat (first | apply zVa | apply zVn | apply zVd)); exact HO_22.out) hb); have n3_ := zMk (Kd.V_lower (zVm (ok' := fun k_ => ((P0_ k_ ∨ P1_ k_) ∨ w.heap.size ≤ k_)) ho0 (fun k_ hk_ => Or.elim hk_ (fun hs_ => (.inr (((HO_5.out).1 k_ hs_.symm)))) (fun hn_ => (.inr (Nat.le_trans (zBs (by repeat (first | (with_reducible first | exact HB.out | apply zBa | apply zBn | apply zBd) | exact HB.out))) hn_))))) (zBs (by repeat (first | (with_reducible first | exact HB.out | apply zBa | apply zBn | apply zBd) | exact HB.out)))); have n4_ := zMk (zBt (by repeat (first | (with_reducible first | exact HB.out | apply zBa | apply zBn | apply zBd) | exact HB.out)) hb); clear HO_1; clear HO_5; clear HO_22; clear HB; have HO_1 := n0_; have HO_5 := n1_; have HO_22 := n2_; have HO118 := n3_; have HB := n4_; clear n0_ n1_ n2_ n3_ n4_; (try clear hb); (try clear hb2); (try clear hk); (try clear hi); (try clear ho0)))
      go_ret
      exact ⟨_, by first | rfl | (simp [errW_none, errW_some] <;> rfl) | (simp only [← hji5]; first | rfl | (simp [errW_none, errW_some] <;> rfl)) | (simp [*, errW_none, errW_some] <;> rfl), by (with_reducible repeat (first | apply zVa | apply zVn | apply zVd)); exact HO118.out, by repeat (first | (with_reducible first | exact HB.out | apply zBa | apply zBn | apply zBd) | exact HB.out)⟩
  · rw [if_neg c6] at H
    exact absurd H (by simp)

/- The plain law of the program's product. -/
/-- Limbs in their normal form that stand for n. -/
structure IsNum (l : List Int) (n : Int) : Prop where
  limbs : Limbs l
  trim : Trim l
  eq : val l = n
theorem IsNum.unique {a b : List Int} {n : Int} (ha : IsNum a n) (hb : IsNum b n) : a = b := val_inj ha.limbs ha.trim hb.limbs hb.trim (ha.eq.trans hb.eq.symm)
theorem IsNum.cut {l : List Int} (h : Limbs l) : IsNum (cut l) (val l) := ⟨cut_limbs h, cut_trim l, cut_val l⟩
theorem getD_set_ne (l : List Int) {m n : Nat} (v : Int) (h : m ≠ n) : (l.set m v).getD n 0 = l.getD n 0 := by rw [List.getD_eq_getElem?_getD, List.getElem?_set_ne h, ← List.getD_eq_getElem?_getD]
theorem val_set (l : List Int) : ∀ (n : Nat) (v : Int), n < l.length → val (l.set n v) = val l + 4294967296 ^ n * (v - l.getD n 0) := by
  induction l with
  | nil => intro n v h; exact absurd h (by simp)
  | cons x l ih =>
    intro n v h
    rcases n with _ | n
    · simp only [zSb, val, List.getD_cons_zero, Int.pow_zero]; omega
    · have := ih n v (by simpa using h)
      simp only [zSc, val, List.getD_cons_succ, this, Int.pow_succ]
      grind
theorem Limbs.set {l : List Int} (h : Limbs l) (n : Nat) {v : Int} (h0 : 0 ≤ v) (h1 : v < 4294967296) : Limbs (l.set n v) := fun x hx => by
  rcases List.mem_or_eq_of_mem_set hx with hx | rfl
  · exact h x hx
  · exact ⟨h0, h1⟩
theorem getD_of_lt {l : List Int} : ∀ {m n : Nat}, Limbs l → val l < 4294967296 ^ n → n ≤ m → l.getD m 0 = 0 := by
  induction l with
  | nil => intro m n _ _ _; rfl
  | cons x l ih =>
    intro m n hl h hmn
    have h1 := hl.cons
    have h2 := val_nonneg h1.2
    simp only [val] at h
    rcases n with _ | n
    · rw [Int.pow_zero] at h
      have hx : x = 0 := by omega
      have hv : val l = 0 := by omega
      rcases m with _ | m
      · simpa using hx
      · rw [List.getD_cons_succ]
        exact ih (n := 0) h1.2 (by rw [hv]; decide) (by omega)
    · rcases m with _ | m
      · omega
      · rw [List.getD_cons_succ]
        refine ih (n := n) h1.2 ?_ (by omega)
        rw [Int.pow_succ] at h
        omega
theorem limbs_replicate (n : Nat) : Limbs (List.replicate n 0) := fun x hx => by rw [List.eq_of_mem_replicate hx]; omega
theorem val_replicate (n : Nat) : val (List.replicate n 0) = 0 := by
  induction n with
  | zero => rfl
  | succ n ih => simp only [List.replicate_succ, val, ih]; rfl

theorem mul_l1 (b : List Int) (hb : Limbs b) (x : Int) (hx : 0 ≤ x ∧ x < 4294967296) (i : Nat) (X : List Int) (n p : Int) (N : Nat) (hN : N < 70368744177665) (hi : i + b.length < N) (T : Int) :
    ∀ (j m k : Nat) (O : List Int) (c : Int), m + j = b.length → O.length = N → Limbs O → 0 ≤ c → c < 4294967296 → O.getD (i + b.length) 0 = 0 →
    val O + c * 4294967296 ^ (i + m) + x * (val b - val (b.take m)) * 4294967296 ^ i = T →
    ∃ O', O'.length = N ∧ Limbs O' ∧ val O' = T ∧ n_Mul.l1 (k + j + 1) b O (i : Int) x c X n p b (b.length : Int) (m : Int) = n_Mul.l0 k b O' X n (wrap64 (p + 1)) := by
  intro j
  induction j with
  | zero =>
    intro m k O c hm hO lO hc0 hc1 hz hT
    obtain rfl : m = b.length := by omega
    refine ⟨O.set (i + b.length) c, by rw [List.length_set]; exact hO, lO.set _ hc0 hc1, ?_, ?_⟩
    · rw [val_set _ _ _ (by omega), hz]
      rw [List.take_length] at hT
      grind
    · rw [n_Mul.l1, if_neg (by omega), w64 (by omega) (by omega), if_pos (by omega), if_pos (by omega), show c % 4294967296 = c from by omega]
      rfl
  | succ j ih =>
    intro m k O c hm hO lO hc0 hc1 hz hT
    have hbm := hb.getD m
    have hom := lO.getD (i + m)
    obtain ⟨s, hs⟩ : ∃ s, s = x * b.getD m 0 + O.getD (i + m) 0 + c := ⟨_, rfl⟩
    have hxb : 0 ≤ x * b.getD m 0 := Int.mul_nonneg hx.1 hbm.1
    have hxb2 : x * b.getD m 0 ≤ 4294967295 * 4294967295 := Int.mul_le_mul (by omega) (by omega) hbm.1 (by decide)
    have e1 : IntKind.u64.wrap ((IntKind.u64.wrap ((IntKind.u64.wrap ((IntKind.u64.wrap x) * (IntKind.u64.wrap (rd b (m : Int))))) + (IntKind.u64.wrap (rd O ((i + m : Nat) : Int))))) + c) = s := by
      rw [rd_nat, rd_nat, wraps_u64 x (by omega) (by omega), wraps_u64 (b.getD m 0) (by omega) (by omega), wraps_u64 (O.getD (i + m) 0) (by omega) (by omega), wraps_u64 (x * b.getD m 0) (by omega) (by omega), wraps_u64 (x * b.getD m 0 + O.getD (i + m) 0) (by omega) (by omega), wraps_u64 (x * b.getD m 0 + O.getD (i + m) 0 + c) (by omega) (by omega), hs]
    have hs0 : 0 ≤ s ∧ s < 18446744073709551616 := by omega
    obtain ⟨O', h1, h2, h3, h4⟩ := ih (m + 1) k (O.set (i + m) (s % 4294967296)) (s / 4294967296) (by omega) (by rw [List.length_set]; exact hO) (lO.set _ (by omega) (by omega)) (by omega) (by omega) (by rw [getD_set_ne _ _ (by omega)]; exact hz) (by
      rw [val_set _ _ _ (by omega), val_take_succ b m (by omega), ← hT, show i + (m + 1) = (i + m) + 1 by omega, Int.pow_succ, Int.pow_add]
      have := Int.emod_add_mul_ediv s 4294967296
      grind)
    refine ⟨O', h1, h2, h3, ?_⟩
    rw [show k + (j + 1) + 1 = (k + j + 1) + 1 by omega, n_Mul.l1, if_pos (by omega), if_pos (by omega), if_pos (by omega), w64 (n := (i : Int) + (m : Int)) (by omega) (by omega), if_pos (by omega), if_pos (by omega), w64 (n := (m : Int) + 1) (by omega) (by omega), show ((i : Int) + (m : Int)) = ((i + m : Nat) : Int) by omega, e1, zTn, show ((m : Int) + 1) = ((m + 1 : Nat) : Int) by omega]
    exact h4
theorem mul_l0 (a b : List Int) (ha : Limbs a) (hb : Limbs b) (N : Nat) (hN : N < 70368744177665) (hab : a.length + b.length = N) :
    ∀ (j m k : Nat) (O : List Int), m + j = a.length → O.length = N → Limbs O → val O = val (a.take m) * val b →
    ∃ r, n_Mul.l0 (k + (b.length + 2) * j + 1) b O a (a.length : Int) (m : Int) = some r ∧ IsNum r (val a * val b) ∧ r.length ≤ N := by
  intro j
  induction j with
  | zero =>
    intro m k O hm hO lO hv
    refine ⟨cut O, ?_, ?_, by have := cut_length O; omega⟩
    · rw [n_Mul.l0, if_neg (by omega)]
      rfl
    · have := IsNum.cut lO
      rw [hv, List.take_of_length_le (by omega)] at this
      exact this
  | succ j ih =>
    intro m k O hm hO lO hv
    have ham := ha.getD m
    have hlt : val O < 4294967296 ^ (m + b.length) := by
      rw [hv, Int.pow_add]
      have h1 := val_lt (ha.take m)
      have h2 := val_lt hb
      have h3 := val_nonneg (ha.take m)
      have h4 := val_nonneg hb
      rw [zLt, Nat.min_eq_left (by omega)] at h1
      exact Int.lt_of_le_of_lt (Int.mul_le_mul_of_nonneg_right (Int.le_of_lt h1) h4) (Int.mul_lt_mul_of_pos_left h2 (Int.pow_pos (by decide)))
    obtain ⟨O', h1, h2, h3, h4⟩ := mul_l1 b hb (a.getD m 0) ham m a (a.length : Int) (m : Int) N hN (by omega) (val (a.take (m + 1)) * val b) b.length 0 (k + (b.length + 2) * j + 1) O 0 (by omega) hO lO (by omega) (by omega) (getD_of_lt lO hlt (Nat.le_refl _)) (by
      rw [hv, val_take_succ a m (by omega)]
      simp only [List.take_zero, val]
      grind)
    obtain ⟨r, h5, h6, h7⟩ := ih (m + 1) k O' (by omega) h1 h2 h3
    refine ⟨r, ?_, h6, h7⟩
    rw [show k + (b.length + 2) * (j + 1) + 1 = ((k + (b.length + 2) * j + 1) + b.length + 1) + 1 by rw [Nat.mul_add]; omega, n_Mul.l0, if_pos (by omega), if_pos (by omega), if_pos (by omega), rd_nat]
    rw [show ((0 : Nat) : Int) = 0 from rfl] at h4
    rw [h4, w64 (by omega) (by omega)]
    exact h5
theorem mul_f (a b : List Int) (ha : Limbs a) (hb : Limbs b) (hN : a.length + b.length < 70368744177665) (k : Nat) (hk : (b.length + 2) * a.length + 1 ≤ k) :
    ∃ r, n_Mul.f k a b = some r ∧ IsNum r (val a * val b) ∧ r.length ≤ a.length + b.length := by
  have ca := cut_length a
  have cb := cut_length b
  have h0 : ((cut b).length + 2) * (cut a).length + 1 ≤ k := Nat.le_trans (Nat.succ_le_succ (Nat.mul_le_mul (by omega) ca)) hk
  obtain ⟨d, rfl⟩ : ∃ d, k = d + ((cut b).length + 2) * (cut a).length + 1 := ⟨k - (((cut b).length + 2) * (cut a).length + 1), by omega⟩
  obtain ⟨r, h1, h2, h3⟩ := mul_l0 (cut a) (cut b) (cut_limbs ha) (cut_limbs hb) ((cut a).length + (cut b).length) (by omega) rfl (cut a).length 0 d (List.replicate ((cut a).length + (cut b).length) 0) (by omega) (by simp) (limbs_replicate _) (by rw [val_replicate]; simp [val])
  refine ⟨r, ?_, by rw [cut_val, cut_val] at h2; exact h2, by omega⟩
  unfold n_Mul.f
  rw [cut_f, zOb, cut_f, zOb, w64 (by omega) (by omega), if_pos (by omega), show ((cut a).length : Int) + ((cut b).length : Int) = (((cut a).length + (cut b).length : Nat) : Int) by omega, zTn, if_pos (by omega)]
  exact h1
/- The plain laws of bits, and of comparing them. -/
/- bits -/
def bval : List Int → Int
  | [] => 0
  | x :: r => x + 2 * bval r
def Bits (l : List Int) : Prop := ∀ x ∈ l, x = 0 ∨ x = 1
theorem bval_append (a b : List Int) : bval (a ++ b) = bval a + 2 ^ a.length * bval b := by
  induction a with
  | nil => simp [bval]
  | cons x a ih => simp only [List.cons_append, bval, ih, List.length_cons, Int.pow_succ]; rw [Int.mul_add, ← Int.mul_assoc, Int.mul_comm 2 (2 ^ a.length)]; omega
theorem Bits.tail {x : Int} {l : List Int} (h : Bits (x :: l)) : (x = 0 ∨ x = 1) ∧ Bits l := ⟨h x (List.mem_cons_self ..), fun y hy => h y (List.mem_cons_of_mem _ hy)⟩
theorem Bits.nil : Bits [] := fun _ h => by cases h
theorem Bits.append {a b : List Int} (ha : Bits a) (hb : Bits b) : Bits (a ++ b) := fun x hx => by
  rcases List.mem_append.1 hx with h | h
  · exact ha x h
  · exact hb x h
theorem Bits.one {x : Int} (h : x = 0 ∨ x = 1) : Bits [x] := fun y hy => by rw [List.mem_singleton] at hy; rw [hy]; exact h
theorem Bits.take {l : List Int} (h : Bits l) (n : Nat) : Bits (l.take n) := fun x hx => h x (List.mem_of_mem_take hx)
theorem Bits.getD {l : List Int} (h : Bits l) (n : Nat) : l.getD n 0 = 0 ∨ l.getD n 0 = 1 := by
  by_cases hn : n < l.length
  · rw [getD_lt _ hn]; exact h _ (List.getElem_mem hn)
  · rw [getD_ge _ (by omega)]; exact .inl rfl
theorem bval_bounds {l : List Int} (h : Bits l) : 0 ≤ bval l ∧ bval l < 2 ^ l.length := by
  induction l with
  | nil => simp [bval]
  | cons x l ih =>
    have h1 := h.tail
    have h2 := ih h1.2
    simp only [bval, List.length_cons, Int.pow_succ]
    omega
theorem bval_take_succ (l : List Int) (n : Nat) : bval (l.take (n + 1)) = bval (l.take n) + 2 ^ n * l.getD n 0 := by
  by_cases h : n < l.length
  · rw [List.take_succ_eq_append_getElem h, bval_append, zLt, Nat.min_eq_left (by omega), getD_lt _ h]
    simp [bval]
  · rw [List.take_of_length_le (by omega), List.take_of_length_le (by omega), getD_ge _ (by omega)]
    simp
theorem bval_take_lt {l : List Int} (h : Bits l) (n : Nat) : 0 ≤ bval (l.take n) ∧ bval (l.take n) < 2 ^ n := by
  have h1 := bval_bounds (h.take n)
  refine ⟨h1.1, Int.lt_of_lt_of_le h1.2 ?_⟩
  have := Nat.pow_le_pow_right (show 0 < 2 by decide) (show (l.take n).length ≤ n by rw [zLt]; omega)
  exact_mod_cast this
/-- The n low bits of x, the lowest first. -/
def bitsW (x : Int) : Nat → List Int
  | 0 => []
  | n + 1 => bitsW x n ++ [x / 2 ^ n % 2]
theorem bitsW_zero (x : Int) : bitsW x 0 = [] := rfl
theorem bitsW_succ (x : Int) (n : Nat) : bitsW x (n + 1) = bitsW x n ++ [x / 2 ^ n % 2] := rfl
theorem bitsW_length (x : Int) (n : Nat) : (bitsW x n).length = n := by
  induction n with
  | zero => rfl
  | succ n ih => simp [bitsW, ih]
theorem bitsW_bits (x : Int) (n : Nat) : Bits (bitsW x n) := by
  induction n with
  | zero => exact Bits.nil
  | succ n ih => exact ih.append (Bits.one (by omega))
theorem bval_bitsW (x : Int) (n : Nat) (h : 0 ≤ x) : bval (bitsW x n) = x % 2 ^ n := by
  induction n with
  | zero => simp only [bitsW, bval, Int.pow_zero]; omega
  | succ n ih =>
    simp only [bitsW]
    rw [bval_append, ih, bitsW_length]
    simp only [bval]
    rw [Int.pow_succ, Int.emod_def x (2 ^ n * 2), ← Int.ediv_ediv_of_nonneg (Int.le_of_lt (Int.pow_pos (by decide)))]
    have h1 := Int.emod_def x (2 ^ n)
    have h2 := Int.emod_def (x / 2 ^ n) 2
    rw [h1, h2, Int.mul_add, Int.mul_sub, Int.mul_assoc]
    simp only [Int.mul_zero, Int.add_zero]
    omega
def bitsOf : List Int → List Int
  | [] => []
  | x :: r => bitsW x 32 ++ bitsOf r
theorem bitsOf_length (l : List Int) : (bitsOf l).length = 32 * l.length := by
  induction l with
  | nil => rfl
  | cons x l ih => simp [bitsOf, ih, bitsW_length]; omega
theorem bitsOf_bits (l : List Int) : Bits (bitsOf l) := by
  induction l with
  | nil => exact Bits.nil
  | cons x l ih => exact (bitsW_bits x 32).append ih
theorem bval_bitsOf {l : List Int} (h : Limbs l) : bval (bitsOf l) = val l := by
  induction l with
  | nil => rfl
  | cons x l ih =>
    have h1 := h.cons
    simp only [bitsOf, val]
    rw [bval_append, ih h1.2, bval_bitsW x 32 h1.1.1, bitsW_length]
    have : x % 2 ^ 32 = x := by omega
    rw [this]; omega
theorem u32_and1 (x : Int) (h₀ : 0 ≤ x) (h₁ : x < 4294967296) : Go.bits .and .u32 x 1 = x % 2 := bits_mask .u32 32 (by decide) wraps_u32 1 (by decide) x h₀ h₁
theorem u8_and1 (x : Int) (h₀ : 0 ≤ x) (h₁ : x < 256) : Go.bits .and .u8 x 1 = x % 2 := bits_mask .u8 8 (by decide) wraps_u8 1 (by decide) x h₀ h₁
theorem shr_u32 (x : Int) (i : Nat) (h : i ≤ 32) : shr .u32 x (IntKind.u64.wrap (i : Int)) = x / 2 ^ i := by
  rw [wraps_u64 _ (by omega) (by omega)]
  unfold shr
  rw [show min ((i : Int)).toNat (IntKind.bits .u32) = i from by rw [zTn]; exact Nat.min_eq_left h]
theorem bits_l1 (x0 : List Int) (hl : Limbs x0) (m : Nat) (hm : m < x0.length) (pre : List Int) (hp : pre.length + 32 < 140737488355328) (hm2 : x0.length < 4611686018427387904) : ∀ (j i k : Nat), i + j = 32 →
    r1_bits.l1 (k + j + 1) x0 (pre ++ bitsW (x0.getD m 0) i) (m : Int) (i : Int) = r1_bits.l0 k x0 (pre ++ bitsW (x0.getD m 0) 32) ((m + 1 : Nat) : Int) := by
  intro j
  induction j with
  | zero =>
    intro i k h
    obtain rfl : i = 32 := by omega
    rw [r1_bits.l1, if_neg (by omega), w64 (by omega) (by omega)]
    rfl
  | succ j ih =>
    intro i k h
    have hx := hl.getD m
    have hdiv : 0 ≤ x0.getD m 0 / 2 ^ i ∧ x0.getD m 0 / 2 ^ i < 4294967296 := by
      refine ⟨Int.ediv_nonneg hx.1 (Int.le_of_lt (Int.pow_pos (by decide))), ?_⟩
      have := Int.ediv_le_self (2 ^ i) hx.1
      omega
    rw [show k + (j + 1) + 1 = (k + j + 1) + 1 by omega, r1_bits.l1, if_pos (by omega), if_pos (by omega), if_pos (by omega), if_pos (by rw [wraps_u64 _ (by omega) (by omega)]; omega), if_pos (by rw [List.length_append, bitsW_length]; omega), rd_nat, shr_u32 _ i (by omega), u32_and1 _ hdiv.1 hdiv.2, w64 (by omega) (by omega), show x0.getD m 0 / 2 ^ i % 2 % 256 = x0.getD m 0 / 2 ^ i % 2 by omega]
    have := ih (i + 1) k (by omega)
    rw [show ((i + 1 : Nat) : Int) = (i : Int) + 1 by omega] at this
    rw [← this, bitsW_succ, List.append_assoc]
theorem bits_l0 (x0 : List Int) (hl : Limbs x0) (hm2 : x0.length < 4000000000000) : ∀ (j m k : Nat), m + j = x0.length →
    r1_bits.l0 (k + 34 * j + 1) x0 (bitsOf (x0.take m)) (m : Int) = some (bitsOf x0) := by
  intro j
  induction j with
  | zero =>
    intro m k h
    rw [r1_bits.l0, if_neg (by omega), List.take_of_length_le (by omega)]
  | succ j ih =>
    intro m k h
    rw [show k + 34 * (j + 1) + 1 = ((k + 34 * j + 1) + 32 + 1) + 1 by omega]
    rw [r1_bits.l0, if_pos (by omega)]
    have h1 := bits_l1 x0 hl m (by omega) (bitsOf (x0.take m)) (by rw [bitsOf_length, zLt]; omega) (by omega) 32 0 (k + 34 * j + 1) (by omega)
    rw [bitsW_zero, List.append_nil] at h1
    rw [show ((0 : Nat) : Int) = 0 from rfl] at h1
    rw [h1]
    have h2 : bitsOf (x0.take (m + 1)) = bitsOf (x0.take m) ++ bitsW (x0.getD m 0) 32 := by
      rw [List.take_succ_eq_append_getElem (by omega), getD_lt _ (by omega)]
      have : ∀ a b : List Int, bitsOf (a ++ b) = bitsOf a ++ bitsOf b := by
        intro a b
        induction a with
        | nil => rfl
        | cons x a ih => simp [bitsOf, ih]
      rw [this]
      simp [bitsOf]
    have h3 := ih (m + 1) k (by omega)
    rw [h2] at h3
    exact h3
theorem bits_f (l : List Int) (hl : Limbs l) (hm : l.length < 4000000000000) (k : Nat) (hk : 34 * l.length + 1 ≤ k) : r1_bits.f k l = some (bitsOf l) := by
  unfold r1_bits.f
  obtain ⟨d, rfl⟩ : ∃ d, k = d + 34 * l.length + 1 := ⟨k - (34 * l.length + 1), by omega⟩
  exact bits_l0 l hl hm l.length 0 d (by omega)
theorem at_f (l : List Int) (i : Nat) : r1_at.f l (i : Int) = some (l.getD i 0) := by
  unfold r1_at.f
  by_cases h : (i : Int) < (l.length : Int)
  · rw [if_pos h, if_pos (by omega), rd_nat]
  · rw [if_neg h, getD_ge _ (by omega)]
theorem rcmp_l0 (x y : List Int) (hx : Bits x) (hy : Bits y) : ∀ (n k : Nat), n < 4611686018427387904 → n < k → r1_Cmp.l0 k x y ((n : Int) - 1) = some (cmpI (bval (x.take n)) (bval (y.take n))) := by
  intro n
  induction n with
  | zero =>
    intro k _ hk
    obtain ⟨k, rfl⟩ : ∃ d, k = d + 1 := ⟨k - 1, by omega⟩
    simp only [r1_Cmp.l0]
    rw [if_neg (by omega)]
    simp [bval, cmpI]
  | succ n ih =>
    intro k hn hk
    obtain ⟨k, rfl⟩ : ∃ d, k = d + 1 := ⟨k - 1, by omega⟩
    simp only [r1_Cmp.l0]
    rw [if_pos (by omega), show ((n + 1 : Nat) : Int) - 1 = (n : Int) by omega]
    simp only [at_f, zOb]
    rw [w64 (by omega) (by omega), ih k (by omega) (by omega)]
    have h1 := bval_take_lt hx n
    have h2 := bval_take_lt hy n
    rw [bval_take_succ, bval_take_succ, cmpI_step h1.1 h1.2 h2.1 h2.2]
    by_cases h3 : x.getD n 0 < y.getD n 0
    · rw [if_pos h3, if_neg (by omega)]
      unfold cmpI
      rw [if_pos h3]
    · rw [if_neg h3]
      by_cases h4 : x.getD n 0 > y.getD n 0
      · rw [if_pos h4, if_neg (by omega)]
        unfold cmpI
        rw [if_neg h3, if_pos h4]
      · rw [if_neg h4, if_pos (by omega)]
theorem mx_nat (a b : Nat) : mx (a : Int) (b : Int) = ((max a b : Nat) : Int) := by unfold mx; split <;> omega
theorem rcmp_f (a b : List Int) (ha : Limbs a) (hb : Limbs b) (la : a.length < 4000000000000) (lb : b.length < 4000000000000) (k : Nat) (hk : 34 * a.length + 34 * b.length + 2 ≤ k) : r1_Cmp.f k a b = some (cmpI (val a) (val b)) := by
  unfold r1_Cmp.f
  rw [bits_f a ha la k (by omega), zOb, bits_f b hb lb k (by omega), zOb, mx_nat, bitsOf_length, bitsOf_length, w64 (by omega) (by omega), rcmp_l0 _ _ (bitsOf_bits a) (bitsOf_bits b) _ k (by omega) (by omega)]
  rw [List.take_of_length_le (by rw [bitsOf_length]; omega), List.take_of_length_le (by rw [bitsOf_length]; omega), bval_bitsOf ha, bval_bitsOf hb]
/- The plain laws of the document's answer over bits: sums, limbs again, the product. -/
theorem bval_one (x : Int) : bval [x] = x := by simp [bval]
/- limbs of bits -/
theorem shl_u32 (b : Int) (hb : b = 0 ∨ b = 1) (i : Nat) (h : i < 32) : shl .u32 (b % 4294967296) (i : Int) = b * 2 ^ i := by
  unfold shl
  rw [show min ((i : Int)).toNat (IntKind.bits .u32) = i from by rw [zTn]; exact Nat.min_eq_left (Nat.le_of_lt h)]
  have hp : (0 : Int) < 2 ^ i := Int.pow_pos (by decide)
  have hp2 : (2 : Int) ^ i ≤ 2 ^ 31 := by
    have := Nat.pow_le_pow_right (show 0 < 2 by decide) (show i ≤ 31 by omega)
    exact_mod_cast this
  rcases hb with rfl | rfl
  · simp; rfl
  · rw [show (1 : Int) % 4294967296 = 1 from rfl, Int.one_mul, wraps_u32 _ (by omega) (by omega)]
theorem or_low (x b : Int) (i : Nat) (hi : i < 32) (hx : 0 ≤ x) (hx2 : x < 2 ^ i) (hb : b = 0 ∨ b = 1) : Go.bits .or .u32 x (b * 2 ^ i) = x + b * 2 ^ i := by
  have hp : (0 : Int) < 2 ^ i := Int.pow_pos (by decide)
  have hp2 : (2 : Int) ^ i ≤ 2 ^ 31 := by
    have := Nat.pow_le_pow_right (show 0 < 2 by decide) (show i ≤ 31 by omega)
    exact_mod_cast this
  have hc : Go.bits .or .u32 x (b * 2 ^ i) = Go.bits .or .u32 (b * 2 ^ i) x := by
    obtain ⟨p, rfl⟩ := Int.eq_ofNat_of_zero_le hx
    obtain ⟨q, hq⟩ := Int.eq_ofNat_of_zero_le (show 0 ≤ b * 2 ^ i by rcases hb with rfl | rfl <;> omega)
    have hq2 : q < 2 ^ 32 := by rcases hb with rfl | rfl <;> omega
    have hp3 : p < 2 ^ 32 := by omega
    rw [hq, (bits_nat .u32 32 (by decide) wraps_u32 p q hp3 hq2).2, (bits_nat .u32 32 (by decide) wraps_u32 q p hq2 hp3).2, Nat.or_comm]
  rw [hc, bits_join .u32 32 (by decide) wraps_u32 i (b * 2 ^ i) x (by rcases hb with rfl | rfl <;> omega) (by rw [Int.mul_emod_left]) (by rcases hb with rfl | rfl <;> omega) hx hx2 (by omega)]
  omega
theorem pow_split (m : Nat) : (2 : Int) ^ m = 4294967296 ^ (m / 32) * 2 ^ (m % 32) := by
  rw [show (4294967296 : Int) = 2 ^ 32 from rfl, ← Int.pow_mul, ← Int.pow_add]
  congr 1
  omega
theorem limb_top (O : List Int) (lO : Limbs O) (m : Nat) (h : val O < 2 ^ m) : O.getD (m / 32) 0 < 2 ^ (m % 32) := by
  by_cases hm : m / 32 < O.length
  · have h1 : val O = val (O.take (m / 32)) + 4294967296 ^ (m / 32) * val (O.drop (m / 32)) := by
      have h0 := val_append (O.take (m / 32)) (O.drop (m / 32))
      rw [List.take_append_drop, zLt, Nat.min_eq_left (by omega)] at h0
      exact h0
    have h2 := val_nonneg (lO.take (m / 32))
    have h3 : O.drop (m / 32) = O.getD (m / 32) 0 :: O.drop (m / 32 + 1) := by rw [List.drop_eq_getElem_cons hm, getD_lt _ hm]
    have h4 : 0 ≤ val (O.drop (m / 32 + 1)) := val_nonneg (fun x hx => lO x (List.mem_of_mem_drop hx))
    rw [h3, val] at h1
    rw [h1, pow_split] at h
    have hp : (0 : Int) < 4294967296 ^ (m / 32) := Int.pow_pos (by decide)
    have h5 : (4294967296 : Int) ^ (m / 32) * O.getD (m / 32) 0 < 4294967296 ^ (m / 32) * 2 ^ (m % 32) := by
      have : 0 ≤ 4294967296 ^ (m / 32) * (4294967296 * val (O.drop (m / 32 + 1))) := Int.mul_nonneg (Int.le_of_lt hp) (by omega)
      rw [Int.mul_add] at h
      omega
    exact Int.lt_of_mul_lt_mul_left h5 (Int.le_of_lt hp)
  · rw [getD_ge _ (by omega)]
    exact Int.pow_pos (by decide)
theorem add_bit (x b P : Int) (hx : 0 ≤ x) (hx2 : x < P) (hb : b = 0 ∨ b = 1) (hP : P ≤ 2 ^ 31) (hp : 0 < P) : 0 ≤ x + b * P ∧ x + b * P < 4294967296 := by
  rcases hb with rfl | rfl
  · rw [Int.zero_mul]; omega
  · rw [Int.one_mul]; omega
theorem tdiv32 (m : Nat) (h : m < 4611686018427387904) : wrap64 (Int.tdiv (m : Int) 32) = ((m / 32 : Nat) : Int) := by
  have h0 : Int.tdiv (m : Int) 32 = ((m / 32 : Nat) : Int) := rfl
  rw [h0]
  exact w64 (by omega) (by omega)
theorem tmod32 (m : Nat) : IntKind.u64.wrap (Int.tmod (m : Int) 32) = ((m % 32 : Nat) : Int) := by
  have h0 : Int.tmod (m : Int) 32 = ((m % 32 : Nat) : Int) := rfl
  rw [h0]
  have h1 : m % 32 < 32 := Nat.mod_lt _ (by decide)
  generalize m % 32 = r at h1 ⊢
  show (r : Int) % 18446744073709551616 = r
  omega
theorem limbs_l0 (b : List Int) (hb : Bits b) (N : Nat) (hN : N < 35184372088832) (hbN : b.length ≤ 32 * N) :
    ∀ (j m k : Nat) (O : List Int), m + j = b.length → O.length = N → Limbs O → val O = bval (b.take m) →
    ∃ r, r1_limbs.l0 (k + N + 1 + j + 1) b O (m : Int) = some r ∧ IsNum r (bval b) ∧ r.length ≤ N := by
  intro j
  induction j with
  | zero =>
    intro m k O hm hO lO hv
    refine ⟨cut O, ?_, ?_, by have := cut_length O; omega⟩
    · rw [r1_limbs.l0, if_neg (by omega), norm_f O (by omega) _ (by omega)]
      rfl
    · have := IsNum.cut lO
      rw [hv, List.take_of_length_le (by omega)] at this
      exact this
  | succ j ih =>
    intro m k O hm hO lO hv
    have e1 := tdiv32 m (by omega)
    have e2 := tmod32 m
    have hlt : m / 32 < O.length := by omega
    have h31 : m % 32 ≤ 31 := by omega
    have hbm := hb.getD m
    have htop := limb_top O lO m (by rw [hv]; exact (bval_take_lt hb m).2)
    have hol := lO.getD (m / 32)
    have hmod : m % 32 < 32 := Nat.mod_lt _ (by decide)
    have hp : (0 : Int) < 2 ^ (m % 32) := Int.pow_pos (by decide)
    have hp2 : (2 : Int) ^ (m % 32) ≤ 2 ^ 31 := by
      have := Nat.pow_le_pow_right (show 0 < 2 by decide) h31
      exact_mod_cast this
    have hset := add_bit (O.getD (m / 32) 0) (b.getD m 0) (2 ^ (m % 32)) hol.1 htop hbm hp2 hp
    have hsh := shl_u32 (b.getD m 0) hbm (m % 32) hmod
    have hor := or_low (O.getD (m / 32) 0) (b.getD m 0) (m % 32) hmod hol.1 htop hbm
    have hps := pow_split m
    clear htop hp hp2
    generalize (2 : Int) ^ (m % 32) = Q at hset hsh hor hps
    have hv2 : val (O.set (m / 32) (O.getD (m / 32) 0 + b.getD m 0 * Q)) = bval (b.take (m + 1)) := by
      rw [val_set O (m / 32) _ hlt, hv, bval_take_succ, hps]
      have h9 : O.getD (m / 32) 0 + b.getD m 0 * Q - O.getD (m / 32) 0 = b.getD m 0 * Q := by rw [Int.add_comm (O.getD (m / 32) 0)]; exact Int.add_sub_cancel _ _
      rw [h9, Int.mul_assoc, Int.mul_comm Q]
    clear hps
    obtain ⟨r, h1, h2, h3⟩ := ih (m + 1) k (O.set (m / 32) (O.getD (m / 32) 0 + b.getD m 0 * Q)) (by omega) (by rw [List.length_set]; exact hO) (lO.set _ hset.1 hset.2) hv2
    refine ⟨r, ?_, h2, h3⟩
    rw [show k + N + 1 + (j + 1) + 1 = (k + N + 1 + j + 1) + 1 by omega, r1_limbs.l0, if_pos (by omega), e1, e2, if_pos (by omega), if_pos (by omega), if_pos (by omega), if_pos (by omega), rd_nat, rd_nat, hsh, hor, w64 (by omega) (by omega), zTn, show ((m : Int) + 1) = ((m + 1 : Nat) : Int) by omega]
    exact h1
theorem limbs_f (b : List Int) (hb : Bits b) (hl : b.length < 140737488355328) (k : Nat) (hk : 2 * b.length + 4 ≤ k) :
    ∃ r, r1_limbs.f k b = some r ∧ IsNum r (bval b) ∧ 32 * r.length ≤ b.length + 31 := by
  obtain ⟨N, hN⟩ : ∃ N, N = (b.length + 31) / 32 := ⟨_, rfl⟩
  have e1 : wrap64 (Int.tdiv (wrap64 ((b.length : Int) + 31)) 32) = (N : Int) := by
    rw [w64 (n := (b.length : Int) + 31) (by omega) (by omega), show (b.length : Int) + 31 = ((b.length + 31 : Nat) : Int) by omega, show Int.tdiv ((b.length + 31 : Nat) : Int) 32 = (((b.length + 31) / 32 : Nat) : Int) from rfl, ← hN, w64 (by omega) (by omega)]
  obtain ⟨d, rfl⟩ : ∃ d, k = d + N + 1 + b.length + 1 := ⟨k - (N + 1 + b.length + 1), by omega⟩
  obtain ⟨r, h1, h2, h3⟩ := limbs_l0 b hb N (by omega) (by omega) b.length 0 d (List.replicate N 0) (by omega) (by simp) (limbs_replicate _) (by rw [val_replicate]; rfl)
  refine ⟨r, ?_, h2, by omega⟩
  unfold r1_limbs.f
  rw [e1, if_pos (by omega), zTn, if_pos (by omega)]
  exact h1
/- The plain law of the document's sum of bits. -/
/-- The document's sum of bits: one bit more than the longer one. -/
theorem sum_l0 (x y : List Int) (hx : Bits x) (hy : Bits y) (M : Nat) (hM : M = max x.length y.length) (hM2 : M < 140737488355000) :
    ∀ (j m k : Nat) (O : List Int) (c : Int), m + j = M + 1 → O.length = m → Bits O → (c = 0 ∨ c = 1) → bval O + 2 ^ m * c = bval (x.take m) + bval (y.take m) →
    ∃ r, r1_sum.l0 (k + j + 1) x y O c (m : Int) = some r ∧ Bits r ∧ r.length = M + 1 ∧ bval r = bval x + bval y := by
  intro j
  induction j with
  | zero =>
    intro m k O c hm hO hB hc hv
    refine ⟨O, ?_, hB, by omega, ?_⟩
    · rw [r1_sum.l0, mx_nat, if_neg (by omega)]
    · rw [List.take_of_length_le (by omega), List.take_of_length_le (by omega)] at hv
      have h1 := bval_bounds hx
      have h2 := bval_bounds hy
      have hpow : ∀ {a b : Nat}, a ≤ b → (2 : Int) ^ a ≤ 2 ^ b := fun h => by
        have := Nat.pow_le_pow_right (show 0 < 2 by decide) h
        exact_mod_cast this
      have h3 := hpow (show x.length ≤ M by omega)
      have h4 := hpow (show y.length ≤ M by omega)
      have h5 : (2 : Int) ^ m = 2 ^ M * 2 := by rw [show m = M + 1 by omega, Int.pow_succ]
      have h6 := bval_bounds hB
      rcases hc with rfl | rfl
      · omega
      · omega
  | succ j ih =>
    intro m k O c hm hO hB hc hv
    have hxm := hx.getD m
    have hym := hy.getD m
    obtain ⟨s, hs⟩ : ∃ s, s = x.getD m 0 + y.getD m 0 + c := ⟨_, rfl⟩
    have hs0 : 0 ≤ s ∧ s ≤ 3 := by omega
    obtain ⟨r, h1, h2, h3, h4⟩ := ih (m + 1) k (O ++ [s % 2]) (s / 2) (by omega) (by simp [hO]) (hB.append (Bits.one (by omega))) (by omega) (by
      rw [bval_append, bval_one, bval_take_succ, bval_take_succ, hO, Int.pow_succ]
      have := Int.emod_add_mul_ediv s 2
      grind)
    refine ⟨r, ?_, h2, h3, h4⟩
    rw [show k + (j + 1) + 1 = (k + j + 1) + 1 by omega, r1_sum.l0, mx_nat, if_pos (by omega), at_f, zOb, at_f, zOb, if_pos (by omega), w64 (by omega) (by omega)]
    rw [show ((x.getD m 0 + y.getD m 0) % 256 + c) % 256 = s by omega, u8_and1 s (by omega) (by omega), show ((m : Int) + 1) = ((m + 1 : Nat) : Int) by omega]
    exact h1
theorem sum_f (x y : List Int) (hx : Bits x) (hy : Bits y) (hM : max x.length y.length < 140737488355000) (k : Nat) (hk : max x.length y.length + 2 ≤ k) :
    ∃ r, r1_sum.f k x y = some r ∧ Bits r ∧ r.length = max x.length y.length + 1 ∧ bval r = bval x + bval y := by
  obtain ⟨d, rfl⟩ : ∃ d, k = d + (max x.length y.length + 1) + 1 := ⟨k - (max x.length y.length + 2), by omega⟩
  obtain ⟨r, h1, h2, h3, h4⟩ := sum_l0 x y hx hy _ rfl hM (max x.length y.length + 1) 0 d [] 0 (by omega) rfl Bits.nil (.inl rfl) (by simp [bval])
  exact ⟨r, h1, h2, h3, h4⟩

/-! ### r1_Mul: function 46 -/
def r1_Mul.l0 : Nat → List Int → List Int → List Int → List Int → Int → Option (List Int)
  | 0, _, _, _, _, _ => none
  | k + 1, x5, x6, x7, x8, x9 => if x9 < (x6.length : Int) then (if 0 ≤ x9 then (if (rd x6 x9) = 1 then ((some (([] : List Int) : List Int)).bind fun y978 => (if y978.length + x8.length < 140737488355328 then ((some (y978 ++ x8 : List Int)).bind fun y981 => (if y981.length + x5.length < 140737488355328 then ((r1_sum.f k x7 (y981 ++ x5)).bind fun t987 => (if x8.length < 140737488355328 then (r1_Mul.l0 k x5 x6 t987 (x8 ++ [0]) (wrap64 (x9 + 1))) else (none))) else (none))) else (none))) else (if x8.length < 140737488355328 then (r1_Mul.l0 k x5 x6 x7 (x8 ++ [0]) (wrap64 (x9 + 1))) else (none))) else (none)) else ((r1_limbs.f k x7).bind fun t996 => (some t996))
def r1_Mul.f (k : Nat) (l0 : List Int) (l1 : List Int) : Option (List Int) := (r1_Norm.f k l0).bind fun t965 => ((r1_bits.f k t965).bind fun t968 => ((r1_Norm.f k l1).bind fun t971 => ((r1_bits.f k t971).bind fun t974 => (r1_Mul.l0 k t968 t974 ([] : List Int) ([] : List Int) 0))))
set_option maxHeartbeats 8000000 in
set_option maxRecDepth 100000 in
theorem r1_Mul.calls (k : Nat) (A0 : Option Addr) (c0 : Nat) (l0 : List Int) (A1 : Option Addr) (c1 : Nat) (l1 : List Int) (r : List Int) (w : World) (hr0 : Kd.C (Kd.int .u32) w A0 l0.length l0) (hc0 : l0.length ≤ c0) (hr1 : Kd.C (Kd.int .u32) w A1 l1.length l1) (hc1 : l1.length ≤ c1) (h : r1_Mul.f k l0 l1 = some r) :
    Calls Tryd.prog 46 #[.slice A0 l0.length c0, .slice A1 l1.length c1] w fun e w' => ∃ v0_ : Value, e = .returned (v0_) ∧ Kd.R (Kd.int .u32) 58 w' w.heap.size (fun _ => True) v0_ r ∧ Below w.heap.size w w' := by
  have HR0 := zMk hr0
  have HC0 := zMk hc0
  clear hr0 hc0
  have HR1 := zMk hr1
  have HC1 := zMk hc1
  clear hr1 hc1
  have HB := zMk (Below.refl w.heap.size w)
  have H : ((r1_Norm.f k l0).bind fun t965 => ((r1_bits.f k t965).bind fun t968 => ((r1_Norm.f k l1).bind fun t971 => ((r1_bits.f k t971).bind fun t974 => (r1_Mul.l0 k t968 t974 ([] : List Int) ([] : List Int) 0))))) = some r := h
  clear h
  replace H := Option.bind_eq_some_iff.mp H
  obtain ⟨t965, A30, H⟩ := H
  have A3 := zMk A30
  clear A30
  replace H := Option.bind_eq_some_iff.mp H
  obtain ⟨t968, A40, H⟩ := H
  have A4 := zMk A40
  clear A40
  replace H := Option.bind_eq_some_iff.mp H
  obtain ⟨t971, A50, H⟩ := H
  have A5 := zMk A50
  clear A50
  replace H := Option.bind_eq_some_iff.mp H
  obtain ⟨t974, A60, H⟩ := H
  have A6 := zMk A60
  clear A60
  have H' := zMk H
  clear H
  go_enter Tryd.func46, Tryd.ntmps46
  go_wp2_with (first | ((with_reducible refine gate_callee (f := 63) rfl ?_); refine goesL_ (some 11) rfl rfl Tryd.func63 (by kernel_rfl) rfl #[.slice A0 l0.length c0] rfl (by (try simp only [List.map_toArray, List.map_cons, List.map_nil]); first | done | rfl | (simp only [zLd, zLt]; rfl)) ?_; (with_reducible refine (r1_Norm.calls k _ _ l0 t965 _ ?side1 ?side2 A3.out).mono ?_); (case side1 => repeat (first | exact HR0.out | (with_reducible refine zCa ?_ _) | (with_reducible refine zCn ?_ _) | (with_reducible refine zCd ?_))); (case side2 => exact HC0.out); rintro e w7 ⟨v966, rfl, ho0, hb⟩; refine ⟨_, rfl, ?_⟩; have n0_ := zMk (Kd.R_lower ho0 (zBs (by repeat (first | (with_reducible first | exact HB.out | apply zBa | apply zBn | apply zBd) | exact HB.out)))); have n1_ := zMk (zBt (by repeat (first | (with_reducible first | exact HB.out | apply zBa | apply zBn | apply zBd) | exact HB.out)) hb); clear HB; have HO967 := n0_; have HB := n1_; clear n0_ n1_; (try clear hb); (try clear hb2); (try clear hk); (try clear hi); (try clear ho0); obtain ⟨Ao8, co8, eo8⟩ := Kd.R_slice HO967.out; subst eo8) | ((with_reducible refine gate_callee (f := 64) rfl ?_); refine goesL_ (some 12) rfl rfl Tryd.func64 (by kernel_rfl) rfl #[.slice Ao8 t965.length co8] rfl (by (try simp only [List.map_toArray, List.map_cons, List.map_nil]); first | done | rfl | (simp only [zLd, zLt]; rfl)) ?_; (with_reducible refine (r1_bits.calls k _ _ t965 t968 _ ?side1 ?side2 A4.out).mono ?_); (case side1 => repeat (first | exact (Kd.R_reads' HO967.out).2.2 | (with_reducible refine zCa ?_ _) | (with_reducible refine zCn ?_ _) | (with_reducible refine zCd ?_))); (case side2 => exact (Kd.R_reads' HO967.out).2.1); rintro e w9 ⟨v969, rfl, ho0, hb⟩; refine ⟨_, rfl, ?_⟩; have n0_ := zMk (Kd.R_below (by (with_reducible repeat (first | apply zRa | apply zRn | apply zRd)); exact HO967.out) hb); have n1_ := zMk (Kd.R_lower ho0 (zBs (by repeat (first | (with_reducible first | exact HB.out | apply zBa | apply zBn | apply zBd) | exact HB.out)))); have n2_ := zMk (zBt (by repeat (first | (with_reducible first | exact HB.out | apply zBa | apply zBn | apply zBd) | exact HB.out)) hb); clear HO967; clear HB; have HO967 := n0_; have HO970 := n1_; have HB := n2_; clear n0_ n1_ n2_; (try clear hb); (try clear hb2); (try clear hk); (try clear hi); (try clear ho0)) | ((with_reducible refine gate_callee (f := 63) rfl ?_); refine goesL_ (some 14) rfl rfl Tryd.func63 (by kernel_rfl) rfl #[.slice A1 l1.length c1] rfl (by (try simp only [List.map_toArray, List.map_cons, List.map_nil]); first | done | rfl | (simp only [zLd, zLt]; rfl)) ?_; (with_reducible refine (r1_Norm.calls k _ _ l1 t971 _ ?side1 ?side2 A5.out).mono ?_); (case side1 => repeat (first | exact (Kd.C_below HR1.out HB.out) | (with_reducible refine zCa ?_ _) | (with_reducible refine zCn ?_ _) | (with_reducible refine zCd ?_))); (case side2 => exact HC1.out); rintro e w10 ⟨v972, rfl, ho0, hb⟩; refine ⟨_, rfl, ?_⟩; have n0_ := zMk (Kd.R_elder' (by (with_reducible repeat (first | apply zRa | apply zRn | apply zRd)); exact HO967.out) (Kd.R_base ho0) hb); have n1_ := zMk (Kd.R_below (by (with_reducible repeat (first | apply zRa | apply zRn | apply zRd)); exact HO970.out) hb); have n2_ := zMk (Kd.R_lower (Kd.R_new' ho0 (Kd.R_lt (by (with_reducible repeat (first | apply zRa | apply zRn | apply zRd)); exact HO967.out))) (zBs (by repeat (first | (with_reducible first | exact HB.out | apply zBa | apply zBn | apply zBd) | exact HB.out)))); have n3_ := zMk (zBt (by repeat (first | (with_reducible first | exact HB.out | apply zBa | apply zBn | apply zBd) | exact HB.out)) hb); clear HO967; clear HO970; clear HB; have HO967 := n0_; have HO970 := n1_; have HO973 := n2_; have HB := n3_; clear n0_ n1_ n2_ n3_; (try clear hb); (try clear hb2); (try clear hk); (try clear hi); (try clear ho0); obtain ⟨Ao11, co11, eo11⟩ := Kd.R_slice HO973.out; subst eo11) | ((with_reducible refine gate_callee (f := 64) rfl ?_); refine goesL_ (some 15) rfl rfl Tryd.func64 (by kernel_rfl) rfl #[.slice Ao11 t971.length co11] rfl (by (try simp only [List.map_toArray, List.map_cons, List.map_nil]); first | done | rfl | (simp only [zLd, zLt]; rfl)) ?_; (with_reducible refine (r1_bits.calls k _ _ t971 t974 _ ?side1 ?side2 A6.out).mono ?_); (case side1 => repeat (first | exact (Kd.R_reads' HO973.out).2.2 | (with_reducible refine zCa ?_ _) | (with_reducible refine zCn ?_ _) | (with_reducible refine zCd ?_))); (case side2 => exact (Kd.R_reads' HO973.out).2.1); rintro e w12 ⟨v975, rfl, ho0, hb⟩; refine ⟨_, rfl, ?_⟩; have n0_ := zMk (Kd.R_below (by (with_reducible repeat (first | apply zRa | apply zRn | apply zRd)); exact HO967.out) hb); have n1_ := zMk (Kd.R_elder' (by (with_reducible repeat (first | apply zRa | apply zRn | apply zRd)); exact HO970.out) (Kd.R_base ho0) hb); have n2_ := zMk (Kd.R_below (by (with_reducible repeat (first | apply zRa | apply zRn | apply zRd)); exact HO973.out) hb); have n3_ := zMk (Kd.R_lower (Kd.R_new' ho0 (Kd.R_lt (by (with_reducible repeat (first | apply zRa | apply zRn | apply zRd)); exact HO970.out))) (zBs (by repeat (first | (with_reducible first | exact HB.out | apply zBa | apply zBn | apply zBd) | exact HB.out)))); have n4_ := zMk (zBt (by repeat (first | (with_reducible first | exact HB.out | apply zBa | apply zBn | apply zBd) | exact HB.out)) hb); clear HO967; clear HO970; clear HO973; clear HB; have HO967 := n0_; have HO970 := n1_; have HO973 := n2_; have HO976 := n3_; have HB := n4_; clear n0_ n1_ n2_ n3_ n4_; (try clear hb); (try clear hb2); (try clear hk); (try clear hi); (try clear ho0)))
  go_loopg [7, 8, 9] k (fun kq v7 v8 v9 w' => ∃ (x7_1 : List Int) (x8_1 : List Int) (x9_1 : Int), v9 = .int .i64 x9_1 ∧ Aside0 (r1_Mul.l0 kq t968 t974 x7_1 x8_1 x9_1 = some r) ∧ Aside0 (kq ≤ k) ∧ Aside0 (Kd.R (Kd.int .u8) 5 w' w.heap.size (fun k_ => some k_ ≠ (v975 : Value).ownBlock ∧ some k_ ≠ (v7 : Value).ownBlock ∧ some k_ ≠ (v8 : Value).ownBlock) v969 t968) ∧ Aside0 (Kd.R (Kd.int .u8) 5 w' w.heap.size (fun k_ => some k_ ≠ (v969 : Value).ownBlock ∧ some k_ ≠ (v7 : Value).ownBlock ∧ some k_ ≠ (v8 : Value).ownBlock) v975 t974) ∧ Aside0 (Kd.R (Kd.int .u8) 5 w' w.heap.size (fun k_ => some k_ ≠ (v969 : Value).ownBlock ∧ some k_ ≠ (v975 : Value).ownBlock ∧ some k_ ≠ (v8 : Value).ownBlock) v7 x7_1) ∧ Aside0 (Kd.R (Kd.int .u8) 5 w' w.heap.size (fun k_ => some k_ ≠ (v969 : Value).ownBlock ∧ some k_ ≠ (v975 : Value).ownBlock ∧ some k_ ≠ (v7 : Value).ownBlock) v8 x8_1) ∧ Aside0 (Below w.heap.size w w'))
  case atStart => exact ⟨(([] : List Int)), (([] : List Int)), (0), (by first | rfl | (simp; done) | (simp [*]; done)), H', ⟨Nat.le_refl _⟩, ⟨by (with_reducible repeat (first | apply zRa | apply zRn | apply zRd)); exact zRm HO970.out (fun _ hk => ⟨hk.2, ⟨(by simp [Value.ownBlock]), (by simp [Value.ownBlock])⟩⟩)⟩, ⟨by (with_reducible repeat (first | apply zRa | apply zRn | apply zRd)); exact zRm HO976.out (fun _ hk => ⟨hk.2, ⟨(by simp [Value.ownBlock]), (by simp [Value.ownBlock])⟩⟩)⟩, ⟨by first | exact Kd.R_nil _ _ _ _ _ | exact Kd.N_nil _ _ _ _ _ | exact Kd.V_nil _ _ _ _ _ | exact Kd.Q_nil _ _ _ _ _ | exact Kd.S_nil _ _ _ _ _⟩, ⟨by first | exact Kd.R_nil _ _ _ _ _ | exact Kd.N_nil _ _ _ _ _ | exact Kd.V_nil _ _ _ _ _ | exact Kd.Q_nil _ _ _ _ _ | exact Kd.S_nil _ _ _ _ _⟩, ⟨by repeat (first | (with_reducible first | exact HB.out | apply zBa | apply zBn | apply zBd) | exact HB.out)⟩⟩
  clear H'
  obtain ⟨x7_1, x8_1, x9_1, rfl, HA, HK1, HO_5, HO_6, HO_7, HO_8, HB⟩ := hrel
  rcases gk with _ | k1
  · exact absurd HA.out (by simp [r1_Mul.l0])
  have H := HA.out
  clear HA
  simp only [r1_Mul.l0] at H
  by_cases c13 : x9_1 < (t974.length : Int)
  · rw [if_pos c13] at H
    have c13b0 : decide (x9_1 < (t974.length : Int)) = true := decide_eq_true c13
    clear c13
    by_cases c14 : 0 ≤ x9_1
    rotate_left
    · rw [if_neg c14] at H; exact absurd H (by simp)
    rw [if_pos c14] at H
    have c14b0 : decide (0 ≤ x9_1) = true := decide_eq_true c14
    clear c14
    by_cases c15 : (rd t974 x9_1) = 1
    · rw [if_pos c15] at H
      have c15b0 : ((rd t974 x9_1) == 1) = true := beq_iff_eq.mpr c15
      have c15b1 : ((rd t974 x9_1) != 1) = false := bne_eq_false_iff_eq.mpr c15
      clear c15
      obtain ⟨y978, hy978⟩ : ∃ y_ : List Int, y_ = (([] : List Int)) := ⟨_, rfl⟩
      replace H : (if y978.length + x8_1.length < 140737488355328 then ((some (y978 ++ x8_1 : List Int)).bind fun y981 => (if y981.length + t968.length < 140737488355328 then ((r1_sum.f k1 x7_1 (y981 ++ t968)).bind fun t987 => (if x8_1.length < 140737488355328 then (r1_Mul.l0 k1 t968 t974 t987 (x8_1 ++ [0]) (wrap64 (x9_1 + 1))) else (none))) else (none))) else (none)) = some r := by first | (rw [hy978]; with_reducible exact H) | (have H2_ := (zOb _ _).symm.trans H; rw [hy978]; with_reducible exact H2_) | (have H2_ := (zOb _ _).symm.trans H; with_reducible exact H2_) | with_reducible exact H | (rw [hy978]; exact H) | exact H
      have Ny978 := zMk hy978
      clear hy978
      by_cases c16 : y978.length + x8_1.length < 140737488355328
      rotate_left
      · rw [if_neg c16] at H; exact absurd H (by simp)
      rw [if_pos c16] at H
      have LMc16 := zMk c16
      clear c16
      obtain ⟨y981, hy981⟩ : ∃ y_ : List Int, y_ = (y978 ++ x8_1) := ⟨_, rfl⟩
      replace H : (if y981.length + t968.length < 140737488355328 then ((r1_sum.f k1 x7_1 (y981 ++ t968)).bind fun t987 => (if x8_1.length < 140737488355328 then (r1_Mul.l0 k1 t968 t974 t987 (x8_1 ++ [0]) (wrap64 (x9_1 + 1))) else (none))) else (none)) = some r := by first | (rw [hy981]; with_reducible exact H) | (have H2_ := (zOb _ _).symm.trans H; rw [hy981]; with_reducible exact H2_) | (have H2_ := (zOb _ _).symm.trans H; with_reducible exact H2_) | with_reducible exact H | (rw [hy981]; exact H) | exact H
      have Ny981 := zMk hy981
      clear hy981
      by_cases c17 : y981.length + t968.length < 140737488355328
      rotate_left
      · rw [if_neg c17] at H; exact absurd H (by simp)
      rw [if_pos c17] at H
      have LMc17 := zMk c17
      clear c17
      obtain ⟨y984, hy984⟩ : ∃ y_ : List Int, y_ = (y981 ++ t968) := ⟨_, rfl⟩
      replace H : ((r1_sum.f k1 x7_1 y984).bind fun t987 => (if x8_1.length < 140737488355328 then (r1_Mul.l0 k1 t968 t974 t987 (x8_1 ++ [0]) (wrap64 (x9_1 + 1))) else (none))) = some r := by first | (rw [hy984]; with_reducible exact H) | (have H2_ := (zOb _ _).symm.trans H; rw [hy984]; with_reducible exact H2_) | (have H2_ := (zOb _ _).symm.trans H; with_reducible exact H2_) | with_reducible exact H | (rw [hy984]; exact H) | exact H
      have Ny984 := zMk hy984
      clear hy984
      replace H := Option.bind_eq_some_iff.mp H
      obtain ⟨t987, A180, H⟩ := H
      have A18 := zMk A180
      clear A180
      by_cases c19 : x8_1.length < 140737488355328
      rotate_left
      · rw [if_neg c19] at H; exact absurd H (by simp)
      rw [if_pos c19] at H
      have LMc19 := zMk c19
      clear c19
      obtain ⟨y990, hy990⟩ : ∃ y_ : List Int, y_ = (x8_1 ++ [0]) := ⟨_, rfl⟩
      replace H : (r1_Mul.l0 k1 t968 t974 t987 y990 (wrap64 (x9_1 + 1))) = some r := by first | (rw [hy990]; with_reducible exact H) | (have H2_ := (zOb _ _).symm.trans H; rw [hy990]; with_reducible exact H2_) | (have H2_ := (zOb _ _).symm.trans H; with_reducible exact H2_) | with_reducible exact H | (rw [hy990]; exact H) | exact H
      have Ny990 := zMk hy990
      clear hy990
      have H' := zMk H
      clear H
      obtain ⟨Ao20, co20, eo20⟩ := Kd.R_slice HO_6.out
      subst eo20
      have p977 : 0 ≤ (x9_1 : Int) := of_decide_eq_true (by first | (with_reducible assumption) | assumption)
      have q977 : x9_1 < (t974.length : Int) := of_decide_eq_true (by first | (with_reducible assumption) | assumption)
      obtain ⟨ad977, e977, hx977_0⟩ := zAi (Kd.R_reads' HO_6.out).2.2 x9_1 p977 q977
      cases e977
      replace p977 := eq_true p977
      replace q977 := eq_true q977
      go_wp2_with (first | ((with_reducible refine gate_dst (N := 28) rfl ?_); refine Kd.R_lit (Kd.int .u8) _ 5 ?hg (N := 28) ?hd (xs := ([] : List Int)) (inner := []) (ok := fun _ => True) (okp := fun _ => True) ?hr ?hp (fun _ hk => hk) trivial (Below.refl _ _) (Nat.le_refl _) (by simp) ?_; (case hd => rfl); (case hg => rfl); (case hr => first | (go_simp; done) | (go_simp; rfl) | (go_simp; rw [show ∀ x : Int, IntKind.u32.wrap (IntKind.u8.wrap x) = x % 256 from fun x => (by show (x % 256) % 4294967296 = x % 256; omega)])); (case hp => exact (Reps.none _ _)); intro v979 w21 ho22 hb hg_ hnew_; clear hg_ hnew_; (first | rw [← Ny978.out] at ho22 | (simp only [Int.reduceToNat] at ho22; rw [← Ny978.out] at ho22)); have n0_ := zMk (Kd.R_elder' (by (with_reducible repeat (first | apply zRa | apply zRn | apply zRd)); exact HO_5.out) (Kd.R_base ho22) hb); have n1_ := zMk (Kd.R_elder' (by (with_reducible repeat (first | apply zRa | apply zRn | apply zRd)); exact HO_6.out) (Kd.R_base ho22) hb); have n2_ := zMk (Kd.R_elder' (by (with_reducible repeat (first | apply zRa | apply zRn | apply zRd)); exact HO_7.out) (Kd.R_base ho22) hb); have n3_ := zMk (Kd.R_elder' (by (with_reducible repeat (first | apply zRa | apply zRn | apply zRd)); exact HO_8.out) (Kd.R_base ho22) hb); have n4_ := zMk (Kd.R_lower (Kd.R_new' (Kd.R_new' (Kd.R_new' (Kd.R_new' ho22 (Kd.R_lt (by (with_reducible repeat (first | apply zRa | apply zRn | apply zRd)); exact HO_5.out))) (Kd.R_lt (by (with_reducible repeat (first | apply zRa | apply zRn | apply zRd)); exact HO_6.out))) (Kd.R_lt (by (with_reducible repeat (first | apply zRa | apply zRn | apply zRd)); exact HO_7.out))) (Kd.R_lt (by (with_reducible repeat (first | apply zRa | apply zRn | apply zRd)); exact HO_8.out))) (zBs (by repeat (first | (with_reducible first | exact HB.out | apply zBa | apply zBn | apply zBd) | exact HB.out)))); have n5_ := zMk (zBt (by repeat (first | (with_reducible first | exact HB.out | apply zBa | apply zBn | apply zBd) | exact HB.out)) hb); clear HO_5; clear HO_6; clear HO_7; clear HO_8; clear HB; have HO_5 := n0_; have HO_6 := n1_; have HO_7 := n2_; have HO_8 := n3_; have HO980 := n4_; have HB := n5_; clear n0_ n1_ n2_ n3_ n4_ n5_; clear hb ho22; obtain ⟨Ao24, co24, eo24⟩ := Kd.R_slice HO_8.out; subst eo24) | ((with_reducible refine gate_builtin (b := .append) (xs := #[.tmp 28, .tmp 29]) rfl ?_); at_builtin; refine Kd.R_append_rows (Kd.int .u8) (w0 := w) w.heap.size rfl (.tmp 28) (.tmp 29) 67 5 (.int .u8 0) 1 rfl Tryd.underlying67 info5 rfl (by decide) (by omega) v979 y978 x8_1 _ _ _ (fun k_ => some k_ ≠ (v969 : Value).ownBlock ∧ some k_ ≠ (.slice (some ad977) t974.length co20 : Value).ownBlock ∧ some k_ ≠ (u7 : Value).ownBlock ∧ some k_ ≠ (.slice Ao24 x8_1.length co24 : Value).ownBlock) (fun _ => False) rfl rfl ?aO ?aR (fun _ _ h => h) (fun _ h => h.elim) ?aF ?aB ?aS ?aL ?_; (case aR => repeat (first | exact (Kd.R_reads' HO_8.out).2.2 | (with_reducible refine zCa ?_ _) | (with_reducible refine zCn ?_ _) | (with_reducible refine zCd ?_))); (case aB => exact (by repeat (first | (with_reducible first | exact HB.out | apply zBa | apply zBn | apply zBd) | exact HB.out))); (case aF => exact (fun k_ hk => ⟨Kd.fresh' (Kd.R_lt (by (with_reducible repeat (first | apply zRa | apply zRn | apply zRd)); exact HO_5.out)) k_ hk, Kd.fresh' (Kd.R_lt (by (with_reducible repeat (first | apply zRa | apply zRn | apply zRd)); exact HO_6.out)) k_ hk, Kd.fresh' (Kd.R_lt (by (with_reducible repeat (first | apply zRa | apply zRn | apply zRd)); exact HO_7.out)) k_ hk, Kd.fresh' (Kd.R_lt (by (with_reducible repeat (first | apply zRa | apply zRn | apply zRd)); exact HO_8.out)) k_ hk⟩)); (case aO => exact (by (with_reducible repeat (first | apply zRa | apply zRn | apply zRd)); exact zRm HO980.out (fun _ hk => ⟨hk.1.1.1.2, ⟨hk.1.1.2, ⟨hk.1.2, hk.2⟩⟩⟩))); (case aS => exact (zBs (by repeat (first | (with_reducible first | exact HB.out | apply zBa | apply zBn | apply zBd) | exact HB.out)))); (case aL => have := LMc16.out; omega); intro v982 w23 ho hb hg hat; rw [← Ny981.out] at ho; have n0_ := zMk (Kd.R_after (ok := (fun k_ => some k_ ≠ (.slice (some ad977) t974.length co20 : Value).ownBlock ∧ some k_ ≠ (u7 : Value).ownBlock ∧ some k_ ≠ (.slice Ao24 x8_1.length co24 : Value).ownBlock)) (by (with_reducible repeat (first | apply zRa | apply zRn | apply zRd)); exact HO_5.out) hg hat); have n1_ := zMk (Kd.R_after (ok := (fun k_ => some k_ ≠ (v969 : Value).ownBlock ∧ some k_ ≠ (u7 : Value).ownBlock ∧ some k_ ≠ (.slice Ao24 x8_1.length co24 : Value).ownBlock)) (by (with_reducible repeat (first | apply zRa | apply zRn | apply zRd)); exact HO_6.out) hg hat); have n2_ := zMk (Kd.R_after (ok := (fun k_ => some k_ ≠ (v969 : Value).ownBlock ∧ some k_ ≠ (.slice (some ad977) t974.length co20 : Value).ownBlock ∧ some k_ ≠ (.slice Ao24 x8_1.length co24 : Value).ownBlock)) (by (with_reducible repeat (first | apply zRa | apply zRn | apply zRd)); exact HO_7.out) hg hat); have n3_ := zMk (Kd.R_after (ok := (fun k_ => some k_ ≠ (v969 : Value).ownBlock ∧ some k_ ≠ (.slice (some ad977) t974.length co20 : Value).ownBlock ∧ some k_ ≠ (u7 : Value).ownBlock)) (by (with_reducible repeat (first | apply zRa | apply zRn | apply zRd)); exact HO_8.out) hg hat); have n4_ := zMk (hb); have n5_ := zMk (ho); clear HO_5; clear HO_6; clear HO_7; clear HO_8; clear HB; clear HO980; have HO_5 := n0_; have HO_6 := n1_; have HO_7 := n2_; have HO_8 := n3_; have HB := n4_; have HO983 := n5_; clear n0_ n1_ n2_ n3_ n4_ n5_; clear ho hb hg hat; obtain ⟨Ao26, co26, eo26⟩ := Kd.R_slice HO_5.out; subst eo26) | ((with_reducible refine gate_builtin (b := .append) (xs := #[.tmp 30, .tmp 31]) rfl ?_); at_builtin; refine Kd.R_append_rows (Kd.int .u8) (w0 := w) w.heap.size rfl (.tmp 30) (.tmp 31) 67 5 (.int .u8 0) 1 rfl Tryd.underlying67 info5 rfl (by decide) (by omega) v982 y981 t968 _ _ _ (fun k_ => some k_ ≠ (.slice Ao26 t968.length co26 : Value).ownBlock ∧ some k_ ≠ (.slice (some ad977) t974.length co20 : Value).ownBlock ∧ some k_ ≠ (u7 : Value).ownBlock ∧ some k_ ≠ (.slice Ao24 x8_1.length co24 : Value).ownBlock) (fun _ => False) rfl rfl ?aO ?aR (fun _ _ h => h) (fun _ h => h.elim) ?aF ?aB ?aS ?aL ?_; (case aR => repeat (first | exact (Kd.R_reads' HO_5.out).2.2 | (with_reducible refine zCa ?_ _) | (with_reducible refine zCn ?_ _) | (with_reducible refine zCd ?_))); (case aB => exact (by repeat (first | (with_reducible first | exact HB.out | apply zBa | apply zBn | apply zBd) | exact HB.out))); (case aF => exact (fun k_ hk => ⟨Kd.fresh' (Kd.R_lt (by (with_reducible repeat (first | apply zRa | apply zRn | apply zRd)); exact HO_5.out)) k_ hk, Kd.fresh' (Kd.R_lt (by (with_reducible repeat (first | apply zRa | apply zRn | apply zRd)); exact HO_6.out)) k_ hk, Kd.fresh' (Kd.R_lt (by (with_reducible repeat (first | apply zRa | apply zRn | apply zRd)); exact HO_7.out)) k_ hk, Kd.fresh' (Kd.R_lt (by (with_reducible repeat (first | apply zRa | apply zRn | apply zRd)); exact HO_8.out)) k_ hk⟩)); (case aO => exact (by (with_reducible repeat (first | apply zRa | apply zRn | apply zRd)); exact HO983.out)); (case aS => exact (zBs (by repeat (first | (with_reducible first | exact HB.out | apply zBa | apply zBn | apply zBd) | exact HB.out)))); (case aL => have := LMc17.out; omega); intro v985 w25 ho hb hg hat; rw [← Ny984.out] at ho; have n0_ := zMk (Kd.R_after (ok := (fun k_ => some k_ ≠ (.slice (some ad977) t974.length co20 : Value).ownBlock ∧ some k_ ≠ (u7 : Value).ownBlock ∧ some k_ ≠ (.slice Ao24 x8_1.length co24 : Value).ownBlock)) (by (with_reducible repeat (first | apply zRa | apply zRn | apply zRd)); exact HO_5.out) hg hat); have n1_ := zMk (Kd.R_after (ok := (fun k_ => some k_ ≠ (.slice Ao26 t968.length co26 : Value).ownBlock ∧ some k_ ≠ (u7 : Value).ownBlock ∧ some k_ ≠ (.slice Ao24 x8_1.length co24 : Value).ownBlock)) (by (with_reducible repeat (first | apply zRa | apply zRn | apply zRd)); exact HO_6.out) hg hat); have n2_ := zMk (Kd.R_after (ok := (fun k_ => some k_ ≠ (.slice Ao26 t968.length co26 : Value).ownBlock ∧ some k_ ≠ (.slice (some ad977) t974.length co20 : Value).ownBlock ∧ some k_ ≠ (.slice Ao24 x8_1.length co24 : Value).ownBlock)) (by (with_reducible repeat (first | apply zRa | apply zRn | apply zRd)); exact HO_7.out) hg hat); have n3_ := zMk (Kd.R_after (ok := (fun k_ => some k_ ≠ (.slice Ao26 t968.length co26 : Value).ownBlock ∧ some k_ ≠ (.slice (some ad977) t974.length co20 : Value).ownBlock ∧ some k_ ≠ (u7 : Value).ownBlock)) (by (with_reducible repeat (first | apply zRa | apply zRn | apply zRd)); exact HO_8.out) hg hat); have n4_ := zMk (hb); have n5_ := zMk (ho); clear HO_5; clear HO_6; clear HO_7; clear HO_8; clear HB; clear HO983; have HO_5 := n0_; have HO_6 := n1_; have HO_7 := n2_; have HO_8 := n3_; have HB := n4_; have HO986 := n5_; clear n0_ n1_ n2_ n3_ n4_ n5_; clear ho hb hg hat; obtain ⟨Ao27, co27, eo27⟩ := Kd.R_slice HO_7.out; subst eo27; obtain ⟨Ao28, co28, eo28⟩ := Kd.R_slice HO986.out; subst eo28) | ((with_reducible refine gate_callee (f := 67) rfl ?_); refine goesL_ (some 33) rfl rfl Tryd.func67 (by kernel_rfl) rfl #[.slice Ao27 x7_1.length co27, .slice Ao28 y984.length co28] rfl (by (try simp only [List.map_toArray, List.map_cons, List.map_nil]); first | done | rfl | (simp only [zLd, zLt]; rfl)) ?_; (with_reducible refine (r1_sum.calls k1 _ _ x7_1 _ _ y984 t987 _ ?side1 ?side2 ?side3 ?side4 A18.out).mono ?_); (case side1 => repeat (first | exact (Kd.R_reads' HO_7.out).2.2 | (with_reducible refine zCa ?_ _) | (with_reducible refine zCn ?_ _) | (with_reducible refine zCd ?_))); (case side2 => exact (Kd.R_reads' HO_7.out).2.1); (case side3 => repeat (first | exact (Kd.R_reads' HO986.out).2.2 | (with_reducible refine zCa ?_ _) | (with_reducible refine zCn ?_ _) | (with_reducible refine zCd ?_))); (case side4 => exact (Kd.R_reads' HO986.out).2.1); rintro e w29 ⟨v988, rfl, ho0, hb⟩; refine ⟨_, rfl, ?_⟩; have n0_ := zMk (Kd.R_elder' (by (with_reducible repeat (first | apply zRa | apply zRn | apply zRd)); exact HO_5.out) (Kd.R_base ho0) hb); have n1_ := zMk (Kd.R_elder' (by (with_reducible repeat (first | apply zRa | apply zRn | apply zRd)); exact HO_6.out) (Kd.R_base ho0) hb); have n2_ := zMk (Kd.R_elder' (by (with_reducible repeat (first | apply zRa | apply zRn | apply zRd)); exact HO_7.out) (Kd.R_base ho0) hb); have n3_ := zMk (Kd.R_elder' (by (with_reducible repeat (first | apply zRa | apply zRn | apply zRd)); exact HO_8.out) (Kd.R_base ho0) hb); have n4_ := zMk (Kd.R_elder' (by (with_reducible repeat (first | apply zRa | apply zRn | apply zRd)); exact HO986.out) (Kd.R_base ho0) hb); have n5_ := zMk (Kd.R_lower (Kd.R_new' (Kd.R_new' (Kd.R_new' (Kd.R_new' (Kd.R_new' ho0 (Kd.R_lt (by (with_reducible repeat (first | apply zRa | apply zRn | apply zRd)); exact HO_5.out))) (Kd.R_lt (by (with_reducible repeat (first | apply zRa | apply zRn | apply zRd)); exact HO_6.out))) (Kd.R_lt (by (with_reducible repeat (first | apply zRa | apply zRn | apply zRd)); exact HO_7.out))) (Kd.R_lt (by (with_reducible repeat (first | apply zRa | apply zRn | apply zRd)); exact HO_8.out))) (Kd.R_lt (by (with_reducible repeat (first | apply zRa | apply zRn | apply zRd)); exact HO986.out))) (zBs (by repeat (first | (with_reducible first | exact HB.out | apply zBa | apply zBn | apply zBd) | exact HB.out)))); have n6_ := zMk (zBt (by repeat (first | (with_reducible first | exact HB.out | apply zBa | apply zBn | apply zBd) | exact HB.out)) hb); clear HO_5; clear HO_6; clear HO_7; clear HO_8; clear HO986; clear HB; have HO_5 := n0_; have HO_6 := n1_; have HO_7 := n2_; have HO_8 := n3_; have HO986 := n4_; have HO989 := n5_; have HB := n6_; clear n0_ n1_ n2_ n3_ n4_ n5_ n6_; (try clear hb); (try clear hb2); (try clear hk); (try clear hi); (try clear ho0)) | ((with_reducible refine gate_builtin (b := .append) (xs := #[.tmp 34, .tmp 35]) rfl ?_); at_builtin; refine Kd.R_append (Kd.int .u8) (w0 := w) w.heap.size rfl (.tmp 34) (.tmp 35) 67 5 (.int .u8 0) 1 rfl Tryd.underlying67 info5 rfl (by decide) (by omega) (.slice Ao24 x8_1.length co24) x8_1 0 [.int .u8 0] (fun k_ => some k_ ≠ (.slice Ao26 t968.length co26 : Value).ownBlock ∧ some k_ ≠ (.slice (some ad977) t974.length co20 : Value).ownBlock ∧ some k_ ≠ (.slice Ao27 x7_1.length co27 : Value).ownBlock ∧ some k_ ≠ (.slice Ao28 y984.length co28 : Value).ownBlock ∧ some k_ ≠ (v988 : Value).ownBlock) (fun _ => False) rfl rfl ?aP (fun _ hk => hk.elim) ?aF ?aO ?aB ?aS ?aL ?_; (case aP => exact rfl); (case aB => exact (by repeat (first | (with_reducible first | exact HB.out | apply zBa | apply zBn | apply zBd) | exact HB.out))); (case aF => exact (fun k_ hk => ⟨Kd.fresh' (Kd.R_lt (by (with_reducible repeat (first | apply zRa | apply zRn | apply zRd)); exact HO_5.out)) k_ hk, Kd.fresh' (Kd.R_lt (by (with_reducible repeat (first | apply zRa | apply zRn | apply zRd)); exact HO_6.out)) k_ hk, Kd.fresh' (Kd.R_lt (by (with_reducible repeat (first | apply zRa | apply zRn | apply zRd)); exact HO_7.out)) k_ hk, Kd.fresh' (Kd.R_lt (by (with_reducible repeat (first | apply zRa | apply zRn | apply zRd)); exact HO986.out)) k_ hk, Kd.fresh' (Kd.R_lt (by (with_reducible repeat (first | apply zRa | apply zRn | apply zRd)); exact HO989.out)) k_ hk⟩)); (case aO => exact (by (with_reducible repeat (first | apply zRa | apply zRn | apply zRd)); exact zRm HO_8.out (fun _ hk => ⟨hk.1.1.1, ⟨hk.1.1.2.1, ⟨hk.1.1.2.2, ⟨hk.1.2, hk.2⟩⟩⟩⟩))); (case aS => exact (zBs (by repeat (first | (with_reducible first | exact HB.out | apply zBa | apply zBn | apply zBd) | exact HB.out)))); (case aL => have := LMc19.out; omega); intro v991 w30 ho hb hg hat; rw [← Ny990.out] at ho; have n0_ := zMk (Kd.R_after (ok := (fun k_ => some k_ ≠ (.slice (some ad977) t974.length co20 : Value).ownBlock ∧ some k_ ≠ (.slice Ao27 x7_1.length co27 : Value).ownBlock ∧ some k_ ≠ (.slice Ao28 y984.length co28 : Value).ownBlock ∧ some k_ ≠ (v988 : Value).ownBlock)) (by (with_reducible repeat (first | apply zRa | apply zRn | apply zRd)); exact zRm HO_5.out (fun _ hk => ⟨⟨hk.1.1.1, ⟨hk.1.1.2.1, ⟨hk.1.2, hk.2⟩⟩⟩, hk.1.1.2.2⟩)) hg hat); have n1_ := zMk (Kd.R_after (ok := (fun k_ => some k_ ≠ (.slice Ao26 t968.length co26 : Value).ownBlock ∧ some k_ ≠ (.slice Ao27 x7_1.length co27 : Value).ownBlock ∧ some k_ ≠ (.slice Ao28 y984.length co28 : Value).ownBlock ∧ some k_ ≠ (v988 : Value).ownBlock)) (by (with_reducible repeat (first | apply zRa | apply zRn | apply zRd)); exact zRm HO_6.out (fun _ hk => ⟨⟨hk.1.1.1, ⟨hk.1.1.2.1, ⟨hk.1.2, hk.2⟩⟩⟩, hk.1.1.2.2⟩)) hg hat); have n2_ := zMk (Kd.R_after (ok := (fun k_ => some k_ ≠ (.slice Ao26 t968.length co26 : Value).ownBlock ∧ some k_ ≠ (.slice (some ad977) t974.length co20 : Value).ownBlock ∧ some k_ ≠ (.slice Ao28 y984.length co28 : Value).ownBlock ∧ some k_ ≠ (v988 : Value).ownBlock)) (by (with_reducible repeat (first | apply zRa | apply zRn | apply zRd)); exact zRm HO_7.out (fun _ hk => ⟨⟨hk.1.1.1, ⟨hk.1.1.2.1, ⟨hk.1.2, hk.2⟩⟩⟩, hk.1.1.2.2⟩)) hg hat); have n3_ := zMk (Kd.R_after (ok := (fun k_ => some k_ ≠ (.slice Ao26 t968.length co26 : Value).ownBlock ∧ some k_ ≠ (.slice (some ad977) t974.length co20 : Value).ownBlock ∧ some k_ ≠ (.slice Ao27 x7_1.length co27 : Value).ownBlock ∧ some k_ ≠ (v988 : Value).ownBlock)) (by (with_reducible repeat (first | apply zRa | apply zRn | apply zRd)); exact zRm HO986.out (fun _ hk => ⟨⟨hk.1.1, ⟨hk.1.2.1, ⟨hk.1.2.2.1, hk.2⟩⟩⟩, hk.1.2.2.2⟩)) hg hat); have n4_ := zMk (Kd.R_after (ok := (fun k_ => some k_ ≠ (.slice Ao26 t968.length co26 : Value).ownBlock ∧ some k_ ≠ (.slice (some ad977) t974.length co20 : Value).ownBlock ∧ some k_ ≠ (.slice Ao27 x7_1.length co27 : Value).ownBlock ∧ some k_ ≠ (.slice Ao28 y984.length co28 : Value).ownBlock)) (by (with_reducible repeat (first | apply zRa | apply zRn | apply zRd)); exact zRm HO989.out (fun _ hk => ⟨⟨hk.1.1.1.1.2, ⟨hk.1.1.1.2, ⟨hk.1.1.2, hk.2⟩⟩⟩, hk.1.2⟩)) hg hat); have n5_ := zMk (hb); have n6_ := zMk (ho); clear HO_5; clear HO_6; clear HO_7; clear HO986; clear HO989; clear HB; clear HO_8; have HO_5 := n0_; have HO_6 := n1_; have HO_7 := n2_; have HO986 := n3_; have HO989 := n4_; have HB := n5_; have HO992 := n6_; clear n0_ n1_ n2_ n3_ n4_ n5_ n6_; clear ho hb hg hat))
      go_roundg k1
      case measure => have := HK1.out; omega
      case rel => exact ⟨(t987), (y990), (wrap64 (x9_1 + 1)), (by first | rfl | (simp; done) | (simp [*]; done)), H', ⟨by have := HK1.out; omega⟩, ⟨by (with_reducible repeat (first | apply zRa | apply zRn | apply zRd)); exact zRm HO_5.out (fun _ hk => ⟨hk.1.1, ⟨hk.1.2.2.2, hk.2⟩⟩)⟩, ⟨by (with_reducible repeat (first | apply zRa | apply zRn | apply zRd)); exact zRm HO_6.out (fun _ hk => ⟨hk.1.1, ⟨hk.1.2.2.2, hk.2⟩⟩)⟩, ⟨by (with_reducible repeat (first | apply zRa | apply zRn | apply zRd)); exact zRm HO989.out (fun _ hk => ⟨hk.1.1, ⟨hk.1.2.1, hk.2⟩⟩)⟩, ⟨by (with_reducible repeat (first | apply zRa | apply zRn | apply zRd)); exact zRm HO992.out (fun _ hk => ⟨hk.1, ⟨hk.2.1, hk.2.2.2.2⟩⟩)⟩, ⟨by repeat (first | (with_reducible first | exact HB.out | apply zBa | apply zBn | apply zBd) | exact HB.out)⟩⟩
    · rw [if_neg c15] at H
      have c15b0 : ((rd t974 x9_1) == 1) = false := beq_eq_false_iff_ne.mpr c15
      have c15b1 : ((rd t974 x9_1) != 1) = true := bne_iff_ne.mpr c15
      by_cases c31 : x8_1.length < 140737488355328
      rotate_left
      · rw [if_neg c31] at H; exact absurd H (by simp)
      rw [if_pos c31] at H
      have LMc31 := zMk c31
      clear c31
      obtain ⟨y993, hy993⟩ : ∃ y_ : List Int, y_ = (x8_1 ++ [0]) := ⟨_, rfl⟩
      replace H : (r1_Mul.l0 k1 t968 t974 x7_1 y993 (wrap64 (x9_1 + 1))) = some r := by first | (rw [hy993]; with_reducible exact H) | (have H2_ := (zOb _ _).symm.trans H; rw [hy993]; with_reducible exact H2_) | (have H2_ := (zOb _ _).symm.trans H; with_reducible exact H2_) | with_reducible exact H | (rw [hy993]; exact H) | exact H
      have Ny993 := zMk hy993
      clear hy993
      have H' := zMk H
      clear H
      obtain ⟨Ao32, co32, eo32⟩ := Kd.R_slice HO_6.out
      subst eo32
      have p977 : 0 ≤ (x9_1 : Int) := of_decide_eq_true (by first | (with_reducible assumption) | assumption)
      have q977 : x9_1 < (t974.length : Int) := of_decide_eq_true (by first | (with_reducible assumption) | assumption)
      obtain ⟨ad977, e977, hx977_0⟩ := zAi (Kd.R_reads' HO_6.out).2.2 x9_1 p977 q977
      cases e977
      replace p977 := eq_true p977
      replace q977 := eq_true q977
      go_wp2_with (first | ((with_reducible refine gate_builtin (b := .append) (xs := #[.tmp 34, .tmp 35]) rfl ?_); at_builtin; refine Kd.R_append (Kd.int .u8) (w0 := w) w.heap.size rfl (.tmp 34) (.tmp 35) 67 5 (.int .u8 0) 1 rfl Tryd.underlying67 info5 rfl (by decide) (by omega) u8 x8_1 0 [.int .u8 0] (fun k_ => some k_ ≠ (v969 : Value).ownBlock ∧ some k_ ≠ (.slice (some ad977) t974.length co32 : Value).ownBlock ∧ some k_ ≠ (u7 : Value).ownBlock) (fun _ => False) rfl rfl ?aP (fun _ hk => hk.elim) ?aF ?aO ?aB ?aS ?aL ?_; (case aP => exact rfl); (case aB => exact (by repeat (first | (with_reducible first | exact HB.out | apply zBa | apply zBn | apply zBd) | exact HB.out))); (case aF => exact (fun k_ hk => ⟨Kd.fresh' (Kd.R_lt (by (with_reducible repeat (first | apply zRa | apply zRn | apply zRd)); exact HO_5.out)) k_ hk, Kd.fresh' (Kd.R_lt (by (with_reducible repeat (first | apply zRa | apply zRn | apply zRd)); exact HO_6.out)) k_ hk, Kd.fresh' (Kd.R_lt (by (with_reducible repeat (first | apply zRa | apply zRn | apply zRd)); exact HO_7.out)) k_ hk⟩)); (case aO => exact (by (with_reducible repeat (first | apply zRa | apply zRn | apply zRd)); exact HO_8.out)); (case aS => exact (zBs (by repeat (first | (with_reducible first | exact HB.out | apply zBa | apply zBn | apply zBd) | exact HB.out)))); (case aL => have := LMc31.out; omega); intro v994 w33 ho hb hg hat; rw [← Ny993.out] at ho; have n0_ := zMk (Kd.R_after (ok := (fun k_ => some k_ ≠ (.slice (some ad977) t974.length co32 : Value).ownBlock ∧ some k_ ≠ (u7 : Value).ownBlock)) (by (with_reducible repeat (first | apply zRa | apply zRn | apply zRd)); exact zRm HO_5.out (fun _ hk => ⟨⟨hk.1, hk.2.1⟩, hk.2.2⟩)) hg hat); have n1_ := zMk (Kd.R_after (ok := (fun k_ => some k_ ≠ (v969 : Value).ownBlock ∧ some k_ ≠ (u7 : Value).ownBlock)) (by (with_reducible repeat (first | apply zRa | apply zRn | apply zRd)); exact zRm HO_6.out (fun _ hk => ⟨⟨hk.1, hk.2.1⟩, hk.2.2⟩)) hg hat); have n2_ := zMk (Kd.R_after (ok := (fun k_ => some k_ ≠ (v969 : Value).ownBlock ∧ some k_ ≠ (.slice (some ad977) t974.length co32 : Value).ownBlock)) (by (with_reducible repeat (first | apply zRa | apply zRn | apply zRd)); exact zRm HO_7.out (fun _ hk => ⟨⟨hk.1, hk.2.1⟩, hk.2.2⟩)) hg hat); have n3_ := zMk (hb); have n4_ := zMk (ho); clear HO_5; clear HO_6; clear HO_7; clear HB; clear HO_8; have HO_5 := n0_; have HO_6 := n1_; have HO_7 := n2_; have HB := n3_; have HO995 := n4_; clear n0_ n1_ n2_ n3_ n4_; clear ho hb hg hat))
      go_roundg k1
      case measure => have := HK1.out; omega
      case rel => exact ⟨(x7_1), (y993), (wrap64 (x9_1 + 1)), (by first | rfl | (simp; done) | (simp [*]; done)), H', ⟨by have := HK1.out; omega⟩, ⟨by (with_reducible repeat (first | apply zRa | apply zRn | apply zRd)); exact zRm HO_5.out (fun _ hk => ⟨hk.1.1, ⟨hk.1.2, hk.2⟩⟩)⟩, ⟨by (with_reducible repeat (first | apply zRa | apply zRn | apply zRd)); exact zRm HO_6.out (fun _ hk => ⟨hk.1.1, ⟨hk.1.2, hk.2⟩⟩)⟩, ⟨by (with_reducible repeat (first | apply zRa | apply zRn | apply zRd)); exact zRm HO_7.out (fun _ hk => ⟨hk.1.1, ⟨hk.1.2, hk.2⟩⟩)⟩, ⟨by (with_reducible repeat (first | apply zRa | apply zRn | apply zRd)); exact HO995.out⟩, ⟨by repeat (first | (with_reducible first | exact HB.out | apply zBa | apply zBn | apply zBd) | exact HB.out)⟩⟩
  · rw [if_neg c13] at H
    have c13b0 : decide (x9_1 < (t974.length : Int)) = false := decide_eq_false c13
    clear c13
    replace H := Option.bind_eq_some_iff.mp H
    obtain ⟨t996, A340, H⟩ := H
    have A34 := zMk A340
    clear A340
    obtain rfl := zOi H
    obtain ⟨Ao35, co35, eo35⟩ := Kd.R_slice HO_6.out
    subst eo35
    obtain ⟨Ao36, co36, eo36⟩ := Kd.R_slice HO_7.out
    subst eo36
    go_wp2_with (first | ((with_reducible refine gate_callee (f := 65) rfl ?_); refine goesL_ (some 38) rfl rfl Tryd.func65 (by kernel_rfl) rfl #[.slice Ao36 x7_1.length co36] rfl (by (try simp only [List.map_toArray, List.map_cons, List.map_nil]); first | done | rfl | (simp only [zLd, zLt]; rfl)) ?_; (with_reducible refine (r1_limbs.calls k1 _ _ x7_1 t996 _ ?side1 ?side2 A34.out).mono ?_); (case side1 => repeat (first | exact (Kd.R_reads' HO_7.out).2.2 | (with_reducible refine zCa ?_ _) | (with_reducible refine zCn ?_ _) | (with_reducible refine zCd ?_))); (case side2 => exact (Kd.R_reads' HO_7.out).2.1); rintro e w37 ⟨v997, rfl, ho0, hb⟩; refine ⟨_, rfl, ?_⟩; have n0_ := zMk (Kd.R_below (by (with_reducible repeat (first | apply zRa | apply zRn | apply zRd)); exact HO_5.out) hb); have n1_ := zMk (Kd.R_below (by (with_reducible repeat (first | apply zRa | apply zRn | apply zRd)); exact HO_6.out) hb); have n2_ := zMk (Kd.R_below (by (with_reducible repeat (first | apply zRa | apply zRn | apply zRd)); exact HO_7.out) hb); have n3_ := zMk (Kd.R_below (by (with_reducible repeat (first | apply zRa | apply zRn | apply zRd)); exact HO_8.out) hb); have n4_ := zMk (Kd.R_lower ho0 (zBs (by repeat (first | (with_reducible first | exact HB.out | apply zBa | apply zBn | apply zBd) | exact HB.out)))); have n5_ := zMk (zBt (by repeat (first | (with_reducible first | exact HB.out | apply zBa | apply zBn | apply zBd) | exact HB.out)) hb); clear HO_5; clear HO_6; clear HO_7; clear HO_8; clear HB; have HO_5 := n0_; have HO_6 := n1_; have HO_7 := n2_; have HO_8 := n3_; have HO998 := n4_; have HB := n5_; clear n0_ n1_ n2_ n3_ n4_ n5_; (try clear hb); (try clear hb2); (try clear hk); (try clear hi); (try clear ho0)))
    go_ret
    exact ⟨_, by first | rfl | (simp [errW_none, errW_some] <;> rfl) | (simp [*, errW_none, errW_some] <;> rfl), by (with_reducible repeat (first | apply zRa | apply zRn | apply zRd)); exact HO998.out, by repeat (first | (with_reducible first | exact HB.out | apply zBa | apply zBn | apply zBd) | exact HB.out)⟩

/- The plain law of the document's product. -/
theorem bits_zeros (n : Nat) : Bits (List.replicate n 0) := fun x hx => .inl (List.eq_of_mem_replicate hx)
theorem bval_zeros (n : Nat) : bval (List.replicate n 0) = 0 := by
  induction n with
  | zero => rfl
  | succ n ih => simp only [List.replicate_succ, bval, ih]; rfl
theorem rmul_l0 (x y : List Int) (hx : Bits x) (hy : Bits y) (hl : x.length + 2 * y.length < 1000000000) :
    ∀ (j m k : Nat) (A : List Int), m + j = y.length → Bits A → A.length ≤ x.length + 2 * m → bval A = bval x * bval (y.take m) →
    ∃ r, r1_Mul.l0 (k + 2 * (x.length + 2 * y.length) + 10 + j + 1) x y A (List.replicate m 0) (m : Int) = some r ∧ IsNum r (bval x * bval y) := by
  intro j
  induction j with
  | zero =>
    intro m k A hm hA lA hv
    obtain ⟨r, h1, h2, _⟩ := limbs_f A hA (by omega) (k + 2 * (x.length + 2 * y.length) + 10) (by omega)
    refine ⟨r, ?_, ?_⟩
    · rw [Nat.add_zero, r1_Mul.l0, if_neg (by omega), h1]
      rfl
    · rw [hv, List.take_of_length_le (by omega)] at h2
      exact h2
  | succ j ih =>
    intro m k A hm hA lA hv
    have hz : List.replicate m (0 : Int) ++ [0] = List.replicate (m + 1) 0 := List.replicate_succ'.symm
    have hlz : (List.replicate m (0 : Int)).length = m := List.length_replicate
    have hS : Bits (List.replicate m 0 ++ x) := (bits_zeros m).append hx
    have hSl : (List.replicate m (0 : Int) ++ x).length = m + x.length := by rw [List.length_append, hlz]
    obtain ⟨t, h1, h2, h3, h4⟩ := sum_f A (List.replicate m 0 ++ x) hA hS (by omega) (k + 2 * (x.length + 2 * y.length) + 10 + j + 1) (by omega)
    rcases hy.getD m with h0 | h0
    · obtain ⟨r, h5, h6⟩ := ih (m + 1) k A (by omega) hA (by omega) (by rw [bval_take_succ, h0, hv, Int.mul_zero, Int.add_zero])
      refine ⟨r, ?_, h6⟩
      rw [show k + 2 * (x.length + 2 * y.length) + 10 + (j + 1) + 1 = (k + 2 * (x.length + 2 * y.length) + 10 + j + 1) + 1 by omega, r1_Mul.l0, if_pos (by omega), if_pos (by omega), rd_nat, h0, if_neg (by decide), if_pos (by omega), hz, w64 (by omega) (by omega)]
      exact h5
    · obtain ⟨r, h5, h6⟩ := ih (m + 1) k t (by omega) h2 (by omega) (by
        rw [h4, hv, bval_append, bval_zeros, hlz, bval_take_succ, h0, Int.zero_add, Int.mul_one, Int.mul_add, Int.mul_comm (bval x) (2 ^ m)])
      refine ⟨r, ?_, h6⟩
      rw [show k + 2 * (x.length + 2 * y.length) + 10 + (j + 1) + 1 = (k + 2 * (x.length + 2 * y.length) + 10 + j + 1) + 1 by omega, r1_Mul.l0, if_pos (by omega), if_pos (by omega), rd_nat, h0, if_pos rfl]
      simp only [zOb, List.nil_append]
      rw [if_pos (by simp only [List.length_nil]; omega), if_pos (by omega), h1, zOb, if_pos (by omega), hz, w64 (by omega) (by omega)]
      exact h5
theorem rmul_f (a b : List Int) (ha : Limbs a) (hb : Limbs b) (la : a.length < 1000000) (lb : b.length < 1000000) (k : Nat) (hk : 200 * a.length + 200 * b.length + 100 ≤ k) :
    ∃ r, r1_Mul.f k a b = some r ∧ IsNum r (val a * val b) := by
  have ca := cut_length a
  have cb := cut_length b
  have la2 := bitsOf_length (cut a)
  have lb2 := bitsOf_length (cut b)
  obtain ⟨d, hd⟩ : ∃ d, k = d + 2 * ((bitsOf (cut a)).length + 2 * (bitsOf (cut b)).length) + 10 + (bitsOf (cut b)).length + 1 := ⟨k - (2 * ((bitsOf (cut a)).length + 2 * (bitsOf (cut b)).length) + 10 + (bitsOf (cut b)).length + 1), by omega⟩
  obtain ⟨r, h1, h2⟩ := rmul_l0 (bitsOf (cut a)) (bitsOf (cut b)) (bitsOf_bits _) (bitsOf_bits _) (by omega) (bitsOf (cut b)).length 0 d [] (by omega) Bits.nil (by simp) (by simp [bval])
  refine ⟨r, ?_, by rw [bval_bitsOf (cut_limbs ha), bval_bitsOf (cut_limbs hb), cut_val, cut_val] at h2; exact h2⟩
  rw [← hd] at h1
  unfold r1_Mul.f
  rw [norm_f a (by omega) k (by omega), zOb, bits_f _ (cut_limbs ha) (by omega) k (by omega), zOb, norm_f b (by omega) k (by omega), zOb, bits_f _ (cut_limbs hb) (by omega) k (by omega), zOb]
  exact h1
/- The plain laws of sums of limbs, of a limb's difference. -/
theorem bits_u32 (a b : Nat) (ha : a < 4294967296) (hb : b < 4294967296) : Go.bits .and .u32 (a : Int) (b : Int) = ((a &&& b : Nat) : Int) ∧ Go.bits .or .u32 (a : Int) (b : Int) = ((a ||| b : Nat) : Int) ∧ Go.bits .xor .u32 (a : Int) (b : Int) = ((a ^^^ b : Nat) : Int) := by
  have h0 := bits_nat .u32 32 (by decide) wraps_u32 a b ha hb
  refine ⟨h0.1, h0.2, ?_⟩
  have h1 : (BitVec.ofInt 32 (a : Int)).toNat = a := by
    rw [BitVec.ofInt_natCast, BitVec.toNat_ofNat]; exact Nat.mod_eq_of_lt (by omega)
  have h2 : (BitVec.ofInt 32 (b : Int)).toNat = b := by
    rw [BitVec.ofInt_natCast, BitVec.toNat_ofNat]; exact Nat.mod_eq_of_lt (by omega)
  show IntKind.u32.wrap ((BitVec.ofInt 32 (a : Int) ^^^ BitVec.ofInt 32 (b : Int)).toNat : Int) = _
  rw [BitVec.toNat_xor, h1, h2]
  have hx : a ^^^ b < 2 ^ 32 := Nat.xor_lt_two_pow (by omega) (by omega)
  exact wraps_u32 _ (by omega) (by omega)
theorem top_bit (n : Nat) (h : n < 4294967296) : n / 2147483648 = (n.testBit 31).toNat := by
  rw [Nat.testBit_eq_decide_div_mod_eq]
  have h1 : n / 2 ^ 31 = n / 2147483648 := rfl
  rw [h1]
  have h2 : n / 2147483648 < 2 := by omega
  generalize n / 2147483648 = q at h2 ⊢
  have : q = 0 ∨ q = 1 := by omega
  rcases this with rfl | rfl <;> rfl
theorem sub32_f (x y c : Int) (hx : 0 ≤ x ∧ x < 4294967296) (hy : 0 ≤ y ∧ y < 4294967296) (hc : c = 0 ∨ c = 1) :
    ∃ d b : Int, bits_Sub32.f x y c = some (d, b) ∧ 0 ≤ d ∧ d < 4294967296 ∧ (b = 0 ∨ b = 1) ∧ x - y - c = d - 4294967296 * b := by
  obtain ⟨d, hd⟩ : ∃ d : Int, (((x - y) % 4294967296) - c) % 4294967296 = d := ⟨_, rfl⟩
  have hd0 : 0 ≤ d ∧ d < 4294967296 := by omega
  obtain ⟨p, rfl⟩ := Int.eq_ofNat_of_zero_le hx.1
  obtain ⟨q, rfl⟩ := Int.eq_ofNat_of_zero_le hy.1
  obtain ⟨e, rfl⟩ := Int.eq_ofNat_of_zero_le hd0.1
  have hp : p < 4294967296 := by omega
  have hq : q < 4294967296 := by omega
  have he : e < 4294967296 := by omega
  have k1 : (4294967295 : Nat) ^^^ p < 4294967296 := Nat.xor_lt_two_pow (n := 32) (by decide) hp
  have k2 : p ^^^ q < 4294967296 := Nat.xor_lt_two_pow (n := 32) hp hq
  have k3 : (4294967295 : Nat) ^^^ (p ^^^ q) < 4294967296 := Nat.xor_lt_two_pow (n := 32) (by decide) k2
  have k4 : (4294967295 ^^^ p) &&& q < 4294967296 := Nat.and_lt_two_pow (n := 32) _ hq
  have k5 : (4294967295 ^^^ (p ^^^ q)) &&& e < 4294967296 := Nat.and_lt_two_pow (n := 32) _ he
  have k6 : ((4294967295 ^^^ p) &&& q) ||| ((4294967295 ^^^ (p ^^^ q)) &&& e) < 4294967296 := Nat.or_lt_two_pow (n := 32) k4 k5
  have hf : bits_Sub32.f (p : Int) (q : Int) c = some ((e : Int), (((((4294967295 ^^^ p) &&& q) ||| ((4294967295 ^^^ (p ^^^ q)) &&& e)) / 2147483648 : Nat) : Int)) := by
    unfold bits_Sub32.f
    rw [hd, show (4294967295 : Int) = ((4294967295 : Nat) : Int) from rfl, (bits_u32 4294967295 p (by decide) hp).2.2, (bits_u32 _ q k1 hq).1, (bits_u32 p q hp hq).2.2, (bits_u32 _ _ (by decide) k2).2.2, (bits_u32 _ e k3 he).1, (bits_u32 _ _ k4 k5).2.1]
    rfl
  refine ⟨e, _, hf, hd0.1, hd0.2, ?_, ?_⟩
  · omega
  · rw [top_bit _ k6]
    simp only [Nat.testBit_or, Nat.testBit_and, Nat.testBit_xor, show (4294967295 : Nat).testBit 31 = true from rfl]
    have t1 := top_bit p hp
    have t2 := top_bit q hq
    have t3 := top_bit e he
    generalize p.testBit 31 = tp at t1 ⊢
    generalize q.testBit 31 = tq at t2 ⊢
    generalize e.testBit 31 = te at t3 ⊢
    rcases hc with rfl | rfl <;> cases tp <;> cases tq <;> cases te <;> simp only [Bool.toNat_true, Bool.toNat_false, Bool.xor_true, Bool.xor_false, Bool.true_xor, Bool.false_xor, Bool.not_true, Bool.not_false, Bool.and_true, Bool.and_false, Bool.true_and, Bool.false_and, Bool.or_true, Bool.or_false, Bool.true_or, Bool.false_or] at t1 t2 t3 ⊢ <;> omega
theorem add32_f (x y c : Int) (hx : 0 ≤ x ∧ x < 4294967296) (hy : 0 ≤ y ∧ y < 4294967296) (hc : c = 0 ∨ c = 1) :
    ∃ d b : Int, bits_Add32.f x y c = some (d, b) ∧ 0 ≤ d ∧ d < 4294967296 ∧ (b = 0 ∨ b = 1) ∧ x + y + c = d + 4294967296 * b := by
  have e : IntKind.u64.wrap ((IntKind.u64.wrap ((IntKind.u64.wrap (x)) + (IntKind.u64.wrap (y)))) + (IntKind.u64.wrap (c))) = x + y + c := by
    rw [wraps_u64 x (by omega) (by omega), wraps_u64 y (by omega) (by omega), wraps_u64 (x + y) (by omega) (by omega), wraps_u64 c (by omega) (by omega), wraps_u64 (x + y + c) (by omega) (by omega)]
  refine ⟨(x + y + c) % 4294967296, (x + y + c) / 4294967296, ?_, by omega, by omega, by omega, by omega⟩
  unfold bits_Add32.f
  rw [e, show (x + y + c) / 4294967296 % 4294967296 = (x + y + c) / 4294967296 by omega]
theorem val_take_succ' (l : List Int) (n : Nat) : val (l.take (n + 1)) = val (l.take n) + 4294967296 ^ n * l.getD n 0 := by
  by_cases h : n < l.length
  · exact val_take_succ l n h
  · rw [List.take_of_length_le (by omega), List.take_of_length_le (by omega), getD_ge _ (by omega)]
    omega
theorem cut_len_mono {a b : List Int} (ha : Limbs a) (hb : Limbs b) (h : val b ≤ val a) : (cut b).length ≤ (cut a).length := by
  rcases Nat.lt_or_ge (cut a).length (cut b).length with hlt | hge
  · have h1 := val_lt (cut_limbs ha)
    have h2 := val_ge (cut_limbs hb) (cut_trim b) (by intro h0; rw [h0] at hlt; exact absurd hlt (by simp))
    have h3 : (4294967296 : Int) ^ (cut a).length ≤ 4294967296 ^ ((cut b).length - 1) := pow_up (by omega)
    rw [cut_val] at h1 h2
    omega
  · exact hge
theorem less_l0 (b : List Int) (hb : Limbs b) (N : Nat) (hN : N < 4611686018427387904) (T : Int) :
    ∀ (j m k : Nat) (X : List Int) (c : Int), m + j = N → X.length = N → Limbs X → (c = 0 ∨ c = 1) → val X - c * 4294967296 ^ m + val (b.take m) = T →
    ∃ X' c', n_less.l0 (k + j + 1) X b c (N : Int) (m : Int) = some (c', X') ∧ X'.length = N ∧ Limbs X' ∧ (c' = 0 ∨ c' = 1) ∧ val X' - c' * 4294967296 ^ N + val (b.take N) = T := by
  intro j
  induction j with
  | zero =>
    intro m k X c hm hX lX hc hT
    obtain rfl : m = N := by omega
    exact ⟨X, c, by rw [n_less.l0, if_neg (by omega)], hX, lX, hc, hT⟩
  | succ j ih =>
    intro m k X c hm hX lX hc hT
    obtain ⟨d, c', e, d0, d1, hc', hd⟩ := sub32_f (X.getD m 0) (b.getD m 0) c (lX.getD m) (hb.getD m) hc
    obtain ⟨X', c'', h1, h2, h3, h4, h5⟩ := ih (m + 1) k (X.set m d) c' (by omega) (by rw [List.length_set]; exact hX) (lX.set _ d0 d1) hc' (by
      rw [val_set _ _ _ (by omega), val_take_succ' b m, ← hT, Int.pow_succ]
      grind)
    refine ⟨X', c'', ?_, h2, h3, h4, h5⟩
    rw [show k + (j + 1) + 1 = (k + j + 1) + 1 by omega, n_less.l0, if_pos (by omega)]
    by_cases hbm : (m : Int) < (b.length : Int)
    · rw [if_pos hbm, if_pos (by omega), if_pos (by omega), rd_nat, rd_nat, e, zOb, w64 (by omega) (by omega), zTn, show ((m : Int) + 1) = ((m + 1 : Nat) : Int) by omega]
      exact h1
    · rw [getD_ge b (by omega)] at e
      rw [if_neg hbm, if_pos (by omega), if_pos (by omega), rd_nat, e, zOb, w64 (by omega) (by omega), zTn, show ((m : Int) + 1) = ((m + 1 : Nat) : Int) by omega]
      exact h1
theorem add_l0 (x0 a b : List Int) (ha : Limbs a) (hb : Limbs b) (hx : x0.length = a.length) (hba : b.length ≤ a.length) (hN : a.length < 35184372088832) :
    ∀ (j m k : Nat) (O : List Int) (c : Int), m + j = a.length → O.length = a.length + 1 → Limbs O → (c = 0 ∨ c = 1) → (∀ i, m ≤ i → O.getD i 0 = 0) → val O + c * 4294967296 ^ m = val (a.take m) + val (b.take m) →
    ∃ r, n_Add.l0 (k + j + 1) x0 b O c a (a.length : Int) (m : Int) = some r ∧ IsNum r (val a + val b) ∧ r.length ≤ a.length + 1 := by
  intro j
  induction j with
  | zero =>
    intro m k O c hm hO lO hc hz hT
    obtain rfl : m = a.length := by omega
    refine ⟨cut (O.set a.length c), ?_, ?_, by have := cut_length (O.set a.length c); rw [List.length_set] at this; omega⟩
    · rw [n_Add.l0, if_neg (by omega), if_pos (by omega), if_pos (by omega), cut_f, hx]
      rfl
    · have := IsNum.cut (lO.set a.length (v := c) (by omega) (by omega))
      rw [val_set _ _ _ (by omega), hz _ (Nat.le_refl _)] at this
      rw [List.take_length, List.take_of_length_le hba] at hT
      rw [show val O + 4294967296 ^ a.length * (c - 0) = val a + val b by rw [← hT]; grind] at this
      exact this
  | succ j ih =>
    intro m k O c hm hO lO hc hz hT
    obtain ⟨d, c', e, d0, d1, hc', hd⟩ := add32_f (a.getD m 0) (b.getD m 0) c (ha.getD m) (hb.getD m) hc
    obtain ⟨r, h1, h2, h3⟩ := ih (m + 1) k (O.set m d) c' (by omega) (by rw [List.length_set]; exact hO) (lO.set _ d0 d1) hc' (fun i hi => by rw [getD_set_ne _ _ (by omega)]; exact hz i (by omega)) (by
      rw [val_set _ _ _ (by omega), hz m (Nat.le_refl _), val_take_succ' b m, val_take_succ' a m, Int.pow_succ]
      grind)
    refine ⟨r, ?_, h2, h3⟩
    rw [show k + (j + 1) + 1 = (k + j + 1) + 1 by omega, n_Add.l0, if_pos (by omega), if_pos (by omega), if_pos (by omega)]
    by_cases hbm : (m : Int) < (b.length : Int)
    · rw [if_pos hbm, rd_nat, rd_nat, e, zOb, if_pos (by omega), w64 (by omega) (by omega), zTn, show ((m : Int) + 1) = ((m + 1 : Nat) : Int) by omega]
      exact h1
    · rw [getD_ge b (by omega)] at e
      rw [if_neg hbm, rd_nat, e, zOb, if_pos (by omega), w64 (by omega) (by omega), zTn, show ((m : Int) + 1) = ((m + 1 : Nat) : Int) by omega]
      exact h1
theorem add_j0 (a b : List Int) (ha : Limbs a) (hb : Limbs b) (hba : b.length ≤ a.length) (hN : a.length < 35184372088832) (k : Nat) (hk : a.length + 2 ≤ k) :
    ∃ r, n_Add.j0 k a b = some r ∧ IsNum r (val a + val b) ∧ r.length ≤ a.length + 1 := by
  obtain ⟨d, rfl⟩ : ∃ d, k = (d + a.length + 1) + 1 := ⟨k - (a.length + 2), by omega⟩
  obtain ⟨r, h1, h2, h3⟩ := add_l0 a a b ha hb rfl hba hN a.length 0 d (List.replicate (a.length + 1) 0) 0 (by omega) (by simp) (limbs_replicate _) (.inl rfl) (fun i _ => by
    by_cases hi : i < a.length + 1
    · rw [getD_lt _ (by simpa using hi)]; simp
    · rw [getD_ge _ (by simp; omega)]) (by rw [val_replicate]; simp [val])
  refine ⟨r, ?_, h2, h3⟩
  rw [n_Add.j0, w64 (by omega) (by omega), if_pos (by omega), show ((a.length : Int) + 1) = ((a.length + 1 : Nat) : Int) by omega, zTn, if_pos (by omega)]
  exact h1
theorem add_f (a b : List Int) (ha : Limbs a) (hb : Limbs b) (la : a.length < 35184372088832) (lb : b.length < 35184372088832) (k : Nat) (hka : a.length + 2 ≤ k) (hkb : b.length + 2 ≤ k) :
    ∃ r, n_Add.f k a b = some r ∧ IsNum r (val a + val b) ∧ r.length ≤ max a.length b.length + 1 := by
  unfold n_Add.f
  have ca := cut_length a
  have cb := cut_length b
  rw [cut_f, zOb, cut_f, zOb]
  by_cases h : ((cut a).length : Int) < ((cut b).length : Int)
  · obtain ⟨r, h1, h2, h3⟩ := add_j0 (cut b) (cut a) (cut_limbs hb) (cut_limbs ha) (by omega) (by omega) k (by omega)
    rw [cut_val, cut_val, Int.add_comm] at h2
    exact ⟨r, by rw [if_pos h]; exact h1, h2, by omega⟩
  · obtain ⟨r, h1, h2, h3⟩ := add_j0 (cut a) (cut b) (cut_limbs ha) (cut_limbs hb) (by omega) (by omega) k (by omega)
    rw [cut_val, cut_val] at h2
    exact ⟨r, by rw [if_neg h]; exact h1, h2, by omega⟩
/- The plain law of the document's difference. -/
/- the document's answer -/
theorem rless_l0 (x y : List Int) (hx : Bits x) (hy : Bits y) (M : Nat) (hM : M = max x.length y.length) (hM2 : M < 140737488355000) :
    ∀ (j m k : Nat) (O : List Int) (c : Int), m + j = M → O.length = m → Bits O → (c = 0 ∨ c = 1) → bval O - 2 ^ m * c = bval (x.take m) - bval (y.take m) →
    ∃ r c', r1_less.l0 (k + j + 1) x y O c (m : Int) = some r ∧ Bits r ∧ r.length = M ∧ (c' = 0 ∨ c' = 1) ∧ bval r - 2 ^ M * c' = bval x - bval y := by
  intro j
  induction j with
  | zero =>
    intro m k O c hm hO hB hc hv
    obtain rfl : m = M := by omega
    rw [List.take_of_length_le (by omega), List.take_of_length_le (by omega)] at hv
    exact ⟨O, c, by rw [r1_less.l0, mx_nat, if_neg (by omega)], hB, hO, hc, hv⟩
  | succ j ih =>
    intro m k O c hm hO hB hc hv
    have hxm := hx.getD m
    have hym := hy.getD m
    obtain ⟨s, hs⟩ : ∃ s, s = 2 + x.getD m 0 - y.getD m 0 - c := ⟨_, rfl⟩
    have hs0 : 0 ≤ s ∧ s ≤ 3 := by omega
    obtain ⟨r, c', h1, h2, h3, h4, h5⟩ := ih (m + 1) k (O ++ [s % 2]) (1 - s / 2) (by omega) (by simp [hO]) (hB.append (Bits.one (by omega))) (by omega) (by
      rw [bval_append, bval_one, bval_take_succ, bval_take_succ, hO, Int.pow_succ]
      have := Int.emod_add_mul_ediv s 2
      grind)
    refine ⟨r, c', ?_, h2, h3, h4, h5⟩
    rw [show k + (j + 1) + 1 = (k + j + 1) + 1 by omega, r1_less.l0, mx_nat, if_pos (by omega), at_f, zOb, at_f, zOb, if_pos (by omega), w64 (by omega) (by omega)]
    rw [show (((2 + x.getD m 0) % 256 - y.getD m 0) % 256 - c) % 256 = s by omega, u8_and1 s (by omega) (by omega), show ((m : Int) + 1) = ((m + 1 : Nat) : Int) by omega, show (1 - s / 2) % 256 = 1 - s / 2 by omega]
    exact h1
theorem rless_f (x y : List Int) (hx : Bits x) (hy : Bits y) (h : bval y ≤ bval x) (hM : max x.length y.length < 140737488355000) (k : Nat) (hk : max x.length y.length + 1 ≤ k) :
    ∃ r, r1_less.f k x y = some r ∧ Bits r ∧ r.length = max x.length y.length ∧ bval r = bval x - bval y := by
  obtain ⟨d, rfl⟩ : ∃ d, k = d + max x.length y.length + 1 := ⟨k - (max x.length y.length + 1), by omega⟩
  obtain ⟨r, c, h1, h2, h3, h4, h5⟩ := rless_l0 x y hx hy _ rfl hM (max x.length y.length) 0 d [] 0 (by omega) rfl Bits.nil (.inl rfl) (by simp [bval])
  refine ⟨r, h1, h2, h3, ?_⟩
  have hb := bval_bounds h2
  rw [h3] at hb
  rcases h4 with rfl | rfl
  · rw [Int.mul_zero] at h5; omega
  · rw [Int.mul_one] at h5; omega
theorem rsub_f (a b : List Int) (ha : Limbs a) (hb : Limbs b) (la : a.length < 1000000) (lb : b.length < 1000000) (k : Nat) (hk : 200 * a.length + 200 * b.length + 100 ≤ k) :
    (val a < val b ∧ r1_Sub.f k a b = some ([], 17)) ∨ (val b ≤ val a ∧ ∃ r, r1_Sub.f k a b = some (r, 0) ∧ IsNum r (val a - val b)) := by
  unfold r1_Sub.f
  rw [rcmp_f a b ha hb (by omega) (by omega) k (by omega), zOb]
  by_cases h : val a < val b
  · refine .inl ⟨h, ?_⟩
    unfold cmpI
    rw [if_pos h, if_pos (by omega)]
  · refine .inr ⟨by omega, ?_⟩
    have hc : ¬ cmpI (val a) (val b) < 0 := by
      unfold cmpI
      rw [if_neg h]
      split <;> omega
    have la2 := bitsOf_length a
    have lb2 := bitsOf_length b
    obtain ⟨t, h1, h2, h3, h4⟩ := rless_f (bitsOf a) (bitsOf b) (bitsOf_bits a) (bitsOf_bits b) (by rw [bval_bitsOf ha, bval_bitsOf hb]; omega) (by omega) k (by omega)
    obtain ⟨r, h5, h6, _⟩ := limbs_f t h2 (by omega) k (by omega)
    refine ⟨r, ?_, by rw [h4, bval_bitsOf ha, bval_bitsOf hb] at h6; exact h6⟩
    rw [if_neg hc, bits_f a ha (by omega) k (by omega), zOb, bits_f b hb (by omega) k (by omega), zOb, h1, zOb, h5]
    rfl
/- The plain law of the document's sum. -/
theorem radd_f (a b : List Int) (ha : Limbs a) (hb : Limbs b) (la : a.length < 1000000) (lb : b.length < 1000000) (k : Nat) (hk : 200 * a.length + 200 * b.length + 100 ≤ k) :
    ∃ r, r1_Add.f k a b = some r ∧ IsNum r (val a + val b) := by
  unfold r1_Add.f
  have la2 := bitsOf_length a
  have lb2 := bitsOf_length b
  obtain ⟨t, h1, h2, h3, h4⟩ := sum_f (bitsOf a) (bitsOf b) (bitsOf_bits a) (bitsOf_bits b) (by omega) k (by omega)
  obtain ⟨r, h5, h6, _⟩ := limbs_f t h2 (by omega) k (by omega)
  refine ⟨r, ?_, by rw [h4, bval_bitsOf ha, bval_bitsOf hb] at h6; exact h6⟩
  rw [bits_f a ha (by omega) k (by omega), zOb, bits_f b hb (by omega) k (by omega), zOb, h1, zOb, h5]
  rfl
/- The plain law of the program's difference. -/
theorem sub_f (a b : List Int) (ha : Limbs a) (hb : Limbs b) (la : a.length < 35184372088832) (k : Nat) (hk : a.length + 1 ≤ k) :
    (val a < val b ∧ n_Sub.f k a b = some ([], 17)) ∨ (val b ≤ val a ∧ ∃ r, n_Sub.f k a b = some (r, 0) ∧ IsNum r (val a - val b) ∧ r.length ≤ a.length) := by
  unfold n_Sub.f
  rw [cmp_f a b ha hb, zOb]
  by_cases h : val a < val b
  · refine .inl ⟨h, ?_⟩
    unfold cmpI
    rw [if_pos h, if_pos (by omega)]
  · refine .inr ⟨by omega, ?_⟩
    have hc : ¬ cmpI (val a) (val b) < 0 := by
      unfold cmpI
      rw [if_neg h]
      split <;> omega
    have ca := cut_length a
    obtain ⟨d, rfl⟩ : ∃ d, k = d + (cut a).length + 1 := ⟨k - ((cut a).length + 1), by omega⟩
    obtain ⟨X, c, h1, h2, h3, h4, h5⟩ := less_l0 (cut b) (cut_limbs hb) (cut a).length (by omega) (val a) (cut a).length 0 d (cut a) 0 (by omega) rfl (cut_limbs ha) (.inl rfl) (by rw [cut_val]; simp [val])
    have hlen := cut_len_mono ha hb (by omega)
    rw [List.take_of_length_le hlen, cut_val] at h5
    have hX0 := val_nonneg h3
    have hX1 := val_lt h3
    rw [h2] at hX1
    have hc0 : c = 0 := by
      rcases h4 with rfl | rfl
      · rfl
      · rw [Int.one_mul] at h5; omega
    subst hc0
    refine ⟨cut X, ?_, ?_, by have := cut_length X; omega⟩
    · rw [if_neg hc, nnorm_f a (by omega), zOb, cut_f, zOb]
      unfold n_less.f
      rw [show ((0 : Nat) : Int) = 0 from rfl] at h1
      rw [h1, zOb, cut_f, zOb]
    · have := IsNum.cut h3
      rw [show val X = val a - val b by omega] at this
      exact this
/- A limb's weight. -/
/-- A limb's weight: a word of its own, so that no tactic reckons with the power. -/
@[irreducible] def Bp (n : Nat) : Int := (4294967296 : Int) ^ n
theorem Bp_succ (n : Nat) : Bp (n + 1) = Bp n * 4294967296 := by unfold Bp; exact Int.pow_succ 4294967296 n
theorem Bp_add (m n : Nat) : Bp (m + n) = Bp m * Bp n := by unfold Bp; exact Int.pow_add 4294967296 m n
theorem Bp_pos (n : Nat) : 0 < Bp n := by unfold Bp; exact Int.pow_pos (by decide)
theorem pow_upB {m n : Nat} (h : m ≤ n) : Bp m ≤ Bp n := by unfold Bp; exact pow_up h
theorem val_ltB {l : List Int} (h : Limbs l) : val l < Bp l.length := by unfold Bp; exact val_lt h
theorem val_geB {l : List Int} (h : Limbs l) (ht : Trim l) (hn : l ≠ []) : Bp (l.length - 1) ≤ val l := by unfold Bp; exact val_ge h ht hn
theorem Limbs.drop {l : List Int} (h : Limbs l) (n : Nat) : Limbs (l.drop n) := fun x hx => h x (List.mem_of_mem_drop hx)
theorem Limbs.append {a b : List Int} (ha : Limbs a) (hb : Limbs b) : Limbs (a ++ b) := fun x hx => by
  rcases List.mem_append.1 hx with h | h
  · exact ha x h
  · exact hb x h
theorem len_of_lt {l : List Int} {v : Int} {m : Nat} (h : IsNum l v) (hv : v < Bp m) : l.length ≤ m := by
  rcases Nat.lt_or_ge m l.length with hlt | hge
  · have h1 := val_geB h.limbs h.trim (by intro h0; rw [h0] at hlt; exact absurd hlt (by simp))
    have h2 : Bp m ≤ Bp (l.length - 1) := pow_upB (by omega)
    rw [h.eq] at h1
    omega
  · exact hge
theorem IsNum.nil : IsNum [] 0 := ⟨Limbs.nil, .inl rfl, rfl⟩

/-! ### integer_Sub: function 19 -/
def integer_Sub.f (k : Nat) (a0_0 : Bool) (l0_1 : List Int) (a1_0 : Bool) (l1_1 : List Int) : Option (Bool × List Int) := (integer_Neg.f a1_0 l1_1).bind fun bt885 => ((integer_Add.f k a0_0 l0_1 bt885.1 bt885.2).bind fun bt889 => (some (bt889.1, bt889.2)))
set_option maxHeartbeats 8000000 in
set_option maxRecDepth 100000 in
theorem integer_Sub.calls (k : Nat) (a0_0 : Bool) (A0_1 : Option Addr) (c0_1 : Nat) (l0_1 : List Int) (a1_0 : Bool) (A1_1 : Option Addr) (c1_1 : Nat) (l1_1 : List Int) (r1 : Bool) (r2 : List Int) (w : World) (hr0_1 : Kd.C (Kd.int .u32) w A0_1 l0_1.length l0_1) (hc0_1 : l0_1.length ≤ c0_1) (hr1_1 : Kd.C (Kd.int .u32) w A1_1 l1_1.length l1_1) (hc1_1 : l1_1.length ≤ c1_1) (h : integer_Sub.f k a0_0 l0_1 a1_0 l1_1 = some (r1, r2)) :
    Calls Tryd.prog 19 #[.agg #[.bool a0_0, .slice A0_1 l0_1.length c0_1], .agg #[.bool a1_0, .slice A1_1 l1_1.length c1_1]] w fun e w' => ∃ v1_ : Value, e = .returned (.agg #[.bool r1, v1_]) ∧ Kd.R (Kd.int .u32) 58 w' w.heap.size (fun _ => True) v1_ r2 ∧ Below w.heap.size w w' := by
  have hu24 := Tryd.underlying24
  have HR0_1 := zMk hr0_1
  have HC0_1 := zMk hc0_1
  clear hr0_1 hc0_1
  have HR1_1 := zMk hr1_1
  have HC1_1 := zMk hc1_1
  clear hr1_1 hc1_1
  have HB := zMk (Below.refl w.heap.size w)
  have H : ((integer_Neg.f a1_0 l1_1).bind fun bt885 => ((integer_Add.f k a0_0 l0_1 bt885.1 bt885.2).bind fun bt889 => (some (bt889.1, bt889.2)))) = some (r1, r2) := h
  clear h
  replace H := Option.bind_eq_some_iff.mp H
  obtain ⟨⟨t885, t886⟩, A30, H⟩ := H
  replace H : ((integer_Add.f k a0_0 l0_1 t885 t886).bind fun bt889 => (some (bt889.1, bt889.2))) = some (r1, r2) := H
  have A3 := zMk A30
  clear A30
  replace H := Option.bind_eq_some_iff.mp H
  obtain ⟨⟨t889, t890⟩, A40, H⟩ := H
  replace H : (some (t889, t890)) = some (r1, r2) := H
  have A4 := zMk A40
  clear A40
  simp only [Option.some.injEq, Prod.mk.injEq] at H
  obtain ⟨rfl, rfl⟩ := H
  go_enter Tryd.func19, Tryd.ntmps19
  try go_wp2_with (first | ((with_reducible refine gate_dst (N := 2) rfl ?_); refine box_event ?hg (N := 2) ?hd (cs := #[.bool a0_0, .slice A0_1 l0_1.length c0_1]) (t := 24) ?hr ?_; (case hd => rfl); (case hg => rfl); (case hr => first | (go_simp; done) | (go_simp; rfl) | (go_simp; rw [show ∀ x : Int, IntKind.u32.wrap (IntKind.u8.wrap x) = x % 256 from fun x => (by show (x % 256) % 4294967296 = x % 256; omega)])); intro gb882 hg w5 hbox hb; have n0_ := zMk (zBt (by repeat (first | (with_reducible first | exact HB.out | apply zBa | apply zBn | apply zBd) | exact HB.out)) hb); have n1_ := zMk (hbox); have n2_ := zMk ((by rw [hg]; exact (zBs (by repeat (first | (with_reducible first | exact HB.out | apply zBa | apply zBn | apply zBd) | exact HB.out))) : w.heap.size ≤ gb882)); have n3_ := zMk ((by rw [hg]; exact (zBs (by repeat (first | (with_reducible first | exact HB.out | apply zBa | apply zBn | apply zBd) | exact HB.out))) : w.heap.size ≤ gb882)); clear HB; have HB := n0_; have BK882 := n1_; have GW882 := n2_; have GE882 := n3_; clear n0_ n1_ n2_ n3_; clear hb hbox hg) | ((with_reducible refine gate_dst (N := 3) rfl ?_); refine box_event ?hg (N := 3) ?hd (cs := #[.bool a1_0, .slice A1_1 l1_1.length c1_1]) (t := 24) ?hr ?_; (case hd => rfl); (case hg => rfl); (case hr => first | (go_simp; done) | (go_simp; rfl) | (go_simp; rw [show ∀ x : Int, IntKind.u32.wrap (IntKind.u8.wrap x) = x % 256 from fun x => (by show (x % 256) % 4294967296 = x % 256; omega)])); intro gb883 hg w6 hbox hb; have n0_ := zMk (blk_below (g := gb882) (o := .cells #[.bool a0_0, .slice A0_1 l0_1.length c0_1] 24 (0, 0)) (by (with_reducible repeat (first | refine blk_drewN ?_ _ | refine blk_drew ?_ | refine blk_alloc ?_ _)); exact BK882.out) hb); have n1_ := zMk (zBt (by repeat (first | (with_reducible first | exact HB.out | apply zBa | apply zBn | apply zBd | refine below_set ?_ GE882.out) | exact HB.out)) hb); have n2_ := zMk (hbox); have n3_ := zMk ((by rw [hg]; exact (zBs (by repeat (first | (with_reducible first | exact HB.out | apply zBa | apply zBn | apply zBd | refine below_set ?_ GE882.out) | exact HB.out))) : w.heap.size ≤ gb883)); have n4_ := zMk ((by rw [hg]; exact (zBs (by repeat (first | (with_reducible first | exact HB.out | apply zBa | apply zBn | apply zBd | refine below_set ?_ GE882.out) | exact HB.out))) : w.heap.size ≤ gb883)); have n5_ := zMk ((by rw [hg]; exact Nat.ne_of_lt (blk_lt (g := gb882) (o := .cells #[.bool a0_0, .slice A0_1 l0_1.length c0_1] 24 (0, 0)) (by (with_reducible repeat (first | refine blk_drewN ?_ _ | refine blk_drew ?_ | refine blk_alloc ?_ _)); exact BK882.out)) : gb882 ≠ gb883)); have n6_ := zMk ((by rw [hg]; exact Nat.ne_of_gt (blk_lt (g := gb882) (o := .cells #[.bool a0_0, .slice A0_1 l0_1.length c0_1] 24 (0, 0)) (by (with_reducible repeat (first | refine blk_drewN ?_ _ | refine blk_drew ?_ | refine blk_alloc ?_ _)); exact BK882.out)) : gb883 ≠ gb882)); clear BK882; clear HB; have BK882 := n0_; have HB := n1_; have BK883 := n2_; have GW883 := n3_; have GE883 := n4_; have NB882_883 := n5_; have NB883_882 := n6_; clear n0_ n1_ n2_ n3_ n4_ n5_ n6_; clear hb hbox hg) | ((with_reducible refine gate_dst (N := 4) rfl ?_); refine box_event ?hg (N := 4) ?hd (cs := #[.bool false, .slice none 0 0]) (t := 24) ?hr ?_; (case hd => rfl); (case hg => rfl); (case hr => first | (go_simp; done) | (go_simp; rfl) | (go_simp; rw [show ∀ x : Int, IntKind.u32.wrap (IntKind.u8.wrap x) = x % 256 from fun x => (by show (x % 256) % 4294967296 = x % 256; omega)])); intro gb884 hg w7 hbox hb; have n0_ := zMk (blk_below (g := gb882) (o := .cells #[.bool a0_0, .slice A0_1 l0_1.length c0_1] 24 (0, 0)) (by (with_reducible repeat (first | refine blk_drewN ?_ _ | refine blk_drew ?_ | refine blk_alloc ?_ _)); exact BK882.out) hb); have n1_ := zMk (blk_below (g := gb883) (o := .cells #[.bool a1_0, .slice A1_1 l1_1.length c1_1] 24 (0, 0)) (by (with_reducible repeat (first | refine blk_drewN ?_ _ | refine blk_drew ?_ | refine blk_alloc ?_ _)); exact BK883.out) hb); have n2_ := zMk (zBt (by repeat (first | (with_reducible first | exact HB.out | apply zBa | apply zBn | apply zBd | refine below_set ?_ GE882.out | refine below_set ?_ GE883.out) | exact HB.out)) hb); have n3_ := zMk (hbox); have n4_ := zMk ((by rw [hg]; exact (zBs (by repeat (first | (with_reducible first | exact HB.out | apply zBa | apply zBn | apply zBd | refine below_set ?_ GE882.out | refine below_set ?_ GE883.out) | exact HB.out))) : w.heap.size ≤ gb884)); have n5_ := zMk ((by rw [hg]; exact (zBs (by repeat (first | (with_reducible first | exact HB.out | apply zBa | apply zBn | apply zBd | refine below_set ?_ GE882.out | refine below_set ?_ GE883.out) | exact HB.out))) : w.heap.size ≤ gb884)); have n6_ := zMk ((by rw [hg]; exact Nat.ne_of_lt (blk_lt (g := gb882) (o := .cells #[.bool a0_0, .slice A0_1 l0_1.length c0_1] 24 (0, 0)) (by (with_reducible repeat (first | refine blk_drewN ?_ _ | refine blk_drew ?_ | refine blk_alloc ?_ _)); exact BK882.out)) : gb882 ≠ gb884)); have n7_ := zMk ((by rw [hg]; exact Nat.ne_of_gt (blk_lt (g := gb882) (o := .cells #[.bool a0_0, .slice A0_1 l0_1.length c0_1] 24 (0, 0)) (by (with_reducible repeat (first | refine blk_drewN ?_ _ | refine blk_drew ?_ | refine blk_alloc ?_ _)); exact BK882.out)) : gb884 ≠ gb882)); have n8_ := zMk ((by rw [hg]; exact Nat.ne_of_lt (blk_lt (g := gb883) (o := .cells #[.bool a1_0, .slice A1_1 l1_1.length c1_1] 24 (0, 0)) (by (with_reducible repeat (first | refine blk_drewN ?_ _ | refine blk_drew ?_ | refine blk_alloc ?_ _)); exact BK883.out)) : gb883 ≠ gb884)); have n9_ := zMk ((by rw [hg]; exact Nat.ne_of_gt (blk_lt (g := gb883) (o := .cells #[.bool a1_0, .slice A1_1 l1_1.length c1_1] 24 (0, 0)) (by (with_reducible repeat (first | refine blk_drewN ?_ _ | refine blk_drew ?_ | refine blk_alloc ?_ _)); exact BK883.out)) : gb884 ≠ gb883)); clear BK882; clear BK883; clear HB; have BK882 := n0_; have BK883 := n1_; have HB := n2_; have BK884 := n3_; have GW884 := n4_; have GE884 := n5_; have NB882_884 := n6_; have NB884_882 := n7_; have NB883_884 := n8_; have NB884_883 := n9_; clear n0_ n1_ n2_ n3_ n4_ n5_ n6_ n7_ n8_ n9_; clear hb hbox hg))
  have n0_ := zMk (blk_drew BK882.out)
  have n1_ := zMk (blk_drew BK883.out)
  have n2_ := zMk (blk_drew BK884.out)
  have n3_ := zMk (zBd HB.out)
  clear BK882
  clear BK883
  clear BK884
  clear HB
  have BK882 := n0_
  have BK883 := n1_
  have BK884 := n2_
  have HB := n3_
  clear n0_ n1_ n2_ n3_
  refine start_ (n := 5) (S := fun w' => w'.cell? ⟨gb882, 0, none⟩ = some (.bool a0_0) ∧ w'.cell? ⟨gb882, 1, none⟩ = some (.slice A0_1 l0_1.length c0_1) ∧ w'.cell? ⟨gb883, 0, none⟩ = some (.bool a1_0) ∧ w'.cell? ⟨gb883, 1, none⟩ = some (.slice A1_1 l1_1.length c1_1)) (ds := []) #[false, false, false, false, false] (by kernel_rfl) rfl rfl ⟨(blk_cell BK882.out 0).trans rfl, (blk_cell BK882.out 1).trans rfl, (blk_cell BK883.out 0).trans rfl, (blk_cell BK883.out 1).trans rfl⟩ (fun hHeld => ?_)
  generalize w7.drew = w8 at BK882 BK883 BK884 HB hHeld ⊢
  refine take_ (i := 0) (N := some 5) (v := ?_) (a' := ?_) #[true, false, false, false, false] rfl rfl (by kernel_rfl) (fun _ _ _ h => h) (Or.inl ⟨by rfl, ?_⟩) hHeld ?_ ?_
  rotate_left
  · rintro w' ⟨s0, s1, s2, s3⟩
    go_simp
    with_reducible rfl
  rotate_left
  · simp only [Act.put, zSa, zSb, zSc, i64_w, i32_w]
    rfl
  refine take_ (i := 1) (N := some 6) (v := ?_) (a' := ?_) #[true, true, false, false, false] rfl rfl (by kernel_rfl) (fun _ _ _ h => h) (Or.inl ⟨by rfl, ?_⟩) hHeld ?_ ?_
  rotate_left
  · rintro w' ⟨s0, s1, s2, s3⟩
    go_simp
    with_reducible rfl
  rotate_left
  · simp only [Act.put, zSa, zSb, zSc, i64_w, i32_w]
    rfl
  refine one_ (i := 2) (N := some 7) #[true, true, true, false, false] rfl rfl (by kernel_rfl) (by decide) (fun K hK => ?_)
  refine goes_ Tryd.func23 (by kernel_rfl) rfl #[.agg #[.bool a1_0, .slice A1_1 l1_1.length c1_1]] (by rfl) rfl rfl (by (try simp only [List.map_toArray, List.map_cons, List.map_nil]); first | done | rfl | (simp only [zLd, zLt]; rfl)) ?_
  with_reducible refine (integer_Neg.calls a1_0 _ _ l1_1 t885 t886 _ ?side1 ?side2 A3.out).mono ?_
  (case side1 => repeat (first | exact (Kd.C_below HR1_1.out HB.out) | (with_reducible refine zCa ?_ _) | (with_reducible refine zCn ?_ _) | (with_reducible refine zCd ?_)))
  (case side2 => exact HC1_1.out)
  rintro e w9 ⟨v887, rfl, ho0, hb⟩
  refine ⟨_, rfl, ?_⟩
  have n0_ := zMk (Kd.R_lower ho0 (zBs (by repeat (first | (with_reducible first | exact HB.out | apply zBa | apply zBn | apply zBd | refine below_set ?_ GE882.out | refine below_set ?_ GE883.out | refine below_set ?_ GE884.out) | exact HB.out))))
  have n1_ := zMk (blk_below (g := gb882) (o := .cells #[.bool a0_0, .slice A0_1 l0_1.length c0_1] 24 (0, 0)) (by (with_reducible repeat (first | refine blk_drewN ?_ _ | refine blk_drew ?_ | refine blk_alloc ?_ _)); exact BK882.out) hb)
  have n2_ := zMk (blk_below (g := gb883) (o := .cells #[.bool a1_0, .slice A1_1 l1_1.length c1_1] 24 (0, 0)) (by (with_reducible repeat (first | refine blk_drewN ?_ _ | refine blk_drew ?_ | refine blk_alloc ?_ _)); exact BK883.out) hb)
  have n3_ := zMk (blk_below (g := gb884) (o := .cells #[.bool false, .slice none 0 0] 24 (0, 0)) (by (with_reducible repeat (first | refine blk_drewN ?_ _ | refine blk_drew ?_ | refine blk_alloc ?_ _)); exact BK884.out) hb)
  have n4_ := zMk (zBt (by repeat (first | (with_reducible first | exact HB.out | apply zBa | apply zBn | apply zBd | refine below_set ?_ GE882.out | refine below_set ?_ GE883.out | refine below_set ?_ GE884.out) | exact HB.out)) hb)
  clear BK882
  clear BK883
  clear BK884
  clear HB
  have HO888 := n0_
  have BK882 := n1_
  have BK883 := n2_
  have BK884 := n3_
  have HB := n4_
  clear n0_ n1_ n2_ n3_ n4_
  (try clear hb)
  (try clear hb2)
  (try clear hk)
  (try clear hi)
  (try clear ho0)
  obtain ⟨Ao10, co10, eo10⟩ := Kd.R_slice HO888.out
  (first | subst eo10 | (injection eo10 with f1_ f2_ f3_; have f4_ := f1_.symm; have f5_ := f3_.symm; clear f1_ f2_ f3_; subst f4_; subst f5_))
  refine hK.out _ _ ⟨(blk_cell BK882.out 0).trans rfl, (blk_cell BK882.out 1).trans rfl, (blk_cell BK883.out 0).trans rfl, (blk_cell BK883.out 1).trans rfl⟩ (fun hHeld => ?_)
  clear hK K
  refine norm_ (a' := ?_) ?_ ?_
  rotate_left
  · show Act.put _ (some 7) _ = _
    simp only [Act.put, zSa, zSb, zSc, i64_w, i32_w]
    rfl
  refine one_ (i := 3) (N := some 8) #[true, true, true, true, false] rfl rfl (by kernel_rfl) (by decide) (fun K hK => ?_)
  refine goes_ Tryd.func17 (by kernel_rfl) rfl #[.agg #[.bool a0_0, .slice A0_1 l0_1.length c0_1], .agg #[.bool t885, .slice Ao10 t886.length co10]] (by rfl) rfl rfl (by (try simp only [List.map_toArray, List.map_cons, List.map_nil]); first | done | rfl | (simp only [zLd, zLt]; rfl)) ?_
  with_reducible refine (integer_Add.calls k a0_0 _ _ l0_1 t885 _ _ t886 t889 t890 _ ?side1 ?side2 ?side3 ?side4 A4.out).mono ?_
  (case side1 => repeat (first | exact (Kd.C_below HR0_1.out HB.out) | (with_reducible refine zCa ?_ _) | (with_reducible refine zCn ?_ _) | (with_reducible refine zCd ?_)))
  (case side2 => exact HC0_1.out)
  (case side3 => repeat (first | exact (Kd.R_reads' HO888.out).2.2 | (with_reducible refine zCa ?_ _) | (with_reducible refine zCn ?_ _) | (with_reducible refine zCd ?_)))
  (case side4 => exact (Kd.R_reads' HO888.out).2.1)
  rintro e w11 ⟨v891, rfl, ho0, hb⟩
  refine ⟨_, rfl, ?_⟩
  have n0_ := zMk (Kd.R_elder' (by (with_reducible repeat (first | apply zRa | apply zRn | apply zRd)); exact HO888.out) (Kd.R_base ho0) hb)
  have n1_ := zMk (Kd.R_lower (Kd.R_new' ho0 (Kd.R_lt (by (with_reducible repeat (first | apply zRa | apply zRn | apply zRd)); exact HO888.out))) (zBs (by repeat (first | (with_reducible first | exact HB.out | apply zBa | apply zBn | apply zBd | refine below_set ?_ GE882.out | refine below_set ?_ GE883.out | refine below_set ?_ GE884.out) | exact HB.out))))
  have n2_ := zMk (blk_below (g := gb882) (o := .cells #[.bool a0_0, .slice A0_1 l0_1.length c0_1] 24 (0, 0)) (by (with_reducible repeat (first | refine blk_drewN ?_ _ | refine blk_drew ?_ | refine blk_alloc ?_ _)); exact BK882.out) hb)
  have n3_ := zMk (blk_below (g := gb883) (o := .cells #[.bool a1_0, .slice A1_1 l1_1.length c1_1] 24 (0, 0)) (by (with_reducible repeat (first | refine blk_drewN ?_ _ | refine blk_drew ?_ | refine blk_alloc ?_ _)); exact BK883.out) hb)
  have n4_ := zMk (blk_below (g := gb884) (o := .cells #[.bool false, .slice none 0 0] 24 (0, 0)) (by (with_reducible repeat (first | refine blk_drewN ?_ _ | refine blk_drew ?_ | refine blk_alloc ?_ _)); exact BK884.out) hb)
  have n5_ := zMk (zBt (by repeat (first | (with_reducible first | exact HB.out | apply zBa | apply zBn | apply zBd | refine below_set ?_ GE882.out | refine below_set ?_ GE883.out | refine below_set ?_ GE884.out) | exact HB.out)) hb)
  clear HO888
  clear BK882
  clear BK883
  clear BK884
  clear HB
  have HO888 := n0_
  have HO892 := n1_
  have BK882 := n2_
  have BK883 := n3_
  have BK884 := n4_
  have HB := n5_
  clear n0_ n1_ n2_ n3_ n4_ n5_
  (try clear hb)
  (try clear hb2)
  (try clear hk)
  (try clear hi)
  (try clear ho0)
  obtain ⟨Ao13, co13, eo13⟩ := Kd.R_slice HO892.out
  (first | subst eo13 | (injection eo13 with f1_ f2_ f3_; have f4_ := f1_.symm; have f5_ := f3_.symm; clear f1_ f2_ f3_; subst f4_; subst f5_))
  refine hK.out _ _ ⟨(blk_cell BK882.out 0).trans rfl, (blk_cell BK882.out 1).trans rfl, (blk_cell BK883.out 0).trans rfl, (blk_cell BK883.out 1).trans rfl⟩ (fun hHeld => ?_)
  clear hK K
  refine norm_ (a' := ?_) ?_ ?_
  rotate_left
  · show Act.put _ (some 8) _ = _
    simp only [Act.put, zSa, zSb, zSc, i64_w, i32_w]
    rfl
  refine one_ (i := 4) (N := none) #[true, true, true, true, true] rfl rfl (by kernel_rfl) (by decide) (fun K hK => ?_)
  have hs12 : w11.cell? ⟨gb884, 0, none⟩ = some (.bool false) := (blk_cell BK884.out 0).trans rfl
  have hfs12 := blk_frozen BK884.out 0
  have hns12_0 := NB882_884.out
  have hns12_1 := NB883_884.out
  have hms12_0 := NB884_882.out
  have hms12_1 := NB884_883.out
  have hs14 : w11.cell? ⟨gb884, 1, none⟩ = some (.slice none 0 0) := (blk_cell BK884.out 1).trans rfl
  have hfs14 := blk_frozen BK884.out 1
  have hns14_0 := NB882_884.out
  have hns14_1 := NB883_884.out
  have hms14_0 := NB884_882.out
  have hms14_1 := NB884_883.out
  refine skip_ (w1 := ?_) (by rfl) rfl ?_ ?_
  rotate_left
  · go_simp
    rfl
  refine hK.out _ _ ⟨((cell_far (p := ⟨gb884, _, none⟩) NB882_884.out _).trans (((cell_far (p := ⟨gb884, _, none⟩) NB882_884.out _).trans (hHeld.1)))), ((cell_far (p := ⟨gb884, _, none⟩) NB882_884.out _).trans (((cell_far (p := ⟨gb884, _, none⟩) NB882_884.out _).trans (hHeld.2.1)))), ((cell_far (p := ⟨gb884, _, none⟩) NB883_884.out _).trans (((cell_far (p := ⟨gb884, _, none⟩) NB883_884.out _).trans (hHeld.2.2.1)))), ((cell_far (p := ⟨gb884, _, none⟩) NB883_884.out _).trans (((cell_far (p := ⟨gb884, _, none⟩) NB883_884.out _).trans (hHeld.2.2.2))))⟩ (fun hHeld => ?_)
  clear hK K
  refine done_ (by kernel_rfl) ?_
  try go_wp2
  refine bodyPost_ret (results_cell_row rfl _ _ gb884 24 #[.bool t889, .slice Ao13 t890.length co13] (0, 0) _ rfl (by (with_reducible repeat (first | refine blk_drewN ?_ _ | refine blk_drew ?_ | refine blk_alloc ?_ _)); refine blk_put (cs := #[.bool t889, .slice none 0 0]) ?_ 1 _ rfl; (with_reducible repeat (first | refine blk_drewN ?_ _ | refine blk_drew ?_ | refine blk_alloc ?_ _)); refine blk_put (cs := #[.bool false, .slice none 0 0]) ?_ 0 _ rfl; (with_reducible repeat (first | refine blk_drewN ?_ _ | refine blk_drew ?_ | refine blk_alloc ?_ _)); exact BK884.out) Tryd.underlying24 rfl (by kernel_rfl)) rfl ?_
  exact ⟨_, by first | rfl | (simp [errW_none, errW_some] <;> rfl) | (simp [*, errW_none, errW_some] <;> rfl), by (with_reducible repeat (first | apply zRa | apply zRn | apply zRd)); exact zRm (Kd.R_far (p := ⟨gb884, 1, none⟩) (Kd.R_far (p := ⟨gb884, 0, none⟩) (Kd.R_types HO892.out BK884.out (by decide)) (fun _ hk => hk.2) (.bool t889)) (fun _ hk => hk.2) (.slice Ao13 t890.length co13)) (fun _ hk => trivial), by repeat (first | (with_reducible first | exact HB.out | apply zBa | apply zBn | apply zBd | refine below_set ?_ GE882.out | refine below_set ?_ GE883.out | refine below_set ?_ GE884.out) | exact HB.out)⟩


/-! ### integer_Mul: function 21 -/
def integer_Mul.f (k : Nat) (a0_0 : Bool) (l0_1 : List Int) (a1_0 : Bool) (l1_1 : List Int) : Option (Bool × List Int) := (n_Mul.f k l0_1 l1_1).bind fun t496 => ((integer_signed.f (a0_0 != a1_0) t496).bind fun bt499 => (some (bt499.1, bt499.2)))
def integer_Mul.T1 : Bool × List (List Nat × List Nat) := (true, [([], []), ([0], [0]), ([], []), ([2], [2]), ([1, 3], [1, 3]), ([], []), ([5], [5]), ([], []), ([7], [7]), ([6, 8], [6, 8]), ([4, 9, 9], [4, 9]), ([10, 10, 0, 1, 2, 3, 4, 5, 6, 7, 8, 9, 10], [10])])
def integer_Mul.B1 : List Nat := [0, 1, 0, 4, 15, 0, 32, 0, 128, 480, 1023, 2047]
theorem integer_Mul.tab1 : rtab .any (opsOf Tryd.f21 1) = integer_Mul.T1 := by kernel_rfl
theorem integer_Mul.bits1 : waitsOk integer_Mul.T1.2 integer_Mul.B1 = true := by kernel_rfl
set_option maxHeartbeats 8000000 in
set_option maxRecDepth 100000 in
theorem integer_Mul.calls (k : Nat) (a0_0 : Bool) (A0_1 : Option Addr) (c0_1 : Nat) (l0_1 : List Int) (a1_0 : Bool) (A1_1 : Option Addr) (c1_1 : Nat) (l1_1 : List Int) (r1 : Bool) (r2 : List Int) (w : World) (hr0_1 : Kd.C (Kd.int .u32) w A0_1 l0_1.length l0_1) (hc0_1 : l0_1.length ≤ c0_1) (hr1_1 : Kd.C (Kd.int .u32) w A1_1 l1_1.length l1_1) (hc1_1 : l1_1.length ≤ c1_1) (h : integer_Mul.f k a0_0 l0_1 a1_0 l1_1 = some (r1, r2)) :
    Calls Tryd.prog 21 #[.agg #[.bool a0_0, .slice A0_1 l0_1.length c0_1], .agg #[.bool a1_0, .slice A1_1 l1_1.length c1_1]] w fun e w' => ∃ v1_ : Value, e = .returned (.agg #[.bool r1, v1_]) ∧ Kd.R (Kd.int .u32) 58 w' w.heap.size (fun _ => True) v1_ r2 ∧ Below w.heap.size w w' := by
  have hu24 := Tryd.underlying24
  have HR0_1 := zMk hr0_1
  have HC0_1 := zMk hc0_1
  clear hr0_1 hc0_1
  have HR1_1 := zMk hr1_1
  have HC1_1 := zMk hc1_1
  clear hr1_1 hc1_1
  have HB := zMk (Below.refl w.heap.size w)
  have H : ((n_Mul.f k l0_1 l1_1).bind fun t496 => ((integer_signed.f (a0_0 != a1_0) t496).bind fun bt499 => (some (bt499.1, bt499.2)))) = some (r1, r2) := h
  clear h
  replace H := Option.bind_eq_some_iff.mp H
  obtain ⟨t496, A30, H⟩ := H
  have A3 := zMk A30
  clear A30
  replace H := Option.bind_eq_some_iff.mp H
  obtain ⟨⟨t499, t500⟩, A40, H⟩ := H
  replace H : (some (t499, t500)) = some (r1, r2) := H
  have A4 := zMk A40
  clear A40
  simp only [Option.some.injEq, Prod.mk.injEq] at H
  obtain ⟨rfl, rfl⟩ := H
  go_enter Tryd.func21, Tryd.ntmps21
  try go_wp2_with (first | ((with_reducible refine gate_dst (N := 2) rfl ?_); refine box_event ?hg (N := 2) ?hd (cs := #[.bool a0_0, .slice A0_1 l0_1.length c0_1]) (t := 24) ?hr ?_; (case hd => rfl); (case hg => rfl); (case hr => first | (go_simp; done) | (go_simp; rfl) | (go_simp; rw [show ∀ x : Int, IntKind.u32.wrap (IntKind.u8.wrap x) = x % 256 from fun x => (by show (x % 256) % 4294967296 = x % 256; omega)])); intro gb493 hg w5 hbox hb; have n0_ := zMk (zBt (by repeat (first | (with_reducible first | exact HB.out | apply zBa | apply zBn | apply zBd) | exact HB.out)) hb); have n1_ := zMk (hbox); have n2_ := zMk ((by rw [hg]; exact (zBs (by repeat (first | (with_reducible first | exact HB.out | apply zBa | apply zBn | apply zBd) | exact HB.out))) : w.heap.size ≤ gb493)); have n3_ := zMk ((by rw [hg]; exact (zBs (by repeat (first | (with_reducible first | exact HB.out | apply zBa | apply zBn | apply zBd) | exact HB.out))) : w.heap.size ≤ gb493)); clear HB; have HB := n0_; have BK493 := n1_; have GW493 := n2_; have GE493 := n3_; clear n0_ n1_ n2_ n3_; clear hb hbox hg) | ((with_reducible refine gate_dst (N := 3) rfl ?_); refine box_event ?hg (N := 3) ?hd (cs := #[.bool a1_0, .slice A1_1 l1_1.length c1_1]) (t := 24) ?hr ?_; (case hd => rfl); (case hg => rfl); (case hr => first | (go_simp; done) | (go_simp; rfl) | (go_simp; rw [show ∀ x : Int, IntKind.u32.wrap (IntKind.u8.wrap x) = x % 256 from fun x => (by show (x % 256) % 4294967296 = x % 256; omega)])); intro gb494 hg w6 hbox hb; have n0_ := zMk (blk_below (g := gb493) (o := .cells #[.bool a0_0, .slice A0_1 l0_1.length c0_1] 24 (0, 0)) (by (with_reducible repeat (first | refine blk_drewN ?_ _ | refine blk_drew ?_ | refine blk_alloc ?_ _)); exact BK493.out) hb); have n1_ := zMk (zBt (by repeat (first | (with_reducible first | exact HB.out | apply zBa | apply zBn | apply zBd | refine below_set ?_ GE493.out) | exact HB.out)) hb); have n2_ := zMk (hbox); have n3_ := zMk ((by rw [hg]; exact (zBs (by repeat (first | (with_reducible first | exact HB.out | apply zBa | apply zBn | apply zBd | refine below_set ?_ GE493.out) | exact HB.out))) : w.heap.size ≤ gb494)); have n4_ := zMk ((by rw [hg]; exact (zBs (by repeat (first | (with_reducible first | exact HB.out | apply zBa | apply zBn | apply zBd | refine below_set ?_ GE493.out) | exact HB.out))) : w.heap.size ≤ gb494)); have n5_ := zMk ((by rw [hg]; exact Nat.ne_of_lt (blk_lt (g := gb493) (o := .cells #[.bool a0_0, .slice A0_1 l0_1.length c0_1] 24 (0, 0)) (by (with_reducible repeat (first | refine blk_drewN ?_ _ | refine blk_drew ?_ | refine blk_alloc ?_ _)); exact BK493.out)) : gb493 ≠ gb494)); have n6_ := zMk ((by rw [hg]; exact Nat.ne_of_gt (blk_lt (g := gb493) (o := .cells #[.bool a0_0, .slice A0_1 l0_1.length c0_1] 24 (0, 0)) (by (with_reducible repeat (first | refine blk_drewN ?_ _ | refine blk_drew ?_ | refine blk_alloc ?_ _)); exact BK493.out)) : gb494 ≠ gb493)); clear BK493; clear HB; have BK493 := n0_; have HB := n1_; have BK494 := n2_; have GW494 := n3_; have GE494 := n4_; have NB493_494 := n5_; have NB494_493 := n6_; clear n0_ n1_ n2_ n3_ n4_ n5_ n6_; clear hb hbox hg) | ((with_reducible refine gate_dst (N := 4) rfl ?_); refine box_event ?hg (N := 4) ?hd (cs := #[.bool false, .slice none 0 0]) (t := 24) ?hr ?_; (case hd => rfl); (case hg => rfl); (case hr => first | (go_simp; done) | (go_simp; rfl) | (go_simp; rw [show ∀ x : Int, IntKind.u32.wrap (IntKind.u8.wrap x) = x % 256 from fun x => (by show (x % 256) % 4294967296 = x % 256; omega)])); intro gb495 hg w7 hbox hb; have n0_ := zMk (blk_below (g := gb493) (o := .cells #[.bool a0_0, .slice A0_1 l0_1.length c0_1] 24 (0, 0)) (by (with_reducible repeat (first | refine blk_drewN ?_ _ | refine blk_drew ?_ | refine blk_alloc ?_ _)); exact BK493.out) hb); have n1_ := zMk (blk_below (g := gb494) (o := .cells #[.bool a1_0, .slice A1_1 l1_1.length c1_1] 24 (0, 0)) (by (with_reducible repeat (first | refine blk_drewN ?_ _ | refine blk_drew ?_ | refine blk_alloc ?_ _)); exact BK494.out) hb); have n2_ := zMk (zBt (by repeat (first | (with_reducible first | exact HB.out | apply zBa | apply zBn | apply zBd | refine below_set ?_ GE493.out | refine below_set ?_ GE494.out) | exact HB.out)) hb); have n3_ := zMk (hbox); have n4_ := zMk ((by rw [hg]; exact (zBs (by repeat (first | (with_reducible first | exact HB.out | apply zBa | apply zBn | apply zBd | refine below_set ?_ GE493.out | refine below_set ?_ GE494.out) | exact HB.out))) : w.heap.size ≤ gb495)); have n5_ := zMk ((by rw [hg]; exact (zBs (by repeat (first | (with_reducible first | exact HB.out | apply zBa | apply zBn | apply zBd | refine below_set ?_ GE493.out | refine below_set ?_ GE494.out) | exact HB.out))) : w.heap.size ≤ gb495)); have n6_ := zMk ((by rw [hg]; exact Nat.ne_of_lt (blk_lt (g := gb493) (o := .cells #[.bool a0_0, .slice A0_1 l0_1.length c0_1] 24 (0, 0)) (by (with_reducible repeat (first | refine blk_drewN ?_ _ | refine blk_drew ?_ | refine blk_alloc ?_ _)); exact BK493.out)) : gb493 ≠ gb495)); have n7_ := zMk ((by rw [hg]; exact Nat.ne_of_gt (blk_lt (g := gb493) (o := .cells #[.bool a0_0, .slice A0_1 l0_1.length c0_1] 24 (0, 0)) (by (with_reducible repeat (first | refine blk_drewN ?_ _ | refine blk_drew ?_ | refine blk_alloc ?_ _)); exact BK493.out)) : gb495 ≠ gb493)); have n8_ := zMk ((by rw [hg]; exact Nat.ne_of_lt (blk_lt (g := gb494) (o := .cells #[.bool a1_0, .slice A1_1 l1_1.length c1_1] 24 (0, 0)) (by (with_reducible repeat (first | refine blk_drewN ?_ _ | refine blk_drew ?_ | refine blk_alloc ?_ _)); exact BK494.out)) : gb494 ≠ gb495)); have n9_ := zMk ((by rw [hg]; exact Nat.ne_of_gt (blk_lt (g := gb494) (o := .cells #[.bool a1_0, .slice A1_1 l1_1.length c1_1] 24 (0, 0)) (by (with_reducible repeat (first | refine blk_drewN ?_ _ | refine blk_drew ?_ | refine blk_alloc ?_ _)); exact BK494.out)) : gb495 ≠ gb494)); clear BK493; clear BK494; clear HB; have BK493 := n0_; have BK494 := n1_; have HB := n2_; have BK495 := n3_; have GW495 := n4_; have GE495 := n5_; have NB493_495 := n6_; have NB495_493 := n7_; have NB494_495 := n8_; have NB495_494 := n9_; clear n0_ n1_ n2_ n3_ n4_ n5_ n6_ n7_ n8_ n9_; clear hb hbox hg))
  have n0_ := zMk (blk_drew BK493.out)
  have n1_ := zMk (blk_drew BK494.out)
  have n2_ := zMk (blk_drew BK495.out)
  have n3_ := zMk (zBd HB.out)
  clear BK493
  clear BK494
  clear BK495
  clear HB
  have BK493 := n0_
  have BK494 := n1_
  have BK495 := n2_
  have HB := n3_
  clear n0_ n1_ n2_ n3_
  refine start_ (n := 12) (S := fun w' => w'.cell? ⟨gb493, 0, none⟩ = some (.bool a0_0) ∧ w'.cell? ⟨gb493, 1, none⟩ = some (.slice A0_1 l0_1.length c0_1) ∧ w'.cell? ⟨gb494, 0, none⟩ = some (.bool a1_0) ∧ w'.cell? ⟨gb494, 1, none⟩ = some (.slice A1_1 l1_1.length c1_1)) (ds := []) #[false, false, false, false, false, false, false, false, false, false, false, false] (by kernel_rfl) rfl rfl ⟨(blk_cell BK493.out 0).trans rfl, (blk_cell BK493.out 1).trans rfl, (blk_cell BK494.out 0).trans rfl, (blk_cell BK494.out 1).trans rfl⟩ (fun hHeld => ?_); refine with_tabW integer_Mul.tab1 integer_Mul.bits1 (fun HT_ HW_ => ?_)
  generalize w7.drew = w8 at BK493 BK494 BK495 HB hHeld ⊢
  refine pure_ (i := 0) (N := some 5) (v := ?_) (a' := ?_) #[true, false, false, false, false, false, false, false, false, false, false, false] rfl rfl (any_of HT_.out (by kernel_rfl)) (fun _ _ _ h => h) (Or.inl ⟨by rfl, ?_⟩) ?_ ?_
  rotate_left
  · intro w'
    go_simp
    with_reducible rfl
  rotate_left
  · simp only [Act.put, zSa, zSb, zSc, i64_w, i32_w]
    rfl
  refine pure_ (i := 2) (N := some 7) (v := ?_) (a' := ?_) #[true, false, true, false, false, false, false, false, false, false, false, false] rfl rfl (any_of HT_.out (by kernel_rfl)) (fun _ _ _ h => h) (Or.inl ⟨by rfl, ?_⟩) ?_ ?_
  rotate_left
  · intro w'
    go_simp
    with_reducible rfl
  rotate_left
  · simp only [Act.put, zSa, zSb, zSc, i64_w, i32_w]
    rfl
  refine pure_ (i := 5) (N := some 10) (v := ?_) (a' := ?_) #[true, false, true, false, false, true, false, false, false, false, false, false] rfl rfl (any_of HT_.out (by kernel_rfl)) (fun _ _ _ h => h) (Or.inl ⟨by rfl, ?_⟩) ?_ ?_
  rotate_left
  · intro w'
    go_simp
    with_reducible rfl
  rotate_left
  · simp only [Act.put, zSa, zSb, zSc, i64_w, i32_w]
    rfl
  refine pure_ (i := 7) (N := some 12) (v := ?_) (a' := ?_) #[true, false, true, false, false, true, false, true, false, false, false, false] rfl rfl (any_of HT_.out (by kernel_rfl)) (fun _ _ _ h => h) (Or.inl ⟨by rfl, ?_⟩) ?_ ?_
  rotate_left
  · intro w'
    go_simp
    with_reducible rfl
  rotate_left
  · simp only [Act.put, zSa, zSb, zSc, i64_w, i32_w]
    rfl
  refine take_ (i := 1) (N := some 6) (v := ?_) (a' := ?_) #[true, true, true, false, false, true, false, true, false, false, false, false] rfl rfl (take_ofW HT_.out HW_.out (by kernel_rfl)) (fun _ _ _ h => h) (Or.inl ⟨by rfl, ?_⟩) hHeld ?_ ?_
  rotate_left
  · rintro w' ⟨s0, s1, s2, s3⟩
    go_simp
    with_reducible rfl
  rotate_left
  · simp only [Act.put, zSa, zSb, zSc, i64_w, i32_w]
    rfl
  refine take_ (i := 3) (N := some 8) (v := ?_) (a' := ?_) #[true, true, true, true, false, true, false, true, false, false, false, false] rfl rfl (take_ofW HT_.out HW_.out (by kernel_rfl)) (fun _ _ _ h => h) (Or.inl ⟨by rfl, ?_⟩) hHeld ?_ ?_
  rotate_left
  · rintro w' ⟨s0, s1, s2, s3⟩
    go_simp
    with_reducible rfl
  rotate_left
  · simp only [Act.put, zSa, zSb, zSc, i64_w, i32_w]
    rfl
  refine pure_ (i := 4) (N := some 9) (v := ?_) (a' := ?_) #[true, true, true, true, true, true, false, true, false, false, false, false] rfl rfl (any_of HT_.out (by kernel_rfl)) (fun _ _ _ h => h) (Or.inl ⟨by rfl, ?_⟩) ?_ ?_
  rotate_left
  · intro w'
    go_simp
    with_reducible rfl
  rotate_left
  · simp only [Act.put, zSa, zSb, zSc, i64_w, i32_w]
    rfl
  refine take_ (i := 6) (N := some 11) (v := ?_) (a' := ?_) #[true, true, true, true, true, true, true, true, false, false, false, false] rfl rfl (take_ofW HT_.out HW_.out (by kernel_rfl)) (fun _ _ _ h => h) (Or.inl ⟨by rfl, ?_⟩) hHeld ?_ ?_
  rotate_left
  · rintro w' ⟨s0, s1, s2, s3⟩
    go_simp
    with_reducible rfl
  rotate_left
  · simp only [Act.put, zSa, zSb, zSc, i64_w, i32_w]
    rfl
  refine take_ (i := 8) (N := some 13) (v := ?_) (a' := ?_) #[true, true, true, true, true, true, true, true, true, false, false, false] rfl rfl (take_ofW HT_.out HW_.out (by kernel_rfl)) (fun _ _ _ h => h) (Or.inl ⟨by rfl, ?_⟩) hHeld ?_ ?_
  rotate_left
  · rintro w' ⟨s0, s1, s2, s3⟩
    go_simp
    with_reducible rfl
  rotate_left
  · simp only [Act.put, zSa, zSb, zSc, i64_w, i32_w]
    rfl
  refine one_ (i := 9) (N := some 14) #[true, true, true, true, true, true, true, true, true, true, false, false] rfl rfl (one_of HT_.out (by kernel_rfl)) (by decide) (fun K hK => ?_)
  refine goes_ Tryd.func45 (by kernel_rfl) rfl #[.slice A0_1 l0_1.length c0_1, .slice A1_1 l1_1.length c1_1] (by rfl) rfl rfl (by (try simp only [List.map_toArray, List.map_cons, List.map_nil]); first | done | rfl | (simp only [zLd, zLt]; rfl)) ?_
  with_reducible refine (n_Mul.calls k (fun k_ => k_ < w.heap.size) _ _ l0_1 (fun k_ => k_ < w.heap.size) _ _ l1_1 t496 _ ?side1 ?side2 A3.out).mono ?_
  (case side1 => exact Kd.V_mk HC0_1.out (Kd.F_below (Kd.C_F (Kd.heap_int .u32) HR0_1.out) (by repeat (first | (with_reducible first | exact HB.out | apply zBa | apply zBn | apply zBd | refine below_set ?_ GE493.out | refine below_set ?_ GE494.out | refine below_set ?_ GE495.out) | exact HB.out))))
  (case side2 => exact Kd.V_mk HC1_1.out (Kd.F_below (Kd.C_F (Kd.heap_int .u32) HR1_1.out) (by repeat (first | (with_reducible first | exact HB.out | apply zBa | apply zBn | apply zBd | refine below_set ?_ GE493.out | refine below_set ?_ GE494.out | refine below_set ?_ GE495.out) | exact HB.out))))
  rintro e w9 ⟨v497, rfl, ho0, hb⟩
  refine ⟨_, rfl, ?_⟩
  have n0_ := zMk (Kd.V_lower (zVm (ok' := fun k_ => k_ ≠ gb493 ∧ k_ ≠ gb494 ∧ k_ ≠ gb495) ho0 (fun k_ hk_ => ⟨Or.elim hk_ (fun hs_ => Or.elim hs_ (fun hs_ => fun e_ => Nat.not_le.2 hs_ (by rw [e_]; exact GW493.out)) (fun hs_ => fun e_ => Nat.not_le.2 hs_ (by rw [e_]; exact GW493.out))) (fun hn_ => (Kd.freshB (g := gb493) (o := .cells #[.bool a0_0, .slice A0_1 l0_1.length c0_1] 24 (0, 0)) (by (with_reducible repeat (first | refine blk_drewN ?_ _ | refine blk_drew ?_ | refine blk_alloc ?_ _)); exact BK493.out) k_ hn_)), Or.elim hk_ (fun hs_ => Or.elim hs_ (fun hs_ => fun e_ => Nat.not_le.2 hs_ (by rw [e_]; exact GW494.out)) (fun hs_ => fun e_ => Nat.not_le.2 hs_ (by rw [e_]; exact GW494.out))) (fun hn_ => (Kd.freshB (g := gb494) (o := .cells #[.bool a1_0, .slice A1_1 l1_1.length c1_1] 24 (0, 0)) (by (with_reducible repeat (first | refine blk_drewN ?_ _ | refine blk_drew ?_ | refine blk_alloc ?_ _)); exact BK494.out) k_ hn_)), Or.elim hk_ (fun hs_ => Or.elim hs_ (fun hs_ => fun e_ => Nat.not_le.2 hs_ (by rw [e_]; exact GW495.out)) (fun hs_ => fun e_ => Nat.not_le.2 hs_ (by rw [e_]; exact GW495.out))) (fun hn_ => (Kd.freshB (g := gb495) (o := .cells #[.bool false, .slice none 0 0] 24 (0, 0)) (by (with_reducible repeat (first | refine blk_drewN ?_ _ | refine blk_drew ?_ | refine blk_alloc ?_ _)); exact BK495.out) k_ hn_))⟩)) (zBs (by repeat (first | (with_reducible first | exact HB.out | apply zBa | apply zBn | apply zBd | refine below_set ?_ GE493.out | refine below_set ?_ GE494.out | refine below_set ?_ GE495.out) | exact HB.out))))
  have n1_ := zMk (blk_below (g := gb493) (o := .cells #[.bool a0_0, .slice A0_1 l0_1.length c0_1] 24 (0, 0)) (by (with_reducible repeat (first | refine blk_drewN ?_ _ | refine blk_drew ?_ | refine blk_alloc ?_ _)); exact BK493.out) hb)
  have n2_ := zMk (blk_below (g := gb494) (o := .cells #[.bool a1_0, .slice A1_1 l1_1.length c1_1] 24 (0, 0)) (by (with_reducible repeat (first | refine blk_drewN ?_ _ | refine blk_drew ?_ | refine blk_alloc ?_ _)); exact BK494.out) hb)
  have n3_ := zMk (blk_below (g := gb495) (o := .cells #[.bool false, .slice none 0 0] 24 (0, 0)) (by (with_reducible repeat (first | refine blk_drewN ?_ _ | refine blk_drew ?_ | refine blk_alloc ?_ _)); exact BK495.out) hb)
  have n4_ := zMk (zBt (by repeat (first | (with_reducible first | exact HB.out | apply zBa | apply zBn | apply zBd | refine below_set ?_ GE493.out | refine below_set ?_ GE494.out | refine below_set ?_ GE495.out) | exact HB.out)) hb)
  clear BK493
  clear BK494
  clear BK495
  clear HB
  have HO498 := n0_
  have BK493 := n1_
  have BK494 := n2_
  have BK495 := n3_
  have HB := n4_
  clear n0_ n1_ n2_ n3_ n4_
  (try clear hb)
  (try clear hb2)
  (try clear hk)
  (try clear hi)
  (try clear ho0)
  obtain ⟨Ao10, co10, eo10⟩ := Kd.V_slice HO498.out
  (first | subst eo10 | (injection eo10 with f1_ f2_ f3_; have f4_ := f1_.symm; have f5_ := f3_.symm; clear f1_ f2_ f3_; subst f4_; subst f5_))
  refine hK.out _ _ ⟨(blk_cell BK493.out 0).trans rfl, (blk_cell BK493.out 1).trans rfl, (blk_cell BK494.out 0).trans rfl, (blk_cell BK494.out 1).trans rfl⟩ (fun hHeld => ?_)
  clear hK K
  refine norm_ (a' := ?_) ?_ ?_
  rotate_left
  · show Act.put _ (some 14) _ = _
    simp only [Act.put, zSa, zSb, zSc, i64_w, i32_w]
    rfl
  refine one_ (i := 10) (N := some 15) #[true, true, true, true, true, true, true, true, true, true, true, false] rfl rfl (one_of HT_.out (by kernel_rfl)) (by decide) (fun K hK => ?_)
  refine goes_ Tryd.func36 (by kernel_rfl) rfl #[.bool (a0_0 != a1_0), .slice Ao10 t496.length co10] (by rfl) rfl rfl (by (try simp only [List.map_toArray, List.map_cons, List.map_nil]); first | done | rfl | (simp only [zLd, zLt]; rfl)) ?_
  with_reducible refine (integer_signed.calls (a0_0 != a1_0) _ _ t496 t499 t500 _ ?side1 ?side2 A4.out).mono ?_
  (case side1 => repeat (first | exact (Kd.V_reads' HO498.out).2.2 | (with_reducible refine zCa ?_ _) | (with_reducible refine zCn ?_ _) | (with_reducible refine zCd ?_)))
  (case side2 => exact (Kd.V_reads' HO498.out).2.1)
  rintro e w11 ⟨v501, rfl, ho0, hb⟩
  refine ⟨_, rfl, ?_⟩
  have n0_ := zMk (Kd.V_elder' (by (with_reducible repeat (first | apply zVa | apply zVn | apply zVd)); exact HO498.out) (Kd.R_base ho0) hb)
  have n1_ := zMk (Kd.R_lower ho0 (zBs (by repeat (first | (with_reducible first | exact HB.out | apply zBa | apply zBn | apply zBd | refine below_set ?_ GE493.out | refine below_set ?_ GE494.out | refine below_set ?_ GE495.out) | exact HB.out))))
  have n2_ := zMk (blk_below (g := gb493) (o := .cells #[.bool a0_0, .slice A0_1 l0_1.length c0_1] 24 (0, 0)) (by (with_reducible repeat (first | refine blk_drewN ?_ _ | refine blk_drew ?_ | refine blk_alloc ?_ _)); exact BK493.out) hb)
  have n3_ := zMk (blk_below (g := gb494) (o := .cells #[.bool a1_0, .slice A1_1 l1_1.length c1_1] 24 (0, 0)) (by (with_reducible repeat (first | refine blk_drewN ?_ _ | refine blk_drew ?_ | refine blk_alloc ?_ _)); exact BK494.out) hb)
  have n4_ := zMk (blk_below (g := gb495) (o := .cells #[.bool false, .slice none 0 0] 24 (0, 0)) (by (with_reducible repeat (first | refine blk_drewN ?_ _ | refine blk_drew ?_ | refine blk_alloc ?_ _)); exact BK495.out) hb)
  have n5_ := zMk (zBt (by repeat (first | (with_reducible first | exact HB.out | apply zBa | apply zBn | apply zBd | refine below_set ?_ GE493.out | refine below_set ?_ GE494.out | refine below_set ?_ GE495.out) | exact HB.out)) hb)
  clear HO498
  clear BK493
  clear BK494
  clear BK495
  clear HB
  have HO498 := n0_
  have HO502 := n1_
  have BK493 := n2_
  have BK494 := n3_
  have BK495 := n4_
  have HB := n5_
  clear n0_ n1_ n2_ n3_ n4_ n5_
  (try clear hb)
  (try clear hb2)
  (try clear hk)
  (try clear hi)
  (try clear ho0)
  obtain ⟨Ao13, co13, eo13⟩ := Kd.R_slice HO502.out
  (first | subst eo13 | (injection eo13 with f1_ f2_ f3_; have f4_ := f1_.symm; have f5_ := f3_.symm; clear f1_ f2_ f3_; subst f4_; subst f5_))
  refine hK.out _ _ ⟨(blk_cell BK493.out 0).trans rfl, (blk_cell BK493.out 1).trans rfl, (blk_cell BK494.out 0).trans rfl, (blk_cell BK494.out 1).trans rfl⟩ (fun hHeld => ?_)
  clear hK K
  refine norm_ (a' := ?_) ?_ ?_
  rotate_left
  · show Act.put _ (some 15) _ = _
    simp only [Act.put, zSa, zSb, zSc, i64_w, i32_w]
    rfl
  refine one_ (i := 11) (N := none) #[true, true, true, true, true, true, true, true, true, true, true, true] rfl rfl (one_of HT_.out (by kernel_rfl)) (by decide) (fun K hK => ?_)
  have hs12 : w11.cell? ⟨gb495, 0, none⟩ = some (.bool false) := (blk_cell BK495.out 0).trans rfl
  have hfs12 := blk_frozen BK495.out 0
  have hns12_0 := NB493_495.out
  have hns12_1 := NB494_495.out
  have hms12_0 := NB495_493.out
  have hms12_1 := NB495_494.out
  have hs14 : w11.cell? ⟨gb495, 1, none⟩ = some (.slice none 0 0) := (blk_cell BK495.out 1).trans rfl
  have hfs14 := blk_frozen BK495.out 1
  have hns14_0 := NB493_495.out
  have hns14_1 := NB494_495.out
  have hms14_0 := NB495_493.out
  have hms14_1 := NB495_494.out
  refine skip_ (w1 := ?_) (by rfl) rfl ?_ ?_
  rotate_left
  · go_simp
    rfl
  refine hK.out _ _ ⟨((cell_far (p := ⟨gb495, _, none⟩) NB493_495.out _).trans (((cell_far (p := ⟨gb495, _, none⟩) NB493_495.out _).trans (hHeld.1)))), ((cell_far (p := ⟨gb495, _, none⟩) NB493_495.out _).trans (((cell_far (p := ⟨gb495, _, none⟩) NB493_495.out _).trans (hHeld.2.1)))), ((cell_far (p := ⟨gb495, _, none⟩) NB494_495.out _).trans (((cell_far (p := ⟨gb495, _, none⟩) NB494_495.out _).trans (hHeld.2.2.1)))), ((cell_far (p := ⟨gb495, _, none⟩) NB494_495.out _).trans (((cell_far (p := ⟨gb495, _, none⟩) NB494_495.out _).trans (hHeld.2.2.2))))⟩ (fun hHeld => ?_)
  clear hK K
  refine done_ (done_of HT_.out (by kernel_rfl)) ?_
  try go_wp2
  refine bodyPost_ret (results_cell_row rfl _ _ gb495 24 #[.bool t499, .slice Ao13 t500.length co13] (0, 0) _ rfl (by (with_reducible repeat (first | refine blk_drewN ?_ _ | refine blk_drew ?_ | refine blk_alloc ?_ _)); refine blk_put (cs := #[.bool t499, .slice none 0 0]) ?_ 1 _ rfl; (with_reducible repeat (first | refine blk_drewN ?_ _ | refine blk_drew ?_ | refine blk_alloc ?_ _)); refine blk_put (cs := #[.bool false, .slice none 0 0]) ?_ 0 _ rfl; (with_reducible repeat (first | refine blk_drewN ?_ _ | refine blk_drew ?_ | refine blk_alloc ?_ _)); exact BK495.out) Tryd.underlying24 rfl (by kernel_rfl)) rfl ?_
  exact ⟨_, by first | rfl | (simp [errW_none, errW_some] <;> rfl) | (simp [*, errW_none, errW_some] <;> rfl), by (with_reducible repeat (first | apply zRa | apply zRn | apply zRd)); exact zRm (Kd.R_far (p := ⟨gb495, 1, none⟩) (Kd.R_far (p := ⟨gb495, 0, none⟩) (Kd.R_types HO502.out BK495.out (by decide)) (fun _ hk => hk.2) (.bool t499)) (fun _ hk => hk.2) (.slice Ao13 t500.length co13)) (fun _ hk => trivial), by repeat (first | (with_reducible first | exact HB.out | apply zBa | apply zBn | apply zBd | refine below_set ?_ GE493.out | refine below_set ?_ GE494.out | refine below_set ?_ GE495.out) | exact HB.out)⟩


/-! ### filigreeref02_Sub: function 20 -/
def filigreeref02_Sub.f (k : Nat) (a0_0 : Bool) (l0_1 : List Int) (a1_0 : Bool) (l1_1 : List Int) : Option (Bool × List Int) := (filigreeref02_Neg.f k a1_0 l1_1).bind fun bt686 => ((filigreeref02_Add.f k a0_0 l0_1 bt686.1 bt686.2).bind fun bt690 => (some (bt690.1, bt690.2)))
set_option maxHeartbeats 8000000 in
set_option maxRecDepth 100000 in
theorem filigreeref02_Sub.calls (k : Nat) (a0_0 : Bool) (A0_1 : Option Addr) (c0_1 : Nat) (l0_1 : List Int) (a1_0 : Bool) (A1_1 : Option Addr) (c1_1 : Nat) (l1_1 : List Int) (r1 : Bool) (r2 : List Int) (w : World) (hr0_1 : Kd.C (Kd.int .u32) w A0_1 l0_1.length l0_1) (hc0_1 : l0_1.length ≤ c0_1) (hr1_1 : Kd.C (Kd.int .u32) w A1_1 l1_1.length l1_1) (hc1_1 : l1_1.length ≤ c1_1) (h : filigreeref02_Sub.f k a0_0 l0_1 a1_0 l1_1 = some (r1, r2)) :
    Calls Tryd.prog 20 #[.agg #[.bool a0_0, .slice A0_1 l0_1.length c0_1], .agg #[.bool a1_0, .slice A1_1 l1_1.length c1_1]] w fun e w' => ∃ v1_ : Value, e = .returned (.agg #[.bool r1, v1_]) ∧ Kd.R (Kd.int .u32) 58 w' w.heap.size (fun _ => True) v1_ r2 ∧ Below w.heap.size w w' := by
  have hu24 := Tryd.underlying24
  have HR0_1 := zMk hr0_1
  have HC0_1 := zMk hc0_1
  clear hr0_1 hc0_1
  have HR1_1 := zMk hr1_1
  have HC1_1 := zMk hc1_1
  clear hr1_1 hc1_1
  have HB := zMk (Below.refl w.heap.size w)
  have H : ((filigreeref02_Neg.f k a1_0 l1_1).bind fun bt686 => ((filigreeref02_Add.f k a0_0 l0_1 bt686.1 bt686.2).bind fun bt690 => (some (bt690.1, bt690.2)))) = some (r1, r2) := h
  clear h
  replace H := Option.bind_eq_some_iff.mp H
  obtain ⟨⟨t686, t687⟩, A30, H⟩ := H
  replace H : ((filigreeref02_Add.f k a0_0 l0_1 t686 t687).bind fun bt690 => (some (bt690.1, bt690.2))) = some (r1, r2) := H
  have A3 := zMk A30
  clear A30
  replace H := Option.bind_eq_some_iff.mp H
  obtain ⟨⟨t690, t691⟩, A40, H⟩ := H
  replace H : (some (t690, t691)) = some (r1, r2) := H
  have A4 := zMk A40
  clear A40
  simp only [Option.some.injEq, Prod.mk.injEq] at H
  obtain ⟨rfl, rfl⟩ := H
  go_enter Tryd.func20, Tryd.ntmps20
  try go_wp2_with (first | ((with_reducible refine gate_dst (N := 2) rfl ?_); refine box_event ?hg (N := 2) ?hd (cs := #[.bool a0_0, .slice A0_1 l0_1.length c0_1]) (t := 24) ?hr ?_; (case hd => rfl); (case hg => rfl); (case hr => first | (go_simp; done) | (go_simp; rfl) | (go_simp; rw [show ∀ x : Int, IntKind.u32.wrap (IntKind.u8.wrap x) = x % 256 from fun x => (by show (x % 256) % 4294967296 = x % 256; omega)])); intro gb683 hg w5 hbox hb; have n0_ := zMk (zBt (by repeat (first | (with_reducible first | exact HB.out | apply zBa | apply zBn | apply zBd) | exact HB.out)) hb); have n1_ := zMk (hbox); have n2_ := zMk ((by rw [hg]; exact (zBs (by repeat (first | (with_reducible first | exact HB.out | apply zBa | apply zBn | apply zBd) | exact HB.out))) : w.heap.size ≤ gb683)); have n3_ := zMk ((by rw [hg]; exact (zBs (by repeat (first | (with_reducible first | exact HB.out | apply zBa | apply zBn | apply zBd) | exact HB.out))) : w.heap.size ≤ gb683)); clear HB; have HB := n0_; have BK683 := n1_; have GW683 := n2_; have GE683 := n3_; clear n0_ n1_ n2_ n3_; clear hb hbox hg) | ((with_reducible refine gate_dst (N := 3) rfl ?_); refine box_event ?hg (N := 3) ?hd (cs := #[.bool a1_0, .slice A1_1 l1_1.length c1_1]) (t := 24) ?hr ?_; (case hd => rfl); (case hg => rfl); (case hr => first | (go_simp; done) | (go_simp; rfl) | (go_simp; rw [show ∀ x : Int, IntKind.u32.wrap (IntKind.u8.wrap x) = x % 256 from fun x => (by show (x % 256) % 4294967296 = x % 256; omega)])); intro gb684 hg w6 hbox hb; have n0_ := zMk (blk_below (g := gb683) (o := .cells #[.bool a0_0, .slice A0_1 l0_1.length c0_1] 24 (0, 0)) (by (with_reducible repeat (first | refine blk_drewN ?_ _ | refine blk_drew ?_ | refine blk_alloc ?_ _)); exact BK683.out) hb); have n1_ := zMk (zBt (by repeat (first | (with_reducible first | exact HB.out | apply zBa | apply zBn | apply zBd | refine below_set ?_ GE683.out) | exact HB.out)) hb); have n2_ := zMk (hbox); have n3_ := zMk ((by rw [hg]; exact (zBs (by repeat (first | (with_reducible first | exact HB.out | apply zBa | apply zBn | apply zBd | refine below_set ?_ GE683.out) | exact HB.out))) : w.heap.size ≤ gb684)); have n4_ := zMk ((by rw [hg]; exact (zBs (by repeat (first | (with_reducible first | exact HB.out | apply zBa | apply zBn | apply zBd | refine below_set ?_ GE683.out) | exact HB.out))) : w.heap.size ≤ gb684)); have n5_ := zMk ((by rw [hg]; exact Nat.ne_of_lt (blk_lt (g := gb683) (o := .cells #[.bool a0_0, .slice A0_1 l0_1.length c0_1] 24 (0, 0)) (by (with_reducible repeat (first | refine blk_drewN ?_ _ | refine blk_drew ?_ | refine blk_alloc ?_ _)); exact BK683.out)) : gb683 ≠ gb684)); have n6_ := zMk ((by rw [hg]; exact Nat.ne_of_gt (blk_lt (g := gb683) (o := .cells #[.bool a0_0, .slice A0_1 l0_1.length c0_1] 24 (0, 0)) (by (with_reducible repeat (first | refine blk_drewN ?_ _ | refine blk_drew ?_ | refine blk_alloc ?_ _)); exact BK683.out)) : gb684 ≠ gb683)); clear BK683; clear HB; have BK683 := n0_; have HB := n1_; have BK684 := n2_; have GW684 := n3_; have GE684 := n4_; have NB683_684 := n5_; have NB684_683 := n6_; clear n0_ n1_ n2_ n3_ n4_ n5_ n6_; clear hb hbox hg) | ((with_reducible refine gate_dst (N := 4) rfl ?_); refine box_event ?hg (N := 4) ?hd (cs := #[.bool false, .slice none 0 0]) (t := 24) ?hr ?_; (case hd => rfl); (case hg => rfl); (case hr => first | (go_simp; done) | (go_simp; rfl) | (go_simp; rw [show ∀ x : Int, IntKind.u32.wrap (IntKind.u8.wrap x) = x % 256 from fun x => (by show (x % 256) % 4294967296 = x % 256; omega)])); intro gb685 hg w7 hbox hb; have n0_ := zMk (blk_below (g := gb683) (o := .cells #[.bool a0_0, .slice A0_1 l0_1.length c0_1] 24 (0, 0)) (by (with_reducible repeat (first | refine blk_drewN ?_ _ | refine blk_drew ?_ | refine blk_alloc ?_ _)); exact BK683.out) hb); have n1_ := zMk (blk_below (g := gb684) (o := .cells #[.bool a1_0, .slice A1_1 l1_1.length c1_1] 24 (0, 0)) (by (with_reducible repeat (first | refine blk_drewN ?_ _ | refine blk_drew ?_ | refine blk_alloc ?_ _)); exact BK684.out) hb); have n2_ := zMk (zBt (by repeat (first | (with_reducible first | exact HB.out | apply zBa | apply zBn | apply zBd | refine below_set ?_ GE683.out | refine below_set ?_ GE684.out) | exact HB.out)) hb); have n3_ := zMk (hbox); have n4_ := zMk ((by rw [hg]; exact (zBs (by repeat (first | (with_reducible first | exact HB.out | apply zBa | apply zBn | apply zBd | refine below_set ?_ GE683.out | refine below_set ?_ GE684.out) | exact HB.out))) : w.heap.size ≤ gb685)); have n5_ := zMk ((by rw [hg]; exact (zBs (by repeat (first | (with_reducible first | exact HB.out | apply zBa | apply zBn | apply zBd | refine below_set ?_ GE683.out | refine below_set ?_ GE684.out) | exact HB.out))) : w.heap.size ≤ gb685)); have n6_ := zMk ((by rw [hg]; exact Nat.ne_of_lt (blk_lt (g := gb683) (o := .cells #[.bool a0_0, .slice A0_1 l0_1.length c0_1] 24 (0, 0)) (by (with_reducible repeat (first | refine blk_drewN ?_ _ | refine blk_drew ?_ | refine blk_alloc ?_ _)); exact BK683.out)) : gb683 ≠ gb685)); have n7_ := zMk ((by rw [hg]; exact Nat.ne_of_gt (blk_lt (g := gb683) (o := .cells #[.bool a0_0, .slice A0_1 l0_1.length c0_1] 24 (0, 0)) (by (with_reducible repeat (first | refine blk_drewN ?_ _ | refine blk_drew ?_ | refine blk_alloc ?_ _)); exact BK683.out)) : gb685 ≠ gb683)); have n8_ := zMk ((by rw [hg]; exact Nat.ne_of_lt (blk_lt (g := gb684) (o := .cells #[.bool a1_0, .slice A1_1 l1_1.length c1_1] 24 (0, 0)) (by (with_reducible repeat (first | refine blk_drewN ?_ _ | refine blk_drew ?_ | refine blk_alloc ?_ _)); exact BK684.out)) : gb684 ≠ gb685)); have n9_ := zMk ((by rw [hg]; exact Nat.ne_of_gt (blk_lt (g := gb684) (o := .cells #[.bool a1_0, .slice A1_1 l1_1.length c1_1] 24 (0, 0)) (by (with_reducible repeat (first | refine blk_drewN ?_ _ | refine blk_drew ?_ | refine blk_alloc ?_ _)); exact BK684.out)) : gb685 ≠ gb684)); clear BK683; clear BK684; clear HB; have BK683 := n0_; have BK684 := n1_; have HB := n2_; have BK685 := n3_; have GW685 := n4_; have GE685 := n5_; have NB683_685 := n6_; have NB685_683 := n7_; have NB684_685 := n8_; have NB685_684 := n9_; clear n0_ n1_ n2_ n3_ n4_ n5_ n6_ n7_ n8_ n9_; clear hb hbox hg))
  have n0_ := zMk (blk_drew BK683.out)
  have n1_ := zMk (blk_drew BK684.out)
  have n2_ := zMk (blk_drew BK685.out)
  have n3_ := zMk (zBd HB.out)
  clear BK683
  clear BK684
  clear BK685
  clear HB
  have BK683 := n0_
  have BK684 := n1_
  have BK685 := n2_
  have HB := n3_
  clear n0_ n1_ n2_ n3_
  refine start_ (n := 5) (S := fun w' => w'.cell? ⟨gb683, 0, none⟩ = some (.bool a0_0) ∧ w'.cell? ⟨gb683, 1, none⟩ = some (.slice A0_1 l0_1.length c0_1) ∧ w'.cell? ⟨gb684, 0, none⟩ = some (.bool a1_0) ∧ w'.cell? ⟨gb684, 1, none⟩ = some (.slice A1_1 l1_1.length c1_1)) (ds := []) #[false, false, false, false, false] (by kernel_rfl) rfl rfl ⟨(blk_cell BK683.out 0).trans rfl, (blk_cell BK683.out 1).trans rfl, (blk_cell BK684.out 0).trans rfl, (blk_cell BK684.out 1).trans rfl⟩ (fun hHeld => ?_)
  generalize w7.drew = w8 at BK683 BK684 BK685 HB hHeld ⊢
  refine take_ (i := 0) (N := some 5) (v := ?_) (a' := ?_) #[true, false, false, false, false] rfl rfl (by kernel_rfl) (fun _ _ _ h => h) (Or.inl ⟨by rfl, ?_⟩) hHeld ?_ ?_
  rotate_left
  · rintro w' ⟨s0, s1, s2, s3⟩
    go_simp
    with_reducible rfl
  rotate_left
  · simp only [Act.put, zSa, zSb, zSc, i64_w, i32_w]
    rfl
  refine take_ (i := 1) (N := some 6) (v := ?_) (a' := ?_) #[true, true, false, false, false] rfl rfl (by kernel_rfl) (fun _ _ _ h => h) (Or.inl ⟨by rfl, ?_⟩) hHeld ?_ ?_
  rotate_left
  · rintro w' ⟨s0, s1, s2, s3⟩
    go_simp
    with_reducible rfl
  rotate_left
  · simp only [Act.put, zSa, zSb, zSc, i64_w, i32_w]
    rfl
  refine one_ (i := 2) (N := some 7) #[true, true, true, false, false] rfl rfl (by kernel_rfl) (by decide) (fun K hK => ?_)
  refine goes_ Tryd.func44 (by kernel_rfl) rfl #[.agg #[.bool a1_0, .slice A1_1 l1_1.length c1_1]] (by rfl) rfl rfl (by (try simp only [List.map_toArray, List.map_cons, List.map_nil]); first | done | rfl | (simp only [zLd, zLt]; rfl)) ?_
  with_reducible refine (filigreeref02_Neg.calls k a1_0 _ _ l1_1 t686 t687 _ ?side1 ?side2 A3.out).mono ?_
  (case side1 => repeat (first | exact (Kd.C_below HR1_1.out HB.out) | (with_reducible refine zCa ?_ _) | (with_reducible refine zCn ?_ _) | (with_reducible refine zCd ?_)))
  (case side2 => exact HC1_1.out)
  rintro e w9 ⟨v688, rfl, ho0, hb⟩
  refine ⟨_, rfl, ?_⟩
  have n0_ := zMk (Kd.R_lower ho0 (zBs (by repeat (first | (with_reducible first | exact HB.out | apply zBa | apply zBn | apply zBd | refine below_set ?_ GE683.out | refine below_set ?_ GE684.out | refine below_set ?_ GE685.out) | exact HB.out))))
  have n1_ := zMk (blk_below (g := gb683) (o := .cells #[.bool a0_0, .slice A0_1 l0_1.length c0_1] 24 (0, 0)) (by (with_reducible repeat (first | refine blk_drewN ?_ _ | refine blk_drew ?_ | refine blk_alloc ?_ _)); exact BK683.out) hb)
  have n2_ := zMk (blk_below (g := gb684) (o := .cells #[.bool a1_0, .slice A1_1 l1_1.length c1_1] 24 (0, 0)) (by (with_reducible repeat (first | refine blk_drewN ?_ _ | refine blk_drew ?_ | refine blk_alloc ?_ _)); exact BK684.out) hb)
  have n3_ := zMk (blk_below (g := gb685) (o := .cells #[.bool false, .slice none 0 0] 24 (0, 0)) (by (with_reducible repeat (first | refine blk_drewN ?_ _ | refine blk_drew ?_ | refine blk_alloc ?_ _)); exact BK685.out) hb)
  have n4_ := zMk (zBt (by repeat (first | (with_reducible first | exact HB.out | apply zBa | apply zBn | apply zBd | refine below_set ?_ GE683.out | refine below_set ?_ GE684.out | refine below_set ?_ GE685.out) | exact HB.out)) hb)
  clear BK683
  clear BK684
  clear BK685
  clear HB
  have HO689 := n0_
  have BK683 := n1_
  have BK684 := n2_
  have BK685 := n3_
  have HB := n4_
  clear n0_ n1_ n2_ n3_ n4_
  (try clear hb)
  (try clear hb2)
  (try clear hk)
  (try clear hi)
  (try clear ho0)
  obtain ⟨Ao10, co10, eo10⟩ := Kd.R_slice HO689.out
  (first | subst eo10 | (injection eo10 with f1_ f2_ f3_; have f4_ := f1_.symm; have f5_ := f3_.symm; clear f1_ f2_ f3_; subst f4_; subst f5_))
  refine hK.out _ _ ⟨(blk_cell BK683.out 0).trans rfl, (blk_cell BK683.out 1).trans rfl, (blk_cell BK684.out 0).trans rfl, (blk_cell BK684.out 1).trans rfl⟩ (fun hHeld => ?_)
  clear hK K
  refine norm_ (a' := ?_) ?_ ?_
  rotate_left
  · show Act.put _ (some 7) _ = _
    simp only [Act.put, zSa, zSb, zSc, i64_w, i32_w]
    rfl
  refine one_ (i := 3) (N := some 8) #[true, true, true, true, false] rfl rfl (by kernel_rfl) (by decide) (fun K hK => ?_)
  refine goes_ Tryd.func18 (by kernel_rfl) rfl #[.agg #[.bool a0_0, .slice A0_1 l0_1.length c0_1], .agg #[.bool t686, .slice Ao10 t687.length co10]] (by rfl) rfl rfl (by (try simp only [List.map_toArray, List.map_cons, List.map_nil]); first | done | rfl | (simp only [zLd, zLt]; rfl)) ?_
  with_reducible refine (filigreeref02_Add.calls k a0_0 _ _ l0_1 t686 _ _ t687 t690 t691 _ ?side1 ?side2 ?side3 ?side4 A4.out).mono ?_
  (case side1 => repeat (first | exact (Kd.C_below HR0_1.out HB.out) | (with_reducible refine zCa ?_ _) | (with_reducible refine zCn ?_ _) | (with_reducible refine zCd ?_)))
  (case side2 => exact HC0_1.out)
  (case side3 => repeat (first | exact (Kd.R_reads' HO689.out).2.2 | (with_reducible refine zCa ?_ _) | (with_reducible refine zCn ?_ _) | (with_reducible refine zCd ?_)))
  (case side4 => exact (Kd.R_reads' HO689.out).2.1)
  rintro e w11 ⟨v692, rfl, ho0, hb⟩
  refine ⟨_, rfl, ?_⟩
  have n0_ := zMk (Kd.R_elder' (by (with_reducible repeat (first | apply zRa | apply zRn | apply zRd)); exact HO689.out) (Kd.R_base ho0) hb)
  have n1_ := zMk (Kd.R_lower (Kd.R_new' ho0 (Kd.R_lt (by (with_reducible repeat (first | apply zRa | apply zRn | apply zRd)); exact HO689.out))) (zBs (by repeat (first | (with_reducible first | exact HB.out | apply zBa | apply zBn | apply zBd | refine below_set ?_ GE683.out | refine below_set ?_ GE684.out | refine below_set ?_ GE685.out) | exact HB.out))))
  have n2_ := zMk (blk_below (g := gb683) (o := .cells #[.bool a0_0, .slice A0_1 l0_1.length c0_1] 24 (0, 0)) (by (with_reducible repeat (first | refine blk_drewN ?_ _ | refine blk_drew ?_ | refine blk_alloc ?_ _)); exact BK683.out) hb)
  have n3_ := zMk (blk_below (g := gb684) (o := .cells #[.bool a1_0, .slice A1_1 l1_1.length c1_1] 24 (0, 0)) (by (with_reducible repeat (first | refine blk_drewN ?_ _ | refine blk_drew ?_ | refine blk_alloc ?_ _)); exact BK684.out) hb)
  have n4_ := zMk (blk_below (g := gb685) (o := .cells #[.bool false, .slice none 0 0] 24 (0, 0)) (by (with_reducible repeat (first | refine blk_drewN ?_ _ | refine blk_drew ?_ | refine blk_alloc ?_ _)); exact BK685.out) hb)
  have n5_ := zMk (zBt (by repeat (first | (with_reducible first | exact HB.out | apply zBa | apply zBn | apply zBd | refine below_set ?_ GE683.out | refine below_set ?_ GE684.out | refine below_set ?_ GE685.out) | exact HB.out)) hb)
  clear HO689
  clear BK683
  clear BK684
  clear BK685
  clear HB
  have HO689 := n0_
  have HO693 := n1_
  have BK683 := n2_
  have BK684 := n3_
  have BK685 := n4_
  have HB := n5_
  clear n0_ n1_ n2_ n3_ n4_ n5_
  (try clear hb)
  (try clear hb2)
  (try clear hk)
  (try clear hi)
  (try clear ho0)
  obtain ⟨Ao13, co13, eo13⟩ := Kd.R_slice HO693.out
  (first | subst eo13 | (injection eo13 with f1_ f2_ f3_; have f4_ := f1_.symm; have f5_ := f3_.symm; clear f1_ f2_ f3_; subst f4_; subst f5_))
  refine hK.out _ _ ⟨(blk_cell BK683.out 0).trans rfl, (blk_cell BK683.out 1).trans rfl, (blk_cell BK684.out 0).trans rfl, (blk_cell BK684.out 1).trans rfl⟩ (fun hHeld => ?_)
  clear hK K
  refine norm_ (a' := ?_) ?_ ?_
  rotate_left
  · show Act.put _ (some 8) _ = _
    simp only [Act.put, zSa, zSb, zSc, i64_w, i32_w]
    rfl
  refine one_ (i := 4) (N := none) #[true, true, true, true, true] rfl rfl (by kernel_rfl) (by decide) (fun K hK => ?_)
  have hs12 : w11.cell? ⟨gb685, 0, none⟩ = some (.bool false) := (blk_cell BK685.out 0).trans rfl
  have hfs12 := blk_frozen BK685.out 0
  have hns12_0 := NB683_685.out
  have hns12_1 := NB684_685.out
  have hms12_0 := NB685_683.out
  have hms12_1 := NB685_684.out
  have hs14 : w11.cell? ⟨gb685, 1, none⟩ = some (.slice none 0 0) := (blk_cell BK685.out 1).trans rfl
  have hfs14 := blk_frozen BK685.out 1
  have hns14_0 := NB683_685.out
  have hns14_1 := NB684_685.out
  have hms14_0 := NB685_683.out
  have hms14_1 := NB685_684.out
  refine skip_ (w1 := ?_) (by rfl) rfl ?_ ?_
  rotate_left
  · go_simp
    rfl
  refine hK.out _ _ ⟨((cell_far (p := ⟨gb685, _, none⟩) NB683_685.out _).trans (((cell_far (p := ⟨gb685, _, none⟩) NB683_685.out _).trans (hHeld.1)))), ((cell_far (p := ⟨gb685, _, none⟩) NB683_685.out _).trans (((cell_far (p := ⟨gb685, _, none⟩) NB683_685.out _).trans (hHeld.2.1)))), ((cell_far (p := ⟨gb685, _, none⟩) NB684_685.out _).trans (((cell_far (p := ⟨gb685, _, none⟩) NB684_685.out _).trans (hHeld.2.2.1)))), ((cell_far (p := ⟨gb685, _, none⟩) NB684_685.out _).trans (((cell_far (p := ⟨gb685, _, none⟩) NB684_685.out _).trans (hHeld.2.2.2))))⟩ (fun hHeld => ?_)
  clear hK K
  refine done_ (by kernel_rfl) ?_
  try go_wp2
  refine bodyPost_ret (results_cell_row rfl _ _ gb685 24 #[.bool t690, .slice Ao13 t691.length co13] (0, 0) _ rfl (by (with_reducible repeat (first | refine blk_drewN ?_ _ | refine blk_drew ?_ | refine blk_alloc ?_ _)); refine blk_put (cs := #[.bool t690, .slice none 0 0]) ?_ 1 _ rfl; (with_reducible repeat (first | refine blk_drewN ?_ _ | refine blk_drew ?_ | refine blk_alloc ?_ _)); refine blk_put (cs := #[.bool false, .slice none 0 0]) ?_ 0 _ rfl; (with_reducible repeat (first | refine blk_drewN ?_ _ | refine blk_drew ?_ | refine blk_alloc ?_ _)); exact BK685.out) Tryd.underlying24 rfl (by kernel_rfl)) rfl ?_
  exact ⟨_, by first | rfl | (simp [errW_none, errW_some] <;> rfl) | (simp [*, errW_none, errW_some] <;> rfl), by (with_reducible repeat (first | apply zRa | apply zRn | apply zRd)); exact zRm (Kd.R_far (p := ⟨gb685, 1, none⟩) (Kd.R_far (p := ⟨gb685, 0, none⟩) (Kd.R_types HO693.out BK685.out (by decide)) (fun _ hk => hk.2) (.bool t690)) (fun _ hk => hk.2) (.slice Ao13 t691.length co13)) (fun _ hk => trivial), by repeat (first | (with_reducible first | exact HB.out | apply zBa | apply zBn | apply zBd | refine below_set ?_ GE683.out | refine below_set ?_ GE684.out | refine below_set ?_ GE685.out) | exact HB.out)⟩


/-! ### filigreeref02_Mul: function 22 -/
def filigreeref02_Mul.f (k : Nat) (a0_0 : Bool) (l0_1 : List Int) (a1_0 : Bool) (l1_1 : List Int) : Option (Bool × List Int) := (r1_Mul.f k l0_1 l1_1).bind fun t1053 => ((filigreeref02_make2.f k (a0_0 != a1_0) t1053).bind fun bt1056 => (some (bt1056.1, bt1056.2)))
def filigreeref02_Mul.T1 : Bool × List (List Nat × List Nat) := (true, [([], []), ([0], [0]), ([], []), ([2], [2]), ([1, 3], [1, 3]), ([], []), ([5], [5]), ([], []), ([7], [7]), ([6, 8], [6, 8]), ([4, 9, 9], [4, 9]), ([10, 10, 0, 1, 2, 3, 4, 5, 6, 7, 8, 9, 10], [10])])
def filigreeref02_Mul.B1 : List Nat := [0, 1, 0, 4, 15, 0, 32, 0, 128, 480, 1023, 2047]
theorem filigreeref02_Mul.tab1 : rtab .any (opsOf Tryd.f22 1) = filigreeref02_Mul.T1 := by kernel_rfl
theorem filigreeref02_Mul.bits1 : waitsOk filigreeref02_Mul.T1.2 filigreeref02_Mul.B1 = true := by kernel_rfl
set_option maxHeartbeats 8000000 in
set_option maxRecDepth 100000 in
theorem filigreeref02_Mul.calls (k : Nat) (a0_0 : Bool) (A0_1 : Option Addr) (c0_1 : Nat) (l0_1 : List Int) (a1_0 : Bool) (A1_1 : Option Addr) (c1_1 : Nat) (l1_1 : List Int) (r1 : Bool) (r2 : List Int) (w : World) (hr0_1 : Kd.C (Kd.int .u32) w A0_1 l0_1.length l0_1) (hc0_1 : l0_1.length ≤ c0_1) (hr1_1 : Kd.C (Kd.int .u32) w A1_1 l1_1.length l1_1) (hc1_1 : l1_1.length ≤ c1_1) (h : filigreeref02_Mul.f k a0_0 l0_1 a1_0 l1_1 = some (r1, r2)) :
    Calls Tryd.prog 22 #[.agg #[.bool a0_0, .slice A0_1 l0_1.length c0_1], .agg #[.bool a1_0, .slice A1_1 l1_1.length c1_1]] w fun e w' => ∃ v1_ : Value, e = .returned (.agg #[.bool r1, v1_]) ∧ Kd.R (Kd.int .u32) 58 w' w.heap.size (fun _ => True) v1_ r2 ∧ Below w.heap.size w w' := by
  have hu24 := Tryd.underlying24
  have HR0_1 := zMk hr0_1
  have HC0_1 := zMk hc0_1
  clear hr0_1 hc0_1
  have HR1_1 := zMk hr1_1
  have HC1_1 := zMk hc1_1
  clear hr1_1 hc1_1
  have HB := zMk (Below.refl w.heap.size w)
  have H : ((r1_Mul.f k l0_1 l1_1).bind fun t1053 => ((filigreeref02_make2.f k (a0_0 != a1_0) t1053).bind fun bt1056 => (some (bt1056.1, bt1056.2)))) = some (r1, r2) := h
  clear h
  replace H := Option.bind_eq_some_iff.mp H
  obtain ⟨t1053, A30, H⟩ := H
  have A3 := zMk A30
  clear A30
  replace H := Option.bind_eq_some_iff.mp H
  obtain ⟨⟨t1056, t1057⟩, A40, H⟩ := H
  replace H : (some (t1056, t1057)) = some (r1, r2) := H
  have A4 := zMk A40
  clear A40
  simp only [Option.some.injEq, Prod.mk.injEq] at H
  obtain ⟨rfl, rfl⟩ := H
  go_enter Tryd.func22, Tryd.ntmps22
  try go_wp2_with (first | ((with_reducible refine gate_dst (N := 2) rfl ?_); refine box_event ?hg (N := 2) ?hd (cs := #[.bool a0_0, .slice A0_1 l0_1.length c0_1]) (t := 24) ?hr ?_; (case hd => rfl); (case hg => rfl); (case hr => first | (go_simp; done) | (go_simp; rfl) | (go_simp; rw [show ∀ x : Int, IntKind.u32.wrap (IntKind.u8.wrap x) = x % 256 from fun x => (by show (x % 256) % 4294967296 = x % 256; omega)])); intro gb1050 hg w5 hbox hb; have n0_ := zMk (zBt (by repeat (first | (with_reducible first | exact HB.out | apply zBa | apply zBn | apply zBd) | exact HB.out)) hb); have n1_ := zMk (hbox); have n2_ := zMk ((by rw [hg]; exact (zBs (by repeat (first | (with_reducible first | exact HB.out | apply zBa | apply zBn | apply zBd) | exact HB.out))) : w.heap.size ≤ gb1050)); have n3_ := zMk ((by rw [hg]; exact (zBs (by repeat (first | (with_reducible first | exact HB.out | apply zBa | apply zBn | apply zBd) | exact HB.out))) : w.heap.size ≤ gb1050)); clear HB; have HB := n0_; have BK1050 := n1_; have GW1050 := n2_; have GE1050 := n3_; clear n0_ n1_ n2_ n3_; clear hb hbox hg) | ((with_reducible refine gate_dst (N := 3) rfl ?_); refine box_event ?hg (N := 3) ?hd (cs := #[.bool a1_0, .slice A1_1 l1_1.length c1_1]) (t := 24) ?hr ?_; (case hd => rfl); (case hg => rfl); (case hr => first | (go_simp; done) | (go_simp; rfl) | (go_simp; rw [show ∀ x : Int, IntKind.u32.wrap (IntKind.u8.wrap x) = x % 256 from fun x => (by show (x % 256) % 4294967296 = x % 256; omega)])); intro gb1051 hg w6 hbox hb; have n0_ := zMk (blk_below (g := gb1050) (o := .cells #[.bool a0_0, .slice A0_1 l0_1.length c0_1] 24 (0, 0)) (by (with_reducible repeat (first | refine blk_drewN ?_ _ | refine blk_drew ?_ | refine blk_alloc ?_ _)); exact BK1050.out) hb); have n1_ := zMk (zBt (by repeat (first | (with_reducible first | exact HB.out | apply zBa | apply zBn | apply zBd | refine below_set ?_ GE1050.out) | exact HB.out)) hb); have n2_ := zMk (hbox); have n3_ := zMk ((by rw [hg]; exact (zBs (by repeat (first | (with_reducible first | exact HB.out | apply zBa | apply zBn | apply zBd | refine below_set ?_ GE1050.out) | exact HB.out))) : w.heap.size ≤ gb1051)); have n4_ := zMk ((by rw [hg]; exact (zBs (by repeat (first | (with_reducible first | exact HB.out | apply zBa | apply zBn | apply zBd | refine below_set ?_ GE1050.out) | exact HB.out))) : w.heap.size ≤ gb1051)); have n5_ := zMk ((by rw [hg]; exact Nat.ne_of_lt (blk_lt (g := gb1050) (o := .cells #[.bool a0_0, .slice A0_1 l0_1.length c0_1] 24 (0, 0)) (by (with_reducible repeat (first | refine blk_drewN ?_ _ | refine blk_drew ?_ | refine blk_alloc ?_ _)); exact BK1050.out)) : gb1050 ≠ gb1051)); have n6_ := zMk ((by rw [hg]; exact Nat.ne_of_gt (blk_lt (g := gb1050) (o := .cells #[.bool a0_0, .slice A0_1 l0_1.length c0_1] 24 (0, 0)) (by (with_reducible repeat (first | refine blk_drewN ?_ _ | refine blk_drew ?_ | refine blk_alloc ?_ _)); exact BK1050.out)) : gb1051 ≠ gb1050)); clear BK1050; clear HB; have BK1050 := n0_; have HB := n1_; have BK1051 := n2_; have GW1051 := n3_; have GE1051 := n4_; have NB1050_1051 := n5_; have NB1051_1050 := n6_; clear n0_ n1_ n2_ n3_ n4_ n5_ n6_; clear hb hbox hg) | ((with_reducible refine gate_dst (N := 4) rfl ?_); refine box_event ?hg (N := 4) ?hd (cs := #[.bool false, .slice none 0 0]) (t := 24) ?hr ?_; (case hd => rfl); (case hg => rfl); (case hr => first | (go_simp; done) | (go_simp; rfl) | (go_simp; rw [show ∀ x : Int, IntKind.u32.wrap (IntKind.u8.wrap x) = x % 256 from fun x => (by show (x % 256) % 4294967296 = x % 256; omega)])); intro gb1052 hg w7 hbox hb; have n0_ := zMk (blk_below (g := gb1050) (o := .cells #[.bool a0_0, .slice A0_1 l0_1.length c0_1] 24 (0, 0)) (by (with_reducible repeat (first | refine blk_drewN ?_ _ | refine blk_drew ?_ | refine blk_alloc ?_ _)); exact BK1050.out) hb); have n1_ := zMk (blk_below (g := gb1051) (o := .cells #[.bool a1_0, .slice A1_1 l1_1.length c1_1] 24 (0, 0)) (by (with_reducible repeat (first | refine blk_drewN ?_ _ | refine blk_drew ?_ | refine blk_alloc ?_ _)); exact BK1051.out) hb); have n2_ := zMk (zBt (by repeat (first | (with_reducible first | exact HB.out | apply zBa | apply zBn | apply zBd | refine below_set ?_ GE1050.out | refine below_set ?_ GE1051.out) | exact HB.out)) hb); have n3_ := zMk (hbox); have n4_ := zMk ((by rw [hg]; exact (zBs (by repeat (first | (with_reducible first | exact HB.out | apply zBa | apply zBn | apply zBd | refine below_set ?_ GE1050.out | refine below_set ?_ GE1051.out) | exact HB.out))) : w.heap.size ≤ gb1052)); have n5_ := zMk ((by rw [hg]; exact (zBs (by repeat (first | (with_reducible first | exact HB.out | apply zBa | apply zBn | apply zBd | refine below_set ?_ GE1050.out | refine below_set ?_ GE1051.out) | exact HB.out))) : w.heap.size ≤ gb1052)); have n6_ := zMk ((by rw [hg]; exact Nat.ne_of_lt (blk_lt (g := gb1050) (o := .cells #[.bool a0_0, .slice A0_1 l0_1.length c0_1] 24 (0, 0)) (by (with_reducible repeat (first | refine blk_drewN ?_ _ | refine blk_drew ?_ | refine blk_alloc ?_ _)); exact BK1050.out)) : gb1050 ≠ gb1052)); have n7_ := zMk ((by rw [hg]; exact Nat.ne_of_gt (blk_lt (g := gb1050) (o := .cells #[.bool a0_0, .slice A0_1 l0_1.length c0_1] 24 (0, 0)) (by (with_reducible repeat (first | refine blk_drewN ?_ _ | refine blk_drew ?_ | refine blk_alloc ?_ _)); exact BK1050.out)) : gb1052 ≠ gb1050)); have n8_ := zMk ((by rw [hg]; exact Nat.ne_of_lt (blk_lt (g := gb1051) (o := .cells #[.bool a1_0, .slice A1_1 l1_1.length c1_1] 24 (0, 0)) (by (with_reducible repeat (first | refine blk_drewN ?_ _ | refine blk_drew ?_ | refine blk_alloc ?_ _)); exact BK1051.out)) : gb1051 ≠ gb1052)); have n9_ := zMk ((by rw [hg]; exact Nat.ne_of_gt (blk_lt (g := gb1051) (o := .cells #[.bool a1_0, .slice A1_1 l1_1.length c1_1] 24 (0, 0)) (by (with_reducible repeat (first | refine blk_drewN ?_ _ | refine blk_drew ?_ | refine blk_alloc ?_ _)); exact BK1051.out)) : gb1052 ≠ gb1051)); clear BK1050; clear BK1051; clear HB; have BK1050 := n0_; have BK1051 := n1_; have HB := n2_; have BK1052 := n3_; have GW1052 := n4_; have GE1052 := n5_; have NB1050_1052 := n6_; have NB1052_1050 := n7_; have NB1051_1052 := n8_; have NB1052_1051 := n9_; clear n0_ n1_ n2_ n3_ n4_ n5_ n6_ n7_ n8_ n9_; clear hb hbox hg))
  have n0_ := zMk (blk_drew BK1050.out)
  have n1_ := zMk (blk_drew BK1051.out)
  have n2_ := zMk (blk_drew BK1052.out)
  have n3_ := zMk (zBd HB.out)
  clear BK1050
  clear BK1051
  clear BK1052
  clear HB
  have BK1050 := n0_
  have BK1051 := n1_
  have BK1052 := n2_
  have HB := n3_
  clear n0_ n1_ n2_ n3_
  refine start_ (n := 12) (S := fun w' => w'.cell? ⟨gb1050, 0, none⟩ = some (.bool a0_0) ∧ w'.cell? ⟨gb1050, 1, none⟩ = some (.slice A0_1 l0_1.length c0_1) ∧ w'.cell? ⟨gb1051, 0, none⟩ = some (.bool a1_0) ∧ w'.cell? ⟨gb1051, 1, none⟩ = some (.slice A1_1 l1_1.length c1_1)) (ds := []) #[false, false, false, false, false, false, false, false, false, false, false, false] (by kernel_rfl) rfl rfl ⟨(blk_cell BK1050.out 0).trans rfl, (blk_cell BK1050.out 1).trans rfl, (blk_cell BK1051.out 0).trans rfl, (blk_cell BK1051.out 1).trans rfl⟩ (fun hHeld => ?_); refine with_tabW filigreeref02_Mul.tab1 filigreeref02_Mul.bits1 (fun HT_ HW_ => ?_)
  generalize w7.drew = w8 at BK1050 BK1051 BK1052 HB hHeld ⊢
  refine pure_ (i := 0) (N := some 5) (v := ?_) (a' := ?_) #[true, false, false, false, false, false, false, false, false, false, false, false] rfl rfl (any_of HT_.out (by kernel_rfl)) (fun _ _ _ h => h) (Or.inl ⟨by rfl, ?_⟩) ?_ ?_
  rotate_left
  · intro w'
    go_simp
    with_reducible rfl
  rotate_left
  · simp only [Act.put, zSa, zSb, zSc, i64_w, i32_w]
    rfl
  refine pure_ (i := 2) (N := some 7) (v := ?_) (a' := ?_) #[true, false, true, false, false, false, false, false, false, false, false, false] rfl rfl (any_of HT_.out (by kernel_rfl)) (fun _ _ _ h => h) (Or.inl ⟨by rfl, ?_⟩) ?_ ?_
  rotate_left
  · intro w'
    go_simp
    with_reducible rfl
  rotate_left
  · simp only [Act.put, zSa, zSb, zSc, i64_w, i32_w]
    rfl
  refine pure_ (i := 5) (N := some 10) (v := ?_) (a' := ?_) #[true, false, true, false, false, true, false, false, false, false, false, false] rfl rfl (any_of HT_.out (by kernel_rfl)) (fun _ _ _ h => h) (Or.inl ⟨by rfl, ?_⟩) ?_ ?_
  rotate_left
  · intro w'
    go_simp
    with_reducible rfl
  rotate_left
  · simp only [Act.put, zSa, zSb, zSc, i64_w, i32_w]
    rfl
  refine pure_ (i := 7) (N := some 12) (v := ?_) (a' := ?_) #[true, false, true, false, false, true, false, true, false, false, false, false] rfl rfl (any_of HT_.out (by kernel_rfl)) (fun _ _ _ h => h) (Or.inl ⟨by rfl, ?_⟩) ?_ ?_
  rotate_left
  · intro w'
    go_simp
    with_reducible rfl
  rotate_left
  · simp only [Act.put, zSa, zSb, zSc, i64_w, i32_w]
    rfl
  refine take_ (i := 1) (N := some 6) (v := ?_) (a' := ?_) #[true, true, true, false, false, true, false, true, false, false, false, false] rfl rfl (take_ofW HT_.out HW_.out (by kernel_rfl)) (fun _ _ _ h => h) (Or.inl ⟨by rfl, ?_⟩) hHeld ?_ ?_
  rotate_left
  · rintro w' ⟨s0, s1, s2, s3⟩
    go_simp
    with_reducible rfl
  rotate_left
  · simp only [Act.put, zSa, zSb, zSc, i64_w, i32_w]
    rfl
  refine take_ (i := 3) (N := some 8) (v := ?_) (a' := ?_) #[true, true, true, true, false, true, false, true, false, false, false, false] rfl rfl (take_ofW HT_.out HW_.out (by kernel_rfl)) (fun _ _ _ h => h) (Or.inl ⟨by rfl, ?_⟩) hHeld ?_ ?_
  rotate_left
  · rintro w' ⟨s0, s1, s2, s3⟩
    go_simp
    with_reducible rfl
  rotate_left
  · simp only [Act.put, zSa, zSb, zSc, i64_w, i32_w]
    rfl
  refine pure_ (i := 4) (N := some 9) (v := ?_) (a' := ?_) #[true, true, true, true, true, true, false, true, false, false, false, false] rfl rfl (any_of HT_.out (by kernel_rfl)) (fun _ _ _ h => h) (Or.inl ⟨by rfl, ?_⟩) ?_ ?_
  rotate_left
  · intro w'
    go_simp
    with_reducible rfl
  rotate_left
  · simp only [Act.put, zSa, zSb, zSc, i64_w, i32_w]
    rfl
  refine take_ (i := 6) (N := some 11) (v := ?_) (a' := ?_) #[true, true, true, true, true, true, true, true, false, false, false, false] rfl rfl (take_ofW HT_.out HW_.out (by kernel_rfl)) (fun _ _ _ h => h) (Or.inl ⟨by rfl, ?_⟩) hHeld ?_ ?_
  rotate_left
  · rintro w' ⟨s0, s1, s2, s3⟩
    go_simp
    with_reducible rfl
  rotate_left
  · simp only [Act.put, zSa, zSb, zSc, i64_w, i32_w]
    rfl
  refine take_ (i := 8) (N := some 13) (v := ?_) (a' := ?_) #[true, true, true, true, true, true, true, true, true, false, false, false] rfl rfl (take_ofW HT_.out HW_.out (by kernel_rfl)) (fun _ _ _ h => h) (Or.inl ⟨by rfl, ?_⟩) hHeld ?_ ?_
  rotate_left
  · rintro w' ⟨s0, s1, s2, s3⟩
    go_simp
    with_reducible rfl
  rotate_left
  · simp only [Act.put, zSa, zSb, zSc, i64_w, i32_w]
    rfl
  refine one_ (i := 9) (N := some 14) #[true, true, true, true, true, true, true, true, true, true, false, false] rfl rfl (one_of HT_.out (by kernel_rfl)) (by decide) (fun K hK => ?_)
  refine goes_ Tryd.func46 (by kernel_rfl) rfl #[.slice A0_1 l0_1.length c0_1, .slice A1_1 l1_1.length c1_1] (by rfl) rfl rfl (by (try simp only [List.map_toArray, List.map_cons, List.map_nil]); first | done | rfl | (simp only [zLd, zLt]; rfl)) ?_
  with_reducible refine (r1_Mul.calls k _ _ l0_1 _ _ l1_1 t1053 _ ?side1 ?side2 ?side3 ?side4 A3.out).mono ?_
  (case side1 => repeat (first | exact (Kd.C_below HR0_1.out HB.out) | (with_reducible refine zCa ?_ _) | (with_reducible refine zCn ?_ _) | (with_reducible refine zCd ?_)))
  (case side2 => exact HC0_1.out)
  (case side3 => repeat (first | exact (Kd.C_below HR1_1.out HB.out) | (with_reducible refine zCa ?_ _) | (with_reducible refine zCn ?_ _) | (with_reducible refine zCd ?_)))
  (case side4 => exact HC1_1.out)
  rintro e w9 ⟨v1054, rfl, ho0, hb⟩
  refine ⟨_, rfl, ?_⟩
  have n0_ := zMk (Kd.R_lower ho0 (zBs (by repeat (first | (with_reducible first | exact HB.out | apply zBa | apply zBn | apply zBd | refine below_set ?_ GE1050.out | refine below_set ?_ GE1051.out | refine below_set ?_ GE1052.out) | exact HB.out))))
  have n1_ := zMk (blk_below (g := gb1050) (o := .cells #[.bool a0_0, .slice A0_1 l0_1.length c0_1] 24 (0, 0)) (by (with_reducible repeat (first | refine blk_drewN ?_ _ | refine blk_drew ?_ | refine blk_alloc ?_ _)); exact BK1050.out) hb)
  have n2_ := zMk (blk_below (g := gb1051) (o := .cells #[.bool a1_0, .slice A1_1 l1_1.length c1_1] 24 (0, 0)) (by (with_reducible repeat (first | refine blk_drewN ?_ _ | refine blk_drew ?_ | refine blk_alloc ?_ _)); exact BK1051.out) hb)
  have n3_ := zMk (blk_below (g := gb1052) (o := .cells #[.bool false, .slice none 0 0] 24 (0, 0)) (by (with_reducible repeat (first | refine blk_drewN ?_ _ | refine blk_drew ?_ | refine blk_alloc ?_ _)); exact BK1052.out) hb)
  have n4_ := zMk (zBt (by repeat (first | (with_reducible first | exact HB.out | apply zBa | apply zBn | apply zBd | refine below_set ?_ GE1050.out | refine below_set ?_ GE1051.out | refine below_set ?_ GE1052.out) | exact HB.out)) hb)
  clear BK1050
  clear BK1051
  clear BK1052
  clear HB
  have HO1055 := n0_
  have BK1050 := n1_
  have BK1051 := n2_
  have BK1052 := n3_
  have HB := n4_
  clear n0_ n1_ n2_ n3_ n4_
  (try clear hb)
  (try clear hb2)
  (try clear hk)
  (try clear hi)
  (try clear ho0)
  obtain ⟨Ao10, co10, eo10⟩ := Kd.R_slice HO1055.out
  (first | subst eo10 | (injection eo10 with f1_ f2_ f3_; have f4_ := f1_.symm; have f5_ := f3_.symm; clear f1_ f2_ f3_; subst f4_; subst f5_))
  refine hK.out _ _ ⟨(blk_cell BK1050.out 0).trans rfl, (blk_cell BK1050.out 1).trans rfl, (blk_cell BK1051.out 0).trans rfl, (blk_cell BK1051.out 1).trans rfl⟩ (fun hHeld => ?_)
  clear hK K
  refine norm_ (a' := ?_) ?_ ?_
  rotate_left
  · show Act.put _ (some 14) _ = _
    simp only [Act.put, zSa, zSb, zSc, i64_w, i32_w]
    rfl
  refine one_ (i := 10) (N := some 15) #[true, true, true, true, true, true, true, true, true, true, true, false] rfl rfl (one_of HT_.out (by kernel_rfl)) (by decide) (fun K hK => ?_)
  refine goes_ Tryd.func38 (by kernel_rfl) rfl #[.bool (a0_0 != a1_0), .slice Ao10 t1053.length co10] (by rfl) rfl rfl (by (try simp only [List.map_toArray, List.map_cons, List.map_nil]); first | done | rfl | (simp only [zLd, zLt]; rfl)) ?_
  with_reducible refine (filigreeref02_make2.calls k (a0_0 != a1_0) _ _ t1053 t1056 t1057 _ ?side1 ?side2 A4.out).mono ?_
  (case side1 => repeat (first | exact (Kd.R_reads' HO1055.out).2.2 | (with_reducible refine zCa ?_ _) | (with_reducible refine zCn ?_ _) | (with_reducible refine zCd ?_)))
  (case side2 => exact (Kd.R_reads' HO1055.out).2.1)
  rintro e w11 ⟨v1058, rfl, ho0, hb⟩
  refine ⟨_, rfl, ?_⟩
  have n0_ := zMk (Kd.R_elder' (by (with_reducible repeat (first | apply zRa | apply zRn | apply zRd)); exact HO1055.out) (Kd.R_base ho0) hb)
  have n1_ := zMk (Kd.R_lower (Kd.R_new' ho0 (Kd.R_lt (by (with_reducible repeat (first | apply zRa | apply zRn | apply zRd)); exact HO1055.out))) (zBs (by repeat (first | (with_reducible first | exact HB.out | apply zBa | apply zBn | apply zBd | refine below_set ?_ GE1050.out | refine below_set ?_ GE1051.out | refine below_set ?_ GE1052.out) | exact HB.out))))
  have n2_ := zMk (blk_below (g := gb1050) (o := .cells #[.bool a0_0, .slice A0_1 l0_1.length c0_1] 24 (0, 0)) (by (with_reducible repeat (first | refine blk_drewN ?_ _ | refine blk_drew ?_ | refine blk_alloc ?_ _)); exact BK1050.out) hb)
  have n3_ := zMk (blk_below (g := gb1051) (o := .cells #[.bool a1_0, .slice A1_1 l1_1.length c1_1] 24 (0, 0)) (by (with_reducible repeat (first | refine blk_drewN ?_ _ | refine blk_drew ?_ | refine blk_alloc ?_ _)); exact BK1051.out) hb)
  have n4_ := zMk (blk_below (g := gb1052) (o := .cells #[.bool false, .slice none 0 0] 24 (0, 0)) (by (with_reducible repeat (first | refine blk_drewN ?_ _ | refine blk_drew ?_ | refine blk_alloc ?_ _)); exact BK1052.out) hb)
  have n5_ := zMk (zBt (by repeat (first | (with_reducible first | exact HB.out | apply zBa | apply zBn | apply zBd | refine below_set ?_ GE1050.out | refine below_set ?_ GE1051.out | refine below_set ?_ GE1052.out) | exact HB.out)) hb)
  clear HO1055
  clear BK1050
  clear BK1051
  clear BK1052
  clear HB
  have HO1055 := n0_
  have HO1059 := n1_
  have BK1050 := n2_
  have BK1051 := n3_
  have BK1052 := n4_
  have HB := n5_
  clear n0_ n1_ n2_ n3_ n4_ n5_
  (try clear hb)
  (try clear hb2)
  (try clear hk)
  (try clear hi)
  (try clear ho0)
  obtain ⟨Ao13, co13, eo13⟩ := Kd.R_slice HO1059.out
  (first | subst eo13 | (injection eo13 with f1_ f2_ f3_; have f4_ := f1_.symm; have f5_ := f3_.symm; clear f1_ f2_ f3_; subst f4_; subst f5_))
  refine hK.out _ _ ⟨(blk_cell BK1050.out 0).trans rfl, (blk_cell BK1050.out 1).trans rfl, (blk_cell BK1051.out 0).trans rfl, (blk_cell BK1051.out 1).trans rfl⟩ (fun hHeld => ?_)
  clear hK K
  refine norm_ (a' := ?_) ?_ ?_
  rotate_left
  · show Act.put _ (some 15) _ = _
    simp only [Act.put, zSa, zSb, zSc, i64_w, i32_w]
    rfl
  refine one_ (i := 11) (N := none) #[true, true, true, true, true, true, true, true, true, true, true, true] rfl rfl (one_of HT_.out (by kernel_rfl)) (by decide) (fun K hK => ?_)
  have hs12 : w11.cell? ⟨gb1052, 0, none⟩ = some (.bool false) := (blk_cell BK1052.out 0).trans rfl
  have hfs12 := blk_frozen BK1052.out 0
  have hns12_0 := NB1050_1052.out
  have hns12_1 := NB1051_1052.out
  have hms12_0 := NB1052_1050.out
  have hms12_1 := NB1052_1051.out
  have hs14 : w11.cell? ⟨gb1052, 1, none⟩ = some (.slice none 0 0) := (blk_cell BK1052.out 1).trans rfl
  have hfs14 := blk_frozen BK1052.out 1
  have hns14_0 := NB1050_1052.out
  have hns14_1 := NB1051_1052.out
  have hms14_0 := NB1052_1050.out
  have hms14_1 := NB1052_1051.out
  refine skip_ (w1 := ?_) (by rfl) rfl ?_ ?_
  rotate_left
  · go_simp
    rfl
  refine hK.out _ _ ⟨((cell_far (p := ⟨gb1052, _, none⟩) NB1050_1052.out _).trans (((cell_far (p := ⟨gb1052, _, none⟩) NB1050_1052.out _).trans (hHeld.1)))), ((cell_far (p := ⟨gb1052, _, none⟩) NB1050_1052.out _).trans (((cell_far (p := ⟨gb1052, _, none⟩) NB1050_1052.out _).trans (hHeld.2.1)))), ((cell_far (p := ⟨gb1052, _, none⟩) NB1051_1052.out _).trans (((cell_far (p := ⟨gb1052, _, none⟩) NB1051_1052.out _).trans (hHeld.2.2.1)))), ((cell_far (p := ⟨gb1052, _, none⟩) NB1051_1052.out _).trans (((cell_far (p := ⟨gb1052, _, none⟩) NB1051_1052.out _).trans (hHeld.2.2.2))))⟩ (fun hHeld => ?_)
  clear hK K
  refine done_ (done_of HT_.out (by kernel_rfl)) ?_
  try go_wp2
  refine bodyPost_ret (results_cell_row rfl _ _ gb1052 24 #[.bool t1056, .slice Ao13 t1057.length co13] (0, 0) _ rfl (by (with_reducible repeat (first | refine blk_drewN ?_ _ | refine blk_drew ?_ | refine blk_alloc ?_ _)); refine blk_put (cs := #[.bool t1056, .slice none 0 0]) ?_ 1 _ rfl; (with_reducible repeat (first | refine blk_drewN ?_ _ | refine blk_drew ?_ | refine blk_alloc ?_ _)); refine blk_put (cs := #[.bool false, .slice none 0 0]) ?_ 0 _ rfl; (with_reducible repeat (first | refine blk_drewN ?_ _ | refine blk_drew ?_ | refine blk_alloc ?_ _)); exact BK1052.out) Tryd.underlying24 rfl (by kernel_rfl)) rfl ?_
  exact ⟨_, by first | rfl | (simp [errW_none, errW_some] <;> rfl) | (simp [*, errW_none, errW_some] <;> rfl), by (with_reducible repeat (first | apply zRa | apply zRn | apply zRd)); exact zRm (Kd.R_far (p := ⟨gb1052, 1, none⟩) (Kd.R_far (p := ⟨gb1052, 0, none⟩) (Kd.R_types HO1059.out BK1052.out (by decide)) (fun _ hk => hk.2) (.bool t1056)) (fun _ hk => hk.2) (.slice Ao13 t1057.length co13)) (fun _ hk => trivial), by repeat (first | (with_reducible first | exact HB.out | apply zBa | apply zBn | apply zBd | refine below_set ?_ GE1050.out | refine below_set ?_ GE1051.out | refine below_set ?_ GE1052.out) | exact HB.out)⟩


/-! ### filigreeref02_Same: function 16 -/
def filigreeref02_Same.f (k : Nat) (a0_0 : Bool) (l0_1 : List Int) (a1_0 : Bool) (l1_1 : List Int) : Option (Bool) := if (a0_0 == a1_0) = true then ((r1_Same.f k l0_1 l1_1).bind fun t425 => (some t425)) else (some false)
set_option maxHeartbeats 8000000 in
set_option maxRecDepth 100000 in
theorem filigreeref02_Same.calls (k : Nat) (a0_0 : Bool) (A0_1 : Option Addr) (c0_1 : Nat) (l0_1 : List Int) (a1_0 : Bool) (A1_1 : Option Addr) (c1_1 : Nat) (l1_1 : List Int) (r : Bool) (w : World) (hr0_1 : Kd.C (Kd.int .u32) w A0_1 l0_1.length l0_1) (hc0_1 : l0_1.length ≤ c0_1) (hr1_1 : Kd.C (Kd.int .u32) w A1_1 l1_1.length l1_1) (hc1_1 : l1_1.length ≤ c1_1) (h : filigreeref02_Same.f k a0_0 l0_1 a1_0 l1_1 = some r) :
    Calls Tryd.prog 16 #[.agg #[.bool a0_0, .slice A0_1 l0_1.length c0_1], .agg #[.bool a1_0, .slice A1_1 l1_1.length c1_1]] w fun e w' => e = .returned (.bool r) ∧ Below w.heap.size w w' := by
  have hu24 := Tryd.underlying24
  have HR0_1 := zMk hr0_1
  have HC0_1 := zMk hc0_1
  clear hr0_1 hc0_1
  have HR1_1 := zMk hr1_1
  have HC1_1 := zMk hc1_1
  clear hr1_1 hc1_1
  have HB := zMk (Below.refl w.heap.size w)
  have H : (if (a0_0 == a1_0) = true then ((r1_Same.f k l0_1 l1_1).bind fun t425 => (some t425)) else (some false)) = some r := h
  clear h
  by_cases c3 : (a0_0 == a1_0) = true
  · rw [if_pos c3] at H
    have c3b0 : (a0_0 == a1_0) = true := c3
    (try (have c3b1 : decide (a0_0 = a1_0) = true := by simpa using c3))
    (try (have c3b2 : (a0_0 == a1_0) = true := by simpa using c3))
    clear c3
    replace H := Option.bind_eq_some_iff.mp H
    obtain ⟨t425, A40, H⟩ := H
    have A4 := zMk A40
    clear A40
    obtain rfl := zOi H
    go_enter Tryd.func16, Tryd.ntmps16
    go_wp2_with (first | ((with_reducible refine gate_dst (N := 2) rfl ?_); refine box_event ?hg (N := 2) ?hd (cs := #[.bool a0_0, .slice A0_1 l0_1.length c0_1]) (t := 24) ?hr ?_; (case hd => rfl); (case hg => rfl); (case hr => first | (go_simp; done) | (go_simp; rfl) | (go_simp; rw [show ∀ x : Int, IntKind.u32.wrap (IntKind.u8.wrap x) = x % 256 from fun x => (by show (x % 256) % 4294967296 = x % 256; omega)])); intro gb423 hg w5 hbox hb; have n0_ := zMk (zBt (by repeat (first | (with_reducible first | exact HB.out | apply zBa | apply zBn | apply zBd) | exact HB.out)) hb); have n1_ := zMk (hbox); have n2_ := zMk ((by rw [hg]; exact (zBs (by repeat (first | (with_reducible first | exact HB.out | apply zBa | apply zBn | apply zBd) | exact HB.out))) : w.heap.size ≤ gb423)); have n3_ := zMk ((by rw [hg]; exact (zBs (by repeat (first | (with_reducible first | exact HB.out | apply zBa | apply zBn | apply zBd) | exact HB.out))) : w.heap.size ≤ gb423)); clear HB; have HB := n0_; have BK423 := n1_; have GW423 := n2_; have GE423 := n3_; clear n0_ n1_ n2_ n3_; clear hb hbox hg) | ((with_reducible refine gate_dst (N := 3) rfl ?_); refine box_event ?hg (N := 3) ?hd (cs := #[.bool a1_0, .slice A1_1 l1_1.length c1_1]) (t := 24) ?hr ?_; (case hd => rfl); (case hg => rfl); (case hr => first | (go_simp; done) | (go_simp; rfl) | (go_simp; rw [show ∀ x : Int, IntKind.u32.wrap (IntKind.u8.wrap x) = x % 256 from fun x => (by show (x % 256) % 4294967296 = x % 256; omega)])); intro gb424 hg w6 hbox hb; have n0_ := zMk (blk_below (g := gb423) (o := .cells #[.bool a0_0, .slice A0_1 l0_1.length c0_1] 24 (0, 0)) (by (with_reducible repeat (first | refine blk_drewN ?_ _ | refine blk_drew ?_ | refine blk_alloc ?_ _)); exact BK423.out) hb); have n1_ := zMk (zBt (by repeat (first | (with_reducible first | exact HB.out | apply zBa | apply zBn | apply zBd | refine below_set ?_ GE423.out) | exact HB.out)) hb); have n2_ := zMk (hbox); have n3_ := zMk ((by rw [hg]; exact (zBs (by repeat (first | (with_reducible first | exact HB.out | apply zBa | apply zBn | apply zBd | refine below_set ?_ GE423.out) | exact HB.out))) : w.heap.size ≤ gb424)); have n4_ := zMk ((by rw [hg]; exact (zBs (by repeat (first | (with_reducible first | exact HB.out | apply zBa | apply zBn | apply zBd | refine below_set ?_ GE423.out) | exact HB.out))) : w.heap.size ≤ gb424)); have n5_ := zMk ((by rw [hg]; exact Nat.ne_of_lt (blk_lt (g := gb423) (o := .cells #[.bool a0_0, .slice A0_1 l0_1.length c0_1] 24 (0, 0)) (by (with_reducible repeat (first | refine blk_drewN ?_ _ | refine blk_drew ?_ | refine blk_alloc ?_ _)); exact BK423.out)) : gb423 ≠ gb424)); have n6_ := zMk ((by rw [hg]; exact Nat.ne_of_gt (blk_lt (g := gb423) (o := .cells #[.bool a0_0, .slice A0_1 l0_1.length c0_1] 24 (0, 0)) (by (with_reducible repeat (first | refine blk_drewN ?_ _ | refine blk_drew ?_ | refine blk_alloc ?_ _)); exact BK423.out)) : gb424 ≠ gb423)); clear BK423; clear HB; have BK423 := n0_; have HB := n1_; have BK424 := n2_; have GW424 := n3_; have GE424 := n4_; have NB423_424 := n5_; have NB424_423 := n6_; clear n0_ n1_ n2_ n3_ n4_ n5_ n6_; clear hb hbox hg; have hnb7 := NB423_424.out; have hnc7 := NB424_423.out; have hcz8_0 : w6.cell? ⟨gb423, 0, none⟩ = some (.bool a0_0) := (blk_cell BK423.out 0).trans rfl; have hcz8_1 : w6.cell? ⟨gb423, 1, none⟩ = some (.slice A0_1 l0_1.length c0_1) := (blk_cell BK423.out 1).trans rfl; have hfz8_0 := blk_frozen BK423.out 0; have hfz8_1 := blk_frozen BK423.out 1; have hcz9_0 : w6.cell? ⟨gb424, 0, none⟩ = some (.bool a1_0) := (blk_cell BK424.out 0).trans rfl; have hcz9_1 : w6.cell? ⟨gb424, 1, none⟩ = some (.slice A1_1 l1_1.length c1_1) := (blk_cell BK424.out 1).trans rfl; have hfz9_0 := blk_frozen BK424.out 0; have hfz9_1 := blk_frozen BK424.out 1) | (go_at_call 40; (with_reducible refine (r1_Same.calls k _ _ l0_1 _ _ l1_1 t425 _ ?side1 ?side2 ?side3 ?side4 A4.out).mono ?_); (case side1 => repeat (first | exact (Kd.C_below HR0_1.out HB.out) | (with_reducible refine zCa ?_ _) | (with_reducible refine zCn ?_ _) | (with_reducible refine zCd ?_))); (case side2 => exact HC0_1.out); (case side3 => repeat (first | exact (Kd.C_below HR1_1.out HB.out) | (with_reducible refine zCa ?_ _) | (with_reducible refine zCn ?_ _) | (with_reducible refine zCd ?_))); (case side4 => exact HC1_1.out); rintro e w' ⟨rfl, ⟨nd, rfl⟩⟩))
    go_ret
    exact ⟨by first | rfl | (simp [errW_none, errW_some] <;> rfl) | (simp [*, errW_none, errW_some] <;> rfl), by repeat (first | (with_reducible first | exact HB.out | apply zBa | apply zBn | apply zBd | refine below_set ?_ GE423.out | refine below_set ?_ GE424.out) | exact HB.out)⟩
  · rw [if_neg c3] at H
    have c3b0 : (a0_0 == a1_0) = false := by simpa using c3
    (try (have c3b1 : decide (a0_0 = a1_0) = false := by simpa using c3))
    (try (have c3b2 : (a0_0 == a1_0) = false := by simpa using c3))
    (try (have c3b3 : ¬ (a0_0 = a1_0) := by simpa using c3))
    clear c3
    obtain rfl := zOi H
    go_enter Tryd.func16, Tryd.ntmps16
    go_wp2_with (first | ((with_reducible refine gate_dst (N := 2) rfl ?_); refine box_event ?hg (N := 2) ?hd (cs := #[.bool a0_0, .slice A0_1 l0_1.length c0_1]) (t := 24) ?hr ?_; (case hd => rfl); (case hg => rfl); (case hr => first | (go_simp; done) | (go_simp; rfl) | (go_simp; rw [show ∀ x : Int, IntKind.u32.wrap (IntKind.u8.wrap x) = x % 256 from fun x => (by show (x % 256) % 4294967296 = x % 256; omega)])); intro gb423 hg w10 hbox hb; have n0_ := zMk (zBt (by repeat (first | (with_reducible first | exact HB.out | apply zBa | apply zBn | apply zBd) | exact HB.out)) hb); have n1_ := zMk (hbox); have n2_ := zMk ((by rw [hg]; exact (zBs (by repeat (first | (with_reducible first | exact HB.out | apply zBa | apply zBn | apply zBd) | exact HB.out))) : w.heap.size ≤ gb423)); have n3_ := zMk ((by rw [hg]; exact (zBs (by repeat (first | (with_reducible first | exact HB.out | apply zBa | apply zBn | apply zBd) | exact HB.out))) : w.heap.size ≤ gb423)); clear HB; have HB := n0_; have BK423 := n1_; have GW423 := n2_; have GE423 := n3_; clear n0_ n1_ n2_ n3_; clear hb hbox hg) | ((with_reducible refine gate_dst (N := 3) rfl ?_); refine box_event ?hg (N := 3) ?hd (cs := #[.bool a1_0, .slice A1_1 l1_1.length c1_1]) (t := 24) ?hr ?_; (case hd => rfl); (case hg => rfl); (case hr => first | (go_simp; done) | (go_simp; rfl) | (go_simp; rw [show ∀ x : Int, IntKind.u32.wrap (IntKind.u8.wrap x) = x % 256 from fun x => (by show (x % 256) % 4294967296 = x % 256; omega)])); intro gb424 hg w11 hbox hb; have n0_ := zMk (blk_below (g := gb423) (o := .cells #[.bool a0_0, .slice A0_1 l0_1.length c0_1] 24 (0, 0)) (by (with_reducible repeat (first | refine blk_drewN ?_ _ | refine blk_drew ?_ | refine blk_alloc ?_ _)); exact BK423.out) hb); have n1_ := zMk (zBt (by repeat (first | (with_reducible first | exact HB.out | apply zBa | apply zBn | apply zBd | refine below_set ?_ GE423.out) | exact HB.out)) hb); have n2_ := zMk (hbox); have n3_ := zMk ((by rw [hg]; exact (zBs (by repeat (first | (with_reducible first | exact HB.out | apply zBa | apply zBn | apply zBd | refine below_set ?_ GE423.out) | exact HB.out))) : w.heap.size ≤ gb424)); have n4_ := zMk ((by rw [hg]; exact (zBs (by repeat (first | (with_reducible first | exact HB.out | apply zBa | apply zBn | apply zBd | refine below_set ?_ GE423.out) | exact HB.out))) : w.heap.size ≤ gb424)); have n5_ := zMk ((by rw [hg]; exact Nat.ne_of_lt (blk_lt (g := gb423) (o := .cells #[.bool a0_0, .slice A0_1 l0_1.length c0_1] 24 (0, 0)) (by (with_reducible repeat (first | refine blk_drewN ?_ _ | refine blk_drew ?_ | refine blk_alloc ?_ _)); exact BK423.out)) : gb423 ≠ gb424)); have n6_ := zMk ((by rw [hg]; exact Nat.ne_of_gt (blk_lt (g := gb423) (o := .cells #[.bool a0_0, .slice A0_1 l0_1.length c0_1] 24 (0, 0)) (by (with_reducible repeat (first | refine blk_drewN ?_ _ | refine blk_drew ?_ | refine blk_alloc ?_ _)); exact BK423.out)) : gb424 ≠ gb423)); clear BK423; clear HB; have BK423 := n0_; have HB := n1_; have BK424 := n2_; have GW424 := n3_; have GE424 := n4_; have NB423_424 := n5_; have NB424_423 := n6_; clear n0_ n1_ n2_ n3_ n4_ n5_ n6_; clear hb hbox hg; have hnb12 := NB423_424.out; have hnc12 := NB424_423.out; have hcz13_0 : w11.cell? ⟨gb423, 0, none⟩ = some (.bool a0_0) := (blk_cell BK423.out 0).trans rfl; have hcz13_1 : w11.cell? ⟨gb423, 1, none⟩ = some (.slice A0_1 l0_1.length c0_1) := (blk_cell BK423.out 1).trans rfl; have hfz13_0 := blk_frozen BK423.out 0; have hfz13_1 := blk_frozen BK423.out 1; have hcz14_0 : w11.cell? ⟨gb424, 0, none⟩ = some (.bool a1_0) := (blk_cell BK424.out 0).trans rfl; have hcz14_1 : w11.cell? ⟨gb424, 1, none⟩ = some (.slice A1_1 l1_1.length c1_1) := (blk_cell BK424.out 1).trans rfl; have hfz14_0 := blk_frozen BK424.out 0; have hfz14_1 := blk_frozen BK424.out 1))
    go_ret
    exact ⟨by first | rfl | (simp [errW_none, errW_some] <;> rfl) | (simp [*, errW_none, errW_some] <;> rfl), by repeat (first | (with_reducible first | exact HB.out | apply zBa | apply zBn | apply zBd | refine below_set ?_ GE423.out | refine below_set ?_ GE424.out) | exact HB.out)⟩

/- Whole numbers: a sign and limbs in their normal form; sums, differences, products. -/
/-- A number with a sign. -/
def sg (b : Bool) (v : Int) : Int := if b = true then -v else v
structure IsInt (b : Bool) (l : List Int) (z : Int) : Prop where
  num : IsNum l (z.natAbs : Int)
  neg : b = decide (z < 0)
theorem IsInt.unique {b b' : Bool} {l l' : List Int} {z : Int} (h : IsInt b l z) (h' : IsInt b' l' z) : b = b' ∧ l = l' := ⟨h.neg.trans h'.neg.symm, h.num.unique h'.num⟩
theorem IsInt.sg {b : Bool} {l : List Int} {z : Int} (h : IsInt b l z) : Go.Proofs.YtnjmnicgknggfaaDoor.G.sg b (val l) = z := by
  rw [h.num.eq, h.neg]
  unfold Go.Proofs.YtnjmnicgknggfaaDoor.G.sg
  by_cases c : z < 0
  · rw [decide_eq_true c, if_pos rfl]; omega
  · rw [decide_eq_false c, if_neg (by decide)]; omega
theorem pos_len {l : List Int} (h : Limbs l) (t : Trim l) : (decide ((l.length : Int) > 0)) = decide (0 < val l) := by
  rcases Classical.em (l = []) with h0 | h0
  · subst h0; rfl
  · have h1 := val_pos h t h0
    have h2 : 0 < l.length := List.length_pos_iff.2 h0
    rw [decide_eq_true h1, decide_eq_true (by omega)]
theorem isInt_cut (b : Bool) {l : List Int} (h : Limbs l) : IsInt (b && decide (0 < val l)) (cut l) (Go.Proofs.YtnjmnicgknggfaaDoor.G.sg b (val l)) := by
  have hn := IsNum.cut h
  have h0 := val_nonneg h
  cases b with
  | true =>
    refine ⟨?_, ?_⟩
    · rw [show ((Go.Proofs.YtnjmnicgknggfaaDoor.G.sg true (val l)).natAbs : Int) = val l by unfold Go.Proofs.YtnjmnicgknggfaaDoor.G.sg; rw [if_pos rfl]; omega]; exact hn
    · rw [Bool.true_and]; refine decide_eq_decide.2 ?_; unfold Go.Proofs.YtnjmnicgknggfaaDoor.G.sg; rw [if_pos rfl]; omega
  | false =>
    refine ⟨?_, ?_⟩
    · rw [show ((Go.Proofs.YtnjmnicgknggfaaDoor.G.sg false (val l)).natAbs : Int) = val l by unfold Go.Proofs.YtnjmnicgknggfaaDoor.G.sg; rw [if_neg (by decide)]; omega]; exact hn
    · rw [Bool.false_and]; symm; refine decide_eq_false ?_; unfold Go.Proofs.YtnjmnicgknggfaaDoor.G.sg; rw [if_neg (by decide)]; omega
theorem signed_f (b : Bool) (l : List Int) (h : Limbs l) (hl : l.length < 35184372088832) : ∃ x y, integer_signed.f b l = some (x, y) ∧ IsInt x y (sg b (val l)) ∧ y.length ≤ l.length := by
  have hn := IsNum.cut h
  refine ⟨b && decide (0 < val l), cut l, ?_, isInt_cut b h, cut_length l⟩
  unfold integer_signed.f
  rw [nnorm_f l hl, zOb, pos_len hn.limbs hn.trim, hn.eq]
  cases b with
  | true => rw [if_pos rfl, Bool.true_and]
  | false => rw [if_neg (by decide), Bool.false_and]
theorem make2_f (b : Bool) (l : List Int) (h : Limbs l) (hl : l.length < 35184372088832) (k : Nat) (hk : l.length < k) : ∃ x y, filigreeref02_make2.f k b l = some (x, y) ∧ IsInt x y (sg b (val l)) ∧ y.length ≤ l.length := by
  have hn := IsNum.cut h
  refine ⟨b && decide (0 < val l), cut l, ?_, isInt_cut b h, cut_length l⟩
  unfold filigreeref02_make2.f
  rw [norm_f l hl k hk, zOb, pos_len hn.limbs hn.trim, hn.eq]
  cases b with
  | true => rw [if_pos rfl, Bool.true_and]
  | false => rw [if_neg (by decide), Bool.false_and]
theorem sg_add (b : Bool) (x y : Int) : sg b (x + y) = sg b x + sg b y := by unfold sg; split <;> omega
theorem sg_not (b : Bool) (x : Int) : sg (!b) x = - sg b x := by cases b <;> simp [sg]
theorem sg_ne {a b : Bool} (h : (a == b) = false) (x y : Int) : sg a (x - y) = sg a x + sg b y ∧ sg b (y - x) = sg a x + sg b y := by
  cases a <;> cases b <;> simp [sg] at h ⊢ <;> omega
theorem sg_mul (a b : Bool) (x y : Int) : sg (a != b) (x * y) = sg a x * sg b y := by
  cases a <;> cases b <;> simp [sg, Int.neg_mul, Int.mul_neg]
/-- An answer that is a number with a sign. -/
def TellsInt (o : Option (Bool × List Int)) (z : Int) (n : Nat) : Prop := ∃ x y, o = some (x, y) ∧ IsInt x y z ∧ y.length ≤ n
theorem len_of_num {l : List Int} {v : Int} {m : Nat} (h : IsNum l v) (hv : v < Bp m) : l.length ≤ m := len_of_lt h hv
theorem iadd_f (a b : Bool) (x y : List Int) (hx : Limbs x) (hy : Limbs y) (lx : x.length ≤ 100000) (ly : y.length ≤ 100000) (k : Nat) (hk : 200000 ≤ k) :
    TellsInt (integer_Add.f k a x b y) (sg a (val x) + sg b (val y)) (max x.length y.length + 1) := by
  unfold integer_Add.f
  by_cases c : (a == b) = true
  · rw [if_pos c]
    obtain ⟨r, e, n, l⟩ := add_f x y hx hy (by omega) (by omega) k (by omega) (by omega)
    obtain ⟨p, q, e2, i, l2⟩ := signed_f a r n.limbs (by omega)
    rw [n.eq, sg_add] at i
    obtain rfl : a = b := by simpa using c
    refine ⟨p, q, ?_, i, by omega⟩
    rw [e, zOb, e2, zOb]
  · rw [if_neg c]
    have c' : (a == b) = false := by simpa using c
    rcases sub_f x y hx hy (by omega) k (by omega) with ⟨hlt, e⟩ | ⟨hle, r, e, n, l⟩
    · rcases sub_f y x hy hx (by omega) k (by omega) with ⟨hlt2, _⟩ | ⟨hle2, r, e1, n, l⟩
      · omega
      · obtain ⟨p, q, e2, i, l2⟩ := signed_f b r n.limbs (by omega)
        rw [n.eq, (sg_ne c' (val x) (val y)).2] at i
        refine ⟨p, q, ?_, i, by omega⟩
        rw [e, zOb, if_neg (by decide), e1, zOb, e2, zOb]
    · obtain ⟨p, q, e2, i, l2⟩ := signed_f a r n.limbs (by omega)
      rw [n.eq, (sg_ne c' (val x) (val y)).1] at i
      refine ⟨p, q, ?_, i, by omega⟩
      rw [e, zOb, if_pos rfl, e2, zOb]
theorem neg_int (a : Bool) (x : List Int) (hx : Limbs x) (lx : x.length ≤ 100000) : TellsInt (integer_Neg.f a x) (- sg a (val x)) x.length := by
  obtain ⟨p, q, e, i, l⟩ := signed_f (!a) x hx (by omega)
  rw [sg_not] at i
  refine ⟨p, q, ?_, i, l⟩
  unfold integer_Neg.f
  rw [e, zOb]
theorem isub_f (a b : Bool) (x y : List Int) (hx : Limbs x) (hy : Limbs y) (lx : x.length ≤ 100000) (ly : y.length ≤ 100000) (k : Nat) (hk : 200000 ≤ k) :
    TellsInt (integer_Sub.f k a x b y) (sg a (val x) - sg b (val y)) (max x.length y.length + 1) := by
  obtain ⟨p, q, e, i, l⟩ := neg_int b y hy ly
  obtain ⟨p2, q2, e2, i2, l2⟩ := iadd_f a p x q hx i.num.limbs lx (by omega) k hk
  rw [i.sg] at i2
  refine ⟨p2, q2, ?_, i2, by omega⟩
  unfold integer_Sub.f
  rw [e, zOb, e2, zOb]
theorem imul_f (a b : Bool) (x y : List Int) (hx : Limbs x) (hy : Limbs y) (lx : x.length ≤ 500) (ly : y.length ≤ 500) (k : Nat) (hk : 300000 ≤ k) :
    TellsInt (integer_Mul.f k a x b y) (sg a (val x) * sg b (val y)) (x.length + y.length) := by
  have hb : (y.length + 2) * x.length ≤ 502 * 500 := Nat.mul_le_mul (by omega) lx
  obtain ⟨r, e, n, l⟩ := mul_f x y hx hy (by omega) k (by omega)
  obtain ⟨p, q, e2, i, l2⟩ := signed_f (a != b) r n.limbs (by omega)
  rw [n.eq, sg_mul] at i
  refine ⟨p, q, ?_, i, by omega⟩
  unfold integer_Mul.f
  rw [e, zOb, e2, zOb]
theorem rneg_int (a : Bool) (x : List Int) (hx : Limbs x) (lx : x.length ≤ 100000) (k : Nat) (hk : 200000 ≤ k) : TellsInt (filigreeref02_Neg.f k a x) (- sg a (val x)) x.length := by
  obtain ⟨p, q, e, i, l⟩ := make2_f (!a) x hx (by omega) k (by omega)
  rw [sg_not] at i
  refine ⟨p, q, ?_, i, l⟩
  unfold filigreeref02_Neg.f
  rw [e, zOb]
theorem sum_B {x y : List Int} (hx : Limbs x) (hy : Limbs y) : val x + val y < Bp (max x.length y.length + 1) := by
  have h1 := Int.lt_of_lt_of_le (val_ltB hx) (pow_upB (Nat.le_max_left x.length y.length))
  have h2 := Int.lt_of_lt_of_le (val_ltB hy) (pow_upB (Nat.le_max_right x.length y.length))
  have h3 := Bp_pos (max x.length y.length)
  rw [Bp_succ]
  omega
theorem riadd_f (a b : Bool) (x y : List Int) (hx : Limbs x) (hy : Limbs y) (lx : x.length ≤ 500) (ly : y.length ≤ 500) (k : Nat) (hk : 300000 ≤ k) :
    TellsInt (filigreeref02_Add.f k a x b y) (sg a (val x) + sg b (val y)) (max x.length y.length + 1) := by
  unfold filigreeref02_Add.f
  have hs := sum_B hx hy
  have x0 := val_nonneg hx
  have y0 := val_nonneg hy
  by_cases c : (a == b) = true
  · rw [if_pos c]
    obtain ⟨r, e, n⟩ := radd_f x y hx hy (by omega) (by omega) k (by omega)
    have l := len_of_num n hs
    obtain ⟨p, q, e2, i, l2⟩ := make2_f a r n.limbs (by omega) k (by omega)
    rw [n.eq, sg_add] at i
    obtain rfl : a = b := by simpa using c
    refine ⟨p, q, ?_, i, by omega⟩
    rw [e, zOb, e2, zOb]
  · rw [if_neg c]
    have c' : (a == b) = false := by simpa using c
    rw [rcmp_f x y hx hy (by omega) (by omega) k (by omega), zOb]
    by_cases hc : val y ≤ val x
    · have hge : cmpI (val x) (val y) ≥ 0 := by
        unfold cmpI
        rw [if_neg (by omega)]
        split <;> omega
      rw [if_pos hge]
      rcases rsub_f x y hx hy (by omega) (by omega) k (by omega) with ⟨hlt, _⟩ | ⟨_, r, e, n⟩
      · omega
      · have l := len_of_num n (Int.lt_of_le_of_lt (show val x - val y ≤ val x + val y by omega) hs)
        obtain ⟨p, q, e2, i, l2⟩ := make2_f a r n.limbs (by omega) k (by omega)
        rw [n.eq, (sg_ne c' (val x) (val y)).1] at i
        refine ⟨p, q, ?_, i, by omega⟩
        rw [e, zOb, e2, zOb]
    · have hlt : ¬ cmpI (val x) (val y) ≥ 0 := by unfold cmpI; rw [if_pos (by omega)]; omega
      rw [if_neg hlt]
      rcases rsub_f y x hy hx (by omega) (by omega) k (by omega) with ⟨hlt2, _⟩ | ⟨_, r, e, n⟩
      · omega
      · have l := len_of_num n (Int.lt_of_le_of_lt (show val y - val x ≤ val x + val y by omega) hs)
        obtain ⟨p, q, e2, i, l2⟩ := make2_f b r n.limbs (by omega) k (by omega)
        rw [n.eq, (sg_ne c' (val x) (val y)).2] at i
        refine ⟨p, q, ?_, i, by omega⟩
        rw [e, zOb, e2, zOb]
theorem risub_f (a b : Bool) (x y : List Int) (hx : Limbs x) (hy : Limbs y) (lx : x.length ≤ 500) (ly : y.length ≤ 500) (k : Nat) (hk : 300000 ≤ k) :
    TellsInt (filigreeref02_Sub.f k a x b y) (sg a (val x) - sg b (val y)) (max x.length y.length + 1) := by
  obtain ⟨p, q, e, i, l⟩ := rneg_int b y hy (by omega) k (by omega)
  obtain ⟨p2, q2, e2, i2, l2⟩ := riadd_f a p x q hx i.num.limbs lx (by omega) k hk
  rw [i.sg] at i2
  refine ⟨p2, q2, ?_, i2, by omega⟩
  unfold filigreeref02_Sub.f
  rw [e, zOb, e2, zOb]
theorem prod_B {x y : List Int} (hx : Limbs x) (hy : Limbs y) : val x * val y < Bp (x.length + y.length) := by
  have h1 := val_ltB hx
  have h2 := val_ltB hy
  rw [Bp_add]
  rcases Int.lt_or_le 0 (val y) with h | h
  · exact Int.lt_of_lt_of_le (Int.mul_lt_mul_of_pos_right h1 h) (Int.mul_le_mul_of_nonneg_left (Int.le_of_lt h2) (Int.le_of_lt (Bp_pos _)))
  · have : val y = 0 := by have := val_nonneg hy; omega
    rw [this, Int.mul_zero]
    exact Int.mul_pos (Bp_pos _) (Bp_pos _)
theorem rimul_f (a b : Bool) (x y : List Int) (hx : Limbs x) (hy : Limbs y) (lx : x.length ≤ 500) (ly : y.length ≤ 500) (k : Nat) (hk : 300000 ≤ k) :
    TellsInt (filigreeref02_Mul.f k a x b y) (sg a (val x) * sg b (val y)) (x.length + y.length) := by
  obtain ⟨r, e, n⟩ := rmul_f x y hx hy (by omega) (by omega) k (by omega)
  have l := len_of_num n (prod_B hx hy)
  obtain ⟨p, q, e2, i, l2⟩ := make2_f (a != b) r n.limbs (by omega) k (by omega)
  rw [n.eq, sg_mul] at i
  refine ⟨p, q, ?_, i, by omega⟩
  unfold filigreeref02_Mul.f
  rw [e, zOb, e2, zOb]
theorem isame_f (b : Bool) (l : List Int) (hl : l.length < 100000) (k : Nat) (hk : 100000 ≤ k) : filigreeref02_Same.f k b l b l = some true := by
  unfold filigreeref02_Same.f
  rw [if_pos (by simp), same_f l (by omega) k (by omega)]
  rfl
end Go.Proofs.YtnjmnicgknggfaaDoor.G
