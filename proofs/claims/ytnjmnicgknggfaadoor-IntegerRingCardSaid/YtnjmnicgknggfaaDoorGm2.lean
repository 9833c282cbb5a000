/- Lemmas for the statement: the walks of the functions that it reaches, and plain laws. -/
import Derived.Test.YtnjmnicgknggfaaDoorGm1
set_option linter.unusedVariables false
set_option linter.unusedSimpArgs false
set_option maxHeartbeats 8000000
set_option maxRecDepth 100000
namespace Go.Proofs.YtnjmnicgknggfaaDoor.G
open Go Go.RowKit Go.Proofs.YtnjmnicgknggfaaDoorW.PrintWords Go.Proofs.YtnjmnicgknggfaaDoorW.PrintLast Go.Proofs.YtnjmnicgknggfaaDoorW.PrintMore
attribute [local go_sem] max2_int min2_int max_two min_two max_three min_three max_four min_four
open Go.Proofs.YtnjmnicgknggfaaDoorW.PrintWords.Kd renaming R_alloc → zRa, R_drewN → zRn, R_drew → zRd, V_alloc → zVa, V_drewN → zVn, V_drew → zVd, V_below → zVb, C_alloc → zCa, C_drewN → zCn, C_drew → zCd, R_mono → zRm, V_mono → zVm, at_int → zAi, R_elder' → zRe, R_lower → zRl, R_new' → zRw, R_lt → zRt, R_below → zRb, R_base → zRz, R_reads' → zRr, R_slice → zRs, V_elder' → zVe, V_lower → zVl, V_slice → zVs, V_reads' → zVr
open Go.Proofs.YtnjmnicgknggfaaDoorW.PrintWords renaming pw_below_drewN → zBn, below_alloc → zBa, below_drew1 → zBd, below_size → zBs, below_step → zBt, blk_drewN → zKn, blk_drew → zKd, blk_alloc → zKa, blk_below → zKb, blk_cell → zKc, blk_frozen → zKf
open List renaming setIfInBounds_toArray → zSa, set_cons_zero → zSb, set_cons_succ → zSc, length_drop → zLd, length_take → zLt, map_toArray → zMa, map_cons → zMc, map_nil → zMn, length_cons → zLc, length_nil → zLn
open Go.Proofs.YtnjmnicgknggfaaDoorW.PrintWords.Aside0 renaming mk → zMk
open Option renaming bind_eq_some_iff → zBi, bind_some → zOb
open Option.some renaming inj → zOi
open Int renaming toNat_natCast → zTn

mutual
def n_Add.j0 : Nat → List Int → List Int → Option (List Int)
  | 0, _, _ => none
  | k + 1, x0, x1 => if 0 ≤ (wrap64 ((x0.length : Int) + 1)) then (if (wrap64 ((x0.length : Int) + 1) : Int).toNat ≤ 70368744177664 then (n_Add.l0 k x0 x1 (List.replicate (wrap64 ((x0.length : Int) + 1) : Int).toNat 0) 0 x0 (x0.length : Int) 0) else (none)) else (none)
def n_Add.l0 : Nat → List Int → List Int → List Int → Int → List Int → Int → Int → Option (List Int)
  | 0, _, _, _, _, _, _, _ => none
  | k + 1, x0, x1, x5, x6, x25, x26, x27 => if x27 < x26 then (if 0 ≤ x27 then (if x27 < (x25.length : Int) then (if x27 < (x1.length : Int) then ((bits_Add32.f (rd x25 x27) (rd x1 x27) x6).bind fun bt236 => (if x27 < (x5.length : Int) then (n_Add.l0 k x0 x1 (x5.set (x27 : Int).toNat bt236.1) bt236.2 x25 x26 (wrap64 (x27 + 1))) else (none))) else ((bits_Add32.f (rd x25 x27) 0 x6).bind fun bt239 => (if x27 < (x5.length : Int) then (n_Add.l0 k x0 x1 (x5.set (x27 : Int).toNat bt239.1) bt239.2 x25 x26 (wrap64 (x27 + 1))) else (none)))) else (none)) else (none)) else (if 0 ≤ (x0.length : Int) then (if (x0.length : Int) < (x5.length : Int) then ((n_cut.f (x5.set ((x0.length : Int) : Int).toNat x6)).bind fun t243 => (some t243)) else (none)) else (none))
end
def n_Add.f (k : Nat) (l0 : List Int) (l1 : List Int) : Option (List Int) := (n_cut.f l0).bind fun t225 => ((n_cut.f l1).bind fun t228 => (if (t225.length : Int) < (t228.length : Int) then (n_Add.j0 k t228 t225) else (n_Add.j0 k t225 t228)))
theorem n_Add.calls (k : Nat) (P0_ : Nat → Prop) (A0 : Option Addr) (c0 : Nat) (l0 : List Int) (P1_ : Nat → Prop) (A1 : Option Addr) (c1 : Nat) (l1 : List Int) (r : List Int) (w : World) (hs0 : Kd.V (Kd.int .u32) 58 w w.heap.size (fun k_ => P0_ k_) (.slice A0 l0.length c0) l0) (hs1 : Kd.V (Kd.int .u32) 58 w w.heap.size (fun k_ => P1_ k_) (.slice A1 l1.length c1) l1) (h : n_Add.f k l0 l1 = some r) :
    Calls Tryd.prog 33 #[.slice A0 l0.length c0, .slice A1 l1.length c1] w fun e w' => ∃ v0_ : Value, e = .returned (v0_) ∧ Kd.V (Kd.int .u32) 58 w' w.heap.size (fun k_ => ((P0_ k_ ∨ P1_ k_) ∨ w.heap.size ≤ k_)) v0_ r ∧ Below w.heap.size w w' := by
  have HO0 := zMk (show Kd.V (Kd.int .u32) 58 w w.heap.size (fun k_ => ((P0_ k_ ∨ P1_ k_) ∨ w.heap.size ≤ k_)) (.slice A0 l0.length c0) l0 from zVm hs0 (fun k_ hk => .inl (.inl hk)))
  have HO1 := zMk (show Kd.V (Kd.int .u32) 58 w w.heap.size (fun k_ => ((P0_ k_ ∨ P1_ k_) ∨ w.heap.size ≤ k_)) (.slice A1 l1.length c1) l1 from zVm hs1 (fun k_ hk => .inl (.inr hk)))
  have HB := zMk (Below.refl w.heap.size w)
  have H : ((n_cut.f l0).bind fun t225 => ((n_cut.f l1).bind fun t228 => (if (t225.length : Int) < (t228.length : Int) then (n_Add.j0 k t228 t225) else (n_Add.j0 k t225 t228)))) = some r := h
  clear h
  replace H := bnd H
  obtain ⟨t225, A30, H⟩ := H
  have A3 := zMk A30
  clear A30
  replace H := bnd H
  obtain ⟨t228, A40, H⟩ := H
  have A4 := zMk A40
  clear A40
  have HC5 := zMk H
  clear H
  go_enter Tryd.func33, Tryd.ntmps33
  go_upto_if 18 with (first | ((with_reducible refine gate_callee (f := 56) rfl ?_); refine goesL_ (some 11) rfl rfl Tryd.func56 (by kernel_rfl) rfl #[.slice A0 l0.length c0] rfl (by (try simp only [zMa, zMc, zMn]); first |  done|  rfl|  (simp only [zLd, zLt]; rfl)) ?_; (with_reducible refine (n_cut.calls (fun k_ => ((P0_ k_ ∨ P1_ k_) ∨ w.heap.size ≤ k_)) _ _ l0 t225 _ ?side1 A3.out).mono ?_); (case side1 => exact HO0.out); rintro e w6 ⟨v226, rfl, ho0, hb⟩; refine ⟨_, rfl, ?_⟩; replace HO0 := zMk (zVb (by exact uV HO0.out) hb); replace HO1 := zMk (zVb (by exact uV HO1.out) hb); have HO227 := zMk (zVl (zVm (ok' := fun k_ => ((P0_ k_ ∨ P1_ k_) ∨ w.heap.size ≤ k_)) ho0 (fun k_ hk_ => Or.elim hk_ (fun hs_ => hs_) (fun hn_ => (.inr (Nat.le_trans (zBs (by exact uT HB.out)) hn_))))) (zBs (by exact uT HB.out))); replace HB := zMk (zBt (by exact uT HB.out) hb))|((with_reducible refine gate_callee (f := 56) rfl ?_); refine goesL_ (some 13) rfl rfl Tryd.func56 (by kernel_rfl) rfl #[.slice A1 l1.length c1] rfl (by (try simp only [zMa, zMc, zMn]); first |  done|  rfl|  (simp only [zLd, zLt]; rfl)) ?_; (with_reducible refine (n_cut.calls (fun k_ => ((P0_ k_ ∨ P1_ k_) ∨ w.heap.size ≤ k_)) _ _ l1 t228 _ ?side1 A4.out).mono ?_); (case side1 => exact HO1.out); rintro e w7 ⟨v229, rfl, ho0, hb⟩; refine ⟨_, rfl, ?_⟩; replace HO0 := zMk (zVb (by exact uV HO0.out) hb); replace HO1 := zMk (zVb (by exact uV HO1.out) hb); replace HO227 := zMk (zVb (by exact uV HO227.out) hb); have HO230 := zMk (zVl (zVm (ok' := fun k_ => ((P0_ k_ ∨ P1_ k_) ∨ w.heap.size ≤ k_)) ho0 (fun k_ hk_ => Or.elim hk_ (fun hs_ => hs_) (fun hn_ => (.inr (Nat.le_trans (zBs (by exact uT HB.out)) hn_))))) (zBs (by exact uT HB.out))); replace HB := zMk (zBt (by exact uT HB.out) hb); obtain ⟨Ao8, co8, eo8⟩ := zVs HO227.out; subst eo8; obtain ⟨Ao9, co9, eo9⟩ := zVs HO230.out; subst eo9))
  (try simp only [Act.put, zSa, zSb, zSc])
  go_cut [0, 1] (fun v0 v1 wc => ∃ (kq : Nat) (x0_4 : List Int) (x1_4 : List Int), Aside0 (n_Add.j0 kq x0_4 x1_4 = some r) ∧ Aside0 (kq ≤ k) ∧ Aside0 (Kd.V (Kd.int .u32) 58 wc w.heap.size (fun k_ => ((P0_ k_ ∨ P1_ k_) ∨ w.heap.size ≤ k_)) v0 x0_4) ∧ Aside0 (Kd.V (Kd.int .u32) 58 wc w.heap.size (fun k_ => ((P0_ k_ ∨ P1_ k_) ∨ w.heap.size ≤ k_)) v1 x1_4) ∧ Aside0 (Below w.heap.size w wc))
  case first =>
    have H := HC5.out
    clear HC5
    by_cases c10 : (t225.length : Int) < (t228.length : Int)
    · rw [if_pos c10] at H
      have c10b0 : decide ((t225.length : Int) < (t228.length : Int)) = true := decide_eq_true c10
      have c10b1 : decide (t225.length < t228.length) = true := decide_eq_true (Int.ofNat_lt.mp c10)
      clear c10
      (first | rw [c10b0] | (simp only [i64_w, i32_w]; rw [c10b0]) | rw [c10b1] | skip)
      have H' := zMk H
      clear H
      go_wp2
      go_meet
      case rel => exact ⟨_, (t228), (t225), H', ⟨by first | omega | exact Nat.le_refl _⟩, ⟨by exact uV HO230.out⟩, ⟨by exact uV HO227.out⟩, ⟨by exact uT HB.out⟩⟩
    · rw [if_neg c10] at H
      have c10b0 : decide ((t225.length : Int) < (t228.length : Int)) = false := decide_eq_false c10
      have c10b1 : decide (t225.length < t228.length) = false := decide_eq_false (fun h => c10 (Int.ofNat_lt.mpr h))
      clear c10
      (first | rw [c10b0] | (simp only [i64_w, i32_w]; rw [c10b0]) | rw [c10b1] | skip)
      have H' := zMk H
      clear H
      go_wp2
      go_meet
      case rel => exact ⟨_, (t225), (t228), H', ⟨by first | omega | exact Nat.le_refl _⟩, ⟨by exact uV HO227.out⟩, ⟨by exact uV HO230.out⟩, ⟨by exact uT HB.out⟩⟩
  case rest =>
    clear HC5
    obtain ⟨kq, x0_4, x1_4, HA, HJ4, HO_0, HO_1, HB⟩ := hcut
    rcases kq with _ | kj4
    · exact absurd HA.out (by simp [n_Add.j0])
    have H := HA.out
    clear HA
    simp only [n_Add.j0] at H
    obtain ⟨ji11, hji11⟩ : ∃ j_ : Int, (wrap64 ((x0_4.length : Int) + 1)) = j_ := ⟨_, rfl⟩
    replace H : (if 0 ≤ (ji11) then (if (ji11 : Int).toNat ≤ 70368744177664 then (n_Add.l0 kj4 x0_4 x1_4 (List.replicate (ji11 : Int).toNat 0) 0 x0_4 (x0_4.length : Int) 0) else (none)) else (none)) = some r := by first | (rw [hji11] at H; exact H) | (simp only [hji11] at H ⊢; exact H)
    have hji11w : (IntKind.i64.wrap ((x0_4.length : Int) + 1)) = ji11 := (i64_w _).trans hji11
    by_cases c12 : 0 ≤ (ji11)
    · rw [if_pos c12] at H
      have c12b0 := eq_true c12
      have c12b1 : decide (0 ≤ (ji11)) = true := decide_eq_true c12
      clear c12
      by_cases c13 : (ji11 : Int).toNat ≤ 70368744177664
      rotate_left
      · rw [if_neg c13] at H; exact absurd H (by simp)
      rw [if_pos c13] at H
      have c13b0 := eq_true c13
      have c13b1 : decide ((ji11 : Int).toNat ≤ 70368744177664) = true := decide_eq_true c13
      clear c13
      obtain ⟨y231, hy231⟩ : ∃ y_ : List Int, y_ = (List.replicate (ji11 : Int).toNat 0) := ⟨_, rfl⟩
      replace H : (n_Add.l0 kj4 x0_4 x1_4 y231 0 x0_4 (x0_4.length : Int) 0) = some r := by first | (rw [hy231]; with_reducible exact H) | (have H2_ := bsm H; first | (rw [hy231]; with_reducible exact H2_) | with_reducible exact H2_) | with_reducible exact H | (rw [hy231]; exact H) | exact H
      have Ny231 := zMk hy231
      clear hy231
      have H' := zMk H
      clear H
      obtain ⟨Ao14, co14, eo14⟩ := zVs HO_0.out
      subst eo14
      go_wp2_with (first | ((with_reducible refine gate_dst (N := 24) rfl ?_); refine Kd.R_make (Kd.int .u32) _ 58 rfl (N := 24) rfl 22 _ _ rfl ji11 rfl rfl Tryd.underlying22 (.int .u32 0) 4 info58 rfl (by decide) (by omega) 0 (ok := fun _ => True) (okp := fun _ => True) rfl (fun _ hk => hk) trivial (of_decide_eq_true (by first | (with_reducible assumption)|  assumption)) (Nat.le_trans (Nat.mul_le_mul_right _ (of_decide_eq_true (by first | (with_reducible assumption)|  assumption) : ji11.toNat ≤ 70368744177664)) (by omega)) (Below.refl _ _) (Nat.le_refl _) ?_; intro v232 w15 ho16 hb hg_ hnew_; clear hg_ hnew_; (first |  rw [← Ny231.out] at ho16|  (simp only [Int.reduceToNat] at ho16; rw [← Ny231.out] at ho16)); replace HO_0 := zMk (zVe (by exact uV HO_0.out) (zRz ho16) hb); replace HO_1 := zMk (zVe (by exact uV HO_1.out) (zRz ho16) hb); have HO233 := zMk (zRl (Kd.R_newM (M := fun k_ => (w.heap.size ≤ k_)) ho16 (zBs (by exact uT HB.out)) (fun k_ h_ => h_)) (zBs (by exact uT HB.out))); replace HB := zMk (zBt (by exact uT HB.out) hb); clear hb ho16))
      go_loopg [6, 27] kj4 (fun kq v6 v27 w' => ∃ (x5_2 : List Int) (x6_2 : Int) (x27_2 : Int), v6 = .int .u32 x6_2 ∧ v27 = .int .i64 x27_2 ∧ Aside0 (n_Add.l0 kq x0_4 x1_4 x5_2 x6_2 x0_4 (x0_4.length : Int) x27_2 = some r) ∧ Aside0 (kq ≤ kj4) ∧ Aside0 (Kd.V (Kd.int .u32) 58 w' w.heap.size (fun k_ => ((P0_ k_ ∨ P1_ k_) ∨ w.heap.size ≤ k_) ∧ some k_ ≠ (v232 : Value).ownBlock) (.slice Ao14 x0_4.length co14) x0_4) ∧ Aside0 (Kd.V (Kd.int .u32) 58 w' w.heap.size (fun k_ => ((P0_ k_ ∨ P1_ k_) ∨ w.heap.size ≤ k_) ∧ some k_ ≠ (v232 : Value).ownBlock) u1 x1_4) ∧ Aside0 (Kd.R (Kd.int .u32) 58 w' w.heap.size (fun k_ => (w.heap.size ≤ k_)) v232 x5_2) ∧ Aside0 (Kd.V (Kd.int .u32) 58 w' w.heap.size (fun k_ => ((P0_ k_ ∨ P1_ k_) ∨ w.heap.size ≤ k_) ∧ some k_ ≠ (v232 : Value).ownBlock) (.slice Ao14 x0_4.length co14) x0_4) ∧ Aside0 (Below w.heap.size w w'))
      case atStart => exact ⟨(y231), (0), (0), (by first | rfl | (simp; done) | (simp [*]; done)), (by first | rfl | (simp; done) | (simp [*]; done)), H', ⟨Nat.le_refl _⟩, ⟨by exact uV HO_0.out⟩, ⟨by exact uV HO_1.out⟩, ⟨by (with_reducible repeat (first | apply zRa | apply zRn | apply zRd)); exact zRm HO233.out (fun _ hk => hk.1)⟩, ⟨by exact uV HO_0.out⟩, ⟨by exact uT HB.out⟩⟩
      clear H'
      obtain ⟨x5_2, x6_2, x27_2, rfl, rfl, HA, HK2, HO_0, HO_1, HO_5, HO_25, HB⟩ := hrel
      rcases gk with _ | k2
      · exact absurd HA.out (by simp [n_Add.l0])
      have H := HA.out
      clear HA
      simp only [n_Add.l0] at H
      by_cases c17 : x27_2 < (x0_4.length : Int)
      · rw [if_pos c17] at H
        have c17b0 : decide (x27_2 < (x0_4.length : Int)) = true := decide_eq_true c17
        clear c17
        by_cases c18 : 0 ≤ x27_2
        rotate_left
        · rw [if_neg c18] at H; exact absurd H (by simp)
        rw [if_pos c18] at H
        have c18b0 : decide (0 ≤ x27_2) = true := decide_eq_true c18
        clear c18
        by_cases c19 : x27_2 < (x0_4.length : Int)
        rotate_left
        · rw [if_neg c19] at H; exact absurd H (by simp)
        rw [if_pos c19] at H
        have c19b0 : decide (x27_2 < (x0_4.length : Int)) = true := decide_eq_true c19
        clear c19
        by_cases c20 : x27_2 < (x1_4.length : Int)
        · rw [if_pos c20] at H
          have c20b0 : decide (x27_2 < (x1_4.length : Int)) = true := decide_eq_true c20
          clear c20
          replace H := bnd H
          obtain ⟨⟨t236, t237⟩, A210, H⟩ := H
          replace H : (if x27_2 < (x5_2.length : Int) then (n_Add.l0 k2 x0_4 x1_4 (x5_2.set (x27_2 : Int).toNat t236) t237 x0_4 (x0_4.length : Int) (wrap64 (x27_2 + 1))) else (none)) = some r := H
          have A21 := zMk A210
          clear A210
          by_cases c22 : x27_2 < (x5_2.length : Int)
          rotate_left
          · rw [if_neg c22] at H; exact absurd H (by simp)
          rw [if_pos c22] at H
          have c22b0 : decide (x27_2 < (x5_2.length : Int)) = true := decide_eq_true c22
          clear c22
          obtain ⟨y238, hy238⟩ : ∃ y_ : List Int, y_ = (x5_2.set (x27_2 : Int).toNat t236) := ⟨_, rfl⟩
          replace H : (n_Add.l0 k2 x0_4 x1_4 y238 t237 x0_4 (x0_4.length : Int) (wrap64 (x27_2 + 1))) = some r := by first | (rw [hy238]; with_reducible exact H) | (have H2_ := bsm H; first | (rw [hy238]; with_reducible exact H2_) | with_reducible exact H2_) | with_reducible exact H | (rw [hy238]; exact H) | exact H
          have Ny238 := zMk hy238
          clear hy238
          have H' := zMk H
          clear H
          have p234 : 0 ≤ (x27_2 : Int) := of_decide_eq_true (by assumption)
          have q234 : x27_2 < (x0_4.length : Int) := of_decide_eq_true (by assumption)
          obtain ⟨ad234, e234, hx234_0⟩ := zAi (zVr HO_25.out).2.2 x27_2 p234 q234
          cases e234
          replace p234 := eq_true p234
          replace q234 := eq_true q234
          obtain ⟨Ao24, co24, eo24⟩ := zVs HO_1.out
          subst eo24
          have p235 : 0 ≤ (x27_2 : Int) := of_decide_eq_true (by assumption)
          have q235 : x27_2 < (x1_4.length : Int) := of_decide_eq_true (by assumption)
          obtain ⟨ad235, e235, hx235_0⟩ := zAi (zVr HO_1.out).2.2 x27_2 p235 q235
          cases e235
          replace p235 := eq_true p235
          replace q235 := eq_true q235
          go_wp2_with (first | ((with_reducible refine gate_callee (f := 62) rfl ?_); refine goesL_ (some 46) rfl rfl Tryd.func62 (by kernel_rfl) rfl #[.int .u32 (rd x0_4 x27_2), .int .u32 (rd x1_4 x27_2), .int .u32 x6_2] rfl (by (try simp only [zMa, zMc, zMn]); first |  done|  rfl|  (simp only [zLd, zLt]; rfl)) ?_; (with_reducible refine (bits_Add32.calls (rd x0_4 x27_2) (rd x1_4 x27_2) x6_2 t236 t237 _ A21.out).mono ?_); rintro e w' ⟨rfl, ⟨nd, rfl⟩⟩; refine ⟨_, rfl, ?_⟩; (try (rw [drewN_self wr]; generalize hq_ : World.drewN wr _ = wr; have n0_ : Aside0 (Kd.V (Kd.int .u32) 58 wr w.heap.size (fun k_ => ((P0_ k_ ∨ P1_ k_) ∨ w.heap.size ≤ k_) ∧ some k_ ≠ (v232 : Value).ownBlock) (.slice (some ad234) x0_4.length co14) x0_4) := ⟨by rw [← hq_]; exact (by exact uV HO_0.out)⟩; have n1_ : Aside0 (Kd.V (Kd.int .u32) 58 wr w.heap.size (fun k_ => ((P0_ k_ ∨ P1_ k_) ∨ w.heap.size ≤ k_) ∧ some k_ ≠ (v232 : Value).ownBlock) (.slice (some ad235) x1_4.length co24) x1_4) := ⟨by rw [← hq_]; exact (by exact uV HO_1.out)⟩; have n2_ : Aside0 (Kd.V (Kd.int .u32) 58 wr w.heap.size (fun k_ => ((P0_ k_ ∨ P1_ k_) ∨ w.heap.size ≤ k_) ∧ some k_ ≠ (v232 : Value).ownBlock) (.slice (some ad234) x0_4.length co14) x0_4) := ⟨by rw [← hq_]; exact (by exact uV HO_25.out)⟩; have n3_ : Aside0 (Kd.R (Kd.int .u32) 58 wr w.heap.size (fun k_ => (w.heap.size ≤ k_)) v232 x5_2) := ⟨by rw [← hq_]; exact (by exact uR HO_5.out)⟩; have n4_ : Aside0 (Below w.heap.size w wr) := ⟨by rw [← hq_]; exact (by exact uT HB.out)⟩; clear HO_0 HO_1 HO_25 HO_5 HB hq_; have HO_0 := n0_; have HO_1 := n1_; have HO_25 := n2_; have HO_5 := n3_; have HB := n4_; clear n0_ n1_ n2_ n3_ n4_)); have p23 : 0 ≤ (x27_2 : Int) := of_decide_eq_true (by first | (with_reducible assumption)|  assumption); have q23 : (x27_2 : Int) < ((x5_2.length : Int) : Int) := of_decide_eq_true (by first | (with_reducible assumption)|  assumption); obtain ⟨go23, co23, eo23, gb23, gl23, cl23, HG23⟩ := Kd.R_form HO_5.out (by omega); (first |  cases eo23|  (injection eo23 with ea_ en_ ec_; (first |  subst ea_|  (injection ea_ with ea_; subst ea_)); subst ec_; clear en_)); have GB23 := zMk gb23; have IGB23 := ownGe GB23.out; have GG23 := zMk HG23; clear gb23 gl23 HG23; obtain ⟨hx23_0, hf23_0⟩ := Kd.R_celln 0 HO_5.out (x27_2 : Int) p23 q23; replace p23 := eq_true p23; replace q23 := eq_true q23; obtain ⟨hy25_, hz25_⟩ := Kd.R_celln 0 HO_5.out (x27_2 : Int) (of_decide_eq_true (by first | (with_reducible assumption)|  assumption)) (of_decide_eq_true (by first | (with_reducible assumption)|  assumption)); have HP25 := Kd.R_putg HO_5.out (x27_2 : Int) t236)|((with_reducible refine gate_store (t := 58) (p := 49) rfl ?_); refine store_event (t := 58) (p := 49) (v := ?vo_w26) (w1 := (wr.setCell ⟨go23, (x27_2 : Int).toNat, none⟩ (.int .u32 t236))) ?hg ?ho ?hn ?hr ?_; (case ho => rfl); (case hg => rfl); (case hn => rfl); (case hr => first | (go_simp; done)|(go_simp; rfl)|(go_simp; rw [show ∀ x : Int, IntKind.u32.wrap (IntKind.u8.wrap x) = x % 256 from fun x => (by show (x % 256) % 4294967296 = x % 256; omega)])); intro w26 hw; have hg : wr.grownBy w26 (some go23) := (by rw [hw]; exact HP25.2); have hp_ : Kd.R (Kd.int .u32) 58 w26 w.heap.size (fun k_ => (w.heap.size ≤ k_)) (.slice (some ⟨go23, 0, none⟩) x5_2.length co23) y238 := (by rw [hw, Ny238.out]; exact HP25.1); clear HP25; replace HO_0 := zMk (Kd.V_afterv (v := (.slice (some ⟨go23, 0, none⟩) x5_2.length co23)) (v1 := (.slice (some ⟨go23, 0, none⟩) x5_2.length co23)) (ok := (fun k_ => ((P0_ k_ ∨ P1_ k_) ∨ w.heap.size ≤ k_))) (by exact uV HO_0.out) hg (.inl rfl)); replace HO_1 := zMk (Kd.V_afterv (v := (.slice (some ⟨go23, 0, none⟩) x5_2.length co23)) (v1 := (.slice (some ⟨go23, 0, none⟩) x5_2.length co23)) (ok := (fun k_ => ((P0_ k_ ∨ P1_ k_) ∨ w.heap.size ≤ k_))) (by exact uV HO_1.out) hg (.inl rfl)); replace HO_5 := zMk (hp_); replace HO_25 := zMk (Kd.V_afterv (v := (.slice (some ⟨go23, 0, none⟩) x5_2.length co23)) (v1 := (.slice (some ⟨go23, 0, none⟩) x5_2.length co23)) (ok := (fun k_ => ((P0_ k_ ∨ P1_ k_) ∨ w.heap.size ≤ k_))) (by exact uV HO_25.out) hg (.inl rfl)); replace HB := zMk ((by rw [hw]; exact below_set (HB.out) GB23.out : Below w.heap.size w w26)); clear hg hw hp_))
          go_roundg k2
          case measure => have := HJ4.out; have := HK2.out; omega
          case rel => exact ⟨(y238), (t237), (wrap64 (x27_2 + 1)), (by first | rfl | (simp; done) | (simp [*]; done)), (by first | rfl | (simp; done) | (simp [*]; done)), H', ⟨by have := HJ4.out; have := HK2.out; omega⟩, ⟨by exact uV HO_0.out⟩, ⟨by exact uV HO_1.out⟩, ⟨by exact uR HO_5.out⟩, ⟨by exact uV HO_25.out⟩, ⟨by exact uT HB.out⟩⟩
        · rw [if_neg c20] at H
          have c20b0 : decide (x27_2 < (x1_4.length : Int)) = false := decide_eq_false c20
          clear c20
          replace H := bnd H
          obtain ⟨⟨t239, t240⟩, A270, H⟩ := H
          replace H : (if x27_2 < (x5_2.length : Int) then (n_Add.l0 k2 x0_4 x1_4 (x5_2.set (x27_2 : Int).toNat t239) t240 x0_4 (x0_4.length : Int) (wrap64 (x27_2 + 1))) else (none)) = some r := H
          have A27 := zMk A270
          clear A270
          by_cases c28 : x27_2 < (x5_2.length : Int)
          rotate_left
          · rw [if_neg c28] at H; exact absurd H (by simp)
          rw [if_pos c28] at H
          have c28b0 : decide (x27_2 < (x5_2.length : Int)) = true := decide_eq_true c28
          clear c28
          obtain ⟨y241, hy241⟩ : ∃ y_ : List Int, y_ = (x5_2.set (x27_2 : Int).toNat t239) := ⟨_, rfl⟩
          replace H : (n_Add.l0 k2 x0_4 x1_4 y241 t240 x0_4 (x0_4.length : Int) (wrap64 (x27_2 + 1))) = some r := by first | (rw [hy241]; with_reducible exact H) | (have H2_ := bsm H; first | (rw [hy241]; with_reducible exact H2_) | with_reducible exact H2_) | with_reducible exact H | (rw [hy241]; exact H) | exact H
          have Ny241 := zMk hy241
          clear hy241
          have H' := zMk H
          clear H
          have p234 : 0 ≤ (x27_2 : Int) := of_decide_eq_true (by assumption)
          have q234 : x27_2 < (x0_4.length : Int) := of_decide_eq_true (by assumption)
          obtain ⟨ad234, e234, hx234_0⟩ := zAi (zVr HO_25.out).2.2 x27_2 p234 q234
          cases e234
          replace p234 := eq_true p234
          replace q234 := eq_true q234
          obtain ⟨Ao30, co30, eo30⟩ := zVs HO_1.out
          subst eo30
          go_wp2_with (first | ((with_reducible refine gate_callee (f := 62) rfl ?_); refine goesL_ (some 46) rfl rfl Tryd.func62 (by kernel_rfl) rfl #[.int .u32 (rd x0_4 x27_2), .int .u32 0, .int .u32 x6_2] rfl (by (try simp only [zMa, zMc, zMn]); first |  done|  rfl|  (simp only [zLd, zLt]; rfl)) ?_; (with_reducible refine (bits_Add32.calls (rd x0_4 x27_2) 0 x6_2 t239 t240 _ A27.out).mono ?_); rintro e w' ⟨rfl, ⟨nd, rfl⟩⟩; refine ⟨_, rfl, ?_⟩; (try (rw [drewN_self wr]; generalize hq_ : World.drewN wr _ = wr; have n0_ : Aside0 (Kd.V (Kd.int .u32) 58 wr w.heap.size (fun k_ => ((P0_ k_ ∨ P1_ k_) ∨ w.heap.size ≤ k_) ∧ some k_ ≠ (v232 : Value).ownBlock) (.slice (some ad234) x0_4.length co14) x0_4) := ⟨by rw [← hq_]; exact (by exact uV HO_0.out)⟩; have n1_ : Aside0 (Kd.V (Kd.int .u32) 58 wr w.heap.size (fun k_ => ((P0_ k_ ∨ P1_ k_) ∨ w.heap.size ≤ k_) ∧ some k_ ≠ (v232 : Value).ownBlock) (.slice Ao30 x1_4.length co30) x1_4) := ⟨by rw [← hq_]; exact (by exact uV HO_1.out)⟩; have n2_ : Aside0 (Kd.V (Kd.int .u32) 58 wr w.heap.size (fun k_ => ((P0_ k_ ∨ P1_ k_) ∨ w.heap.size ≤ k_) ∧ some k_ ≠ (v232 : Value).ownBlock) (.slice (some ad234) x0_4.length co14) x0_4) := ⟨by rw [← hq_]; exact (by exact uV HO_25.out)⟩; have n3_ : Aside0 (Kd.R (Kd.int .u32) 58 wr w.heap.size (fun k_ => (w.heap.size ≤ k_)) v232 x5_2) := ⟨by rw [← hq_]; exact (by exact uR HO_5.out)⟩; have n4_ : Aside0 (Below w.heap.size w wr) := ⟨by rw [← hq_]; exact (by exact uT HB.out)⟩; clear HO_0 HO_1 HO_25 HO_5 HB hq_; have HO_0 := n0_; have HO_1 := n1_; have HO_25 := n2_; have HO_5 := n3_; have HB := n4_; clear n0_ n1_ n2_ n3_ n4_)); have p29 : 0 ≤ (x27_2 : Int) := of_decide_eq_true (by first | (with_reducible assumption)|  assumption); have q29 : (x27_2 : Int) < ((x5_2.length : Int) : Int) := of_decide_eq_true (by first | (with_reducible assumption)|  assumption); obtain ⟨go29, co29, eo29, gb29, gl29, cl29, HG29⟩ := Kd.R_form HO_5.out (by omega); (first |  cases eo29|  (injection eo29 with ea_ en_ ec_; (first |  subst ea_|  (injection ea_ with ea_; subst ea_)); subst ec_; clear en_)); have GB29 := zMk gb29; have IGB29 := ownGe GB29.out; have GG29 := zMk HG29; clear gb29 gl29 HG29; obtain ⟨hx29_0, hf29_0⟩ := Kd.R_celln 0 HO_5.out (x27_2 : Int) p29 q29; replace p29 := eq_true p29; replace q29 := eq_true q29; obtain ⟨hy31_, hz31_⟩ := Kd.R_celln 0 HO_5.out (x27_2 : Int) (of_decide_eq_true (by first | (with_reducible assumption)|  assumption)) (of_decide_eq_true (by first | (with_reducible assumption)|  assumption)); have HP31 := Kd.R_putg HO_5.out (x27_2 : Int) t239)|((with_reducible refine gate_store (t := 58) (p := 49) rfl ?_); refine store_event (t := 58) (p := 49) (v := ?vo_w32) (w1 := (wr.setCell ⟨go29, (x27_2 : Int).toNat, none⟩ (.int .u32 t239))) ?hg ?ho ?hn ?hr ?_; (case ho => rfl); (case hg => rfl); (case hn => rfl); (case hr => first | (go_simp; done)|(go_simp; rfl)|(go_simp; rw [show ∀ x : Int, IntKind.u32.wrap (IntKind.u8.wrap x) = x % 256 from fun x => (by show (x % 256) % 4294967296 = x % 256; omega)])); intro w32 hw; have hg : wr.grownBy w32 (some go29) := (by rw [hw]; exact HP31.2); have hp_ : Kd.R (Kd.int .u32) 58 w32 w.heap.size (fun k_ => (w.heap.size ≤ k_)) (.slice (some ⟨go29, 0, none⟩) x5_2.length co29) y241 := (by rw [hw, Ny241.out]; exact HP31.1); clear HP31; replace HO_0 := zMk (Kd.V_afterv (v := (.slice (some ⟨go29, 0, none⟩) x5_2.length co29)) (v1 := (.slice (some ⟨go29, 0, none⟩) x5_2.length co29)) (ok := (fun k_ => ((P0_ k_ ∨ P1_ k_) ∨ w.heap.size ≤ k_))) (by exact uV HO_0.out) hg (.inl rfl)); replace HO_1 := zMk (Kd.V_afterv (v := (.slice (some ⟨go29, 0, none⟩) x5_2.length co29)) (v1 := (.slice (some ⟨go29, 0, none⟩) x5_2.length co29)) (ok := (fun k_ => ((P0_ k_ ∨ P1_ k_) ∨ w.heap.size ≤ k_))) (by exact uV HO_1.out) hg (.inl rfl)); replace HO_5 := zMk (hp_); replace HO_25 := zMk (Kd.V_afterv (v := (.slice (some ⟨go29, 0, none⟩) x5_2.length co29)) (v1 := (.slice (some ⟨go29, 0, none⟩) x5_2.length co29)) (ok := (fun k_ => ((P0_ k_ ∨ P1_ k_) ∨ w.heap.size ≤ k_))) (by exact uV HO_25.out) hg (.inl rfl)); replace HB := zMk ((by rw [hw]; exact below_set (HB.out) GB29.out : Below w.heap.size w w32)); clear hg hw hp_))
          go_roundg k2
          case measure => have := HJ4.out; have := HK2.out; omega
          case rel => exact ⟨(y241), (t240), (wrap64 (x27_2 + 1)), (by first | rfl | (simp; done) | (simp [*]; done)), (by first | rfl | (simp; done) | (simp [*]; done)), H', ⟨by have := HJ4.out; have := HK2.out; omega⟩, ⟨by exact uV HO_0.out⟩, ⟨by exact uV HO_1.out⟩, ⟨by exact uR HO_5.out⟩, ⟨by exact uV HO_25.out⟩, ⟨by exact uT HB.out⟩⟩
      · rw [if_neg c17] at H
        have c17b0 : decide (x27_2 < (x0_4.length : Int)) = false := decide_eq_false c17
        clear c17
        by_cases c33 : 0 ≤ (x0_4.length : Int)
        rotate_left
        · rw [if_neg c33] at H; exact absurd H (by simp)
        rw [if_pos c33] at H
        have c33b0 : decide (0 ≤ (x0_4.length : Int)) = true := decide_eq_true c33
        have c33b1 : decide (0 ≤ x0_4.length) = true := decide_eq_true (by omega)
        clear c33
        by_cases c34 : (x0_4.length : Int) < (x5_2.length : Int)
        rotate_left
        · rw [if_neg c34] at H; exact absurd H (by simp)
        rw [if_pos c34] at H
        have c34b0 : decide ((x0_4.length : Int) < (x5_2.length : Int)) = true := decide_eq_true c34
        have c34b1 : decide (x0_4.length < x5_2.length) = true := decide_eq_true (Int.ofNat_lt.mp c34)
        clear c34
        obtain ⟨y242, hy242⟩ : ∃ y_ : List Int, y_ = (x5_2.set ((x0_4.length : Int) : Int).toNat x6_2) := ⟨_, rfl⟩
        replace H : ((n_cut.f y242).bind fun t243 => (some t243)) = some r := by first | (rw [hy242]; with_reducible exact H) | (have H2_ := bsm H; first | (rw [hy242]; with_reducible exact H2_) | with_reducible exact H2_) | with_reducible exact H | (rw [hy242]; exact H) | exact H
        have Ny242 := zMk hy242
        clear hy242
        replace H := bnd H
        obtain ⟨t243, A360, H⟩ := H
        have A36 := zMk A360
        clear A360
        obtain rfl := zOi H
        have p35 : 0 ≤ ((x0_4.length : Int) : Int) := of_decide_eq_true (by assumption)
        have q35 : ((x0_4.length : Int) : Int) < ((x5_2.length : Int) : Int) := of_decide_eq_true (by assumption)
        obtain ⟨go35, co35, eo35, gb35, gl35, cl35, HG35⟩ := Kd.R_form HO_5.out (by omega)
        (first |  cases eo35|  (injection eo35 with ea_ en_ ec_; (first |  subst ea_|  (injection ea_ with ea_; subst ea_)); subst ec_; clear en_))
        have GB35 := zMk gb35
        have IGB35 := ownGe GB35.out
        have GG35 := zMk HG35
        clear gb35 gl35 HG35
        obtain ⟨hx35_0, hf35_0⟩ := Kd.R_celln 0 HO_5.out ((x0_4.length : Int) : Int) p35 q35
        (try simp only [zTn] at hx35_0 hf35_0)
        replace p35 := eq_true p35
        replace q35 := eq_true q35
        have HP37 := Kd.R_putg HO_5.out ((x0_4.length : Int) : Int) x6_2
        go_wp2_with (first | ((with_reducible refine gate_store (t := 58) (p := 55) rfl ?_); refine store_event (t := 58) (p := 55) (v := ?vo_w38) (w1 := (wr.setCell ⟨go35, x0_4.length, none⟩ (.int .u32 x6_2))) ?hg ?ho ?hn ?hr ?_; (case ho => rfl); (case hg => rfl); (case hn => rfl); (case hr => first | (go_simp; done)|(go_simp; rfl)|(go_simp; rw [show ∀ x : Int, IntKind.u32.wrap (IntKind.u8.wrap x) = x % 256 from fun x => (by show (x % 256) % 4294967296 = x % 256; omega)])); intro w38 hw; have hg : wr.grownBy w38 (some go35) := (by rw [hw]; exact HP37.2); have hp_ : Kd.R (Kd.int .u32) 58 w38 w.heap.size (fun k_ => (w.heap.size ≤ k_)) (.slice (some ⟨go35, 0, none⟩) x5_2.length co35) y242 := (by rw [hw, Ny242.out]; exact HP37.1); clear HP37; replace HO_0 := zMk (Kd.V_afterv (v := (.slice (some ⟨go35, 0, none⟩) x5_2.length co35)) (v1 := (.slice (some ⟨go35, 0, none⟩) x5_2.length co35)) (ok := (fun k_ => ((P0_ k_ ∨ P1_ k_) ∨ w.heap.size ≤ k_))) (by exact uV HO_0.out) hg (.inl rfl)); replace HO_1 := zMk (Kd.V_afterv (v := (.slice (some ⟨go35, 0, none⟩) x5_2.length co35)) (v1 := (.slice (some ⟨go35, 0, none⟩) x5_2.length co35)) (ok := (fun k_ => ((P0_ k_ ∨ P1_ k_) ∨ w.heap.size ≤ k_))) (by exact uV HO_1.out) hg (.inl rfl)); replace HO_5 := zMk (hp_); replace HO_25 := zMk (Kd.V_afterv (v := (.slice (some ⟨go35, 0, none⟩) x5_2.length co35)) (v1 := (.slice (some ⟨go35, 0, none⟩) x5_2.length co35)) (ok := (fun k_ => ((P0_ k_ ∨ P1_ k_) ∨ w.heap.size ≤ k_))) (by exact uV HO_25.out) hg (.inl rfl)); replace HB := zMk ((by rw [hw]; exact below_set (HB.out) GB35.out : Below w.heap.size w w38)); clear hg hw hp_)|((with_reducible refine gate_callee (f := 56) rfl ?_); refine goesL_ (some 57) rfl rfl Tryd.func56 (by kernel_rfl) rfl #[.slice (some ⟨go35, 0, none⟩) y242.length co35] rfl (by (try simp only [zMa, zMc, zMn]); first |  done|  (rw [show y242.length = x5_2.length from (zRr HO_5.out).1.symm] <;> rfl)|  rfl|  (simp only [zLd, zLt]; rfl)) ?_; (with_reducible refine (n_cut.calls (fun k_ => some k_ = (.slice (some ⟨go35, 0, none⟩) x5_2.length co35 : Value).ownBlock) _ _ y242 t243 _ ?side1 A36.out).mono ?_); (case side1 => rw [show y242.length = x5_2.length from (zRr HO_5.out).1.symm]; exact Kd.R_V (Kd.R_tight rfl (HO_5.out))); rintro e w39 ⟨v244, rfl, ho0, hb⟩; refine ⟨_, rfl, ?_⟩; replace HO_0 := zMk (zVb (by exact uV HO_0.out) hb); replace HO_1 := zMk (zVb (by exact uV HO_1.out) hb); replace HO_25 := zMk (zVb (by exact uV HO_25.out) hb); have HO245 := zMk (zVl (zVm (ok' := fun k_ => ((P0_ k_ ∨ P1_ k_) ∨ w.heap.size ≤ k_)) ho0 (fun k_ hk_ => Or.elim hk_ (fun hs_ => (.inr (((HO_5.out).1 k_ hs_.symm)))) (fun hn_ => (.inr (Nat.le_trans (zBs (by exact uT HB.out)) hn_))))) (zBs (by exact uT HB.out))); replace HO_5 := zMk (zRb (by exact uR HO_5.out) hb); replace HB := zMk (zBt (by exact uT HB.out) hb)))
        go_ret
        exact ⟨_, by first | rfl | (simp [errW_none, errW_some] <;> rfl) | (simp only [← hji11]; first | rfl | (simp [errW_none, errW_some] <;> rfl)) | (simp [*, errW_none, errW_some] <;> rfl), by exact uV HO245.out, by exact uT HB.out⟩
    · rw [if_neg c12] at H
      exact absurd H (by simp)


def bits_Sub32.f (a0 : Int) (a1 : Int) (a2 : Int) : Option (Int × Int) := some ((((a0 - a1) % 4294967296) - a2) % 4294967296, (Go.bits .or .u32 (Go.bits .and .u32 (Go.bits .xor .u32 4294967295 a0) a1) (Go.bits .and .u32 (Go.bits .xor .u32 4294967295 (Go.bits .xor .u32 a0 a1)) ((((a0 - a1) % 4294967296) - a2) % 4294967296))) / 2147483648)
theorem bits_Sub32.calls (a0 : Int) (a1 : Int) (a2 : Int) (r1 : Int) (r2 : Int) (w : World) (h : bits_Sub32.f a0 a1 a2 = some (r1, r2)) :
    Calls Tryd.prog 80 #[.int .u32 a0, .int .u32 a1, .int .u32 a2] w fun e w' => e = .returned (.tuple #[.int .u32 r1, .int .u32 r2]) ∧ Drawn0 w w' := by
  have H : (some ((((a0 - a1) % 4294967296) - a2) % 4294967296, (Go.bits .or .u32 (Go.bits .and .u32 (Go.bits .xor .u32 4294967295 a0) a1) (Go.bits .and .u32 (Go.bits .xor .u32 4294967295 (Go.bits .xor .u32 a0 a1)) ((((a0 - a1) % 4294967296) - a2) % 4294967296))) / 2147483648)) = some (r1, r2) := h
  clear h
  simp only [Option.some.injEq, Prod.mk.injEq] at H
  obtain ⟨rfl, rfl⟩ := H
  go_enter Tryd.func80, Tryd.ntmps80
  go_wp2
  go_ret2
  exact ⟨by first | rfl | (simp; done) | (simp [*]; done), by repeat (first | exact Drawn0.refl _ | apply Drawn0.step)⟩


def n_less.l0 : Nat → List Int → List Int → Int → Int → Int → Option (Int × List Int)
  | 0, _, _, _, _, _ => none
  | k + 1, x0, x1, x5, x9, x10 => if x10 < x9 then (if x10 < (x1.length : Int) then (if 0 ≤ x10 then (if x10 < (x0.length : Int) then ((bits_Sub32.f (rd x0 x10) (rd x1 x10) x5).bind fun bt144 => (n_less.l0 k (x0.set (x10 : Int).toNat bt144.1) x1 bt144.2 x9 (wrap64 (x10 + 1)))) else (none)) else (none)) else (if 0 ≤ x10 then (if x10 < (x0.length : Int) then ((bits_Sub32.f (rd x0 x10) 0 x5).bind fun bt148 => (n_less.l0 k (x0.set (x10 : Int).toNat bt148.1) x1 bt148.2 x9 (wrap64 (x10 + 1)))) else (none)) else (none))) else (some (x5, x0))
def n_less.f (k : Nat) (l0 : List Int) (l1 : List Int) : Option (Int × List Int) := n_less.l0 k l0 l1 0 (l0.length : Int) 0
theorem n_less.calls (k : Nat) (P0_ : Nat → Prop) (u9000_ : Value) (l0 : List Int) (A1 : Option Addr) (c1 : Nat) (l1 : List Int) (r1 : Int) (r2 : List Int) (w0 w : World) (hB : Below w0.heap.size w0 w) (ho0 : Kd.R (Kd.int .u32) 58 w w0.heap.size P0_ u9000_ l0) (hr1 : ∀ W_, Kept w W_ (fun k_ => P0_ k_) → Kd.C (Kd.int .u32) W_ A1 l1.length l1) (hc1 : l1.length ≤ c1) (h : n_less.f k l0 l1 = some (r1, r2)) :
    Calls Tryd.prog 61 #[u9000_, .slice A1 l1.length c1] w fun e w' => e = .returned (.int .u32 r1) ∧ Kd.R (Kd.int .u32) 58 w' w0.heap.size (fun k_ => (P0_ k_ ∨ w.heap.size ≤ k_)) u9000_ r2 ∧ Below w0.heap.size w0 w' ∧ Kept w w' (fun k_ => P0_ k_) := by
  have HO0 := zMk (show Kd.R (Kd.int .u32) 58 w w0.heap.size (fun k_ => (P0_ k_ ∨ w.heap.size ≤ k_)) u9000_ l0 from zRm ho0 (fun k_ hk => (.inl hk)))
  have HR1 := zMk hr1
  have HC1 := zMk hc1
  clear hr1 hc1
  have HK := zMk (Kept.refl w (fun k_ => P0_ k_))
  have HW0 := zMk hB.size
  have HB := zMk hB
  clear hB
  have H : (n_less.l0 k l0 l1 0 (l0.length : Int) 0) = some (r1, r2) := h
  clear h
  have H' := zMk H
  clear H
  obtain ⟨Ao3, co3, eo3⟩ := zRs HO0.out
  subst eo3
  go_enter Tryd.func61, Tryd.ntmps61
  go_wp2
  go_loopg [5, 10] k (fun kq v5 v10 w' => ∃ (x0_1 : List Int) (x5_1 : Int) (x10_1 : Int), v5 = .int .u32 x5_1 ∧ v10 = .int .i64 x10_1 ∧ Aside0 (n_less.l0 kq x0_1 l1 x5_1 (l0.length : Int) x10_1 = some (r1, r2)) ∧ Aside0 (kq ≤ k) ∧ Aside0 (Kd.R (Kd.int .u32) 58 w' w0.heap.size (fun k_ => (P0_ k_ ∨ w.heap.size ≤ k_)) (.slice Ao3 l0.length co3) x0_1) ∧ Aside0 (Kept w w' (fun k_ => P0_ k_)) ∧ Aside0 (Below w0.heap.size w0 w'))
  case atStart => exact ⟨(l0), (0), (0), (by first | rfl | (simp; done) | (simp [*]; done)), (by first | rfl | (simp; done) | (simp [*]; done)), H', ⟨Nat.le_refl _⟩, ⟨by exact uR HO0.out⟩, ⟨by repeat (first | (with_reducible first | exact HK.out | apply Kept.alloc | apply Kept.drewN | apply Kept.drew) | exact HK.out)⟩, ⟨by exact uT HB.out⟩⟩
  clear H'
  obtain ⟨x0_1, x5_1, x10_1, rfl, rfl, HA, HK1, HO_0, HK, HB⟩ := hrel
  have hl0_1 := (zRr HO_0.out).1
  rw [hl0_1] at HO_0
  (try simp only [hl0_1])
  rcases gk with _ | k1
  · exact absurd HA.out (by simp [n_less.l0])
  have H := HA.out
  clear HA
  simp only [n_less.l0] at H
  by_cases c4 : x10_1 < (l0.length : Int)
  · rw [if_pos c4] at H
    have c4b0 : decide (x10_1 < (l0.length : Int)) = true := decide_eq_true c4
    (try (have c4b0l := c4b0; simp only [hl0_1] at c4b0l))
    clear c4
    by_cases c5 : x10_1 < (l1.length : Int)
    · rw [if_pos c5] at H
      have c5b0 : decide (x10_1 < (l1.length : Int)) = true := decide_eq_true c5
      (try (have c5b0l := c5b0; simp only [hl0_1] at c5b0l))
      clear c5
      by_cases c6 : 0 ≤ x10_1
      rotate_left
      · rw [if_neg c6] at H; exact absurd H (by simp)
      rw [if_pos c6] at H
      have c6b0 : decide (0 ≤ x10_1) = true := decide_eq_true c6
      (try (have c6b0l := c6b0; simp only [hl0_1] at c6b0l))
      clear c6
      by_cases c7 : x10_1 < (x0_1.length : Int)
      rotate_left
      · rw [if_neg c7] at H; exact absurd H (by simp)
      rw [if_pos c7] at H
      have c7b0 : decide (x10_1 < (x0_1.length : Int)) = true := decide_eq_true c7
      (try (have c7b0l := c7b0; simp only [hl0_1] at c7b0l))
      clear c7
      replace H := bnd H
      obtain ⟨⟨t144, t145⟩, A80, H⟩ := H
      replace H : (n_less.l0 k1 (x0_1.set (x10_1 : Int).toNat t144) l1 t145 (l0.length : Int) (wrap64 (x10_1 + 1))) = some (r1, r2) := H
      have A8 := zMk A80
      clear A80
      obtain ⟨y146, hy146⟩ : ∃ y_ : List Int, y_ = (x0_1.set (x10_1 : Int).toNat t144) := ⟨_, rfl⟩
      replace H : (n_less.l0 k1 y146 l1 t145 (l0.length : Int) (wrap64 (x10_1 + 1))) = some (r1, r2) := by first | (rw [hy146]; with_reducible exact H) | (have H2_ := bsm H; first | (rw [hy146]; with_reducible exact H2_) | with_reducible exact H2_) | with_reducible exact H | (rw [hy146]; exact H) | exact H
      have Ny146 := zMk hy146
      clear hy146
      have H' := zMk H
      clear H
      have p142 : 0 ≤ (x10_1 : Int) := of_decide_eq_true (by assumption)
      have q142 : x10_1 < (l1.length : Int) := of_decide_eq_true (by assumption)
      obtain ⟨ad142, e142, hx142_0⟩ := zAi (Kd.C_kept_now HR1.out HK.out) x10_1 p142 q142
      cases e142
      replace p142 := eq_true p142
      replace q142 := eq_true q142
      have p143 : 0 ≤ (x10_1 : Int) := of_decide_eq_true (by assumption)
      have q143 : x10_1 < (x0_1.length : Int) := of_decide_eq_true (by assumption)
      obtain ⟨ad143, e143, hx143_0⟩ := zAi (zRr HO_0.out).2.2 x10_1 p143 q143
      cases e143
      replace p143 := eq_true p143
      replace q143 := eq_true q143
      go_wp2_with (first | ((with_reducible refine gate_callee (f := 80) rfl ?_); refine goesL_ (some 30) rfl rfl Tryd.func80 (by kernel_rfl) rfl #[.int .u32 (rd x0_1 x10_1), .int .u32 (rd l1 x10_1), .int .u32 x5_1] rfl (by (try simp only [zMa, zMc, zMn]); first |  done|  rfl|  (simp only [zLd, zLt]; rfl)) ?_; (with_reducible refine (bits_Sub32.calls (rd x0_1 x10_1) (rd l1 x10_1) x5_1 t144 t145 _ A8.out).mono ?_); rintro e w' ⟨rfl, ⟨nd, rfl⟩⟩; refine ⟨_, rfl, ?_⟩; (try (rw [drewN_self wr]; generalize hq_ : World.drewN wr _ = wr; have n0_ : Aside0 (Kd.R (Kd.int .u32) 58 wr w0.heap.size (fun k_ => (P0_ k_ ∨ w.heap.size ≤ k_)) (.slice (some ad143) x0_1.length co3) x0_1) := ⟨by rw [← hq_]; exact (by exact uR HO_0.out)⟩; have n1_ : Aside0 (Kept w wr (fun k_ => P0_ k_)) := ⟨by rw [← hq_]; exact (by repeat (first | (with_reducible first |  exact HK.out|  apply Kept.alloc|  apply Kept.drewN|  apply Kept.drew)|  exact HK.out))⟩; have n2_ : Aside0 (Below w0.heap.size w0 wr) := ⟨by rw [← hq_]; exact (by exact uT HB.out)⟩; clear HO_0 HK HB hq_; have HO_0 := n0_; have HK := n1_; have HB := n2_; clear n0_ n1_ n2_)); have p9 : 0 ≤ (x10_1 : Int) := of_decide_eq_true (by first | (with_reducible assumption)|  assumption); have q9 : (x10_1 : Int) < ((x0_1.length : Int) : Int) := of_decide_eq_true (by first | (with_reducible assumption)|  assumption); obtain ⟨go9, co9, eo9, gb9, gl9, cl9, HG9⟩ := Kd.R_form HO_0.out (by omega); (first |  cases eo9|  (injection eo9 with ea_ en_ ec_; (first |  subst ea_|  (injection ea_ with ea_; subst ea_)); subst ec_; clear en_)); have GB9 := zMk gb9; have IGB9 := ownGe GB9.out; have GG9 := zMk HG9; clear gb9 gl9 HG9; have HMgo9 := zMk (show (P0_ go9 ∨ w.heap.size ≤ go9) from (HO_0.out.1 _ rfl)); (first |  simp only [add_plain] at hx143_0|  skip); obtain ⟨hx9_0, hf9_0⟩ := Kd.R_celln 0 HO_0.out (x10_1 : Int) p9 q9; replace p9 := eq_true p9; replace q9 := eq_true q9; obtain ⟨hy10_, hz10_⟩ := Kd.R_celln 0 HO_0.out (x10_1 : Int) (of_decide_eq_true (by first | (with_reducible assumption)|  assumption)) (of_decide_eq_true (by first | (with_reducible assumption)|  assumption)); have HP10 := Kd.R_putg HO_0.out (x10_1 : Int) t144)|((with_reducible refine gate_store (t := 58) (p := 33) rfl ?_); refine store_event (t := 58) (p := 33) (v := ?vo_w11) (w1 := (wr.setCell ⟨go9, (x10_1 : Int).toNat, none⟩ (.int .u32 t144))) ?hg ?ho ?hn ?hr ?_; (case ho => rfl); (case hg => rfl); (case hn => rfl); (case hr => first | (go_simp; done)|(go_simp; rfl)|(go_simp; rw [show ∀ x : Int, IntKind.u32.wrap (IntKind.u8.wrap x) = x % 256 from fun x => (by show (x % 256) % 4294967296 = x % 256; omega)])); intro w11 hw; have hg : wr.grownBy w11 (some go9) := (by rw [hw]; exact HP10.2); have hp_ : Kd.R (Kd.int .u32) 58 w11 w0.heap.size (fun k_ => (P0_ k_ ∨ w.heap.size ≤ k_)) (.slice (some ⟨go9, 0, none⟩) x0_1.length co3) y146 := (by rw [hw, Ny146.out]; exact HP10.1); clear HP10; replace HB := zMk ((by rw [hw]; exact below_set (HB.out) GB9.out : Below w0.heap.size w0 w11)); replace HK := zMk (Kept.of_grown (S := (fun k_ => P0_ k_)) hg (by repeat (first | (with_reducible first |  exact HK.out|  apply Kept.alloc|  apply Kept.drewN|  apply Kept.drew)|  exact HK.out)) (fun k_ e_ => (HO_0.out.1 k_ e_))); replace HO_0 := zMk (hp_); clear hg hw hp_))
      (try simp only [← hl0_1])
      go_roundg k1
      case measure => have := HK1.out; omega
      case rel => exact ⟨(y146), (t145), (wrap64 (x10_1 + 1)), (by first | rfl | (simp; done) | (simp [*]; done)), (by first | rfl | (simp; done) | (simp [*]; done)), H', ⟨by have := HK1.out; omega⟩, ⟨by (try simp only [hl0_1]); exact uR HO_0.out⟩, ⟨by repeat (first | (with_reducible first | exact HK.out | apply Kept.alloc | apply Kept.drewN | apply Kept.drew) | exact HK.out)⟩, ⟨by exact uT HB.out⟩⟩
    · rw [if_neg c5] at H
      have c5b0 : decide (x10_1 < (l1.length : Int)) = false := decide_eq_false c5
      (try (have c5b0l := c5b0; simp only [hl0_1] at c5b0l))
      clear c5
      by_cases c12 : 0 ≤ x10_1
      rotate_left
      · rw [if_neg c12] at H; exact absurd H (by simp)
      rw [if_pos c12] at H
      have c12b0 : decide (0 ≤ x10_1) = true := decide_eq_true c12
      (try (have c12b0l := c12b0; simp only [hl0_1] at c12b0l))
      clear c12
      by_cases c13 : x10_1 < (x0_1.length : Int)
      rotate_left
      · rw [if_neg c13] at H; exact absurd H (by simp)
      rw [if_pos c13] at H
      have c13b0 : decide (x10_1 < (x0_1.length : Int)) = true := decide_eq_true c13
      (try (have c13b0l := c13b0; simp only [hl0_1] at c13b0l))
      clear c13
      replace H := bnd H
      obtain ⟨⟨t148, t149⟩, A140, H⟩ := H
      replace H : (n_less.l0 k1 (x0_1.set (x10_1 : Int).toNat t148) l1 t149 (l0.length : Int) (wrap64 (x10_1 + 1))) = some (r1, r2) := H
      have A14 := zMk A140
      clear A140
      obtain ⟨y150, hy150⟩ : ∃ y_ : List Int, y_ = (x0_1.set (x10_1 : Int).toNat t148) := ⟨_, rfl⟩
      replace H : (n_less.l0 k1 y150 l1 t149 (l0.length : Int) (wrap64 (x10_1 + 1))) = some (r1, r2) := by first | (rw [hy150]; with_reducible exact H) | (have H2_ := bsm H; first | (rw [hy150]; with_reducible exact H2_) | with_reducible exact H2_) | with_reducible exact H | (rw [hy150]; exact H) | exact H
      have Ny150 := zMk hy150
      clear hy150
      have H' := zMk H
      clear H
      have p147 : 0 ≤ (x10_1 : Int) := of_decide_eq_true (by assumption)
      have q147 : x10_1 < (x0_1.length : Int) := of_decide_eq_true (by assumption)
      obtain ⟨ad147, e147, hx147_0⟩ := zAi (zRr HO_0.out).2.2 x10_1 p147 q147
      cases e147
      replace p147 := eq_true p147
      replace q147 := eq_true q147
      go_wp2_with (first | ((with_reducible refine gate_callee (f := 80) rfl ?_); refine goesL_ (some 30) rfl rfl Tryd.func80 (by kernel_rfl) rfl #[.int .u32 (rd x0_1 x10_1), .int .u32 0, .int .u32 x5_1] rfl (by (try simp only [zMa, zMc, zMn]); first |  done|  rfl|  (simp only [zLd, zLt]; rfl)) ?_; (with_reducible refine (bits_Sub32.calls (rd x0_1 x10_1) 0 x5_1 t148 t149 _ A14.out).mono ?_); rintro e w' ⟨rfl, ⟨nd, rfl⟩⟩; refine ⟨_, rfl, ?_⟩; (try (rw [drewN_self wr]; generalize hq_ : World.drewN wr _ = wr; have n0_ : Aside0 (Kd.R (Kd.int .u32) 58 wr w0.heap.size (fun k_ => (P0_ k_ ∨ w.heap.size ≤ k_)) (.slice (some ad147) x0_1.length co3) x0_1) := ⟨by rw [← hq_]; exact (by exact uR HO_0.out)⟩; have n1_ : Aside0 (Kept w wr (fun k_ => P0_ k_)) := ⟨by rw [← hq_]; exact (by repeat (first | (with_reducible first |  exact HK.out|  apply Kept.alloc|  apply Kept.drewN|  apply Kept.drew)|  exact HK.out))⟩; have n2_ : Aside0 (Below w0.heap.size w0 wr) := ⟨by rw [← hq_]; exact (by exact uT HB.out)⟩; clear HO_0 HK HB hq_; have HO_0 := n0_; have HK := n1_; have HB := n2_; clear n0_ n1_ n2_)); have p15 : 0 ≤ (x10_1 : Int) := of_decide_eq_true (by first | (with_reducible assumption)|  assumption); have q15 : (x10_1 : Int) < ((x0_1.length : Int) : Int) := of_decide_eq_true (by first | (with_reducible assumption)|  assumption); obtain ⟨go15, co15, eo15, gb15, gl15, cl15, HG15⟩ := Kd.R_form HO_0.out (by omega); (first |  cases eo15|  (injection eo15 with ea_ en_ ec_; (first |  subst ea_|  (injection ea_ with ea_; subst ea_)); subst ec_; clear en_)); have GB15 := zMk gb15; have IGB15 := ownGe GB15.out; have GG15 := zMk HG15; clear gb15 gl15 HG15; have HMgo15 := zMk (show (P0_ go15 ∨ w.heap.size ≤ go15) from (HO_0.out.1 _ rfl)); (first |  simp only [add_plain] at hx147_0|  skip); obtain ⟨hx15_0, hf15_0⟩ := Kd.R_celln 0 HO_0.out (x10_1 : Int) p15 q15; replace p15 := eq_true p15; replace q15 := eq_true q15; obtain ⟨hy16_, hz16_⟩ := Kd.R_celln 0 HO_0.out (x10_1 : Int) (of_decide_eq_true (by first | (with_reducible assumption)|  assumption)) (of_decide_eq_true (by first | (with_reducible assumption)|  assumption)); have HP16 := Kd.R_putg HO_0.out (x10_1 : Int) t148)|((with_reducible refine gate_store (t := 58) (p := 33) rfl ?_); refine store_event (t := 58) (p := 33) (v := ?vo_w17) (w1 := (wr.setCell ⟨go15, (x10_1 : Int).toNat, none⟩ (.int .u32 t148))) ?hg ?ho ?hn ?hr ?_; (case ho => rfl); (case hg => rfl); (case hn => rfl); (case hr => first | (go_simp; done)|(go_simp; rfl)|(go_simp; rw [show ∀ x : Int, IntKind.u32.wrap (IntKind.u8.wrap x) = x % 256 from fun x => (by show (x % 256) % 4294967296 = x % 256; omega)])); intro w17 hw; have hg : wr.grownBy w17 (some go15) := (by rw [hw]; exact HP16.2); have hp_ : Kd.R (Kd.int .u32) 58 w17 w0.heap.size (fun k_ => (P0_ k_ ∨ w.heap.size ≤ k_)) (.slice (some ⟨go15, 0, none⟩) x0_1.length co3) y150 := (by rw [hw, Ny150.out]; exact HP16.1); clear HP16; replace HB := zMk ((by rw [hw]; exact below_set (HB.out) GB15.out : Below w0.heap.size w0 w17)); replace HK := zMk (Kept.of_grown (S := (fun k_ => P0_ k_)) hg (by repeat (first | (with_reducible first |  exact HK.out|  apply Kept.alloc|  apply Kept.drewN|  apply Kept.drew)|  exact HK.out)) (fun k_ e_ => (HO_0.out.1 k_ e_))); replace HO_0 := zMk (hp_); clear hg hw hp_))
      (try simp only [← hl0_1])
      go_roundg k1
      case measure => have := HK1.out; omega
      case rel => exact ⟨(y150), (t149), (wrap64 (x10_1 + 1)), (by first | rfl | (simp; done) | (simp [*]; done)), (by first | rfl | (simp; done) | (simp [*]; done)), H', ⟨by have := HK1.out; omega⟩, ⟨by (try simp only [hl0_1]); exact uR HO_0.out⟩, ⟨by repeat (first | (with_reducible first | exact HK.out | apply Kept.alloc | apply Kept.drewN | apply Kept.drew) | exact HK.out)⟩, ⟨by exact uT HB.out⟩⟩
  · rw [if_neg c4] at H
    have c4b0 : decide (x10_1 < (l0.length : Int)) = false := decide_eq_false c4
    (try (have c4b0l := c4b0; simp only [hl0_1] at c4b0l))
    clear c4
    simp only [Option.some.injEq, Prod.mk.injEq] at H
    obtain ⟨rfl, rfl⟩ := H
    go_wp2
    go_ret
    exact ⟨by first | rfl | (simp [errW_none, errW_some] <;> rfl) | (simp [*, errW_none, errW_some] <;> rfl), (by first | exact (by exact uR HO_0.out) | (simp only [hl0_1]; exact (by exact uR HO_0.out))), by exact uT HB.out, by repeat (first | (with_reducible first | exact HK.out | apply Kept.alloc | apply Kept.drewN | apply Kept.drew) | exact HK.out)⟩


def n_Sub.f (k : Nat) (l0 : List Int) (l1 : List Int) : Option (List Int × Int) := (n_Cmp.f l0 l1).bind fun t246 => (if t246 < 0 then (some (([] : List Int), 17)) else ((n_Norm.f l0).bind fun t247 => ((n_cut.f l1).bind fun t250 => ((n_less.f k t247 t250).bind fun bt253 => ((n_cut.f bt253.2).bind fun t255 => (some (t255, 0)))))))
theorem n_Sub.calls (k : Nat) (A0 : Option Addr) (c0 : Nat) (l0 : List Int) (P1_ : Nat → Prop) (A1 : Option Addr) (c1 : Nat) (l1 : List Int) (r1 : List Int) (r2 : Int) (w : World) (hr0 : Kd.C (Kd.int .u32) w A0 l0.length l0) (hc0 : l0.length ≤ c0) (hs1 : Kd.V (Kd.int .u32) 58 w w.heap.size (fun k_ => P1_ k_) (.slice A1 l1.length c1) l1) (h : n_Sub.f k l0 l1 = some (r1, r2)) :
    Calls Tryd.prog 35 #[.slice A0 l0.length c0, .slice A1 l1.length c1] w fun e w' => ∃ v0_ : Value, e = .returned (.tuple #[v0_, .int .i64 r2]) ∧ Kd.V (Kd.int .u32) 58 w' w.heap.size (fun k_ => (P1_ k_ ∨ w.heap.size ≤ k_)) v0_ r1 ∧ Below w.heap.size w w' := by
  have HR0 := zMk hr0
  have HC0 := zMk hc0
  clear hr0 hc0
  have HO1 := zMk (show Kd.V (Kd.int .u32) 58 w w.heap.size (fun k_ => (P1_ k_ ∨ w.heap.size ≤ k_)) (.slice A1 l1.length c1) l1 from zVm hs1 (fun k_ hk => .inl hk))
  have HB := zMk (Below.refl w.heap.size w)
  have H : ((n_Cmp.f l0 l1).bind fun t246 => (if t246 < 0 then (some (([] : List Int), 17)) else ((n_Norm.f l0).bind fun t247 => ((n_cut.f l1).bind fun t250 => ((n_less.f k t247 t250).bind fun bt253 => ((n_cut.f bt253.2).bind fun t255 => (some (t255, 0)))))))) = some (r1, r2) := h
  clear h
  replace H := bnd H
  obtain ⟨t246, A30, H⟩ := H
  have A3 := zMk A30
  clear A30
  by_cases c4 : t246 < 0
  · rw [if_pos c4] at H
    have c4b0 : decide (t246 < 0) = true := decide_eq_true c4
    clear c4
    simp only [Option.some.injEq, Prod.mk.injEq] at H
    obtain ⟨rfl, rfl⟩ := H
    go_enter Tryd.func35, Tryd.ntmps35
    go_wp2_with (first | ((with_reducible refine gate_callee (f := 49) rfl ?_); refine goesL_ (some 9) rfl rfl Tryd.func49 (by kernel_rfl) rfl #[.slice A0 l0.length c0, .slice A1 l1.length c1] rfl (by (try simp only [zMa, zMc, zMn]); first |  done|  rfl|  (simp only [zLd, zLt]; rfl)) ?_; (with_reducible refine (n_Cmp.calls _ _ l0 _ _ l1 t246 _ ?side1 ?side2 ?side3 ?side4 A3.out).mono ?_); (case side1 => repeat (first |  exact HR0.out|  (with_reducible refine zCa ?_ _)|(with_reducible refine zCn ?_ _)|(with_reducible refine zCd ?_))); (case side2 => exact HC0.out); (case side3 => exact uC (zVr HO1.out).2.2); (case side4 => exact (zVr HO1.out).2.1); rintro e w5 ⟨rfl, hb⟩; refine ⟨_, rfl, ?_⟩; replace HO1 := zMk (zVb (by exact uV HO1.out) hb); replace HB := zMk (zBt (by exact uT HB.out) hb)))
    go_ret2
    exact ⟨_, by first | rfl | (simp [errW_none, errW_some] <;> rfl) | (simp [*, errW_none, errW_some] <;> rfl), (by first | exact Kd.V_nil _ _ _ _ _ | exact zVm (Kd.R_V (by first | exact Kd.R_nil _ _ _ _ _ | exact Kd.N_nil _ _ _ _ _ | exact Kd.V_nil _ _ _ _ _ | exact Kd.Q_nil _ _ _ _ _ | exact Kd.S_nil _ _ _ _ _)) (fun k_ hk => by first | exact ⟨(.inr (hk.1)), hk.2⟩ | exact (.inr (hk)))), by exact uT HB.out⟩
  · rw [if_neg c4] at H
    have c4b0 : decide (t246 < 0) = false := decide_eq_false c4
    clear c4
    replace H := bnd H
    obtain ⟨t247, A60, H⟩ := H
    have A6 := zMk A60
    clear A60
    replace H := bnd H
    obtain ⟨t250, A70, H⟩ := H
    have A7 := zMk A70
    clear A70
    replace H := bnd H
    obtain ⟨⟨t253, t254⟩, A80, H⟩ := H
    replace H : ((n_cut.f t254).bind fun t255 => (some (t255, 0))) = some (r1, r2) := H
    have A8 := zMk A80
    clear A80
    replace H := bnd H
    obtain ⟨t255, A90, H⟩ := H
    have A9 := zMk A90
    clear A90
    simp only [Option.some.injEq, Prod.mk.injEq] at H
    obtain ⟨rfl, rfl⟩ := H
    go_enter Tryd.func35, Tryd.ntmps35
    go_wp2_with (first | ((with_reducible refine gate_callee (f := 49) rfl ?_); refine goesL_ (some 9) rfl rfl Tryd.func49 (by kernel_rfl) rfl #[.slice A0 l0.length c0, .slice A1 l1.length c1] rfl (by (try simp only [zMa, zMc, zMn]); first |  done|  rfl|  (simp only [zLd, zLt]; rfl)) ?_; (with_reducible refine (n_Cmp.calls _ _ l0 _ _ l1 t246 _ ?side1 ?side2 ?side3 ?side4 A3.out).mono ?_); (case side1 => repeat (first |  exact HR0.out|  (with_reducible refine zCa ?_ _)|(with_reducible refine zCn ?_ _)|(with_reducible refine zCd ?_))); (case side2 => exact HC0.out); (case side3 => exact uC (zVr HO1.out).2.2); (case side4 => exact (zVr HO1.out).2.1); rintro e w10 ⟨rfl, hb⟩; refine ⟨_, rfl, ?_⟩; replace HO1 := zMk (zVb (by exact uV HO1.out) hb); replace HB := zMk (zBt (by exact uT HB.out) hb))|((with_reducible refine gate_callee (f := 57) rfl ?_); refine goesL_ (some 12) rfl rfl Tryd.func57 (by kernel_rfl) rfl #[.slice A0 l0.length c0] rfl (by (try simp only [zMa, zMc, zMn]); first |  done|  rfl|  (simp only [zLd, zLt]; rfl)) ?_; (with_reducible refine (n_Norm.calls _ _ l0 t247 _ ?side1 ?side2 A6.out).mono ?_); (case side1 => repeat (first |  exact (Kd.C_below HR0.out HB.out)|(with_reducible refine zCa ?_ _)|(with_reducible refine zCn ?_ _)|(with_reducible refine zCd ?_))); (case side2 => exact HC0.out); rintro e w11 ⟨v248, rfl, ho0, hb⟩; refine ⟨_, rfl, ?_⟩; replace HO1 := zMk (zVe (by exact uV HO1.out) (zRz ho0) hb); have HO249 := zMk (zRl (Kd.R_newM (M := fun k_ => (w.heap.size ≤ k_)) ho0 (zBs (by exact uT HB.out)) (fun k_ h_ => h_)) (zBs (by exact uT HB.out))); replace HB := zMk (zBt (by exact uT HB.out) hb))|((with_reducible refine gate_callee (f := 56) rfl ?_); refine goesL_ (some 15) rfl rfl Tryd.func56 (by kernel_rfl) rfl #[.slice A1 l1.length c1] rfl (by (try simp only [zMa, zMc, zMn]); first |  done|  rfl|  (simp only [zLd, zLt]; rfl)) ?_; (with_reducible refine (n_cut.calls (fun k_ => ((P1_ k_ ∨ w.heap.size ≤ k_) ∧ some k_ ≠ (v248 : Value).ownBlock)) _ _ l1 t250 _ ?side1 A7.out).mono ?_); (case side1 => exact HO1.out); rintro e w12 ⟨v251, rfl, ho0, hb⟩; refine ⟨_, rfl, ?_⟩; replace HO1 := zMk (zVb (by exact uV HO1.out) hb); have HO252 := zMk (zVl (zVm (ok' := fun k_ => (P1_ k_ ∨ w.heap.size ≤ k_) ∧ some k_ ≠ (v248 : Value).ownBlock) ho0 (fun k_ hk_ => ⟨Or.elim hk_ (fun hs_ => hs_.1) (fun hn_ => (.inr (Nat.le_trans (zBs (by exact uT HB.out)) hn_))), Or.elim hk_ (fun hs_ => hs_.2) (fun hn_ => (Kd.fresh' (zRt (by exact uR HO249.out)) k_ hn_))⟩)) (zBs (by exact uT HB.out))); replace HO249 := zMk (zRb (by exact uR HO249.out) hb); replace HB := zMk (zBt (by exact uT HB.out) hb); obtain ⟨Ao13, co13, eo13⟩ := zRs HO249.out; subst eo13; obtain ⟨Ao14, co14, eo14⟩ := zVs HO252.out; subst eo14)|((with_reducible refine gate_callee (f := 61) rfl ?_); refine goesL_ (some 16) rfl rfl Tryd.func61 (by kernel_rfl) rfl #[.slice Ao13 t247.length co13, .slice Ao14 t250.length co14] rfl (by (try simp only [zMa, zMc, zMn]); first |  done|  rfl|  (simp only [zLd, zLt]; rfl)) ?_; (with_reducible refine (n_less.calls k (fun k_ => some k_ = (.slice Ao13 t247.length co13 : Value).ownBlock) (.slice Ao13 t247.length co13) t247 _ _ t250 t253 t254 w _ ?side1 ?side2 ?side3 ?side4 A8.out).mono ?_); (case side1 => exact uT HB.out); (case side2 => exact Kd.R_tight rfl HO249.out); (case side3 => exact Kd.C_kept_ownV (HO252.out) (fun k_ hk_ hs_ => (hk_.2) hs_)); (case side4 => exact (zVr HO252.out).2.1); rintro e w15 ⟨rfl, hy0, hb, hkp⟩; refine ⟨_, rfl, ?_⟩; replace HO1 := zMk (zVm (ok' := fun k_ => (P1_ k_ ∨ w.heap.size ≤ k_) ∧ some k_ ≠ (.slice Ao13 t247.length co13 : Value).ownBlock) (Kd.V_keptB (HO1.out) hkp (fun k_ hk_ hs_ => (hk_.2) hs_)) (fun k_ hk_ => ⟨hk_.1.1, hk_.1.2⟩)); replace HO249 := zMk (Kd.R_reok rfl hy0 (fun k_ e_ => HO249.out.1 k_ e_)); replace HO252 := zMk (zVm (ok' := fun k_ => (P1_ k_ ∨ w.heap.size ≤ k_) ∧ some k_ ≠ (.slice Ao13 t247.length co13 : Value).ownBlock) (Kd.V_keptB (HO252.out) hkp (fun k_ hk_ hs_ => (hk_.2) hs_)) (fun k_ hk_ => ⟨hk_.1.1, hk_.1.2⟩)); replace HB := zMk (hb))|((with_reducible refine gate_callee (f := 56) rfl ?_); refine goesL_ (some 18) rfl rfl Tryd.func56 (by kernel_rfl) rfl #[.slice Ao13 t254.length co13] rfl (by (try simp only [zMa, zMc, zMn]); first |  done|  (rw [show t254.length = t247.length from (zRr HO249.out).1.symm] <;> rfl)|  rfl|  (simp only [zLd, zLt]; rfl)) ?_; (with_reducible refine (n_cut.calls (fun k_ => some k_ = (.slice Ao13 t247.length co13 : Value).ownBlock) _ _ t254 t255 _ ?side1 A9.out).mono ?_); (case side1 => rw [show t254.length = t247.length from (zRr HO249.out).1.symm]; exact Kd.R_V (Kd.R_tight rfl (HO249.out))); rintro e w16 ⟨v256, rfl, ho0, hb⟩; refine ⟨_, rfl, ?_⟩; replace HO1 := zMk (zVb (by exact uV HO1.out) hb); replace HO252 := zMk (zVb (by exact uV HO252.out) hb); have HO257 := zMk (zVl (zVm (ok' := fun k_ => (P1_ k_ ∨ w.heap.size ≤ k_)) ho0 (fun k_ hk_ => Or.elim hk_ (fun hs_ => (.inr (((HO249.out).1 k_ hs_.symm).1))) (fun hn_ => (.inr (Nat.le_trans (zBs (by exact uT HB.out)) hn_))))) (zBs (by exact uT HB.out))); replace HO249 := zMk (zRb (by exact uR HO249.out) hb); replace HB := zMk (zBt (by exact uT HB.out) hb)))
    go_ret2
    exact ⟨_, by first | rfl | (simp [errW_none, errW_some] <;> rfl) | (simp [*, errW_none, errW_some] <;> rfl), by exact uV HO257.out, by exact uT HB.out⟩


def integer_signed.f (a0 : Bool) (l1 : List Int) : Option (Bool × List Int) := (n_Norm.f l1).bind fun t259 => (if a0 = true then (some (decide ((t259.length : Int) > 0), t259)) else (some (false, t259)))
theorem integer_signed.calls (a0 : Bool) (A1 : Option Addr) (c1 : Nat) (l1 : List Int) (r1 : Bool) (r2 : List Int) (w : World) (hr1 : Kd.C (Kd.int .u32) w A1 l1.length l1) (hc1 : l1.length ≤ c1) (h : integer_signed.f a0 l1 = some (r1, r2)) :
    Calls Tryd.prog 36 #[.bool a0, .slice A1 l1.length c1] w fun e w' => ∃ v1_ : Value, e = .returned (.agg #[.bool r1, v1_]) ∧ Kd.R (Kd.int .u32) 58 w' w.heap.size (fun _ => True) v1_ r2 ∧ Below w.heap.size w w' := by
  have hu24 := Tryd.underlying24
  have HR1 := zMk hr1
  have HC1 := zMk hc1
  clear hr1 hc1
  have HB := zMk (Below.refl w.heap.size w)
  have H : ((n_Norm.f l1).bind fun t259 => (if a0 = true then (some (decide ((t259.length : Int) > 0), t259)) else (some (false, t259)))) = some (r1, r2) := h
  clear h
  replace H := bnd H
  obtain ⟨t259, A30, H⟩ := H
  have A3 := zMk A30
  clear A30
  by_cases c4 : a0 = true
  · subst c4
    replace H : (some (decide ((t259.length : Int) > 0), t259)) = some (r1, r2) := by rw [if_pos rfl] at H; exact H
    simp only [Option.some.injEq, Prod.mk.injEq] at H
    obtain ⟨rfl, rfl⟩ := H
    have hdl_ : decide ((t259.length : Int) > 0) = decide (0 < t259.length) := decide_eq_decide.2 (by omega)
    rw [hdl_]
    go_enter Tryd.func36, Tryd.ntmps36
    go_wp2_with (first | ((with_reducible refine gate_dst (N := 4) rfl ?_); (try (refine gate_guard (by rfl) ?_; dsimp only)); refine box_event ?hg (N := 4) ?hd (cs := #[.bool false, .slice none 0 0]) (t := 24) ?hr ?_; (case hd => rfl); (case hg => rfl); (case hr => first | (go_simp; done)|(go_simp; rfl)|(go_simp; rw [show ∀ x : Int, IntKind.u32.wrap (IntKind.u8.wrap x) = x % 256 from fun x => (by show (x % 256) % 4294967296 = x % 256; omega)])); intro gb258 hg w5 hbox hb; have BK258 := zMk (hbox); have GW258 := zMk ((by rw [hg]; exact (zBs (by exact uT HB.out)) : w.heap.size ≤ gb258)); have GE258 := zMk ((by rw [hg]; exact (zBs (by exact uT HB.out)) : w.heap.size ≤ gb258)); have IGE258 := ownGe GE258.out; replace HB := zMk (zBt (by exact uT HB.out) hb); clear hb hbox hg)|((with_reducible refine gate_callee (f := 57) rfl ?_); refine goesL_ (some 6) rfl rfl Tryd.func57 (by kernel_rfl) rfl #[.slice A1 l1.length c1] rfl (by (try simp only [zMa, zMc, zMn]); first |  done|  rfl|  (simp only [zLd, zLt]; rfl)) ?_; (with_reducible refine (n_Norm.calls _ _ l1 t259 _ ?side1 ?side2 A3.out).mono ?_); (case side1 => repeat (first |  exact (Kd.C_below HR1.out HB.out)|(with_reducible refine zCa ?_ _)|(with_reducible refine zCn ?_ _)|(with_reducible refine zCd ?_))); (case side2 => exact HC1.out); rintro e w6 ⟨v260, rfl, ho0, hb⟩; refine ⟨_, rfl, ?_⟩; have HO261 := zMk (zRl ho0 (zBs (by exact uT HB.out))); replace BK258 := zMk (zKb (g := gb258) (o := .cells #[.bool false, .slice none 0 0] 24 (0, 0)) (by (with_reducible repeat (first |  refine zKn ?_ _|  refine zKd ?_|  refine zKa ?_ _)); exact BK258.out) hb); replace HB := zMk (zBt (by exact uT HB.out) hb); obtain ⟨Ao7, co7, eo7⟩ := zRs HO261.out; subst eo7; have hcz8_0 : w6.cell? ⟨gb258, 0, none⟩ = some (.bool false) := (zKc BK258.out 0).trans rfl; have hcz8_1 : w6.cell? ⟨gb258, 1, none⟩ = some (.slice none 0 0) := (zKc BK258.out 1).trans rfl; have hfz8_0 := zKf BK258.out 0; have hfz8_1 := zKf BK258.out 1))
    refine bodyPost_ret (results_cell_row rfl _ _ gb258 24 #[.bool (decide (0 < t259.length)), .slice Ao7 t259.length co7] (0, 0) _ rfl (by (with_reducible repeat (first | refine zKn ?_ _ | refine zKd ?_ | refine zKa ?_ _)); refine blk_put (cs := #[.bool (decide (0 < t259.length)), .slice none 0 0]) ?_ 1 _ rfl; (with_reducible repeat (first | refine zKn ?_ _ | refine zKd ?_ | refine zKa ?_ _)); refine blk_put (cs := #[.bool false, .slice none 0 0]) ?_ 0 _ rfl; (with_reducible repeat (first | refine zKn ?_ _ | refine zKd ?_ | refine zKa ?_ _)); exact BK258.out) Tryd.underlying24 rfl (by kernel_rfl)) rfl ?_
    exact ⟨_, by first | rfl | (simp [errW_none, errW_some] <;> rfl) | (simp [*, errW_none, errW_some] <;> rfl), by (with_reducible repeat (first | apply zRa | apply zRn | apply zRd)); exact zRm (Kd.R_far (p := ⟨gb258, 1, none⟩) (Kd.R_far (p := ⟨gb258, 0, none⟩) (Kd.R_types HO261.out BK258.out (by decide)) (fun _ hk => hk.2) (.bool (decide (0 < t259.length)))) (fun _ hk => hk.2) (.slice Ao7 t259.length co7)) (fun _ hk => trivial), by exact uT HB.out⟩
  · replace c4 := Bool.eq_false_iff.mpr c4
    subst c4
    replace H : (some (false, t259)) = some (r1, r2) := by rw [if_neg (show ¬ (false = true) by decide)] at H; exact H
    simp only [Option.some.injEq, Prod.mk.injEq] at H
    obtain ⟨rfl, rfl⟩ := H
    go_enter Tryd.func36, Tryd.ntmps36
    go_wp2_with (first | ((with_reducible refine gate_dst (N := 4) rfl ?_); (try (refine gate_guard (by rfl) ?_; dsimp only)); refine box_event ?hg (N := 4) ?hd (cs := #[.bool false, .slice none 0 0]) (t := 24) ?hr ?_; (case hd => rfl); (case hg => rfl); (case hr => first | (go_simp; done)|(go_simp; rfl)|(go_simp; rw [show ∀ x : Int, IntKind.u32.wrap (IntKind.u8.wrap x) = x % 256 from fun x => (by show (x % 256) % 4294967296 = x % 256; omega)])); intro gb258 hg w9 hbox hb; have BK258 := zMk (hbox); have GW258 := zMk ((by rw [hg]; exact (zBs (by exact uT HB.out)) : w.heap.size ≤ gb258)); have GE258 := zMk ((by rw [hg]; exact (zBs (by exact uT HB.out)) : w.heap.size ≤ gb258)); have IGE258 := ownGe GE258.out; replace HB := zMk (zBt (by exact uT HB.out) hb); clear hb hbox hg)|((with_reducible refine gate_callee (f := 57) rfl ?_); refine goesL_ (some 6) rfl rfl Tryd.func57 (by kernel_rfl) rfl #[.slice A1 l1.length c1] rfl (by (try simp only [zMa, zMc, zMn]); first |  done|  rfl|  (simp only [zLd, zLt]; rfl)) ?_; (with_reducible refine (n_Norm.calls _ _ l1 t259 _ ?side1 ?side2 A3.out).mono ?_); (case side1 => repeat (first |  exact (Kd.C_below HR1.out HB.out)|(with_reducible refine zCa ?_ _)|(with_reducible refine zCn ?_ _)|(with_reducible refine zCd ?_))); (case side2 => exact HC1.out); rintro e w10 ⟨v260, rfl, ho0, hb⟩; refine ⟨_, rfl, ?_⟩; have HO261 := zMk (zRl ho0 (zBs (by exact uT HB.out))); replace BK258 := zMk (zKb (g := gb258) (o := .cells #[.bool false, .slice none 0 0] 24 (0, 0)) (by (with_reducible repeat (first |  refine zKn ?_ _|  refine zKd ?_|  refine zKa ?_ _)); exact BK258.out) hb); replace HB := zMk (zBt (by exact uT HB.out) hb); obtain ⟨Ao11, co11, eo11⟩ := zRs HO261.out; subst eo11; have hcz12_0 : w10.cell? ⟨gb258, 0, none⟩ = some (.bool false) := (zKc BK258.out 0).trans rfl; have hcz12_1 : w10.cell? ⟨gb258, 1, none⟩ = some (.slice none 0 0) := (zKc BK258.out 1).trans rfl; have hfz12_0 := zKf BK258.out 0; have hfz12_1 := zKf BK258.out 1))
    refine bodyPost_ret (results_cell_row rfl _ _ gb258 24 #[.bool false, .slice Ao11 t259.length co11] (0, 0) _ rfl (by (with_reducible repeat (first | refine zKn ?_ _ | refine zKd ?_ | refine zKa ?_ _)); refine blk_put (cs := #[.bool false, .slice none 0 0]) ?_ 1 _ rfl; (with_reducible repeat (first | refine zKn ?_ _ | refine zKd ?_ | refine zKa ?_ _)); refine blk_put (cs := #[.bool false, .slice none 0 0]) ?_ 0 _ rfl; (with_reducible repeat (first | refine zKn ?_ _ | refine zKd ?_ | refine zKa ?_ _)); exact BK258.out) Tryd.underlying24 rfl (by kernel_rfl)) rfl ?_
    exact ⟨_, by first | rfl | (simp [errW_none, errW_some] <;> rfl) | (simp [*, errW_none, errW_some] <;> rfl), by (with_reducible repeat (first | apply zRa | apply zRn | apply zRd)); exact zRm (Kd.R_far (p := ⟨gb258, 1, none⟩) (Kd.R_far (p := ⟨gb258, 0, none⟩) (Kd.R_types HO261.out BK258.out (by decide)) (fun _ hk => hk.2) (.bool false)) (fun _ hk => hk.2) (.slice Ao11 t259.length co11)) (fun _ hk => trivial), by exact uT HB.out⟩


def integer_Add.f (k : Nat) (a0_0 : Bool) (l0_1 : List Int) (a1_0 : Bool) (l1_1 : List Int) : Option (Bool × List Int) := if (a0_0 == a1_0) = true then ((n_Add.f k l0_1 l1_1).bind fun t815 => ((integer_signed.f a0_0 t815).bind fun bt818 => (some (bt818.1, bt818.2)))) else ((n_Sub.f k l0_1 l1_1).bind fun bt822 => (if bt822.2 = 0 then ((integer_signed.f a0_0 bt822.1).bind fun bt826 => (some (bt826.1, bt826.2))) else ((n_Sub.f k l1_1 l0_1).bind fun bt830 => ((integer_signed.f a1_0 bt830.1).bind fun bt834 => (some (bt834.1, bt834.2))))))
def integer_Add.T2 : Bool × List (List Nat × List Nat) := (true, [([], []), ([0], [0]), ([], []), ([2], [2]), ([], []), ([4], [4]), ([3, 5], [3, 5]), ([1, 6, 6], [1, 6]), ([7, 7, 0, 1, 2, 3, 4, 5, 6, 7], [7])])
def integer_Add.B2 : List Nat := [0, 1, 0, 4, 0, 16, 60, 127, 255]
theorem integer_Add.tab2 : rtab .any (opsOf Tryd.f17 2) = integer_Add.T2 := by kernel_rfl
theorem integer_Add.bits2 : waitsOk integer_Add.T2.2 integer_Add.B2 = true := by kernel_rfl
theorem integer_Add.calls (k : Nat) (a0_0 : Bool) (A0_1 : Option Addr) (c0_1 : Nat) (l0_1 : List Int) (a1_0 : Bool) (A1_1 : Option Addr) (c1_1 : Nat) (l1_1 : List Int) (r1 : Bool) (r2 : List Int) (w : World) (hr0_1 : Kd.C (Kd.int .u32) w A0_1 l0_1.length l0_1) (hc0_1 : l0_1.length ≤ c0_1) (hr1_1 : Kd.C (Kd.int .u32) w A1_1 l1_1.length l1_1) (hc1_1 : l1_1.length ≤ c1_1) (h : integer_Add.f k a0_0 l0_1 a1_0 l1_1 = some (r1, r2)) :
    Calls Tryd.prog 17 #[.agg #[.bool a0_0, .slice A0_1 l0_1.length c0_1], .agg #[.bool a1_0, .slice A1_1 l1_1.length c1_1]] w fun e w' => ∃ v1_ : Value, e = .returned (.agg #[.bool r1, v1_]) ∧ Kd.R (Kd.int .u32) 58 w' w.heap.size (fun _ => True) v1_ r2 ∧ Below w.heap.size w w' := by
  have hu24 := Tryd.underlying24
  have HR0_1 := zMk hr0_1
  have HC0_1 := zMk hc0_1
  clear hr0_1 hc0_1
  have HR1_1 := zMk hr1_1
  have HC1_1 := zMk hc1_1
  clear hr1_1 hc1_1
  have HB := zMk (Below.refl w.heap.size w)
  have H : (if (a0_0 == a1_0) = true then ((n_Add.f k l0_1 l1_1).bind fun t815 => ((integer_signed.f a0_0 t815).bind fun bt818 => (some (bt818.1, bt818.2)))) else ((n_Sub.f k l0_1 l1_1).bind fun bt822 => (if bt822.2 = 0 then ((integer_signed.f a0_0 bt822.1).bind fun bt826 => (some (bt826.1, bt826.2))) else ((n_Sub.f k l1_1 l0_1).bind fun bt830 => ((integer_signed.f a1_0 bt830.1).bind fun bt834 => (some (bt834.1, bt834.2))))))) = some (r1, r2) := h
  clear h
  by_cases c3 : (a0_0 == a1_0) = true
  · rw [if_pos c3] at H
    have c3b0 : (a0_0 == a1_0) = true := c3
    (try (have c3b1 : decide (a0_0 = a1_0) = true := by simpa using c3))
    (try (have c3b2 : (a0_0 == a1_0) = true := by simpa using c3))
    clear c3
    replace H := bnd H
    obtain ⟨t815, A40, H⟩ := H
    have A4 := zMk A40
    clear A40
    replace H := bnd H
    obtain ⟨⟨t818, t819⟩, A50, H⟩ := H
    replace H : (some (t818, t819)) = some (r1, r2) := H
    have A5 := zMk A50
    clear A50
    simp only [Option.some.injEq, Prod.mk.injEq] at H
    obtain ⟨rfl, rfl⟩ := H
    go_enter Tryd.func17, Tryd.ntmps17
    try go_wp2_with (first | ((with_reducible refine gate_dst (N := 2) rfl ?_); refine box_event ?hg (N := 2) ?hd (cs := #[.bool a0_0, .slice A0_1 l0_1.length c0_1]) (t := 24) ?hr ?_; (case hd => rfl); (case hg => rfl); (case hr => first | (go_simp; done)|(go_simp; rfl)|(go_simp; rw [show ∀ x : Int, IntKind.u32.wrap (IntKind.u8.wrap x) = x % 256 from fun x => (by show (x % 256) % 4294967296 = x % 256; omega)])); intro gb812 hg w6 hbox hb; have BK812 := zMk (hbox); have GW812 := zMk ((by rw [hg]; exact (zBs (by exact uT HB.out)) : w.heap.size ≤ gb812)); have GE812 := zMk ((by rw [hg]; exact (zBs (by exact uT HB.out)) : w.heap.size ≤ gb812)); have IGE812 := ownGe GE812.out; replace HB := zMk (zBt (by exact uT HB.out) hb); clear hb hbox hg)|((with_reducible refine gate_dst (N := 3) rfl ?_); refine box_event ?hg (N := 3) ?hd (cs := #[.bool a1_0, .slice A1_1 l1_1.length c1_1]) (t := 24) ?hr ?_; (case hd => rfl); (case hg => rfl); (case hr => first | (go_simp; done)|(go_simp; rfl)|(go_simp; rw [show ∀ x : Int, IntKind.u32.wrap (IntKind.u8.wrap x) = x % 256 from fun x => (by show (x % 256) % 4294967296 = x % 256; omega)])); intro gb813 hg w7 hbox hb; have BK813 := zMk (hbox); have GW813 := zMk ((by rw [hg]; exact (zBs (by exact uT HB.out)) : w.heap.size ≤ gb813)); have GE813 := zMk ((by rw [hg]; exact (zBs (by exact uT HB.out)) : w.heap.size ≤ gb813)); have IGE813 := ownGe GE813.out; replace HB := zMk (zBt (by exact uT HB.out) hb); have NB812_813 := zMk ((by rw [hg]; exact Nat.ne_of_lt (blk_lt (g := gb812) (o := .cells #[.bool a0_0, .slice A0_1 l0_1.length c0_1] 24 (0, 0)) (by (with_reducible repeat (first |  refine zKn ?_ _|  refine zKd ?_|  refine zKa ?_ _)); exact BK812.out)) : gb812 ≠ gb813)); have NB813_812 := zMk ((by rw [hg]; exact Nat.ne_of_gt (blk_lt (g := gb812) (o := .cells #[.bool a0_0, .slice A0_1 l0_1.length c0_1] 24 (0, 0)) (by (with_reducible repeat (first |  refine zKn ?_ _|  refine zKd ?_|  refine zKa ?_ _)); exact BK812.out)) : gb813 ≠ gb812)); replace BK812 := zMk (zKb (g := gb812) (o := .cells #[.bool a0_0, .slice A0_1 l0_1.length c0_1] 24 (0, 0)) (by (with_reducible repeat (first |  refine zKn ?_ _|  refine zKd ?_|  refine zKa ?_ _)); exact BK812.out) hb); clear hb hbox hg)|((with_reducible refine gate_dst (N := 4) rfl ?_); refine box_event ?hg (N := 4) ?hd (cs := #[.bool false, .slice none 0 0]) (t := 24) ?hr ?_; (case hd => rfl); (case hg => rfl); (case hr => first | (go_simp; done)|(go_simp; rfl)|(go_simp; rw [show ∀ x : Int, IntKind.u32.wrap (IntKind.u8.wrap x) = x % 256 from fun x => (by show (x % 256) % 4294967296 = x % 256; omega)])); intro gb814 hg w8 hbox hb; have BK814 := zMk (hbox); have GW814 := zMk ((by rw [hg]; exact (zBs (by exact uT HB.out)) : w.heap.size ≤ gb814)); have GE814 := zMk ((by rw [hg]; exact (zBs (by exact uT HB.out)) : w.heap.size ≤ gb814)); have IGE814 := ownGe GE814.out; replace HB := zMk (zBt (by exact uT HB.out) hb); have NB812_814 := zMk ((by rw [hg]; exact Nat.ne_of_lt (blk_lt (g := gb812) (o := .cells #[.bool a0_0, .slice A0_1 l0_1.length c0_1] 24 (0, 0)) (by (with_reducible repeat (first |  refine zKn ?_ _|  refine zKd ?_|  refine zKa ?_ _)); exact BK812.out)) : gb812 ≠ gb814)); have NB814_812 := zMk ((by rw [hg]; exact Nat.ne_of_gt (blk_lt (g := gb812) (o := .cells #[.bool a0_0, .slice A0_1 l0_1.length c0_1] 24 (0, 0)) (by (with_reducible repeat (first |  refine zKn ?_ _|  refine zKd ?_|  refine zKa ?_ _)); exact BK812.out)) : gb814 ≠ gb812)); replace BK812 := zMk (zKb (g := gb812) (o := .cells #[.bool a0_0, .slice A0_1 l0_1.length c0_1] 24 (0, 0)) (by (with_reducible repeat (first |  refine zKn ?_ _|  refine zKd ?_|  refine zKa ?_ _)); exact BK812.out) hb); have NB813_814 := zMk ((by rw [hg]; exact Nat.ne_of_lt (blk_lt (g := gb813) (o := .cells #[.bool a1_0, .slice A1_1 l1_1.length c1_1] 24 (0, 0)) (by (with_reducible repeat (first |  refine zKn ?_ _|  refine zKd ?_|  refine zKa ?_ _)); exact BK813.out)) : gb813 ≠ gb814)); have NB814_813 := zMk ((by rw [hg]; exact Nat.ne_of_gt (blk_lt (g := gb813) (o := .cells #[.bool a1_0, .slice A1_1 l1_1.length c1_1] 24 (0, 0)) (by (with_reducible repeat (first |  refine zKn ?_ _|  refine zKd ?_|  refine zKa ?_ _)); exact BK813.out)) : gb814 ≠ gb813)); replace BK813 := zMk (zKb (g := gb813) (o := .cells #[.bool a1_0, .slice A1_1 l1_1.length c1_1] 24 (0, 0)) (by (with_reducible repeat (first |  refine zKn ?_ _|  refine zKd ?_|  refine zKa ?_ _)); exact BK813.out) hb); clear hb hbox hg; have hnb9 := NB812_813.out; have hnc9 := NB813_812.out; have hnb10 := NB812_814.out; have hnc10 := NB814_812.out; have hcz11_0 : w8.cell? ⟨gb812, 0, none⟩ = some (.bool a0_0) := (zKc BK812.out 0).trans rfl; have hcz11_1 : w8.cell? ⟨gb812, 1, none⟩ = some (.slice A0_1 l0_1.length c0_1) := (zKc BK812.out 1).trans rfl; have hfz11_0 := zKf BK812.out 0; have hfz11_1 := zKf BK812.out 1; have hnb12 := NB813_814.out; have hnc12 := NB814_813.out; have hcz13_0 : w8.cell? ⟨gb813, 0, none⟩ = some (.bool a1_0) := (zKc BK813.out 0).trans rfl; have hcz13_1 : w8.cell? ⟨gb813, 1, none⟩ = some (.slice A1_1 l1_1.length c1_1) := (zKc BK813.out 1).trans rfl; have hfz13_0 := zKf BK813.out 0; have hfz13_1 := zKf BK813.out 1))
    replace BK812 := zMk (zKd BK812.out)
    replace BK813 := zMk (zKd BK813.out)
    replace BK814 := zMk (zKd BK814.out)
    replace HB := zMk (zBd HB.out)
    refine start_ (n := 9) (S := fun w' => w'.cell? ⟨gb812, 0, none⟩ = some (.bool a0_0) ∧ w'.cell? ⟨gb812, 1, none⟩ = some (.slice A0_1 l0_1.length c0_1) ∧ w'.cell? ⟨gb813, 0, none⟩ = some (.bool a1_0) ∧ w'.cell? ⟨gb813, 1, none⟩ = some (.slice A1_1 l1_1.length c1_1)) (ds := []) #[false, false, false, false, false, false, false, false, false] (by kernel_rfl) rfl rfl ⟨(zKc BK812.out 0).trans rfl, (zKc BK812.out 1).trans rfl, (zKc BK813.out 0).trans rfl, (zKc BK813.out 1).trans rfl⟩ (fun hHeld => ?_); refine with_tabW integer_Add.tab2 integer_Add.bits2 (fun HT_ HW_ => ?_)
    generalize w8.drew = w14 at BK812 BK813 BK814 HB hHeld ⊢
    refine pure_ (i := 0) (N := some 12) (v := ?_) (a' := ?_) #[true, false, false, false, false, false, false, false, false] rfl rfl (any_of HT_.out (by kernel_rfl)) (fun _ _ _ h => h) (Or.inl ⟨by rfl, ?_⟩) ?_ ?_
    rotate_left
    · intro w'
      go_simp
      with_reducible rfl
    rotate_left
    · simp only [Act.put, zSa, zSb, zSc, i64_w, i32_w]
      rfl
    refine pure_ (i := 2) (N := some 14) (v := ?_) (a' := ?_) #[true, false, true, false, false, false, false, false, false] rfl rfl (any_of HT_.out (by kernel_rfl)) (fun _ _ _ h => h) (Or.inl ⟨by rfl, ?_⟩) ?_ ?_
    rotate_left
    · intro w'
      go_simp
      with_reducible rfl
    rotate_left
    · simp only [Act.put, zSa, zSb, zSc, i64_w, i32_w]
      rfl
    refine pure_ (i := 4) (N := some 16) (v := ?_) (a' := ?_) #[true, false, true, false, true, false, false, false, false] rfl rfl (any_of HT_.out (by kernel_rfl)) (fun _ _ _ h => h) (Or.inl ⟨by rfl, ?_⟩) ?_ ?_
    rotate_left
    · intro w'
      go_simp
      with_reducible rfl
    rotate_left
    · simp only [Act.put, zSa, zSb, zSc, i64_w, i32_w]
      rfl
    refine take_ (i := 1) (N := some 13) (v := ?_) (a' := ?_) #[true, true, true, false, true, false, false, false, false] rfl rfl (take_ofW HT_.out HW_.out (by kernel_rfl)) (fun _ _ _ h => h) (Or.inl ⟨by rfl, ?_⟩) hHeld ?_ ?_
    rotate_left
    · rintro w' ⟨s0, s1, s2, s3⟩
      go_simp
      with_reducible rfl
    rotate_left
    · simp only [Act.put, zSa, zSb, zSc, i64_w, i32_w]
      rfl
    refine take_ (i := 3) (N := some 15) (v := ?_) (a' := ?_) #[true, true, true, true, true, false, false, false, false] rfl rfl (take_ofW HT_.out HW_.out (by kernel_rfl)) (fun _ _ _ h => h) (Or.inl ⟨by rfl, ?_⟩) hHeld ?_ ?_
    rotate_left
    · rintro w' ⟨s0, s1, s2, s3⟩
      go_simp
      with_reducible rfl
    rotate_left
    · simp only [Act.put, zSa, zSb, zSc, i64_w, i32_w]
      rfl
    refine take_ (i := 5) (N := some 17) (v := ?_) (a' := ?_) #[true, true, true, true, true, true, false, false, false] rfl rfl (take_ofW HT_.out HW_.out (by kernel_rfl)) (fun _ _ _ h => h) (Or.inl ⟨by rfl, ?_⟩) hHeld ?_ ?_
    rotate_left
    · rintro w' ⟨s0, s1, s2, s3⟩
      go_simp
      with_reducible rfl
    rotate_left
    · simp only [Act.put, zSa, zSb, zSc, i64_w, i32_w]
      rfl
    refine one_ (i := 6) (N := some 18) #[true, true, true, true, true, true, true, false, false] rfl rfl (one_of HT_.out (by kernel_rfl)) (by decide) (fun K hK => ?_)
    refine goes_ Tryd.func33 (by kernel_rfl) rfl #[.slice A0_1 l0_1.length c0_1, .slice A1_1 l1_1.length c1_1] (by rfl) rfl rfl (by (try simp only [zMa, zMc, zMn]); first | done | rfl | (simp only [zLd, zLt]; rfl)) ?_
    with_reducible refine (n_Add.calls k (fun k_ => k_ < w.heap.size) _ _ l0_1 (fun k_ => k_ < w.heap.size) _ _ l1_1 t815 _ ?side1 ?side2 A4.out).mono ?_
    (case side1 => exact Kd.V_mk HC0_1.out (Kd.F_below (Kd.C_F (Kd.heap_int .u32) HR0_1.out) (by exact uT HB.out)))
    (case side2 => exact Kd.V_mk HC1_1.out (Kd.F_below (Kd.C_F (Kd.heap_int .u32) HR1_1.out) (by exact uT HB.out)))
    rintro e w15 ⟨v816, rfl, ho0, hb⟩
    refine ⟨_, rfl, ?_⟩
    have HO817 := zMk (zVl (zVm (ok' := fun k_ => k_ ≠ gb812 ∧ k_ ≠ gb813 ∧ k_ ≠ gb814) ho0 (fun k_ hk_ => ⟨Or.elim hk_ (fun hs_ => Or.elim hs_ (fun hs_ => fun e_ => Nat.not_le.2 hs_ (by rw [e_]; exact GW812.out)) (fun hs_ => fun e_ => Nat.not_le.2 hs_ (by rw [e_]; exact GW812.out))) (fun hn_ => (Kd.freshB (g := gb812) (o := .cells #[.bool a0_0, .slice A0_1 l0_1.length c0_1] 24 (0, 0)) (by (with_reducible repeat (first | refine zKn ?_ _ | refine zKd ?_ | refine zKa ?_ _)); exact BK812.out) k_ hn_)), Or.elim hk_ (fun hs_ => Or.elim hs_ (fun hs_ => fun e_ => Nat.not_le.2 hs_ (by rw [e_]; exact GW813.out)) (fun hs_ => fun e_ => Nat.not_le.2 hs_ (by rw [e_]; exact GW813.out))) (fun hn_ => (Kd.freshB (g := gb813) (o := .cells #[.bool a1_0, .slice A1_1 l1_1.length c1_1] 24 (0, 0)) (by (with_reducible repeat (first | refine zKn ?_ _ | refine zKd ?_ | refine zKa ?_ _)); exact BK813.out) k_ hn_)), Or.elim hk_ (fun hs_ => Or.elim hs_ (fun hs_ => fun e_ => Nat.not_le.2 hs_ (by rw [e_]; exact GW814.out)) (fun hs_ => fun e_ => Nat.not_le.2 hs_ (by rw [e_]; exact GW814.out))) (fun hn_ => (Kd.freshB (g := gb814) (o := .cells #[.bool false, .slice none 0 0] 24 (0, 0)) (by (with_reducible repeat (first | refine zKn ?_ _ | refine zKd ?_ | refine zKa ?_ _)); exact BK814.out) k_ hn_))⟩)) (zBs (by exact uT HB.out)))
    replace BK812 := zMk (zKb (g := gb812) (o := .cells #[.bool a0_0, .slice A0_1 l0_1.length c0_1] 24 (0, 0)) (by (with_reducible repeat (first | refine zKn ?_ _ | refine zKd ?_ | refine zKa ?_ _)); exact BK812.out) hb)
    replace BK813 := zMk (zKb (g := gb813) (o := .cells #[.bool a1_0, .slice A1_1 l1_1.length c1_1] 24 (0, 0)) (by (with_reducible repeat (first | refine zKn ?_ _ | refine zKd ?_ | refine zKa ?_ _)); exact BK813.out) hb)
    replace BK814 := zMk (zKb (g := gb814) (o := .cells #[.bool false, .slice none 0 0] 24 (0, 0)) (by (with_reducible repeat (first | refine zKn ?_ _ | refine zKd ?_ | refine zKa ?_ _)); exact BK814.out) hb)
    replace HB := zMk (zBt (by exact uT HB.out) hb)
    obtain ⟨Ao16, co16, eo16⟩ := zVs HO817.out
    (first |  subst eo16|  (injection eo16 with f1_ f2_ f3_; have f4_ := f1_.symm; have f5_ := f3_.symm; clear f1_ f2_ f3_; subst f4_; subst f5_))
    refine hK.out _ _ ⟨(zKc BK812.out 0).trans rfl, (zKc BK812.out 1).trans rfl, (zKc BK813.out 0).trans rfl, (zKc BK813.out 1).trans rfl⟩ (fun hHeld => ?_)
    clear hK K
    refine norm_ (a' := ?_) ?_ ?_
    rotate_left
    · show Act.put _ (some 18) _ = _
      simp only [Act.put, zSa, zSb, zSc, i64_w, i32_w]
      rfl
    refine one_ (i := 7) (N := some 19) #[true, true, true, true, true, true, true, true, false] rfl rfl (one_of HT_.out (by kernel_rfl)) (by decide) (fun K hK => ?_)
    refine goes_ Tryd.func36 (by kernel_rfl) rfl #[.bool a0_0, .slice Ao16 t815.length co16] (by rfl) rfl rfl (by (try simp only [zMa, zMc, zMn]); first | done | rfl | (simp only [zLd, zLt]; rfl)) ?_
    with_reducible refine (integer_signed.calls a0_0 _ _ t815 t818 t819 _ ?side1 ?side2 A5.out).mono ?_
    (case side1 => exact uC (zVr HO817.out).2.2)
    (case side2 => exact (zVr HO817.out).2.1)
    rintro e w17 ⟨v820, rfl, ho0, hb⟩
    refine ⟨_, rfl, ?_⟩
    replace HO817 := zMk (zVe (by exact uV HO817.out) (zRz ho0) hb)
    have HO821 := zMk (zRl ho0 (zBs (by exact uT HB.out)))
    replace BK812 := zMk (zKb (g := gb812) (o := .cells #[.bool a0_0, .slice A0_1 l0_1.length c0_1] 24 (0, 0)) (by (with_reducible repeat (first | refine zKn ?_ _ | refine zKd ?_ | refine zKa ?_ _)); exact BK812.out) hb)
    replace BK813 := zMk (zKb (g := gb813) (o := .cells #[.bool a1_0, .slice A1_1 l1_1.length c1_1] 24 (0, 0)) (by (with_reducible repeat (first | refine zKn ?_ _ | refine zKd ?_ | refine zKa ?_ _)); exact BK813.out) hb)
    replace BK814 := zMk (zKb (g := gb814) (o := .cells #[.bool false, .slice none 0 0] 24 (0, 0)) (by (with_reducible repeat (first | refine zKn ?_ _ | refine zKd ?_ | refine zKa ?_ _)); exact BK814.out) hb)
    replace HB := zMk (zBt (by exact uT HB.out) hb)
    obtain ⟨Ao19, co19, eo19⟩ := zRs HO821.out
    (first |  subst eo19|  (injection eo19 with f1_ f2_ f3_; have f4_ := f1_.symm; have f5_ := f3_.symm; clear f1_ f2_ f3_; subst f4_; subst f5_))
    refine hK.out _ _ ⟨(zKc BK812.out 0).trans rfl, (zKc BK812.out 1).trans rfl, (zKc BK813.out 0).trans rfl, (zKc BK813.out 1).trans rfl⟩ (fun hHeld => ?_)
    clear hK K
    refine norm_ (a' := ?_) ?_ ?_
    rotate_left
    · show Act.put _ (some 19) _ = _
      simp only [Act.put, zSa, zSb, zSc, i64_w, i32_w]
      rfl
    refine one_ (i := 8) (N := none) #[true, true, true, true, true, true, true, true, true] rfl rfl (one_of HT_.out (by kernel_rfl)) (by decide) (fun K hK => ?_)
    have hs18 : w17.cell? ⟨gb814, 0, none⟩ = some (.bool false) := (zKc BK814.out 0).trans rfl
    have hfs18 := zKf BK814.out 0
    have hns18_0 := NB812_814.out
    have hns18_1 := NB813_814.out
    have hms18_0 := NB814_812.out
    have hms18_1 := NB814_813.out
    have hs20 : w17.cell? ⟨gb814, 1, none⟩ = some (.slice none 0 0) := (zKc BK814.out 1).trans rfl
    have hfs20 := zKf BK814.out 1
    have hns20_0 := NB812_814.out
    have hns20_1 := NB813_814.out
    have hms20_0 := NB814_812.out
    have hms20_1 := NB814_813.out
    refine skip_ (w1 := ?_) (by rfl) rfl ?_ ?_
    rotate_left
    · go_simp
      rfl
    refine hK.out _ _ ⟨((cell_far (p := ⟨gb814, _, none⟩) NB812_814.out _).trans (((cell_far (p := ⟨gb814, _, none⟩) NB812_814.out _).trans (hHeld.1)))), ((cell_far (p := ⟨gb814, _, none⟩) NB812_814.out _).trans (((cell_far (p := ⟨gb814, _, none⟩) NB812_814.out _).trans (hHeld.2.1)))), ((cell_far (p := ⟨gb814, _, none⟩) NB813_814.out _).trans (((cell_far (p := ⟨gb814, _, none⟩) NB813_814.out _).trans (hHeld.2.2.1)))), ((cell_far (p := ⟨gb814, _, none⟩) NB813_814.out _).trans (((cell_far (p := ⟨gb814, _, none⟩) NB813_814.out _).trans (hHeld.2.2.2))))⟩ (fun hHeld => ?_)
    clear hK K
    refine done_ (done_of HT_.out (by kernel_rfl)) ?_
    try go_wp2
    refine bodyPost_ret (results_cell_row rfl _ _ gb814 24 #[.bool t818, .slice Ao19 t819.length co19] (0, 0) _ rfl (by (with_reducible repeat (first | refine zKn ?_ _ | refine zKd ?_ | refine zKa ?_ _)); refine blk_put (cs := #[.bool t818, .slice none 0 0]) ?_ 1 _ rfl; (with_reducible repeat (first | refine zKn ?_ _ | refine zKd ?_ | refine zKa ?_ _)); refine blk_put (cs := #[.bool false, .slice none 0 0]) ?_ 0 _ rfl; (with_reducible repeat (first | refine zKn ?_ _ | refine zKd ?_ | refine zKa ?_ _)); exact BK814.out) Tryd.underlying24 rfl (by kernel_rfl)) rfl ?_
    exact ⟨_, by first | rfl | (simp [errW_none, errW_some] <;> rfl) | (simp [*, errW_none, errW_some] <;> rfl), by (with_reducible repeat (first | apply zRa | apply zRn | apply zRd)); exact zRm (Kd.R_far (p := ⟨gb814, 1, none⟩) (Kd.R_far (p := ⟨gb814, 0, none⟩) (Kd.R_types HO821.out BK814.out (by decide)) (fun _ hk => hk.2) (.bool t818)) (fun _ hk => hk.2) (.slice Ao19 t819.length co19)) (fun _ hk => trivial), by exact uT HB.out⟩
  · rw [if_neg c3] at H
    have c3b0 : (a0_0 == a1_0) = false := by simpa using c3
    (try (have c3b1 : decide (a0_0 = a1_0) = false := by simpa using c3))
    (try (have c3b2 : (a0_0 == a1_0) = false := by simpa using c3))
    (try (have c3b3 : ¬ (a0_0 = a1_0) := by simpa using c3))
    clear c3
    replace H := bnd H
    obtain ⟨⟨t822, t825⟩, A210, H⟩ := H
    replace H : (if t825 = 0 then ((integer_signed.f a0_0 t822).bind fun bt826 => (some (bt826.1, bt826.2))) else ((n_Sub.f k l1_1 l0_1).bind fun bt830 => ((integer_signed.f a1_0 bt830.1).bind fun bt834 => (some (bt834.1, bt834.2))))) = some (r1, r2) := H
    have A21 := zMk A210
    clear A210
    by_cases c22 : t825 = 0
    · rw [if_pos c22] at H
      have c22b0 : (t825 == 0) = true := beq_iff_eq.mpr c22
      have c22b1 : (t825 != 0) = false := bne_eq_false_iff_eq.mpr c22
      clear c22
      replace H := bnd H
      obtain ⟨⟨t826, t827⟩, A230, H⟩ := H
      replace H : (some (t826, t827)) = some (r1, r2) := H
      have A23 := zMk A230
      clear A230
      simp only [Option.some.injEq, Prod.mk.injEq] at H
      obtain ⟨rfl, rfl⟩ := H
      go_enter Tryd.func17, Tryd.ntmps17
      go_wp2_with (first | ((with_reducible refine gate_dst (N := 2) rfl ?_); refine box_event ?hg (N := 2) ?hd (cs := #[.bool a0_0, .slice A0_1 l0_1.length c0_1]) (t := 24) ?hr ?_; (case hd => rfl); (case hg => rfl); (case hr => first | (go_simp; done)|(go_simp; rfl)|(go_simp; rw [show ∀ x : Int, IntKind.u32.wrap (IntKind.u8.wrap x) = x % 256 from fun x => (by show (x % 256) % 4294967296 = x % 256; omega)])); intro gb812 hg w24 hbox hb; have BK812 := zMk (hbox); have GW812 := zMk ((by rw [hg]; exact (zBs (by exact uT HB.out)) : w.heap.size ≤ gb812)); have GE812 := zMk ((by rw [hg]; exact (zBs (by exact uT HB.out)) : w.heap.size ≤ gb812)); have IGE812 := ownGe GE812.out; replace HB := zMk (zBt (by exact uT HB.out) hb); clear hb hbox hg)|((with_reducible refine gate_dst (N := 3) rfl ?_); refine box_event ?hg (N := 3) ?hd (cs := #[.bool a1_0, .slice A1_1 l1_1.length c1_1]) (t := 24) ?hr ?_; (case hd => rfl); (case hg => rfl); (case hr => first | (go_simp; done)|(go_simp; rfl)|(go_simp; rw [show ∀ x : Int, IntKind.u32.wrap (IntKind.u8.wrap x) = x % 256 from fun x => (by show (x % 256) % 4294967296 = x % 256; omega)])); intro gb813 hg w25 hbox hb; have BK813 := zMk (hbox); have GW813 := zMk ((by rw [hg]; exact (zBs (by exact uT HB.out)) : w.heap.size ≤ gb813)); have GE813 := zMk ((by rw [hg]; exact (zBs (by exact uT HB.out)) : w.heap.size ≤ gb813)); have IGE813 := ownGe GE813.out; replace HB := zMk (zBt (by exact uT HB.out) hb); have NB812_813 := zMk ((by rw [hg]; exact Nat.ne_of_lt (blk_lt (g := gb812) (o := .cells #[.bool a0_0, .slice A0_1 l0_1.length c0_1] 24 (0, 0)) (by (with_reducible repeat (first |  refine zKn ?_ _|  refine zKd ?_|  refine zKa ?_ _)); exact BK812.out)) : gb812 ≠ gb813)); have NB813_812 := zMk ((by rw [hg]; exact Nat.ne_of_gt (blk_lt (g := gb812) (o := .cells #[.bool a0_0, .slice A0_1 l0_1.length c0_1] 24 (0, 0)) (by (with_reducible repeat (first |  refine zKn ?_ _|  refine zKd ?_|  refine zKa ?_ _)); exact BK812.out)) : gb813 ≠ gb812)); replace BK812 := zMk (zKb (g := gb812) (o := .cells #[.bool a0_0, .slice A0_1 l0_1.length c0_1] 24 (0, 0)) (by (with_reducible repeat (first |  refine zKn ?_ _|  refine zKd ?_|  refine zKa ?_ _)); exact BK812.out) hb); clear hb hbox hg)|((with_reducible refine gate_dst (N := 4) rfl ?_); refine box_event ?hg (N := 4) ?hd (cs := #[.bool false, .slice none 0 0]) (t := 24) ?hr ?_; (case hd => rfl); (case hg => rfl); (case hr => first | (go_simp; done)|(go_simp; rfl)|(go_simp; rw [show ∀ x : Int, IntKind.u32.wrap (IntKind.u8.wrap x) = x % 256 from fun x => (by show (x % 256) % 4294967296 = x % 256; omega)])); intro gb814 hg w26 hbox hb; have BK814 := zMk (hbox); have GW814 := zMk ((by rw [hg]; exact (zBs (by exact uT HB.out)) : w.heap.size ≤ gb814)); have GE814 := zMk ((by rw [hg]; exact (zBs (by exact uT HB.out)) : w.heap.size ≤ gb814)); have IGE814 := ownGe GE814.out; replace HB := zMk (zBt (by exact uT HB.out) hb); have NB812_814 := zMk ((by rw [hg]; exact Nat.ne_of_lt (blk_lt (g := gb812) (o := .cells #[.bool a0_0, .slice A0_1 l0_1.length c0_1] 24 (0, 0)) (by (with_reducible repeat (first |  refine zKn ?_ _|  refine zKd ?_|  refine zKa ?_ _)); exact BK812.out)) : gb812 ≠ gb814)); have NB814_812 := zMk ((by rw [hg]; exact Nat.ne_of_gt (blk_lt (g := gb812) (o := .cells #[.bool a0_0, .slice A0_1 l0_1.length c0_1] 24 (0, 0)) (by (with_reducible repeat (first |  refine zKn ?_ _|  refine zKd ?_|  refine zKa ?_ _)); exact BK812.out)) : gb814 ≠ gb812)); replace BK812 := zMk (zKb (g := gb812) (o := .cells #[.bool a0_0, .slice A0_1 l0_1.length c0_1] 24 (0, 0)) (by (with_reducible repeat (first |  refine zKn ?_ _|  refine zKd ?_|  refine zKa ?_ _)); exact BK812.out) hb); have NB813_814 := zMk ((by rw [hg]; exact Nat.ne_of_lt (blk_lt (g := gb813) (o := .cells #[.bool a1_0, .slice A1_1 l1_1.length c1_1] 24 (0, 0)) (by (with_reducible repeat (first |  refine zKn ?_ _|  refine zKd ?_|  refine zKa ?_ _)); exact BK813.out)) : gb813 ≠ gb814)); have NB814_813 := zMk ((by rw [hg]; exact Nat.ne_of_gt (blk_lt (g := gb813) (o := .cells #[.bool a1_0, .slice A1_1 l1_1.length c1_1] 24 (0, 0)) (by (with_reducible repeat (first |  refine zKn ?_ _|  refine zKd ?_|  refine zKa ?_ _)); exact BK813.out)) : gb814 ≠ gb813)); replace BK813 := zMk (zKb (g := gb813) (o := .cells #[.bool a1_0, .slice A1_1 l1_1.length c1_1] 24 (0, 0)) (by (with_reducible repeat (first |  refine zKn ?_ _|  refine zKd ?_|  refine zKa ?_ _)); exact BK813.out) hb); clear hb hbox hg; have hnb27 := NB812_813.out; have hnc27 := NB813_812.out; have hnb28 := NB812_814.out; have hnc28 := NB814_812.out; have hcz29_0 : w26.cell? ⟨gb812, 0, none⟩ = some (.bool a0_0) := (zKc BK812.out 0).trans rfl; have hcz29_1 : w26.cell? ⟨gb812, 1, none⟩ = some (.slice A0_1 l0_1.length c0_1) := (zKc BK812.out 1).trans rfl; have hfz29_0 := zKf BK812.out 0; have hfz29_1 := zKf BK812.out 1; have hnb30 := NB813_814.out; have hnc30 := NB814_813.out; have hcz31_0 : w26.cell? ⟨gb813, 0, none⟩ = some (.bool a1_0) := (zKc BK813.out 0).trans rfl; have hcz31_1 : w26.cell? ⟨gb813, 1, none⟩ = some (.slice A1_1 l1_1.length c1_1) := (zKc BK813.out 1).trans rfl; have hfz31_0 := zKf BK813.out 0; have hfz31_1 := zKf BK813.out 1)|((with_reducible refine gate_callee (f := 35) rfl ?_); refine goesL_ (some 25) rfl rfl Tryd.func35 (by kernel_rfl) rfl #[.slice A0_1 l0_1.length c0_1, .slice A1_1 l1_1.length c1_1] rfl (by (try simp only [zMa, zMc, zMn]); first |  done|  rfl|  (simp only [zLd, zLt]; rfl)) ?_; (with_reducible refine (n_Sub.calls k _ _ l0_1 (fun k_ => k_ < w.heap.size) _ _ l1_1 t822 t825 _ ?side1 ?side2 ?side3 A21.out).mono ?_); (case side1 => repeat (first |  exact (Kd.C_below HR0_1.out HB.out)|(with_reducible refine zCa ?_ _)|(with_reducible refine zCn ?_ _)|(with_reducible refine zCd ?_))); (case side2 => exact HC0_1.out); (case side3 => exact Kd.V_mk HC1_1.out (Kd.F_below (Kd.C_F (Kd.heap_int .u32) HR1_1.out) (by exact uT HB.out))); rintro e w32 ⟨v823, rfl, ho0, hb⟩; refine ⟨_, rfl, ?_⟩; have HO824 := zMk (zVl (zVm (ok' := fun k_ => k_ ≠ gb812 ∧ k_ ≠ gb813 ∧ k_ ≠ gb814) ho0 (fun k_ hk_ => ⟨Or.elim hk_ (fun hs_ => fun e_ => Nat.not_le.2 hs_ (by rw [e_]; exact GW812.out)) (fun hn_ => (Kd.freshB (g := gb812) (o := .cells #[.bool a0_0, .slice A0_1 l0_1.length c0_1] 24 (0, 0)) (by (with_reducible repeat (first |  refine zKn ?_ _|  refine zKd ?_|  refine zKa ?_ _)); exact BK812.out) k_ hn_)), Or.elim hk_ (fun hs_ => fun e_ => Nat.not_le.2 hs_ (by rw [e_]; exact GW813.out)) (fun hn_ => (Kd.freshB (g := gb813) (o := .cells #[.bool a1_0, .slice A1_1 l1_1.length c1_1] 24 (0, 0)) (by (with_reducible repeat (first |  refine zKn ?_ _|  refine zKd ?_|  refine zKa ?_ _)); exact BK813.out) k_ hn_)), Or.elim hk_ (fun hs_ => fun e_ => Nat.not_le.2 hs_ (by rw [e_]; exact GW814.out)) (fun hn_ => (Kd.freshB (g := gb814) (o := .cells #[.bool false, .slice none 0 0] 24 (0, 0)) (by (with_reducible repeat (first |  refine zKn ?_ _|  refine zKd ?_|  refine zKa ?_ _)); exact BK814.out) k_ hn_))⟩)) (zBs (by exact uT HB.out))); replace BK812 := zMk (zKb (g := gb812) (o := .cells #[.bool a0_0, .slice A0_1 l0_1.length c0_1] 24 (0, 0)) (by (with_reducible repeat (first |  refine zKn ?_ _|  refine zKd ?_|  refine zKa ?_ _)); exact BK812.out) hb); replace BK813 := zMk (zKb (g := gb813) (o := .cells #[.bool a1_0, .slice A1_1 l1_1.length c1_1] 24 (0, 0)) (by (with_reducible repeat (first |  refine zKn ?_ _|  refine zKd ?_|  refine zKa ?_ _)); exact BK813.out) hb); replace BK814 := zMk (zKb (g := gb814) (o := .cells #[.bool false, .slice none 0 0] 24 (0, 0)) (by (with_reducible repeat (first |  refine zKn ?_ _|  refine zKd ?_|  refine zKa ?_ _)); exact BK814.out) hb); replace HB := zMk (zBt (by exact uT HB.out) hb); have hcz33_0 : w32.cell? ⟨gb812, 0, none⟩ = some (.bool a0_0) := (zKc BK812.out 0).trans rfl; have hcz33_1 : w32.cell? ⟨gb812, 1, none⟩ = some (.slice A0_1 l0_1.length c0_1) := (zKc BK812.out 1).trans rfl; have hfz33_0 := zKf BK812.out 0; have hfz33_1 := zKf BK812.out 1; obtain ⟨Ao34, co34, eo34⟩ := zVs HO824.out; subst eo34)|((with_reducible refine gate_callee (f := 36) rfl ?_); refine goesL_ (some 33) rfl rfl Tryd.func36 (by kernel_rfl) rfl #[.bool a0_0, .slice Ao34 t822.length co34] rfl (by (try simp only [zMa, zMc, zMn]); first |  done|  rfl|  (simp only [zLd, zLt]; rfl)) ?_; (with_reducible refine (integer_signed.calls a0_0 _ _ t822 t826 t827 _ ?side1 ?side2 A23.out).mono ?_); (case side1 => exact uC (zVr HO824.out).2.2); (case side2 => exact (zVr HO824.out).2.1); rintro e w35 ⟨v828, rfl, ho0, hb⟩; refine ⟨_, rfl, ?_⟩; replace HO824 := zMk (zVe (by exact uV HO824.out) (zRz ho0) hb); have HO829 := zMk (zRl ho0 (zBs (by exact uT HB.out))); replace BK812 := zMk (zKb (g := gb812) (o := .cells #[.bool a0_0, .slice A0_1 l0_1.length c0_1] 24 (0, 0)) (by (with_reducible repeat (first |  refine zKn ?_ _|  refine zKd ?_|  refine zKa ?_ _)); exact BK812.out) hb); replace BK813 := zMk (zKb (g := gb813) (o := .cells #[.bool a1_0, .slice A1_1 l1_1.length c1_1] 24 (0, 0)) (by (with_reducible repeat (first |  refine zKn ?_ _|  refine zKd ?_|  refine zKa ?_ _)); exact BK813.out) hb); replace BK814 := zMk (zKb (g := gb814) (o := .cells #[.bool false, .slice none 0 0] 24 (0, 0)) (by (with_reducible repeat (first |  refine zKn ?_ _|  refine zKd ?_|  refine zKa ?_ _)); exact BK814.out) hb); replace HB := zMk (zBt (by exact uT HB.out) hb); have hcz36_0 : w35.cell? ⟨gb814, 0, none⟩ = some (.bool false) := (zKc BK814.out 0).trans rfl; have hcz36_1 : w35.cell? ⟨gb814, 1, none⟩ = some (.slice none 0 0) := (zKc BK814.out 1).trans rfl; have hfz36_0 := zKf BK814.out 0; have hfz36_1 := zKf BK814.out 1; obtain ⟨Ao37, co37, eo37⟩ := zRs HO829.out; subst eo37))
      refine bodyPost_ret (results_cell_row rfl _ _ gb814 24 #[.bool t826, .slice Ao37 t827.length co37] (0, 0) _ rfl (by (with_reducible repeat (first | refine zKn ?_ _ | refine zKd ?_ | refine zKa ?_ _)); refine blk_put (cs := #[.bool t826, .slice none 0 0]) ?_ 1 _ rfl; (with_reducible repeat (first | refine zKn ?_ _ | refine zKd ?_ | refine zKa ?_ _)); refine blk_put (cs := #[.bool false, .slice none 0 0]) ?_ 0 _ rfl; (with_reducible repeat (first | refine zKn ?_ _ | refine zKd ?_ | refine zKa ?_ _)); exact BK814.out) Tryd.underlying24 rfl (by kernel_rfl)) rfl ?_
      exact ⟨_, by first | rfl | (simp [errW_none, errW_some] <;> rfl) | (simp [*, errW_none, errW_some] <;> rfl), by (with_reducible repeat (first | apply zRa | apply zRn | apply zRd)); exact zRm (Kd.R_far (p := ⟨gb814, 1, none⟩) (Kd.R_far (p := ⟨gb814, 0, none⟩) (Kd.R_types HO829.out BK814.out (by decide)) (fun _ hk => hk.2) (.bool t826)) (fun _ hk => hk.2) (.slice Ao37 t827.length co37)) (fun _ hk => trivial), by exact uT HB.out⟩
    · rw [if_neg c22] at H
      have c22b0 : (t825 == 0) = false := beq_eq_false_iff_ne.mpr c22
      have c22b1 : (t825 != 0) = true := bne_iff_ne.mpr c22
      replace H := bnd H
      obtain ⟨⟨t830, t833⟩, A380, H⟩ := H
      replace H : ((integer_signed.f a1_0 t830).bind fun bt834 => (some (bt834.1, bt834.2))) = some (r1, r2) := H
      have A38 := zMk A380
      clear A380
      replace H := bnd H
      obtain ⟨⟨t834, t835⟩, A390, H⟩ := H
      replace H : (some (t834, t835)) = some (r1, r2) := H
      have A39 := zMk A390
      clear A390
      simp only [Option.some.injEq, Prod.mk.injEq] at H
      obtain ⟨rfl, rfl⟩ := H
      go_enter Tryd.func17, Tryd.ntmps17
      go_wp2_with (first | ((with_reducible refine gate_dst (N := 2) rfl ?_); refine box_event ?hg (N := 2) ?hd (cs := #[.bool a0_0, .slice A0_1 l0_1.length c0_1]) (t := 24) ?hr ?_; (case hd => rfl); (case hg => rfl); (case hr => first | (go_simp; done)|(go_simp; rfl)|(go_simp; rw [show ∀ x : Int, IntKind.u32.wrap (IntKind.u8.wrap x) = x % 256 from fun x => (by show (x % 256) % 4294967296 = x % 256; omega)])); intro gb812 hg w40 hbox hb; have BK812 := zMk (hbox); have GW812 := zMk ((by rw [hg]; exact (zBs (by exact uT HB.out)) : w.heap.size ≤ gb812)); have GE812 := zMk ((by rw [hg]; exact (zBs (by exact uT HB.out)) : w.heap.size ≤ gb812)); have IGE812 := ownGe GE812.out; replace HB := zMk (zBt (by exact uT HB.out) hb); clear hb hbox hg)|((with_reducible refine gate_dst (N := 3) rfl ?_); refine box_event ?hg (N := 3) ?hd (cs := #[.bool a1_0, .slice A1_1 l1_1.length c1_1]) (t := 24) ?hr ?_; (case hd => rfl); (case hg => rfl); (case hr => first | (go_simp; done)|(go_simp; rfl)|(go_simp; rw [show ∀ x : Int, IntKind.u32.wrap (IntKind.u8.wrap x) = x % 256 from fun x => (by show (x % 256) % 4294967296 = x % 256; omega)])); intro gb813 hg w41 hbox hb; have BK813 := zMk (hbox); have GW813 := zMk ((by rw [hg]; exact (zBs (by exact uT HB.out)) : w.heap.size ≤ gb813)); have GE813 := zMk ((by rw [hg]; exact (zBs (by exact uT HB.out)) : w.heap.size ≤ gb813)); have IGE813 := ownGe GE813.out; replace HB := zMk (zBt (by exact uT HB.out) hb); have NB812_813 := zMk ((by rw [hg]; exact Nat.ne_of_lt (blk_lt (g := gb812) (o := .cells #[.bool a0_0, .slice A0_1 l0_1.length c0_1] 24 (0, 0)) (by (with_reducible repeat (first |  refine zKn ?_ _|  refine zKd ?_|  refine zKa ?_ _)); exact BK812.out)) : gb812 ≠ gb813)); have NB813_812 := zMk ((by rw [hg]; exact Nat.ne_of_gt (blk_lt (g := gb812) (o := .cells #[.bool a0_0, .slice A0_1 l0_1.length c0_1] 24 (0, 0)) (by (with_reducible repeat (first |  refine zKn ?_ _|  refine zKd ?_|  refine zKa ?_ _)); exact BK812.out)) : gb813 ≠ gb812)); replace BK812 := zMk (zKb (g := gb812) (o := .cells #[.bool a0_0, .slice A0_1 l0_1.length c0_1] 24 (0, 0)) (by (with_reducible repeat (first |  refine zKn ?_ _|  refine zKd ?_|  refine zKa ?_ _)); exact BK812.out) hb); clear hb hbox hg)|((with_reducible refine gate_dst (N := 4) rfl ?_); refine box_event ?hg (N := 4) ?hd (cs := #[.bool false, .slice none 0 0]) (t := 24) ?hr ?_; (case hd => rfl); (case hg => rfl); (case hr => first | (go_simp; done)|(go_simp; rfl)|(go_simp; rw [show ∀ x : Int, IntKind.u32.wrap (IntKind.u8.wrap x) = x % 256 from fun x => (by show (x % 256) % 4294967296 = x % 256; omega)])); intro gb814 hg w42 hbox hb; have BK814 := zMk (hbox); have GW814 := zMk ((by rw [hg]; exact (zBs (by exact uT HB.out)) : w.heap.size ≤ gb814)); have GE814 := zMk ((by rw [hg]; exact (zBs (by exact uT HB.out)) : w.heap.size ≤ gb814)); have IGE814 := ownGe GE814.out; replace HB := zMk (zBt (by exact uT HB.out) hb); have NB812_814 := zMk ((by rw [hg]; exact Nat.ne_of_lt (blk_lt (g := gb812) (o := .cells #[.bool a0_0, .slice A0_1 l0_1.length c0_1] 24 (0, 0)) (by (with_reducible repeat (first |  refine zKn ?_ _|  refine zKd ?_|  refine zKa ?_ _)); exact BK812.out)) : gb812 ≠ gb814)); have NB814_812 := zMk ((by rw [hg]; exact Nat.ne_of_gt (blk_lt (g := gb812) (o := .cells #[.bool a0_0, .slice A0_1 l0_1.length c0_1] 24 (0, 0)) (by (with_reducible repeat (first |  refine zKn ?_ _|  refine zKd ?_|  refine zKa ?_ _)); exact BK812.out)) : gb814 ≠ gb812)); replace BK812 := zMk (zKb (g := gb812) (o := .cells #[.bool a0_0, .slice A0_1 l0_1.length c0_1] 24 (0, 0)) (by (with_reducible repeat (first |  refine zKn ?_ _|  refine zKd ?_|  refine zKa ?_ _)); exact BK812.out) hb); have NB813_814 := zMk ((by rw [hg]; exact Nat.ne_of_lt (blk_lt (g := gb813) (o := .cells #[.bool a1_0, .slice A1_1 l1_1.length c1_1] 24 (0, 0)) (by (with_reducible repeat (first |  refine zKn ?_ _|  refine zKd ?_|  refine zKa ?_ _)); exact BK813.out)) : gb813 ≠ gb814)); have NB814_813 := zMk ((by rw [hg]; exact Nat.ne_of_gt (blk_lt (g := gb813) (o := .cells #[.bool a1_0, .slice A1_1 l1_1.length c1_1] 24 (0, 0)) (by (with_reducible repeat (first |  refine zKn ?_ _|  refine zKd ?_|  refine zKa ?_ _)); exact BK813.out)) : gb814 ≠ gb813)); replace BK813 := zMk (zKb (g := gb813) (o := .cells #[.bool a1_0, .slice A1_1 l1_1.length c1_1] 24 (0, 0)) (by (with_reducible repeat (first |  refine zKn ?_ _|  refine zKd ?_|  refine zKa ?_ _)); exact BK813.out) hb); clear hb hbox hg; have hnb43 := NB812_813.out; have hnc43 := NB813_812.out; have hnb44 := NB812_814.out; have hnc44 := NB814_812.out; have hcz45_0 : w42.cell? ⟨gb812, 0, none⟩ = some (.bool a0_0) := (zKc BK812.out 0).trans rfl; have hcz45_1 : w42.cell? ⟨gb812, 1, none⟩ = some (.slice A0_1 l0_1.length c0_1) := (zKc BK812.out 1).trans rfl; have hfz45_0 := zKf BK812.out 0; have hfz45_1 := zKf BK812.out 1; have hnb46 := NB813_814.out; have hnc46 := NB814_813.out; have hcz47_0 : w42.cell? ⟨gb813, 0, none⟩ = some (.bool a1_0) := (zKc BK813.out 0).trans rfl; have hcz47_1 : w42.cell? ⟨gb813, 1, none⟩ = some (.slice A1_1 l1_1.length c1_1) := (zKc BK813.out 1).trans rfl; have hfz47_0 := zKf BK813.out 0; have hfz47_1 := zKf BK813.out 1)|((with_reducible refine gate_callee (f := 35) rfl ?_); refine goesL_ (some 25) rfl rfl Tryd.func35 (by kernel_rfl) rfl #[.slice A0_1 l0_1.length c0_1, .slice A1_1 l1_1.length c1_1] rfl (by (try simp only [zMa, zMc, zMn]); first |  done|  rfl|  (simp only [zLd, zLt]; rfl)) ?_; (with_reducible refine (n_Sub.calls k _ _ l0_1 (fun k_ => k_ < w.heap.size) _ _ l1_1 t822 t825 _ ?side1 ?side2 ?side3 A21.out).mono ?_); (case side1 => repeat (first |  exact (Kd.C_below HR0_1.out HB.out)|(with_reducible refine zCa ?_ _)|(with_reducible refine zCn ?_ _)|(with_reducible refine zCd ?_))); (case side2 => exact HC0_1.out); (case side3 => exact Kd.V_mk HC1_1.out (Kd.F_below (Kd.C_F (Kd.heap_int .u32) HR1_1.out) (by exact uT HB.out))); rintro e w48 ⟨v823, rfl, ho0, hb⟩; refine ⟨_, rfl, ?_⟩; have HO824 := zMk (zVl (zVm (ok' := fun k_ => k_ ≠ gb812 ∧ k_ ≠ gb813 ∧ k_ ≠ gb814) ho0 (fun k_ hk_ => ⟨Or.elim hk_ (fun hs_ => fun e_ => Nat.not_le.2 hs_ (by rw [e_]; exact GW812.out)) (fun hn_ => (Kd.freshB (g := gb812) (o := .cells #[.bool a0_0, .slice A0_1 l0_1.length c0_1] 24 (0, 0)) (by (with_reducible repeat (first |  refine zKn ?_ _|  refine zKd ?_|  refine zKa ?_ _)); exact BK812.out) k_ hn_)), Or.elim hk_ (fun hs_ => fun e_ => Nat.not_le.2 hs_ (by rw [e_]; exact GW813.out)) (fun hn_ => (Kd.freshB (g := gb813) (o := .cells #[.bool a1_0, .slice A1_1 l1_1.length c1_1] 24 (0, 0)) (by (with_reducible repeat (first |  refine zKn ?_ _|  refine zKd ?_|  refine zKa ?_ _)); exact BK813.out) k_ hn_)), Or.elim hk_ (fun hs_ => fun e_ => Nat.not_le.2 hs_ (by rw [e_]; exact GW814.out)) (fun hn_ => (Kd.freshB (g := gb814) (o := .cells #[.bool false, .slice none 0 0] 24 (0, 0)) (by (with_reducible repeat (first |  refine zKn ?_ _|  refine zKd ?_|  refine zKa ?_ _)); exact BK814.out) k_ hn_))⟩)) (zBs (by exact uT HB.out))); replace BK812 := zMk (zKb (g := gb812) (o := .cells #[.bool a0_0, .slice A0_1 l0_1.length c0_1] 24 (0, 0)) (by (with_reducible repeat (first |  refine zKn ?_ _|  refine zKd ?_|  refine zKa ?_ _)); exact BK812.out) hb); replace BK813 := zMk (zKb (g := gb813) (o := .cells #[.bool a1_0, .slice A1_1 l1_1.length c1_1] 24 (0, 0)) (by (with_reducible repeat (first |  refine zKn ?_ _|  refine zKd ?_|  refine zKa ?_ _)); exact BK813.out) hb); replace BK814 := zMk (zKb (g := gb814) (o := .cells #[.bool false, .slice none 0 0] 24 (0, 0)) (by (with_reducible repeat (first |  refine zKn ?_ _|  refine zKd ?_|  refine zKa ?_ _)); exact BK814.out) hb); replace HB := zMk (zBt (by exact uT HB.out) hb); have hcz49_0 : w48.cell? ⟨gb813, 0, none⟩ = some (.bool a1_0) := (zKc BK813.out 0).trans rfl; have hcz49_1 : w48.cell? ⟨gb813, 1, none⟩ = some (.slice A1_1 l1_1.length c1_1) := (zKc BK813.out 1).trans rfl; have hfz49_0 := zKf BK813.out 0; have hfz49_1 := zKf BK813.out 1; have hcz50_0 : w48.cell? ⟨gb812, 0, none⟩ = some (.bool a0_0) := (zKc BK812.out 0).trans rfl; have hcz50_1 : w48.cell? ⟨gb812, 1, none⟩ = some (.slice A0_1 l0_1.length c0_1) := (zKc BK812.out 1).trans rfl; have hfz50_0 := zKf BK812.out 0; have hfz50_1 := zKf BK812.out 1)|((with_reducible refine gate_callee (f := 35) rfl ?_); refine goesL_ (some 39) rfl rfl Tryd.func35 (by kernel_rfl) rfl #[.slice A1_1 l1_1.length c1_1, .slice A0_1 l0_1.length c0_1] rfl (by (try simp only [zMa, zMc, zMn]); first |  done|  rfl|  (simp only [zLd, zLt]; rfl)) ?_; (with_reducible refine (n_Sub.calls k _ _ l1_1 (fun k_ => k_ < w.heap.size) _ _ l0_1 t830 t833 _ ?side1 ?side2 ?side3 A38.out).mono ?_); (case side1 => repeat (first |  exact (Kd.C_below HR1_1.out HB.out)|(with_reducible refine zCa ?_ _)|(with_reducible refine zCn ?_ _)|(with_reducible refine zCd ?_))); (case side2 => exact HC1_1.out); (case side3 => exact Kd.V_mk HC0_1.out (Kd.F_below (Kd.C_F (Kd.heap_int .u32) HR0_1.out) (by exact uT HB.out))); rintro e w51 ⟨v831, rfl, ho0, hb⟩; refine ⟨_, rfl, ?_⟩; replace HO824 := zMk (zVb (by exact uV HO824.out) hb); have HO832 := zMk (zVl (zVm (ok' := fun k_ => k_ ≠ gb812 ∧ k_ ≠ gb813 ∧ k_ ≠ gb814) ho0 (fun k_ hk_ => ⟨Or.elim hk_ (fun hs_ => fun e_ => Nat.not_le.2 hs_ (by rw [e_]; exact GW812.out)) (fun hn_ => (Kd.freshB (g := gb812) (o := .cells #[.bool a0_0, .slice A0_1 l0_1.length c0_1] 24 (0, 0)) (by (with_reducible repeat (first |  refine zKn ?_ _|  refine zKd ?_|  refine zKa ?_ _)); exact BK812.out) k_ hn_)), Or.elim hk_ (fun hs_ => fun e_ => Nat.not_le.2 hs_ (by rw [e_]; exact GW813.out)) (fun hn_ => (Kd.freshB (g := gb813) (o := .cells #[.bool a1_0, .slice A1_1 l1_1.length c1_1] 24 (0, 0)) (by (with_reducible repeat (first |  refine zKn ?_ _|  refine zKd ?_|  refine zKa ?_ _)); exact BK813.out) k_ hn_)), Or.elim hk_ (fun hs_ => fun e_ => Nat.not_le.2 hs_ (by rw [e_]; exact GW814.out)) (fun hn_ => (Kd.freshB (g := gb814) (o := .cells #[.bool false, .slice none 0 0] 24 (0, 0)) (by (with_reducible repeat (first |  refine zKn ?_ _|  refine zKd ?_|  refine zKa ?_ _)); exact BK814.out) k_ hn_))⟩)) (zBs (by exact uT HB.out))); replace BK812 := zMk (zKb (g := gb812) (o := .cells #[.bool a0_0, .slice A0_1 l0_1.length c0_1] 24 (0, 0)) (by (with_reducible repeat (first |  refine zKn ?_ _|  refine zKd ?_|  refine zKa ?_ _)); exact BK812.out) hb); replace BK813 := zMk (zKb (g := gb813) (o := .cells #[.bool a1_0, .slice A1_1 l1_1.length c1_1] 24 (0, 0)) (by (with_reducible repeat (first |  refine zKn ?_ _|  refine zKd ?_|  refine zKa ?_ _)); exact BK813.out) hb); replace BK814 := zMk (zKb (g := gb814) (o := .cells #[.bool false, .slice none 0 0] 24 (0, 0)) (by (with_reducible repeat (first |  refine zKn ?_ _|  refine zKd ?_|  refine zKa ?_ _)); exact BK814.out) hb); replace HB := zMk (zBt (by exact uT HB.out) hb); have hcz52_0 : w51.cell? ⟨gb813, 0, none⟩ = some (.bool a1_0) := (zKc BK813.out 0).trans rfl; have hcz52_1 : w51.cell? ⟨gb813, 1, none⟩ = some (.slice A1_1 l1_1.length c1_1) := (zKc BK813.out 1).trans rfl; have hfz52_0 := zKf BK813.out 0; have hfz52_1 := zKf BK813.out 1; obtain ⟨Ao53, co53, eo53⟩ := zVs HO832.out; subst eo53)|((with_reducible refine gate_callee (f := 36) rfl ?_); refine goesL_ (some 45) rfl rfl Tryd.func36 (by kernel_rfl) rfl #[.bool a1_0, .slice Ao53 t830.length co53] rfl (by (try simp only [zMa, zMc, zMn]); first |  done|  rfl|  (simp only [zLd, zLt]; rfl)) ?_; (with_reducible refine (integer_signed.calls a1_0 _ _ t830 t834 t835 _ ?side1 ?side2 A39.out).mono ?_); (case side1 => exact uC (zVr HO832.out).2.2); (case side2 => exact (zVr HO832.out).2.1); rintro e w54 ⟨v836, rfl, ho0, hb⟩; refine ⟨_, rfl, ?_⟩; replace HO824 := zMk (zVe (by exact uV HO824.out) (zRz ho0) hb); replace HO832 := zMk (zVe (by exact uV HO832.out) (zRz ho0) hb); have HO837 := zMk (zRl ho0 (zBs (by exact uT HB.out))); replace BK812 := zMk (zKb (g := gb812) (o := .cells #[.bool a0_0, .slice A0_1 l0_1.length c0_1] 24 (0, 0)) (by (with_reducible repeat (first |  refine zKn ?_ _|  refine zKd ?_|  refine zKa ?_ _)); exact BK812.out) hb); replace BK813 := zMk (zKb (g := gb813) (o := .cells #[.bool a1_0, .slice A1_1 l1_1.length c1_1] 24 (0, 0)) (by (with_reducible repeat (first |  refine zKn ?_ _|  refine zKd ?_|  refine zKa ?_ _)); exact BK813.out) hb); replace BK814 := zMk (zKb (g := gb814) (o := .cells #[.bool false, .slice none 0 0] 24 (0, 0)) (by (with_reducible repeat (first |  refine zKn ?_ _|  refine zKd ?_|  refine zKa ?_ _)); exact BK814.out) hb); replace HB := zMk (zBt (by exact uT HB.out) hb); have hcz55_0 : w54.cell? ⟨gb814, 0, none⟩ = some (.bool false) := (zKc BK814.out 0).trans rfl; have hcz55_1 : w54.cell? ⟨gb814, 1, none⟩ = some (.slice none 0 0) := (zKc BK814.out 1).trans rfl; have hfz55_0 := zKf BK814.out 0; have hfz55_1 := zKf BK814.out 1; obtain ⟨Ao56, co56, eo56⟩ := zRs HO837.out; subst eo56))
      refine bodyPost_ret (results_cell_row rfl _ _ gb814 24 #[.bool t834, .slice Ao56 t835.length co56] (0, 0) _ rfl (by (with_reducible repeat (first | refine zKn ?_ _ | refine zKd ?_ | refine zKa ?_ _)); refine blk_put (cs := #[.bool t834, .slice none 0 0]) ?_ 1 _ rfl; (with_reducible repeat (first | refine zKn ?_ _ | refine zKd ?_ | refine zKa ?_ _)); refine blk_put (cs := #[.bool false, .slice none 0 0]) ?_ 0 _ rfl; (with_reducible repeat (first | refine zKn ?_ _ | refine zKd ?_ | refine zKa ?_ _)); exact BK814.out) Tryd.underlying24 rfl (by kernel_rfl)) rfl ?_
      exact ⟨_, by first | rfl | (simp [errW_none, errW_some] <;> rfl) | (simp [*, errW_none, errW_some] <;> rfl), by (with_reducible repeat (first | apply zRa | apply zRn | apply zRd)); exact zRm (Kd.R_far (p := ⟨gb814, 1, none⟩) (Kd.R_far (p := ⟨gb814, 0, none⟩) (Kd.R_types HO837.out BK814.out (by decide)) (fun _ hk => hk.2) (.bool t834)) (fun _ hk => hk.2) (.slice Ao56 t835.length co56)) (fun _ hk => trivial), by exact uT HB.out⟩


def integer_Neg.f (a0_0 : Bool) (l0_1 : List Int) : Option (Bool × List Int) := (integer_signed.f (!a0_0) l0_1).bind fun bt840 => (some (bt840.1, bt840.2))
theorem integer_Neg.calls (a0_0 : Bool) (A0_1 : Option Addr) (c0_1 : Nat) (l0_1 : List Int) (r1 : Bool) (r2 : List Int) (w : World) (hr0_1 : Kd.C (Kd.int .u32) w A0_1 l0_1.length l0_1) (hc0_1 : l0_1.length ≤ c0_1) (h : integer_Neg.f a0_0 l0_1 = some (r1, r2)) :
    Calls Tryd.prog 23 #[.agg #[.bool a0_0, .slice A0_1 l0_1.length c0_1]] w fun e w' => ∃ v1_ : Value, e = .returned (.agg #[.bool r1, v1_]) ∧ Kd.R (Kd.int .u32) 58 w' w.heap.size (fun _ => True) v1_ r2 ∧ Below w.heap.size w w' := by
  have hu24 := Tryd.underlying24
  have HR0_1 := zMk hr0_1
  have HC0_1 := zMk hc0_1
  clear hr0_1 hc0_1
  have HB := zMk (Below.refl w.heap.size w)
  have H : ((integer_signed.f (!a0_0) l0_1).bind fun bt840 => (some (bt840.1, bt840.2))) = some (r1, r2) := h
  clear h
  replace H := bnd H
  obtain ⟨⟨t840, t841⟩, A20, H⟩ := H
  replace H : (some (t840, t841)) = some (r1, r2) := H
  have A2 := zMk A20
  clear A20
  simp only [Option.some.injEq, Prod.mk.injEq] at H
  obtain ⟨rfl, rfl⟩ := H
  go_enter Tryd.func23, Tryd.ntmps23
  go_wp2_with (first | ((with_reducible refine gate_dst (N := 1) rfl ?_); refine box_event ?hg (N := 1) ?hd (cs := #[.bool a0_0, .slice A0_1 l0_1.length c0_1]) (t := 24) ?hr ?_; (case hd => rfl); (case hg => rfl); (case hr => first | (go_simp; done)|(go_simp; rfl)|(go_simp; rw [show ∀ x : Int, IntKind.u32.wrap (IntKind.u8.wrap x) = x % 256 from fun x => (by show (x % 256) % 4294967296 = x % 256; omega)])); intro gb838 hg w3 hbox hb; have BK838 := zMk (hbox); have GW838 := zMk ((by rw [hg]; exact (zBs (by exact uT HB.out)) : w.heap.size ≤ gb838)); have GE838 := zMk ((by rw [hg]; exact (zBs (by exact uT HB.out)) : w.heap.size ≤ gb838)); have IGE838 := ownGe GE838.out; replace HB := zMk (zBt (by exact uT HB.out) hb); clear hb hbox hg)|((with_reducible refine gate_dst (N := 2) rfl ?_); refine box_event ?hg (N := 2) ?hd (cs := #[.bool false, .slice none 0 0]) (t := 24) ?hr ?_; (case hd => rfl); (case hg => rfl); (case hr => first | (go_simp; done)|(go_simp; rfl)|(go_simp; rw [show ∀ x : Int, IntKind.u32.wrap (IntKind.u8.wrap x) = x % 256 from fun x => (by show (x % 256) % 4294967296 = x % 256; omega)])); intro gb839 hg w4 hbox hb; have BK839 := zMk (hbox); have GW839 := zMk ((by rw [hg]; exact (zBs (by exact uT HB.out)) : w.heap.size ≤ gb839)); have GE839 := zMk ((by rw [hg]; exact (zBs (by exact uT HB.out)) : w.heap.size ≤ gb839)); have IGE839 := ownGe GE839.out; replace HB := zMk (zBt (by exact uT HB.out) hb); have NB838_839 := zMk ((by rw [hg]; exact Nat.ne_of_lt (blk_lt (g := gb838) (o := .cells #[.bool a0_0, .slice A0_1 l0_1.length c0_1] 24 (0, 0)) (by (with_reducible repeat (first |  refine zKn ?_ _|  refine zKd ?_|  refine zKa ?_ _)); exact BK838.out)) : gb838 ≠ gb839)); have NB839_838 := zMk ((by rw [hg]; exact Nat.ne_of_gt (blk_lt (g := gb838) (o := .cells #[.bool a0_0, .slice A0_1 l0_1.length c0_1] 24 (0, 0)) (by (with_reducible repeat (first |  refine zKn ?_ _|  refine zKd ?_|  refine zKa ?_ _)); exact BK838.out)) : gb839 ≠ gb838)); replace BK838 := zMk (zKb (g := gb838) (o := .cells #[.bool a0_0, .slice A0_1 l0_1.length c0_1] 24 (0, 0)) (by (with_reducible repeat (first |  refine zKn ?_ _|  refine zKd ?_|  refine zKa ?_ _)); exact BK838.out) hb); clear hb hbox hg; have hnb5 := NB838_839.out; have hnc5 := NB839_838.out; have hcz6_0 : w4.cell? ⟨gb838, 0, none⟩ = some (.bool a0_0) := (zKc BK838.out 0).trans rfl; have hcz6_1 : w4.cell? ⟨gb838, 1, none⟩ = some (.slice A0_1 l0_1.length c0_1) := (zKc BK838.out 1).trans rfl; have hfz6_0 := zKf BK838.out 0; have hfz6_1 := zKf BK838.out 1)|((with_reducible refine gate_callee (f := 36) rfl ?_); refine goesL_ (some 8) rfl rfl Tryd.func36 (by kernel_rfl) rfl #[.bool (!a0_0), .slice A0_1 l0_1.length c0_1] rfl (by (try simp only [zMa, zMc, zMn]); first |  done|  rfl|  (simp only [zLd, zLt]; rfl)) ?_; (with_reducible refine (integer_signed.calls (!a0_0) _ _ l0_1 t840 t841 _ ?side1 ?side2 A2.out).mono ?_); (case side1 => repeat (first |  exact (Kd.C_below HR0_1.out HB.out)|(with_reducible refine zCa ?_ _)|(with_reducible refine zCn ?_ _)|(with_reducible refine zCd ?_))); (case side2 => exact HC0_1.out); rintro e w7 ⟨v842, rfl, ho0, hb⟩; refine ⟨_, rfl, ?_⟩; have HO843 := zMk (zRl ho0 (zBs (by exact uT HB.out))); replace BK838 := zMk (zKb (g := gb838) (o := .cells #[.bool a0_0, .slice A0_1 l0_1.length c0_1] 24 (0, 0)) (by (with_reducible repeat (first |  refine zKn ?_ _|  refine zKd ?_|  refine zKa ?_ _)); exact BK838.out) hb); replace BK839 := zMk (zKb (g := gb839) (o := .cells #[.bool false, .slice none 0 0] 24 (0, 0)) (by (with_reducible repeat (first |  refine zKn ?_ _|  refine zKd ?_|  refine zKa ?_ _)); exact BK839.out) hb); replace HB := zMk (zBt (by exact uT HB.out) hb); have hcz8_0 : w7.cell? ⟨gb839, 0, none⟩ = some (.bool false) := (zKc BK839.out 0).trans rfl; have hcz8_1 : w7.cell? ⟨gb839, 1, none⟩ = some (.slice none 0 0) := (zKc BK839.out 1).trans rfl; have hfz8_0 := zKf BK839.out 0; have hfz8_1 := zKf BK839.out 1; obtain ⟨Ao9, co9, eo9⟩ := zRs HO843.out; subst eo9))
  refine bodyPost_ret (results_cell_row rfl _ _ gb839 24 #[.bool t840, .slice Ao9 t841.length co9] (0, 0) _ rfl (by (with_reducible repeat (first | refine zKn ?_ _ | refine zKd ?_ | refine zKa ?_ _)); refine blk_put (cs := #[.bool t840, .slice none 0 0]) ?_ 1 _ rfl; (with_reducible repeat (first | refine zKn ?_ _ | refine zKd ?_ | refine zKa ?_ _)); refine blk_put (cs := #[.bool false, .slice none 0 0]) ?_ 0 _ rfl; (with_reducible repeat (first | refine zKn ?_ _ | refine zKd ?_ | refine zKa ?_ _)); exact BK839.out) Tryd.underlying24 rfl (by kernel_rfl)) rfl ?_
  exact ⟨_, by first | rfl | (simp [errW_none, errW_some] <;> rfl) | (simp [*, errW_none, errW_some] <;> rfl), by (with_reducible repeat (first | apply zRa | apply zRn | apply zRd)); exact zRm (Kd.R_far (p := ⟨gb839, 1, none⟩) (Kd.R_far (p := ⟨gb839, 0, none⟩) (Kd.R_types HO843.out BK839.out (by decide)) (fun _ hk => hk.2) (.bool t840)) (fun _ hk => hk.2) (.slice Ao9 t841.length co9)) (fun _ hk => trivial), by exact uT HB.out⟩


def integer_Norm.f (a0_0 : Bool) (l0_1 : List Int) : Option (Bool × List Int) := (integer_signed.f a0_0 l0_1).bind fun bt315 => (some (bt315.1, bt315.2))
theorem integer_Norm.calls (a0_0 : Bool) (A0_1 : Option Addr) (c0_1 : Nat) (l0_1 : List Int) (r1 : Bool) (r2 : List Int) (w : World) (hr0_1 : Kd.C (Kd.int .u32) w A0_1 l0_1.length l0_1) (hc0_1 : l0_1.length ≤ c0_1) (h : integer_Norm.f a0_0 l0_1 = some (r1, r2)) :
    Calls Tryd.prog 47 #[.agg #[.bool a0_0, .slice A0_1 l0_1.length c0_1]] w fun e w' => ∃ v1_ : Value, e = .returned (.agg #[.bool r1, v1_]) ∧ Kd.R (Kd.int .u32) 58 w' w.heap.size (fun _ => True) v1_ r2 ∧ Below w.heap.size w w' := by
  have hu24 := Tryd.underlying24
  have HR0_1 := zMk hr0_1
  have HC0_1 := zMk hc0_1
  clear hr0_1 hc0_1
  have HB := zMk (Below.refl w.heap.size w)
  have H : ((integer_signed.f a0_0 l0_1).bind fun bt315 => (some (bt315.1, bt315.2))) = some (r1, r2) := h
  clear h
  replace H := bnd H
  obtain ⟨⟨t315, t316⟩, A20, H⟩ := H
  replace H : (some (t315, t316)) = some (r1, r2) := H
  have A2 := zMk A20
  clear A20
  simp only [Option.some.injEq, Prod.mk.injEq] at H
  obtain ⟨rfl, rfl⟩ := H
  go_enter Tryd.func47, Tryd.ntmps47
  go_wp2_with (first | ((with_reducible refine gate_dst (N := 1) rfl ?_); refine box_event ?hg (N := 1) ?hd (cs := #[.bool a0_0, .slice A0_1 l0_1.length c0_1]) (t := 24) ?hr ?_; (case hd => rfl); (case hg => rfl); (case hr => first | (go_simp; done)|(go_simp; rfl)|(go_simp; rw [show ∀ x : Int, IntKind.u32.wrap (IntKind.u8.wrap x) = x % 256 from fun x => (by show (x % 256) % 4294967296 = x % 256; omega)])); intro gb313 hg w3 hbox hb; have BK313 := zMk (hbox); have GW313 := zMk ((by rw [hg]; exact (zBs (by exact uT HB.out)) : w.heap.size ≤ gb313)); have GE313 := zMk ((by rw [hg]; exact (zBs (by exact uT HB.out)) : w.heap.size ≤ gb313)); have IGE313 := ownGe GE313.out; replace HB := zMk (zBt (by exact uT HB.out) hb); clear hb hbox hg)|((with_reducible refine gate_dst (N := 2) rfl ?_); refine box_event ?hg (N := 2) ?hd (cs := #[.bool false, .slice none 0 0]) (t := 24) ?hr ?_; (case hd => rfl); (case hg => rfl); (case hr => first | (go_simp; done)|(go_simp; rfl)|(go_simp; rw [show ∀ x : Int, IntKind.u32.wrap (IntKind.u8.wrap x) = x % 256 from fun x => (by show (x % 256) % 4294967296 = x % 256; omega)])); intro gb314 hg w4 hbox hb; have BK314 := zMk (hbox); have GW314 := zMk ((by rw [hg]; exact (zBs (by exact uT HB.out)) : w.heap.size ≤ gb314)); have GE314 := zMk ((by rw [hg]; exact (zBs (by exact uT HB.out)) : w.heap.size ≤ gb314)); have IGE314 := ownGe GE314.out; replace HB := zMk (zBt (by exact uT HB.out) hb); have NB313_314 := zMk ((by rw [hg]; exact Nat.ne_of_lt (blk_lt (g := gb313) (o := .cells #[.bool a0_0, .slice A0_1 l0_1.length c0_1] 24 (0, 0)) (by (with_reducible repeat (first |  refine zKn ?_ _|  refine zKd ?_|  refine zKa ?_ _)); exact BK313.out)) : gb313 ≠ gb314)); have NB314_313 := zMk ((by rw [hg]; exact Nat.ne_of_gt (blk_lt (g := gb313) (o := .cells #[.bool a0_0, .slice A0_1 l0_1.length c0_1] 24 (0, 0)) (by (with_reducible repeat (first |  refine zKn ?_ _|  refine zKd ?_|  refine zKa ?_ _)); exact BK313.out)) : gb314 ≠ gb313)); replace BK313 := zMk (zKb (g := gb313) (o := .cells #[.bool a0_0, .slice A0_1 l0_1.length c0_1] 24 (0, 0)) (by (with_reducible repeat (first |  refine zKn ?_ _|  refine zKd ?_|  refine zKa ?_ _)); exact BK313.out) hb); clear hb hbox hg; have hnb5 := NB313_314.out; have hnc5 := NB314_313.out; have hcz6_0 : w4.cell? ⟨gb313, 0, none⟩ = some (.bool a0_0) := (zKc BK313.out 0).trans rfl; have hcz6_1 : w4.cell? ⟨gb313, 1, none⟩ = some (.slice A0_1 l0_1.length c0_1) := (zKc BK313.out 1).trans rfl; have hfz6_0 := zKf BK313.out 0; have hfz6_1 := zKf BK313.out 1)|((with_reducible refine gate_callee (f := 36) rfl ?_); refine goesL_ (some 7) rfl rfl Tryd.func36 (by kernel_rfl) rfl #[.bool a0_0, .slice A0_1 l0_1.length c0_1] rfl (by (try simp only [zMa, zMc, zMn]); first |  done|  rfl|  (simp only [zLd, zLt]; rfl)) ?_; (with_reducible refine (integer_signed.calls a0_0 _ _ l0_1 t315 t316 _ ?side1 ?side2 A2.out).mono ?_); (case side1 => repeat (first |  exact (Kd.C_below HR0_1.out HB.out)|(with_reducible refine zCa ?_ _)|(with_reducible refine zCn ?_ _)|(with_reducible refine zCd ?_))); (case side2 => exact HC0_1.out); rintro e w7 ⟨v317, rfl, ho0, hb⟩; refine ⟨_, rfl, ?_⟩; have HO318 := zMk (zRl ho0 (zBs (by exact uT HB.out))); replace BK313 := zMk (zKb (g := gb313) (o := .cells #[.bool a0_0, .slice A0_1 l0_1.length c0_1] 24 (0, 0)) (by (with_reducible repeat (first |  refine zKn ?_ _|  refine zKd ?_|  refine zKa ?_ _)); exact BK313.out) hb); replace BK314 := zMk (zKb (g := gb314) (o := .cells #[.bool false, .slice none 0 0] 24 (0, 0)) (by (with_reducible repeat (first |  refine zKn ?_ _|  refine zKd ?_|  refine zKa ?_ _)); exact BK314.out) hb); replace HB := zMk (zBt (by exact uT HB.out) hb); have hcz8_0 : w7.cell? ⟨gb314, 0, none⟩ = some (.bool false) := (zKc BK314.out 0).trans rfl; have hcz8_1 : w7.cell? ⟨gb314, 1, none⟩ = some (.slice none 0 0) := (zKc BK314.out 1).trans rfl; have hfz8_0 := zKf BK314.out 0; have hfz8_1 := zKf BK314.out 1; obtain ⟨Ao9, co9, eo9⟩ := zRs HO318.out; subst eo9))
  refine bodyPost_ret (results_cell_row rfl _ _ gb314 24 #[.bool t315, .slice Ao9 t316.length co9] (0, 0) _ rfl (by (with_reducible repeat (first | refine zKn ?_ _ | refine zKd ?_ | refine zKa ?_ _)); refine blk_put (cs := #[.bool t315, .slice none 0 0]) ?_ 1 _ rfl; (with_reducible repeat (first | refine zKn ?_ _ | refine zKd ?_ | refine zKa ?_ _)); refine blk_put (cs := #[.bool false, .slice none 0 0]) ?_ 0 _ rfl; (with_reducible repeat (first | refine zKn ?_ _ | refine zKd ?_ | refine zKa ?_ _)); exact BK314.out) Tryd.underlying24 rfl (by kernel_rfl)) rfl ?_
  exact ⟨_, by first | rfl | (simp [errW_none, errW_some] <;> rfl) | (simp [*, errW_none, errW_some] <;> rfl), by (with_reducible repeat (first | apply zRa | apply zRn | apply zRd)); exact zRm (Kd.R_far (p := ⟨gb314, 1, none⟩) (Kd.R_far (p := ⟨gb314, 0, none⟩) (Kd.R_types HO318.out BK314.out (by decide)) (fun _ hk => hk.2) (.bool t315)) (fun _ hk => hk.2) (.slice Ao9 t316.length co9)) (fun _ hk => trivial), by exact uT HB.out⟩


mutual
def n_Mul.l0 : Nat → List Int → List Int → List Int → Int → Int → Option (List Int)
  | 0, _, _, _, _, _ => none
  | k + 1, x1, x5, x22, x23, x24 => if x24 < x23 then (if 0 ≤ x24 then (if x24 < (x22.length : Int) then (n_Mul.l1 k x1 x5 x24 (rd x22 x24) 0 x22 x23 x24 x1 (x1.length : Int) 0) else (none)) else (none)) else ((n_cut.f x5).bind fun t116 => (some t116))
def n_Mul.l1 : Nat → List Int → List Int → Int → Int → Int → List Int → Int → Int → List Int → Int → Int → Option (List Int)
  | 0, _, _, _, _, _, _, _, _, _, _, _ => none
  | k + 1, x1, x5, x6, x7, x8, x22, x23, x24, x29, x30, x31 => if x31 < x30 then (if 0 ≤ x31 then (if x31 < (x29.length : Int) then (if 0 ≤ (wrap64 (x6 + x31)) then (if (wrap64 (x6 + x31)) < (x5.length : Int) then (n_Mul.l1 k x1 (x5.set ((wrap64 (x6 + x31)) : Int).toNat ((IntKind.u64.wrap ((IntKind.u64.wrap ((IntKind.u64.wrap ((IntKind.u64.wrap (x7)) * (IntKind.u64.wrap (rd x29 x31)))) + (IntKind.u64.wrap (rd x5 (wrap64 (x6 + x31)))))) + x8)) % 4294967296)) x6 x7 ((IntKind.u64.wrap ((IntKind.u64.wrap ((IntKind.u64.wrap ((IntKind.u64.wrap (x7)) * (IntKind.u64.wrap (rd x29 x31)))) + (IntKind.u64.wrap (rd x5 (wrap64 (x6 + x31)))))) + x8)) / 4294967296) x22 x23 x24 x29 x30 (wrap64 (x31 + 1))) else (none)) else (none)) else (none)) else (none)) else (if 0 ≤ (wrap64 (x6 + (x1.length : Int))) then (if (wrap64 (x6 + (x1.length : Int))) < (x5.length : Int) then (n_Mul.l0 k x1 (x5.set ((wrap64 (x6 + (x1.length : Int))) : Int).toNat ((x8) % 4294967296)) x22 x23 (wrap64 (x24 + 1))) else (none)) else (none))
end
def n_Mul.f (k : Nat) (l0 : List Int) (l1 : List Int) : Option (List Int) := (n_cut.f l0).bind fun t107 => ((n_cut.f l1).bind fun t110 => (if 0 ≤ (wrap64 ((t107.length : Int) + (t110.length : Int))) then (if (wrap64 ((t107.length : Int) + (t110.length : Int)) : Int).toNat ≤ 70368744177664 then (n_Mul.l0 k t110 (List.replicate (wrap64 ((t107.length : Int) + (t110.length : Int)) : Int).toNat 0) t107 (t107.length : Int) 0) else (none)) else (none)))
theorem n_Mul.calls (k : Nat) (P0_ : Nat → Prop) (A0 : Option Addr) (c0 : Nat) (l0 : List Int) (P1_ : Nat → Prop) (A1 : Option Addr) (c1 : Nat) (l1 : List Int) (r : List Int) (w : World) (hs0 : Kd.V (Kd.int .u32) 58 w w.heap.size (fun k_ => P0_ k_) (.slice A0 l0.length c0) l0) (hs1 : Kd.V (Kd.int .u32) 58 w w.heap.size (fun k_ => P1_ k_) (.slice A1 l1.length c1) l1) (h : n_Mul.f k l0 l1 = some r) :
    Calls Tryd.prog 45 #[.slice A0 l0.length c0, .slice A1 l1.length c1] w fun e w' => ∃ v0_ : Value, e = .returned (v0_) ∧ Kd.V (Kd.int .u32) 58 w' w.heap.size (fun k_ => ((P0_ k_ ∨ P1_ k_) ∨ w.heap.size ≤ k_)) v0_ r ∧ Below w.heap.size w w' := by
  have HO0 := zMk (show Kd.V (Kd.int .u32) 58 w w.heap.size (fun k_ => ((P0_ k_ ∨ P1_ k_) ∨ w.heap.size ≤ k_)) (.slice A0 l0.length c0) l0 from zVm hs0 (fun k_ hk => .inl (.inl hk)))
  have HO1 := zMk (show Kd.V (Kd.int .u32) 58 w w.heap.size (fun k_ => ((P0_ k_ ∨ P1_ k_) ∨ w.heap.size ≤ k_)) (.slice A1 l1.length c1) l1 from zVm hs1 (fun k_ hk => .inl (.inr hk)))
  have HB := zMk (Below.refl w.heap.size w)
  have H : ((n_cut.f l0).bind fun t107 => ((n_cut.f l1).bind fun t110 => (if 0 ≤ (wrap64 ((t107.length : Int) + (t110.length : Int))) then (if (wrap64 ((t107.length : Int) + (t110.length : Int)) : Int).toNat ≤ 70368744177664 then (n_Mul.l0 k t110 (List.replicate (wrap64 ((t107.length : Int) + (t110.length : Int)) : Int).toNat 0) t107 (t107.length : Int) 0) else (none)) else (none)))) = some r := h
  clear h
  replace H := bnd H
  obtain ⟨t107, A30, H⟩ := H
  have A3 := zMk A30
  clear A30
  replace H := bnd H
  obtain ⟨t110, A40, H⟩ := H
  have A4 := zMk A40
  clear A40
  obtain ⟨ji5, hji5⟩ : ∃ j_ : Int, (wrap64 ((t107.length : Int) + (t110.length : Int))) = j_ := ⟨_, rfl⟩
  replace H : (if 0 ≤ (ji5) then (if (ji5 : Int).toNat ≤ 70368744177664 then (n_Mul.l0 k t110 (List.replicate (ji5 : Int).toNat 0) t107 (t107.length : Int) 0) else (none)) else (none)) = some r := by first | (rw [hji5] at H; exact H) | (simp only [hji5] at H ⊢; exact H)
  (try rw [hji5] at A3)
  (try rw [hji5] at A4)
  have hji5w : (IntKind.i64.wrap ((t107.length : Int) + (t110.length : Int))) = ji5 := (i64_w _).trans hji5
  by_cases c6 : 0 ≤ (ji5)
  · rw [if_pos c6] at H
    have c6b0 := eq_true c6
    have c6b1 : decide (0 ≤ (ji5)) = true := decide_eq_true c6
    clear c6
    by_cases c7 : (ji5 : Int).toNat ≤ 70368744177664
    rotate_left
    · rw [if_neg c7] at H; exact absurd H (by simp)
    rw [if_pos c7] at H
    have c7b0 := eq_true c7
    have c7b1 : decide ((ji5 : Int).toNat ≤ 70368744177664) = true := decide_eq_true c7
    clear c7
    obtain ⟨y113, hy113⟩ : ∃ y_ : List Int, y_ = (List.replicate (ji5 : Int).toNat 0) := ⟨_, rfl⟩
    replace H : (n_Mul.l0 k t110 y113 t107 (t107.length : Int) 0) = some r := by first | (rw [hy113]; with_reducible exact H) | (have H2_ := bsm H; first | (rw [hy113]; with_reducible exact H2_) | with_reducible exact H2_) | with_reducible exact H | (rw [hy113]; exact H) | exact H
    have Ny113 := zMk hy113
    clear hy113
    have H' := zMk H
    clear H
    go_enter Tryd.func45, Tryd.ntmps45
    go_wp2_with (first | ((with_reducible refine gate_callee (f := 56) rfl ?_); refine goesL_ (some 13) rfl rfl Tryd.func56 (by kernel_rfl) rfl #[.slice A0 l0.length c0] rfl (by (try simp only [zMa, zMc, zMn]); first |  done|  rfl|  (simp only [zLd, zLt]; rfl)) ?_; (with_reducible refine (n_cut.calls (fun k_ => ((P0_ k_ ∨ P1_ k_) ∨ w.heap.size ≤ k_)) _ _ l0 t107 _ ?side1 A3.out).mono ?_); (case side1 => exact HO0.out); rintro e w8 ⟨v108, rfl, ho0, hb⟩; refine ⟨_, rfl, ?_⟩; replace HO0 := zMk (zVb (by exact uV HO0.out) hb); replace HO1 := zMk (zVb (by exact uV HO1.out) hb); have HO109 := zMk (zVl (zVm (ok' := fun k_ => ((P0_ k_ ∨ P1_ k_) ∨ w.heap.size ≤ k_)) ho0 (fun k_ hk_ => Or.elim hk_ (fun hs_ => hs_) (fun hn_ => (.inr (Nat.le_trans (zBs (by exact uT HB.out)) hn_))))) (zBs (by exact uT HB.out))); replace HB := zMk (zBt (by exact uT HB.out) hb))|((with_reducible refine gate_callee (f := 56) rfl ?_); refine goesL_ (some 15) rfl rfl Tryd.func56 (by kernel_rfl) rfl #[.slice A1 l1.length c1] rfl (by (try simp only [zMa, zMc, zMn]); first |  done|  rfl|  (simp only [zLd, zLt]; rfl)) ?_; (with_reducible refine (n_cut.calls (fun k_ => ((P0_ k_ ∨ P1_ k_) ∨ w.heap.size ≤ k_)) _ _ l1 t110 _ ?side1 A4.out).mono ?_); (case side1 => exact HO1.out); rintro e w9 ⟨v111, rfl, ho0, hb⟩; refine ⟨_, rfl, ?_⟩; replace HO0 := zMk (zVb (by exact uV HO0.out) hb); replace HO1 := zMk (zVb (by exact uV HO1.out) hb); replace HO109 := zMk (zVb (by exact uV HO109.out) hb); have HO112 := zMk (zVl (zVm (ok' := fun k_ => ((P0_ k_ ∨ P1_ k_) ∨ w.heap.size ≤ k_)) ho0 (fun k_ hk_ => Or.elim hk_ (fun hs_ => hs_) (fun hn_ => (.inr (Nat.le_trans (zBs (by exact uT HB.out)) hn_))))) (zBs (by exact uT HB.out))); replace HB := zMk (zBt (by exact uT HB.out) hb); obtain ⟨Ao10, co10, eo10⟩ := zVs HO109.out; subst eo10; obtain ⟨Ao11, co11, eo11⟩ := zVs HO112.out; subst eo11)|((with_reducible refine gate_dst (N := 21) rfl ?_); refine Kd.R_make (Kd.int .u32) _ 58 rfl (N := 21) rfl 22 _ _ rfl ji5 rfl rfl Tryd.underlying22 (.int .u32 0) 4 info58 rfl (by decide) (by omega) 0 (ok := fun _ => True) (okp := fun _ => True) rfl (fun _ hk => hk) trivial (of_decide_eq_true (by first | (with_reducible assumption)|  assumption)) (Nat.le_trans (Nat.mul_le_mul_right _ (of_decide_eq_true (by first | (with_reducible assumption)|  assumption) : ji5.toNat ≤ 70368744177664)) (by omega)) (Below.refl _ _) (Nat.le_refl _) ?_; intro v114 w12 ho13 hb hg_ hnew_; clear hg_ hnew_; (first |  rw [← Ny113.out] at ho13|  (simp only [Int.reduceToNat] at ho13; rw [← Ny113.out] at ho13)); replace HO0 := zMk (zVe (by exact uV HO0.out) (zRz ho13) hb); replace HO1 := zMk (zVe (by exact uV HO1.out) (zRz ho13) hb); replace HO109 := zMk (zVe (by exact uV HO109.out) (zRz ho13) hb); replace HO112 := zMk (zVe (by exact uV HO112.out) (zRz ho13) hb); have HO115 := zMk (zRl (Kd.R_newM (M := fun k_ => (w.heap.size ≤ k_)) ho13 (zBs (by exact uT HB.out)) (fun k_ h_ => h_)) (zBs (by exact uT HB.out))); replace HB := zMk (zBt (by exact uT HB.out) hb); clear hb ho13))
    go_loopg [24] k (fun kq v24 w' => ∃ (x5_1 : List Int) (x24_1 : Int), v24 = .int .i64 x24_1 ∧ Aside0 (n_Mul.l0 kq t110 x5_1 t107 (t107.length : Int) x24_1 = some r) ∧ Aside0 (kq ≤ k) ∧ Aside0 (Kd.V (Kd.int .u32) 58 w' w.heap.size (fun k_ => ((P0_ k_ ∨ P1_ k_) ∨ w.heap.size ≤ k_) ∧ some k_ ≠ (v114 : Value).ownBlock) (.slice Ao11 t110.length co11) t110) ∧ Aside0 (Kd.R (Kd.int .u32) 58 w' w.heap.size (fun k_ => (w.heap.size ≤ k_)) v114 x5_1) ∧ Aside0 (Kd.V (Kd.int .u32) 58 w' w.heap.size (fun k_ => ((P0_ k_ ∨ P1_ k_) ∨ w.heap.size ≤ k_) ∧ some k_ ≠ (v114 : Value).ownBlock) (.slice Ao10 t107.length co10) t107) ∧ Aside0 (Below w.heap.size w w'))
    case atStart => exact ⟨(y113), (0), (by first | rfl | (simp; done) | (simp [*]; done)), H', ⟨Nat.le_refl _⟩, ⟨by exact uV HO112.out⟩, ⟨by (with_reducible repeat (first | apply zRa | apply zRn | apply zRd)); exact zRm HO115.out (fun _ hk => hk.1)⟩, ⟨by exact uV HO109.out⟩, ⟨by exact uT HB.out⟩⟩
    clear H'
    obtain ⟨x5_1, x24_1, rfl, HA, HK1, HO_1, HO_5, HO_22, HB⟩ := hrel
    rcases gk with _ | k1
    · exact absurd HA.out (by simp [n_Mul.l0])
    have H := HA.out
    clear HA
    simp only [n_Mul.l0] at H
    by_cases c14 : x24_1 < (t107.length : Int)
    · rw [if_pos c14] at H
      have c14b0 : decide (x24_1 < (t107.length : Int)) = true := decide_eq_true c14
      clear c14
      by_cases c15 : 0 ≤ x24_1
      rotate_left
      · rw [if_neg c15] at H; exact absurd H (by simp)
      rw [if_pos c15] at H
      have c15b0 : decide (0 ≤ x24_1) = true := decide_eq_true c15
      clear c15
      by_cases c16 : x24_1 < (t107.length : Int)
      rotate_left
      · rw [if_neg c16] at H; exact absurd H (by simp)
      rw [if_pos c16] at H
      have c16b0 : decide (x24_1 < (t107.length : Int)) = true := decide_eq_true c16
      clear c16
      have H' := zMk H
      clear H
      have p119 : 0 ≤ (x24_1 : Int) := of_decide_eq_true (by assumption)
      have q119 : x24_1 < (t107.length : Int) := of_decide_eq_true (by assumption)
      obtain ⟨ad119, e119, hx119_0⟩ := zAi (zVr HO_22.out).2.2 x24_1 p119 q119
      cases e119
      replace p119 := eq_true p119
      replace q119 := eq_true q119
      go_wp2
      go_loopg [8, 31] k1 (fun kq v8 v31 w' => ∃ (x5_2 : List Int) (x8_2 : Int) (x31_2 : Int), v8 = .int .u64 x8_2 ∧ v31 = .int .i64 x31_2 ∧ Aside0 (n_Mul.l1 kq t110 x5_2 x24_1 (rd t107 x24_1) x8_2 t107 (t107.length : Int) x24_1 t110 (t110.length : Int) x31_2 = some r) ∧ Aside0 (kq ≤ k1) ∧ Aside0 (Kd.V (Kd.int .u32) 58 w' w.heap.size (fun k_ => ((P0_ k_ ∨ P1_ k_) ∨ w.heap.size ≤ k_) ∧ some k_ ≠ (v114 : Value).ownBlock) (.slice Ao11 t110.length co11) t110) ∧ Aside0 (Kd.R (Kd.int .u32) 58 w' w.heap.size (fun k_ => (w.heap.size ≤ k_)) v114 x5_2) ∧ Aside0 (Kd.V (Kd.int .u32) 58 w' w.heap.size (fun k_ => ((P0_ k_ ∨ P1_ k_) ∨ w.heap.size ≤ k_) ∧ some k_ ≠ (v114 : Value).ownBlock) (.slice (some ad119) t107.length co10) t107) ∧ Aside0 (Kd.V (Kd.int .u32) 58 w' w.heap.size (fun k_ => ((P0_ k_ ∨ P1_ k_) ∨ w.heap.size ≤ k_) ∧ some k_ ≠ (v114 : Value).ownBlock) (.slice Ao11 t110.length co11) t110) ∧ Aside0 (Below w.heap.size w w'))
      case atStart => exact ⟨(x5_1), (0), (0), (by first | rfl | (simp; done) | (simp [*]; done)), (by first | rfl | (simp; done) | (simp [*]; done)), H', ⟨Nat.le_refl _⟩, ⟨by exact uV HO_1.out⟩, ⟨by exact uR HO_5.out⟩, ⟨by exact uV HO_22.out⟩, ⟨by exact uV HO_1.out⟩, ⟨by exact uT HB.out⟩⟩
      clear H'
      obtain ⟨x5_2, x8_2, x31_2, rfl, rfl, HA, HK2, HO_1, HO_5, HO_22, HO_29, HB⟩ := hrel
      rcases gk with _ | k2
      · exact absurd HA.out (by simp [n_Mul.l1])
      have H := HA.out
      clear HA
      simp only [n_Mul.l1] at H
      by_cases c17 : x31_2 < (t110.length : Int)
      · rw [if_pos c17] at H
        have c17b0 : decide (x31_2 < (t110.length : Int)) = true := decide_eq_true c17
        clear c17
        by_cases c18 : 0 ≤ x31_2
        rotate_left
        · rw [if_neg c18] at H; exact absurd H (by simp)
        rw [if_pos c18] at H
        have c18b0 : decide (0 ≤ x31_2) = true := decide_eq_true c18
        clear c18
        by_cases c19 : x31_2 < (t110.length : Int)
        rotate_left
        · rw [if_neg c19] at H; exact absurd H (by simp)
        rw [if_pos c19] at H
        have c19b0 : decide (x31_2 < (t110.length : Int)) = true := decide_eq_true c19
        clear c19
        obtain ⟨ji20, hji20⟩ : ∃ j_ : Int, (wrap64 (x24_1 + x31_2)) = j_ := ⟨_, rfl⟩
        replace H : (if 0 ≤ (ji20) then (if (ji20) < (x5_2.length : Int) then (n_Mul.l1 k2 t110 (x5_2.set ((ji20) : Int).toNat ((IntKind.u64.wrap ((IntKind.u64.wrap ((IntKind.u64.wrap ((IntKind.u64.wrap ((rd t107 x24_1))) * (IntKind.u64.wrap (rd t110 x31_2)))) + (IntKind.u64.wrap (rd x5_2 (ji20))))) + x8_2)) % 4294967296)) x24_1 (rd t107 x24_1) ((IntKind.u64.wrap ((IntKind.u64.wrap ((IntKind.u64.wrap ((IntKind.u64.wrap ((rd t107 x24_1))) * (IntKind.u64.wrap (rd t110 x31_2)))) + (IntKind.u64.wrap (rd x5_2 (ji20))))) + x8_2)) / 4294967296) t107 (t107.length : Int) x24_1 t110 (t110.length : Int) (wrap64 (x31_2 + 1))) else (none)) else (none)) = some r := by first | (rw [hji20] at H; exact H) | (simp only [hji20] at H ⊢; exact H)
        have hji20w : (IntKind.i64.wrap (x24_1 + x31_2)) = ji20 := (i64_w _).trans hji20
        by_cases c21 : 0 ≤ (ji20)
        rotate_left
        · rw [if_neg c21] at H; exact absurd H (by simp)
        rw [if_pos c21] at H
        have c21b0 : decide (0 ≤ (ji20)) = true := decide_eq_true c21
        clear c21
        by_cases c22 : (ji20) < (x5_2.length : Int)
        rotate_left
        · rw [if_neg c22] at H; exact absurd H (by simp)
        rw [if_pos c22] at H
        have c22b0 : decide ((ji20) < (x5_2.length : Int)) = true := decide_eq_true c22
        clear c22
        obtain ⟨y122, hy122⟩ : ∃ y_ : List Int, y_ = (x5_2.set ((ji20) : Int).toNat ((IntKind.u64.wrap ((IntKind.u64.wrap ((IntKind.u64.wrap ((IntKind.u64.wrap ((rd t107 x24_1))) * (IntKind.u64.wrap (rd t110 x31_2)))) + (IntKind.u64.wrap (rd x5_2 (ji20))))) + x8_2)) % 4294967296)) := ⟨_, rfl⟩
        replace H : (n_Mul.l1 k2 t110 y122 x24_1 (rd t107 x24_1) ((IntKind.u64.wrap ((IntKind.u64.wrap ((IntKind.u64.wrap ((IntKind.u64.wrap ((rd t107 x24_1))) * (IntKind.u64.wrap (rd t110 x31_2)))) + (IntKind.u64.wrap (rd x5_2 (ji20))))) + x8_2)) / 4294967296) t107 (t107.length : Int) x24_1 t110 (t110.length : Int) (wrap64 (x31_2 + 1))) = some r := by first | (rw [hy122]; with_reducible exact H) | (have H2_ := bsm H; first | (rw [hy122]; with_reducible exact H2_) | with_reducible exact H2_) | with_reducible exact H | (rw [hy122]; exact H) | exact H
        have Ny122 := zMk hy122
        clear hy122
        have H' := zMk H
        clear H
        have p120 : 0 ≤ (x31_2 : Int) := of_decide_eq_true (by assumption)
        have q120 : x31_2 < (t110.length : Int) := of_decide_eq_true (by assumption)
        obtain ⟨ad120, e120, hx120_0⟩ := zAi (zVr HO_29.out).2.2 x31_2 p120 q120
        cases e120
        replace p120 := eq_true p120
        replace q120 := eq_true q120
        obtain ⟨Ao24, co24, eo24⟩ := zRs HO_5.out
        subst eo24
        have p121 : 0 ≤ ((ji20) : Int) := of_decide_eq_true (by assumption)
        have q121 : (ji20) < (x5_2.length : Int) := of_decide_eq_true (by assumption)
        obtain ⟨ad121, e121, hx121_0⟩ := zAi (zRr HO_5.out).2.2 (ji20) p121 q121
        cases e121
        replace p121 := eq_true p121
        replace q121 := eq_true q121
        have p23 : 0 ≤ ((ji20) : Int) := of_decide_eq_true (by assumption)
        have q23 : ((ji20) : Int) < ((x5_2.length : Int) : Int) := of_decide_eq_true (by assumption)
        obtain ⟨go23, co23, eo23, gb23, gl23, cl23, HG23⟩ := Kd.R_form HO_5.out (by omega)
        (first |  cases eo23|  (injection eo23 with ea_ en_ ec_; (first |  subst ea_|  (injection ea_ with ea_; subst ea_)); subst ec_; clear en_))
        have GB23 := zMk gb23
        have IGB23 := ownGe GB23.out
        have GG23 := zMk HG23
        clear gb23 gl23 HG23
        (first | simp only [add_plain] at hx121_0 | skip)
        obtain ⟨hx23_0, hf23_0⟩ := Kd.R_celln 0 HO_5.out ((ji20) : Int) p23 q23
        replace p23 := eq_true p23
        replace q23 := eq_true q23
        have HP25 := Kd.R_putg HO_5.out ((ji20) : Int) ((IntKind.u64.wrap ((IntKind.u64.wrap ((IntKind.u64.wrap ((IntKind.u64.wrap ((rd t107 x24_1))) * (IntKind.u64.wrap (rd t110 x31_2)))) + (IntKind.u64.wrap (rd x5_2 (ji20))))) + x8_2)) % 4294967296)
        go_wp2_with (first | ((with_reducible refine gate_store (t := 58) (p := 59) rfl ?_); refine store_event (t := 58) (p := 59) (v := ?vo_w26) (w1 := (wr.setCell ⟨go23, ((ji20) : Int).toNat, none⟩ (.int .u32 ((IntKind.u64.wrap ((IntKind.u64.wrap ((IntKind.u64.wrap ((IntKind.u64.wrap ((rd t107 x24_1))) * (IntKind.u64.wrap (rd t110 x31_2)))) + (IntKind.u64.wrap (rd x5_2 (ji20))))) + x8_2)) % 4294967296)))) ?hg ?ho ?hn ?hr ?_; (case ho => rfl); (case hg => rfl); (case hn => rfl); (case hr => first | (go_simp; done)|(go_simp; rfl)|(go_simp; rw [show ∀ x : Int, IntKind.u32.wrap (IntKind.u8.wrap x) = x % 256 from fun x => (by show (x % 256) % 4294967296 = x % 256; omega)])); intro w26 hw; have hg : wr.grownBy w26 (some go23) := (by rw [hw]; exact HP25.2); have hp_ : Kd.R (Kd.int .u32) 58 w26 w.heap.size (fun k_ => (w.heap.size ≤ k_)) (.slice (some ⟨go23, 0, none⟩) x5_2.length co24) y122 := (by rw [hw, Ny122.out]; exact HP25.1); clear HP25; replace HO_1 := zMk (Kd.V_afterv (v := (.slice (some ⟨go23, 0, none⟩) x5_2.length co24)) (v1 := (.slice (some ⟨go23, 0, none⟩) x5_2.length co24)) (ok := (fun k_ => ((P0_ k_ ∨ P1_ k_) ∨ w.heap.size ≤ k_))) (by exact uV HO_1.out) hg (.inl rfl)); replace HO_5 := zMk (hp_); replace HO_22 := zMk (Kd.V_afterv (v := (.slice (some ⟨go23, 0, none⟩) x5_2.length co24)) (v1 := (.slice (some ⟨go23, 0, none⟩) x5_2.length co24)) (ok := (fun k_ => ((P0_ k_ ∨ P1_ k_) ∨ w.heap.size ≤ k_))) (by exact uV HO_22.out) hg (.inl rfl)); replace HO_29 := zMk (Kd.V_afterv (v := (.slice (some ⟨go23, 0, none⟩) x5_2.length co24)) (v1 := (.slice (some ⟨go23, 0, none⟩) x5_2.length co24)) (ok := (fun k_ => ((P0_ k_ ∨ P1_ k_) ∨ w.heap.size ≤ k_))) (by exact uV HO_29.out) hg (.inl rfl)); replace HB := zMk ((by rw [hw]; exact below_set (HB.out) GB23.out : Below w.heap.size w w26)); clear hg hw hp_))
        go_roundg k2
        case measure => have := HK1.out; have := HK2.out; omega
        case rel => exact ⟨(y122), ((IntKind.u64.wrap ((IntKind.u64.wrap ((IntKind.u64.wrap ((IntKind.u64.wrap ((rd t107 x24_1))) * (IntKind.u64.wrap (rd t110 x31_2)))) + (IntKind.u64.wrap (rd x5_2 (ji20))))) + x8_2)) / 4294967296), (wrap64 (x31_2 + 1)), (by first | rfl | (simp; done) | (simp only [← hji20] <;> (first | rfl | simp)) | (simp [*]; done)), (by first | rfl | (simp; done) | (simp [*]; done)), H', ⟨by have := HK1.out; have := HK2.out; omega⟩, ⟨by exact uV HO_1.out⟩, ⟨by exact uR HO_5.out⟩, ⟨by exact uV HO_22.out⟩, ⟨by exact uV HO_29.out⟩, ⟨by exact uT HB.out⟩⟩
      · rw [if_neg c17] at H
        have c17b0 : decide (x31_2 < (t110.length : Int)) = false := decide_eq_false c17
        clear c17
        obtain ⟨ji27, hji27⟩ : ∃ j_ : Int, (wrap64 (x24_1 + (t110.length : Int))) = j_ := ⟨_, rfl⟩
        replace H : (if 0 ≤ (ji27) then (if (ji27) < (x5_2.length : Int) then (n_Mul.l0 k2 t110 (x5_2.set ((ji27) : Int).toNat ((x8_2) % 4294967296)) t107 (t107.length : Int) (wrap64 (x24_1 + 1))) else (none)) else (none)) = some r := by first | (rw [hji27] at H; exact H) | (simp only [hji27] at H ⊢; exact H)
        have hji27w : (IntKind.i64.wrap (x24_1 + (t110.length : Int))) = ji27 := (i64_w _).trans hji27
        by_cases c28 : 0 ≤ (ji27)
        rotate_left
        · rw [if_neg c28] at H; exact absurd H (by simp)
        rw [if_pos c28] at H
        have c28b0 : decide (0 ≤ (ji27)) = true := decide_eq_true c28
        clear c28
        by_cases c29 : (ji27) < (x5_2.length : Int)
        rotate_left
        · rw [if_neg c29] at H; exact absurd H (by simp)
        rw [if_pos c29] at H
        have c29b0 : decide ((ji27) < (x5_2.length : Int)) = true := decide_eq_true c29
        clear c29
        obtain ⟨y123, hy123⟩ : ∃ y_ : List Int, y_ = (x5_2.set ((ji27) : Int).toNat ((x8_2) % 4294967296)) := ⟨_, rfl⟩
        replace H : (n_Mul.l0 k2 t110 y123 t107 (t107.length : Int) (wrap64 (x24_1 + 1))) = some r := by first | (rw [hy123]; with_reducible exact H) | (have H2_ := bsm H; first | (rw [hy123]; with_reducible exact H2_) | with_reducible exact H2_) | with_reducible exact H | (rw [hy123]; exact H) | exact H
        have Ny123 := zMk hy123
        clear hy123
        have H' := zMk H
        clear H
        have p30 : 0 ≤ ((ji27) : Int) := of_decide_eq_true (by assumption)
        have q30 : ((ji27) : Int) < ((x5_2.length : Int) : Int) := of_decide_eq_true (by assumption)
        obtain ⟨go30, co30, eo30, gb30, gl30, cl30, HG30⟩ := Kd.R_form HO_5.out (by omega)
        (first |  cases eo30|  (injection eo30 with ea_ en_ ec_; (first |  subst ea_|  (injection ea_ with ea_; subst ea_)); subst ec_; clear en_))
        have GB30 := zMk gb30
        have IGB30 := ownGe GB30.out
        have GG30 := zMk HG30
        clear gb30 gl30 HG30
        obtain ⟨hx30_0, hf30_0⟩ := Kd.R_celln 0 HO_5.out ((ji27) : Int) p30 q30
        replace p30 := eq_true p30
        replace q30 := eq_true q30
        have HP31 := Kd.R_putg HO_5.out ((ji27) : Int) ((x8_2) % 4294967296)
        go_wp2_with (first | ((with_reducible refine gate_store (t := 58) (p := 68) rfl ?_); refine store_event (t := 58) (p := 68) (v := ?vo_w32) (w1 := (wr.setCell ⟨go30, ((ji27) : Int).toNat, none⟩ (.int .u32 ((x8_2) % 4294967296)))) ?hg ?ho ?hn ?hr ?_; (case ho => rfl); (case hg => rfl); (case hn => rfl); (case hr => first | (go_simp; done)|(go_simp; rfl)|(go_simp; rw [show ∀ x : Int, IntKind.u32.wrap (IntKind.u8.wrap x) = x % 256 from fun x => (by show (x % 256) % 4294967296 = x % 256; omega)])); intro w32 hw; have hg : wr.grownBy w32 (some go30) := (by rw [hw]; exact HP31.2); have hp_ : Kd.R (Kd.int .u32) 58 w32 w.heap.size (fun k_ => (w.heap.size ≤ k_)) (.slice (some ⟨go30, 0, none⟩) x5_2.length co30) y123 := (by rw [hw, Ny123.out]; exact HP31.1); clear HP31; replace HO_1 := zMk (Kd.V_afterv (v := (.slice (some ⟨go30, 0, none⟩) x5_2.length co30)) (v1 := (.slice (some ⟨go30, 0, none⟩) x5_2.length co30)) (ok := (fun k_ => ((P0_ k_ ∨ P1_ k_) ∨ w.heap.size ≤ k_))) (by exact uV HO_1.out) hg (.inl rfl)); replace HO_5 := zMk (hp_); replace HO_22 := zMk (Kd.V_afterv (v := (.slice (some ⟨go30, 0, none⟩) x5_2.length co30)) (v1 := (.slice (some ⟨go30, 0, none⟩) x5_2.length co30)) (ok := (fun k_ => ((P0_ k_ ∨ P1_ k_) ∨ w.heap.size ≤ k_))) (by exact uV HO_22.out) hg (.inl rfl)); replace HO_29 := zMk (Kd.V_afterv (v := (.slice (some ⟨go30, 0, none⟩) x5_2.length co30)) (v1 := (.slice (some ⟨go30, 0, none⟩) x5_2.length co30)) (ok := (fun k_ => ((P0_ k_ ∨ P1_ k_) ∨ w.heap.size ≤ k_))) (by exact uV HO_29.out) hg (.inl rfl)); replace HB := zMk ((by rw [hw]; exact below_set (HB.out) GB30.out : Below w.heap.size w w32)); clear hg hw hp_))
        go_roundg k2
        case measure => have := HK1.out; have := HK2.out; omega
        case rel => exact ⟨(y123), (wrap64 (x24_1 + 1)), (by first | rfl | (simp; done) | (simp [*]; done)), H', ⟨by have := HK1.out; have := HK2.out; omega⟩, ⟨by exact uV HO_1.out⟩, ⟨by exact uR HO_5.out⟩, ⟨by exact uV HO_22.out⟩, ⟨by exact uT HB.out⟩⟩
    · rw [if_neg c14] at H
      have c14b0 : decide (x24_1 < (t107.length : Int)) = false := decide_eq_false c14
      clear c14
      replace H := bnd H
      obtain ⟨t116, A330, H⟩ := H
      have A33 := zMk A330
      clear A330
      obtain rfl := zOi H
      obtain ⟨Ao34, co34, eo34⟩ := zRs HO_5.out
      subst eo34
      go_wp2_with (first | ((with_reducible refine gate_callee (f := 56) rfl ?_); refine goesL_ (some 71) rfl rfl Tryd.func56 (by kernel_rfl) rfl #[.slice Ao34 x5_1.length co34] rfl (by (try simp only [zMa, zMc, zMn]); first |  done|  rfl|  (simp only [zLd, zLt]; rfl)) ?_; (with_reducible refine (n_cut.calls (fun k_ => some k_ = (.slice Ao34 x5_1.length co34 : Value).ownBlock) _ _ x5_1 t116 _ ?side1 A33.out).mono ?_); (case side1 => exact Kd.R_V (Kd.R_tight rfl (HO_5.out))); rintro e w35 ⟨v117, rfl, ho0, hb⟩; refine ⟨_, rfl, ?_⟩; replace HO_1 := zMk (zVb (by exact uV HO_1.out) hb); replace HO_22 := zMk (zVb (by exact uV HO_22.out) hb); have HO118 := zMk (zVl (zVm (ok' := fun k_ => ((P0_ k_ ∨ P1_ k_) ∨ w.heap.size ≤ k_)) ho0 (fun k_ hk_ => Or.elim hk_ (fun hs_ => (.inr (((HO_5.out).1 k_ hs_.symm)))) (fun hn_ => (.inr (Nat.le_trans (zBs (by exact uT HB.out)) hn_))))) (zBs (by exact uT HB.out))); replace HO_5 := zMk (zRb (by exact uR HO_5.out) hb); replace HB := zMk (zBt (by exact uT HB.out) hb)))
      go_ret
      exact ⟨_, by first | rfl | (simp [errW_none, errW_some] <;> rfl) | (simp only [← hji5]; first | rfl | (simp [errW_none, errW_some] <;> rfl)) | (simp [*, errW_none, errW_some] <;> rfl), by exact uV HO118.out, by exact uT HB.out⟩
  · rw [if_neg c6] at H
    exact absurd H (by simp)

structure IsNum (l : List Int) (n : Int) : Prop where
  limbs : Limbs l
  trim : Trim l
  eq : val l = n
theorem IsNum.unique {a b : List Int} {n : Int} (ha : IsNum a n) (hb : IsNum b n) : a = b := val_inj ha.limbs ha.trim hb.limbs hb.trim (ha.eq.trans hb.eq.symm)
theorem IsNum.cut {l : List Int} (h : Limbs l) : IsNum (cut l) (val l) := ⟨cut_limbs h, cut_trim l, cut_val l⟩
theorem getD_set_ne (l : List Int) {m n : Nat} (v : Int) (h : m ≠ n) : (l.set m v).getD n 0 = l.getD n 0 := by rw [List.getD_eq_getElem?_getD, List.getElem?_set_ne h, ← List.getD_eq_getElem?_getD]
theorem val_set (l : List Int) : ∀ (n : Nat) (v : Int), n < l.length → val (l.set n v) = val l + 4294967296 ^ n * (v - l.getD n 0) := by
  induction l with
  | nil => intro n v h; exact absurd h (by simp)
  | cons x l ih =>
    intro n v h
    rcases n with _ | n
    · simp only [zSb, val, List.getD_cons_zero, Int.pow_zero]; omega
    · have := ih n v (by simpa using h)
      simp only [zSc, val, List.getD_cons_succ, this, Int.pow_succ]
      grind
theorem Limbs.set {l : List Int} (h : Limbs l) (n : Nat) {v : Int} (h0 : 0 ≤ v) (h1 : v < 4294967296) : Limbs (l.set n v) := fun x hx => by
  rcases List.mem_or_eq_of_mem_set hx with hx | rfl
  · exact h x hx
  · exact ⟨h0, h1⟩
theorem getD_of_lt {l : List Int} : ∀ {m n : Nat}, Limbs l → val l < 4294967296 ^ n → n ≤ m → l.getD m 0 = 0 := by
  induction l with
  | nil => intro m n _ _ _; rfl
  | cons x l ih =>
    intro m n hl h hmn
    have h1 := hl.cons
    have h2 := val_nonneg h1.2
    simp only [val] at h
    rcases n with _ | n
    · rw [Int.pow_zero] at h
      have hx : x = 0 := by omega
      have hv : val l = 0 := by omega
      rcases m with _ | m
      · simpa using hx
      · rw [List.getD_cons_succ]
        exact ih (n := 0) h1.2 (by rw [hv]; decide) (by omega)
    · rcases m with _ | m
      · omega
      · rw [List.getD_cons_succ]
        refine ih (n := n) h1.2 ?_ (by omega)
        rw [Int.pow_succ] at h
        omega
theorem limbs_replicate (n : Nat) : Limbs (List.replicate n 0) := fun x hx => by rw [List.eq_of_mem_replicate hx]; omega
theorem val_replicate (n : Nat) : val (List.replicate n 0) = 0 := by
  induction n with
  | zero => rfl
  | succ n ih => simp only [List.replicate_succ, val, ih]; rfl

theorem mul_l1 (b : List Int) (hb : Limbs b) (x : Int) (hx : 0 ≤ x ∧ x < 4294967296) (i : Nat) (X : List Int) (n p : Int) (N : Nat) (hN : N < 70368744177665) (hi : i + b.length < N) (T : Int) :
    ∀ (j m k : Nat) (O : List Int) (c : Int), m + j = b.length → O.length = N → Limbs O → 0 ≤ c → c < 4294967296 → O.getD (i + b.length) 0 = 0 →
    val O + c * 4294967296 ^ (i + m) + x * (val b - val (b.take m)) * 4294967296 ^ i = T →
    ∃ O', O'.length = N ∧ Limbs O' ∧ val O' = T ∧ n_Mul.l1 (k + j + 1) b O (i : Int) x c X n p b (b.length : Int) (m : Int) = n_Mul.l0 k b O' X n (wrap64 (p + 1)) := by
  intro j
  induction j with
  | zero =>
    intro m k O c hm hO lO hc0 hc1 hz hT
    obtain rfl : m = b.length := by omega
    refine ⟨O.set (i + b.length) c, by rw [List.length_set]; exact hO, lO.set _ hc0 hc1, ?_, ?_⟩
    · rw [val_set _ _ _ (by omega), hz]
      rw [List.take_length] at hT
      grind
    · rw [n_Mul.l1, if_neg (by omega), w64 (by omega) (by omega), if_pos (by omega), if_pos (by omega), show c % 4294967296 = c from by omega]
      rfl
  | succ j ih =>
    intro m k O c hm hO lO hc0 hc1 hz hT
    have hbm := hb.getD m
    have hom := lO.getD (i + m)
    obtain ⟨s, hs⟩ : ∃ s, s = x * b.getD m 0 + O.getD (i + m) 0 + c := ⟨_, rfl⟩
    have hxb : 0 ≤ x * b.getD m 0 := Int.mul_nonneg hx.1 hbm.1
    have hxb2 : x * b.getD m 0 ≤ 4294967295 * 4294967295 := Int.mul_le_mul (by omega) (by omega) hbm.1 (by decide)
    have e1 : IntKind.u64.wrap ((IntKind.u64.wrap ((IntKind.u64.wrap ((IntKind.u64.wrap x) * (IntKind.u64.wrap (rd b (m : Int))))) + (IntKind.u64.wrap (rd O ((i + m : Nat) : Int))))) + c) = s := by
      rw [rd_nat, rd_nat, wraps_u64 x (by omega) (by omega), wraps_u64 (b.getD m 0) (by omega) (by omega), wraps_u64 (O.getD (i + m) 0) (by omega) (by omega), wraps_u64 (x * b.getD m 0) (by omega) (by omega), wraps_u64 (x * b.getD m 0 + O.getD (i + m) 0) (by omega) (by omega), wraps_u64 (x * b.getD m 0 + O.getD (i + m) 0 + c) (by omega) (by omega), hs]
    have hs0 : 0 ≤ s ∧ s < 18446744073709551616 := by omega
    obtain ⟨O', h1, h2, h3, h4⟩ := ih (m + 1) k (O.set (i + m) (s % 4294967296)) (s / 4294967296) (by omega) (by rw [List.length_set]; exact hO) (lO.set _ (by omega) (by omega)) (by omega) (by omega) (by rw [getD_set_ne _ _ (by omega)]; exact hz) (by
      rw [val_set _ _ _ (by omega), val_take_succ b m (by omega), ← hT, show i + (m + 1) = (i + m) + 1 by omega, Int.pow_succ, Int.pow_add]
      have := Int.emod_add_mul_ediv s 4294967296
      grind)
    refine ⟨O', h1, h2, h3, ?_⟩
    rw [show k + (j + 1) + 1 = (k + j + 1) + 1 by omega, n_Mul.l1, if_pos (by omega), if_pos (by omega), if_pos (by omega), w64 (n := (i : Int) + (m : Int)) (by omega) (by omega), if_pos (by omega), if_pos (by omega), w64 (n := (m : Int) + 1) (by omega) (by omega), show ((i : Int) + (m : Int)) = ((i + m : Nat) : Int) by omega, e1, zTn, show ((m : Int) + 1) = ((m + 1 : Nat) : Int) by omega]
    exact h4
theorem mul_l0 (a b : List Int) (ha : Limbs a) (hb : Limbs b) (N : Nat) (hN : N < 70368744177665) (hab : a.length + b.length = N) :
    ∀ (j m k : Nat) (O : List Int), m + j = a.length → O.length = N → Limbs O → val O = val (a.take m) * val b →
    ∃ r, n_Mul.l0 (k + (b.length + 2) * j + 1) b O a (a.length : Int) (m : Int) = some r ∧ IsNum r (val a * val b) ∧ r.length ≤ N := by
  intro j
  induction j with
  | zero =>
    intro m k O hm hO lO hv
    refine ⟨cut O, ?_, ?_, by have := cut_length O; omega⟩
    · rw [n_Mul.l0, if_neg (by omega)]
      rfl
    · have := IsNum.cut lO
      rw [hv, List.take_of_length_le (by omega)] at this
      exact this
  | succ j ih =>
    intro m k O hm hO lO hv
    have ham := ha.getD m
    have hlt : val O < 4294967296 ^ (m + b.length) := by
      rw [hv, Int.pow_add]
      have h1 := val_lt (ha.take m)
      have h2 := val_lt hb
      have h3 := val_nonneg (ha.take m)
      have h4 := val_nonneg hb
      rw [zLt, Nat.min_eq_left (by omega)] at h1
      exact Int.lt_of_le_of_lt (Int.mul_le_mul_of_nonneg_right (Int.le_of_lt h1) h4) (Int.mul_lt_mul_of_pos_left h2 (Int.pow_pos (by decide)))
    obtain ⟨O', h1, h2, h3, h4⟩ := mul_l1 b hb (a.getD m 0) ham m a (a.length : Int) (m : Int) N hN (by omega) (val (a.take (m + 1)) * val b) b.length 0 (k + (b.length + 2) * j + 1) O 0 (by omega) hO lO (by omega) (by omega) (getD_of_lt lO hlt (Nat.le_refl _)) (by
      rw [hv, val_take_succ a m (by omega)]
      simp only [List.take_zero, val]
      grind)
    obtain ⟨r, h5, h6, h7⟩ := ih (m + 1) k O' (by omega) h1 h2 h3
    refine ⟨r, ?_, h6, h7⟩
    rw [show k + (b.length + 2) * (j + 1) + 1 = ((k + (b.length + 2) * j + 1) + b.length + 1) + 1 by rw [Nat.mul_add]; omega, n_Mul.l0, if_pos (by omega), if_pos (by omega), if_pos (by omega), rd_nat]
    rw [show ((0 : Nat) : Int) = 0 from rfl] at h4
    rw [h4, w64 (by omega) (by omega)]
    exact h5
theorem mul_f (a b : List Int) (ha : Limbs a) (hb : Limbs b) (hN : a.length + b.length < 70368744177665) (k : Nat) (hk : (b.length + 2) * a.length + 1 ≤ k) :
    ∃ r, n_Mul.f k a b = some r ∧ IsNum r (val a * val b) ∧ r.length ≤ a.length + b.length := by
  have ca := cut_length a
  have cb := cut_length b
  have h0 : ((cut b).length + 2) * (cut a).length + 1 ≤ k := Nat.le_trans (Nat.succ_le_succ (Nat.mul_le_mul (by omega) ca)) hk
  obtain ⟨d, rfl⟩ : ∃ d, k = d + ((cut b).length + 2) * (cut a).length + 1 := ⟨k - (((cut b).length + 2) * (cut a).length + 1), by omega⟩
  obtain ⟨r, h1, h2, h3⟩ := mul_l0 (cut a) (cut b) (cut_limbs ha) (cut_limbs hb) ((cut a).length + (cut b).length) (by omega) rfl (cut a).length 0 d (List.replicate ((cut a).length + (cut b).length) 0) (by omega) (by simp) (limbs_replicate _) (by rw [val_replicate]; simp [val])
  refine ⟨r, ?_, by rw [cut_val, cut_val] at h2; exact h2, by omega⟩
  unfold n_Mul.f
  rw [cut_f, zOb, cut_f, zOb, w64 (by omega) (by omega), if_pos (by omega), show ((cut a).length : Int) + ((cut b).length : Int) = (((cut a).length + (cut b).length : Nat) : Int) by omega, zTn, if_pos (by omega)]
  exact h1
def Bits (l : List Int) : Prop := ∀ x ∈ l, x = 0 ∨ x = 1
theorem Bits.tail {x : Int} {l : List Int} (h : Bits (x :: l)) : (x = 0 ∨ x = 1) ∧ Bits l := ⟨h x (List.mem_cons_self ..), fun y hy => h y (List.mem_cons_of_mem _ hy)⟩
theorem Bits.nil : Bits [] := fun _ h => by cases h
theorem Bits.append {a b : List Int} (ha : Bits a) (hb : Bits b) : Bits (a ++ b) := fun x hx => by
  rcases List.mem_append.1 hx with h | h
  · exact ha x h
  · exact hb x h
theorem Bits.one {x : Int} (h : x = 0 ∨ x = 1) : Bits [x] := fun y hy => by rw [List.mem_singleton] at hy; rw [hy]; exact h
theorem Bits.take {l : List Int} (h : Bits l) (n : Nat) : Bits (l.take n) := fun x hx => h x (List.mem_of_mem_take hx)
theorem Bits.getD {l : List Int} (h : Bits l) (n : Nat) : l.getD n 0 = 0 ∨ l.getD n 0 = 1 := by
  by_cases hn : n < l.length
  · rw [getD_lt _ hn]; exact h _ (List.getElem_mem hn)
  · rw [getD_ge _ (by omega)]; exact .inl rfl



def r1_Mul.l0 : Nat → List Int → List Int → List Int → List Int → Int → Option (List Int)
  | 0, _, _, _, _, _ => none
  | k + 1, x5, x6, x7, x8, x9 => if x9 < (x6.length : Int) then (if 0 ≤ x9 then (if (rd x6 x9) = 1 then ((some (([] : List Int) : List Int)).bind fun y940 => (if y940.length + x8.length < 140737488355328 then ((some (y940 ++ x8 : List Int)).bind fun y943 => (if y943.length + x5.length < 140737488355328 then ((r1_sum.f k x7 (y943 ++ x5)).bind fun t949 => (if x8.length < 140737488355328 then (r1_Mul.l0 k x5 x6 t949 (x8 ++ [0]) (wrap64 (x9 + 1))) else (none))) else (none))) else (none))) else (if x8.length < 140737488355328 then (r1_Mul.l0 k x5 x6 x7 (x8 ++ [0]) (wrap64 (x9 + 1))) else (none))) else (none)) else ((r1_limbs.f k x7).bind fun t958 => (some t958))
def r1_Mul.f (k : Nat) (l0 : List Int) (l1 : List Int) : Option (List Int) := (r1_Norm.f k l0).bind fun t927 => ((r1_bits.f k t927).bind fun t930 => ((r1_Norm.f k l1).bind fun t933 => ((r1_bits.f k t933).bind fun t936 => (r1_Mul.l0 k t930 t936 ([] : List Int) ([] : List Int) 0))))
theorem r1_Mul.calls (k : Nat) (A0 : Option Addr) (c0 : Nat) (l0 : List Int) (A1 : Option Addr) (c1 : Nat) (l1 : List Int) (r : List Int) (w : World) (hr0 : Kd.C (Kd.int .u32) w A0 l0.length l0) (hc0 : l0.length ≤ c0) (hr1 : Kd.C (Kd.int .u32) w A1 l1.length l1) (hc1 : l1.length ≤ c1) (h : r1_Mul.f k l0 l1 = some r) :
    Calls Tryd.prog 46 #[.slice A0 l0.length c0, .slice A1 l1.length c1] w fun e w' => ∃ v0_ : Value, e = .returned (v0_) ∧ Kd.R (Kd.int .u32) 58 w' w.heap.size (fun _ => True) v0_ r ∧ Below w.heap.size w w' := by
  have HR0 := zMk hr0
  have HC0 := zMk hc0
  clear hr0 hc0
  have HR1 := zMk hr1
  have HC1 := zMk hc1
  clear hr1 hc1
  have HB := zMk (Below.refl w.heap.size w)
  have H : ((r1_Norm.f k l0).bind fun t927 => ((r1_bits.f k t927).bind fun t930 => ((r1_Norm.f k l1).bind fun t933 => ((r1_bits.f k t933).bind fun t936 => (r1_Mul.l0 k t930 t936 ([] : List Int) ([] : List Int) 0))))) = some r := h
  clear h
  replace H := bnd H
  obtain ⟨t927, A30, H⟩ := H
  have A3 := zMk A30
  clear A30
  replace H := bnd H
  obtain ⟨t930, A40, H⟩ := H
  have A4 := zMk A40
  clear A40
  replace H := bnd H
  obtain ⟨t933, A50, H⟩ := H
  have A5 := zMk A50
  clear A50
  replace H := bnd H
  obtain ⟨t936, A60, H⟩ := H
  have A6 := zMk A60
  clear A60
  have H' := zMk H
  clear H
  go_enter Tryd.func46, Tryd.ntmps46
  go_wp2_with (first | ((with_reducible refine gate_callee (f := 63) rfl ?_); refine goesL_ (some 11) rfl rfl Tryd.func63 (by kernel_rfl) rfl #[.slice A0 l0.length c0] rfl (by (try simp only [zMa, zMc, zMn]); first |  done|  rfl|  (simp only [zLd, zLt]; rfl)) ?_; (with_reducible refine (r1_Norm.calls k _ _ l0 t927 _ ?side1 ?side2 A3.out).mono ?_); (case side1 => repeat (first |  exact HR0.out|  (with_reducible refine zCa ?_ _)|(with_reducible refine zCn ?_ _)|(with_reducible refine zCd ?_))); (case side2 => exact HC0.out); rintro e w7 ⟨v928, rfl, ho0, hb⟩; refine ⟨_, rfl, ?_⟩; have HO929 := zMk (zRl ho0 (zBs (by exact uT HB.out))); replace HB := zMk (zBt (by exact uT HB.out) hb); obtain ⟨Ao8, co8, eo8⟩ := zRs HO929.out; subst eo8)|((with_reducible refine gate_callee (f := 64) rfl ?_); refine goesL_ (some 12) rfl rfl Tryd.func64 (by kernel_rfl) rfl #[.slice Ao8 t927.length co8] rfl (by (try simp only [zMa, zMc, zMn]); first |  done|  rfl|  (simp only [zLd, zLt]; rfl)) ?_; (with_reducible refine (r1_bits.calls k _ _ t927 t930 _ ?side1 ?side2 A4.out).mono ?_); (case side1 => exact uC (zRr HO929.out).2.2); (case side2 => exact (zRr HO929.out).2.1); rintro e w9 ⟨v931, rfl, ho0, hb⟩; refine ⟨_, rfl, ?_⟩; replace HO929 := zMk (zRb (by exact uR HO929.out) hb); have HO932 := zMk (zRl ho0 (zBs (by exact uT HB.out))); replace HB := zMk (zBt (by exact uT HB.out) hb))|((with_reducible refine gate_callee (f := 63) rfl ?_); refine goesL_ (some 14) rfl rfl Tryd.func63 (by kernel_rfl) rfl #[.slice A1 l1.length c1] rfl (by (try simp only [zMa, zMc, zMn]); first |  done|  rfl|  (simp only [zLd, zLt]; rfl)) ?_; (with_reducible refine (r1_Norm.calls k _ _ l1 t933 _ ?side1 ?side2 A5.out).mono ?_); (case side1 => repeat (first |  exact (Kd.C_below HR1.out HB.out)|(with_reducible refine zCa ?_ _)|(with_reducible refine zCn ?_ _)|(with_reducible refine zCd ?_))); (case side2 => exact HC1.out); rintro e w10 ⟨v934, rfl, ho0, hb⟩; refine ⟨_, rfl, ?_⟩; replace HO932 := zMk (zRb (by exact uR HO932.out) hb); have HO935 := zMk (zRl (zRw ho0 (zRt (by exact uR HO929.out))) (zBs (by exact uT HB.out))); replace HO929 := zMk (zRe (by exact uR HO929.out) (zRz ho0) hb); replace HB := zMk (zBt (by exact uT HB.out) hb); obtain ⟨Ao11, co11, eo11⟩ := zRs HO935.out; subst eo11)|((with_reducible refine gate_callee (f := 64) rfl ?_); refine goesL_ (some 15) rfl rfl Tryd.func64 (by kernel_rfl) rfl #[.slice Ao11 t933.length co11] rfl (by (try simp only [zMa, zMc, zMn]); first |  done|  rfl|  (simp only [zLd, zLt]; rfl)) ?_; (with_reducible refine (r1_bits.calls k _ _ t933 t936 _ ?side1 ?side2 A6.out).mono ?_); (case side1 => exact uC (zRr HO935.out).2.2); (case side2 => exact (zRr HO935.out).2.1); rintro e w12 ⟨v937, rfl, ho0, hb⟩; refine ⟨_, rfl, ?_⟩; replace HO929 := zMk (zRb (by exact uR HO929.out) hb); replace HO935 := zMk (zRb (by exact uR HO935.out) hb); have HO938 := zMk (zRl (zRw ho0 (zRt (by exact uR HO932.out))) (zBs (by exact uT HB.out))); replace HO932 := zMk (zRe (by exact uR HO932.out) (zRz ho0) hb); replace HB := zMk (zBt (by exact uT HB.out) hb)))
  go_loopg [7, 8, 9] k (fun kq v7 v8 v9 w' => ∃ (x7_1 : List Int) (x8_1 : List Int) (x9_1 : Int), v9 = .int .i64 x9_1 ∧ Aside0 (r1_Mul.l0 kq t930 t936 x7_1 x8_1 x9_1 = some r) ∧ Aside0 (kq ≤ k) ∧ Aside0 (Kd.R (Kd.int .u8) 5 w' w.heap.size (fun k_ => some k_ ≠ (v937 : Value).ownBlock ∧ some k_ ≠ (v7 : Value).ownBlock ∧ some k_ ≠ (v8 : Value).ownBlock) v931 t930) ∧ Aside0 (Kd.R (Kd.int .u8) 5 w' w.heap.size (fun k_ => some k_ ≠ (v931 : Value).ownBlock ∧ some k_ ≠ (v7 : Value).ownBlock ∧ some k_ ≠ (v8 : Value).ownBlock) v937 t936) ∧ Aside0 (Kd.R (Kd.int .u8) 5 w' w.heap.size (fun k_ => some k_ ≠ (v931 : Value).ownBlock ∧ some k_ ≠ (v937 : Value).ownBlock ∧ some k_ ≠ (v8 : Value).ownBlock) v7 x7_1) ∧ Aside0 (Kd.R (Kd.int .u8) 5 w' w.heap.size (fun k_ => some k_ ≠ (v931 : Value).ownBlock ∧ some k_ ≠ (v937 : Value).ownBlock ∧ some k_ ≠ (v7 : Value).ownBlock) v8 x8_1) ∧ Aside0 (Below w.heap.size w w'))
  case atStart => exact ⟨(([] : List Int)), (([] : List Int)), (0), (by first | rfl | (simp; done) | (simp [*]; done)), H', ⟨Nat.le_refl _⟩, ⟨by (with_reducible repeat (first | apply zRa | apply zRn | apply zRd)); exact zRm HO932.out (fun _ hk => ⟨hk.2, ⟨(by simp [Value.ownBlock]), (by simp [Value.ownBlock])⟩⟩)⟩, ⟨by (with_reducible repeat (first | apply zRa | apply zRn | apply zRd)); exact zRm HO938.out (fun _ hk => ⟨hk.2, ⟨(by simp [Value.ownBlock]), (by simp [Value.ownBlock])⟩⟩)⟩, ⟨by first | exact Kd.R_nil _ _ _ _ _ | exact Kd.N_nil _ _ _ _ _ | exact Kd.V_nil _ _ _ _ _ | exact Kd.Q_nil _ _ _ _ _ | exact Kd.S_nil _ _ _ _ _⟩, ⟨by first | exact Kd.R_nil _ _ _ _ _ | exact Kd.N_nil _ _ _ _ _ | exact Kd.V_nil _ _ _ _ _ | exact Kd.Q_nil _ _ _ _ _ | exact Kd.S_nil _ _ _ _ _⟩, ⟨by exact uT HB.out⟩⟩
  clear H'
  obtain ⟨x7_1, x8_1, x9_1, rfl, HA, HK1, HO_5, HO_6, HO_7, HO_8, HB⟩ := hrel
  rcases gk with _ | k1
  · exact absurd HA.out (by simp [r1_Mul.l0])
  have H := HA.out
  clear HA
  simp only [r1_Mul.l0] at H
  by_cases c13 : x9_1 < (t936.length : Int)
  · rw [if_pos c13] at H
    have c13b0 : decide (x9_1 < (t936.length : Int)) = true := decide_eq_true c13
    clear c13
    by_cases c14 : 0 ≤ x9_1
    rotate_left
    · rw [if_neg c14] at H; exact absurd H (by simp)
    rw [if_pos c14] at H
    have c14b0 : decide (0 ≤ x9_1) = true := decide_eq_true c14
    clear c14
    by_cases c15 : (rd t936 x9_1) = 1
    · rw [if_pos c15] at H
      have c15b0 : ((rd t936 x9_1) == 1) = true := beq_iff_eq.mpr c15
      have c15b1 : ((rd t936 x9_1) != 1) = false := bne_eq_false_iff_eq.mpr c15
      clear c15
      obtain ⟨y940, hy940⟩ : ∃ y_ : List Int, y_ = (([] : List Int)) := ⟨_, rfl⟩
      replace H : (if y940.length + x8_1.length < 140737488355328 then ((some (y940 ++ x8_1 : List Int)).bind fun y943 => (if y943.length + t930.length < 140737488355328 then ((r1_sum.f k1 x7_1 (y943 ++ t930)).bind fun t949 => (if x8_1.length < 140737488355328 then (r1_Mul.l0 k1 t930 t936 t949 (x8_1 ++ [0]) (wrap64 (x9_1 + 1))) else (none))) else (none))) else (none)) = some r := by first | (rw [hy940]; with_reducible exact H) | (have H2_ := bsm H; first | (rw [hy940]; with_reducible exact H2_) | with_reducible exact H2_) | with_reducible exact H | (rw [hy940]; exact H) | exact H
      have Ny940 := zMk hy940
      clear hy940
      by_cases c16 : y940.length + x8_1.length < 140737488355328
      rotate_left
      · rw [if_neg c16] at H; exact absurd H (by simp)
      rw [if_pos c16] at H
      have LMc16 := zMk c16
      clear c16
      obtain ⟨y943, hy943⟩ : ∃ y_ : List Int, y_ = (y940 ++ x8_1) := ⟨_, rfl⟩
      replace H : (if y943.length + t930.length < 140737488355328 then ((r1_sum.f k1 x7_1 (y943 ++ t930)).bind fun t949 => (if x8_1.length < 140737488355328 then (r1_Mul.l0 k1 t930 t936 t949 (x8_1 ++ [0]) (wrap64 (x9_1 + 1))) else (none))) else (none)) = some r := by first | (rw [hy943]; with_reducible exact H) | (have H2_ := bsm H; first | (rw [hy943]; with_reducible exact H2_) | with_reducible exact H2_) | with_reducible exact H | (rw [hy943]; exact H) | exact H
      have Ny943 := zMk hy943
      clear hy943
      by_cases c17 : y943.length + t930.length < 140737488355328
      rotate_left
      · rw [if_neg c17] at H; exact absurd H (by simp)
      rw [if_pos c17] at H
      have LMc17 := zMk c17
      clear c17
      obtain ⟨y946, hy946⟩ : ∃ y_ : List Int, y_ = (y943 ++ t930) := ⟨_, rfl⟩
      replace H : ((r1_sum.f k1 x7_1 y946).bind fun t949 => (if x8_1.length < 140737488355328 then (r1_Mul.l0 k1 t930 t936 t949 (x8_1 ++ [0]) (wrap64 (x9_1 + 1))) else (none))) = some r := by first | (rw [hy946]; with_reducible exact H) | (have H2_ := bsm H; first | (rw [hy946]; with_reducible exact H2_) | with_reducible exact H2_) | with_reducible exact H | (rw [hy946]; exact H) | exact H
      have Ny946 := zMk hy946
      clear hy946
      replace H := bnd H
      obtain ⟨t949, A180, H⟩ := H
      have A18 := zMk A180
      clear A180
      by_cases c19 : x8_1.length < 140737488355328
      rotate_left
      · rw [if_neg c19] at H; exact absurd H (by simp)
      rw [if_pos c19] at H
      have LMc19 := zMk c19
      clear c19
      obtain ⟨y952, hy952⟩ : ∃ y_ : List Int, y_ = (x8_1 ++ [0]) := ⟨_, rfl⟩
      replace H : (r1_Mul.l0 k1 t930 t936 t949 y952 (wrap64 (x9_1 + 1))) = some r := by first | (rw [hy952]; with_reducible exact H) | (have H2_ := bsm H; first | (rw [hy952]; with_reducible exact H2_) | with_reducible exact H2_) | with_reducible exact H | (rw [hy952]; exact H) | exact H
      have Ny952 := zMk hy952
      clear hy952
      have H' := zMk H
      clear H
      obtain ⟨Ao20, co20, eo20⟩ := zRs HO_6.out
      subst eo20
      have p939 : 0 ≤ (x9_1 : Int) := of_decide_eq_true (by assumption)
      have q939 : x9_1 < (t936.length : Int) := of_decide_eq_true (by assumption)
      obtain ⟨ad939, e939, hx939_0⟩ := zAi (zRr HO_6.out).2.2 x9_1 p939 q939
      cases e939
      replace p939 := eq_true p939
      replace q939 := eq_true q939
      go_wp2_with (first | ((with_reducible refine gate_dst (N := 28) rfl ?_); refine Kd.R_lit (Kd.int .u8) _ 5 ?hg (N := 28) ?hd (xs := ([] : List Int)) (inner := []) (ok := fun _ => True) (okp := fun _ => True) ?hr ?hp (fun _ hk => hk) trivial (Below.refl _ _) (Nat.le_refl _) (by simp) ?_; (case hd => rfl); (case hg => rfl); (case hr => first | (go_simp; done)|(go_simp; rfl)|(go_simp; rw [show ∀ x : Int, IntKind.u32.wrap (IntKind.u8.wrap x) = x % 256 from fun x => (by show (x % 256) % 4294967296 = x % 256; omega)])); (case hp => exact (Reps.none _ _)); intro v941 w21 ho22 hb hg_ hnew_; clear hg_ hnew_; (first |  rw [← Ny940.out] at ho22|  (simp only [Int.reduceToNat] at ho22; rw [← Ny940.out] at ho22)); have HO942 := zMk (zRl (zRw (zRw (zRw (zRw ho22 (zRt (by exact uR HO_5.out))) (zRt (by exact uR HO_6.out))) (zRt (by exact uR HO_7.out))) (zRt (by exact uR HO_8.out))) (zBs (by exact uT HB.out))); replace HO_5 := zMk (zRe (by exact uR HO_5.out) (zRz ho22) hb); replace HO_6 := zMk (zRe (by exact uR HO_6.out) (zRz ho22) hb); replace HO_7 := zMk (zRe (by exact uR HO_7.out) (zRz ho22) hb); replace HO_8 := zMk (zRe (by exact uR HO_8.out) (zRz ho22) hb); replace HB := zMk (zBt (by exact uT HB.out) hb); clear hb ho22; obtain ⟨Ao24, co24, eo24⟩ := zRs HO_8.out; subst eo24)|((with_reducible refine gate_builtin (b := .append) (xs := #[.tmp 28, .tmp 29]) rfl ?_); at_builtin; refine Kd.R_append_rows (Kd.int .u8) (w0 := w) w.heap.size rfl (.tmp 28) (.tmp 29) 67 5 (.int .u8 0) 1 rfl Tryd.underlying67 info5 rfl (by decide) (by omega) v941 y940 x8_1 _ _ _ (fun k_ => some k_ ≠ (v931 : Value).ownBlock ∧ some k_ ≠ (.slice (some ad939) t936.length co20 : Value).ownBlock ∧ some k_ ≠ (u7 : Value).ownBlock ∧ some k_ ≠ (.slice Ao24 x8_1.length co24 : Value).ownBlock) (fun _ => False) rfl rfl ?aO ?aR (fun _ _ h => h) (fun _ h => h.elim) ?aF ?aB ?aS ?aL ?_; (case aR => exact uC (zRr HO_8.out).2.2); (case aB => exact (by exact uT HB.out)); (case aF => exact (fun k_ hk => ⟨Kd.fresh' (zRt (by exact uR HO_5.out)) k_ hk, Kd.fresh' (zRt (by exact uR HO_6.out)) k_ hk, Kd.fresh' (zRt (by exact uR HO_7.out)) k_ hk, Kd.fresh' (zRt (by exact uR HO_8.out)) k_ hk⟩)); (case aO => exact (by (with_reducible repeat (first |  apply zRa|  apply zRn|  apply zRd)); exact zRm HO942.out (fun _ hk => ⟨hk.1.1.1.2, ⟨hk.1.1.2, ⟨hk.1.2, hk.2⟩⟩⟩))); (case aS => exact (zBs (by exact uT HB.out))); (case aL => have := LMc16.out; omega); intro v944 w23 ho hb hg hat; rw [← Ny943.out] at ho; replace HO_5 := zMk (Kd.R_after (ok := (fun k_ => some k_ ≠ (.slice (some ad939) t936.length co20 : Value).ownBlock ∧ some k_ ≠ (u7 : Value).ownBlock ∧ some k_ ≠ (.slice Ao24 x8_1.length co24 : Value).ownBlock)) (by exact uR HO_5.out) hg hat); replace HO_6 := zMk (Kd.R_after (ok := (fun k_ => some k_ ≠ (v931 : Value).ownBlock ∧ some k_ ≠ (u7 : Value).ownBlock ∧ some k_ ≠ (.slice Ao24 x8_1.length co24 : Value).ownBlock)) (by exact uR HO_6.out) hg hat); replace HO_7 := zMk (Kd.R_after (ok := (fun k_ => some k_ ≠ (v931 : Value).ownBlock ∧ some k_ ≠ (.slice (some ad939) t936.length co20 : Value).ownBlock ∧ some k_ ≠ (.slice Ao24 x8_1.length co24 : Value).ownBlock)) (by exact uR HO_7.out) hg hat); replace HO_8 := zMk (Kd.R_after (ok := (fun k_ => some k_ ≠ (v931 : Value).ownBlock ∧ some k_ ≠ (.slice (some ad939) t936.length co20 : Value).ownBlock ∧ some k_ ≠ (u7 : Value).ownBlock)) (by exact uR HO_8.out) hg hat); replace HB := zMk (hb); have HO945 := zMk (ho); clear HO942 ho hb hg hat; obtain ⟨Ao26, co26, eo26⟩ := zRs HO_5.out; subst eo26)|((with_reducible refine gate_builtin (b := .append) (xs := #[.tmp 30, .tmp 31]) rfl ?_); at_builtin; refine Kd.R_append_rows (Kd.int .u8) (w0 := w) w.heap.size rfl (.tmp 30) (.tmp 31) 67 5 (.int .u8 0) 1 rfl Tryd.underlying67 info5 rfl (by decide) (by omega) v944 y943 t930 _ _ _ (fun k_ => some k_ ≠ (.slice Ao26 t930.length co26 : Value).ownBlock ∧ some k_ ≠ (.slice (some ad939) t936.length co20 : Value).ownBlock ∧ some k_ ≠ (u7 : Value).ownBlock ∧ some k_ ≠ (.slice Ao24 x8_1.length co24 : Value).ownBlock) (fun _ => False) rfl rfl ?aO ?aR (fun _ _ h => h) (fun _ h => h.elim) ?aF ?aB ?aS ?aL ?_; (case aR => exact uC (zRr HO_5.out).2.2); (case aB => exact (by exact uT HB.out)); (case aF => exact (fun k_ hk => ⟨Kd.fresh' (zRt (by exact uR HO_5.out)) k_ hk, Kd.fresh' (zRt (by exact uR HO_6.out)) k_ hk, Kd.fresh' (zRt (by exact uR HO_7.out)) k_ hk, Kd.fresh' (zRt (by exact uR HO_8.out)) k_ hk⟩)); (case aO => exact (by exact uR HO945.out)); (case aS => exact (zBs (by exact uT HB.out))); (case aL => have := LMc17.out; omega); intro v947 w25 ho hb hg hat; rw [← Ny946.out] at ho; replace HO_5 := zMk (Kd.R_after (ok := (fun k_ => some k_ ≠ (.slice (some ad939) t936.length co20 : Value).ownBlock ∧ some k_ ≠ (u7 : Value).ownBlock ∧ some k_ ≠ (.slice Ao24 x8_1.length co24 : Value).ownBlock)) (by exact uR HO_5.out) hg hat); replace HO_6 := zMk (Kd.R_after (ok := (fun k_ => some k_ ≠ (.slice Ao26 t930.length co26 : Value).ownBlock ∧ some k_ ≠ (u7 : Value).ownBlock ∧ some k_ ≠ (.slice Ao24 x8_1.length co24 : Value).ownBlock)) (by exact uR HO_6.out) hg hat); replace HO_7 := zMk (Kd.R_after (ok := (fun k_ => some k_ ≠ (.slice Ao26 t930.length co26 : Value).ownBlock ∧ some k_ ≠ (.slice (some ad939) t936.length co20 : Value).ownBlock ∧ some k_ ≠ (.slice Ao24 x8_1.length co24 : Value).ownBlock)) (by exact uR HO_7.out) hg hat); replace HO_8 := zMk (Kd.R_after (ok := (fun k_ => some k_ ≠ (.slice Ao26 t930.length co26 : Value).ownBlock ∧ some k_ ≠ (.slice (some ad939) t936.length co20 : Value).ownBlock ∧ some k_ ≠ (u7 : Value).ownBlock)) (by exact uR HO_8.out) hg hat); replace HB := zMk (hb); have HO948 := zMk (ho); clear HO945 ho hb hg hat; obtain ⟨Ao27, co27, eo27⟩ := zRs HO_7.out; subst eo27; obtain ⟨Ao28, co28, eo28⟩ := zRs HO948.out; subst eo28)|((with_reducible refine gate_callee (f := 67) rfl ?_); refine goesL_ (some 33) rfl rfl Tryd.func67 (by kernel_rfl) rfl #[.slice Ao27 x7_1.length co27, .slice Ao28 y946.length co28] rfl (by (try simp only [zMa, zMc, zMn]); first |  done|  rfl|  (simp only [zLd, zLt]; rfl)) ?_; (with_reducible refine (r1_sum.calls k1 _ _ x7_1 _ _ y946 t949 _ ?side1 ?side2 ?side3 ?side4 A18.out).mono ?_); (case side1 => exact uC (zRr HO_7.out).2.2); (case side2 => exact (zRr HO_7.out).2.1); (case side3 => exact uC (zRr HO948.out).2.2); (case side4 => exact (zRr HO948.out).2.1); rintro e w29 ⟨v950, rfl, ho0, hb⟩; refine ⟨_, rfl, ?_⟩; have HO951 := zMk (zRl (zRw (zRw (zRw (zRw (zRw ho0 (zRt (by exact uR HO_5.out))) (zRt (by exact uR HO_6.out))) (zRt (by exact uR HO_7.out))) (zRt (by exact uR HO_8.out))) (zRt (by exact uR HO948.out))) (zBs (by exact uT HB.out))); replace HO_5 := zMk (zRe (by exact uR HO_5.out) (zRz ho0) hb); replace HO_6 := zMk (zRe (by exact uR HO_6.out) (zRz ho0) hb); replace HO_7 := zMk (zRe (by exact uR HO_7.out) (zRz ho0) hb); replace HO_8 := zMk (zRe (by exact uR HO_8.out) (zRz ho0) hb); replace HO948 := zMk (zRe (by exact uR HO948.out) (zRz ho0) hb); replace HB := zMk (zBt (by exact uT HB.out) hb))|((with_reducible refine gate_builtin (b := .append) (xs := #[.tmp 34, .tmp 35]) rfl ?_); at_builtin; refine Kd.R_append (Kd.int .u8) (w0 := w) w.heap.size rfl (.tmp 34) (.tmp 35) 67 5 (.int .u8 0) 1 rfl Tryd.underlying67 info5 rfl (by decide) (by omega) (.slice Ao24 x8_1.length co24) x8_1 0 [.int .u8 0] (fun k_ => some k_ ≠ (.slice Ao26 t930.length co26 : Value).ownBlock ∧ some k_ ≠ (.slice (some ad939) t936.length co20 : Value).ownBlock ∧ some k_ ≠ (.slice Ao27 x7_1.length co27 : Value).ownBlock ∧ some k_ ≠ (.slice Ao28 y946.length co28 : Value).ownBlock ∧ some k_ ≠ (v950 : Value).ownBlock) (fun _ => False) rfl rfl ?aP (fun _ hk => hk.elim) ?aF ?aO ?aB ?aS ?aL ?_; (case aP => exact rfl); (case aB => exact (by exact uT HB.out)); (case aF => exact (fun k_ hk => ⟨Kd.fresh' (zRt (by exact uR HO_5.out)) k_ hk, Kd.fresh' (zRt (by exact uR HO_6.out)) k_ hk, Kd.fresh' (zRt (by exact uR HO_7.out)) k_ hk, Kd.fresh' (zRt (by exact uR HO948.out)) k_ hk, Kd.fresh' (zRt (by exact uR HO951.out)) k_ hk⟩)); (case aO => exact (by (with_reducible repeat (first |  apply zRa|  apply zRn|  apply zRd)); exact zRm HO_8.out (fun _ hk => ⟨hk.1.1.1, ⟨hk.1.1.2.1, ⟨hk.1.1.2.2, ⟨hk.1.2, hk.2⟩⟩⟩⟩))); (case aS => exact (zBs (by exact uT HB.out))); (case aL => have := LMc19.out; omega); intro v953 w30 ho hb hg hat; rw [← Ny952.out] at ho; replace HO_5 := zMk (Kd.R_after (ok := (fun k_ => some k_ ≠ (.slice (some ad939) t936.length co20 : Value).ownBlock ∧ some k_ ≠ (.slice Ao27 x7_1.length co27 : Value).ownBlock ∧ some k_ ≠ (.slice Ao28 y946.length co28 : Value).ownBlock ∧ some k_ ≠ (v950 : Value).ownBlock)) (by (with_reducible repeat (first |  apply zRa|  apply zRn|  apply zRd)); exact zRm HO_5.out (fun _ hk => ⟨⟨hk.1.1.1, ⟨hk.1.1.2.1, ⟨hk.1.2, hk.2⟩⟩⟩, hk.1.1.2.2⟩)) hg hat); replace HO_6 := zMk (Kd.R_after (ok := (fun k_ => some k_ ≠ (.slice Ao26 t930.length co26 : Value).ownBlock ∧ some k_ ≠ (.slice Ao27 x7_1.length co27 : Value).ownBlock ∧ some k_ ≠ (.slice Ao28 y946.length co28 : Value).ownBlock ∧ some k_ ≠ (v950 : Value).ownBlock)) (by (with_reducible repeat (first |  apply zRa|  apply zRn|  apply zRd)); exact zRm HO_6.out (fun _ hk => ⟨⟨hk.1.1.1, ⟨hk.1.1.2.1, ⟨hk.1.2, hk.2⟩⟩⟩, hk.1.1.2.2⟩)) hg hat); replace HO_7 := zMk (Kd.R_after (ok := (fun k_ => some k_ ≠ (.slice Ao26 t930.length co26 : Value).ownBlock ∧ some k_ ≠ (.slice (some ad939) t936.length co20 : Value).ownBlock ∧ some k_ ≠ (.slice Ao28 y946.length co28 : Value).ownBlock ∧ some k_ ≠ (v950 : Value).ownBlock)) (by (with_reducible repeat (first |  apply zRa|  apply zRn|  apply zRd)); exact zRm HO_7.out (fun _ hk => ⟨⟨hk.1.1.1, ⟨hk.1.1.2.1, ⟨hk.1.2, hk.2⟩⟩⟩, hk.1.1.2.2⟩)) hg hat); replace HO948 := zMk (Kd.R_after (ok := (fun k_ => some k_ ≠ (.slice Ao26 t930.length co26 : Value).ownBlock ∧ some k_ ≠ (.slice (some ad939) t936.length co20 : Value).ownBlock ∧ some k_ ≠ (.slice Ao27 x7_1.length co27 : Value).ownBlock ∧ some k_ ≠ (v950 : Value).ownBlock)) (by (with_reducible repeat (first |  apply zRa|  apply zRn|  apply zRd)); exact zRm HO948.out (fun _ hk => ⟨⟨hk.1.1, ⟨hk.1.2.1, ⟨hk.1.2.2.1, hk.2⟩⟩⟩, hk.1.2.2.2⟩)) hg hat); replace HO951 := zMk (Kd.R_after (ok := (fun k_ => some k_ ≠ (.slice Ao26 t930.length co26 : Value).ownBlock ∧ some k_ ≠ (.slice (some ad939) t936.length co20 : Value).ownBlock ∧ some k_ ≠ (.slice Ao27 x7_1.length co27 : Value).ownBlock ∧ some k_ ≠ (.slice Ao28 y946.length co28 : Value).ownBlock)) (by (with_reducible repeat (first |  apply zRa|  apply zRn|  apply zRd)); exact zRm HO951.out (fun _ hk => ⟨⟨hk.1.1.1.1.2, ⟨hk.1.1.1.2, ⟨hk.1.1.2, hk.2⟩⟩⟩, hk.1.2⟩)) hg hat); replace HB := zMk (hb); have HO954 := zMk (ho); clear HO_8 ho hb hg hat))
      go_roundg k1
      case measure => have := HK1.out; omega
      case rel => exact ⟨(t949), (y952), (wrap64 (x9_1 + 1)), (by first | rfl | (simp; done) | (simp [*]; done)), H', ⟨by have := HK1.out; omega⟩, ⟨by (with_reducible repeat (first | apply zRa | apply zRn | apply zRd)); exact zRm HO_5.out (fun _ hk => ⟨hk.1.1, ⟨hk.1.2.2.2, hk.2⟩⟩)⟩, ⟨by (with_reducible repeat (first | apply zRa | apply zRn | apply zRd)); exact zRm HO_6.out (fun _ hk => ⟨hk.1.1, ⟨hk.1.2.2.2, hk.2⟩⟩)⟩, ⟨by (with_reducible repeat (first | apply zRa | apply zRn | apply zRd)); exact zRm HO951.out (fun _ hk => ⟨hk.1.1, ⟨hk.1.2.1, hk.2⟩⟩)⟩, ⟨by (with_reducible repeat (first | apply zRa | apply zRn | apply zRd)); exact zRm HO954.out (fun _ hk => ⟨hk.1, ⟨hk.2.1, hk.2.2.2.2⟩⟩)⟩, ⟨by exact uT HB.out⟩⟩
    · rw [if_neg c15] at H
      have c15b0 : ((rd t936 x9_1) == 1) = false := beq_eq_false_iff_ne.mpr c15
      have c15b1 : ((rd t936 x9_1) != 1) = true := bne_iff_ne.mpr c15
      by_cases c31 : x8_1.length < 140737488355328
      rotate_left
      · rw [if_neg c31] at H; exact absurd H (by simp)
      rw [if_pos c31] at H
      have LMc31 := zMk c31
      clear c31
      obtain ⟨y955, hy955⟩ : ∃ y_ : List Int, y_ = (x8_1 ++ [0]) := ⟨_, rfl⟩
      replace H : (r1_Mul.l0 k1 t930 t936 x7_1 y955 (wrap64 (x9_1 + 1))) = some r := by first | (rw [hy955]; with_reducible exact H) | (have H2_ := bsm H; first | (rw [hy955]; with_reducible exact H2_) | with_reducible exact H2_) | with_reducible exact H | (rw [hy955]; exact H) | exact H
      have Ny955 := zMk hy955
      clear hy955
      have H' := zMk H
      clear H
      obtain ⟨Ao32, co32, eo32⟩ := zRs HO_6.out
      subst eo32
      have p939 : 0 ≤ (x9_1 : Int) := of_decide_eq_true (by assumption)
      have q939 : x9_1 < (t936.length : Int) := of_decide_eq_true (by assumption)
      obtain ⟨ad939, e939, hx939_0⟩ := zAi (zRr HO_6.out).2.2 x9_1 p939 q939
      cases e939
      replace p939 := eq_true p939
      replace q939 := eq_true q939
      go_wp2_with (first | ((with_reducible refine gate_builtin (b := .append) (xs := #[.tmp 34, .tmp 35]) rfl ?_); at_builtin; refine Kd.R_append (Kd.int .u8) (w0 := w) w.heap.size rfl (.tmp 34) (.tmp 35) 67 5 (.int .u8 0) 1 rfl Tryd.underlying67 info5 rfl (by decide) (by omega) u8 x8_1 0 [.int .u8 0] (fun k_ => some k_ ≠ (v931 : Value).ownBlock ∧ some k_ ≠ (.slice (some ad939) t936.length co32 : Value).ownBlock ∧ some k_ ≠ (u7 : Value).ownBlock) (fun _ => False) rfl rfl ?aP (fun _ hk => hk.elim) ?aF ?aO ?aB ?aS ?aL ?_; (case aP => exact rfl); (case aB => exact (by exact uT HB.out)); (case aF => exact (fun k_ hk => ⟨Kd.fresh' (zRt (by exact uR HO_5.out)) k_ hk, Kd.fresh' (zRt (by exact uR HO_6.out)) k_ hk, Kd.fresh' (zRt (by exact uR HO_7.out)) k_ hk⟩)); (case aO => exact (by exact uR HO_8.out)); (case aS => exact (zBs (by exact uT HB.out))); (case aL => have := LMc31.out; omega); intro v956 w33 ho hb hg hat; rw [← Ny955.out] at ho; replace HO_5 := zMk (Kd.R_after (ok := (fun k_ => some k_ ≠ (.slice (some ad939) t936.length co32 : Value).ownBlock ∧ some k_ ≠ (u7 : Value).ownBlock)) (by (with_reducible repeat (first |  apply zRa|  apply zRn|  apply zRd)); exact zRm HO_5.out (fun _ hk => ⟨⟨hk.1, hk.2.1⟩, hk.2.2⟩)) hg hat); replace HO_6 := zMk (Kd.R_after (ok := (fun k_ => some k_ ≠ (v931 : Value).ownBlock ∧ some k_ ≠ (u7 : Value).ownBlock)) (by (with_reducible repeat (first |  apply zRa|  apply zRn|  apply zRd)); exact zRm HO_6.out (fun _ hk => ⟨⟨hk.1, hk.2.1⟩, hk.2.2⟩)) hg hat); replace HO_7 := zMk (Kd.R_after (ok := (fun k_ => some k_ ≠ (v931 : Value).ownBlock ∧ some k_ ≠ (.slice (some ad939) t936.length co32 : Value).ownBlock)) (by (with_reducible repeat (first |  apply zRa|  apply zRn|  apply zRd)); exact zRm HO_7.out (fun _ hk => ⟨⟨hk.1, hk.2.1⟩, hk.2.2⟩)) hg hat); replace HB := zMk (hb); have HO957 := zMk (ho); clear HO_8 ho hb hg hat))
      go_roundg k1
      case measure => have := HK1.out; omega
      case rel => exact ⟨(x7_1), (y955), (wrap64 (x9_1 + 1)), (by first | rfl | (simp; done) | (simp [*]; done)), H', ⟨by have := HK1.out; omega⟩, ⟨by (with_reducible repeat (first | apply zRa | apply zRn | apply zRd)); exact zRm HO_5.out (fun _ hk => ⟨hk.1.1, ⟨hk.1.2, hk.2⟩⟩)⟩, ⟨by (with_reducible repeat (first | apply zRa | apply zRn | apply zRd)); exact zRm HO_6.out (fun _ hk => ⟨hk.1.1, ⟨hk.1.2, hk.2⟩⟩)⟩, ⟨by (with_reducible repeat (first | apply zRa | apply zRn | apply zRd)); exact zRm HO_7.out (fun _ hk => ⟨hk.1.1, ⟨hk.1.2, hk.2⟩⟩)⟩, ⟨by exact uR HO957.out⟩, ⟨by exact uT HB.out⟩⟩
  · rw [if_neg c13] at H
    have c13b0 : decide (x9_1 < (t936.length : Int)) = false := decide_eq_false c13
    clear c13
    replace H := bnd H
    obtain ⟨t958, A340, H⟩ := H
    have A34 := zMk A340
    clear A340
    obtain rfl := zOi H
    obtain ⟨Ao35, co35, eo35⟩ := zRs HO_6.out
    subst eo35
    obtain ⟨Ao36, co36, eo36⟩ := zRs HO_7.out
    subst eo36
    go_wp2_with (first | ((with_reducible refine gate_callee (f := 65) rfl ?_); refine goesL_ (some 38) rfl rfl Tryd.func65 (by kernel_rfl) rfl #[.slice Ao36 x7_1.length co36] rfl (by (try simp only [zMa, zMc, zMn]); first |  done|  rfl|  (simp only [zLd, zLt]; rfl)) ?_; (with_reducible refine (r1_limbs.calls k1 _ _ x7_1 t958 _ ?side1 ?side2 A34.out).mono ?_); (case side1 => exact uC (zRr HO_7.out).2.2); (case side2 => exact (zRr HO_7.out).2.1); rintro e w37 ⟨v959, rfl, ho0, hb⟩; refine ⟨_, rfl, ?_⟩; replace HO_5 := zMk (zRb (by exact uR HO_5.out) hb); replace HO_6 := zMk (zRb (by exact uR HO_6.out) hb); replace HO_7 := zMk (zRb (by exact uR HO_7.out) hb); replace HO_8 := zMk (zRb (by exact uR HO_8.out) hb); have HO960 := zMk (zRl ho0 (zBs (by exact uT HB.out))); replace HB := zMk (zBt (by exact uT HB.out) hb)))
    go_ret
    exact ⟨_, by first | rfl | (simp [errW_none, errW_some] <;> rfl) | (simp [*, errW_none, errW_some] <;> rfl), by exact uR HO960.out, by exact uT HB.out⟩


theorem bits_u32 (a b : Nat) (ha : a < 4294967296) (hb : b < 4294967296) : Go.bits .and .u32 (a : Int) (b : Int) = ((a &&& b : Nat) : Int) ∧ Go.bits .or .u32 (a : Int) (b : Int) = ((a ||| b : Nat) : Int) ∧ Go.bits .xor .u32 (a : Int) (b : Int) = ((a ^^^ b : Nat) : Int) := by
  have h0 := bits_nat .u32 32 (by decide) wraps_u32 a b ha hb
  refine ⟨h0.1, h0.2, ?_⟩
  have h1 : (BitVec.ofInt 32 (a : Int)).toNat = a := by
    rw [BitVec.ofInt_natCast, BitVec.toNat_ofNat]; exact Nat.mod_eq_of_lt (by omega)
  have h2 : (BitVec.ofInt 32 (b : Int)).toNat = b := by
    rw [BitVec.ofInt_natCast, BitVec.toNat_ofNat]; exact Nat.mod_eq_of_lt (by omega)
  show IntKind.u32.wrap ((BitVec.ofInt 32 (a : Int) ^^^ BitVec.ofInt 32 (b : Int)).toNat : Int) = _
  rw [BitVec.toNat_xor, h1, h2]
  have hx : a ^^^ b < 2 ^ 32 := Nat.xor_lt_two_pow (by omega) (by omega)
  exact wraps_u32 _ (by omega) (by omega)
theorem top_bit (n : Nat) (h : n < 4294967296) : n / 2147483648 = (n.testBit 31).toNat := by
  rw [Nat.testBit_eq_decide_div_mod_eq]
  have h1 : n / 2 ^ 31 = n / 2147483648 := rfl
  rw [h1]
  have h2 : n / 2147483648 < 2 := by omega
  generalize n / 2147483648 = q at h2 ⊢
  have : q = 0 ∨ q = 1 := by omega
  rcases this with rfl | rfl <;> rfl
theorem sub32_f (x y c : Int) (hx : 0 ≤ x ∧ x < 4294967296) (hy : 0 ≤ y ∧ y < 4294967296) (hc : c = 0 ∨ c = 1) :
    ∃ d b : Int, bits_Sub32.f x y c = some (d, b) ∧ 0 ≤ d ∧ d < 4294967296 ∧ (b = 0 ∨ b = 1) ∧ x - y - c = d - 4294967296 * b := by
  obtain ⟨d, hd⟩ : ∃ d : Int, (((x - y) % 4294967296) - c) % 4294967296 = d := ⟨_, rfl⟩
  have hd0 : 0 ≤ d ∧ d < 4294967296 := by omega
  obtain ⟨p, rfl⟩ := Int.eq_ofNat_of_zero_le hx.1
  obtain ⟨q, rfl⟩ := Int.eq_ofNat_of_zero_le hy.1
  obtain ⟨e, rfl⟩ := Int.eq_ofNat_of_zero_le hd0.1
  have hp : p < 4294967296 := by omega
  have hq : q < 4294967296 := by omega
  have he : e < 4294967296 := by omega
  have k1 : (4294967295 : Nat) ^^^ p < 4294967296 := Nat.xor_lt_two_pow (n := 32) (by decide) hp
  have k2 : p ^^^ q < 4294967296 := Nat.xor_lt_two_pow (n := 32) hp hq
  have k3 : (4294967295 : Nat) ^^^ (p ^^^ q) < 4294967296 := Nat.xor_lt_two_pow (n := 32) (by decide) k2
  have k4 : (4294967295 ^^^ p) &&& q < 4294967296 := Nat.and_lt_two_pow (n := 32) _ hq
  have k5 : (4294967295 ^^^ (p ^^^ q)) &&& e < 4294967296 := Nat.and_lt_two_pow (n := 32) _ he
  have k6 : ((4294967295 ^^^ p) &&& q) ||| ((4294967295 ^^^ (p ^^^ q)) &&& e) < 4294967296 := Nat.or_lt_two_pow (n := 32) k4 k5
  have hf : bits_Sub32.f (p : Int) (q : Int) c = some ((e : Int), (((((4294967295 ^^^ p) &&& q) ||| ((4294967295 ^^^ (p ^^^ q)) &&& e)) / 2147483648 : Nat) : Int)) := by
    unfold bits_Sub32.f
    rw [hd, show (4294967295 : Int) = ((4294967295 : Nat) : Int) from rfl, (bits_u32 4294967295 p (by decide) hp).2.2, (bits_u32 _ q k1 hq).1, (bits_u32 p q hp hq).2.2, (bits_u32 _ _ (by decide) k2).2.2, (bits_u32 _ e k3 he).1, (bits_u32 _ _ k4 k5).2.1]
    rfl
  refine ⟨e, _, hf, hd0.1, hd0.2, ?_, ?_⟩
  · omega
  · rw [top_bit _ k6]
    simp only [Nat.testBit_or, Nat.testBit_and, Nat.testBit_xor, show (4294967295 : Nat).testBit 31 = true from rfl]
    have t1 := top_bit p hp
    have t2 := top_bit q hq
    have t3 := top_bit e he
    generalize p.testBit 31 = tp at t1 ⊢
    generalize q.testBit 31 = tq at t2 ⊢
    generalize e.testBit 31 = te at t3 ⊢
    rcases hc with rfl | rfl <;> cases tp <;> cases tq <;> cases te <;> simp only [Bool.toNat_true, Bool.toNat_false, Bool.xor_true, Bool.xor_false, Bool.true_xor, Bool.false_xor, Bool.not_true, Bool.not_false, Bool.and_true, Bool.and_false, Bool.true_and, Bool.false_and, Bool.or_true, Bool.or_false, Bool.true_or, Bool.false_or] at t1 t2 t3 ⊢ <;> omega
theorem add32_f (x y c : Int) (hx : 0 ≤ x ∧ x < 4294967296) (hy : 0 ≤ y ∧ y < 4294967296) (hc : c = 0 ∨ c = 1) :
    ∃ d b : Int, bits_Add32.f x y c = some (d, b) ∧ 0 ≤ d ∧ d < 4294967296 ∧ (b = 0 ∨ b = 1) ∧ x + y + c = d + 4294967296 * b := by
  have e : IntKind.u64.wrap ((IntKind.u64.wrap ((IntKind.u64.wrap (x)) + (IntKind.u64.wrap (y)))) + (IntKind.u64.wrap (c))) = x + y + c := by
    rw [wraps_u64 x (by omega) (by omega), wraps_u64 y (by omega) (by omega), wraps_u64 (x + y) (by omega) (by omega), wraps_u64 c (by omega) (by omega), wraps_u64 (x + y + c) (by omega) (by omega)]
  refine ⟨(x + y + c) % 4294967296, (x + y + c) / 4294967296, ?_, by omega, by omega, by omega, by omega⟩
  unfold bits_Add32.f
  rw [e, show (x + y + c) / 4294967296 % 4294967296 = (x + y + c) / 4294967296 by omega]
theorem val_take_succ' (l : List Int) (n : Nat) : val (l.take (n + 1)) = val (l.take n) + 4294967296 ^ n * l.getD n 0 := by
  by_cases h : n < l.length
  · exact val_take_succ l n h
  · rw [List.take_of_length_le (by omega), List.take_of_length_le (by omega), getD_ge _ (by omega)]
    omega
theorem cut_len_mono {a b : List Int} (ha : Limbs a) (hb : Limbs b) (h : val b ≤ val a) : (cut b).length ≤ (cut a).length := by
  rcases Nat.lt_or_ge (cut a).length (cut b).length with hlt | hge
  · have h1 := val_lt (cut_limbs ha)
    have h2 := val_ge (cut_limbs hb) (cut_trim b) (by intro h0; rw [h0] at hlt; exact absurd hlt (by simp))
    have h3 : (4294967296 : Int) ^ (cut a).length ≤ 4294967296 ^ ((cut b).length - 1) := pow_up (by omega)
    rw [cut_val] at h1 h2
    omega
  · exact hge
theorem less_l0 (b : List Int) (hb : Limbs b) (N : Nat) (hN : N < 4611686018427387904) (T : Int) :
    ∀ (j m k : Nat) (X : List Int) (c : Int), m + j = N → X.length = N → Limbs X → (c = 0 ∨ c = 1) → val X - c * 4294967296 ^ m + val (b.take m) = T →
    ∃ X' c', n_less.l0 (k + j + 1) X b c (N : Int) (m : Int) = some (c', X') ∧ X'.length = N ∧ Limbs X' ∧ (c' = 0 ∨ c' = 1) ∧ val X' - c' * 4294967296 ^ N + val (b.take N) = T := by
  intro j
  induction j with
  | zero =>
    intro m k X c hm hX lX hc hT
    obtain rfl : m = N := by omega
    exact ⟨X, c, by rw [n_less.l0, if_neg (by omega)], hX, lX, hc, hT⟩
  | succ j ih =>
    intro m k X c hm hX lX hc hT
    obtain ⟨d, c', e, d0, d1, hc', hd⟩ := sub32_f (X.getD m 0) (b.getD m 0) c (lX.getD m) (hb.getD m) hc
    obtain ⟨X', c'', h1, h2, h3, h4, h5⟩ := ih (m + 1) k (X.set m d) c' (by omega) (by rw [List.length_set]; exact hX) (lX.set _ d0 d1) hc' (by
      rw [val_set _ _ _ (by omega), val_take_succ' b m, ← hT, Int.pow_succ]
      grind)
    refine ⟨X', c'', ?_, h2, h3, h4, h5⟩
    rw [show k + (j + 1) + 1 = (k + j + 1) + 1 by omega, n_less.l0, if_pos (by omega)]
    by_cases hbm : (m : Int) < (b.length : Int)
    · rw [if_pos hbm, if_pos (by omega), if_pos (by omega), rd_nat, rd_nat, e, zOb, w64 (by omega) (by omega), zTn, show ((m : Int) + 1) = ((m + 1 : Nat) : Int) by omega]
      exact h1
    · rw [getD_ge b (by omega)] at e
      rw [if_neg hbm, if_pos (by omega), if_pos (by omega), rd_nat, e, zOb, w64 (by omega) (by omega), zTn, show ((m : Int) + 1) = ((m + 1 : Nat) : Int) by omega]
      exact h1
theorem add_l0 (x0 a b : List Int) (ha : Limbs a) (hb : Limbs b) (hx : x0.length = a.length) (hba : b.length ≤ a.length) (hN : a.length < 35184372088832) :
    ∀ (j m k : Nat) (O : List Int) (c : Int), m + j = a.length → O.length = a.length + 1 → Limbs O → (c = 0 ∨ c = 1) → (∀ i, m ≤ i → O.getD i 0 = 0) → val O + c * 4294967296 ^ m = val (a.take m) + val (b.take m) →
    ∃ r, n_Add.l0 (k + j + 1) x0 b O c a (a.length : Int) (m : Int) = some r ∧ IsNum r (val a + val b) ∧ r.length ≤ a.length + 1 := by
  intro j
  induction j with
  | zero =>
    intro m k O c hm hO lO hc hz hT
    obtain rfl : m = a.length := by omega
    refine ⟨cut (O.set a.length c), ?_, ?_, by have := cut_length (O.set a.length c); rw [List.length_set] at this; omega⟩
    · rw [n_Add.l0, if_neg (by omega), if_pos (by omega), if_pos (by omega), cut_f, hx]
      rfl
    · have := IsNum.cut (lO.set a.length (v := c) (by omega) (by omega))
      rw [val_set _ _ _ (by omega), hz _ (Nat.le_refl _)] at this
      rw [List.take_length, List.take_of_length_le hba] at hT
      rw [show val O + 4294967296 ^ a.length * (c - 0) = val a + val b by rw [← hT]; grind] at this
      exact this
  | succ j ih =>
    intro m k O c hm hO lO hc hz hT
    obtain ⟨d, c', e, d0, d1, hc', hd⟩ := add32_f (a.getD m 0) (b.getD m 0) c (ha.getD m) (hb.getD m) hc
    obtain ⟨r, h1, h2, h3⟩ := ih (m + 1) k (O.set m d) c' (by omega) (by rw [List.length_set]; exact hO) (lO.set _ d0 d1) hc' (fun i hi => by rw [getD_set_ne _ _ (by omega)]; exact hz i (by omega)) (by
      rw [val_set _ _ _ (by omega), hz m (Nat.le_refl _), val_take_succ' b m, val_take_succ' a m, Int.pow_succ]
      grind)
    refine ⟨r, ?_, h2, h3⟩
    rw [show k + (j + 1) + 1 = (k + j + 1) + 1 by omega, n_Add.l0, if_pos (by omega), if_pos (by omega), if_pos (by omega)]
    by_cases hbm : (m : Int) < (b.length : Int)
    · rw [if_pos hbm, rd_nat, rd_nat, e, zOb, if_pos (by omega), w64 (by omega) (by omega), zTn, show ((m : Int) + 1) = ((m + 1 : Nat) : Int) by omega]
      exact h1
    · rw [getD_ge b (by omega)] at e
      rw [if_neg hbm, rd_nat, e, zOb, if_pos (by omega), w64 (by omega) (by omega), zTn, show ((m : Int) + 1) = ((m + 1 : Nat) : Int) by omega]
      exact h1
theorem add_j0 (a b : List Int) (ha : Limbs a) (hb : Limbs b) (hba : b.length ≤ a.length) (hN : a.length < 35184372088832) (k : Nat) (hk : a.length + 2 ≤ k) :
    ∃ r, n_Add.j0 k a b = some r ∧ IsNum r (val a + val b) ∧ r.length ≤ a.length + 1 := by
  obtain ⟨d, rfl⟩ : ∃ d, k = (d + a.length + 1) + 1 := ⟨k - (a.length + 2), by omega⟩
  obtain ⟨r, h1, h2, h3⟩ := add_l0 a a b ha hb rfl hba hN a.length 0 d (List.replicate (a.length + 1) 0) 0 (by omega) (by simp) (limbs_replicate _) (.inl rfl) (fun i _ => by
    by_cases hi : i < a.length + 1
    · rw [getD_lt _ (by simpa using hi)]; simp
    · rw [getD_ge _ (by simp; omega)]) (by rw [val_replicate]; simp [val])
  refine ⟨r, ?_, h2, h3⟩
  rw [n_Add.j0, w64 (by omega) (by omega), if_pos (by omega), show ((a.length : Int) + 1) = ((a.length + 1 : Nat) : Int) by omega, zTn, if_pos (by omega)]
  exact h1
theorem add_f (a b : List Int) (ha : Limbs a) (hb : Limbs b) (la : a.length < 35184372088832) (lb : b.length < 35184372088832) (k : Nat) (hka : a.length + 2 ≤ k) (hkb : b.length + 2 ≤ k) :
    ∃ r, n_Add.f k a b = some r ∧ IsNum r (val a + val b) ∧ r.length ≤ max a.length b.length + 1 := by
  unfold n_Add.f
  have ca := cut_length a
  have cb := cut_length b
  rw [cut_f, zOb, cut_f, zOb]
  by_cases h : ((cut a).length : Int) < ((cut b).length : Int)
  · obtain ⟨r, h1, h2, h3⟩ := add_j0 (cut b) (cut a) (cut_limbs hb) (cut_limbs ha) (by omega) (by omega) k (by omega)
    rw [cut_val, cut_val, Int.add_comm] at h2
    exact ⟨r, by rw [if_pos h]; exact h1, h2, by omega⟩
  · obtain ⟨r, h1, h2, h3⟩ := add_j0 (cut a) (cut b) (cut_limbs ha) (cut_limbs hb) (by omega) (by omega) k (by omega)
    rw [cut_val, cut_val] at h2
    exact ⟨r, by rw [if_neg h]; exact h1, h2, by omega⟩


theorem sub_f (a b : List Int) (ha : Limbs a) (hb : Limbs b) (la : a.length < 35184372088832) (k : Nat) (hk : a.length + 1 ≤ k) :
    (val a < val b ∧ n_Sub.f k a b = some ([], 17)) ∨ (val b ≤ val a ∧ ∃ r, n_Sub.f k a b = some (r, 0) ∧ IsNum r (val a - val b) ∧ r.length ≤ a.length) := by
  unfold n_Sub.f
  rw [cmp_f a b ha hb, zOb]
  by_cases h : val a < val b
  · refine .inl ⟨h, ?_⟩
    unfold cmpI
    rw [if_pos h, if_pos (by omega)]
  · refine .inr ⟨by omega, ?_⟩
    have hc : ¬ cmpI (val a) (val b) < 0 := by
      unfold cmpI
      rw [if_neg h]
      split <;> omega
    have ca := cut_length a
    obtain ⟨d, rfl⟩ : ∃ d, k = d + (cut a).length + 1 := ⟨k - ((cut a).length + 1), by omega⟩
    obtain ⟨X, c, h1, h2, h3, h4, h5⟩ := less_l0 (cut b) (cut_limbs hb) (cut a).length (by omega) (val a) (cut a).length 0 d (cut a) 0 (by omega) rfl (cut_limbs ha) (.inl rfl) (by rw [cut_val]; simp [val])
    have hlen := cut_len_mono ha hb (by omega)
    rw [List.take_of_length_le hlen, cut_val] at h5
    have hX0 := val_nonneg h3
    have hX1 := val_lt h3
    rw [h2] at hX1
    have hc0 : c = 0 := by
      rcases h4 with rfl | rfl
      · rfl
      · rw [Int.one_mul] at h5; omega
    subst hc0
    refine ⟨cut X, ?_, ?_, by have := cut_length X; omega⟩
    · rw [if_neg hc, nnorm_f a (by omega), zOb, cut_f, zOb]
      unfold n_less.f
      rw [show ((0 : Nat) : Int) = 0 from rfl] at h1
      rw [h1, zOb, cut_f, zOb]
    · have := IsNum.cut h3
      rw [show val X = val a - val b by omega] at this
      exact this
theorem Limbs.drop {l : List Int} (h : Limbs l) (n : Nat) : Limbs (l.drop n) := fun x hx => h x (List.mem_of_mem_drop hx)
theorem Limbs.append {a b : List Int} (ha : Limbs a) (hb : Limbs b) : Limbs (a ++ b) := fun x hx => by
  rcases List.mem_append.1 hx with h | h
  · exact ha x h
  · exact hb x h
theorem IsNum.nil : IsNum [] 0 := ⟨Limbs.nil, .inl rfl, rfl⟩

def integer_Sub.f (k : Nat) (a0_0 : Bool) (l0_1 : List Int) (a1_0 : Bool) (l1_1 : List Int) : Option (Bool × List Int) := (integer_Neg.f a1_0 l1_1).bind fun bt847 => ((integer_Add.f k a0_0 l0_1 bt847.1 bt847.2).bind fun bt851 => (some (bt851.1, bt851.2)))
theorem integer_Sub.calls (k : Nat) (a0_0 : Bool) (A0_1 : Option Addr) (c0_1 : Nat) (l0_1 : List Int) (a1_0 : Bool) (A1_1 : Option Addr) (c1_1 : Nat) (l1_1 : List Int) (r1 : Bool) (r2 : List Int) (w : World) (hr0_1 : Kd.C (Kd.int .u32) w A0_1 l0_1.length l0_1) (hc0_1 : l0_1.length ≤ c0_1) (hr1_1 : Kd.C (Kd.int .u32) w A1_1 l1_1.length l1_1) (hc1_1 : l1_1.length ≤ c1_1) (h : integer_Sub.f k a0_0 l0_1 a1_0 l1_1 = some (r1, r2)) :
    Calls Tryd.prog 19 #[.agg #[.bool a0_0, .slice A0_1 l0_1.length c0_1], .agg #[.bool a1_0, .slice A1_1 l1_1.length c1_1]] w fun e w' => ∃ v1_ : Value, e = .returned (.agg #[.bool r1, v1_]) ∧ Kd.R (Kd.int .u32) 58 w' w.heap.size (fun _ => True) v1_ r2 ∧ Below w.heap.size w w' := by
  have hu24 := Tryd.underlying24
  have HR0_1 := zMk hr0_1
  have HC0_1 := zMk hc0_1
  clear hr0_1 hc0_1
  have HR1_1 := zMk hr1_1
  have HC1_1 := zMk hc1_1
  clear hr1_1 hc1_1
  have HB := zMk (Below.refl w.heap.size w)
  have H : ((integer_Neg.f a1_0 l1_1).bind fun bt847 => ((integer_Add.f k a0_0 l0_1 bt847.1 bt847.2).bind fun bt851 => (some (bt851.1, bt851.2)))) = some (r1, r2) := h
  clear h
  replace H := bnd H
  obtain ⟨⟨t847, t848⟩, A30, H⟩ := H
  replace H : ((integer_Add.f k a0_0 l0_1 t847 t848).bind fun bt851 => (some (bt851.1, bt851.2))) = some (r1, r2) := H
  have A3 := zMk A30
  clear A30
  replace H := bnd H
  obtain ⟨⟨t851, t852⟩, A40, H⟩ := H
  replace H : (some (t851, t852)) = some (r1, r2) := H
  have A4 := zMk A40
  clear A40
  simp only [Option.some.injEq, Prod.mk.injEq] at H
  obtain ⟨rfl, rfl⟩ := H
  go_enter Tryd.func19, Tryd.ntmps19
  try go_wp2_with (first | ((with_reducible refine gate_dst (N := 2) rfl ?_); refine box_event ?hg (N := 2) ?hd (cs := #[.bool a0_0, .slice A0_1 l0_1.length c0_1]) (t := 24) ?hr ?_; (case hd => rfl); (case hg => rfl); (case hr => first | (go_simp; done)|(go_simp; rfl)|(go_simp; rw [show ∀ x : Int, IntKind.u32.wrap (IntKind.u8.wrap x) = x % 256 from fun x => (by show (x % 256) % 4294967296 = x % 256; omega)])); intro gb844 hg w5 hbox hb; have BK844 := zMk (hbox); have GW844 := zMk ((by rw [hg]; exact (zBs (by exact uT HB.out)) : w.heap.size ≤ gb844)); have GE844 := zMk ((by rw [hg]; exact (zBs (by exact uT HB.out)) : w.heap.size ≤ gb844)); have IGE844 := ownGe GE844.out; replace HB := zMk (zBt (by exact uT HB.out) hb); clear hb hbox hg)|((with_reducible refine gate_dst (N := 3) rfl ?_); refine box_event ?hg (N := 3) ?hd (cs := #[.bool a1_0, .slice A1_1 l1_1.length c1_1]) (t := 24) ?hr ?_; (case hd => rfl); (case hg => rfl); (case hr => first | (go_simp; done)|(go_simp; rfl)|(go_simp; rw [show ∀ x : Int, IntKind.u32.wrap (IntKind.u8.wrap x) = x % 256 from fun x => (by show (x % 256) % 4294967296 = x % 256; omega)])); intro gb845 hg w6 hbox hb; have BK845 := zMk (hbox); have GW845 := zMk ((by rw [hg]; exact (zBs (by exact uT HB.out)) : w.heap.size ≤ gb845)); have GE845 := zMk ((by rw [hg]; exact (zBs (by exact uT HB.out)) : w.heap.size ≤ gb845)); have IGE845 := ownGe GE845.out; replace HB := zMk (zBt (by exact uT HB.out) hb); have NB844_845 := zMk ((by rw [hg]; exact Nat.ne_of_lt (blk_lt (g := gb844) (o := .cells #[.bool a0_0, .slice A0_1 l0_1.length c0_1] 24 (0, 0)) (by (with_reducible repeat (first |  refine zKn ?_ _|  refine zKd ?_|  refine zKa ?_ _)); exact BK844.out)) : gb844 ≠ gb845)); have NB845_844 := zMk ((by rw [hg]; exact Nat.ne_of_gt (blk_lt (g := gb844) (o := .cells #[.bool a0_0, .slice A0_1 l0_1.length c0_1] 24 (0, 0)) (by (with_reducible repeat (first |  refine zKn ?_ _|  refine zKd ?_|  refine zKa ?_ _)); exact BK844.out)) : gb845 ≠ gb844)); replace BK844 := zMk (zKb (g := gb844) (o := .cells #[.bool a0_0, .slice A0_1 l0_1.length c0_1] 24 (0, 0)) (by (with_reducible repeat (first |  refine zKn ?_ _|  refine zKd ?_|  refine zKa ?_ _)); exact BK844.out) hb); clear hb hbox hg)|((with_reducible refine gate_dst (N := 4) rfl ?_); refine box_event ?hg (N := 4) ?hd (cs := #[.bool false, .slice none 0 0]) (t := 24) ?hr ?_; (case hd => rfl); (case hg => rfl); (case hr => first | (go_simp; done)|(go_simp; rfl)|(go_simp; rw [show ∀ x : Int, IntKind.u32.wrap (IntKind.u8.wrap x) = x % 256 from fun x => (by show (x % 256) % 4294967296 = x % 256; omega)])); intro gb846 hg w7 hbox hb; have BK846 := zMk (hbox); have GW846 := zMk ((by rw [hg]; exact (zBs (by exact uT HB.out)) : w.heap.size ≤ gb846)); have GE846 := zMk ((by rw [hg]; exact (zBs (by exact uT HB.out)) : w.heap.size ≤ gb846)); have IGE846 := ownGe GE846.out; replace HB := zMk (zBt (by exact uT HB.out) hb); have NB844_846 := zMk ((by rw [hg]; exact Nat.ne_of_lt (blk_lt (g := gb844) (o := .cells #[.bool a0_0, .slice A0_1 l0_1.length c0_1] 24 (0, 0)) (by (with_reducible repeat (first |  refine zKn ?_ _|  refine zKd ?_|  refine zKa ?_ _)); exact BK844.out)) : gb844 ≠ gb846)); have NB846_844 := zMk ((by rw [hg]; exact Nat.ne_of_gt (blk_lt (g := gb844) (o := .cells #[.bool a0_0, .slice A0_1 l0_1.length c0_1] 24 (0, 0)) (by (with_reducible repeat (first |  refine zKn ?_ _|  refine zKd ?_|  refine zKa ?_ _)); exact BK844.out)) : gb846 ≠ gb844)); replace BK844 := zMk (zKb (g := gb844) (o := .cells #[.bool a0_0, .slice A0_1 l0_1.length c0_1] 24 (0, 0)) (by (with_reducible repeat (first |  refine zKn ?_ _|  refine zKd ?_|  refine zKa ?_ _)); exact BK844.out) hb); have NB845_846 := zMk ((by rw [hg]; exact Nat.ne_of_lt (blk_lt (g := gb845) (o := .cells #[.bool a1_0, .slice A1_1 l1_1.length c1_1] 24 (0, 0)) (by (with_reducible repeat (first |  refine zKn ?_ _|  refine zKd ?_|  refine zKa ?_ _)); exact BK845.out)) : gb845 ≠ gb846)); have NB846_845 := zMk ((by rw [hg]; exact Nat.ne_of_gt (blk_lt (g := gb845) (o := .cells #[.bool a1_0, .slice A1_1 l1_1.length c1_1] 24 (0, 0)) (by (with_reducible repeat (first |  refine zKn ?_ _|  refine zKd ?_|  refine zKa ?_ _)); exact BK845.out)) : gb846 ≠ gb845)); replace BK845 := zMk (zKb (g := gb845) (o := .cells #[.bool a1_0, .slice A1_1 l1_1.length c1_1] 24 (0, 0)) (by (with_reducible repeat (first |  refine zKn ?_ _|  refine zKd ?_|  refine zKa ?_ _)); exact BK845.out) hb); clear hb hbox hg))
  replace BK844 := zMk (zKd BK844.out)
  replace BK845 := zMk (zKd BK845.out)
  replace BK846 := zMk (zKd BK846.out)
  replace HB := zMk (zBd HB.out)
  refine start_ (n := 5) (S := fun w' => w'.cell? ⟨gb844, 0, none⟩ = some (.bool a0_0) ∧ w'.cell? ⟨gb844, 1, none⟩ = some (.slice A0_1 l0_1.length c0_1) ∧ w'.cell? ⟨gb845, 0, none⟩ = some (.bool a1_0) ∧ w'.cell? ⟨gb845, 1, none⟩ = some (.slice A1_1 l1_1.length c1_1)) (ds := []) #[false, false, false, false, false] (by kernel_rfl) rfl rfl ⟨(zKc BK844.out 0).trans rfl, (zKc BK844.out 1).trans rfl, (zKc BK845.out 0).trans rfl, (zKc BK845.out 1).trans rfl⟩ (fun hHeld => ?_)
  generalize w7.drew = w8 at BK844 BK845 BK846 HB hHeld ⊢
  refine take_ (i := 0) (N := some 5) (v := ?_) (a' := ?_) #[true, false, false, false, false] rfl rfl (by kernel_rfl) (fun _ _ _ h => h) (Or.inl ⟨by rfl, ?_⟩) hHeld ?_ ?_
  rotate_left
  · rintro w' ⟨s0, s1, s2, s3⟩
    go_simp
    with_reducible rfl
  rotate_left
  · simp only [Act.put, zSa, zSb, zSc, i64_w, i32_w]
    rfl
  refine take_ (i := 1) (N := some 6) (v := ?_) (a' := ?_) #[true, true, false, false, false] rfl rfl (by kernel_rfl) (fun _ _ _ h => h) (Or.inl ⟨by rfl, ?_⟩) hHeld ?_ ?_
  rotate_left
  · rintro w' ⟨s0, s1, s2, s3⟩
    go_simp
    with_reducible rfl
  rotate_left
  · simp only [Act.put, zSa, zSb, zSc, i64_w, i32_w]
    rfl
  refine one_ (i := 2) (N := some 7) #[true, true, true, false, false] rfl rfl (by kernel_rfl) (by decide) (fun K hK => ?_)
  refine goes_ Tryd.func23 (by kernel_rfl) rfl #[.agg #[.bool a1_0, .slice A1_1 l1_1.length c1_1]] (by rfl) rfl rfl (by (try simp only [zMa, zMc, zMn]); first | done | rfl | (simp only [zLd, zLt]; rfl)) ?_
  with_reducible refine (integer_Neg.calls a1_0 _ _ l1_1 t847 t848 _ ?side1 ?side2 A3.out).mono ?_
  (case side1 => repeat (first | exact (Kd.C_below HR1_1.out HB.out) | (with_reducible refine zCa ?_ _) | (with_reducible refine zCn ?_ _) | (with_reducible refine zCd ?_)))
  (case side2 => exact HC1_1.out)
  rintro e w9 ⟨v849, rfl, ho0, hb⟩
  refine ⟨_, rfl, ?_⟩
  have HO850 := zMk (zRl ho0 (zBs (by exact uT HB.out)))
  replace BK844 := zMk (zKb (g := gb844) (o := .cells #[.bool a0_0, .slice A0_1 l0_1.length c0_1] 24 (0, 0)) (by (with_reducible repeat (first | refine zKn ?_ _ | refine zKd ?_ | refine zKa ?_ _)); exact BK844.out) hb)
  replace BK845 := zMk (zKb (g := gb845) (o := .cells #[.bool a1_0, .slice A1_1 l1_1.length c1_1] 24 (0, 0)) (by (with_reducible repeat (first | refine zKn ?_ _ | refine zKd ?_ | refine zKa ?_ _)); exact BK845.out) hb)
  replace BK846 := zMk (zKb (g := gb846) (o := .cells #[.bool false, .slice none 0 0] 24 (0, 0)) (by (with_reducible repeat (first | refine zKn ?_ _ | refine zKd ?_ | refine zKa ?_ _)); exact BK846.out) hb)
  replace HB := zMk (zBt (by exact uT HB.out) hb)
  obtain ⟨Ao10, co10, eo10⟩ := zRs HO850.out
  (first |  subst eo10|  (injection eo10 with f1_ f2_ f3_; have f4_ := f1_.symm; have f5_ := f3_.symm; clear f1_ f2_ f3_; subst f4_; subst f5_))
  refine hK.out _ _ ⟨(zKc BK844.out 0).trans rfl, (zKc BK844.out 1).trans rfl, (zKc BK845.out 0).trans rfl, (zKc BK845.out 1).trans rfl⟩ (fun hHeld => ?_)
  clear hK K
  refine norm_ (a' := ?_) ?_ ?_
  rotate_left
  · show Act.put _ (some 7) _ = _
    simp only [Act.put, zSa, zSb, zSc, i64_w, i32_w]
    rfl
  refine one_ (i := 3) (N := some 8) #[true, true, true, true, false] rfl rfl (by kernel_rfl) (by decide) (fun K hK => ?_)
  refine goes_ Tryd.func17 (by kernel_rfl) rfl #[.agg #[.bool a0_0, .slice A0_1 l0_1.length c0_1], .agg #[.bool t847, .slice Ao10 t848.length co10]] (by rfl) rfl rfl (by (try simp only [zMa, zMc, zMn]); first | done | rfl | (simp only [zLd, zLt]; rfl)) ?_
  with_reducible refine (integer_Add.calls k a0_0 _ _ l0_1 t847 _ _ t848 t851 t852 _ ?side1 ?side2 ?side3 ?side4 A4.out).mono ?_
  (case side1 => repeat (first | exact (Kd.C_below HR0_1.out HB.out) | (with_reducible refine zCa ?_ _) | (with_reducible refine zCn ?_ _) | (with_reducible refine zCd ?_)))
  (case side2 => exact HC0_1.out)
  (case side3 => exact uC (zRr HO850.out).2.2)
  (case side4 => exact (zRr HO850.out).2.1)
  rintro e w11 ⟨v853, rfl, ho0, hb⟩
  refine ⟨_, rfl, ?_⟩
  have HO854 := zMk (zRl (zRw ho0 (zRt (by exact uR HO850.out))) (zBs (by exact uT HB.out)))
  replace HO850 := zMk (zRe (by exact uR HO850.out) (zRz ho0) hb)
  replace BK844 := zMk (zKb (g := gb844) (o := .cells #[.bool a0_0, .slice A0_1 l0_1.length c0_1] 24 (0, 0)) (by (with_reducible repeat (first | refine zKn ?_ _ | refine zKd ?_ | refine zKa ?_ _)); exact BK844.out) hb)
  replace BK845 := zMk (zKb (g := gb845) (o := .cells #[.bool a1_0, .slice A1_1 l1_1.length c1_1] 24 (0, 0)) (by (with_reducible repeat (first | refine zKn ?_ _ | refine zKd ?_ | refine zKa ?_ _)); exact BK845.out) hb)
  replace BK846 := zMk (zKb (g := gb846) (o := .cells #[.bool false, .slice none 0 0] 24 (0, 0)) (by (with_reducible repeat (first | refine zKn ?_ _ | refine zKd ?_ | refine zKa ?_ _)); exact BK846.out) hb)
  replace HB := zMk (zBt (by exact uT HB.out) hb)
  obtain ⟨Ao13, co13, eo13⟩ := zRs HO854.out
  (first |  subst eo13|  (injection eo13 with f1_ f2_ f3_; have f4_ := f1_.symm; have f5_ := f3_.symm; clear f1_ f2_ f3_; subst f4_; subst f5_))
  refine hK.out _ _ ⟨(zKc BK844.out 0).trans rfl, (zKc BK844.out 1).trans rfl, (zKc BK845.out 0).trans rfl, (zKc BK845.out 1).trans rfl⟩ (fun hHeld => ?_)
  clear hK K
  refine norm_ (a' := ?_) ?_ ?_
  rotate_left
  · show Act.put _ (some 8) _ = _
    simp only [Act.put, zSa, zSb, zSc, i64_w, i32_w]
    rfl
  refine one_ (i := 4) (N := none) #[true, true, true, true, true] rfl rfl (by kernel_rfl) (by decide) (fun K hK => ?_)
  have hs12 : w11.cell? ⟨gb846, 0, none⟩ = some (.bool false) := (zKc BK846.out 0).trans rfl
  have hfs12 := zKf BK846.out 0
  have hns12_0 := NB844_846.out
  have hns12_1 := NB845_846.out
  have hms12_0 := NB846_844.out
  have hms12_1 := NB846_845.out
  have hs14 : w11.cell? ⟨gb846, 1, none⟩ = some (.slice none 0 0) := (zKc BK846.out 1).trans rfl
  have hfs14 := zKf BK846.out 1
  have hns14_0 := NB844_846.out
  have hns14_1 := NB845_846.out
  have hms14_0 := NB846_844.out
  have hms14_1 := NB846_845.out
  refine skip_ (w1 := ?_) (by rfl) rfl ?_ ?_
  rotate_left
  · go_simp
    rfl
  refine hK.out _ _ ⟨((cell_far (p := ⟨gb846, _, none⟩) NB844_846.out _).trans (((cell_far (p := ⟨gb846, _, none⟩) NB844_846.out _).trans (hHeld.1)))), ((cell_far (p := ⟨gb846, _, none⟩) NB844_846.out _).trans (((cell_far (p := ⟨gb846, _, none⟩) NB844_846.out _).trans (hHeld.2.1)))), ((cell_far (p := ⟨gb846, _, none⟩) NB845_846.out _).trans (((cell_far (p := ⟨gb846, _, none⟩) NB845_846.out _).trans (hHeld.2.2.1)))), ((cell_far (p := ⟨gb846, _, none⟩) NB845_846.out _).trans (((cell_far (p := ⟨gb846, _, none⟩) NB845_846.out _).trans (hHeld.2.2.2))))⟩ (fun hHeld => ?_)
  clear hK K
  refine done_ (by kernel_rfl) ?_
  try go_wp2
  refine bodyPost_ret (results_cell_row rfl _ _ gb846 24 #[.bool t851, .slice Ao13 t852.length co13] (0, 0) _ rfl (by (with_reducible repeat (first | refine zKn ?_ _ | refine zKd ?_ | refine zKa ?_ _)); refine blk_put (cs := #[.bool t851, .slice none 0 0]) ?_ 1 _ rfl; (with_reducible repeat (first | refine zKn ?_ _ | refine zKd ?_ | refine zKa ?_ _)); refine blk_put (cs := #[.bool false, .slice none 0 0]) ?_ 0 _ rfl; (with_reducible repeat (first | refine zKn ?_ _ | refine zKd ?_ | refine zKa ?_ _)); exact BK846.out) Tryd.underlying24 rfl (by kernel_rfl)) rfl ?_
  exact ⟨_, by first | rfl | (simp [errW_none, errW_some] <;> rfl) | (simp [*, errW_none, errW_some] <;> rfl), by (with_reducible repeat (first | apply zRa | apply zRn | apply zRd)); exact zRm (Kd.R_far (p := ⟨gb846, 1, none⟩) (Kd.R_far (p := ⟨gb846, 0, none⟩) (Kd.R_types HO854.out BK846.out (by decide)) (fun _ hk => hk.2) (.bool t851)) (fun _ hk => hk.2) (.slice Ao13 t852.length co13)) (fun _ hk => trivial), by exact uT HB.out⟩


def integer_Mul.f (k : Nat) (a0_0 : Bool) (l0_1 : List Int) (a1_0 : Bool) (l1_1 : List Int) : Option (Bool × List Int) := (n_Mul.f k l0_1 l1_1).bind fun t496 => ((integer_signed.f (a0_0 != a1_0) t496).bind fun bt499 => (some (bt499.1, bt499.2)))
def integer_Mul.T1 : Bool × List (List Nat × List Nat) := (true, [([], []), ([0], [0]), ([], []), ([2], [2]), ([1, 3], [1, 3]), ([], []), ([5], [5]), ([], []), ([7], [7]), ([6, 8], [6, 8]), ([4, 9, 9], [4, 9]), ([10, 10, 0, 1, 2, 3, 4, 5, 6, 7, 8, 9, 10], [10])])
def integer_Mul.B1 : List Nat := [0, 1, 0, 4, 15, 0, 32, 0, 128, 480, 1023, 2047]
theorem integer_Mul.tab1 : rtab .any (opsOf Tryd.f21 1) = integer_Mul.T1 := by kernel_rfl
theorem integer_Mul.bits1 : waitsOk integer_Mul.T1.2 integer_Mul.B1 = true := by kernel_rfl
theorem integer_Mul.calls (k : Nat) (a0_0 : Bool) (A0_1 : Option Addr) (c0_1 : Nat) (l0_1 : List Int) (a1_0 : Bool) (A1_1 : Option Addr) (c1_1 : Nat) (l1_1 : List Int) (r1 : Bool) (r2 : List Int) (w : World) (hr0_1 : Kd.C (Kd.int .u32) w A0_1 l0_1.length l0_1) (hc0_1 : l0_1.length ≤ c0_1) (hr1_1 : Kd.C (Kd.int .u32) w A1_1 l1_1.length l1_1) (hc1_1 : l1_1.length ≤ c1_1) (h : integer_Mul.f k a0_0 l0_1 a1_0 l1_1 = some (r1, r2)) :
    Calls Tryd.prog 21 #[.agg #[.bool a0_0, .slice A0_1 l0_1.length c0_1], .agg #[.bool a1_0, .slice A1_1 l1_1.length c1_1]] w fun e w' => ∃ v1_ : Value, e = .returned (.agg #[.bool r1, v1_]) ∧ Kd.R (Kd.int .u32) 58 w' w.heap.size (fun _ => True) v1_ r2 ∧ Below w.heap.size w w' := by
  have hu24 := Tryd.underlying24
  have HR0_1 := zMk hr0_1
  have HC0_1 := zMk hc0_1
  clear hr0_1 hc0_1
  have HR1_1 := zMk hr1_1
  have HC1_1 := zMk hc1_1
  clear hr1_1 hc1_1
  have HB := zMk (Below.refl w.heap.size w)
  have H : ((n_Mul.f k l0_1 l1_1).bind fun t496 => ((integer_signed.f (a0_0 != a1_0) t496).bind fun bt499 => (some (bt499.1, bt499.2)))) = some (r1, r2) := h
  clear h
  replace H := bnd H
  obtain ⟨t496, A30, H⟩ := H
  have A3 := zMk A30
  clear A30
  replace H := bnd H
  obtain ⟨⟨t499, t500⟩, A40, H⟩ := H
  replace H : (some (t499, t500)) = some (r1, r2) := H
  have A4 := zMk A40
  clear A40
  simp only [Option.some.injEq, Prod.mk.injEq] at H
  obtain ⟨rfl, rfl⟩ := H
  go_enter Tryd.func21, Tryd.ntmps21
  try go_wp2_with (first | ((with_reducible refine gate_dst (N := 2) rfl ?_); refine box_event ?hg (N := 2) ?hd (cs := #[.bool a0_0, .slice A0_1 l0_1.length c0_1]) (t := 24) ?hr ?_; (case hd => rfl); (case hg => rfl); (case hr => first | (go_simp; done)|(go_simp; rfl)|(go_simp; rw [show ∀ x : Int, IntKind.u32.wrap (IntKind.u8.wrap x) = x % 256 from fun x => (by show (x % 256) % 4294967296 = x % 256; omega)])); intro gb493 hg w5 hbox hb; have BK493 := zMk (hbox); have GW493 := zMk ((by rw [hg]; exact (zBs (by exact uT HB.out)) : w.heap.size ≤ gb493)); have GE493 := zMk ((by rw [hg]; exact (zBs (by exact uT HB.out)) : w.heap.size ≤ gb493)); have IGE493 := ownGe GE493.out; replace HB := zMk (zBt (by exact uT HB.out) hb); clear hb hbox hg)|((with_reducible refine gate_dst (N := 3) rfl ?_); refine box_event ?hg (N := 3) ?hd (cs := #[.bool a1_0, .slice A1_1 l1_1.length c1_1]) (t := 24) ?hr ?_; (case hd => rfl); (case hg => rfl); (case hr => first | (go_simp; done)|(go_simp; rfl)|(go_simp; rw [show ∀ x : Int, IntKind.u32.wrap (IntKind.u8.wrap x) = x % 256 from fun x => (by show (x % 256) % 4294967296 = x % 256; omega)])); intro gb494 hg w6 hbox hb; have BK494 := zMk (hbox); have GW494 := zMk ((by rw [hg]; exact (zBs (by exact uT HB.out)) : w.heap.size ≤ gb494)); have GE494 := zMk ((by rw [hg]; exact (zBs (by exact uT HB.out)) : w.heap.size ≤ gb494)); have IGE494 := ownGe GE494.out; replace HB := zMk (zBt (by exact uT HB.out) hb); have NB493_494 := zMk ((by rw [hg]; exact Nat.ne_of_lt (blk_lt (g := gb493) (o := .cells #[.bool a0_0, .slice A0_1 l0_1.length c0_1] 24 (0, 0)) (by (with_reducible repeat (first |  refine zKn ?_ _|  refine zKd ?_|  refine zKa ?_ _)); exact BK493.out)) : gb493 ≠ gb494)); have NB494_493 := zMk ((by rw [hg]; exact Nat.ne_of_gt (blk_lt (g := gb493) (o := .cells #[.bool a0_0, .slice A0_1 l0_1.length c0_1] 24 (0, 0)) (by (with_reducible repeat (first |  refine zKn ?_ _|  refine zKd ?_|  refine zKa ?_ _)); exact BK493.out)) : gb494 ≠ gb493)); replace BK493 := zMk (zKb (g := gb493) (o := .cells #[.bool a0_0, .slice A0_1 l0_1.length c0_1] 24 (0, 0)) (by (with_reducible repeat (first |  refine zKn ?_ _|  refine zKd ?_|  refine zKa ?_ _)); exact BK493.out) hb); clear hb hbox hg)|((with_reducible refine gate_dst (N := 4) rfl ?_); refine box_event ?hg (N := 4) ?hd (cs := #[.bool false, .slice none 0 0]) (t := 24) ?hr ?_; (case hd => rfl); (case hg => rfl); (case hr => first | (go_simp; done)|(go_simp; rfl)|(go_simp; rw [show ∀ x : Int, IntKind.u32.wrap (IntKind.u8.wrap x) = x % 256 from fun x => (by show (x % 256) % 4294967296 = x % 256; omega)])); intro gb495 hg w7 hbox hb; have BK495 := zMk (hbox); have GW495 := zMk ((by rw [hg]; exact (zBs (by exact uT HB.out)) : w.heap.size ≤ gb495)); have GE495 := zMk ((by rw [hg]; exact (zBs (by exact uT HB.out)) : w.heap.size ≤ gb495)); have IGE495 := ownGe GE495.out; replace HB := zMk (zBt (by exact uT HB.out) hb); have NB493_495 := zMk ((by rw [hg]; exact Nat.ne_of_lt (blk_lt (g := gb493) (o := .cells #[.bool a0_0, .slice A0_1 l0_1.length c0_1] 24 (0, 0)) (by (with_reducible repeat (first |  refine zKn ?_ _|  refine zKd ?_|  refine zKa ?_ _)); exact BK493.out)) : gb493 ≠ gb495)); have NB495_493 := zMk ((by rw [hg]; exact Nat.ne_of_gt (blk_lt (g := gb493) (o := .cells #[.bool a0_0, .slice A0_1 l0_1.length c0_1] 24 (0, 0)) (by (with_reducible repeat (first |  refine zKn ?_ _|  refine zKd ?_|  refine zKa ?_ _)); exact BK493.out)) : gb495 ≠ gb493)); replace BK493 := zMk (zKb (g := gb493) (o := .cells #[.bool a0_0, .slice A0_1 l0_1.length c0_1] 24 (0, 0)) (by (with_reducible repeat (first |  refine zKn ?_ _|  refine zKd ?_|  refine zKa ?_ _)); exact BK493.out) hb); have NB494_495 := zMk ((by rw [hg]; exact Nat.ne_of_lt (blk_lt (g := gb494) (o := .cells #[.bool a1_0, .slice A1_1 l1_1.length c1_1] 24 (0, 0)) (by (with_reducible repeat (first |  refine zKn ?_ _|  refine zKd ?_|  refine zKa ?_ _)); exact BK494.out)) : gb494 ≠ gb495)); have NB495_494 := zMk ((by rw [hg]; exact Nat.ne_of_gt (blk_lt (g := gb494) (o := .cells #[.bool a1_0, .slice A1_1 l1_1.length c1_1] 24 (0, 0)) (by (with_reducible repeat (first |  refine zKn ?_ _|  refine zKd ?_|  refine zKa ?_ _)); exact BK494.out)) : gb495 ≠ gb494)); replace BK494 := zMk (zKb (g := gb494) (o := .cells #[.bool a1_0, .slice A1_1 l1_1.length c1_1] 24 (0, 0)) (by (with_reducible repeat (first |  refine zKn ?_ _|  refine zKd ?_|  refine zKa ?_ _)); exact BK494.out) hb); clear hb hbox hg))
  replace BK493 := zMk (zKd BK493.out)
  replace BK494 := zMk (zKd BK494.out)
  replace BK495 := zMk (zKd BK495.out)
  replace HB := zMk (zBd HB.out)
  refine start_ (n := 12) (S := fun w' => w'.cell? ⟨gb493, 0, none⟩ = some (.bool a0_0) ∧ w'.cell? ⟨gb493, 1, none⟩ = some (.slice A0_1 l0_1.length c0_1) ∧ w'.cell? ⟨gb494, 0, none⟩ = some (.bool a1_0) ∧ w'.cell? ⟨gb494, 1, none⟩ = some (.slice A1_1 l1_1.length c1_1)) (ds := []) #[false, false, false, false, false, false, false, false, false, false, false, false] (by kernel_rfl) rfl rfl ⟨(zKc BK493.out 0).trans rfl, (zKc BK493.out 1).trans rfl, (zKc BK494.out 0).trans rfl, (zKc BK494.out 1).trans rfl⟩ (fun hHeld => ?_); refine with_tabW integer_Mul.tab1 integer_Mul.bits1 (fun HT_ HW_ => ?_)
  generalize w7.drew = w8 at BK493 BK494 BK495 HB hHeld ⊢
  refine pure_ (i := 0) (N := some 5) (v := ?_) (a' := ?_) #[true, false, false, false, false, false, false, false, false, false, false, false] rfl rfl (any_of HT_.out (by kernel_rfl)) (fun _ _ _ h => h) (Or.inl ⟨by rfl, ?_⟩) ?_ ?_
  rotate_left
  · intro w'
    go_simp
    with_reducible rfl
  rotate_left
  · simp only [Act.put, zSa, zSb, zSc, i64_w, i32_w]
    rfl
  refine pure_ (i := 2) (N := some 7) (v := ?_) (a' := ?_) #[true, false, true, false, false, false, false, false, false, false, false, false] rfl rfl (any_of HT_.out (by kernel_rfl)) (fun _ _ _ h => h) (Or.inl ⟨by rfl, ?_⟩) ?_ ?_
  rotate_left
  · intro w'
    go_simp
    with_reducible rfl
  rotate_left
  · simp only [Act.put, zSa, zSb, zSc, i64_w, i32_w]
    rfl
  refine pure_ (i := 5) (N := some 10) (v := ?_) (a' := ?_) #[true, false, true, false, false, true, false, false, false, false, false, false] rfl rfl (any_of HT_.out (by kernel_rfl)) (fun _ _ _ h => h) (Or.inl ⟨by rfl, ?_⟩) ?_ ?_
  rotate_left
  · intro w'
    go_simp
    with_reducible rfl
  rotate_left
  · simp only [Act.put, zSa, zSb, zSc, i64_w, i32_w]
    rfl
  refine pure_ (i := 7) (N := some 12) (v := ?_) (a' := ?_) #[true, false, true, false, false, true, false, true, false, false, false, false] rfl rfl (any_of HT_.out (by kernel_rfl)) (fun _ _ _ h => h) (Or.inl ⟨by rfl, ?_⟩) ?_ ?_
  rotate_left
  · intro w'
    go_simp
    with_reducible rfl
  rotate_left
  · simp only [Act.put, zSa, zSb, zSc, i64_w, i32_w]
    rfl
  refine take_ (i := 1) (N := some 6) (v := ?_) (a' := ?_) #[true, true, true, false, false, true, false, true, false, false, false, false] rfl rfl (take_ofW HT_.out HW_.out (by kernel_rfl)) (fun _ _ _ h => h) (Or.inl ⟨by rfl, ?_⟩) hHeld ?_ ?_
  rotate_left
  · rintro w' ⟨s0, s1, s2, s3⟩
    go_simp
    with_reducible rfl
  rotate_left
  · simp only [Act.put, zSa, zSb, zSc, i64_w, i32_w]
    rfl
  refine take_ (i := 3) (N := some 8) (v := ?_) (a' := ?_) #[true, true, true, true, false, true, false, true, false, false, false, false] rfl rfl (take_ofW HT_.out HW_.out (by kernel_rfl)) (fun _ _ _ h => h) (Or.inl ⟨by rfl, ?_⟩) hHeld ?_ ?_
  rotate_left
  · rintro w' ⟨s0, s1, s2, s3⟩
    go_simp
    with_reducible rfl
  rotate_left
  · simp only [Act.put, zSa, zSb, zSc, i64_w, i32_w]
    rfl
  refine pure_ (i := 4) (N := some 9) (v := ?_) (a' := ?_) #[true, true, true, true, true, true, false, true, false, false, false, false] rfl rfl (any_of HT_.out (by kernel_rfl)) (fun _ _ _ h => h) (Or.inl ⟨by rfl, ?_⟩) ?_ ?_
  rotate_left
  · intro w'
    go_simp
    with_reducible rfl
  rotate_left
  · simp only [Act.put, zSa, zSb, zSc, i64_w, i32_w]
    rfl
  refine take_ (i := 6) (N := some 11) (v := ?_) (a' := ?_) #[true, true, true, true, true, true, true, true, false, false, false, false] rfl rfl (take_ofW HT_.out HW_.out (by kernel_rfl)) (fun _ _ _ h => h) (Or.inl ⟨by rfl, ?_⟩) hHeld ?_ ?_
  rotate_left
  · rintro w' ⟨s0, s1, s2, s3⟩
    go_simp
    with_reducible rfl
  rotate_left
  · simp only [Act.put, zSa, zSb, zSc, i64_w, i32_w]
    rfl
  refine take_ (i := 8) (N := some 13) (v := ?_) (a' := ?_) #[true, true, true, true, true, true, true, true, true, false, false, false] rfl rfl (take_ofW HT_.out HW_.out (by kernel_rfl)) (fun _ _ _ h => h) (Or.inl ⟨by rfl, ?_⟩) hHeld ?_ ?_
  rotate_left
  · rintro w' ⟨s0, s1, s2, s3⟩
    go_simp
    with_reducible rfl
  rotate_left
  · simp only [Act.put, zSa, zSb, zSc, i64_w, i32_w]
    rfl
  refine one_ (i := 9) (N := some 14) #[true, true, true, true, true, true, true, true, true, true, false, false] rfl rfl (one_of HT_.out (by kernel_rfl)) (by decide) (fun K hK => ?_)
  refine goes_ Tryd.func45 (by kernel_rfl) rfl #[.slice A0_1 l0_1.length c0_1, .slice A1_1 l1_1.length c1_1] (by rfl) rfl rfl (by (try simp only [zMa, zMc, zMn]); first | done | rfl | (simp only [zLd, zLt]; rfl)) ?_
  with_reducible refine (n_Mul.calls k (fun k_ => k_ < w.heap.size) _ _ l0_1 (fun k_ => k_ < w.heap.size) _ _ l1_1 t496 _ ?side1 ?side2 A3.out).mono ?_
  (case side1 => exact Kd.V_mk HC0_1.out (Kd.F_below (Kd.C_F (Kd.heap_int .u32) HR0_1.out) (by exact uT HB.out)))
  (case side2 => exact Kd.V_mk HC1_1.out (Kd.F_below (Kd.C_F (Kd.heap_int .u32) HR1_1.out) (by exact uT HB.out)))
  rintro e w9 ⟨v497, rfl, ho0, hb⟩
  refine ⟨_, rfl, ?_⟩
  have HO498 := zMk (zVl (zVm (ok' := fun k_ => k_ ≠ gb493 ∧ k_ ≠ gb494 ∧ k_ ≠ gb495) ho0 (fun k_ hk_ => ⟨Or.elim hk_ (fun hs_ => Or.elim hs_ (fun hs_ => fun e_ => Nat.not_le.2 hs_ (by rw [e_]; exact GW493.out)) (fun hs_ => fun e_ => Nat.not_le.2 hs_ (by rw [e_]; exact GW493.out))) (fun hn_ => (Kd.freshB (g := gb493) (o := .cells #[.bool a0_0, .slice A0_1 l0_1.length c0_1] 24 (0, 0)) (by (with_reducible repeat (first | refine zKn ?_ _ | refine zKd ?_ | refine zKa ?_ _)); exact BK493.out) k_ hn_)), Or.elim hk_ (fun hs_ => Or.elim hs_ (fun hs_ => fun e_ => Nat.not_le.2 hs_ (by rw [e_]; exact GW494.out)) (fun hs_ => fun e_ => Nat.not_le.2 hs_ (by rw [e_]; exact GW494.out))) (fun hn_ => (Kd.freshB (g := gb494) (o := .cells #[.bool a1_0, .slice A1_1 l1_1.length c1_1] 24 (0, 0)) (by (with_reducible repeat (first | refine zKn ?_ _ | refine zKd ?_ | refine zKa ?_ _)); exact BK494.out) k_ hn_)), Or.elim hk_ (fun hs_ => Or.elim hs_ (fun hs_ => fun e_ => Nat.not_le.2 hs_ (by rw [e_]; exact GW495.out)) (fun hs_ => fun e_ => Nat.not_le.2 hs_ (by rw [e_]; exact GW495.out))) (fun hn_ => (Kd.freshB (g := gb495) (o := .cells #[.bool false, .slice none 0 0] 24 (0, 0)) (by (with_reducible repeat (first | refine zKn ?_ _ | refine zKd ?_ | refine zKa ?_ _)); exact BK495.out) k_ hn_))⟩)) (zBs (by exact uT HB.out)))
  replace BK493 := zMk (zKb (g := gb493) (o := .cells #[.bool a0_0, .slice A0_1 l0_1.length c0_1] 24 (0, 0)) (by (with_reducible repeat (first | refine zKn ?_ _ | refine zKd ?_ | refine zKa ?_ _)); exact BK493.out) hb)
  replace BK494 := zMk (zKb (g := gb494) (o := .cells #[.bool a1_0, .slice A1_1 l1_1.length c1_1] 24 (0, 0)) (by (with_reducible repeat (first | refine zKn ?_ _ | refine zKd ?_ | refine zKa ?_ _)); exact BK494.out) hb)
  replace BK495 := zMk (zKb (g := gb495) (o := .cells #[.bool false, .slice none 0 0] 24 (0, 0)) (by (with_reducible repeat (first | refine zKn ?_ _ | refine zKd ?_ | refine zKa ?_ _)); exact BK495.out) hb)
  replace HB := zMk (zBt (by exact uT HB.out) hb)
  obtain ⟨Ao10, co10, eo10⟩ := zVs HO498.out
  (first |  subst eo10|  (injection eo10 with f1_ f2_ f3_; have f4_ := f1_.symm; have f5_ := f3_.symm; clear f1_ f2_ f3_; subst f4_; subst f5_))
  refine hK.out _ _ ⟨(zKc BK493.out 0).trans rfl, (zKc BK493.out 1).trans rfl, (zKc BK494.out 0).trans rfl, (zKc BK494.out 1).trans rfl⟩ (fun hHeld => ?_)
  clear hK K
  refine norm_ (a' := ?_) ?_ ?_
  rotate_left
  · show Act.put _ (some 14) _ = _
    simp only [Act.put, zSa, zSb, zSc, i64_w, i32_w]
    rfl
  refine one_ (i := 10) (N := some 15) #[true, true, true, true, true, true, true, true, true, true, true, false] rfl rfl (one_of HT_.out (by kernel_rfl)) (by decide) (fun K hK => ?_)
  refine goes_ Tryd.func36 (by kernel_rfl) rfl #[.bool (a0_0 != a1_0), .slice Ao10 t496.length co10] (by rfl) rfl rfl (by (try simp only [zMa, zMc, zMn]); first | done | rfl | (simp only [zLd, zLt]; rfl)) ?_
  with_reducible refine (integer_signed.calls (a0_0 != a1_0) _ _ t496 t499 t500 _ ?side1 ?side2 A4.out).mono ?_
  (case side1 => exact uC (zVr HO498.out).2.2)
  (case side2 => exact (zVr HO498.out).2.1)
  rintro e w11 ⟨v501, rfl, ho0, hb⟩
  refine ⟨_, rfl, ?_⟩
  replace HO498 := zMk (zVe (by exact uV HO498.out) (zRz ho0) hb)
  have HO502 := zMk (zRl ho0 (zBs (by exact uT HB.out)))
  replace BK493 := zMk (zKb (g := gb493) (o := .cells #[.bool a0_0, .slice A0_1 l0_1.length c0_1] 24 (0, 0)) (by (with_reducible repeat (first | refine zKn ?_ _ | refine zKd ?_ | refine zKa ?_ _)); exact BK493.out) hb)
  replace BK494 := zMk (zKb (g := gb494) (o := .cells #[.bool a1_0, .slice A1_1 l1_1.length c1_1] 24 (0, 0)) (by (with_reducible repeat (first | refine zKn ?_ _ | refine zKd ?_ | refine zKa ?_ _)); exact BK494.out) hb)
  replace BK495 := zMk (zKb (g := gb495) (o := .cells #[.bool false, .slice none 0 0] 24 (0, 0)) (by (with_reducible repeat (first | refine zKn ?_ _ | refine zKd ?_ | refine zKa ?_ _)); exact BK495.out) hb)
  replace HB := zMk (zBt (by exact uT HB.out) hb)
  obtain ⟨Ao13, co13, eo13⟩ := zRs HO502.out
  (first |  subst eo13|  (injection eo13 with f1_ f2_ f3_; have f4_ := f1_.symm; have f5_ := f3_.symm; clear f1_ f2_ f3_; subst f4_; subst f5_))
  refine hK.out _ _ ⟨(zKc BK493.out 0).trans rfl, (zKc BK493.out 1).trans rfl, (zKc BK494.out 0).trans rfl, (zKc BK494.out 1).trans rfl⟩ (fun hHeld => ?_)
  clear hK K
  refine norm_ (a' := ?_) ?_ ?_
  rotate_left
  · show Act.put _ (some 15) _ = _
    simp only [Act.put, zSa, zSb, zSc, i64_w, i32_w]
    rfl
  refine one_ (i := 11) (N := none) #[true, true, true, true, true, true, true, true, true, true, true, true] rfl rfl (one_of HT_.out (by kernel_rfl)) (by decide) (fun K hK => ?_)
  have hs12 : w11.cell? ⟨gb495, 0, none⟩ = some (.bool false) := (zKc BK495.out 0).trans rfl
  have hfs12 := zKf BK495.out 0
  have hns12_0 := NB493_495.out
  have hns12_1 := NB494_495.out
  have hms12_0 := NB495_493.out
  have hms12_1 := NB495_494.out
  have hs14 : w11.cell? ⟨gb495, 1, none⟩ = some (.slice none 0 0) := (zKc BK495.out 1).trans rfl
  have hfs14 := zKf BK495.out 1
  have hns14_0 := NB493_495.out
  have hns14_1 := NB494_495.out
  have hms14_0 := NB495_493.out
  have hms14_1 := NB495_494.out
  refine skip_ (w1 := ?_) (by rfl) rfl ?_ ?_
  rotate_left
  · go_simp
    rfl
  refine hK.out _ _ ⟨((cell_far (p := ⟨gb495, _, none⟩) NB493_495.out _).trans (((cell_far (p := ⟨gb495, _, none⟩) NB493_495.out _).trans (hHeld.1)))), ((cell_far (p := ⟨gb495, _, none⟩) NB493_495.out _).trans (((cell_far (p := ⟨gb495, _, none⟩) NB493_495.out _).trans (hHeld.2.1)))), ((cell_far (p := ⟨gb495, _, none⟩) NB494_495.out _).trans (((cell_far (p := ⟨gb495, _, none⟩) NB494_495.out _).trans (hHeld.2.2.1)))), ((cell_far (p := ⟨gb495, _, none⟩) NB494_495.out _).trans (((cell_far (p := ⟨gb495, _, none⟩) NB494_495.out _).trans (hHeld.2.2.2))))⟩ (fun hHeld => ?_)
  clear hK K
  refine done_ (done_of HT_.out (by kernel_rfl)) ?_
  try go_wp2
  refine bodyPost_ret (results_cell_row rfl _ _ gb495 24 #[.bool t499, .slice Ao13 t500.length co13] (0, 0) _ rfl (by (with_reducible repeat (first | refine zKn ?_ _ | refine zKd ?_ | refine zKa ?_ _)); refine blk_put (cs := #[.bool t499, .slice none 0 0]) ?_ 1 _ rfl; (with_reducible repeat (first | refine zKn ?_ _ | refine zKd ?_ | refine zKa ?_ _)); refine blk_put (cs := #[.bool false, .slice none 0 0]) ?_ 0 _ rfl; (with_reducible repeat (first | refine zKn ?_ _ | refine zKd ?_ | refine zKa ?_ _)); exact BK495.out) Tryd.underlying24 rfl (by kernel_rfl)) rfl ?_
  exact ⟨_, by first | rfl | (simp [errW_none, errW_some] <;> rfl) | (simp [*, errW_none, errW_some] <;> rfl), by (with_reducible repeat (first | apply zRa | apply zRn | apply zRd)); exact zRm (Kd.R_far (p := ⟨gb495, 1, none⟩) (Kd.R_far (p := ⟨gb495, 0, none⟩) (Kd.R_types HO502.out BK495.out (by decide)) (fun _ hk => hk.2) (.bool t499)) (fun _ hk => hk.2) (.slice Ao13 t500.length co13)) (fun _ hk => trivial), by exact uT HB.out⟩


def filigreeref02_Sub.f (k : Nat) (a0_0 : Bool) (l0_1 : List Int) (a1_0 : Bool) (l1_1 : List Int) : Option (Bool × List Int) := (filigreeref02_Neg.f k a1_0 l1_1).bind fun bt686 => ((filigreeref02_Add.f k a0_0 l0_1 bt686.1 bt686.2).bind fun bt690 => (some (bt690.1, bt690.2)))
theorem filigreeref02_Sub.calls (k : Nat) (a0_0 : Bool) (A0_1 : Option Addr) (c0_1 : Nat) (l0_1 : List Int) (a1_0 : Bool) (A1_1 : Option Addr) (c1_1 : Nat) (l1_1 : List Int) (r1 : Bool) (r2 : List Int) (w : World) (hr0_1 : Kd.C (Kd.int .u32) w A0_1 l0_1.length l0_1) (hc0_1 : l0_1.length ≤ c0_1) (hr1_1 : Kd.C (Kd.int .u32) w A1_1 l1_1.length l1_1) (hc1_1 : l1_1.length ≤ c1_1) (h : filigreeref02_Sub.f k a0_0 l0_1 a1_0 l1_1 = some (r1, r2)) :
    Calls Tryd.prog 20 #[.agg #[.bool a0_0, .slice A0_1 l0_1.length c0_1], .agg #[.bool a1_0, .slice A1_1 l1_1.length c1_1]] w fun e w' => ∃ v1_ : Value, e = .returned (.agg #[.bool r1, v1_]) ∧ Kd.R (Kd.int .u32) 58 w' w.heap.size (fun _ => True) v1_ r2 ∧ Below w.heap.size w w' := by
  have hu24 := Tryd.underlying24
  have HR0_1 := zMk hr0_1
  have HC0_1 := zMk hc0_1
  clear hr0_1 hc0_1
  have HR1_1 := zMk hr1_1
  have HC1_1 := zMk hc1_1
  clear hr1_1 hc1_1
  have HB := zMk (Below.refl w.heap.size w)
  have H : ((filigreeref02_Neg.f k a1_0 l1_1).bind fun bt686 => ((filigreeref02_Add.f k a0_0 l0_1 bt686.1 bt686.2).bind fun bt690 => (some (bt690.1, bt690.2)))) = some (r1, r2) := h
  clear h
  replace H := bnd H
  obtain ⟨⟨t686, t687⟩, A30, H⟩ := H
  replace H : ((filigreeref02_Add.f k a0_0 l0_1 t686 t687).bind fun bt690 => (some (bt690.1, bt690.2))) = some (r1, r2) := H
  have A3 := zMk A30
  clear A30
  replace H := bnd H
  obtain ⟨⟨t690, t691⟩, A40, H⟩ := H
  replace H : (some (t690, t691)) = some (r1, r2) := H
  have A4 := zMk A40
  clear A40
  simp only [Option.some.injEq, Prod.mk.injEq] at H
  obtain ⟨rfl, rfl⟩ := H
  go_enter Tryd.func20, Tryd.ntmps20
  try go_wp2_with (first | ((with_reducible refine gate_dst (N := 2) rfl ?_); refine box_event ?hg (N := 2) ?hd (cs := #[.bool a0_0, .slice A0_1 l0_1.length c0_1]) (t := 24) ?hr ?_; (case hd => rfl); (case hg => rfl); (case hr => first | (go_simp; done)|(go_simp; rfl)|(go_simp; rw [show ∀ x : Int, IntKind.u32.wrap (IntKind.u8.wrap x) = x % 256 from fun x => (by show (x % 256) % 4294967296 = x % 256; omega)])); intro gb683 hg w5 hbox hb; have BK683 := zMk (hbox); have GW683 := zMk ((by rw [hg]; exact (zBs (by exact uT HB.out)) : w.heap.size ≤ gb683)); have GE683 := zMk ((by rw [hg]; exact (zBs (by exact uT HB.out)) : w.heap.size ≤ gb683)); have IGE683 := ownGe GE683.out; replace HB := zMk (zBt (by exact uT HB.out) hb); clear hb hbox hg)|((with_reducible refine gate_dst (N := 3) rfl ?_); refine box_event ?hg (N := 3) ?hd (cs := #[.bool a1_0, .slice A1_1 l1_1.length c1_1]) (t := 24) ?hr ?_; (case hd => rfl); (case hg => rfl); (case hr => first | (go_simp; done)|(go_simp; rfl)|(go_simp; rw [show ∀ x : Int, IntKind.u32.wrap (IntKind.u8.wrap x) = x % 256 from fun x => (by show (x % 256) % 4294967296 = x % 256; omega)])); intro gb684 hg w6 hbox hb; have BK684 := zMk (hbox); have GW684 := zMk ((by rw [hg]; exact (zBs (by exact uT HB.out)) : w.heap.size ≤ gb684)); have GE684 := zMk ((by rw [hg]; exact (zBs (by exact uT HB.out)) : w.heap.size ≤ gb684)); have IGE684 := ownGe GE684.out; replace HB := zMk (zBt (by exact uT HB.out) hb); have NB683_684 := zMk ((by rw [hg]; exact Nat.ne_of_lt (blk_lt (g := gb683) (o := .cells #[.bool a0_0, .slice A0_1 l0_1.length c0_1] 24 (0, 0)) (by (with_reducible repeat (first |  refine zKn ?_ _|  refine zKd ?_|  refine zKa ?_ _)); exact BK683.out)) : gb683 ≠ gb684)); have NB684_683 := zMk ((by rw [hg]; exact Nat.ne_of_gt (blk_lt (g := gb683) (o := .cells #[.bool a0_0, .slice A0_1 l0_1.length c0_1] 24 (0, 0)) (by (with_reducible repeat (first |  refine zKn ?_ _|  refine zKd ?_|  refine zKa ?_ _)); exact BK683.out)) : gb684 ≠ gb683)); replace BK683 := zMk (zKb (g := gb683) (o := .cells #[.bool a0_0, .slice A0_1 l0_1.length c0_1] 24 (0, 0)) (by (with_reducible repeat (first |  refine zKn ?_ _|  refine zKd ?_|  refine zKa ?_ _)); exact BK683.out) hb); clear hb hbox hg)|((with_reducible refine gate_dst (N := 4) rfl ?_); refine box_event ?hg (N := 4) ?hd (cs := #[.bool false, .slice none 0 0]) (t := 24) ?hr ?_; (case hd => rfl); (case hg => rfl); (case hr => first | (go_simp; done)|(go_simp; rfl)|(go_simp; rw [show ∀ x : Int, IntKind.u32.wrap (IntKind.u8.wrap x) = x % 256 from fun x => (by show (x % 256) % 4294967296 = x % 256; omega)])); intro gb685 hg w7 hbox hb; have BK685 := zMk (hbox); have GW685 := zMk ((by rw [hg]; exact (zBs (by exact uT HB.out)) : w.heap.size ≤ gb685)); have GE685 := zMk ((by rw [hg]; exact (zBs (by exact uT HB.out)) : w.heap.size ≤ gb685)); have IGE685 := ownGe GE685.out; replace HB := zMk (zBt (by exact uT HB.out) hb); have NB683_685 := zMk ((by rw [hg]; exact Nat.ne_of_lt (blk_lt (g := gb683) (o := .cells #[.bool a0_0, .slice A0_1 l0_1.length c0_1] 24 (0, 0)) (by (with_reducible repeat (first |  refine zKn ?_ _|  refine zKd ?_|  refine zKa ?_ _)); exact BK683.out)) : gb683 ≠ gb685)); have NB685_683 := zMk ((by rw [hg]; exact Nat.ne_of_gt (blk_lt (g := gb683) (o := .cells #[.bool a0_0, .slice A0_1 l0_1.length c0_1] 24 (0, 0)) (by (with_reducible repeat (first |  refine zKn ?_ _|  refine zKd ?_|  refine zKa ?_ _)); exact BK683.out)) : gb685 ≠ gb683)); replace BK683 := zMk (zKb (g := gb683) (o := .cells #[.bool a0_0, .slice A0_1 l0_1.length c0_1] 24 (0, 0)) (by (with_reducible repeat (first |  refine zKn ?_ _|  refine zKd ?_|  refine zKa ?_ _)); exact BK683.out) hb); have NB684_685 := zMk ((by rw [hg]; exact Nat.ne_of_lt (blk_lt (g := gb684) (o := .cells #[.bool a1_0, .slice A1_1 l1_1.length c1_1] 24 (0, 0)) (by (with_reducible repeat (first |  refine zKn ?_ _|  refine zKd ?_|  refine zKa ?_ _)); exact BK684.out)) : gb684 ≠ gb685)); have NB685_684 := zMk ((by rw [hg]; exact Nat.ne_of_gt (blk_lt (g := gb684) (o := .cells #[.bool a1_0, .slice A1_1 l1_1.length c1_1] 24 (0, 0)) (by (with_reducible repeat (first |  refine zKn ?_ _|  refine zKd ?_|  refine zKa ?_ _)); exact BK684.out)) : gb685 ≠ gb684)); replace BK684 := zMk (zKb (g := gb684) (o := .cells #[.bool a1_0, .slice A1_1 l1_1.length c1_1] 24 (0, 0)) (by (with_reducible repeat (first |  refine zKn ?_ _|  refine zKd ?_|  refine zKa ?_ _)); exact BK684.out) hb); clear hb hbox hg))
  replace BK683 := zMk (zKd BK683.out)
  replace BK684 := zMk (zKd BK684.out)
  replace BK685 := zMk (zKd BK685.out)
  replace HB := zMk (zBd HB.out)
  refine start_ (n := 5) (S := fun w' => w'.cell? ⟨gb683, 0, none⟩ = some (.bool a0_0) ∧ w'.cell? ⟨gb683, 1, none⟩ = some (.slice A0_1 l0_1.length c0_1) ∧ w'.cell? ⟨gb684, 0, none⟩ = some (.bool a1_0) ∧ w'.cell? ⟨gb684, 1, none⟩ = some (.slice A1_1 l1_1.length c1_1)) (ds := []) #[false, false, false, false, false] (by kernel_rfl) rfl rfl ⟨(zKc BK683.out 0).trans rfl, (zKc BK683.out 1).trans rfl, (zKc BK684.out 0).trans rfl, (zKc BK684.out 1).trans rfl⟩ (fun hHeld => ?_)
  generalize w7.drew = w8 at BK683 BK684 BK685 HB hHeld ⊢
  refine take_ (i := 0) (N := some 5) (v := ?_) (a' := ?_) #[true, false, false, false, false] rfl rfl (by kernel_rfl) (fun _ _ _ h => h) (Or.inl ⟨by rfl, ?_⟩) hHeld ?_ ?_
  rotate_left
  · rintro w' ⟨s0, s1, s2, s3⟩
    go_simp
    with_reducible rfl
  rotate_left
  · simp only [Act.put, zSa, zSb, zSc, i64_w, i32_w]
    rfl
  refine take_ (i := 1) (N := some 6) (v := ?_) (a' := ?_) #[true, true, false, false, false] rfl rfl (by kernel_rfl) (fun _ _ _ h => h) (Or.inl ⟨by rfl, ?_⟩) hHeld ?_ ?_
  rotate_left
  · rintro w' ⟨s0, s1, s2, s3⟩
    go_simp
    with_reducible rfl
  rotate_left
  · simp only [Act.put, zSa, zSb, zSc, i64_w, i32_w]
    rfl
  refine one_ (i := 2) (N := some 7) #[true, true, true, false, false] rfl rfl (by kernel_rfl) (by decide) (fun K hK => ?_)
  refine goes_ Tryd.func44 (by kernel_rfl) rfl #[.agg #[.bool a1_0, .slice A1_1 l1_1.length c1_1]] (by rfl) rfl rfl (by (try simp only [zMa, zMc, zMn]); first | done | rfl | (simp only [zLd, zLt]; rfl)) ?_
  with_reducible refine (filigreeref02_Neg.calls k a1_0 _ _ l1_1 t686 t687 _ ?side1 ?side2 A3.out).mono ?_
  (case side1 => repeat (first | exact (Kd.C_below HR1_1.out HB.out) | (with_reducible refine zCa ?_ _) | (with_reducible refine zCn ?_ _) | (with_reducible refine zCd ?_)))
  (case side2 => exact HC1_1.out)
  rintro e w9 ⟨v688, rfl, ho0, hb⟩
  refine ⟨_, rfl, ?_⟩
  have HO689 := zMk (zRl ho0 (zBs (by exact uT HB.out)))
  replace BK683 := zMk (zKb (g := gb683) (o := .cells #[.bool a0_0, .slice A0_1 l0_1.length c0_1] 24 (0, 0)) (by (with_reducible repeat (first | refine zKn ?_ _ | refine zKd ?_ | refine zKa ?_ _)); exact BK683.out) hb)
  replace BK684 := zMk (zKb (g := gb684) (o := .cells #[.bool a1_0, .slice A1_1 l1_1.length c1_1] 24 (0, 0)) (by (with_reducible repeat (first | refine zKn ?_ _ | refine zKd ?_ | refine zKa ?_ _)); exact BK684.out) hb)
  replace BK685 := zMk (zKb (g := gb685) (o := .cells #[.bool false, .slice none 0 0] 24 (0, 0)) (by (with_reducible repeat (first | refine zKn ?_ _ | refine zKd ?_ | refine zKa ?_ _)); exact BK685.out) hb)
  replace HB := zMk (zBt (by exact uT HB.out) hb)
  obtain ⟨Ao10, co10, eo10⟩ := zRs HO689.out
  (first |  subst eo10|  (injection eo10 with f1_ f2_ f3_; have f4_ := f1_.symm; have f5_ := f3_.symm; clear f1_ f2_ f3_; subst f4_; subst f5_))
  refine hK.out _ _ ⟨(zKc BK683.out 0).trans rfl, (zKc BK683.out 1).trans rfl, (zKc BK684.out 0).trans rfl, (zKc BK684.out 1).trans rfl⟩ (fun hHeld => ?_)
  clear hK K
  refine norm_ (a' := ?_) ?_ ?_
  rotate_left
  · show Act.put _ (some 7) _ = _
    simp only [Act.put, zSa, zSb, zSc, i64_w, i32_w]
    rfl
  refine one_ (i := 3) (N := some 8) #[true, true, true, true, false] rfl rfl (by kernel_rfl) (by decide) (fun K hK => ?_)
  refine goes_ Tryd.func18 (by kernel_rfl) rfl #[.agg #[.bool a0_0, .slice A0_1 l0_1.length c0_1], .agg #[.bool t686, .slice Ao10 t687.length co10]] (by rfl) rfl rfl (by (try simp only [zMa, zMc, zMn]); first | done | rfl | (simp only [zLd, zLt]; rfl)) ?_
  with_reducible refine (filigreeref02_Add.calls k a0_0 _ _ l0_1 t686 _ _ t687 t690 t691 _ ?side1 ?side2 ?side3 ?side4 A4.out).mono ?_
  (case side1 => repeat (first | exact (Kd.C_below HR0_1.out HB.out) | (with_reducible refine zCa ?_ _) | (with_reducible refine zCn ?_ _) | (with_reducible refine zCd ?_)))
  (case side2 => exact HC0_1.out)
  (case side3 => exact uC (zRr HO689.out).2.2)
  (case side4 => exact (zRr HO689.out).2.1)
  rintro e w11 ⟨v692, rfl, ho0, hb⟩
  refine ⟨_, rfl, ?_⟩
  have HO693 := zMk (zRl (zRw ho0 (zRt (by exact uR HO689.out))) (zBs (by exact uT HB.out)))
  replace HO689 := zMk (zRe (by exact uR HO689.out) (zRz ho0) hb)
  replace BK683 := zMk (zKb (g := gb683) (o := .cells #[.bool a0_0, .slice A0_1 l0_1.length c0_1] 24 (0, 0)) (by (with_reducible repeat (first | refine zKn ?_ _ | refine zKd ?_ | refine zKa ?_ _)); exact BK683.out) hb)
  replace BK684 := zMk (zKb (g := gb684) (o := .cells #[.bool a1_0, .slice A1_1 l1_1.length c1_1] 24 (0, 0)) (by (with_reducible repeat (first | refine zKn ?_ _ | refine zKd ?_ | refine zKa ?_ _)); exact BK684.out) hb)
  replace BK685 := zMk (zKb (g := gb685) (o := .cells #[.bool false, .slice none 0 0] 24 (0, 0)) (by (with_reducible repeat (first | refine zKn ?_ _ | refine zKd ?_ | refine zKa ?_ _)); exact BK685.out) hb)
  replace HB := zMk (zBt (by exact uT HB.out) hb)
  obtain ⟨Ao13, co13, eo13⟩ := zRs HO693.out
  (first |  subst eo13|  (injection eo13 with f1_ f2_ f3_; have f4_ := f1_.symm; have f5_ := f3_.symm; clear f1_ f2_ f3_; subst f4_; subst f5_))
  refine hK.out _ _ ⟨(zKc BK683.out 0).trans rfl, (zKc BK683.out 1).trans rfl, (zKc BK684.out 0).trans rfl, (zKc BK684.out 1).trans rfl⟩ (fun hHeld => ?_)
  clear hK K
  refine norm_ (a' := ?_) ?_ ?_
  rotate_left
  · show Act.put _ (some 8) _ = _
    simp only [Act.put, zSa, zSb, zSc, i64_w, i32_w]
    rfl
  refine one_ (i := 4) (N := none) #[true, true, true, true, true] rfl rfl (by kernel_rfl) (by decide) (fun K hK => ?_)
  have hs12 : w11.cell? ⟨gb685, 0, none⟩ = some (.bool false) := (zKc BK685.out 0).trans rfl
  have hfs12 := zKf BK685.out 0
  have hns12_0 := NB683_685.out
  have hns12_1 := NB684_685.out
  have hms12_0 := NB685_683.out
  have hms12_1 := NB685_684.out
  have hs14 : w11.cell? ⟨gb685, 1, none⟩ = some (.slice none 0 0) := (zKc BK685.out 1).trans rfl
  have hfs14 := zKf BK685.out 1
  have hns14_0 := NB683_685.out
  have hns14_1 := NB684_685.out
  have hms14_0 := NB685_683.out
  have hms14_1 := NB685_684.out
  refine skip_ (w1 := ?_) (by rfl) rfl ?_ ?_
  rotate_left
  · go_simp
    rfl
  refine hK.out _ _ ⟨((cell_far (p := ⟨gb685, _, none⟩) NB683_685.out _).trans (((cell_far (p := ⟨gb685, _, none⟩) NB683_685.out _).trans (hHeld.1)))), ((cell_far (p := ⟨gb685, _, none⟩) NB683_685.out _).trans (((cell_far (p := ⟨gb685, _, none⟩) NB683_685.out _).trans (hHeld.2.1)))), ((cell_far (p := ⟨gb685, _, none⟩) NB684_685.out _).trans (((cell_far (p := ⟨gb685, _, none⟩) NB684_685.out _).trans (hHeld.2.2.1)))), ((cell_far (p := ⟨gb685, _, none⟩) NB684_685.out _).trans (((cell_far (p := ⟨gb685, _, none⟩) NB684_685.out _).trans (hHeld.2.2.2))))⟩ (fun hHeld => ?_)
  clear hK K
  refine done_ (by kernel_rfl) ?_
  try go_wp2
  refine bodyPost_ret (results_cell_row rfl _ _ gb685 24 #[.bool t690, .slice Ao13 t691.length co13] (0, 0) _ rfl (by (with_reducible repeat (first | refine zKn ?_ _ | refine zKd ?_ | refine zKa ?_ _)); refine blk_put (cs := #[.bool t690, .slice none 0 0]) ?_ 1 _ rfl; (with_reducible repeat (first | refine zKn ?_ _ | refine zKd ?_ | refine zKa ?_ _)); refine blk_put (cs := #[.bool false, .slice none 0 0]) ?_ 0 _ rfl; (with_reducible repeat (first | refine zKn ?_ _ | refine zKd ?_ | refine zKa ?_ _)); exact BK685.out) Tryd.underlying24 rfl (by kernel_rfl)) rfl ?_
  exact ⟨_, by first | rfl | (simp [errW_none, errW_some] <;> rfl) | (simp [*, errW_none, errW_some] <;> rfl), by (with_reducible repeat (first | apply zRa | apply zRn | apply zRd)); exact zRm (Kd.R_far (p := ⟨gb685, 1, none⟩) (Kd.R_far (p := ⟨gb685, 0, none⟩) (Kd.R_types HO693.out BK685.out (by decide)) (fun _ hk => hk.2) (.bool t690)) (fun _ hk => hk.2) (.slice Ao13 t691.length co13)) (fun _ hk => trivial), by exact uT HB.out⟩

end Go.Proofs.YtnjmnicgknggfaaDoor.G
