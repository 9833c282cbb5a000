/- Lemmas for the statement: the walks of the functions that it reaches, and plain laws. -/
import Derived.Test.YtihlelniaiadgaaDoorEt1
import Derived.Test.YtihlelniaiadgaaDoorEt2
import Derived.Test.YtihlelniaiadgaaDoorEt3
set_option linter.unusedVariables false
set_option linter.unusedSimpArgs false
namespace Go.Proofs.YtihlelniaiadgaaDoor.E
open Go Go.RowKit Go.Proofs.YtihlelniaiadgaaDoorW.PrintWords Go.Proofs.YtihlelniaiadgaaDoorW.PrintLast Go.Proofs.YtihlelniaiadgaaDoorW.PrintMore
attribute [local go_sem] max2_int min2_int max_two min_two max_three min_three max_four min_four
open Go.Proofs.YtihlelniaiadgaaDoorW.PrintWords.Kd renaming R_alloc → zRa, R_drewN → zRn, R_drew → zRd, V_alloc → zVa, V_drewN → zVn, V_drew → zVd, V_below → zVb, C_alloc → zCa, C_drewN → zCn, C_drew → zCd, R_mono → zRm, V_mono → zVm, at_int → zAi
open Go.Proofs.YtihlelniaiadgaaDoorW.PrintWords renaming pw_below_drewN → zBn, below_alloc → zBa, below_drew1 → zBd, below_size → zBs, below_step → zBt
open List renaming setIfInBounds_toArray → zSa, set_cons_zero → zSb, set_cons_succ → zSc, length_drop → zLd, length_take → zLt
open Go.Proofs.YtihlelniaiadgaaDoorW.PrintWords.Aside0 renaming mk → zMk
open Option renaming bind_eq_some_iff → zBi, bind_some → zOb
open Option.some renaming inj → zOi
open Int renaming toNat_natCast → zTn

/-! ### r1_Mul: function 24 -/
def r1_Mul.l0 : Nat → List Int → List Int → List Int → List Int → Int → Option (List Int)
  | 0, _, _, _, _, _ => none
  | k + 1, x5, x6, x7, x8, x9 => if x9 < (x6.length : Int) then (if 0 ≤ x9 then (if (rd x6 x9) = 1 then ((some (([] : List Int) : List Int)).bind fun y501 => (if y501.length + x8.length < 140737488355328 then ((some (y501 ++ x8 : List Int)).bind fun y504 => (if y504.length + x5.length < 140737488355328 then ((r1_sum.f k x7 (y504 ++ x5)).bind fun t510 => (if x8.length < 140737488355328 then (r1_Mul.l0 k x5 x6 t510 (x8 ++ [0]) (wrap64 (x9 + 1))) else (none))) else (none))) else (none))) else (if x8.length < 140737488355328 then (r1_Mul.l0 k x5 x6 x7 (x8 ++ [0]) (wrap64 (x9 + 1))) else (none))) else (none)) else ((r1_limbs.f k x7).bind fun t519 => (some t519))
def r1_Mul.f (k : Nat) (l0 : List Int) (l1 : List Int) : Option (List Int) := (r1_Norm.f k l0).bind fun t488 => ((r1_bits.f k t488).bind fun t491 => ((r1_Norm.f k l1).bind fun t494 => ((r1_bits.f k t494).bind fun t497 => (r1_Mul.l0 k t491 t497 ([] : List Int) ([] : List Int) 0))))
set_option maxHeartbeats 8000000 in
set_option maxRecDepth 100000 in
theorem r1_Mul.calls (k : Nat) (A0 : Option Addr) (c0 : Nat) (l0 : List Int) (A1 : Option Addr) (c1 : Nat) (l1 : List Int) (r : List Int) (w : World) (hr0 : Kd.C (Kd.int .u32) w A0 l0.length l0) (hc0 : l0.length ≤ c0) (hr1 : Kd.C (Kd.int .u32) w A1 l1.length l1) (hc1 : l1.length ≤ c1) (h : r1_Mul.f k l0 l1 = some r) :
    Calls Tryd.prog 24 #[.slice A0 l0.length c0, .slice A1 l1.length c1] w fun e w' => ∃ v0_ : Value, e = .returned (v0_) ∧ Kd.R (Kd.int .u32) 36 w' w.heap.size (fun _ => True) v0_ r ∧ Below w.heap.size w w' := by
  have HR0 := zMk hr0
  have HC0 := zMk hc0
  clear hr0 hc0
  have HR1 := zMk hr1
  have HC1 := zMk hc1
  clear hr1 hc1
  have HB := zMk (Below.refl w.heap.size w)
  have H : ((r1_Norm.f k l0).bind fun t488 => ((r1_bits.f k t488).bind fun t491 => ((r1_Norm.f k l1).bind fun t494 => ((r1_bits.f k t494).bind fun t497 => (r1_Mul.l0 k t491 t497 ([] : List Int) ([] : List Int) 0))))) = some r := h
  clear h
  replace H := Option.bind_eq_some_iff.mp H
  obtain ⟨t488, A30, H⟩ := H
  have A3 := zMk A30
  clear A30
  replace H := Option.bind_eq_some_iff.mp H
  obtain ⟨t491, A40, H⟩ := H
  have A4 := zMk A40
  clear A40
  replace H := Option.bind_eq_some_iff.mp H
  obtain ⟨t494, A50, H⟩ := H
  have A5 := zMk A50
  clear A50
  replace H := Option.bind_eq_some_iff.mp H
  obtain ⟨t497, A60, H⟩ := H
  have A6 := zMk A60
  clear A60
  have H' := zMk H
  clear H
  go_enter Tryd.func24, Tryd.ntmps24
  go_wp2_with (first | ((with_reducible refine gate_callee (f := 20) rfl ?_); refine goesL_ (some 11) rfl rfl Tryd.func20 (by kernel_rfl) rfl #[.slice A0 l0.length c0] rfl (by (try simp only [List.map_toArray, List.map_cons, List.map_nil]); first | done | rfl | (simp only [zLd, zLt]; rfl)) ?_; (with_reducible refine (r1_Norm.calls k _ _ l0 t488 _ ?side1 ?side2 A3.out).mono ?_); (case side1 => repeat (first | exact HR0.out | (with_reducible refine zCa ?_ _) | (with_reducible refine zCn ?_ _) | (with_reducible refine zCd ?_))); (case side2 => exact HC0.out); rintro e w7 ⟨v489, rfl, ho0, hb⟩; refine ⟨_, rfl, ?_⟩; have n0_ := zMk (Kd.R_lower ho0 (zBs (by repeat (first | (with_reducible first | exact HB.out | apply zBa | apply zBn | apply zBd) | exact HB.out)))); have n1_ := zMk (zBt (by repeat (first | (with_reducible first | exact HB.out | apply zBa | apply zBn | apply zBd) | exact HB.out)) hb); clear HB; have HO490 := n0_; have HB := n1_; clear n0_ n1_; (try clear hb); (try clear hb2); (try clear hk); (try clear hi); (try clear ho0); obtain ⟨Ao8, co8, eo8⟩ := Kd.R_slice HO490.out; subst eo8) | ((with_reducible refine gate_callee (f := 42) rfl ?_); refine goesL_ (some 12) rfl rfl Tryd.func42 (by kernel_rfl) rfl #[.slice Ao8 t488.length co8] rfl (by (try simp only [List.map_toArray, List.map_cons, List.map_nil]); first | done | rfl | (simp only [zLd, zLt]; rfl)) ?_; (with_reducible refine (r1_bits.calls k _ _ t488 t491 _ ?side1 ?side2 A4.out).mono ?_); (case side1 => repeat (first | exact (Kd.R_reads' HO490.out).2.2 | (with_reducible refine zCa ?_ _) | (with_reducible refine zCn ?_ _) | (with_reducible refine zCd ?_))); (case side2 => exact (Kd.R_reads' HO490.out).2.1); rintro e w9 ⟨v492, rfl, ho0, hb⟩; refine ⟨_, rfl, ?_⟩; have n0_ := zMk (Kd.R_below (by (with_reducible repeat (first | apply zRa | apply zRn | apply zRd)); exact HO490.out) hb); have n1_ := zMk (Kd.R_lower ho0 (zBs (by repeat (first | (with_reducible first | exact HB.out | apply zBa | apply zBn | apply zBd) | exact HB.out)))); have n2_ := zMk (zBt (by repeat (first | (with_reducible first | exact HB.out | apply zBa | apply zBn | apply zBd) | exact HB.out)) hb); clear HO490; clear HB; have HO490 := n0_; have HO493 := n1_; have HB := n2_; clear n0_ n1_ n2_; (try clear hb); (try clear hb2); (try clear hk); (try clear hi); (try clear ho0)) | ((with_reducible refine gate_callee (f := 20) rfl ?_); refine goesL_ (some 14) rfl rfl Tryd.func20 (by kernel_rfl) rfl #[.slice A1 l1.length c1] rfl (by (try simp only [List.map_toArray, List.map_cons, List.map_nil]); first | done | rfl | (simp only [zLd, zLt]; rfl)) ?_; (with_reducible refine (r1_Norm.calls k _ _ l1 t494 _ ?side1 ?side2 A5.out).mono ?_); (case side1 => repeat (first | exact (Kd.C_below HR1.out HB.out) | (with_reducible refine zCa ?_ _) | (with_reducible refine zCn ?_ _) | (with_reducible refine zCd ?_))); (case side2 => exact HC1.out); rintro e w10 ⟨v495, rfl, ho0, hb⟩; refine ⟨_, rfl, ?_⟩; have n0_ := zMk (Kd.R_elder' (by (with_reducible repeat (first | apply zRa | apply zRn | apply zRd)); exact HO490.out) (Kd.R_base ho0) hb); have n1_ := zMk (Kd.R_below (by (with_reducible repeat (first | apply zRa | apply zRn | apply zRd)); exact HO493.out) hb); have n2_ := zMk (Kd.R_lower (Kd.R_new' ho0 (Kd.R_lt (by (with_reducible repeat (first | apply zRa | apply zRn | apply zRd)); exact HO490.out))) (zBs (by repeat (first | (with_reducible first | exact HB.out | apply zBa | apply zBn | apply zBd) | exact HB.out)))); have n3_ := zMk (zBt (by repeat (first | (with_reducible first | exact HB.out | apply zBa | apply zBn | apply zBd) | exact HB.out)) hb); clear HO490; clear HO493; clear HB; have HO490 := n0_; have HO493 := n1_; have HO496 := n2_; have HB := n3_; clear n0_ n1_ n2_ n3_; (try clear hb); (try clear hb2); (try clear hk); (try clear hi); (try clear ho0); obtain ⟨Ao11, co11, eo11⟩ := Kd.R_slice HO496.out; subst eo11) | ((with_reducible refine gate_callee (f := 42) rfl ?_); refine goesL_ (some 15) rfl rfl Tryd.func42 (by kernel_rfl) rfl #[.slice Ao11 t494.length co11] rfl (by (try simp only [List.map_toArray, List.map_cons, List.map_nil]); first | done | rfl | (simp only [zLd, zLt]; rfl)) ?_; (with_reducible refine (r1_bits.calls k _ _ t494 t497 _ ?side1 ?side2 A6.out).mono ?_); (case side1 => repeat (first | exact (Kd.R_reads' HO496.out).2.2 | (with_reducible refine zCa ?_ _) | (with_reducible refine zCn ?_ _) | (with_reducible refine zCd ?_))); (case side2 => exact (Kd.R_reads' HO496.out).2.1); rintro e w12 ⟨v498, rfl, ho0, hb⟩; refine ⟨_, rfl, ?_⟩; have n0_ := zMk (Kd.R_below (by (with_reducible repeat (first | apply zRa | apply zRn | apply zRd)); exact HO490.out) hb); have n1_ := zMk (Kd.R_elder' (by (with_reducible repeat (first | apply zRa | apply zRn | apply zRd)); exact HO493.out) (Kd.R_base ho0) hb); have n2_ := zMk (Kd.R_below (by (with_reducible repeat (first | apply zRa | apply zRn | apply zRd)); exact HO496.out) hb); have n3_ := zMk (Kd.R_lower (Kd.R_new' ho0 (Kd.R_lt (by (with_reducible repeat (first | apply zRa | apply zRn | apply zRd)); exact HO493.out))) (zBs (by repeat (first | (with_reducible first | exact HB.out | apply zBa | apply zBn | apply zBd) | exact HB.out)))); have n4_ := zMk (zBt (by repeat (first | (with_reducible first | exact HB.out | apply zBa | apply zBn | apply zBd) | exact HB.out)) hb); clear HO490; clear HO493; clear HO496; clear HB; have HO490 := n0_; have HO493 := n1_; have HO496 := n2_; have HO499 := n3_; have HB := n4_; clear n0_ n1_ n2_ n3_ n4_; (try clear hb); (try clear hb2); (try clear hk); (try clear hi); (try clear ho0)))
  go_loopg [7, 8, 9] k (fun kq v7 v8 v9 w' => ∃ (x7_1 : List Int) (x8_1 : List Int) (x9_1 : Int), v9 = .int .i64 x9_1 ∧ Aside0 (r1_Mul.l0 kq t491 t497 x7_1 x8_1 x9_1 = some r) ∧ Aside0 (kq ≤ k) ∧ Aside0 (Kd.R (Kd.int .u8) 5 w' w.heap.size (fun k_ => some k_ ≠ (v498 : Value).ownBlock ∧ some k_ ≠ (v7 : Value).ownBlock ∧ some k_ ≠ (v8 : Value).ownBlock) v492 t491) ∧ Aside0 (Kd.R (Kd.int .u8) 5 w' w.heap.size (fun k_ => some k_ ≠ (v492 : Value).ownBlock ∧ some k_ ≠ (v7 : Value).ownBlock ∧ some k_ ≠ (v8 : Value).ownBlock) v498 t497) ∧ Aside0 (Kd.R (Kd.int .u8) 5 w' w.heap.size (fun k_ => some k_ ≠ (v492 : Value).ownBlock ∧ some k_ ≠ (v498 : Value).ownBlock ∧ some k_ ≠ (v8 : Value).ownBlock) v7 x7_1) ∧ Aside0 (Kd.R (Kd.int .u8) 5 w' w.heap.size (fun k_ => some k_ ≠ (v492 : Value).ownBlock ∧ some k_ ≠ (v498 : Value).ownBlock ∧ some k_ ≠ (v7 : Value).ownBlock) v8 x8_1) ∧ Aside0 (Below w.heap.size w w'))
  case atStart => exact ⟨(([] : List Int)), (([] : List Int)), (0), (by first | rfl | (simp; done) | (simp [*]; done)), H', ⟨Nat.le_refl _⟩, ⟨by (with_reducible repeat (first | apply zRa | apply zRn | apply zRd)); exact zRm HO493.out (fun _ hk => ⟨hk.2, ⟨(by simp [Value.ownBlock]), (by simp [Value.ownBlock])⟩⟩)⟩, ⟨by (with_reducible repeat (first | apply zRa | apply zRn | apply zRd)); exact zRm HO499.out (fun _ hk => ⟨hk.2, ⟨(by simp [Value.ownBlock]), (by simp [Value.ownBlock])⟩⟩)⟩, ⟨by first | exact Kd.R_nil _ _ _ _ _ | exact Kd.N_nil _ _ _ _ _ | exact Kd.V_nil _ _ _ _ _ | exact Kd.Q_nil _ _ _ _ _ | exact Kd.S_nil _ _ _ _ _⟩, ⟨by first | exact Kd.R_nil _ _ _ _ _ | exact Kd.N_nil _ _ _ _ _ | exact Kd.V_nil _ _ _ _ _ | exact Kd.Q_nil _ _ _ _ _ | exact Kd.S_nil _ _ _ _ _⟩, ⟨by repeat (first | (with_reducible first | exact HB.out | apply zBa | apply zBn | apply zBd) | exact HB.out)⟩⟩
  clear H'
  obtain ⟨x7_1, x8_1, x9_1, rfl, HA, HK1, HO_5, HO_6, HO_7, HO_8, HB⟩ := hrel
  rcases gk with _ | k1
  · exact absurd HA.out (by simp [r1_Mul.l0])
  have H := HA.out
  clear HA
  simp only [r1_Mul.l0] at H
  by_cases c13 : x9_1 < (t497.length : Int)
  · rw [if_pos c13] at H
    have c13b0 : decide (x9_1 < (t497.length : Int)) = true := decide_eq_true c13
    clear c13
    by_cases c14 : 0 ≤ x9_1
    rotate_left
    · rw [if_neg c14] at H; exact absurd H (by simp)
    rw [if_pos c14] at H
    have c14b0 : decide (0 ≤ x9_1) = true := decide_eq_true c14
    clear c14
    by_cases c15 : (rd t497 x9_1) = 1
    · rw [if_pos c15] at H
      have c15b0 : ((rd t497 x9_1) == 1) = true := beq_iff_eq.mpr c15
      have c15b1 : ((rd t497 x9_1) != 1) = false := bne_eq_false_iff_eq.mpr c15
      clear c15
      obtain ⟨y501, hy501⟩ : ∃ y_ : List Int, y_ = (([] : List Int)) := ⟨_, rfl⟩
      replace H : (if y501.length + x8_1.length < 140737488355328 then ((some (y501 ++ x8_1 : List Int)).bind fun y504 => (if y504.length + t491.length < 140737488355328 then ((r1_sum.f k1 x7_1 (y504 ++ t491)).bind fun t510 => (if x8_1.length < 140737488355328 then (r1_Mul.l0 k1 t491 t497 t510 (x8_1 ++ [0]) (wrap64 (x9_1 + 1))) else (none))) else (none))) else (none)) = some r := by first | (rw [hy501]; with_reducible exact H) | (have H2_ := (zOb _ _).symm.trans H; rw [hy501]; with_reducible exact H2_) | (have H2_ := (zOb _ _).symm.trans H; with_reducible exact H2_) | with_reducible exact H | (rw [hy501]; exact H) | exact H
      have Ny501 := zMk hy501
      clear hy501
      by_cases c16 : y501.length + x8_1.length < 140737488355328
      rotate_left
      · rw [if_neg c16] at H; exact absurd H (by simp)
      rw [if_pos c16] at H
      have LMc16 := zMk c16
      clear c16
      obtain ⟨y504, hy504⟩ : ∃ y_ : List Int, y_ = (y501 ++ x8_1) := ⟨_, rfl⟩
      replace H : (if y504.length + t491.length < 140737488355328 then ((r1_sum.f k1 x7_1 (y504 ++ t491)).bind fun t510 => (if x8_1.length < 140737488355328 then (r1_Mul.l0 k1 t491 t497 t510 (x8_1 ++ [0]) (wrap64 (x9_1 + 1))) else (none))) else (none)) = some r := by first | (rw [hy504]; with_reducible exact H) | (have H2_ := (zOb _ _).symm.trans H; rw [hy504]; with_reducible exact H2_) | (have H2_ := (zOb _ _).symm.trans H; with_reducible exact H2_) | with_reducible exact H | (rw [hy504]; exact H) | exact H
      have Ny504 := zMk hy504
      clear hy504
      by_cases c17 : y504.length + t491.length < 140737488355328
      rotate_left
      · rw [if_neg c17] at H; exact absurd H (by simp)
      rw [if_pos c17] at H
      have LMc17 := zMk c17
      clear c17
      obtain ⟨y507, hy507⟩ : ∃ y_ : List Int, y_ = (y504 ++ t491) := ⟨_, rfl⟩
      replace H : ((r1_sum.f k1 x7_1 y507).bind fun t510 => (if x8_1.length < 140737488355328 then (r1_Mul.l0 k1 t491 t497 t510 (x8_1 ++ [0]) (wrap64 (x9_1 + 1))) else (none))) = some r := by first | (rw [hy507]; with_reducible exact H) | (have H2_ := (zOb _ _).symm.trans H; rw [hy507]; with_reducible exact H2_) | (have H2_ := (zOb _ _).symm.trans H; with_reducible exact H2_) | with_reducible exact H | (rw [hy507]; exact H) | exact H
      have Ny507 := zMk hy507
      clear hy507
      replace H := Option.bind_eq_some_iff.mp H
      obtain ⟨t510, A180, H⟩ := H
      have A18 := zMk A180
      clear A180
      by_cases c19 : x8_1.length < 140737488355328
      rotate_left
      · rw [if_neg c19] at H; exact absurd H (by simp)
      rw [if_pos c19] at H
      have LMc19 := zMk c19
      clear c19
      obtain ⟨y513, hy513⟩ : ∃ y_ : List Int, y_ = (x8_1 ++ [0]) := ⟨_, rfl⟩
      replace H : (r1_Mul.l0 k1 t491 t497 t510 y513 (wrap64 (x9_1 + 1))) = some r := by first | (rw [hy513]; with_reducible exact H) | (have H2_ := (zOb _ _).symm.trans H; rw [hy513]; with_reducible exact H2_) | (have H2_ := (zOb _ _).symm.trans H; with_reducible exact H2_) | with_reducible exact H | (rw [hy513]; exact H) | exact H
      have Ny513 := zMk hy513
      clear hy513
      have H' := zMk H
      clear H
      obtain ⟨Ao20, co20, eo20⟩ := Kd.R_slice HO_6.out
      subst eo20
      have p500 : 0 ≤ (x9_1 : Int) := of_decide_eq_true (by first | (with_reducible assumption) | assumption)
      have q500 : x9_1 < (t497.length : Int) := of_decide_eq_true (by first | (with_reducible assumption) | assumption)
      obtain ⟨ad500, e500, hx500_0⟩ := zAi (Kd.R_reads' HO_6.out).2.2 x9_1 p500 q500
      cases e500
      replace p500 := eq_true p500
      replace q500 := eq_true q500
      go_wp2_with (first | ((with_reducible refine gate_dst (N := 28) rfl ?_); refine Kd.R_lit (Kd.int .u8) _ 5 ?hg (N := 28) ?hd (xs := ([] : List Int)) (inner := []) (ok := fun _ => True) (okp := fun _ => True) ?hr ?hp (fun _ hk => hk) trivial (Below.refl _ _) (Nat.le_refl _) (by simp) ?_; (case hd => rfl); (case hg => rfl); (case hr => first | (go_simp; done) | (go_simp; rfl) | (go_simp; rw [show ∀ x : Int, IntKind.u32.wrap (IntKind.u8.wrap x) = x % 256 from fun x => (by show (x % 256) % 4294967296 = x % 256; omega)])); (case hp => exact (Reps.none _ _)); intro v502 w21 ho22 hb hg_ hnew_; clear hg_ hnew_; (first | rw [← Ny501.out] at ho22 | (simp only [Int.reduceToNat] at ho22; rw [← Ny501.out] at ho22)); have n0_ := zMk (Kd.R_elder' (by (with_reducible repeat (first | apply zRa | apply zRn | apply zRd)); exact HO_5.out) (Kd.R_base ho22) hb); have n1_ := zMk (Kd.R_elder' (by (with_reducible repeat (first | apply zRa | apply zRn | apply zRd)); exact HO_6.out) (Kd.R_base ho22) hb); have n2_ := zMk (Kd.R_elder' (by (with_reducible repeat (first | apply zRa | apply zRn | apply zRd)); exact HO_7.out) (Kd.R_base ho22) hb); have n3_ := zMk (Kd.R_elder' (by (with_reducible repeat (first | apply zRa | apply zRn | apply zRd)); exact HO_8.out) (Kd.R_base ho22) hb); have n4_ := zMk (Kd.R_lower (Kd.R_new' (Kd.R_new' (Kd.R_new' (Kd.R_new' ho22 (Kd.R_lt (by (with_reducible repeat (first | apply zRa | apply zRn | apply zRd)); exact HO_5.out))) (Kd.R_lt (by (with_reducible repeat (first | apply zRa | apply zRn | apply zRd)); exact HO_6.out))) (Kd.R_lt (by (with_reducible repeat (first | apply zRa | apply zRn | apply zRd)); exact HO_7.out))) (Kd.R_lt (by (with_reducible repeat (first | apply zRa | apply zRn | apply zRd)); exact HO_8.out))) (zBs (by repeat (first | (with_reducible first | exact HB.out | apply zBa | apply zBn | apply zBd) | exact HB.out)))); have n5_ := zMk (zBt (by repeat (first | (with_reducible first | exact HB.out | apply zBa | apply zBn | apply zBd) | exact HB.out)) hb); clear HO_5; clear HO_6; clear HO_7; clear HO_8; clear HB; have HO_5 := n0_; have HO_6 := n1_; have HO_7 := n2_; have HO_8 := n3_; have HO503 := n4_; have HB := n5_; clear n0_ n1_ n2_ n3_ n4_ n5_; clear hb ho22; obtain ⟨Ao24, co24, eo24⟩ := Kd.R_slice HO_8.out; subst eo24) | ((with_reducible refine gate_builtin (b := .append) (xs := #[.tmp 28, .tmp 29]) rfl ?_); at_builtin; refine Kd.R_append_rows (Kd.int .u8) (w0 := w) w.heap.size rfl (.tmp 28) (.tmp 29) 50 5 (.int .u8 0) 1 rfl Tryd.underlying50 info5 rfl (by decide) (by omega) v502 y501 x8_1 _ _ _ (fun k_ => some k_ ≠ (v492 : Value).ownBlock ∧ some k_ ≠ (.slice (some ad500) t497.length co20 : Value).ownBlock ∧ some k_ ≠ (u7 : Value).ownBlock ∧ some k_ ≠ (.slice Ao24 x8_1.length co24 : Value).ownBlock) (fun _ => False) rfl rfl ?aO ?aR (fun _ _ h => h) (fun _ h => h.elim) ?aF ?aB ?aS ?aL ?_; (case aR => repeat (first | exact (Kd.R_reads' HO_8.out).2.2 | (with_reducible refine zCa ?_ _) | (with_reducible refine zCn ?_ _) | (with_reducible refine zCd ?_))); (case aB => exact (by repeat (first | (with_reducible first | exact HB.out | apply zBa | apply zBn | apply zBd) | exact HB.out))); (case aF => exact (fun k_ hk => ⟨Kd.fresh' (Kd.R_lt (by (with_reducible repeat (first | apply zRa | apply zRn | apply zRd)); exact HO_5.out)) k_ hk, Kd.fresh' (Kd.R_lt (by (with_reducible repeat (first | apply zRa | apply zRn | apply zRd)); exact HO_6.out)) k_ hk, Kd.fresh' (Kd.R_lt (by (with_reducible repeat (first | apply zRa | apply zRn | apply zRd)); exact HO_7.out)) k_ hk, Kd.fresh' (Kd.R_lt (by (with_reducible repeat (first | apply zRa | apply zRn | apply zRd)); exact HO_8.out)) k_ hk⟩)); (case aO => exact (by (with_reducible repeat (first | apply zRa | apply zRn | apply zRd)); exact zRm HO503.out (fun _ hk => ⟨hk.1.1.1.2, ⟨hk.1.1.2, ⟨hk.1.2, hk.2⟩⟩⟩))); (case aS => exact (zBs (by repeat (first | (with_reducible first | exact HB.out | apply zBa | apply zBn | apply zBd) | exact HB.out)))); (case aL => have := LMc16.out; omega); intro v505 w23 ho hb hg hat; rw [← Ny504.out] at ho; have n0_ := zMk (Kd.R_after (ok := (fun k_ => some k_ ≠ (.slice (some ad500) t497.length co20 : Value).ownBlock ∧ some k_ ≠ (u7 : Value).ownBlock ∧ some k_ ≠ (.slice Ao24 x8_1.length co24 : Value).ownBlock)) (by (with_reducible repeat (first | apply zRa | apply zRn | apply zRd)); exact HO_5.out) hg hat); have n1_ := zMk (Kd.R_after (ok := (fun k_ => some k_ ≠ (v492 : Value).ownBlock ∧ some k_ ≠ (u7 : Value).ownBlock ∧ some k_ ≠ (.slice Ao24 x8_1.length co24 : Value).ownBlock)) (by (with_reducible repeat (first | apply zRa | apply zRn | apply zRd)); exact HO_6.out) hg hat); have n2_ := zMk (Kd.R_after (ok := (fun k_ => some k_ ≠ (v492 : Value).ownBlock ∧ some k_ ≠ (.slice (some ad500) t497.length co20 : Value).ownBlock ∧ some k_ ≠ (.slice Ao24 x8_1.length co24 : Value).ownBlock)) (by (with_reducible repeat (first | apply zRa | apply zRn | apply zRd)); exact HO_7.out) hg hat); have n3_ := zMk (Kd.R_after (ok := (fun k_ => some k_ ≠ (v492 : Value).ownBlock ∧ some k_ ≠ (.slice (some ad500) t497.length co20 : Value).ownBlock ∧ some k_ ≠ (u7 : Value).ownBlock)) (by (with_reducible repeat (first | apply zRa | apply zRn | apply zRd)); exact HO_8.out) hg hat); have n4_ := zMk (hb); have n5_ := zMk (ho); clear HO_5; clear HO_6; clear HO_7; clear HO_8; clear HB; clear HO503; have HO_5 := n0_; have HO_6 := n1_; have HO_7 := n2_; have HO_8 := n3_; have HB := n4_; have HO506 := n5_; clear n0_ n1_ n2_ n3_ n4_ n5_; clear ho hb hg hat; obtain ⟨Ao26, co26, eo26⟩ := Kd.R_slice HO_5.out; subst eo26) | ((with_reducible refine gate_builtin (b := .append) (xs := #[.tmp 30, .tmp 31]) rfl ?_); at_builtin; refine Kd.R_append_rows (Kd.int .u8) (w0 := w) w.heap.size rfl (.tmp 30) (.tmp 31) 50 5 (.int .u8 0) 1 rfl Tryd.underlying50 info5 rfl (by decide) (by omega) v505 y504 t491 _ _ _ (fun k_ => some k_ ≠ (.slice Ao26 t491.length co26 : Value).ownBlock ∧ some k_ ≠ (.slice (some ad500) t497.length co20 : Value).ownBlock ∧ some k_ ≠ (u7 : Value).ownBlock ∧ some k_ ≠ (.slice Ao24 x8_1.length co24 : Value).ownBlock) (fun _ => False) rfl rfl ?aO ?aR (fun _ _ h => h) (fun _ h => h.elim) ?aF ?aB ?aS ?aL ?_; (case aR => repeat (first | exact (Kd.R_reads' HO_5.out).2.2 | (with_reducible refine zCa ?_ _) | (with_reducible refine zCn ?_ _) | (with_reducible refine zCd ?_))); (case aB => exact (by repeat (first | (with_reducible first | exact HB.out | apply zBa | apply zBn | apply zBd) | exact HB.out))); (case aF => exact (fun k_ hk => ⟨Kd.fresh' (Kd.R_lt (by (with_reducible repeat (first | apply zRa | apply zRn | apply zRd)); exact HO_5.out)) k_ hk, Kd.fresh' (Kd.R_lt (by (with_reducible repeat (first | apply zRa | apply zRn | apply zRd)); exact HO_6.out)) k_ hk, Kd.fresh' (Kd.R_lt (by (with_reducible repeat (first | apply zRa | apply zRn | apply zRd)); exact HO_7.out)) k_ hk, Kd.fresh' (Kd.R_lt (by (with_reducible repeat (first | apply zRa | apply zRn | apply zRd)); exact HO_8.out)) k_ hk⟩)); (case aO => exact (by (with_reducible repeat (first | apply zRa | apply zRn | apply zRd)); exact HO506.out)); (case aS => exact (zBs (by repeat (first | (with_reducible first | exact HB.out | apply zBa | apply zBn | apply zBd) | exact HB.out)))); (case aL => have := LMc17.out; omega); intro v508 w25 ho hb hg hat; rw [← Ny507.out] at ho; have n0_ := zMk (Kd.R_after (ok := (fun k_ => some k_ ≠ (.slice (some ad500) t497.length co20 : Value).ownBlock ∧ some k_ ≠ (u7 : Value).ownBlock ∧ some k_ ≠ (.slice Ao24 x8_1.length co24 : Value).ownBlock)) (by (with_reducible repeat (first | apply zRa | apply zRn | apply zRd)); exact HO_5.out) hg hat); have n1_ := zMk (Kd.R_after (ok := (fun k_ => some k_ ≠ (.slice Ao26 t491.length co26 : Value).ownBlock ∧ some k_ ≠ (u7 : Value).ownBlock ∧ some k_ ≠ (.slice Ao24 x8_1.length co24 : Value).ownBlock)) (by (with_reducible repeat (first | apply zRa | apply zRn | apply zRd)); exact HO_6.out) hg hat); have n2_ := zMk (Kd.R_after (ok := (fun k_ => some k_ ≠ (.slice Ao26 t491.length co26 : Value).ownBlock ∧ some k_ ≠ (.slice (some ad500) t497.length co20 : Value).ownBlock ∧ some k_ ≠ (.slice Ao24 x8_1.length co24 : Value).ownBlock)) (by (with_reducible repeat (first | apply zRa | apply zRn | apply zRd)); exact HO_7.out) hg hat); have n3_ := zMk (Kd.R_after (ok := (fun k_ => some k_ ≠ (.slice Ao26 t491.length co26 : Value).ownBlock ∧ some k_ ≠ (.slice (some ad500) t497.length co20 : Value).ownBlock ∧ some k_ ≠ (u7 : Value).ownBlock)) (by (with_reducible repeat (first | apply zRa | apply zRn | apply zRd)); exact HO_8.out) hg hat); have n4_ := zMk (hb); have n5_ := zMk (ho); clear HO_5; clear HO_6; clear HO_7; clear HO_8; clear HB; clear HO506; have HO_5 := n0_; have HO_6 := n1_; have HO_7 := n2_; have HO_8 := n3_; have HB := n4_; have HO509 := n5_; clear n0_ n1_ n2_ n3_ n4_ n5_; clear ho hb hg hat; obtain ⟨Ao27, co27, eo27⟩ := Kd.R_slice HO_7.out; subst eo27; obtain ⟨Ao28, co28, eo28⟩ := Kd.R_slice HO509.out; subst eo28) | ((with_reducible refine gate_callee (f := 44) rfl ?_); refine goesL_ (some 33) rfl rfl Tryd.func44 (by kernel_rfl) rfl #[.slice Ao27 x7_1.length co27, .slice Ao28 y507.length co28] rfl (by (try simp only [List.map_toArray, List.map_cons, List.map_nil]); first | done | rfl | (simp only [zLd, zLt]; rfl)) ?_; (with_reducible refine (r1_sum.calls k1 _ _ x7_1 _ _ y507 t510 _ ?side1 ?side2 ?side3 ?side4 A18.out).mono ?_); (case side1 => repeat (first | exact (Kd.R_reads' HO_7.out).2.2 | (with_reducible refine zCa ?_ _) | (with_reducible refine zCn ?_ _) | (with_reducible refine zCd ?_))); (case side2 => exact (Kd.R_reads' HO_7.out).2.1); (case side3 => repeat (first | exact (Kd.R_reads' HO509.out).2.2 | (with_reducible refine zCa ?_ _) | (with_reducible refine zCn ?_ _) | (with_reducible refine zCd ?_))); (case side4 => exact (Kd.R_reads' HO509.out).2.1); rintro e w29 ⟨v511, rfl, ho0, hb⟩; refine ⟨_, rfl, ?_⟩; have n0_ := zMk (Kd.R_elder' (by (with_reducible repeat (first | apply zRa | apply zRn | apply zRd)); exact HO_5.out) (Kd.R_base ho0) hb); have n1_ := zMk (Kd.R_elder' (by (with_reducible repeat (first | apply zRa | apply zRn | apply zRd)); exact HO_6.out) (Kd.R_base ho0) hb); have n2_ := zMk (Kd.R_elder' (by (with_reducible repeat (first | apply zRa | apply zRn | apply zRd)); exact HO_7.out) (Kd.R_base ho0) hb); have n3_ := zMk (Kd.R_elder' (by (with_reducible repeat (first | apply zRa | apply zRn | apply zRd)); exact HO_8.out) (Kd.R_base ho0) hb); have n4_ := zMk (Kd.R_elder' (by (with_reducible repeat (first | apply zRa | apply zRn | apply zRd)); exact HO509.out) (Kd.R_base ho0) hb); have n5_ := zMk (Kd.R_lower (Kd.R_new' (Kd.R_new' (Kd.R_new' (Kd.R_new' (Kd.R_new' ho0 (Kd.R_lt (by (with_reducible repeat (first | apply zRa | apply zRn | apply zRd)); exact HO_5.out))) (Kd.R_lt (by (with_reducible repeat (first | apply zRa | apply zRn | apply zRd)); exact HO_6.out))) (Kd.R_lt (by (with_reducible repeat (first | apply zRa | apply zRn | apply zRd)); exact HO_7.out))) (Kd.R_lt (by (with_reducible repeat (first | apply zRa | apply zRn | apply zRd)); exact HO_8.out))) (Kd.R_lt (by (with_reducible repeat (first | apply zRa | apply zRn | apply zRd)); exact HO509.out))) (zBs (by repeat (first | (with_reducible first | exact HB.out | apply zBa | apply zBn | apply zBd) | exact HB.out)))); have n6_ := zMk (zBt (by repeat (first | (with_reducible first | exact HB.out | apply zBa | apply zBn | apply zBd) | exact HB.out)) hb); clear HO_5; clear HO_6; clear HO_7; clear HO_8; clear HO509; clear HB; have HO_5 := n0_; have HO_6 := n1_; have HO_7 := n2_; have HO_8 := n3_; have HO509 := n4_; have HO512 := n5_; have HB := n6_; clear n0_ n1_ n2_ n3_ n4_ n5_ n6_; (try clear hb); (try clear hb2); (try clear hk); (try clear hi); (try clear ho0)) | ((with_reducible refine gate_builtin (b := .append) (xs := #[.tmp 34, .tmp 35]) rfl ?_); at_builtin; refine Kd.R_append (Kd.int .u8) (w0 := w) w.heap.size rfl (.tmp 34) (.tmp 35) 50 5 (.int .u8 0) 1 rfl Tryd.underlying50 info5 rfl (by decide) (by omega) (.slice Ao24 x8_1.length co24) x8_1 0 [.int .u8 0] (fun k_ => some k_ ≠ (.slice Ao26 t491.length co26 : Value).ownBlock ∧ some k_ ≠ (.slice (some ad500) t497.length co20 : Value).ownBlock ∧ some k_ ≠ (.slice Ao27 x7_1.length co27 : Value).ownBlock ∧ some k_ ≠ (.slice Ao28 y507.length co28 : Value).ownBlock ∧ some k_ ≠ (v511 : Value).ownBlock) (fun _ => False) rfl rfl ?aP (fun _ hk => hk.elim) ?aF ?aO ?aB ?aS ?aL ?_; (case aP => exact rfl); (case aB => exact (by repeat (first | (with_reducible first | exact HB.out | apply zBa | apply zBn | apply zBd) | exact HB.out))); (case aF => exact (fun k_ hk => ⟨Kd.fresh' (Kd.R_lt (by (with_reducible repeat (first | apply zRa | apply zRn | apply zRd)); exact HO_5.out)) k_ hk, Kd.fresh' (Kd.R_lt (by (with_reducible repeat (first | apply zRa | apply zRn | apply zRd)); exact HO_6.out)) k_ hk, Kd.fresh' (Kd.R_lt (by (with_reducible repeat (first | apply zRa | apply zRn | apply zRd)); exact HO_7.out)) k_ hk, Kd.fresh' (Kd.R_lt (by (with_reducible repeat (first | apply zRa | apply zRn | apply zRd)); exact HO509.out)) k_ hk, Kd.fresh' (Kd.R_lt (by (with_reducible repeat (first | apply zRa | apply zRn | apply zRd)); exact HO512.out)) k_ hk⟩)); (case aO => exact (by (with_reducible repeat (first | apply zRa | apply zRn | apply zRd)); exact zRm HO_8.out (fun _ hk => ⟨hk.1.1.1, ⟨hk.1.1.2.1, ⟨hk.1.1.2.2, ⟨hk.1.2, hk.2⟩⟩⟩⟩))); (case aS => exact (zBs (by repeat (first | (with_reducible first | exact HB.out | apply zBa | apply zBn | apply zBd) | exact HB.out)))); (case aL => have := LMc19.out; omega); intro v514 w30 ho hb hg hat; rw [← Ny513.out] at ho; have n0_ := zMk (Kd.R_after (ok := (fun k_ => some k_ ≠ (.slice (some ad500) t497.length co20 : Value).ownBlock ∧ some k_ ≠ (.slice Ao27 x7_1.length co27 : Value).ownBlock ∧ some k_ ≠ (.slice Ao28 y507.length co28 : Value).ownBlock ∧ some k_ ≠ (v511 : Value).ownBlock)) (by (with_reducible repeat (first | apply zRa | apply zRn | apply zRd)); exact zRm HO_5.out (fun _ hk => ⟨⟨hk.1.1.1, ⟨hk.1.1.2.1, ⟨hk.1.2, hk.2⟩⟩⟩, hk.1.1.2.2⟩)) hg hat); have n1_ := zMk (Kd.R_after (ok := (fun k_ => some k_ ≠ (.slice Ao26 t491.length co26 : Value).ownBlock ∧ some k_ ≠ (.slice Ao27 x7_1.length co27 : Value).ownBlock ∧ some k_ ≠ (.slice Ao28 y507.length co28 : Value).ownBlock ∧ some k_ ≠ (v511 : Value).ownBlock)) (by (with_reducible repeat (first | apply zRa | apply zRn | apply zRd)); exact zRm HO_6.out (fun _ hk => ⟨⟨hk.1.1.1, ⟨hk.1.1.2.1, ⟨hk.1.2, hk.2⟩⟩⟩, hk.1.1.2.2⟩)) hg hat); have n2_ := zMk (Kd.R_after (ok := (fun k_ => some k_ ≠ (.slice Ao26 t491.length co26 : Value).ownBlock ∧ some k_ ≠ (.slice (some ad500) t497.length co20 : Value).ownBlock ∧ some k_ ≠ (.slice Ao28 y507.length co28 : Value).ownBlock ∧ some k_ ≠ (v511 : Value).ownBlock)) (by (with_reducible repeat (first | apply zRa | apply zRn | apply zRd)); exact zRm HO_7.out (fun _ hk => ⟨⟨hk.1.1.1, ⟨hk.1.1.2.1, ⟨hk.1.2, hk.2⟩⟩⟩, hk.1.1.2.2⟩)) hg hat); have n3_ := zMk (Kd.R_after (ok := (fun k_ => some k_ ≠ (.slice Ao26 t491.length co26 : Value).ownBlock ∧ some k_ ≠ (.slice (some ad500) t497.length co20 : Value).ownBlock ∧ some k_ ≠ (.slice Ao27 x7_1.length co27 : Value).ownBlock ∧ some k_ ≠ (v511 : Value).ownBlock)) (by (with_reducible repeat (first | apply zRa | apply zRn | apply zRd)); exact zRm HO509.out (fun _ hk => ⟨⟨hk.1.1, ⟨hk.1.2.1, ⟨hk.1.2.2.1, hk.2⟩⟩⟩, hk.1.2.2.2⟩)) hg hat); have n4_ := zMk (Kd.R_after (ok := (fun k_ => some k_ ≠ (.slice Ao26 t491.length co26 : Value).ownBlock ∧ some k_ ≠ (.slice (some ad500) t497.length co20 : Value).ownBlock ∧ some k_ ≠ (.slice Ao27 x7_1.length co27 : Value).ownBlock ∧ some k_ ≠ (.slice Ao28 y507.length co28 : Value).ownBlock)) (by (with_reducible repeat (first | apply zRa | apply zRn | apply zRd)); exact zRm HO512.out (fun _ hk => ⟨⟨hk.1.1.1.1.2, ⟨hk.1.1.1.2, ⟨hk.1.1.2, hk.2⟩⟩⟩, hk.1.2⟩)) hg hat); have n5_ := zMk (hb); have n6_ := zMk (ho); clear HO_5; clear HO_6; clear HO_7; clear HO509; clear HO512; clear HB; clear HO_8; have HO_5 := n0_; have HO_6 := n1_; have HO_7 := n2_; have HO509 := n3_; have HO512 := n4_; have HB := n5_; have HO515 := n6_; clear n0_ n1_ n2_ n3_ n4_ n5_ n6_; clear ho hb hg hat))
      go_roundg k1
      case measure => have := HK1.out; omega
      case rel => exact ⟨(t510), (y513), (wrap64 (x9_1 + 1)), (by first | rfl | (simp; done) | (simp [*]; done)), H', ⟨by have := HK1.out; omega⟩, ⟨by (with_reducible repeat (first | apply zRa | apply zRn | apply zRd)); exact zRm HO_5.out (fun _ hk => ⟨hk.1.1, ⟨hk.1.2.2.2, hk.2⟩⟩)⟩, ⟨by (with_reducible repeat (first | apply zRa | apply zRn | apply zRd)); exact zRm HO_6.out (fun _ hk => ⟨hk.1.1, ⟨hk.1.2.2.2, hk.2⟩⟩)⟩, ⟨by (with_reducible repeat (first | apply zRa | apply zRn | apply zRd)); exact zRm HO512.out (fun _ hk => ⟨hk.1.1, ⟨hk.1.2.1, hk.2⟩⟩)⟩, ⟨by (with_reducible repeat (first | apply zRa | apply zRn | apply zRd)); exact zRm HO515.out (fun _ hk => ⟨hk.1, ⟨hk.2.1, hk.2.2.2.2⟩⟩)⟩, ⟨by repeat (first | (with_reducible first | exact HB.out | apply zBa | apply zBn | apply zBd) | exact HB.out)⟩⟩
    · rw [if_neg c15] at H
      have c15b0 : ((rd t497 x9_1) == 1) = false := beq_eq_false_iff_ne.mpr c15
      have c15b1 : ((rd t497 x9_1) != 1) = true := bne_iff_ne.mpr c15
      by_cases c31 : x8_1.length < 140737488355328
      rotate_left
      · rw [if_neg c31] at H; exact absurd H (by simp)
      rw [if_pos c31] at H
      have LMc31 := zMk c31
      clear c31
      obtain ⟨y516, hy516⟩ : ∃ y_ : List Int, y_ = (x8_1 ++ [0]) := ⟨_, rfl⟩
      replace H : (r1_Mul.l0 k1 t491 t497 x7_1 y516 (wrap64 (x9_1 + 1))) = some r := by first | (rw [hy516]; with_reducible exact H) | (have H2_ := (zOb _ _).symm.trans H; rw [hy516]; with_reducible exact H2_) | (have H2_ := (zOb _ _).symm.trans H; with_reducible exact H2_) | with_reducible exact H | (rw [hy516]; exact H) | exact H
      have Ny516 := zMk hy516
      clear hy516
      have H' := zMk H
      clear H
      obtain ⟨Ao32, co32, eo32⟩ := Kd.R_slice HO_6.out
      subst eo32
      have p500 : 0 ≤ (x9_1 : Int) := of_decide_eq_true (by first | (with_reducible assumption) | assumption)
      have q500 : x9_1 < (t497.length : Int) := of_decide_eq_true (by first | (with_reducible assumption) | assumption)
      obtain ⟨ad500, e500, hx500_0⟩ := zAi (Kd.R_reads' HO_6.out).2.2 x9_1 p500 q500
      cases e500
      replace p500 := eq_true p500
      replace q500 := eq_true q500
      go_wp2_with (first | ((with_reducible refine gate_builtin (b := .append) (xs := #[.tmp 34, .tmp 35]) rfl ?_); at_builtin; refine Kd.R_append (Kd.int .u8) (w0 := w) w.heap.size rfl (.tmp 34) (.tmp 35) 50 5 (.int .u8 0) 1 rfl Tryd.underlying50 info5 rfl (by decide) (by omega) u8 x8_1 0 [.int .u8 0] (fun k_ => some k_ ≠ (v492 : Value).ownBlock ∧ some k_ ≠ (.slice (some ad500) t497.length co32 : Value).ownBlock ∧ some k_ ≠ (u7 : Value).ownBlock) (fun _ => False) rfl rfl ?aP (fun _ hk => hk.elim) ?aF ?aO ?aB ?aS ?aL ?_; (case aP => exact rfl); (case aB => exact (by repeat (first | (with_reducible first | exact HB.out | apply zBa | apply zBn | apply zBd) | exact HB.out))); (case aF => exact (fun k_ hk => ⟨Kd.fresh' (Kd.R_lt (by (with_reducible repeat (first | apply zRa | apply zRn | apply zRd)); exact HO_5.out)) k_ hk, Kd.fresh' (Kd.R_lt (by (with_reducible repeat (first | apply zRa | apply zRn | apply zRd)); exact HO_6.out)) k_ hk, Kd.fresh' (Kd.R_lt (by (with_reducible repeat (first | apply zRa | apply zRn | apply zRd)); exact HO_7.out)) k_ hk⟩)); (case aO => exact (by (with_reducible repeat (first | apply zRa | apply zRn | apply zRd)); exact HO_8.out)); (case aS => exact (zBs (by repeat (first | (with_reducible first | exact HB.out | apply zBa | apply zBn | apply zBd) | exact HB.out)))); (case aL => have := LMc31.out; omega); intro v517 w33 ho hb hg hat; rw [← Ny516.out] at ho; have n0_ := zMk (Kd.R_after (ok := (fun k_ => some k_ ≠ (.slice (some ad500) t497.length co32 : Value).ownBlock ∧ some k_ ≠ (u7 : Value).ownBlock)) (by (with_reducible repeat (first | apply zRa | apply zRn | apply zRd)); exact zRm HO_5.out (fun _ hk => ⟨⟨hk.1, hk.2.1⟩, hk.2.2⟩)) hg hat); have n1_ := zMk (Kd.R_after (ok := (fun k_ => some k_ ≠ (v492 : Value).ownBlock ∧ some k_ ≠ (u7 : Value).ownBlock)) (by (with_reducible repeat (first | apply zRa | apply zRn | apply zRd)); exact zRm HO_6.out (fun _ hk => ⟨⟨hk.1, hk.2.1⟩, hk.2.2⟩)) hg hat); have n2_ := zMk (Kd.R_after (ok := (fun k_ => some k_ ≠ (v492 : Value).ownBlock ∧ some k_ ≠ (.slice (some ad500) t497.length co32 : Value).ownBlock)) (by (with_reducible repeat (first | apply zRa | apply zRn | apply zRd)); exact zRm HO_7.out (fun _ hk => ⟨⟨hk.1, hk.2.1⟩, hk.2.2⟩)) hg hat); have n3_ := zMk (hb); have n4_ := zMk (ho); clear HO_5; clear HO_6; clear HO_7; clear HB; clear HO_8; have HO_5 := n0_; have HO_6 := n1_; have HO_7 := n2_; have HB := n3_; have HO518 := n4_; clear n0_ n1_ n2_ n3_ n4_; clear ho hb hg hat))
      go_roundg k1
      case measure => have := HK1.out; omega
      case rel => exact ⟨(x7_1), (y516), (wrap64 (x9_1 + 1)), (by first | rfl | (simp; done) | (simp [*]; done)), H', ⟨by have := HK1.out; omega⟩, ⟨by (with_reducible repeat (first | apply zRa | apply zRn | apply zRd)); exact zRm HO_5.out (fun _ hk => ⟨hk.1.1, ⟨hk.1.2, hk.2⟩⟩)⟩, ⟨by (with_reducible repeat (first | apply zRa | apply zRn | apply zRd)); exact zRm HO_6.out (fun _ hk => ⟨hk.1.1, ⟨hk.1.2, hk.2⟩⟩)⟩, ⟨by (with_reducible repeat (first | apply zRa | apply zRn | apply zRd)); exact zRm HO_7.out (fun _ hk => ⟨hk.1.1, ⟨hk.1.2, hk.2⟩⟩)⟩, ⟨by (with_reducible repeat (first | apply zRa | apply zRn | apply zRd)); exact HO518.out⟩, ⟨by repeat (first | (with_reducible first | exact HB.out | apply zBa | apply zBn | apply zBd) | exact HB.out)⟩⟩
  · rw [if_neg c13] at H
    have c13b0 : decide (x9_1 < (t497.length : Int)) = false := decide_eq_false c13
    clear c13
    replace H := Option.bind_eq_some_iff.mp H
    obtain ⟨t519, A340, H⟩ := H
    have A34 := zMk A340
    clear A340
    obtain rfl := zOi H
    obtain ⟨Ao35, co35, eo35⟩ := Kd.R_slice HO_6.out
    subst eo35
    obtain ⟨Ao36, co36, eo36⟩ := Kd.R_slice HO_7.out
    subst eo36
    go_wp2_with (first | ((with_reducible refine gate_callee (f := 45) rfl ?_); refine goesL_ (some 38) rfl rfl Tryd.func45 (by kernel_rfl) rfl #[.slice Ao36 x7_1.length co36] rfl (by (try simp only [List.map_toArray, List.map_cons, List.map_nil]); first | done | rfl | (simp only [zLd, zLt]; rfl)) ?_; (with_reducible refine (r1_limbs.calls k1 _ _ x7_1 t519 _ ?side1 ?side2 A34.out).mono ?_); (case side1 => repeat (first | exact (Kd.R_reads' HO_7.out).2.2 | (with_reducible refine zCa ?_ _) | (with_reducible refine zCn ?_ _) | (with_reducible refine zCd ?_))); (case side2 => exact (Kd.R_reads' HO_7.out).2.1); rintro e w37 ⟨v520, rfl, ho0, hb⟩; refine ⟨_, rfl, ?_⟩; have n0_ := zMk (Kd.R_below (by (with_reducible repeat (first | apply zRa | apply zRn | apply zRd)); exact HO_5.out) hb); have n1_ := zMk (Kd.R_below (by (with_reducible repeat (first | apply zRa | apply zRn | apply zRd)); exact HO_6.out) hb); have n2_ := zMk (Kd.R_below (by (with_reducible repeat (first | apply zRa | apply zRn | apply zRd)); exact HO_7.out) hb); have n3_ := zMk (Kd.R_below (by (with_reducible repeat (first | apply zRa | apply zRn | apply zRd)); exact HO_8.out) hb); have n4_ := zMk (Kd.R_lower ho0 (zBs (by repeat (first | (with_reducible first | exact HB.out | apply zBa | apply zBn | apply zBd) | exact HB.out)))); have n5_ := zMk (zBt (by repeat (first | (with_reducible first | exact HB.out | apply zBa | apply zBn | apply zBd) | exact HB.out)) hb); clear HO_5; clear HO_6; clear HO_7; clear HO_8; clear HB; have HO_5 := n0_; have HO_6 := n1_; have HO_7 := n2_; have HO_8 := n3_; have HO521 := n4_; have HB := n5_; clear n0_ n1_ n2_ n3_ n4_ n5_; (try clear hb); (try clear hb2); (try clear hk); (try clear hi); (try clear ho0)))
    go_ret
    exact ⟨_, by first | rfl | (simp [errW_none, errW_some] <;> rfl) | (simp [*, errW_none, errW_some] <;> rfl), by (with_reducible repeat (first | apply zRa | apply zRn | apply zRd)); exact HO521.out, by repeat (first | (with_reducible first | exact HB.out | apply zBa | apply zBn | apply zBd) | exact HB.out)⟩

/- The plain law of the document's product. -/
theorem bits_zeros (n : Nat) : Bits (List.replicate n 0) := fun x hx => .inl (List.eq_of_mem_replicate hx)
theorem bval_zeros (n : Nat) : bval (List.replicate n 0) = 0 := by
  induction n with
  | zero => rfl
  | succ n ih => simp only [List.replicate_succ, bval, ih]; rfl
theorem rmul_l0 (x y : List Int) (hx : Bits x) (hy : Bits y) (hl : x.length + 2 * y.length < 1000000000) :
    ∀ (j m k : Nat) (A : List Int), m + j = y.length → Bits A → A.length ≤ x.length + 2 * m → bval A = bval x * bval (y.take m) →
    ∃ r, r1_Mul.l0 (k + 2 * (x.length + 2 * y.length) + 10 + j + 1) x y A (List.replicate m 0) (m : Int) = some r ∧ IsNum r (bval x * bval y) := by
  intro j
  induction j with
  | zero =>
    intro m k A hm hA lA hv
    obtain ⟨r, h1, h2, _⟩ := limbs_f A hA (by omega) (k + 2 * (x.length + 2 * y.length) + 10) (by omega)
    refine ⟨r, ?_, ?_⟩
    · rw [Nat.add_zero, r1_Mul.l0, if_neg (by omega), h1]
      rfl
    · rw [hv, List.take_of_length_le (by omega)] at h2
      exact h2
  | succ j ih =>
    intro m k A hm hA lA hv
    have hz : List.replicate m (0 : Int) ++ [0] = List.replicate (m + 1) 0 := List.replicate_succ'.symm
    have hlz : (List.replicate m (0 : Int)).length = m := List.length_replicate
    have hS : Bits (List.replicate m 0 ++ x) := (bits_zeros m).append hx
    have hSl : (List.replicate m (0 : Int) ++ x).length = m + x.length := by rw [List.length_append, hlz]
    obtain ⟨t, h1, h2, h3, h4⟩ := sum_f A (List.replicate m 0 ++ x) hA hS (by omega) (k + 2 * (x.length + 2 * y.length) + 10 + j + 1) (by omega)
    rcases hy.getD m with h0 | h0
    · obtain ⟨r, h5, h6⟩ := ih (m + 1) k A (by omega) hA (by omega) (by rw [bval_take_succ, h0, hv, Int.mul_zero, Int.add_zero])
      refine ⟨r, ?_, h6⟩
      rw [show k + 2 * (x.length + 2 * y.length) + 10 + (j + 1) + 1 = (k + 2 * (x.length + 2 * y.length) + 10 + j + 1) + 1 by omega, r1_Mul.l0, if_pos (by omega), if_pos (by omega), rd_nat, h0, if_neg (by decide), if_pos (by omega), hz, w64 (by omega) (by omega)]
      exact h5
    · obtain ⟨r, h5, h6⟩ := ih (m + 1) k t (by omega) h2 (by omega) (by
        rw [h4, hv, bval_append, bval_zeros, hlz, bval_take_succ, h0, Int.zero_add, Int.mul_one, Int.mul_add, Int.mul_comm (bval x) (2 ^ m)])
      refine ⟨r, ?_, h6⟩
      rw [show k + 2 * (x.length + 2 * y.length) + 10 + (j + 1) + 1 = (k + 2 * (x.length + 2 * y.length) + 10 + j + 1) + 1 by omega, r1_Mul.l0, if_pos (by omega), if_pos (by omega), rd_nat, h0, if_pos rfl]
      simp only [zOb, List.nil_append]
      rw [if_pos (by simp only [List.length_nil]; omega), if_pos (by omega), h1, zOb, if_pos (by omega), hz, w64 (by omega) (by omega)]
      exact h5
theorem rmul_f (a b : List Int) (ha : Limbs a) (hb : Limbs b) (la : a.length < 1000000) (lb : b.length < 1000000) (k : Nat) (hk : 200 * a.length + 200 * b.length + 100 ≤ k) :
    ∃ r, r1_Mul.f k a b = some r ∧ IsNum r (val a * val b) := by
  have ca := cut_length a
  have cb := cut_length b
  have la2 := bitsOf_length (cut a)
  have lb2 := bitsOf_length (cut b)
  obtain ⟨d, hd⟩ : ∃ d, k = d + 2 * ((bitsOf (cut a)).length + 2 * (bitsOf (cut b)).length) + 10 + (bitsOf (cut b)).length + 1 := ⟨k - (2 * ((bitsOf (cut a)).length + 2 * (bitsOf (cut b)).length) + 10 + (bitsOf (cut b)).length + 1), by omega⟩
  obtain ⟨r, h1, h2⟩ := rmul_l0 (bitsOf (cut a)) (bitsOf (cut b)) (bitsOf_bits _) (bitsOf_bits _) (by omega) (bitsOf (cut b)).length 0 d [] (by omega) Bits.nil (by simp) (by simp [bval])
  refine ⟨r, ?_, by rw [bval_bitsOf (cut_limbs ha), bval_bitsOf (cut_limbs hb), cut_val, cut_val] at h2; exact h2⟩
  rw [← hd] at h1
  unfold r1_Mul.f
  rw [norm_f a (by omega) k (by omega), zOb, bits_f _ (cut_limbs ha) (by omega) k (by omega), zOb, norm_f b (by omega) k (by omega), zOb, bits_f _ (cut_limbs hb) (by omega) k (by omega), zOb]
  exact h1

/-! ### n_Parse: function 33 -/

theorem n_Parse.conv (s : ByteArray) (w : World) : (convert 9 50 (.string s)).run Tryd.prog w = .ok (.slice (some ⟨w.heap.size, 0, none⟩) s.size (grownCap w s.size 0 5)) (Lib.bytesWorld w 5 s) := Lib.run_convert_string_bytes w 9 50 5 s Tryd.underlying9 Tryd.underlying50 Tryd.underlying5
theorem n_Parse.below (w : World) (s : ByteArray) : Below w.heap.size w (Lib.bytesWorld (w.alloc (.cells #[.int .u32 10] 62)) 5 s) :=
  ⟨rfl, rfl, rfl, by rw [Lib.bytesWorld_size, World.size_alloc]; omega, fun k hk => by
    rw [Lib.bytesWorld_at_old _ _ _ _ (by rw [World.size_alloc]; omega)]
    exact (zBa (Below.refl w.heap.size w) _).block k hk⟩
theorem n_Parse.vbase {d : Kd Int} {e : Nat} {W : World} {b b' : Nat} {ok : Nat → Prop} {v : Value} {xs : List Int} (h : Kd.V d e W b ok v xs) : Kd.V d e W b' ok v xs := h
theorem n_Parse.step {w w1 W : World} (h1 : Below w.heap.size w w1) (h2 : Below w1.heap.size w1 W) : Below w.heap.size w W :=
  h1.trans (h2.mono h1.size)
theorem n_Parse.le {n : Nat} {w1 W : World} (hz : w1.heap.size = n + 2) (h2 : Below w1.heap.size w1 W) : n ≤ W.heap.size := by have := h2.size; omega
theorem n_Parse.ten (w : World) (s : ByteArray) : ∀ W, Below (Lib.bytesWorld (w.alloc (.cells #[.int .u32 10] 62)) 5 s).heap.size (Lib.bytesWorld (w.alloc (.cells #[.int .u32 10] 62)) 5 s) W → Kd.F (Kd.int .u32) W (fun k => w.heap.size ≤ k) (some ⟨w.heap.size, 0, none⟩) [(10 : Int)].length [(10 : Int)] := by
  intro W hb W' hW
  have hsz : (Lib.bytesWorld (w.alloc (.cells #[.int .u32 10] 62)) 5 s).heap.size = w.heap.size + 2 := by rw [Lib.bytesWorld_size, World.size_alloc]
  have h1 := hb.size
  have h2 := hb.block w.heap.size (by omega)
  have h3 := hW w.heap.size (Nat.le_refl _) (by omega)
  rw [h2, Lib.bytesWorld_at_old _ _ _ _ (by rw [World.size_alloc]; omega)] at h3
  have h4 : (w.alloc (.cells #[.int .u32 10] 62)).heap[w.heap.size]? = some (.cells #[.int .u32 10] 62) := by simp [World.alloc, -World.alloc_eq]
  rw [h4] at h3
  refine ⟨rfl, by simp, fun _ => ⟨_, rfl, fun j p hj => ?_⟩⟩
  cases j with
  | zero =>
    obtain rfl : 10 = p := by simpa using hj
    refine ⟨[.int .u32 10], rfl, rfl, fun i u hu => ?_⟩
    cases i with
    | zero =>
      obtain rfl : Value.int .u32 10 = u := by simpa using hu
      simp [World.cell?, h3, Addr.add]
    | succ i => simp at hu
  | succ j => simp at hj
theorem n_Parse.bytes (w : World) (s : ByteArray) : ∀ W, Below (Lib.bytesWorld (w.alloc (.cells #[.int .u32 10] 62)) 5 s).heap.size (Lib.bytesWorld (w.alloc (.cells #[.int .u32 10] 62)) 5 s) W → ∀ i : Int, 0 ≤ i → i < (s.size : Int) → W.cell? ((⟨w.heap.size + 1, 0, none⟩ : Addr).add i.toNat) = some (.int .u8 (bt s i)) := by
  intro W hb i h0 h1
  have hsz : (w.alloc (.cells #[.int .u32 10] 62)).heap.size = w.heap.size + 1 := by rw [World.size_alloc]
  have hc := Lib.bytesWorld_cell (w.alloc (.cells #[.int .u32 10] 62)) 5 s i.toNat (by omega)
  have hc2 := (hb.cell (World.block_lt_of_cell? _ _ hc)).trans hc
  rw [hsz] at hc2
  have : ((⟨w.heap.size + 1, 0, none⟩ : Addr).add i.toNat) = ⟨w.heap.size + 1, i.toNat, none⟩ := by
    unfold Addr.add
    split
    · rename_i h; rw [h]
    · simp
  rw [this, hc2, ← bt_at s i (by omega)]
  have hl : i.toNat < s.data.toList.length := by rw [Array.length_toList]; show i.toNat < s.size; omega
  rw [List.getD_eq_getElem?_getD, List.getElem?_eq_getElem hl]
  simp
  rfl
section
attribute [local go_sem] n_Parse.conv
/-- From the i-th byte on. -/
def n_Parse.l (k : Nat) (s : ByteArray) : Nat → List Int → Int → Option (List Int × Int)
  | 0, _, _ => none
  | d + 1, out, i => if i < (s.size : Int) then if 0 ≤ i then (if bt s i < 48 then some ([], 2) else if bt s i > 57 then some ([], 2) else (n_Mul.f k out [10]).bind fun a => (n_Of.f (bt s i - 48)).bind fun b => (n_Add.f k a b).bind fun c => n_Parse.l k s d c (wrap64 (i + 1))) else none else some (out, 0)
def n_Parse.f (k : Nat) (a0 : ByteArray) : Option (List Int × Int) := if a0.size = 0 then some ([], 2) else if 1 < a0.size ∧ bt a0 0 = 48 then some ([], 2) else n_Parse.l k a0 (a0.size + 1) [] 0
set_option maxHeartbeats 4000000 in
set_option maxRecDepth 100000 in
theorem n_Parse.calls (k : Nat) (a0 : ByteArray) (r1 : List Int) (r2 : Int) (w : World) (h : n_Parse.f k a0 = some (r1, r2)) :
    Calls Tryd.prog 33 #[.string a0] w fun e w' => ∃ v0_ : Value, e = .returned (.tuple #[v0_, .int .i64 r2]) ∧ Kd.V (Kd.int .u32) 36 w' w.heap.size (fun k_ => (w.heap.size ≤ k_)) v0_ r1 ∧ Below w.heap.size w w' := by
  have HH := zMk h
  clear h
  have he : a0.toList.isEmpty = (decide (a0.size = 0)) := by
    have hs : a0.size = a0.data.toList.length := by rw [Array.length_toList]; rfl
    rw [ByteArray.toList_eq, hs]
    cases a0.data.toList <;> simp
  by_cases c1 : a0.size = 0
  · have hH := HH.out
    unfold n_Parse.f at hH
    rw [if_pos c1] at hH
    simp only [Option.some.injEq, Prod.mk.injEq] at hH
    obtain ⟨rfl, rfl⟩ := hH
    rw [decide_eq_true c1] at he
    go_enter Tryd.func33, Tryd.ntmps33
    go_wp2_with (fail)
    go_ret2
    exact ⟨_, rfl, Kd.V_nil _ _ _ _ _, Below.refl _ _⟩
  rw [decide_eq_false c1] at he
  have hx6 : ∀ h : 0 < a0.size, ((a0[0]'h).toNat : Int) = bt a0 0 := bt_at a0 0
  have p6 : (0 < a0.size) = True := eq_true (by omega)
  by_cases c3 : 1 < a0.size ∧ bt a0 0 = 48
  · have hH := HH.out
    unfold n_Parse.f at hH
    rw [if_neg c1, if_pos c3] at hH
    simp only [Option.some.injEq, Prod.mk.injEq] at hH
    obtain ⟨rfl, rfl⟩ := hH
    have c2b : decide (1 < (a0.size : Int)) = true := decide_eq_true (by omega)
    have c2c : decide (1 < a0.size) = true := decide_eq_true c3.1
    have c3b : (bt a0 0 == 48) = true := beq_iff_eq.mpr c3.2
    go_enter Tryd.func33, Tryd.ntmps33
    go_wp2_with (fail)
    go_ret2
    exact ⟨_, rfl, Kd.V_nil _ _ _ _ _, Below.refl _ _⟩
  have hH := HH.out
  unfold n_Parse.f at hH
  rw [if_neg c1, if_neg c3] at hH
  clear HH
  have HH := zMk hH
  clear hH
  have hb6 := bt_range a0 0
  go_enter Tryd.func33, Tryd.ntmps33
  go_upto_region 1 with (fail)
  go_cut [19] (fun v19 wc => v19 = .bool false ∧ wc = w)
  case first =>
    by_cases c2 : 1 < a0.size
    · have c3n : ¬ bt a0 0 = 48 := fun h => c3 ⟨c2, h⟩
      have c2b : decide (1 < (a0.size : Int)) = true := decide_eq_true (by omega)
      have c2c : decide (1 < a0.size) = true := decide_eq_true c2
      have c3b : (bt a0 0 == 48) = false := beq_eq_false_iff_ne.mpr c3n
      go_wp2_with (fail)
      go_meet
      case rel => exact ⟨rfl, rfl⟩
    · have c2b : decide (1 < (a0.size : Int)) = false := decide_eq_false (by omega)
      have c2c : decide (1 < a0.size) = false := decide_eq_false c2
      go_wp2_with (fail)
      go_meet
      case rel => exact ⟨rfl, rfl⟩
  case rest =>
    obtain ⟨e1, e2⟩ := hcut
    subst e1
    rw [e2]
    clear e2
    go_wp2_with (fail)
    have hB1 : Below w.heap.size w (Lib.bytesWorld (w.alloc (.cells #[.int .u32 10] 62)) 5 a0) := n_Parse.below w a0
    have hten := n_Parse.ten w a0
    have hby := n_Parse.bytes w a0
    have hsz : (Lib.bytesWorld (w.alloc (.cells #[.int .u32 10] 62)) 5 a0).heap.size = w.heap.size + 2 := by rw [Lib.bytesWorld_size, World.size_alloc]
    generalize Lib.bytesWorld (w.alloc (.cells #[.int .u32 10] 62)) 5 a0 = w1 at hB1 hten hby hsz ⊢
    generalize grownCap (w.alloc (.cells #[.int .u32 10] 62)) a0.size 0 5 = cp
    generalize (⟨w.heap.size + 1, 0, none⟩ : Addr) = adb at hby ⊢
    have HB1 := zMk hB1
    have HT := zMk hten
    have HY := zMk hby
    have HZ := zMk hsz
    clear hB1 hten hby hsz he hb6 hx6 p6
    go_loopg [4, 24] (a0.size + 1) (fun kq v4 v24 w' => ∃ (out : List Int) (i : Int), v24 = .int .i64 i ∧ Aside0 (n_Parse.l k a0 kq out i = some (r1, r2)) ∧ Aside0 (Kd.V (Kd.int .u32) 36 w' w1.heap.size (fun k_ => w.heap.size ≤ k_) v4 out) ∧ Aside0 (Below w1.heap.size w1 w'))
    case atStart => exact ⟨[], 0, rfl, HH, ⟨Kd.V_nil _ _ _ _ _⟩, ⟨Below.refl _ _⟩⟩
    clear HH
    obtain ⟨out, i, rfl, HA, HO, HB⟩ := hrel
    rcases gk with _ | d
    · exact absurd HA.out (by simp [n_Parse.l])
    have H := HA.out
    clear HA
    simp only [n_Parse.l] at H
    by_cases c8 : i < (a0.size : Int)
    · rw [if_pos c8] at H
      have c8b : decide (i < (a0.size : Int)) = true := decide_eq_true c8
      by_cases hi0 : 0 ≤ i
      rotate_left
      · rw [if_neg hi0] at H; exact absurd H (by simp)
      rw [if_pos hi0] at H
      have hx := (HY.out _ HB.out) i hi0 c8
      have p1 := eq_true hi0
      have p2 := eq_true c8
      have p3 : decide (0 ≤ i) = true := decide_eq_true hi0
      by_cases c9 : bt a0 i < 48
      · rw [if_pos c9] at H
        simp only [Option.some.injEq, Prod.mk.injEq] at H
        obtain ⟨rfl, rfl⟩ := H
        have c9b : decide (bt a0 i < 48) = true := decide_eq_true c9
        clear c9 c8 hi0
        go_wp2_with (fail)
        go_ret2
        exact ⟨_, rfl, Kd.V_nil _ _ _ _ _, n_Parse.step HB1.out HB.out⟩
      rw [if_neg c9] at H
      have c9b : decide (bt a0 i < 48) = false := decide_eq_false c9
      by_cases c10 : bt a0 i > 57
      · rw [if_pos c10] at H
        simp only [Option.some.injEq, Prod.mk.injEq] at H
        obtain ⟨rfl, rfl⟩ := H
        have c10b : decide (57 < bt a0 i) = true := decide_eq_true c10
        clear c9 c10 c8 hi0
        go_wp2_with (fail)
        go_ret2
        exact ⟨_, rfl, Kd.V_nil _ _ _ _ _, n_Parse.step HB1.out HB.out⟩
      rw [if_neg c10] at H
      have c10b : decide (57 < bt a0 i) = false := decide_eq_false c10
      obtain ⟨ta, hA, H⟩ := Option.bind_eq_some_iff.mp H
      obtain ⟨tb, hBq, H⟩ := Option.bind_eq_some_iff.mp H
      obtain ⟨tc, hC, H⟩ := Option.bind_eq_some_iff.mp H
      have AA := zMk hA
      have AB := zMk hBq
      have AC := zMk hC
      have H' := zMk H
      have hw8 : (bt a0 i - 48) % 256 = bt a0 i - 48 := by have := bt_range a0 i; omega
      clear hA hBq hC H c9 c10 c8 hi0
      obtain ⟨Ao, co, eo⟩ := Kd.V_slice HO.out
      subst eo
      go_wp2_with (first | (go_at_call 23; refine (n_Mul.calls k (fun k_ => w.heap.size ≤ k_) Ao co out (fun k_ => w.heap.size ≤ k_) (some ⟨w.heap.size, 0, none⟩) 1 [10] ta _ (n_Parse.vbase HO.out) (Kd.V_mk (xs := [(10 : Int)]) (Nat.le_refl _) (HT.out _ HB.out)) AA.out).mono ?_; rintro e w2 ⟨va, rfl, ha, hb⟩; have n0_ := zMk (zVm (ok' := fun k_ => w.heap.size ≤ k_) ha (fun _ h => h.elim (fun h => h.elim id id) (fun h => Nat.le_trans (n_Parse.le HZ.out HB.out) h))); have n1_ := zMk (zBt HB.out hb); clear HB HO ha hb; have HA2 := n0_; have HB := n1_; clear n0_ n1_) | (go_at_call 17; refine (n_Of.calls (bt a0 i - 48) tb _ AB.out).mono ?_; rintro e w3 ⟨vb, rfl, ha, hb⟩; have n0_ := zMk (zVm (ok' := fun k_ => w.heap.size ≤ k_) ha (fun _ h => Nat.le_trans (n_Parse.le HZ.out HB.out) h)); have n1_ := zMk (zBt HB.out hb); have n2_ := zMk (zVb HA2.out hb); clear HB HA2 ha hb; have HB2 := n0_; have HB := n1_; have HA2 := n2_; clear n0_ n1_ n2_; obtain ⟨A3, c3_, e3⟩ := Kd.V_slice HA2.out; subst e3; obtain ⟨A4, c4_, e4⟩ := Kd.V_slice HB2.out; subst e4) | (go_at_call 29; refine (n_Add.calls k (fun k_ => w.heap.size ≤ k_) A3 c3_ ta (fun k_ => w.heap.size ≤ k_) A4 c4_ tb tc _ (n_Parse.vbase HA2.out) (n_Parse.vbase HB2.out) AC.out).mono ?_; rintro e w4 ⟨vc, rfl, ha, hb⟩; have n0_ := zMk (zVm (ok' := fun k_ => w.heap.size ≤ k_) ha (fun _ h => h.elim (fun h => h.elim id id) (fun h => Nat.le_trans (n_Parse.le HZ.out HB.out) h))); have n1_ := zMk (zBt HB.out hb); clear HB HA2 HB2 ha hb; have HO := n0_; have HB := n1_; clear n0_ n1_))
      go_roundg d
      case measure => omega
      case rel => exact ⟨tc, wrap64 (i + 1), rfl, H', ⟨n_Parse.vbase HO.out⟩, HB⟩
    · rw [if_neg c8] at H
      simp only [Option.some.injEq, Prod.mk.injEq] at H
      obtain ⟨rfl, rfl⟩ := H
      have c8b : decide (i < (a0.size : Int)) = false := decide_eq_false c8
      clear c8
      go_wp2_with (fail)
      go_ret2
      exact ⟨_, rfl, n_Parse.vbase HO.out, n_Parse.step HB1.out HB.out⟩
end


/-! ### r1_Parse: function 34 -/
mutual
def r1_Parse.j0 : Nat → ByteArray → Bool → Option (List Int × Int)
  | 0, _, _ => none
  | k + 1, x0, x18 => if x18 = true then (some (([] : List Int), 2)) else (r1_Parse.l0 k x0 ([] : List Int) 0)
def r1_Parse.l0 : Nat → ByteArray → List Int → Int → Option (List Int × Int)
  | 0, _, _, _ => none
  | k + 1, x0, x4, x5 => if x5 < (x0.size : Int) then (if 0 ≤ x5 then (if (bt x0 x5) < 48 then (r1_Parse.j2 k x0 x4 x5 true) else (r1_Parse.j2 k x0 x4 x5 (decide ((bt x0 x5) > 57)))) else (none)) else (some (x4, 0))
def r1_Parse.j2 : Nat → ByteArray → List Int → Int → Bool → Option (List Int × Int)
  | 0, _, _, _, _ => none
  | k + 1, x0, x4, x5, x34 => if x34 = true then (some (([] : List Int), 2)) else ((r1_Mul.f k x4 (([10] : List Int))).bind fun t763 => (if 0 ≤ x5 then (if x5 < (x0.size : Int) then ((r1_Add.f k t763 (([((bt x0 x5) - 48) % 256] : List Int))).bind fun t769 => (r1_Parse.l0 k x0 t769 (wrap64 (x5 + 1)))) else (none)) else (none)))
end
def r1_Parse.f (k : Nat) (a0 : ByteArray) : Option (List Int × Int) := if (a0.size : Int) = 0 then (r1_Parse.j0 k a0 true) else (if (a0.size : Int) > 1 then (if 0 < (a0.size : Int) then (r1_Parse.j0 k a0 ((bt a0 0) == 48)) else (none)) else (r1_Parse.j0 k a0 false))
def r1_Parse.T9 : Bool × List (List Nat × List Nat) := (true, [([], []), ([], []), ([0, 1], [0, 1]), ([], []), ([], []), ([3, 4], [3, 4]), ([5], [5]), ([6], [6]), ([7], [7]), ([2, 8, 2], [2, 8]), ([9, 9, 0, 1, 2, 3, 4, 5, 6, 7, 8, 9], [0, 9])])
def r1_Parse.B9 : List Nat := [0, 0, 3, 0, 0, 24, 56, 120, 248, 511, 1023]
theorem r1_Parse.tab9 : rtab .any (opsOf Tryd.f34 9) = r1_Parse.T9 := by kernel_rfl
theorem r1_Parse.bits9 : waitsOk r1_Parse.T9.2 r1_Parse.B9 = true := by kernel_rfl
set_option maxHeartbeats 8000000 in
set_option maxRecDepth 100000 in
theorem r1_Parse.calls (k : Nat) (a0 : ByteArray) (r1 : List Int) (r2 : Int) (w : World) (h : r1_Parse.f k a0 = some (r1, r2)) :
    Calls Tryd.prog 34 #[.string a0] w fun e w' => ∃ v0_ : Value, e = .returned (.tuple #[v0_, .int .i64 r2]) ∧ Kd.R (Kd.int .u32) 36 w' w.heap.size (fun _ => True) v0_ r1 ∧ Below w.heap.size w w' := by
  have HB := zMk (Below.refl w.heap.size w)
  have H : (if (a0.size : Int) = 0 then (r1_Parse.j0 k a0 true) else (if (a0.size : Int) > 1 then (if 0 < (a0.size : Int) then (r1_Parse.j0 k a0 ((bt a0 0) == 48)) else (none)) else (r1_Parse.j0 k a0 false))) = some (r1, r2) := h
  clear h
  have HC2 := zMk H
  clear H
  go_enter Tryd.func34, Tryd.ntmps34
  go_upto_region 1 with (fail)
  go_cut [18] (fun v18 wc => ∃ (kq : Nat) (x18_1 : Bool), v18 = .bool x18_1 ∧ Aside0 (r1_Parse.j0 kq a0 x18_1 = some (r1, r2)) ∧ Aside0 (kq ≤ k) ∧ Aside0 (Below w.heap.size w wc))
  case first =>
    have H := HC2.out
    clear HC2
    by_cases c3 : (a0.size : Int) = 0
    · rw [if_pos c3] at H
      have c3b0 : ((a0.size : Int) == 0) = true := beq_iff_eq.mpr c3
      have c3b1 : ((a0.size : Int) != 0) = false := bne_eq_false_iff_eq.mpr c3
      clear c3
      (first | rw [c3b0] | (simp only [i64_w, i32_w]; rw [c3b0]) | rw [c3b1] | skip)
      have H' := zMk H
      clear H
      go_wp2
      go_meet
      case rel => exact ⟨_, (true), (by first | rfl | (simp; done) | (simp [*]; done)), H', ⟨by first | omega | exact Nat.le_refl _⟩, ⟨by repeat (first | (with_reducible first | exact HB.out | apply zBa | apply zBn | apply zBd) | exact HB.out)⟩⟩
    · rw [if_neg c3] at H
      have c3b0 : ((a0.size : Int) == 0) = false := beq_eq_false_iff_ne.mpr c3
      have c3b1 : ((a0.size : Int) != 0) = true := bne_iff_ne.mpr c3
      (first | rw [c3b0] | (simp only [i64_w, i32_w]; rw [c3b0]) | rw [c3b1] | skip)
      by_cases c4 : (a0.size : Int) > 1
      · rw [if_pos c4] at H
        have c4b0 : decide (1 < (a0.size : Int)) = true := decide_eq_true c4
        have c4b1 : decide (1 < a0.size) = true := decide_eq_true (by omega)
        clear c4
        by_cases c5 : 0 < (a0.size : Int)
        rotate_left
        · rw [if_neg c5] at H; exact absurd H (by simp)
        rw [if_pos c5] at H
        have c5b0 : decide (0 < (a0.size : Int)) = true := decide_eq_true c5
        have c5b1 : decide (0 < a0.size) = true := decide_eq_true (by omega)
        clear c5
        have H' := zMk H
        clear H
        have p6 : 0 ≤ (0 : Int) := (by omega)
        have q6 : 0 < a0.size := (by have : (0 : Int) < (a0.size : Int) := of_decide_eq_true (by first | (with_reducible assumption) | assumption); omega)
        have hx6 : ∀ h : 0 < a0.size, ((a0[0]'h).toNat : Int) = bt a0 0 := bt_at a0 0
        clear p6
        have qi6 : (0 < (a0.size : Int)) = True := eq_true (of_decide_eq_true (by first | (with_reducible assumption) | assumption))
        replace q6 := eq_true q6
        go_wp2
        go_meet
        case rel => exact ⟨_, (((bt a0 0) == 48)), (by first | rfl | (simp; done) | (simp [*]; done)), H', ⟨by first | omega | exact Nat.le_refl _⟩, ⟨by repeat (first | (with_reducible first | exact HB.out | apply zBa | apply zBn | apply zBd) | exact HB.out)⟩⟩
      · rw [if_neg c4] at H
        have c4b0 : decide (1 < (a0.size : Int)) = false := decide_eq_false c4
        have c4b1 : decide (1 < a0.size) = false := decide_eq_false (by omega)
        clear c4
        have H' := zMk H
        clear H
        go_wp2
        go_meet
        case rel => exact ⟨_, (false), (by first | rfl | (simp; done) | (simp [*]; done)), H', ⟨by first | omega | exact Nat.le_refl _⟩, ⟨by repeat (first | (with_reducible first | exact HB.out | apply zBa | apply zBn | apply zBd) | exact HB.out)⟩⟩
  case rest =>
    clear HC2
    obtain ⟨kq, x18_1, rfl, HA, HJ1, HB⟩ := hcut
    rcases kq with _ | kj1
    · exact absurd HA.out (by simp [r1_Parse.j0])
    have H := HA.out
    clear HA
    simp only [r1_Parse.j0] at H
    by_cases c7 : x18_1 = true
    · subst c7
      have H1 : (some (([] : List Int), 2)) = some (r1, r2) := by rw [if_pos rfl] at H; exact H
      clear H
      have H := H1
      clear H1
      simp only [Option.some.injEq, Prod.mk.injEq] at H
      obtain ⟨rfl, rfl⟩ := H
      go_wp2
      go_ret2
      exact ⟨_, by first | rfl | (simp [errW_none, errW_some] <;> rfl) | (simp [*, errW_none, errW_some] <;> rfl), by first | exact Kd.R_nil _ _ _ _ _ | exact Kd.N_nil _ _ _ _ _ | exact Kd.V_nil _ _ _ _ _ | exact Kd.Q_nil _ _ _ _ _ | exact Kd.S_nil _ _ _ _ _, by repeat (first | (with_reducible first | exact HB.out | apply zBa | apply zBn | apply zBd) | exact HB.out)⟩
    · replace c7 := Bool.eq_false_iff.mpr c7
      subst c7
      have H1 : (r1_Parse.l0 kj1 a0 ([] : List Int) 0) = some (r1, r2) := by rw [if_neg (show ¬ (false = true) by decide)] at H; exact H
      clear H
      have H := H1
      clear H1
      have H' := zMk H
      clear H
      go_wp2
      go_loopg [4, 5] kj1 (fun kq v4 v5 w' => ∃ (x4_2 : List Int) (x5_2 : Int), v5 = .int .i64 x5_2 ∧ Aside0 (r1_Parse.l0 kq a0 x4_2 x5_2 = some (r1, r2)) ∧ Aside0 (kq ≤ kj1) ∧ Aside0 (Kd.R (Kd.int .u32) 36 w' w.heap.size (fun _ => True) v4 x4_2) ∧ Aside0 (Below w.heap.size w w'))
      case atStart => exact ⟨(([] : List Int)), (0), (by first | rfl | (simp; done) | (simp [*]; done)), H', ⟨Nat.le_refl _⟩, ⟨by first | exact Kd.R_nil _ _ _ _ _ | exact Kd.N_nil _ _ _ _ _ | exact Kd.V_nil _ _ _ _ _ | exact Kd.Q_nil _ _ _ _ _ | exact Kd.S_nil _ _ _ _ _⟩, ⟨by repeat (first | (with_reducible first | exact HB.out | apply zBa | apply zBn | apply zBd) | exact HB.out)⟩⟩
      clear H'
      obtain ⟨x4_2, x5_2, rfl, HA, HK2, HO_4, HB⟩ := hrel
      rcases gk with _ | k2
      · exact absurd HA.out (by simp [r1_Parse.l0])
      have H := HA.out
      clear HA
      simp only [r1_Parse.l0] at H
      by_cases c8 : x5_2 < (a0.size : Int)
      · rw [if_pos c8] at H
        have c8b0 : decide (x5_2 < (a0.size : Int)) = true := decide_eq_true c8
        clear c8
        have HC9 := zMk H
        clear H
        go_upto_region 7 with (fail)
        go_cut [34] (fun v34 wc => ∃ (kq : Nat) (x34_8 : Bool), v34 = .bool x34_8 ∧ Aside0 (r1_Parse.j2 kq a0 x4_2 x5_2 x34_8 = some (r1, r2)) ∧ Aside0 (kq ≤ k2) ∧ Aside0 (Kd.R (Kd.int .u32) 36 wc w.heap.size (fun _ => True) u4 x4_2) ∧ Aside0 (Below w.heap.size w wc))
        case first =>
          have H := HC9.out
          clear HC9
          by_cases c10 : 0 ≤ x5_2
          rotate_left
          · rw [if_neg c10] at H; exact absurd H (by simp)
          rw [if_pos c10] at H
          have c10b0 : decide (0 ≤ x5_2) = true := decide_eq_true c10
          clear c10
          (first | rw [c10b0] | (simp only [i64_w, i32_w]; rw [c10b0]) | rw [c10b1] | skip)
          by_cases c12 : (bt a0 x5_2) < 48
          · rw [if_pos c12] at H
            have c12b0 : decide ((bt a0 x5_2) < 48) = true := decide_eq_true c12
            clear c12
            have H' := zMk H
            clear H
            have p11 : 0 ≤ (x5_2 : Int) := of_decide_eq_true (by first | (with_reducible assumption) | assumption)
            have q11 : x5_2 < (a0.size : Int) := of_decide_eq_true (by first | (with_reducible assumption) | assumption)
            have hx11 := bt_at a0 x5_2
            replace p11 := eq_true p11
            replace q11 := eq_true q11
            go_wp2
            go_meet
            case rel => exact ⟨_, (true), (by first | rfl | (simp; done) | (simp [*]; done)), H', ⟨by have := HJ1.out; have := HK2.out; first | omega | exact Nat.le_refl _⟩, ⟨by (with_reducible repeat (first | apply zRa | apply zRn | apply zRd)); exact HO_4.out⟩, ⟨by repeat (first | (with_reducible first | exact HB.out | apply zBa | apply zBn | apply zBd) | exact HB.out)⟩⟩
          · rw [if_neg c12] at H
            have c12b0 : decide ((bt a0 x5_2) < 48) = false := decide_eq_false c12
            clear c12
            have H' := zMk H
            clear H
            have p11 : 0 ≤ (x5_2 : Int) := of_decide_eq_true (by first | (with_reducible assumption) | assumption)
            have q11 : x5_2 < (a0.size : Int) := of_decide_eq_true (by first | (with_reducible assumption) | assumption)
            have hx11 := bt_at a0 x5_2
            replace p11 := eq_true p11
            replace q11 := eq_true q11
            have p13 : 0 ≤ (x5_2 : Int) := of_decide_eq_true (by first | (with_reducible assumption) | assumption)
            have q13 : x5_2 < (a0.size : Int) := of_decide_eq_true (by first | (with_reducible assumption) | assumption)
            have hx13 := bt_at a0 x5_2
            replace p13 := eq_true p13
            replace q13 := eq_true q13
            go_wp2
            go_meet
            case rel => exact ⟨_, (decide ((bt a0 x5_2) > 57)), (by first | rfl | (simp; done) | (simp [*]; done)), H', ⟨by have := HJ1.out; have := HK2.out; first | omega | exact Nat.le_refl _⟩, ⟨by (with_reducible repeat (first | apply zRa | apply zRn | apply zRd)); exact HO_4.out⟩, ⟨by repeat (first | (with_reducible first | exact HB.out | apply zBa | apply zBn | apply zBd) | exact HB.out)⟩⟩
        case rest =>
          clear HC9
          obtain ⟨kq, x34_8, rfl, HA, HJ8, HO_4, HB⟩ := hcut
          rcases kq with _ | kj8
          · exact absurd HA.out (by simp [r1_Parse.j2])
          have H := HA.out
          clear HA
          simp only [r1_Parse.j2] at H
          by_cases c14 : x34_8 = true
          · subst c14
            have H1 : (some (([] : List Int), 2)) = some (r1, r2) := by rw [if_pos rfl] at H; exact H
            clear H
            have H := H1
            clear H1
            simp only [Option.some.injEq, Prod.mk.injEq] at H
            obtain ⟨rfl, rfl⟩ := H
            go_wp2
            go_ret2
            exact ⟨_, by first | rfl | (simp [errW_none, errW_some] <;> rfl) | (simp [*, errW_none, errW_some] <;> rfl), by first | exact Kd.R_nil _ _ _ _ _ | exact Kd.N_nil _ _ _ _ _ | exact Kd.V_nil _ _ _ _ _ | exact Kd.Q_nil _ _ _ _ _ | exact Kd.S_nil _ _ _ _ _, by repeat (first | (with_reducible first | exact HB.out | apply zBa | apply zBn | apply zBd) | exact HB.out)⟩
          · replace c14 := Bool.eq_false_iff.mpr c14
            subst c14
            have H1 : ((r1_Mul.f kj8 x4_2 (([10] : List Int))).bind fun t763 => (if 0 ≤ x5_2 then (if x5_2 < (a0.size : Int) then ((r1_Add.f kj8 t763 (([((bt a0 x5_2) - 48) % 256] : List Int))).bind fun t769 => (r1_Parse.l0 kj8 a0 t769 (wrap64 (x5_2 + 1)))) else (none)) else (none))) = some (r1, r2) := by rw [if_neg (show ¬ (false = true) by decide)] at H; exact H
            clear H
            have H := H1
            clear H1
            obtain ⟨y760, hy760⟩ : ∃ y_ : List Int, y_ = (([10] : List Int)) := ⟨_, rfl⟩
            replace H : ((r1_Mul.f kj8 x4_2 y760).bind fun t763 => (if 0 ≤ x5_2 then (if x5_2 < (a0.size : Int) then ((r1_Add.f kj8 t763 (([((bt a0 x5_2) - 48) % 256] : List Int))).bind fun t769 => (r1_Parse.l0 kj8 a0 t769 (wrap64 (x5_2 + 1)))) else (none)) else (none))) = some (r1, r2) := by first | (rw [hy760]; with_reducible exact H) | (have H2_ := (zOb _ _).symm.trans H; rw [hy760]; with_reducible exact H2_) | (have H2_ := (zOb _ _).symm.trans H; with_reducible exact H2_) | with_reducible exact H | (rw [hy760]; exact H) | exact H
            have Ny760 := zMk hy760
            clear hy760
            replace H := Option.bind_eq_some_iff.mp H
            obtain ⟨t763, A150, H⟩ := H
            have A15 := zMk A150
            clear A150
            by_cases c16 : 0 ≤ x5_2
            rotate_left
            · rw [if_neg c16] at H; exact absurd H (by simp)
            rw [if_pos c16] at H
            have c16b0 : decide (0 ≤ x5_2) = true := decide_eq_true c16
            clear c16
            by_cases c17 : x5_2 < (a0.size : Int)
            rotate_left
            · rw [if_neg c17] at H; exact absurd H (by simp)
            rw [if_pos c17] at H
            have c17b0 : decide (x5_2 < (a0.size : Int)) = true := decide_eq_true c17
            clear c17
            obtain ⟨y766, hy766⟩ : ∃ y_ : List Int, y_ = (([((bt a0 x5_2) - 48) % 256] : List Int)) := ⟨_, rfl⟩
            replace H : ((r1_Add.f kj8 t763 y766).bind fun t769 => (r1_Parse.l0 kj8 a0 t769 (wrap64 (x5_2 + 1)))) = some (r1, r2) := by first | (rw [hy766]; with_reducible exact H) | (have H2_ := (zOb _ _).symm.trans H; rw [hy766]; with_reducible exact H2_) | (have H2_ := (zOb _ _).symm.trans H; with_reducible exact H2_) | with_reducible exact H | (rw [hy766]; exact H) | exact H
            have Ny766 := zMk hy766
            clear hy766
            replace H := Option.bind_eq_some_iff.mp H
            obtain ⟨t769, A190, H⟩ := H
            have A19 := zMk A190
            clear A190
            have H' := zMk H
            clear H
            obtain ⟨Ao20, co20, eo20⟩ := Kd.R_slice HO_4.out
            subst eo20
            try go_wp2
            have n0_ := zMk (zRd HO_4.out)
            have n1_ := zMk (zBd HB.out)
            clear HO_4
            clear HB
            have HO_4 := n0_
            have HB := n1_
            clear n0_ n1_
            have p18 : 0 ≤ (x5_2 : Int) := of_decide_eq_true (by first | (with_reducible assumption) | assumption)
            have q18 : x5_2 < (a0.size : Int) := of_decide_eq_true (by first | (with_reducible assumption) | assumption)
            have hx18 := bt_at a0 x5_2
            replace p18 := eq_true p18
            replace q18 := eq_true q18
            refine start_ (n := 11) (S := fun w' => True) (ds := []) #[false, false, false, false, false, false, false, false, false, false, false] (by kernel_rfl) rfl rfl trivial (fun hHeld => ?_); refine with_tabW r1_Parse.tab9 r1_Parse.bits9 (fun HT_ HW_ => ?_)
            generalize wc.drew = w21 at HO_4 HB hHeld ⊢
            refine pure_ (i := 0) (N := some 35) (v := ?_) (a' := ?_) #[true, false, false, false, false, false, false, false, false, false, false] rfl rfl (any_of HT_.out (by kernel_rfl)) (fun _ _ _ h => h) (Or.inl ⟨by rfl, ?_⟩) ?_ ?_
            rotate_left
            · intro w'
              go_simp
              with_reducible rfl
            rotate_left
            · simp only [Act.put, zSa, zSb, zSc, i64_w, i32_w]
              rfl
            refine pure_ (i := 3) (N := some 38) (v := ?_) (a' := ?_) #[true, false, false, true, false, false, false, false, false, false, false] rfl rfl (any_of HT_.out (by kernel_rfl)) (fun _ _ _ h => h) (Or.inl ⟨by rfl, ?_⟩) ?_ ?_
            rotate_left
            · intro w'
              go_simp
              with_reducible rfl
            rotate_left
            · simp only [Act.put, zSa, zSb, zSc, i64_w, i32_w]
              rfl
            refine pure_ (i := 4) (N := some 39) (v := ?_) (a' := ?_) #[true, false, false, true, true, false, false, false, false, false, false] rfl rfl (any_of HT_.out (by kernel_rfl)) (fun _ _ _ h => h) (Or.inl ⟨by rfl, ?_⟩) ?_ ?_
            rotate_left
            · intro w'
              go_simp
              with_reducible rfl
            rotate_left
            · simp only [Act.put, zSa, zSb, zSc, i64_w, i32_w]
              rfl
            refine take_ (i := 5) (N := some 40) (v := ?_) (a' := ?_) #[true, false, false, true, true, true, false, false, false, false, false] rfl rfl (take_ofW HT_.out HW_.out (by kernel_rfl)) (fun _ _ _ h => h) (Or.inl ⟨by rfl, ?_⟩) hHeld ?_ ?_
            rotate_left
            · intro w' _
              go_simp
              with_reducible rfl
            rotate_left
            · simp only [Act.put, zSa, zSb, zSc, i64_w, i32_w]
              rfl
            refine pure_ (i := 6) (N := some 41) (v := ?_) (a' := ?_) #[true, false, false, true, true, true, true, false, false, false, false] rfl rfl (any_of HT_.out (by kernel_rfl)) (fun _ _ _ h => h) (Or.inl ⟨by rfl, ?_⟩) ?_ ?_
            rotate_left
            · intro w'
              go_simp
              with_reducible rfl
            rotate_left
            · simp only [Act.put, zSa, zSb, zSc, i64_w, i32_w]
              rfl
            refine pure_ (i := 7) (N := some 42) (v := ?_) (a' := ?_) #[true, false, false, true, true, true, true, true, false, false, false] rfl rfl (any_of HT_.out (by kernel_rfl)) (fun _ _ _ h => h) (Or.inl ⟨by rfl, ?_⟩) ?_ ?_
            rotate_left
            · intro w'
              go_simp
              with_reducible rfl
            rotate_left
            · simp only [Act.put, zSa, zSb, zSc, i64_w, i32_w]
              rfl
            refine join_ (σ := Value × Value × Value) 2 #[true, true, true, true, true, true, true, true, true, false, false] (fun s_ => [(36, s_.1), (37, s_.2.1), (43, s_.2.2)]) (fun s_ w' => (Kd.R (Kd.int .u32) 36 w' w.heap.size (fun k_ => some k_ ≠ (s_.2.1 : Value).ownBlock ∧ some k_ ≠ (s_.2.2 : Value).ownBlock ∧ some k_ ≠ (.slice Ao20 x4_2.length co20 : Value).ownBlock) s_.1 y760) ∧ (Kd.R (Kd.int .u32) 36 w' w.heap.size (fun k_ => some k_ ≠ (s_.1 : Value).ownBlock ∧ some k_ ≠ (s_.2.2 : Value).ownBlock ∧ some k_ ≠ (.slice Ao20 x4_2.length co20 : Value).ownBlock) s_.2.1 t763) ∧ (Kd.R (Kd.int .u32) 36 w' w.heap.size (fun k_ => some k_ ≠ (s_.1 : Value).ownBlock ∧ some k_ ≠ (s_.2.1 : Value).ownBlock ∧ some k_ ≠ (.slice Ao20 x4_2.length co20 : Value).ownBlock) s_.2.2 y766) ∧ (Kd.R (Kd.int .u32) 36 w' w.heap.size (fun k_ => some k_ ≠ (s_.1 : Value).ownBlock ∧ some k_ ≠ (s_.2.1 : Value).ownBlock ∧ some k_ ≠ (s_.2.2 : Value).ownBlock) (.slice Ao20 x4_2.length co20) x4_2) ∧ (Below w.heap.size w w')) ?_ ?_
            rotate_left
            · intro hCont
              refine two_ (i := 1) (j := 8) (Ni := some 36) (Nj := some 43) #[true, true, false, true, true, true, true, true, false, false, false] #[true, false, false, true, true, true, true, true, true, false, false] rfl rfl rfl rfl (two_of HT_.out (by kernel_rfl)) (by decide) (by decide) (fun K hK => ?_) (fun K hK => ?_)
              · skip
                refine Kd.R_lit_step (Kd.int .u32) _ 36 ?hg (N := 36) ?hd (xs := ([10] : List Int)) (inner := [.int .u32 10]) (ok := fun _ => True) (okp := fun _ => True) ?hr ?hp (fun _ hk => hk) trivial (Below.refl _ _) (Nat.le_refl _) (by simp) ?_; (case hd => rfl); (case hg => rfl); (case hr => first | (go_simp; done) | (go_simp; rfl) | (go_simp; rw [show ∀ x : Int, IntKind.u32.wrap (IntKind.u8.wrap x) = x % 256 from fun x => (by show (x % 256) % 4294967296 = x % 256; omega)])); (case hp => exact (Reps.one (show Kd.M (Kd.int .u32) _ _ _ 10 [.int .u32 10] from rfl) (Reps.none _ _)))
                intro v761 w22 ho23 hb hg_ hnew_
                clear hg_ hnew_
                (first | rw [← Ny760.out] at ho23 | (simp only [Int.reduceToNat] at ho23; rw [← Ny760.out] at ho23))
                have n0_ := zMk (Kd.R_elder' (by (with_reducible repeat (first | apply zRa | apply zRn | apply zRd)); exact HO_4.out) (Kd.R_base ho23) hb)
                have n1_ := zMk (Kd.R_lower (Kd.R_new' ho23 (Kd.R_lt (by (with_reducible repeat (first | apply zRa | apply zRn | apply zRd)); exact HO_4.out))) (zBs (by repeat (first | (with_reducible first | exact HB.out | apply zBa | apply zBn | apply zBd) | exact HB.out))))
                have n2_ := zMk (zBt (by repeat (first | (with_reducible first | exact HB.out | apply zBa | apply zBn | apply zBd) | exact HB.out)) hb)
                clear HO_4
                clear HB
                have HO_4 := n0_
                have HO762 := n1_
                have HB := n2_
                clear n0_ n1_ n2_
                clear hb ho23
                obtain ⟨Ao24, co24, eo24⟩ := Kd.R_slice HO762.out
                (first | subst eo24 | (injection eo24 with f1_ f2_ f3_; have f4_ := f1_.symm; have f5_ := f3_.symm; clear f1_ f2_ f3_; subst f4_; subst f5_))
                refine hK.out _ _ trivial (fun hHeld => ?_)
                clear hK K
                refine norm_ (a' := ?_) ?_ ?_
                rotate_left
                · show Act.put _ (some 36) _ = _
                  simp only [Act.put, zSa, zSb, zSc, i64_w, i32_w]
                  rfl
                refine two_ (i := 2) (j := 8) (Ni := some 37) (Nj := some 43) #[true, true, true, true, true, true, true, true, false, false, false] #[true, true, false, true, true, true, true, true, true, false, false] rfl rfl rfl rfl (two_of HT_.out (by kernel_rfl)) (by decide) (by decide) (fun K hK => ?_) (fun K hK => ?_)
                · skip
                  refine goes_ Tryd.func24 (by kernel_rfl) rfl #[.slice Ao20 x4_2.length co20, .slice Ao24 y760.length co24] (by rfl) rfl rfl (by (try simp only [List.map_toArray, List.map_cons, List.map_nil]); first | done | rfl | (simp only [zLd, zLt]; rfl)) ?_
                  with_reducible refine (r1_Mul.calls kj8 _ _ x4_2 _ _ y760 t763 _ ?side1 ?side2 ?side3 ?side4 A15.out).mono ?_
                  (case side1 => repeat (first | exact (Kd.R_reads' HO_4.out).2.2 | (with_reducible refine zCa ?_ _) | (with_reducible refine zCn ?_ _) | (with_reducible refine zCd ?_)))
                  (case side2 => exact (Kd.R_reads' HO_4.out).2.1)
                  (case side3 => repeat (first | exact (Kd.R_reads' HO762.out).2.2 | (with_reducible refine zCa ?_ _) | (with_reducible refine zCn ?_ _) | (with_reducible refine zCd ?_)))
                  (case side4 => exact (Kd.R_reads' HO762.out).2.1)
                  rintro e w25 ⟨v764, rfl, ho0, hb⟩
                  refine ⟨_, rfl, ?_⟩
                  have n0_ := zMk (Kd.R_elder' (by (with_reducible repeat (first | apply zRa | apply zRn | apply zRd)); exact HO_4.out) (Kd.R_base ho0) hb)
                  have n1_ := zMk (Kd.R_elder' (by (with_reducible repeat (first | apply zRa | apply zRn | apply zRd)); exact HO762.out) (Kd.R_base ho0) hb)
                  have n2_ := zMk (Kd.R_lower (Kd.R_new' (Kd.R_new' ho0 (Kd.R_lt (by (with_reducible repeat (first | apply zRa | apply zRn | apply zRd)); exact HO_4.out))) (Kd.R_lt (by (with_reducible repeat (first | apply zRa | apply zRn | apply zRd)); exact HO762.out))) (zBs (by repeat (first | (with_reducible first | exact HB.out | apply zBa | apply zBn | apply zBd) | exact HB.out))))
                  have n3_ := zMk (zBt (by repeat (first | (with_reducible first | exact HB.out | apply zBa | apply zBn | apply zBd) | exact HB.out)) hb)
                  clear HO_4
                  clear HO762
                  clear HB
                  have HO_4 := n0_
                  have HO762 := n1_
                  have HO765 := n2_
                  have HB := n3_
                  clear n0_ n1_ n2_ n3_
                  (try clear hb)
                  (try clear hb2)
                  (try clear hk)
                  (try clear hi)
                  (try clear ho0)
                  refine hK.out _ _ trivial (fun hHeld => ?_)
                  clear hK K
                  refine norm_ (a' := ?_) ?_ ?_
                  rotate_left
                  · show Act.put _ (some 37) _ = _
                    simp only [Act.put, zSa, zSb, zSc, i64_w, i32_w]
                    rfl
                  refine one_ (i := 8) (N := some 43) #[true, true, true, true, true, true, true, true, true, false, false] rfl rfl (one_of HT_.out (by kernel_rfl)) (by decide) (fun K hK => ?_)
                  refine Kd.R_lit_step (Kd.int .u32) _ 36 ?hg (N := 43) ?hd (xs := ([((bt a0 x5_2) - 48) % 256] : List Int)) (inner := [.int .u32 (((bt a0 x5_2) - 48) % 256)]) (ok := fun _ => True) (okp := fun _ => True) ?hr ?hp (fun _ hk => hk) trivial (Below.refl _ _) (Nat.le_refl _) (by simp) ?_; (case hd => rfl); (case hg => rfl); (case hr => first | (go_simp; done) | (go_simp; rfl) | (go_simp; rw [show ∀ x : Int, IntKind.u32.wrap (IntKind.u8.wrap x) = x % 256 from fun x => (by show (x % 256) % 4294967296 = x % 256; omega)])); (case hp => exact (Reps.one (show Kd.M (Kd.int .u32) _ _ _ (((bt a0 x5_2) - 48) % 256) [.int .u32 (((bt a0 x5_2) - 48) % 256)] from rfl) (Reps.none _ _)))
                  intro v767 w26 ho27 hb hg_ hnew_
                  clear hg_ hnew_
                  (first | rw [← Ny766.out] at ho27 | (simp only [Int.reduceToNat] at ho27; rw [← Ny766.out] at ho27))
                  have n0_ := zMk (Kd.R_elder' (by (with_reducible repeat (first | apply zRa | apply zRn | apply zRd)); exact HO_4.out) (Kd.R_base ho27) hb)
                  have n1_ := zMk (Kd.R_elder' (by (with_reducible repeat (first | apply zRa | apply zRn | apply zRd)); exact HO762.out) (Kd.R_base ho27) hb)
                  have n2_ := zMk (Kd.R_elder' (by (with_reducible repeat (first | apply zRa | apply zRn | apply zRd)); exact HO765.out) (Kd.R_base ho27) hb)
                  have n3_ := zMk (Kd.R_lower (Kd.R_new' (Kd.R_new' (Kd.R_new' ho27 (Kd.R_lt (by (with_reducible repeat (first | apply zRa | apply zRn | apply zRd)); exact HO_4.out))) (Kd.R_lt (by (with_reducible repeat (first | apply zRa | apply zRn | apply zRd)); exact HO762.out))) (Kd.R_lt (by (with_reducible repeat (first | apply zRa | apply zRn | apply zRd)); exact HO765.out))) (zBs (by repeat (first | (with_reducible first | exact HB.out | apply zBa | apply zBn | apply zBd) | exact HB.out))))
                  have n4_ := zMk (zBt (by repeat (first | (with_reducible first | exact HB.out | apply zBa | apply zBn | apply zBd) | exact HB.out)) hb)
                  clear HO_4
                  clear HO762
                  clear HO765
                  clear HB
                  have HO_4 := n0_
                  have HO762 := n1_
                  have HO765 := n2_
                  have HO768 := n3_
                  have HB := n4_
                  clear n0_ n1_ n2_ n3_ n4_
                  clear hb ho27
                  refine hK.out _ _ trivial (fun hHeld => ?_)
                  clear hK K
                  refine norm_ (a' := ?_) ?_ ?_
                  rotate_left
                  · show Act.put _ (some 43) _ = _
                    simp only [Act.put, zSa, zSb, zSc, i64_w, i32_w]
                    rfl
                  exact norm_ (by simp only [putAll, Act.put, zSa, zSb, zSc]) (hCont (.slice Ao24 y760.length co24, v764, v767) _ ⟨(by (with_reducible repeat (first | apply zRa | apply zRn | apply zRd)); exact zRm HO762.out (fun _ hk => ⟨hk.1.2, ⟨hk.2, hk.1.1.2⟩⟩)), (by (with_reducible repeat (first | apply zRa | apply zRn | apply zRd)); exact zRm HO765.out (fun _ hk => ⟨hk.1.2, ⟨hk.2, hk.1.1.2⟩⟩)), (by (with_reducible repeat (first | apply zRa | apply zRn | apply zRd)); exact zRm HO768.out (fun _ hk => ⟨hk.1.2, ⟨hk.2, hk.1.1.2⟩⟩)), (by (with_reducible repeat (first | apply zRa | apply zRn | apply zRd)); exact zRm HO_4.out (fun _ hk => ⟨hk.1.1.2, ⟨hk.1.2, hk.2⟩⟩)), (by repeat (first | (with_reducible first | exact HB.out | apply zBa | apply zBn | apply zBd) | exact HB.out))⟩)
                · skip
                  refine Kd.R_lit_step (Kd.int .u32) _ 36 ?hg (N := 43) ?hd (xs := ([((bt a0 x5_2) - 48) % 256] : List Int)) (inner := [.int .u32 (((bt a0 x5_2) - 48) % 256)]) (ok := fun _ => True) (okp := fun _ => True) ?hr ?hp (fun _ hk => hk) trivial (Below.refl _ _) (Nat.le_refl _) (by simp) ?_; (case hd => rfl); (case hg => rfl); (case hr => first | (go_simp; done) | (go_simp; rfl) | (go_simp; rw [show ∀ x : Int, IntKind.u32.wrap (IntKind.u8.wrap x) = x % 256 from fun x => (by show (x % 256) % 4294967296 = x % 256; omega)])); (case hp => exact (Reps.one (show Kd.M (Kd.int .u32) _ _ _ (((bt a0 x5_2) - 48) % 256) [.int .u32 (((bt a0 x5_2) - 48) % 256)] from rfl) (Reps.none _ _)))
                  intro v767 w24 ho25 hb hg_ hnew_
                  clear hg_ hnew_
                  (first | rw [← Ny766.out] at ho25 | (simp only [Int.reduceToNat] at ho25; rw [← Ny766.out] at ho25))
                  have n0_ := zMk (Kd.R_elder' (by (with_reducible repeat (first | apply zRa | apply zRn | apply zRd)); exact HO_4.out) (Kd.R_base ho25) hb)
                  have n1_ := zMk (Kd.R_elder' (by (with_reducible repeat (first | apply zRa | apply zRn | apply zRd)); exact HO762.out) (Kd.R_base ho25) hb)
                  have n2_ := zMk (Kd.R_lower (Kd.R_new' (Kd.R_new' ho25 (Kd.R_lt (by (with_reducible repeat (first | apply zRa | apply zRn | apply zRd)); exact HO_4.out))) (Kd.R_lt (by (with_reducible repeat (first | apply zRa | apply zRn | apply zRd)); exact HO762.out))) (zBs (by repeat (first | (with_reducible first | exact HB.out | apply zBa | apply zBn | apply zBd) | exact HB.out))))
                  have n3_ := zMk (zBt (by repeat (first | (with_reducible first | exact HB.out | apply zBa | apply zBn | apply zBd) | exact HB.out)) hb)
                  clear HO_4
                  clear HO762
                  clear HB
                  have HO_4 := n0_
                  have HO762 := n1_
                  have HO768 := n2_
                  have HB := n3_
                  clear n0_ n1_ n2_ n3_
                  clear hb ho25
                  obtain ⟨Ao26, co26, eo26⟩ := Kd.R_slice HO762.out
                  (first | subst eo26 | (injection eo26 with f1_ f2_ f3_; have f4_ := f1_.symm; have f5_ := f3_.symm; clear f1_ f2_ f3_; subst f4_; subst f5_))
                  refine hK.out _ _ trivial (fun hHeld => ?_)
                  clear hK K
                  refine norm_ (a' := ?_) ?_ ?_
                  rotate_left
                  · show Act.put _ (some 43) _ = _
                    simp only [Act.put, zSa, zSb, zSc, i64_w, i32_w]
                    rfl
                  refine one_ (i := 2) (N := some 37) #[true, true, true, true, true, true, true, true, true, false, false] rfl rfl (one_of HT_.out (by kernel_rfl)) (by decide) (fun K hK => ?_)
                  refine goes_ Tryd.func24 (by kernel_rfl) rfl #[.slice Ao20 x4_2.length co20, .slice Ao26 y760.length co26] (by rfl) rfl rfl (by (try simp only [List.map_toArray, List.map_cons, List.map_nil]); first | done | rfl | (simp only [zLd, zLt]; rfl)) ?_
                  with_reducible refine (r1_Mul.calls kj8 _ _ x4_2 _ _ y760 t763 _ ?side1 ?side2 ?side3 ?side4 A15.out).mono ?_
                  (case side1 => repeat (first | exact (Kd.R_reads' HO_4.out).2.2 | (with_reducible refine zCa ?_ _) | (with_reducible refine zCn ?_ _) | (with_reducible refine zCd ?_)))
                  (case side2 => exact (Kd.R_reads' HO_4.out).2.1)
                  (case side3 => repeat (first | exact (Kd.R_reads' HO762.out).2.2 | (with_reducible refine zCa ?_ _) | (with_reducible refine zCn ?_ _) | (with_reducible refine zCd ?_)))
                  (case side4 => exact (Kd.R_reads' HO762.out).2.1)
                  rintro e w27 ⟨v764, rfl, ho0, hb⟩
                  refine ⟨_, rfl, ?_⟩
                  have n0_ := zMk (Kd.R_elder' (by (with_reducible repeat (first | apply zRa | apply zRn | apply zRd)); exact HO_4.out) (Kd.R_base ho0) hb)
                  have n1_ := zMk (Kd.R_elder' (by (with_reducible repeat (first | apply zRa | apply zRn | apply zRd)); exact HO762.out) (Kd.R_base ho0) hb)
                  have n2_ := zMk (Kd.R_elder' (by (with_reducible repeat (first | apply zRa | apply zRn | apply zRd)); exact HO768.out) (Kd.R_base ho0) hb)
                  have n3_ := zMk (Kd.R_lower (Kd.R_new' (Kd.R_new' (Kd.R_new' ho0 (Kd.R_lt (by (with_reducible repeat (first | apply zRa | apply zRn | apply zRd)); exact HO_4.out))) (Kd.R_lt (by (with_reducible repeat (first | apply zRa | apply zRn | apply zRd)); exact HO762.out))) (Kd.R_lt (by (with_reducible repeat (first | apply zRa | apply zRn | apply zRd)); exact HO768.out))) (zBs (by repeat (first | (with_reducible first | exact HB.out | apply zBa | apply zBn | apply zBd) | exact HB.out))))
                  have n4_ := zMk (zBt (by repeat (first | (with_reducible first | exact HB.out | apply zBa | apply zBn | apply zBd) | exact HB.out)) hb)
                  clear HO_4
                  clear HO762
                  clear HO768
                  clear HB
                  have HO_4 := n0_
                  have HO762 := n1_
                  have HO768 := n2_
                  have HO765 := n3_
                  have HB := n4_
                  clear n0_ n1_ n2_ n3_ n4_
                  (try clear hb)
                  (try clear hb2)
                  (try clear hk)
                  (try clear hi)
                  (try clear ho0)
                  refine hK.out _ _ trivial (fun hHeld => ?_)
                  clear hK K
                  refine norm_ (a' := ?_) ?_ ?_
                  rotate_left
                  · show Act.put _ (some 37) _ = _
                    simp only [Act.put, zSa, zSb, zSc, i64_w, i32_w]
                    rfl
                  exact norm_ (by simp only [putAll, Act.put, zSa, zSb, zSc]) (hCont (.slice Ao26 y760.length co26, v764, v767) _ ⟨(by (with_reducible repeat (first | apply zRa | apply zRn | apply zRd)); exact zRm HO762.out (fun _ hk => ⟨hk.2, ⟨hk.1.2, hk.1.1.2⟩⟩)), (by (with_reducible repeat (first | apply zRa | apply zRn | apply zRd)); exact zRm HO765.out (fun _ hk => ⟨hk.1.2, ⟨hk.2, hk.1.1.2⟩⟩)), (by (with_reducible repeat (first | apply zRa | apply zRn | apply zRd)); exact zRm HO768.out (fun _ hk => ⟨hk.1.2, ⟨hk.2, hk.1.1.2⟩⟩)), (by (with_reducible repeat (first | apply zRa | apply zRn | apply zRd)); exact zRm HO_4.out (fun _ hk => ⟨hk.1.1.2, ⟨hk.2, hk.1.2⟩⟩)), (by repeat (first | (with_reducible first | exact HB.out | apply zBa | apply zBn | apply zBd) | exact HB.out))⟩)
              · skip
                refine Kd.R_lit_step (Kd.int .u32) _ 36 ?hg (N := 43) ?hd (xs := ([((bt a0 x5_2) - 48) % 256] : List Int)) (inner := [.int .u32 (((bt a0 x5_2) - 48) % 256)]) (ok := fun _ => True) (okp := fun _ => True) ?hr ?hp (fun _ hk => hk) trivial (Below.refl _ _) (Nat.le_refl _) (by simp) ?_; (case hd => rfl); (case hg => rfl); (case hr => first | (go_simp; done) | (go_simp; rfl) | (go_simp; rw [show ∀ x : Int, IntKind.u32.wrap (IntKind.u8.wrap x) = x % 256 from fun x => (by show (x % 256) % 4294967296 = x % 256; omega)])); (case hp => exact (Reps.one (show Kd.M (Kd.int .u32) _ _ _ (((bt a0 x5_2) - 48) % 256) [.int .u32 (((bt a0 x5_2) - 48) % 256)] from rfl) (Reps.none _ _)))
                intro v767 w22 ho23 hb hg_ hnew_
                clear hg_ hnew_
                (first | rw [← Ny766.out] at ho23 | (simp only [Int.reduceToNat] at ho23; rw [← Ny766.out] at ho23))
                have n0_ := zMk (Kd.R_elder' (by (with_reducible repeat (first | apply zRa | apply zRn | apply zRd)); exact HO_4.out) (Kd.R_base ho23) hb)
                have n1_ := zMk (Kd.R_lower (Kd.R_new' ho23 (Kd.R_lt (by (with_reducible repeat (first | apply zRa | apply zRn | apply zRd)); exact HO_4.out))) (zBs (by repeat (first | (with_reducible first | exact HB.out | apply zBa | apply zBn | apply zBd) | exact HB.out))))
                have n2_ := zMk (zBt (by repeat (first | (with_reducible first | exact HB.out | apply zBa | apply zBn | apply zBd) | exact HB.out)) hb)
                clear HO_4
                clear HB
                have HO_4 := n0_
                have HO768 := n1_
                have HB := n2_
                clear n0_ n1_ n2_
                clear hb ho23
                refine hK.out _ _ trivial (fun hHeld => ?_)
                clear hK K
                refine norm_ (a' := ?_) ?_ ?_
                rotate_left
                · show Act.put _ (some 43) _ = _
                  simp only [Act.put, zSa, zSb, zSc, i64_w, i32_w]
                  rfl
                refine one_ (i := 1) (N := some 36) #[true, true, false, true, true, true, true, true, true, false, false] rfl rfl (one_of HT_.out (by kernel_rfl)) (by decide) (fun K hK => ?_)
                refine Kd.R_lit_step (Kd.int .u32) _ 36 ?hg (N := 36) ?hd (xs := ([10] : List Int)) (inner := [.int .u32 10]) (ok := fun _ => True) (okp := fun _ => True) ?hr ?hp (fun _ hk => hk) trivial (Below.refl _ _) (Nat.le_refl _) (by simp) ?_; (case hd => rfl); (case hg => rfl); (case hr => first | (go_simp; done) | (go_simp; rfl) | (go_simp; rw [show ∀ x : Int, IntKind.u32.wrap (IntKind.u8.wrap x) = x % 256 from fun x => (by show (x % 256) % 4294967296 = x % 256; omega)])); (case hp => exact (Reps.one (show Kd.M (Kd.int .u32) _ _ _ 10 [.int .u32 10] from rfl) (Reps.none _ _)))
                intro v761 w24 ho25 hb hg_ hnew_
                clear hg_ hnew_
                (first | rw [← Ny760.out] at ho25 | (simp only [Int.reduceToNat] at ho25; rw [← Ny760.out] at ho25))
                have n0_ := zMk (Kd.R_elder' (by (with_reducible repeat (first | apply zRa | apply zRn | apply zRd)); exact HO_4.out) (Kd.R_base ho25) hb)
                have n1_ := zMk (Kd.R_elder' (by (with_reducible repeat (first | apply zRa | apply zRn | apply zRd)); exact HO768.out) (Kd.R_base ho25) hb)
                have n2_ := zMk (Kd.R_lower (Kd.R_new' (Kd.R_new' ho25 (Kd.R_lt (by (with_reducible repeat (first | apply zRa | apply zRn | apply zRd)); exact HO_4.out))) (Kd.R_lt (by (with_reducible repeat (first | apply zRa | apply zRn | apply zRd)); exact HO768.out))) (zBs (by repeat (first | (with_reducible first | exact HB.out | apply zBa | apply zBn | apply zBd) | exact HB.out))))
                have n3_ := zMk (zBt (by repeat (first | (with_reducible first | exact HB.out | apply zBa | apply zBn | apply zBd) | exact HB.out)) hb)
                clear HO_4
                clear HO768
                clear HB
                have HO_4 := n0_
                have HO768 := n1_
                have HO762 := n2_
                have HB := n3_
                clear n0_ n1_ n2_ n3_
                clear hb ho25
                obtain ⟨Ao26, co26, eo26⟩ := Kd.R_slice HO762.out
                (first | subst eo26 | (injection eo26 with f1_ f2_ f3_; have f4_ := f1_.symm; have f5_ := f3_.symm; clear f1_ f2_ f3_; subst f4_; subst f5_))
                refine hK.out _ _ trivial (fun hHeld => ?_)
                clear hK K
                refine norm_ (a' := ?_) ?_ ?_
                rotate_left
                · show Act.put _ (some 36) _ = _
                  simp only [Act.put, zSa, zSb, zSc, i64_w, i32_w]
                  rfl
                refine one_ (i := 2) (N := some 37) #[true, true, true, true, true, true, true, true, true, false, false] rfl rfl (one_of HT_.out (by kernel_rfl)) (by decide) (fun K hK => ?_)
                refine goes_ Tryd.func24 (by kernel_rfl) rfl #[.slice Ao20 x4_2.length co20, .slice Ao26 y760.length co26] (by rfl) rfl rfl (by (try simp only [List.map_toArray, List.map_cons, List.map_nil]); first | done | rfl | (simp only [zLd, zLt]; rfl)) ?_
                with_reducible refine (r1_Mul.calls kj8 _ _ x4_2 _ _ y760 t763 _ ?side1 ?side2 ?side3 ?side4 A15.out).mono ?_
                (case side1 => repeat (first | exact (Kd.R_reads' HO_4.out).2.2 | (with_reducible refine zCa ?_ _) | (with_reducible refine zCn ?_ _) | (with_reducible refine zCd ?_)))
                (case side2 => exact (Kd.R_reads' HO_4.out).2.1)
                (case side3 => repeat (first | exact (Kd.R_reads' HO762.out).2.2 | (with_reducible refine zCa ?_ _) | (with_reducible refine zCn ?_ _) | (with_reducible refine zCd ?_)))
                (case side4 => exact (Kd.R_reads' HO762.out).2.1)
                rintro e w27 ⟨v764, rfl, ho0, hb⟩
                refine ⟨_, rfl, ?_⟩
                have n0_ := zMk (Kd.R_elder' (by (with_reducible repeat (first | apply zRa | apply zRn | apply zRd)); exact HO_4.out) (Kd.R_base ho0) hb)
                have n1_ := zMk (Kd.R_elder' (by (with_reducible repeat (first | apply zRa | apply zRn | apply zRd)); exact HO768.out) (Kd.R_base ho0) hb)
                have n2_ := zMk (Kd.R_elder' (by (with_reducible repeat (first | apply zRa | apply zRn | apply zRd)); exact HO762.out) (Kd.R_base ho0) hb)
                have n3_ := zMk (Kd.R_lower (Kd.R_new' (Kd.R_new' (Kd.R_new' ho0 (Kd.R_lt (by (with_reducible repeat (first | apply zRa | apply zRn | apply zRd)); exact HO_4.out))) (Kd.R_lt (by (with_reducible repeat (first | apply zRa | apply zRn | apply zRd)); exact HO768.out))) (Kd.R_lt (by (with_reducible repeat (first | apply zRa | apply zRn | apply zRd)); exact HO762.out))) (zBs (by repeat (first | (with_reducible first | exact HB.out | apply zBa | apply zBn | apply zBd) | exact HB.out))))
                have n4_ := zMk (zBt (by repeat (first | (with_reducible first | exact HB.out | apply zBa | apply zBn | apply zBd) | exact HB.out)) hb)
                clear HO_4
                clear HO768
                clear HO762
                clear HB
                have HO_4 := n0_
                have HO768 := n1_
                have HO762 := n2_
                have HO765 := n3_
                have HB := n4_
                clear n0_ n1_ n2_ n3_ n4_
                (try clear hb)
                (try clear hb2)
                (try clear hk)
                (try clear hi)
                (try clear ho0)
                refine hK.out _ _ trivial (fun hHeld => ?_)
                clear hK K
                refine norm_ (a' := ?_) ?_ ?_
                rotate_left
                · show Act.put _ (some 37) _ = _
                  simp only [Act.put, zSa, zSb, zSc, i64_w, i32_w]
                  rfl
                exact norm_ (by simp only [putAll, Act.put, zSa, zSb, zSc]) (hCont (.slice Ao26 y760.length co26, v764, v767) _ ⟨(by (with_reducible repeat (first | apply zRa | apply zRn | apply zRd)); exact zRm HO762.out (fun _ hk => ⟨hk.2, ⟨hk.1.2, hk.1.1.2⟩⟩)), (by (with_reducible repeat (first | apply zRa | apply zRn | apply zRd)); exact zRm HO765.out (fun _ hk => ⟨hk.2, ⟨hk.1.2, hk.1.1.2⟩⟩)), (by (with_reducible repeat (first | apply zRa | apply zRn | apply zRd)); exact zRm HO768.out (fun _ hk => ⟨hk.1.2, ⟨hk.2, hk.1.1.2⟩⟩)), (by (with_reducible repeat (first | apply zRa | apply zRn | apply zRd)); exact zRm HO_4.out (fun _ hk => ⟨hk.1.2, ⟨hk.2, hk.1.1.2⟩⟩)), (by repeat (first | (with_reducible first | exact HB.out | apply zBa | apply zBn | apply zBd) | exact HB.out))⟩)
            rintro ⟨v761, v764, v767⟩ w28 ⟨h0_, h1_, h2_, h3_, h4_⟩
            have n0_ : Aside0 (Kd.R (Kd.int .u32) 36 w28 w.heap.size (fun k_ => some k_ ≠ (v764 : Value).ownBlock ∧ some k_ ≠ (v767 : Value).ownBlock ∧ some k_ ≠ (.slice Ao20 x4_2.length co20 : Value).ownBlock) v761 y760) := ⟨h0_⟩
            have n1_ : Aside0 (Kd.R (Kd.int .u32) 36 w28 w.heap.size (fun k_ => some k_ ≠ (v761 : Value).ownBlock ∧ some k_ ≠ (v767 : Value).ownBlock ∧ some k_ ≠ (.slice Ao20 x4_2.length co20 : Value).ownBlock) v764 t763) := ⟨h1_⟩
            have n2_ : Aside0 (Kd.R (Kd.int .u32) 36 w28 w.heap.size (fun k_ => some k_ ≠ (v761 : Value).ownBlock ∧ some k_ ≠ (v764 : Value).ownBlock ∧ some k_ ≠ (.slice Ao20 x4_2.length co20 : Value).ownBlock) v767 y766) := ⟨h2_⟩
            have n3_ : Aside0 (Kd.R (Kd.int .u32) 36 w28 w.heap.size (fun k_ => some k_ ≠ (v761 : Value).ownBlock ∧ some k_ ≠ (v764 : Value).ownBlock ∧ some k_ ≠ (v767 : Value).ownBlock) (.slice Ao20 x4_2.length co20) x4_2) := ⟨h3_⟩
            have n4_ : Aside0 (Below w.heap.size w w28) := ⟨h4_⟩
            clear HO_4
            clear HB
            clear h0_ h1_ h2_ h3_ h4_
            have HO762 := n0_
            have HO765 := n1_
            have HO768 := n2_
            have HO_4 := n3_
            have HB := n4_
            clear n0_ n1_ n2_ n3_ n4_
            have hHeld := trivial
            obtain ⟨Ao29, co29, eo29⟩ := Kd.R_slice HO765.out
            (first | subst eo29 | (injection eo29 with f1_ f2_ f3_; have f4_ := f1_.symm; have f5_ := f3_.symm; clear f1_ f2_ f3_; subst f4_; subst f5_))
            obtain ⟨Ao30, co30, eo30⟩ := Kd.R_slice HO768.out
            (first | subst eo30 | (injection eo30 with f1_ f2_ f3_; have f4_ := f1_.symm; have f5_ := f3_.symm; clear f1_ f2_ f3_; subst f4_; subst f5_))
            refine norm_ (a' := ?_) ?_ ?_
            rotate_left
            · simp only [putAll, Act.put, zSa, zSb, zSc]
              rfl
            refine one_ (i := 9) (N := some 44) #[true, true, true, true, true, true, true, true, true, true, false] rfl rfl (one_of HT_.out (by kernel_rfl)) (by decide) (fun K hK => ?_)
            refine goes_ Tryd.func32 (by kernel_rfl) rfl #[.slice Ao29 t763.length co29, .slice Ao30 y766.length co30] (by rfl) rfl rfl (by (try simp only [List.map_toArray, List.map_cons, List.map_nil]); first | done | rfl | (simp only [zLd, zLt]; rfl)) ?_
            with_reducible refine (r1_Add.calls kj8 _ _ t763 _ _ y766 t769 _ ?side1 ?side2 ?side3 ?side4 A19.out).mono ?_
            (case side1 => repeat (first | exact (Kd.R_reads' HO765.out).2.2 | (with_reducible refine zCa ?_ _) | (with_reducible refine zCn ?_ _) | (with_reducible refine zCd ?_)))
            (case side2 => exact (Kd.R_reads' HO765.out).2.1)
            (case side3 => repeat (first | exact (Kd.R_reads' HO768.out).2.2 | (with_reducible refine zCa ?_ _) | (with_reducible refine zCn ?_ _) | (with_reducible refine zCd ?_)))
            (case side4 => exact (Kd.R_reads' HO768.out).2.1)
            rintro e w31 ⟨v770, rfl, ho0, hb⟩
            refine ⟨_, rfl, ?_⟩
            have n0_ := zMk (Kd.R_elder' (by (with_reducible repeat (first | apply zRa | apply zRn | apply zRd)); exact HO_4.out) (Kd.R_base ho0) hb)
            have n1_ := zMk (Kd.R_elder' (by (with_reducible repeat (first | apply zRa | apply zRn | apply zRd)); exact HO762.out) (Kd.R_base ho0) hb)
            have n2_ := zMk (Kd.R_elder' (by (with_reducible repeat (first | apply zRa | apply zRn | apply zRd)); exact HO765.out) (Kd.R_base ho0) hb)
            have n3_ := zMk (Kd.R_elder' (by (with_reducible repeat (first | apply zRa | apply zRn | apply zRd)); exact HO768.out) (Kd.R_base ho0) hb)
            have n4_ := zMk (Kd.R_lower (Kd.R_new' (Kd.R_new' (Kd.R_new' (Kd.R_new' ho0 (Kd.R_lt (by (with_reducible repeat (first | apply zRa | apply zRn | apply zRd)); exact HO_4.out))) (Kd.R_lt (by (with_reducible repeat (first | apply zRa | apply zRn | apply zRd)); exact HO762.out))) (Kd.R_lt (by (with_reducible repeat (first | apply zRa | apply zRn | apply zRd)); exact HO765.out))) (Kd.R_lt (by (with_reducible repeat (first | apply zRa | apply zRn | apply zRd)); exact HO768.out))) (zBs (by repeat (first | (with_reducible first | exact HB.out | apply zBa | apply zBn | apply zBd) | exact HB.out))))
            have n5_ := zMk (zBt (by repeat (first | (with_reducible first | exact HB.out | apply zBa | apply zBn | apply zBd) | exact HB.out)) hb)
            clear HO_4
            clear HO762
            clear HO765
            clear HO768
            clear HB
            have HO_4 := n0_
            have HO762 := n1_
            have HO765 := n2_
            have HO768 := n3_
            have HO771 := n4_
            have HB := n5_
            clear n0_ n1_ n2_ n3_ n4_ n5_
            (try clear hb)
            (try clear hb2)
            (try clear hk)
            (try clear hi)
            (try clear ho0)
            refine hK.out _ _ trivial (fun hHeld => ?_)
            clear hK K
            refine norm_ (a' := ?_) ?_ ?_
            rotate_left
            · show Act.put _ (some 44) _ = _
              simp only [Act.put, zSa, zSb, zSc, i64_w, i32_w]
              rfl
            refine pure_ (i := 10) (N := some 4) (v := ?_) (a' := ?_) #[true, true, true, true, true, true, true, true, true, true, true] rfl rfl (any_of HT_.out (by kernel_rfl)) (fun _ _ _ h => h) (Or.inl ⟨by rfl, ?_⟩) ?_ ?_
            rotate_left
            · intro w'
              go_simp
              with_reducible rfl
            rotate_left
            · simp only [Act.put, zSa, zSb, zSc, i64_w, i32_w]
              rfl
            refine done_ (done_of HT_.out (by kernel_rfl)) ?_
            try go_wp2
            go_roundg kj8
            case measure => have := HJ1.out; have := HK2.out; have := HJ8.out; omega
            case rel => exact ⟨(t769), (wrap64 (x5_2 + 1)), (by first | rfl | (simp; done) | (simp [*]; done)), H', ⟨by have := HJ1.out; have := HK2.out; have := HJ8.out; omega⟩, ⟨by (with_reducible repeat (first | apply zRa | apply zRn | apply zRd)); exact zRm HO771.out (fun _ hk => trivial)⟩, ⟨by repeat (first | (with_reducible first | exact HB.out | apply zBa | apply zBn | apply zBd) | exact HB.out)⟩⟩
      · rw [if_neg c8] at H
        have c8b0 : decide (x5_2 < (a0.size : Int)) = false := decide_eq_false c8
        clear c8
        simp only [Option.some.injEq, Prod.mk.injEq] at H
        obtain ⟨rfl, rfl⟩ := H
        go_wp2
        go_ret2
        exact ⟨_, by first | rfl | (simp [errW_none, errW_some] <;> rfl) | (simp [*, errW_none, errW_some] <;> rfl), by (with_reducible repeat (first | apply zRa | apply zRn | apply zRd)); exact HO_4.out, by repeat (first | (with_reducible first | exact HB.out | apply zBa | apply zBn | apply zBd) | exact HB.out)⟩

/- Numerals read: natural.Parse and the document's. -/
section
open Go.Lib
theorem bt_list (s : ByteArray) (i : Nat) : bt s (i : Int) = ((s.data.toList.getD i 0).toNat : Int) := by
  unfold bt
  rw [show ((i : Nat) : Int).toNat = i by omega]
  have hs : s.size = s.data.toList.length := by rw [Array.length_toList]; rfl
  split
  · rename_i h
    have hl : i < s.data.toList.length := by omega
    rw [List.getD_eq_getElem?_getD, List.getElem?_eq_getElem hl]
    simp
    rfl
  · rename_i h
    rw [List.getD_eq_getElem?_getD, List.getElem?_eq_none (by omega)]
    rfl
theorem size_list (s : ByteArray) : s.size = s.data.toList.length := by rw [Array.length_toList]; rfl
theorem dv_take_succ (l : List UInt8) (i : Nat) (h : i < l.length) : dv (l.take (i + 1)) = dv (l.take i) * 10 + ((l.getD i 0).toNat - 48) := by
  rw [List.take_add_one, List.getElem?_eq_getElem h, List.getD_eq_getElem?_getD, List.getElem?_eq_getElem h]
  exact dv_snoc _ _
theorem dv_lt (l : List UInt8) (i : Nat) (hd : ∀ j, j < i → IsDigit (l.getD j 0)) : i ≤ l.length → dv (l.take i) < 10 ^ i := by
  induction i with
  | zero => intro _; simp [dv]
  | succ i ih =>
    intro h
    have h1 := ih (fun j hj => hd j (by omega)) (by omega)
    have h2 := hd i (by omega)
    unfold IsDigit at h2
    rw [dv_take_succ l i (by omega), Nat.pow_succ]
    omega
theorem pow10_B (i : Nat) : (10 : Int) ^ i ≤ Bp i := by
  unfold Bp
  have h : ((10 : Nat) : Int) ^ i ≤ ((4294967296 : Nat) : Int) ^ i := by
    rw [← Int.natCast_pow, ← Int.natCast_pow]
    exact Int.ofNat_le.2 (Nat.pow_le_pow_left (by decide) i)
  exact h
theorem len_of_dv {x : List Int} {l : List UInt8} {i : Nat} (hx : IsNum x (dv (l.take i) : Nat)) (hd : ∀ j, j < i → IsDigit (l.getD j 0)) (hi : i ≤ l.length) : x.length ≤ i := by
  refine len_of_lt hx (Int.lt_of_lt_of_le ?_ (pow10_B i))
  have h := dv_lt l i hd hi
  have h2 : ((dv (l.take i) : Nat) : Int) < ((10 ^ i : Nat) : Int) := Int.ofNat_lt.2 h
  rw [Int.natCast_pow] at h2
  exact h2
theorem one_num (d : Int) (h0 : 0 ≤ d) (h1 : d < 4294967296) : Limbs [d] ∧ val [d] = d := ⟨Limbs.mk h0 h1 Limbs.nil, by simp [val]⟩
theorem ofd_num (d : Int) (h0 : 0 ≤ d) (h1 : d < 4294967296) : IsNum (of2 d) d ∧ (of2 d).length ≤ 2 := by
  have hl : Limbs [d % 4294967296, d / 4294967296] := Limbs.mk (by omega) (by omega) (Limbs.mk (by omega) (by omega) Limbs.nil)
  have hv : val [d % 4294967296, d / 4294967296] = d := by simp [val]; omega
  exact ⟨by have := IsNum.cut hl; rw [hv] at this; exact this, cut_length _⟩
/-- What reading tells of the bytes from i on. -/
def Tells (l : List UInt8) (i : Nat) (o : Option (List Int × Int)) : Prop :=
  ((∀ j, i ≤ j → j < l.length → IsDigit (l.getD j 0)) → ∃ r, o = some (r, 0) ∧ IsNum r (dv l : Nat)) ∧ ((∃ j, i ≤ j ∧ j < l.length ∧ ¬ IsDigit (l.getD j 0)) → o = some ([], 2))
theorem tells_end {l : List UInt8} {x : List Int} (hx : IsNum x (dv (l.take l.length) : Nat)) {i : Nat} (hi : l.length ≤ i) : Tells l i (some (x, 0)) := by
  rw [List.take_length] at hx
  exact ⟨fun _ => ⟨x, rfl, hx⟩, fun ⟨j, h1, h2, _⟩ => by omega⟩
theorem tells_bad {l : List UInt8} {i : Nat} (hi : i < l.length) (h : ¬ IsDigit (l.getD i 0)) : Tells l i (some ([], 2)) :=
  ⟨fun h1 => absurd (h1 i (Nat.le_refl _) hi) h, fun _ => rfl⟩
theorem tells_step {l : List UInt8} {i : Nat} {o : Option (List Int × Int)} (h : IsDigit (l.getD i 0)) (ho : Tells l (i + 1) o) : Tells l i o :=
  ⟨fun h1 => ho.1 (fun j hj => h1 j (by omega)), fun ⟨j, h1, h2, h3⟩ => ho.2 ⟨j, by rcases Nat.lt_or_ge i j with h4 | h4; · exact h4
                                                                                    · exact absurd (show IsDigit (l.getD j 0) by rw [show j = i by omega]; exact h) h3, h2, h3⟩⟩
theorem parse_l (k : Nat) (s : ByteArray) (l : List UInt8) (hs : s.data.toList = l) (hl : l.length ≤ 6000) (hk : 100000 ≤ k) : ∀ (d i : Nat) (x : List Int), i ≤ l.length → l.length - i < d → (∀ j, j < i → IsDigit (l.getD j 0)) → IsNum x (dv (l.take i) : Nat) →
    Tells l i (n_Parse.l k s d x (i : Int))
  | 0, i, x, hi, hd, hdig, hx => by omega
  | d + 1, i, x, hi, hd, hdig, hx => by
    have hsz := size_list s
    rw [hs] at hsz
    simp only [n_Parse.l]
    by_cases hlt : i < l.length
    · rw [if_pos (by omega), if_pos (by omega), bt_list, hs]
      by_cases c1 : ((l.getD i 0).toNat : Int) < 48
      · rw [if_pos c1]
        exact tells_bad hlt (fun h => by unfold IsDigit at h; omega)
      · rw [if_neg c1]
        by_cases c2 : ((l.getD i 0).toNat : Int) > 57
        · rw [if_pos c2]
          exact tells_bad hlt (fun h => by unfold IsDigit at h; omega)
        · rw [if_neg c2]
          have hdg : IsDigit (l.getD i 0) := by unfold IsDigit; omega
          have hxl := len_of_dv hx hdig hi
          obtain ⟨L10, v10⟩ := one_num 10 (by omega) (by omega)
          obtain ⟨m, hm, nm, ml⟩ := mul_f x [10] hx.limbs L10 (by simp; omega) k (by simp; omega)
          rw [hx.eq, v10] at nm
          have hml : m.length ≤ x.length + 1 := ml
          clear ml
          obtain ⟨n1, n2⟩ := ofd_num (((l.getD i 0).toNat : Int) - 48) (by omega) (by omega)
          obtain ⟨a, ha, na, al⟩ := add_f m (of2 (((l.getD i 0).toNat : Int) - 48)) nm.limbs n1.limbs (by omega) (by omega) k (by omega) (by omega)
          rw [nm.eq, n1.eq] at na
          rw [hm, zOb, of_f _ (by omega) (by omega), zOb, ha, zOb, w64 (by omega) (by omega), show ((i : Int) + 1) = ((i + 1 : Nat) : Int) by omega]
          refine tells_step hdg (parse_l k s l hs hl hk d (i + 1) a (by omega) (by omega) (fun j hj => ?_) ?_)
          · rcases Nat.lt_or_ge j i with h | h
            · exact hdig j h
            · rw [show j = i by omega]; exact hdg
          · rw [dv_take_succ l i hlt]
            have e : ((dv (l.take i) * 10 + ((l.getD i 0).toNat - 48) : Nat) : Int) = (dv (l.take i) : Nat) * 10 + (((l.getD i 0).toNat : Int) - 48) := by omega
            rw [e]
            exact na
    · rw [if_neg (by omega)]
      refine tells_end ?_ (by omega)
      rw [show i = l.length by omega] at hx
      exact hx
theorem getD_digit {l : List UInt8} : (∀ j, 0 ≤ j → j < l.length → IsDigit (l.getD j 0)) ↔ ∀ c ∈ l, IsDigit c := by
  constructor
  · intro h c hc
    obtain ⟨i, hi, rfl⟩ := List.getElem_of_mem hc
    have := h i (by omega) hi
    rw [List.getD_eq_getElem?_getD, List.getElem?_eq_getElem hi] at this
    exact this
  · intro h j _ hj
    rw [List.getD_eq_getElem?_getD, List.getElem?_eq_getElem hj]
    exact h _ (List.getElem_mem hj)
theorem bad_digit {l : List UInt8} (h : ¬ ∀ c ∈ l, IsDigit c) : ∃ j, 0 ≤ j ∧ j < l.length ∧ ¬ IsDigit (l.getD j 0) := by
  rcases Classical.em (∃ j, 0 ≤ j ∧ j < l.length ∧ ¬ IsDigit (l.getD j 0)) with h1 | h1
  · exact h1
  · refine absurd (getD_digit.1 fun j h0 hj => ?_) h
    rcases Classical.em (IsDigit (l.getD j 0)) with h2 | h2
    · exact h2
    · exact absurd ⟨j, h0, hj, h2⟩ h1
/-- A whole text, read: a numeral's number, or that it is none. -/
def Reads (l : List UInt8) (o : Option (List Int × Int)) : Prop := (Numeral l → ∃ r, o = some (r, 0) ∧ IsNum r (dv l : Nat)) ∧ (¬ Numeral l → o = some ([], 2))
theorem reads_of_tells {l : List UInt8} {o : Option (List Int × Int)} (h0 : l ≠ []) (h1 : ¬ (1 < l.length ∧ ((l.getD 0 0).toNat : Int) = 48)) (h : Tells l 0 o) : Reads l o := by
  have hh : 1 < l.length → l.getD 0 0 ≠ 48 := fun h2 h3 => h1 ⟨h2, by rw [h3]; rfl⟩
  refine ⟨fun hn => h.1 (getD_digit.2 hn.2.1), fun hn => h.2 (bad_digit fun hd => hn ⟨h0, hd, hh⟩)⟩
theorem reads_bad {l : List UInt8} (h : l = [] ∨ (1 < l.length ∧ ((l.getD 0 0).toNat : Int) = 48)) : Reads l (some ([], 2)) := by
  refine ⟨fun hn => ?_, fun _ => rfl⟩
  rcases h with h | ⟨h1, h2⟩
  · exact absurd h hn.1
  · refine absurd (UInt8.toNat_inj.1 ?_) (hn.2.2 h1)
    show (l.getD 0 0).toNat = 48
    omega
theorem parse_f (s : ByteArray) (hl : s.size ≤ 6000) (k : Nat) (hk : 100000 ≤ k) : Reads s.data.toList (n_Parse.f k s) := by
  have hsz := size_list s
  unfold n_Parse.f
  have hb := bt_list s 0
  rw [show ((0 : Nat) : Int) = 0 from rfl] at hb
  by_cases c0 : s.size = 0
  · rw [if_pos c0]
    exact reads_bad (.inl (List.eq_nil_of_length_eq_zero (by omega)))
  · rw [if_neg c0, hb]
    by_cases c1 : 1 < s.size ∧ ((s.data.toList.getD 0 0).toNat : Int) = 48
    · rw [if_pos c1]
      exact reads_bad (.inr ⟨by omega, c1.2⟩)
    · rw [if_neg c1]
      refine reads_of_tells (fun h => by rw [h] at hsz; exact c0 hsz) (fun h => c1 ⟨by omega, h.2⟩) ?_
      exact parse_l k s _ rfl (by omega) hk (s.size + 1) 0 [] (by omega) (by omega) (fun j hj => by omega) (by simp [dv]; exact IsNum.nil)
theorem rparse_l0 (s : ByteArray) (l : List UInt8) (hs : s.data.toList = l) (hl : l.length ≤ 100) : ∀ (d i k : Nat) (x : List Int), i ≤ l.length → l.length - i < d → (∀ j, j < i → IsDigit (l.getD j 0)) → IsNum x (dv (l.take i) : Nat) → 100000 + 2 * d ≤ k →
    Tells l i (r1_Parse.l0 k s x (i : Int))
  | 0, _, _, _, hi, hd, _, _, _ => by omega
  | d + 1, _, 0, _, _, _, _, _, hk => by omega
  | d + 1, _, 1, _, _, _, _, _, hk => by omega
  | d + 1, i, k + 2, x, hi, hd, hdig, hx, hk => by
    have hsz := size_list s
    rw [hs] at hsz
    simp only [r1_Parse.l0]
    by_cases hlt : i < l.length
    · rw [if_pos (by omega), if_pos (by omega), bt_list, hs]
      by_cases c1 : ((l.getD i 0).toNat : Int) < 48
      · rw [if_pos c1]
        simp only [r1_Parse.j2, if_true]
        exact tells_bad hlt (fun h => by unfold IsDigit at h; omega)
      · rw [if_neg c1]
        by_cases c2 : ((l.getD i 0).toNat : Int) > 57
        · rw [decide_eq_true c2]
          simp only [r1_Parse.j2, if_true]
          exact tells_bad hlt (fun h => by unfold IsDigit at h; omega)
        · rw [decide_eq_false c2]
          simp only [r1_Parse.j2, Bool.false_eq_true, if_false]
          have hdg : IsDigit (l.getD i 0) := by unfold IsDigit; omega
          have hxl := len_of_dv hx hdig hi
          obtain ⟨L10, v10⟩ := one_num 10 (by omega) (by omega)
          obtain ⟨m, hm, nm⟩ := rmul_f x [10] hx.limbs L10 (by omega) (by simp) k (by simp; omega)
          rw [hx.eq, v10] at nm
          have hmv : (dv (l.take i) * 10 : Int) < 10 ^ (i + 1) := by
            have h := dv_lt l i hdig hi
            have h2 : ((dv (l.take i) * 10 : Nat) : Int) < ((10 ^ (i + 1) : Nat) : Int) := Int.ofNat_lt.2 (by rw [Nat.pow_succ]; omega)
            rw [Int.natCast_pow] at h2
            exact h2
          have hml : m.length ≤ i + 1 := len_of_lt nm (Int.lt_of_lt_of_le hmv (pow10_B _))
          obtain ⟨n1, n2⟩ := one_num (((l.getD i 0).toNat : Int) - 48) (by omega) (by omega)
          obtain ⟨a, ha, na⟩ := radd_f m [((l.getD i 0).toNat : Int) - 48] nm.limbs n1 (by omega) (by simp) k (by simp; omega)
          rw [nm.eq, n2] at na
          rw [hm, zOb, if_pos (by omega), if_pos (by omega), bt_list, hs, show (((l.getD i 0).toNat : Int) - 48) % 256 = ((l.getD i 0).toNat : Int) - 48 by omega, ha, zOb, w64 (by omega) (by omega), show ((i : Int) + 1) = ((i + 1 : Nat) : Int) by omega]
          refine tells_step hdg (rparse_l0 s l hs hl d (i + 1) k a (by omega) (by omega) (fun j hj => ?_) ?_ (by omega))
          · rcases Nat.lt_or_ge j i with h | h
            · exact hdig j h
            · rw [show j = i by omega]; exact hdg
          · rw [dv_take_succ l i hlt]
            have e : ((dv (l.take i) * 10 + ((l.getD i 0).toNat - 48) : Nat) : Int) = (dv (l.take i) : Nat) * 10 + (((l.getD i 0).toNat : Int) - 48) := by omega
            rw [e]
            exact na
    · rw [if_neg (by omega)]
      refine tells_end ?_ (by omega)
      rw [show i = l.length by omega] at hx
      exact hx
theorem rparse_f (s : ByteArray) (hl : s.size ≤ 100) (k : Nat) (hk : 110000 ≤ k) : Reads s.data.toList (r1_Parse.f k s) := by
  have hsz := size_list s
  have hb := bt_list s 0
  rw [show ((0 : Nat) : Int) = 0 from rfl] at hb
  obtain ⟨m, rfl⟩ : ∃ m, k = m + 1 := ⟨k - 1, by omega⟩
  unfold r1_Parse.f
  by_cases c0 : s.size = 0
  · rw [if_pos (by omega)]
    simp only [r1_Parse.j0, if_true]
    exact reads_bad (.inl (List.eq_nil_of_length_eq_zero (by omega)))
  · rw [if_neg (by omega), hb]
    have main : ¬ (1 < s.data.toList.length ∧ ((s.data.toList.getD 0 0).toNat : Int) = 48) → Reads s.data.toList (r1_Parse.l0 m s [] 0) := fun c1 => by
      refine reads_of_tells (fun h => by rw [h] at hsz; exact c0 hsz) c1 ?_
      exact rparse_l0 s _ rfl (by omega) (s.size + 1) 0 m [] (by omega) (by omega) (fun j hj => by omega) (by simp [dv]; exact IsNum.nil) (by omega)
    by_cases c2 : (s.size : Int) > 1
    · rw [if_pos c2, if_pos (by omega)]
      by_cases c3 : ((s.data.toList.getD 0 0).toNat : Int) = 48
      · rw [beq_iff_eq.mpr c3]
        simp only [r1_Parse.j0, if_true]
        exact reads_bad (.inr ⟨by omega, c3⟩)
      · rw [beq_eq_false_iff_ne.mpr c3]
        simp only [r1_Parse.j0, Bool.false_eq_true, if_false]
        exact main (fun h => c3 h.2)
    · rw [if_neg c2]
      simp only [r1_Parse.j0, Bool.false_eq_true, if_false]
      exact main (fun h => by omega)
end

/-! ### w1_NaturalBack: function 13 -/
mutual
def w1_NaturalBack.j0 : Nat → List Int → ByteArray → Bool → Option (Bool)
  | 0, _, _, _ => none
  | k + 1, x0, x1, x16 => if x16 = true then ((w1_alive.f k).bind fun t355 => (some t355)) else ((n_Text.f k x0).bind fun t356 => ((n_Parse.f k t356).bind fun bt357 => (if bt357.2 = 0 then ((r1_Norm.f k x0).bind fun t361 => ((r1_Same.f k bt357.1 t361).bind fun t364 => (w1_NaturalBack.j1 k x1 (!t364)))) else (w1_NaturalBack.j1 k x1 true))))
def w1_NaturalBack.j1 : Nat → ByteArray → Bool → Option (Bool)
  | 0, _, _ => none
  | k + 1, x1, x32 => if x32 = true then (some false) else ((n_Parse.f k x1).bind fun bt365 => (if bt365.2 = 0 then ((n_Text.f k bt365.1).bind fun t369 => (if t369.toList = x1.toList then ((w1_alive.f k).bind fun t370 => (some t370)) else (some false))) else ((w1_alive.f k).bind fun t371 => (some t371))))
end
def w1_NaturalBack.f (k : Nat) (l0 : List Int) (a1 : ByteArray) : Option (Bool) := if (l0.length : Int) > 100 then (w1_NaturalBack.j0 k l0 a1 true) else (w1_NaturalBack.j0 k l0 a1 (decide ((a1.size : Int) > 500)))
set_option maxHeartbeats 8000000 in
set_option maxRecDepth 100000 in
theorem w1_NaturalBack.calls (k : Nat) (A0 : Option Addr) (c0 : Nat) (l0 : List Int) (a1 : ByteArray) (r : Bool) (w : World) (hr0 : Kd.C (Kd.int .u32) w A0 l0.length l0) (hc0 : l0.length ≤ c0) (ht_ : Tabs w) (h : w1_NaturalBack.f k l0 a1 = some r) (hr_ : r = true) :
    Calls Tryd.prog 13 #[.slice A0 l0.length c0, .string a1] w fun e w' => e = .returned (.bool r) ∧ Below w.heap.size w w' := by
  have HTAB := zMk ht_
  clear ht_
  have HRT := zMk hr_
  clear hr_
  have HR0 := zMk hr0
  have HC0 := zMk hc0
  clear hr0 hc0
  have HB := zMk (Below.refl w.heap.size w)
  have H : (if (l0.length : Int) > 100 then (w1_NaturalBack.j0 k l0 a1 true) else (w1_NaturalBack.j0 k l0 a1 (decide ((a1.size : Int) > 500)))) = some r := h
  clear h
  have HC3 := zMk H
  clear H
  go_enter Tryd.func13, Tryd.ntmps13
  go_upto_region 1 with (fail)
  go_cut [16] (fun v16 wc => ∃ (kq : Nat) (x16_2 : Bool), v16 = .bool x16_2 ∧ Aside0 (w1_NaturalBack.j0 kq l0 a1 x16_2 = some r) ∧ Aside0 (kq ≤ k) ∧ Aside0 (Below w.heap.size w wc))
  case first =>
    have H := HC3.out
    clear HC3
    by_cases c4 : (l0.length : Int) > 100
    · rw [if_pos c4] at H
      have c4b0 : decide (100 < (l0.length : Int)) = true := decide_eq_true c4
      have c4b1 : decide (100 < l0.length) = true := decide_eq_true (by omega)
      clear c4
      (first | rw [c4b0] | (simp only [i64_w, i32_w]; rw [c4b0]) | rw [c4b1] | skip)
      have H' := zMk H
      clear H
      go_wp2
      go_meet
      case rel => exact ⟨_, (true), (by first | rfl | (simp; done) | (simp [*]; done)), H', ⟨by first | omega | exact Nat.le_refl _⟩, ⟨by repeat (first | (with_reducible first | exact HB.out | apply zBa | apply zBn | apply zBd) | exact HB.out)⟩⟩
    · rw [if_neg c4] at H
      have c4b0 : decide (100 < (l0.length : Int)) = false := decide_eq_false c4
      have c4b1 : decide (100 < l0.length) = false := decide_eq_false (by omega)
      clear c4
      (first | rw [c4b0] | (simp only [i64_w, i32_w]; rw [c4b0]) | rw [c4b1] | skip)
      have H' := zMk H
      clear H
      go_wp2
      go_meet
      case rel => exact ⟨_, (decide ((a1.size : Int) > 500)), (by first | rfl | (simp; done) | (simp [*]; done)), H', ⟨by first | omega | exact Nat.le_refl _⟩, ⟨by repeat (first | (with_reducible first | exact HB.out | apply zBa | apply zBn | apply zBd) | exact HB.out)⟩⟩
  case rest =>
    clear HC3
    obtain ⟨kq, x16_2, rfl, HA, HJ2, HB⟩ := hcut
    rcases kq with _ | kj2
    · exact absurd HA.out (by simp [w1_NaturalBack.j0])
    have H := HA.out
    clear HA
    simp only [w1_NaturalBack.j0] at H
    by_cases c5 : x16_2 = true
    · subst c5
      have H1 : ((w1_alive.f kj2).bind fun t355 => (some t355)) = some r := by rw [if_pos rfl] at H; exact H
      clear H
      have H := H1
      clear H1
      replace H := Option.bind_eq_some_iff.mp H
      obtain ⟨t355, A60, H⟩ := H
      have A6 := zMk A60
      clear A60
      obtain rfl := zOi H
      go_wp2_with (first | ((with_reducible refine gate_callee (f := 15) rfl ?_); refine goesL_ (some 17) rfl rfl Tryd.func15 (by kernel_rfl) rfl #[] rfl (by (try simp only [List.map_toArray, List.map_cons, List.map_nil]); first | done | rfl | (simp only [zLd, zLt]; rfl)) ?_; (with_reducible refine (w1_alive.calls kj2  t355 _ (Tabs.stays HTAB.out (by repeat (first | (with_reducible first | exact HB.out | apply zBa | apply zBn | apply zBd) | exact HB.out))) A6.out).mono ?_); rintro e w7 ⟨rfl, hb⟩; refine ⟨_, rfl, ?_⟩; have n0_ := zMk (zBt (by repeat (first | (with_reducible first | exact HB.out | apply zBa | apply zBn | apply zBd) | exact HB.out)) hb); clear HB; have HB := n0_; clear n0_; (try clear hb); (try clear hb2); (try clear hk); (try clear hi)))
      go_ret
      exact ⟨by first | rfl | (simp [errW_none, errW_some] <;> rfl) | (simp [*, errW_none, errW_some] <;> rfl), by repeat (first | (with_reducible first | exact HB.out | apply zBa | apply zBn | apply zBd) | exact HB.out)⟩
    · replace c5 := Bool.eq_false_iff.mpr c5
      subst c5
      have H1 : ((n_Text.f kj2 l0).bind fun t356 => ((n_Parse.f kj2 t356).bind fun bt357 => (if bt357.2 = 0 then ((r1_Norm.f kj2 l0).bind fun t361 => ((r1_Same.f kj2 bt357.1 t361).bind fun t364 => (w1_NaturalBack.j1 kj2 a1 (!t364)))) else (w1_NaturalBack.j1 kj2 a1 true)))) = some r := by rw [if_neg (show ¬ (false = true) by decide)] at H; exact H
      clear H
      have H := H1
      clear H1
      replace H := Option.bind_eq_some_iff.mp H
      obtain ⟨t356, A80, H⟩ := H
      have A8 := zMk A80
      clear A80
      replace H := Option.bind_eq_some_iff.mp H
      obtain ⟨⟨t357, t360⟩, A90, H⟩ := H
      replace H : (if t360 = 0 then ((r1_Norm.f kj2 l0).bind fun t361 => ((r1_Same.f kj2 t357 t361).bind fun t364 => (w1_NaturalBack.j1 kj2 a1 (!t364)))) else (w1_NaturalBack.j1 kj2 a1 true)) = some r := H
      have A9 := zMk A90
      clear A90
      have HC10 := zMk H
      clear H
      go_upto_region 4 with (first | ((with_reducible refine gate_callee (f := 35) rfl ?_); refine goesL_ (some 20) rfl rfl Tryd.func35 (by kernel_rfl) rfl #[.slice A0 l0.length c0] rfl (by (try simp only [List.map_toArray, List.map_cons, List.map_nil]); first | done | rfl | (simp only [zLd, zLt]; rfl)) ?_; (with_reducible refine (n_Text.calls kj2 _ _ l0 t356 _ ?side1 ?side2 (Tabs.stays HTAB.out (by repeat (first | (with_reducible first | exact HB.out | apply zBa | apply zBn | apply zBd) | exact HB.out))) A8.out).mono ?_); (case side1 => repeat (first | exact (Kd.C_below HR0.out HB.out) | (with_reducible refine zCa ?_ _) | (with_reducible refine zCn ?_ _) | (with_reducible refine zCd ?_))); (case side2 => exact HC0.out); rintro e w11 ⟨rfl, hb⟩; refine ⟨_, rfl, ?_⟩; have n0_ := zMk (zBt (by repeat (first | (with_reducible first | exact HB.out | apply zBa | apply zBn | apply zBd) | exact HB.out)) hb); clear HB; have HB := n0_; clear n0_; (try clear hb); (try clear hb2); (try clear hk); (try clear hi)) | ((with_reducible refine gate_callee (f := 33) rfl ?_); refine goesL_ (some 21) rfl rfl Tryd.func33 (by kernel_rfl) rfl #[.string t356] rfl (by (try simp only [List.map_toArray, List.map_cons, List.map_nil]); first | done | rfl | (simp only [zLd, zLt]; rfl)) ?_; (with_reducible refine (n_Parse.calls kj2 t356 t357 t360 _ A9.out).mono ?_); rintro e w12 ⟨v358, rfl, ho0, hb⟩; refine ⟨_, rfl, ?_⟩; have n0_ := zMk (Kd.V_lower (zVm (ok' := fun k_ => True) ho0 (fun k_ hk_ => trivial)) (zBs (by repeat (first | (with_reducible first | exact HB.out | apply zBa | apply zBn | apply zBd) | exact HB.out)))); have n1_ := zMk (zBt (by repeat (first | (with_reducible first | exact HB.out | apply zBa | apply zBn | apply zBd) | exact HB.out)) hb); clear HB; have HO359 := n0_; have HB := n1_; clear n0_ n1_; (try clear hb); (try clear hb2); (try clear hk); (try clear hi); (try clear ho0)))
      (try simp only [Act.put, zSa, zSb, zSc])
      go_cut [32] (fun v32 wc => ∃ (kq : Nat) (x32_9 : Bool), v32 = .bool x32_9 ∧ Aside0 (w1_NaturalBack.j1 kq a1 x32_9 = some r) ∧ Aside0 (kq ≤ kj2) ∧ Aside0 (Below w.heap.size w wc))
      case first =>
        have H := HC10.out
        clear HC10
        by_cases c13 : t360 = 0
        · rw [if_pos c13] at H
          have c13b0 : (t360 == 0) = true := beq_iff_eq.mpr c13
          have c13b1 : (t360 != 0) = false := bne_eq_false_iff_eq.mpr c13
          clear c13
          (first | rw [c13b0] | (simp only [i64_w, i32_w]; rw [c13b0]) | rw [c13b1] | skip)
          replace H := Option.bind_eq_some_iff.mp H
          obtain ⟨t361, A140, H⟩ := H
          have A14 := zMk A140
          clear A140
          replace H := Option.bind_eq_some_iff.mp H
          obtain ⟨t364, A150, H⟩ := H
          have A15 := zMk A150
          clear A150
          have H' := zMk H
          clear H
          go_wp2_with (first | (go_at_call 20; (with_reducible refine (r1_Norm.calls kj2 _ _ l0 t361 _ ?side1 ?side2 A14.out).mono ?_); (case side1 => repeat (first | exact (Kd.C_below HR0.out HB.out) | (with_reducible refine zCa ?_ _) | (with_reducible refine zCn ?_ _) | (with_reducible refine zCd ?_))); (case side2 => exact HC0.out); rintro e w16 ⟨v362, rfl, ho0, hb⟩; have n0_ := zMk (Kd.V_elder' (by (with_reducible repeat (first | apply zVa | apply zVn | apply zVd)); exact HO359.out) (Kd.R_base ho0) hb); have n1_ := zMk (Kd.R_lower ho0 (zBs (by repeat (first | (with_reducible first | exact HB.out | apply zBa | apply zBn | apply zBd) | exact HB.out)))); have n2_ := zMk (zBt (by repeat (first | (with_reducible first | exact HB.out | apply zBa | apply zBn | apply zBd) | exact HB.out)) hb); clear HO359; clear HB; have HO359 := n0_; have HO363 := n1_; have HB := n2_; clear n0_ n1_ n2_; (try clear hb); (try clear hb2); (try clear hk); (try clear hi); (try clear ho0); obtain ⟨Ao17, co17, eo17⟩ := Kd.V_slice HO359.out; subst eo17; obtain ⟨Ao18, co18, eo18⟩ := Kd.R_slice HO363.out; subst eo18) | (go_at_call 16; (with_reducible refine (r1_Same.calls kj2 _ _ t357 _ _ t361 t364 _ ?side1 ?side2 ?side3 ?side4 A15.out).mono ?_); (case side1 => repeat (first | exact (Kd.V_reads' HO359.out).2.2 | (with_reducible refine zCa ?_ _) | (with_reducible refine zCn ?_ _) | (with_reducible refine zCd ?_))); (case side2 => exact (Kd.V_reads' HO359.out).2.1); (case side3 => repeat (first | exact (Kd.R_reads' HO363.out).2.2 | (with_reducible refine zCa ?_ _) | (with_reducible refine zCn ?_ _) | (with_reducible refine zCd ?_))); (case side4 => exact (Kd.R_reads' HO363.out).2.1); rintro e w' ⟨rfl, ⟨nd, rfl⟩⟩))
          go_meet
          case rel => exact ⟨_, (!t364), (by first | rfl | (simp; done) | (simp [*]; done)), H', ⟨by have := HJ2.out; first | omega | exact Nat.le_refl _⟩, ⟨by repeat (first | (with_reducible first | exact HB.out | apply zBa | apply zBn | apply zBd) | exact HB.out)⟩⟩
        · rw [if_neg c13] at H
          have c13b0 : (t360 == 0) = false := beq_eq_false_iff_ne.mpr c13
          have c13b1 : (t360 != 0) = true := bne_iff_ne.mpr c13
          (first | rw [c13b0] | (simp only [i64_w, i32_w]; rw [c13b0]) | rw [c13b1] | skip)
          have H' := zMk H
          clear H
          go_wp2
          go_meet
          case rel => exact ⟨_, (true), (by first | rfl | (simp; done) | (simp [*]; done)), H', ⟨by have := HJ2.out; first | omega | exact Nat.le_refl _⟩, ⟨by repeat (first | (with_reducible first | exact HB.out | apply zBa | apply zBn | apply zBd) | exact HB.out)⟩⟩
      case rest =>
        clear HC10
        obtain ⟨kq, x32_9, rfl, HA, HJ9, HB⟩ := hcut
        rcases kq with _ | kj9
        · exact absurd HA.out (by simp [w1_NaturalBack.j1])
        have H := HA.out
        clear HA
        simp only [w1_NaturalBack.j1] at H
        by_cases c19 : x32_9 = true
        · subst c19
          have H1 : (some false) = some r := by rw [if_pos rfl] at H; exact H
          clear H
          have H := H1
          clear H1
          exact absurd ((zOi H).trans HRT.out) (by decide)
        · replace c19 := Bool.eq_false_iff.mpr c19
          subst c19
          have H1 : ((n_Parse.f kj9 a1).bind fun bt365 => (if bt365.2 = 0 then ((n_Text.f kj9 bt365.1).bind fun t369 => (if t369.toList = a1.toList then ((w1_alive.f kj9).bind fun t370 => (some t370)) else (some false))) else ((w1_alive.f kj9).bind fun t371 => (some t371)))) = some r := by rw [if_neg (show ¬ (false = true) by decide)] at H; exact H
          clear H
          have H := H1
          clear H1
          replace H := Option.bind_eq_some_iff.mp H
          obtain ⟨⟨t365, t368⟩, A200, H⟩ := H
          replace H : (if t368 = 0 then ((n_Text.f kj9 t365).bind fun t369 => (if t369.toList = a1.toList then ((w1_alive.f kj9).bind fun t370 => (some t370)) else (some false))) else ((w1_alive.f kj9).bind fun t371 => (some t371))) = some r := H
          have A20 := zMk A200
          clear A200
          by_cases c21 : t368 = 0
          · rw [if_pos c21] at H
            have c21b0 : (t368 == 0) = true := beq_iff_eq.mpr c21
            have c21b1 : (t368 != 0) = false := bne_eq_false_iff_eq.mpr c21
            clear c21
            replace H := Option.bind_eq_some_iff.mp H
            obtain ⟨t369, A220, H⟩ := H
            have A22 := zMk A220
            clear A220
            by_cases c23 : t369.toList = a1.toList
            · rw [if_pos c23] at H
              have c23b0 : (t369.toList == a1.toList) = true := beq_iff_eq.mpr c23
              have c23b1 : (t369.toList != a1.toList) = false := bne_eq_false_iff_eq.mpr c23
              clear c23
              replace H := Option.bind_eq_some_iff.mp H
              obtain ⟨t370, A240, H⟩ := H
              have A24 := zMk A240
              clear A240
              obtain rfl := zOi H
              go_wp2_with (first | ((with_reducible refine gate_callee (f := 33) rfl ?_); refine goesL_ (some 35) rfl rfl Tryd.func33 (by kernel_rfl) rfl #[.string a1] rfl (by (try simp only [List.map_toArray, List.map_cons, List.map_nil]); first | done | rfl | (simp only [zLd, zLt]; rfl)) ?_; (with_reducible refine (n_Parse.calls kj9 a1 t365 t368 _ A20.out).mono ?_); rintro e w25 ⟨v366, rfl, ho0, hb⟩; refine ⟨_, rfl, ?_⟩; have n0_ := zMk (Kd.V_lower (zVm (ok' := fun k_ => True) ho0 (fun k_ hk_ => trivial)) (zBs (by repeat (first | (with_reducible first | exact HB.out | apply zBa | apply zBn | apply zBd) | exact HB.out)))); have n1_ := zMk (zBt (by repeat (first | (with_reducible first | exact HB.out | apply zBa | apply zBn | apply zBd) | exact HB.out)) hb); clear HB; have HO367 := n0_; have HB := n1_; clear n0_ n1_; (try clear hb); (try clear hb2); (try clear hk); (try clear hi); (try clear ho0); obtain ⟨Ao26, co26, eo26⟩ := Kd.V_slice HO367.out; subst eo26) | (go_at_call 35; (with_reducible refine (n_Text.calls kj9 _ _ t365 t369 _ ?side1 ?side2 (Tabs.stays HTAB.out (by repeat (first | (with_reducible first | exact HB.out | apply zBa | apply zBn | apply zBd) | exact HB.out))) A22.out).mono ?_); (case side1 => repeat (first | exact (Kd.V_reads' HO367.out).2.2 | (with_reducible refine zCa ?_ _) | (with_reducible refine zCn ?_ _) | (with_reducible refine zCd ?_))); (case side2 => exact (Kd.V_reads' HO367.out).2.1); rintro e w27 ⟨rfl, hb⟩; have n0_ := zMk (zVb (by (with_reducible repeat (first | apply zVa | apply zVn | apply zVd)); exact HO367.out) hb); have n1_ := zMk (zBt (by repeat (first | (with_reducible first | exact HB.out | apply zBa | apply zBn | apply zBd) | exact HB.out)) hb); clear HO367; clear HB; have HO367 := n0_; have HB := n1_; clear n0_ n1_; (try clear hb); (try clear hb2); (try clear hk); (try clear hi)) | (go_at_call 15; (with_reducible refine (w1_alive.calls kj9  t370 _ (Tabs.stays HTAB.out (by repeat (first | (with_reducible first | exact HB.out | apply zBa | apply zBn | apply zBd) | exact HB.out))) A24.out).mono ?_); rintro e w28 ⟨rfl, hb⟩; have n0_ := zMk (zVb (by (with_reducible repeat (first | apply zVa | apply zVn | apply zVd)); exact HO367.out) hb); have n1_ := zMk (zBt (by repeat (first | (with_reducible first | exact HB.out | apply zBa | apply zBn | apply zBd) | exact HB.out)) hb); clear HO367; clear HB; have HO367 := n0_; have HB := n1_; clear n0_ n1_; (try clear hb); (try clear hb2); (try clear hk); (try clear hi)))
              go_ret
              exact ⟨by first | rfl | (simp [errW_none, errW_some] <;> rfl) | (simp [*, errW_none, errW_some] <;> rfl), by repeat (first | (with_reducible first | exact HB.out | apply zBa | apply zBn | apply zBd) | exact HB.out)⟩
            · rw [if_neg c23] at H
              have c23b0 : (t369.toList == a1.toList) = false := beq_eq_false_iff_ne.mpr c23
              have c23b1 : (t369.toList != a1.toList) = true := bne_iff_ne.mpr c23
              obtain rfl := zOi H
              go_wp2_with (first | ((with_reducible refine gate_callee (f := 33) rfl ?_); refine goesL_ (some 35) rfl rfl Tryd.func33 (by kernel_rfl) rfl #[.string a1] rfl (by (try simp only [List.map_toArray, List.map_cons, List.map_nil]); first | done | rfl | (simp only [zLd, zLt]; rfl)) ?_; (with_reducible refine (n_Parse.calls kj9 a1 t365 t368 _ A20.out).mono ?_); rintro e w29 ⟨v366, rfl, ho0, hb⟩; refine ⟨_, rfl, ?_⟩; have n0_ := zMk (Kd.V_lower (zVm (ok' := fun k_ => True) ho0 (fun k_ hk_ => trivial)) (zBs (by repeat (first | (with_reducible first | exact HB.out | apply zBa | apply zBn | apply zBd) | exact HB.out)))); have n1_ := zMk (zBt (by repeat (first | (with_reducible first | exact HB.out | apply zBa | apply zBn | apply zBd) | exact HB.out)) hb); clear HB; have HO367 := n0_; have HB := n1_; clear n0_ n1_; (try clear hb); (try clear hb2); (try clear hk); (try clear hi); (try clear ho0); obtain ⟨Ao30, co30, eo30⟩ := Kd.V_slice HO367.out; subst eo30) | (go_at_call 35; (with_reducible refine (n_Text.calls kj9 _ _ t365 t369 _ ?side1 ?side2 (Tabs.stays HTAB.out (by repeat (first | (with_reducible first | exact HB.out | apply zBa | apply zBn | apply zBd) | exact HB.out))) A22.out).mono ?_); (case side1 => repeat (first | exact (Kd.V_reads' HO367.out).2.2 | (with_reducible refine zCa ?_ _) | (with_reducible refine zCn ?_ _) | (with_reducible refine zCd ?_))); (case side2 => exact (Kd.V_reads' HO367.out).2.1); rintro e w31 ⟨rfl, hb⟩; have n0_ := zMk (zVb (by (with_reducible repeat (first | apply zVa | apply zVn | apply zVd)); exact HO367.out) hb); have n1_ := zMk (zBt (by repeat (first | (with_reducible first | exact HB.out | apply zBa | apply zBn | apply zBd) | exact HB.out)) hb); clear HO367; clear HB; have HO367 := n0_; have HB := n1_; clear n0_ n1_; (try clear hb); (try clear hb2); (try clear hk); (try clear hi)))
              go_ret
              exact ⟨by first | rfl | (simp [errW_none, errW_some] <;> rfl) | (simp [*, errW_none, errW_some] <;> rfl), by repeat (first | (with_reducible first | exact HB.out | apply zBa | apply zBn | apply zBd) | exact HB.out)⟩
          · rw [if_neg c21] at H
            have c21b0 : (t368 == 0) = false := beq_eq_false_iff_ne.mpr c21
            have c21b1 : (t368 != 0) = true := bne_iff_ne.mpr c21
            replace H := Option.bind_eq_some_iff.mp H
            obtain ⟨t371, A320, H⟩ := H
            have A32 := zMk A320
            clear A320
            obtain rfl := zOi H
            go_wp2_with (first | ((with_reducible refine gate_callee (f := 33) rfl ?_); refine goesL_ (some 35) rfl rfl Tryd.func33 (by kernel_rfl) rfl #[.string a1] rfl (by (try simp only [List.map_toArray, List.map_cons, List.map_nil]); first | done | rfl | (simp only [zLd, zLt]; rfl)) ?_; (with_reducible refine (n_Parse.calls kj9 a1 t365 t368 _ A20.out).mono ?_); rintro e w33 ⟨v366, rfl, ho0, hb⟩; refine ⟨_, rfl, ?_⟩; have n0_ := zMk (Kd.V_lower (zVm (ok' := fun k_ => True) ho0 (fun k_ hk_ => trivial)) (zBs (by repeat (first | (with_reducible first | exact HB.out | apply zBa | apply zBn | apply zBd) | exact HB.out)))); have n1_ := zMk (zBt (by repeat (first | (with_reducible first | exact HB.out | apply zBa | apply zBn | apply zBd) | exact HB.out)) hb); clear HB; have HO367 := n0_; have HB := n1_; clear n0_ n1_; (try clear hb); (try clear hb2); (try clear hk); (try clear hi); (try clear ho0)) | (go_at_call 15; (with_reducible refine (w1_alive.calls kj9  t371 _ (Tabs.stays HTAB.out (by repeat (first | (with_reducible first | exact HB.out | apply zBa | apply zBn | apply zBd) | exact HB.out))) A32.out).mono ?_); rintro e w34 ⟨rfl, hb⟩; have n0_ := zMk (zVb (by (with_reducible repeat (first | apply zVa | apply zVn | apply zVd)); exact HO367.out) hb); have n1_ := zMk (zBt (by repeat (first | (with_reducible first | exact HB.out | apply zBa | apply zBn | apply zBd) | exact HB.out)) hb); clear HO367; clear HB; have HO367 := n0_; have HB := n1_; clear n0_ n1_; (try clear hb); (try clear hb2); (try clear hk); (try clear hi)))
            go_ret
            exact ⟨by first | rfl | (simp [errW_none, errW_some] <;> rfl) | (simp [*, errW_none, errW_some] <;> rfl), by repeat (first | (with_reducible first | exact HB.out | apply zBa | apply zBn | apply zBd) | exact HB.out)⟩

/-- What the walk leaves: a statement of plain lists and numbers. -/
def w1_NaturalBack.Pure : Prop := ∀ (l0 : List Int) (a1 : ByteArray), l0.length ≤ maxLen → l0.length * 4 ≤ 140737488351232 → (∀ x ∈ l0, (Lit.int .u32 x).wf = true) → a1.size ≤ 140737488351232 → ∃ k, w1_NaturalBack.f k l0 a1 = some true
/- The plain law of NaturalBack. -/
section
open Go.Lib
theorem alive_at2 : w1_alive.f 999998 = some true := by kernel_rfl
theorem dec_len_val {l : List Int} (hl : Limbs l) (h : l.length ≤ 100) (M : Nat) (hM : M = 2001) : (decDigits (val l).toNat).length ≤ M := by
  refine dec_len_le M _ (by omega) ?_
  have h1 := val_lt hl
  have h2 := pow_limbs10 l.length
  have h3 : ((10 : Nat) : Int) ^ (10 * l.length) ≤ ((10 : Nat) : Int) ^ M := by
    rw [← Int.natCast_pow, ← Int.natCast_pow]
    exact Int.ofNat_le.2 (Nat.pow_le_pow_right (by omega) (by omega))
  have h4 : ((10 ^ M : Nat) : Int) = ((10 : Nat) : Int) ^ M := Int.natCast_pow ..
  have h5 : val l < ((10 ^ M : Nat) : Int) := by
    rw [h4]
    exact Int.lt_of_lt_of_le h1 (Int.le_trans h2 h3)
  have h0 := val_nonneg hl
  generalize (10 ^ M : Nat) = P at h5 ⊢
  omega
theorem pure_NaturalBack : w1_NaturalBack.Pure := by
  intro a s m1 _ h1 ms
  have A := limbs_of_wf h1
  obtain ⟨k, hk⟩ : ∃ k : Nat, k = 999998 := ⟨_, rfl⟩
  refine ⟨k + 2, ?_⟩
  unfold w1_NaturalBack.f
  have away : w1_NaturalBack.j0 (k + 2) a s true = some true := by
    simp only [w1_NaturalBack.j0, if_true]
    rw [alive_f (k + 1) (by omega)]
    rfl
  by_cases c1 : (a.length : Int) > 100
  · rw [if_pos c1]
    exact away
  · rw [if_neg c1]
    by_cases c2 : (s.size : Int) > 500
    · rw [decide_eq_true c2]
      exact away
    · rw [decide_eq_false c2]
      simp only [w1_NaturalBack.j0, Bool.false_eq_true, if_false]
      have hca := cut_length a
      have hdl := dec_len_val A (by omega) 2001 rfl
      rw [text_f a A (by omega) (k + 1) (by omega), zOb]
      obtain ⟨x, e1, n1⟩ := (parse_f (bytesOf (decDigits (val a).toNat)) (by rw [bytesOf_size]; omega) (k + 1) (by omega)).1 (dec_numeral _)
      rw [bytesOf_list, dec_dv] at n1
      have hxa : x = cut a := n1.unique (by have h := IsNum.cut A; rw [show (((val a).toNat : Nat) : Int) = val a by have := val_nonneg A; omega]; exact h)
      subst hxa
      rw [e1, zOb, if_pos rfl, norm_f a (by omega) (k + 1) (by omega), zOb, same_f (cut a) (by omega) (k + 1) (by omega), zOb]
      simp only [w1_NaturalBack.j1, Bool.not_true, Bool.false_eq_true, if_false]
      have hsz := size_list s
      have al : w1_alive.f k = some true := by rw [hk]; exact alive_at2
      have p1 := parse_f s (by omega) k (by omega)
      by_cases hn : Numeral s.data.toList
      · obtain ⟨y, e2, n2⟩ := p1.1 hn
        have h := n2
        rw [← List.take_length (l := s.data.toList)] at h
        have hyl := len_of_dv h (fun j hj => getD_digit.2 hn.2.1 j (by omega) hj) (Nat.le_refl _)
        rw [e2, zOb, if_pos rfl, text_f y n2.limbs (by omega) k (by omega), zOb, n2.eq, show ((dv s.data.toList : Nat) : Int).toNat = dv s.data.toList by omega, dec_of_numeral _ _ rfl hn]
        rw [if_pos (show (bytesOf s.data.toList).toList = s.toList from rfl), al]
        rfl
      · rw [p1.2 hn, zOb, if_neg (by decide), al]
        rfl
end
end Go.Proofs.YtihlelniaiadgaaDoor.E
