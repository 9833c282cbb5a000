/- Lemmas for the statement: the walks of the functions that it reaches, and plain laws. -/
import Derived.Test.YtihlelniaiadgaaDoorAr1
import Derived.Test.YtihlelniaiadgaaDoorAr2
import Derived.KernelRfl
import Derived.OpenShut
set_option linter.unusedVariables false
set_option linter.unusedSimpArgs false
-- written by a program of this session (a turned print; wip/tools): Lean checks it
namespace Go.Proofs.YtihlelniaiadgaaDoor.A
open Go.RowKit Go.Proofs.YtihlelniaiadgaaDoorW.PrintWords Go.Proofs.YtihlelniaiadgaaDoorW.PrintLast Go.Proofs.YtihlelniaiadgaaDoorW.PrintMore
attribute [local go_sem] max2_int min2_int max_two min_two max_three min_three max_four min_four   -- for this text's walks alone
set_option linter.unusedVariables false
set_option linter.unusedSimpArgs false

/-! ### filigreelaw01_NaturalOrder: function 3 -/
def filigreelaw01_NaturalOrder.f (k : Nat) (a0 : Int) (l1 : List Int) (l2 : List Int) : Option (Bool) := (filigreelaw01_Light.f k (([l1, l2] : List (List Int)))).bind fun t456 => (if t456 = true then ((natural_Of.f a0).bind fun t458 => ((filigreeref01_Of.f k a0).bind fun t461 => ((filigreeref01_Same.f k t458 t461).bind fun t464 => (if t464 = true then ((natural_Norm.f l1).bind fun t465 => ((filigreeref01_Norm.f k l1).bind fun t468 => ((filigreeref01_Same.f k t465 t468).bind fun t471 => (if t471 = true then ((natural_Cmp.f l1 l2).bind fun t472 => ((filigreeref01_Cmp.f k l1 l2).bind fun t473 => (if t472 = t473 then ((filigreelaw01_alive.f k).bind fun t474 => (some t474)) else (some false)))) else (some false))))) else (some false))))) else ((filigreelaw01_alive.f k).bind fun t457 => (some t457)))
theorem filigreelaw01_NaturalOrder.mono : ∀ a0 a1 a2 k, LeO (filigreelaw01_NaturalOrder.f k a0 a1 a2) (filigreelaw01_NaturalOrder.f (k + 1) a0 a1 a2) := by
  intro a0 a1 a2 k
  unfold filigreelaw01_NaturalOrder.f
  repeat' first
      | (with_reducible exact filigreelaw01_Light.mono _ _)
      | (with_reducible exact filigreelaw01_alive.mono _)
      | (with_reducible exact filigreeref01_Cmp.mono _ _ _)
      | (with_reducible exact filigreeref01_Norm.mono _ _)
      | (with_reducible exact filigreeref01_Of.mono _ _)
      | (with_reducible exact filigreeref01_Same.mono _ _ _)
      | (with_reducible exact LeO.refl _)
      | (with_reducible exact LeO.none _)
      | (with_reducible refine LeO.ite ?_ ?_)
      | (with_reducible refine LeO.bind ?_ (fun _ => ?_))
      | exact filigreelaw01_Light.mono _ _
      | exact filigreelaw01_alive.mono _
      | exact filigreeref01_Cmp.mono _ _ _
      | exact filigreeref01_Norm.mono _ _
      | exact filigreeref01_Of.mono _ _
      | exact filigreeref01_Same.mono _ _ _
      | exact LeO.none _
      | refine LeO.ite ?_ ?_
      | refine LeO.bind ?_ (fun _ => ?_)
set_option maxHeartbeats 8000000 in
set_option maxRecDepth 100000 in
theorem filigreelaw01_NaturalOrder.calls (k : Nat) (a0 : Int) (P1_ : Nat → Prop) (A1 : Option Addr) (c1 : Nat) (l1 : List Int) (P2_ : Nat → Prop) (A2 : Option Addr) (c2 : Nat) (l2 : List Int) (r : Bool) (w : World) (hs1 : Kd.V (Kd.int .u32) 36 w w.heap.size (fun k_ => P1_ k_) (.slice A1 l1.length c1) l1) (hs2 : Kd.V (Kd.int .u32) 36 w w.heap.size (fun k_ => P2_ k_) (.slice A2 l2.length c2) l2) (h : filigreelaw01_NaturalOrder.f k a0 l1 l2 = some r) (hr_ : r = true) :
    Calls Tryd.prog 3 #[.int .u64 a0, .slice A1 l1.length c1, .slice A2 l2.length c2] w fun e w' => e = .returned (.bool r) ∧ Below w.heap.size w w' := by
  have HRT := Aside0.mk hr_
  clear hr_
  have HO1 := Aside0.mk (show Kd.V (Kd.int .u32) 36 w w.heap.size (fun k_ => ((P1_ k_ ∨ P2_ k_) ∨ w.heap.size ≤ k_)) (.slice A1 l1.length c1) l1 from Kd.V_mono hs1 (fun k_ hk => .inl (.inl hk)))
  have HO2 := Aside0.mk (show Kd.V (Kd.int .u32) 36 w w.heap.size (fun k_ => ((P1_ k_ ∨ P2_ k_) ∨ w.heap.size ≤ k_)) (.slice A2 l2.length c2) l2 from Kd.V_mono hs2 (fun k_ hk => .inl (.inr hk)))
  have HB := Aside0.mk (Below.refl w.heap.size w)
  have H : ((filigreelaw01_Light.f k (([l1, l2] : List (List Int)))).bind fun t456 => (if t456 = true then ((natural_Of.f a0).bind fun t458 => ((filigreeref01_Of.f k a0).bind fun t461 => ((filigreeref01_Same.f k t458 t461).bind fun t464 => (if t464 = true then ((natural_Norm.f l1).bind fun t465 => ((filigreeref01_Norm.f k l1).bind fun t468 => ((filigreeref01_Same.f k t465 t468).bind fun t471 => (if t471 = true then ((natural_Cmp.f l1 l2).bind fun t472 => ((filigreeref01_Cmp.f k l1 l2).bind fun t473 => (if t472 = t473 then ((filigreelaw01_alive.f k).bind fun t474 => (some t474)) else (some false)))) else (some false))))) else (some false))))) else ((filigreelaw01_alive.f k).bind fun t457 => (some t457)))) = some r := h
  clear h
  obtain ⟨y453, hy453⟩ : ∃ y_ : List (List Int), y_ = (([l1, l2] : List (List Int))) := ⟨_, rfl⟩
  replace H : ((filigreelaw01_Light.f k y453).bind fun t456 => (if t456 = true then ((natural_Of.f a0).bind fun t458 => ((filigreeref01_Of.f k a0).bind fun t461 => ((filigreeref01_Same.f k t458 t461).bind fun t464 => (if t464 = true then ((natural_Norm.f l1).bind fun t465 => ((filigreeref01_Norm.f k l1).bind fun t468 => ((filigreeref01_Same.f k t465 t468).bind fun t471 => (if t471 = true then ((natural_Cmp.f l1 l2).bind fun t472 => ((filigreeref01_Cmp.f k l1 l2).bind fun t473 => (if t472 = t473 then ((filigreelaw01_alive.f k).bind fun t474 => (some t474)) else (some false)))) else (some false))))) else (some false))))) else ((filigreelaw01_alive.f k).bind fun t457 => (some t457)))) = some r := by first | (rw [hy453]; with_reducible exact H) | (have H2_ := (Option.bind_some _ _).symm.trans H; rw [hy453]; with_reducible exact H2_) | (have H2_ := (Option.bind_some _ _).symm.trans H; with_reducible exact H2_) | with_reducible exact H | (rw [hy453]; exact H) | exact H
  have Ny453 := Aside0.mk hy453
  clear hy453
  replace H := Option.bind_eq_some_iff.mp H
  obtain ⟨t456, A40, H⟩ := H
  replace H : (if t456 = true then ((natural_Of.f a0).bind fun t458 => ((filigreeref01_Of.f k a0).bind fun t461 => ((filigreeref01_Same.f k t458 t461).bind fun t464 => (if t464 = true then ((natural_Norm.f l1).bind fun t465 => ((filigreeref01_Norm.f k l1).bind fun t468 => ((filigreeref01_Same.f k t465 t468).bind fun t471 => (if t471 = true then ((natural_Cmp.f l1 l2).bind fun t472 => ((filigreeref01_Cmp.f k l1 l2).bind fun t473 => (if t472 = t473 then ((filigreelaw01_alive.f k).bind fun t474 => (some t474)) else (some false)))) else (some false))))) else (some false))))) else ((filigreelaw01_alive.f k).bind fun t457 => (some t457))) = some r := H
  have A4 := Aside0.mk A40
  clear A40
  by_cases c5 : t456 = true
  · subst c5
    have H1 : ((natural_Of.f a0).bind fun t458 => ((filigreeref01_Of.f k a0).bind fun t461 => ((filigreeref01_Same.f k t458 t461).bind fun t464 => (if t464 = true then ((natural_Norm.f l1).bind fun t465 => ((filigreeref01_Norm.f k l1).bind fun t468 => ((filigreeref01_Same.f k t465 t468).bind fun t471 => (if t471 = true then ((natural_Cmp.f l1 l2).bind fun t472 => ((filigreeref01_Cmp.f k l1 l2).bind fun t473 => (if t472 = t473 then ((filigreelaw01_alive.f k).bind fun t474 => (some t474)) else (some false)))) else (some false))))) else (some false))))) = some r := by rw [if_pos rfl] at H; exact H
    clear H
    have H := H1
    clear H1
    replace H := Option.bind_eq_some_iff.mp H
    obtain ⟨t458, A60, H⟩ := H
    replace H : ((filigreeref01_Of.f k a0).bind fun t461 => ((filigreeref01_Same.f k t458 t461).bind fun t464 => (if t464 = true then ((natural_Norm.f l1).bind fun t465 => ((filigreeref01_Norm.f k l1).bind fun t468 => ((filigreeref01_Same.f k t465 t468).bind fun t471 => (if t471 = true then ((natural_Cmp.f l1 l2).bind fun t472 => ((filigreeref01_Cmp.f k l1 l2).bind fun t473 => (if t472 = t473 then ((filigreelaw01_alive.f k).bind fun t474 => (some t474)) else (some false)))) else (some false))))) else (some false)))) = some r := H
    have A6 := Aside0.mk A60
    clear A60
    replace H := Option.bind_eq_some_iff.mp H
    obtain ⟨t461, A70, H⟩ := H
    replace H : ((filigreeref01_Same.f k t458 t461).bind fun t464 => (if t464 = true then ((natural_Norm.f l1).bind fun t465 => ((filigreeref01_Norm.f k l1).bind fun t468 => ((filigreeref01_Same.f k t465 t468).bind fun t471 => (if t471 = true then ((natural_Cmp.f l1 l2).bind fun t472 => ((filigreeref01_Cmp.f k l1 l2).bind fun t473 => (if t472 = t473 then ((filigreelaw01_alive.f k).bind fun t474 => (some t474)) else (some false)))) else (some false))))) else (some false))) = some r := H
    have A7 := Aside0.mk A70
    clear A70
    replace H := Option.bind_eq_some_iff.mp H
    obtain ⟨t464, A80, H⟩ := H
    replace H : (if t464 = true then ((natural_Norm.f l1).bind fun t465 => ((filigreeref01_Norm.f k l1).bind fun t468 => ((filigreeref01_Same.f k t465 t468).bind fun t471 => (if t471 = true then ((natural_Cmp.f l1 l2).bind fun t472 => ((filigreeref01_Cmp.f k l1 l2).bind fun t473 => (if t472 = t473 then ((filigreelaw01_alive.f k).bind fun t474 => (some t474)) else (some false)))) else (some false))))) else (some false)) = some r := H
    have A8 := Aside0.mk A80
    clear A80
    by_cases c9 : t464 = true
    · subst c9
      have H1 : ((natural_Norm.f l1).bind fun t465 => ((filigreeref01_Norm.f k l1).bind fun t468 => ((filigreeref01_Same.f k t465 t468).bind fun t471 => (if t471 = true then ((natural_Cmp.f l1 l2).bind fun t472 => ((filigreeref01_Cmp.f k l1 l2).bind fun t473 => (if t472 = t473 then ((filigreelaw01_alive.f k).bind fun t474 => (some t474)) else (some false)))) else (some false))))) = some r := by rw [if_pos rfl] at H; exact H
      clear H
      have H := H1
      clear H1
      replace H := Option.bind_eq_some_iff.mp H
      obtain ⟨t465, A100, H⟩ := H
      replace H : ((filigreeref01_Norm.f k l1).bind fun t468 => ((filigreeref01_Same.f k t465 t468).bind fun t471 => (if t471 = true then ((natural_Cmp.f l1 l2).bind fun t472 => ((filigreeref01_Cmp.f k l1 l2).bind fun t473 => (if t472 = t473 then ((filigreelaw01_alive.f k).bind fun t474 => (some t474)) else (some false)))) else (some false)))) = some r := H
      have A10 := Aside0.mk A100
      clear A100
      replace H := Option.bind_eq_some_iff.mp H
      obtain ⟨t468, A110, H⟩ := H
      replace H : ((filigreeref01_Same.f k t465 t468).bind fun t471 => (if t471 = true then ((natural_Cmp.f l1 l2).bind fun t472 => ((filigreeref01_Cmp.f k l1 l2).bind fun t473 => (if t472 = t473 then ((filigreelaw01_alive.f k).bind fun t474 => (some t474)) else (some false)))) else (some false))) = some r := H
      have A11 := Aside0.mk A110
      clear A110
      replace H := Option.bind_eq_some_iff.mp H
      obtain ⟨t471, A120, H⟩ := H
      replace H : (if t471 = true then ((natural_Cmp.f l1 l2).bind fun t472 => ((filigreeref01_Cmp.f k l1 l2).bind fun t473 => (if t472 = t473 then ((filigreelaw01_alive.f k).bind fun t474 => (some t474)) else (some false)))) else (some false)) = some r := H
      have A12 := Aside0.mk A120
      clear A120
      by_cases c13 : t471 = true
      · subst c13
        have H1 : ((natural_Cmp.f l1 l2).bind fun t472 => ((filigreeref01_Cmp.f k l1 l2).bind fun t473 => (if t472 = t473 then ((filigreelaw01_alive.f k).bind fun t474 => (some t474)) else (some false)))) = some r := by rw [if_pos rfl] at H; exact H
        clear H
        have H := H1
        clear H1
        replace H := Option.bind_eq_some_iff.mp H
        obtain ⟨t472, A140, H⟩ := H
        replace H : ((filigreeref01_Cmp.f k l1 l2).bind fun t473 => (if t472 = t473 then ((filigreelaw01_alive.f k).bind fun t474 => (some t474)) else (some false))) = some r := H
        have A14 := Aside0.mk A140
        clear A140
        replace H := Option.bind_eq_some_iff.mp H
        obtain ⟨t473, A150, H⟩ := H
        replace H : (if t472 = t473 then ((filigreelaw01_alive.f k).bind fun t474 => (some t474)) else (some false)) = some r := H
        have A15 := Aside0.mk A150
        clear A150
        by_cases c16 : t472 = t473
        · rw [if_pos c16] at H
          have c16b0 : (t472 == t473) = true := beq_iff_eq.mpr c16
          have c16b1 : (t472 != t473) = false := bne_eq_false_iff_eq.mpr c16
          clear c16
          replace H := Option.bind_eq_some_iff.mp H
          obtain ⟨t474, A170, H⟩ := H
          replace H : (some t474) = some r := H
          have A17 := Aside0.mk A170
          clear A170
          obtain rfl := Option.some.inj H
          go_enter Tryd.func3, Tryd.ntmps3
          go_wp2_with (first | ((with_reducible refine gate_dst (N := 9) rfl ?_); refine Kd.N_lit (Kd.slice 36 (Kd.int .u32)) _ 23 ?hg (N' := 9) ?hd (xs := ([l1, l2] : List (List Int))) (inner := [.slice A1 l1.length c1, .slice A2 l2.length c2]) (ok := (fun k_ => ((P1_ k_ ∨ P2_ k_) ∨ w.heap.size ≤ k_))) (okp := (fun k_ => ((P1_ k_ ∨ P2_ k_) ∨ w.heap.size ≤ k_))) ?hr ?hp (fun _ hk => hk) ((show ∀ k_, w.heap.size ≤ k_ → (fun k_ => ((P1_ k_ ∨ P2_ k_) ∨ w.heap.size ≤ k_)) k_ from fun k_ hk => (.inr (Nat.le_trans (below_size (by repeat (first | (with_reducible first | exact HB.out | apply below_alloc | apply pw_below_drewN | apply below_drew1) | exact HB.out))) hk))) _ (Nat.le_refl _)) (Below.refl _ _) (Nat.le_refl _) (by simp) ?_; (case hd => rfl); (case hg => rfl); (case hr => first | (go_simp; done) | (go_simp; rfl) | (go_simp; rw [show ∀ x : Int, IntKind.u32.wrap (IntKind.u8.wrap x) = x % 256 from fun x => (by show (x % 256) % 4294967296 = x % 256; omega)])); (case hp => exact (Reps.one (show Kd.FK (Kd.slice 36 (Kd.int .u32)) _ _ l1 [.slice A1 l1.length c1] from (Kd.FK_slice_mk (Kd.V_reads' (Kd.V_mono (ok' := (fun k_ => ((P1_ k_ ∨ P2_ k_) ∨ w.heap.size ≤ k_))) (HO1.out) (fun k_ hk => hk))).2.1 (Kd.V_F (Kd.V_mono (ok' := (fun k_ => ((P1_ k_ ∨ P2_ k_) ∨ w.heap.size ≤ k_))) (HO1.out) (fun k_ hk => hk))))) (Reps.one (show Kd.FK (Kd.slice 36 (Kd.int .u32)) _ _ l2 [.slice A2 l2.length c2] from (Kd.FK_slice_mk (Kd.V_reads' (Kd.V_mono (ok' := (fun k_ => ((P1_ k_ ∨ P2_ k_) ∨ w.heap.size ≤ k_))) (HO2.out) (fun k_ hk => hk))).2.1 (Kd.V_F (Kd.V_mono (ok' := (fun k_ => ((P1_ k_ ∨ P2_ k_) ∨ w.heap.size ≤ k_))) (HO2.out) (fun k_ hk => hk))))) (Reps.none _ _)))); intro v454 w18 ho19 hb hg_ hnew_; clear hg_ hnew_; (first | rw [← Ny453.out] at ho19 | (simp only [Int.reduceToNat] at ho19; rw [← Ny453.out] at ho19)); have n0_ := Aside0.mk (Kd.V_elder' (by (with_reducible repeat (first | apply Kd.V_alloc | apply Kd.V_drewN | apply Kd.V_drew)); exact HO1.out) (Kd.N_base ho19) hb); have n1_ := Aside0.mk (Kd.V_elder' (by (with_reducible repeat (first | apply Kd.V_alloc | apply Kd.V_drewN | apply Kd.V_drew)); exact HO2.out) (Kd.N_base ho19) hb); have n2_ := Aside0.mk (Kd.N_lower ho19 (below_size (by repeat (first | (with_reducible first | exact HB.out | apply below_alloc | apply pw_below_drewN | apply below_drew1) | exact HB.out)))); have n3_ := Aside0.mk (below_step (by repeat (first | (with_reducible first | exact HB.out | apply below_alloc | apply pw_below_drewN | apply below_drew1) | exact HB.out)) hb); clear HO1; clear HO2; clear HB; have HO1 := n0_; have HO2 := n1_; have HO455 := n2_; have HB := n3_; clear n0_ n1_ n2_ n3_; clear hb ho19; obtain ⟨Ao20, co20, eo20⟩ := Kd.N_slice HO455.out; subst eo20) | ((with_reducible refine gate_callee (f := 14) rfl ?_); refine goesL_ (some 10) rfl rfl Tryd.func14 (by kernel_rfl) rfl #[.slice Ao20 y453.length co20] rfl (by (try simp only [List.map_toArray, List.map_cons, List.map_nil]); first | done | rfl | (simp only [List.length_drop, List.length_take]; rfl)) ?_; (with_reducible refine (filigreelaw01_Light.calls k _ _ y453 true _ ?side1 ?side2 A4.out).mono ?_); (case side1 => repeat (first | exact (Kd.N_reads' HO455.out).2.2 | (with_reducible refine Kd.C_alloc ?_ _) | (with_reducible refine Kd.C_drewN ?_ _) | (with_reducible refine Kd.C_drew ?_))); (case side2 => exact (Kd.N_reads' HO455.out).2.1); rintro e w' ⟨rfl, ⟨nd, rfl⟩⟩; refine ⟨_, rfl, ?_⟩) | ((with_reducible refine gate_callee (f := 17) rfl ?_); refine goesL_ (some 14) rfl rfl Tryd.func17 (by kernel_rfl) rfl #[.int .u64 a0] rfl (by (try simp only [List.map_toArray, List.map_cons, List.map_nil]); first | done | rfl | (simp only [List.length_drop, List.length_take]; rfl)) ?_; (with_reducible refine (natural_Of.calls a0 t458 _ A6.out).mono ?_); rintro e w21 ⟨v459, rfl, ho0, hb⟩; refine ⟨_, rfl, ?_⟩; have n0_ := Aside0.mk (Kd.V_below (by (with_reducible repeat (first | apply Kd.V_alloc | apply Kd.V_drewN | apply Kd.V_drew)); exact HO1.out) hb); have n1_ := Aside0.mk (Kd.V_below (by (with_reducible repeat (first | apply Kd.V_alloc | apply Kd.V_drewN | apply Kd.V_drew)); exact HO2.out) hb); have n2_ := Aside0.mk (Kd.N_below (by (with_reducible repeat (first | apply Kd.N_alloc | apply Kd.N_drewN | apply Kd.N_drew)); exact HO455.out) hb); have n3_ := Aside0.mk (Kd.V_lower (Kd.V_mono (ok' := fun k_ => ((P1_ k_ ∨ P2_ k_) ∨ w.heap.size ≤ k_) ∧ some k_ ≠ (.slice Ao20 y453.length co20 : Value).ownBlock) ho0 (fun k_ hk_ => ⟨(.inr (Nat.le_trans (below_size (by repeat (first | (with_reducible first | exact HB.out | apply below_alloc | apply pw_below_drewN | apply below_drew1) | exact HB.out))) hk_)), (Kd.fresh' (Kd.N_lt (by (with_reducible repeat (first | apply Kd.N_alloc | apply Kd.N_drewN | apply Kd.N_drew)); exact HO455.out)) k_ hk_)⟩)) (below_size (by repeat (first | (with_reducible first | exact HB.out | apply below_alloc | apply pw_below_drewN | apply below_drew1) | exact HB.out)))); have n4_ := Aside0.mk (below_step (by repeat (first | (with_reducible first | exact HB.out | apply below_alloc | apply pw_below_drewN | apply below_drew1) | exact HB.out)) hb); clear HO1; clear HO2; clear HO455; clear HB; have HO1 := n0_; have HO2 := n1_; have HO455 := n2_; have HO460 := n3_; have HB := n4_; clear n0_ n1_ n2_ n3_ n4_; (try clear hb); (try clear hb2); (try clear hk); (try clear hi); (try clear ho0)) | ((with_reducible refine gate_callee (f := 18) rfl ?_); refine goesL_ (some 16) rfl rfl Tryd.func18 (by kernel_rfl) rfl #[.int .u64 a0] rfl (by (try simp only [List.map_toArray, List.map_cons, List.map_nil]); first | done | rfl | (simp only [List.length_drop, List.length_take]; rfl)) ?_; (with_reducible refine (filigreeref01_Of.calls k a0 t461 _ A7.out).mono ?_); rintro e w22 ⟨v462, rfl, ho0, hb⟩; refine ⟨_, rfl, ?_⟩; have n0_ := Aside0.mk (Kd.V_elder' (by (with_reducible repeat (first | apply Kd.V_alloc | apply Kd.V_drewN | apply Kd.V_drew)); exact HO1.out) (Kd.R_base ho0) hb); have n1_ := Aside0.mk (Kd.V_elder' (by (with_reducible repeat (first | apply Kd.V_alloc | apply Kd.V_drewN | apply Kd.V_drew)); exact HO2.out) (Kd.R_base ho0) hb); have n2_ := Aside0.mk (Kd.N_elder' (by (with_reducible repeat (first | apply Kd.N_alloc | apply Kd.N_drewN | apply Kd.N_drew)); exact HO455.out) (Kd.R_base ho0) hb); have n3_ := Aside0.mk (Kd.V_elder' (by (with_reducible repeat (first | apply Kd.V_alloc | apply Kd.V_drewN | apply Kd.V_drew)); exact HO460.out) (Kd.R_base ho0) hb); have n4_ := Aside0.mk (Kd.R_lower (Kd.R_newM (M := fun k_ => (w.heap.size ≤ k_)) ho0 (below_size (by repeat (first | (with_reducible first | exact HB.out | apply below_alloc | apply pw_below_drewN | apply below_drew1) | exact HB.out))) (fun k_ h_ => h_)) (below_size (by repeat (first | (with_reducible first | exact HB.out | apply below_alloc | apply pw_below_drewN | apply below_drew1) | exact HB.out)))); have n5_ := Aside0.mk (below_step (by repeat (first | (with_reducible first | exact HB.out | apply below_alloc | apply pw_below_drewN | apply below_drew1) | exact HB.out)) hb); clear HO1; clear HO2; clear HO455; clear HO460; clear HB; have HO1 := n0_; have HO2 := n1_; have HO455 := n2_; have HO460 := n3_; have HO463 := n4_; have HB := n5_; clear n0_ n1_ n2_ n3_ n4_ n5_; (try clear hb); (try clear hb2); (try clear hk); (try clear hi); (try clear ho0); obtain ⟨Ao23, co23, eo23⟩ := Kd.V_slice HO460.out; subst eo23; obtain ⟨Ao24, co24, eo24⟩ := Kd.R_slice HO463.out; subst eo24) | ((with_reducible refine gate_callee (f := 16) rfl ?_); refine goesL_ (some 17) rfl rfl Tryd.func16 (by kernel_rfl) rfl #[.slice Ao23 t458.length co23, .slice Ao24 t461.length co24] rfl (by (try simp only [List.map_toArray, List.map_cons, List.map_nil]); first | done | rfl | (simp only [List.length_drop, List.length_take]; rfl)) ?_; (with_reducible refine (filigreeref01_Same.calls k _ _ t458 _ _ t461 true _ ?side1 ?side2 ?side3 ?side4 A8.out).mono ?_); (case side1 => repeat (first | exact (Kd.V_reads' HO460.out).2.2 | (with_reducible refine Kd.C_alloc ?_ _) | (with_reducible refine Kd.C_drewN ?_ _) | (with_reducible refine Kd.C_drew ?_))); (case side2 => exact (Kd.V_reads' HO460.out).2.1); (case side3 => repeat (first | exact (Kd.R_reads' HO463.out).2.2 | (with_reducible refine Kd.C_alloc ?_ _) | (with_reducible refine Kd.C_drewN ?_ _) | (with_reducible refine Kd.C_drew ?_))); (case side4 => exact (Kd.R_reads' HO463.out).2.1); rintro e w' ⟨rfl, ⟨nd, rfl⟩⟩; refine ⟨_, rfl, ?_⟩) | (go_at_call 19; (with_reducible refine (natural_Norm.calls _ _ l1 t465 _ ?side1 ?side2 A10.out).mono ?_); (case side1 => repeat (first | exact (Kd.V_reads' HO1.out).2.2 | (with_reducible refine Kd.C_alloc ?_ _) | (with_reducible refine Kd.C_drewN ?_ _) | (with_reducible refine Kd.C_drew ?_))); (case side2 => exact (Kd.V_reads' HO1.out).2.1); rintro e w25 ⟨v466, rfl, ho0, hb⟩; have n0_ := Aside0.mk (Kd.V_elder' (by (with_reducible repeat (first | apply Kd.V_alloc | apply Kd.V_drewN | apply Kd.V_drew)); exact HO1.out) (Kd.R_base ho0) hb); have n1_ := Aside0.mk (Kd.V_elder' (by (with_reducible repeat (first | apply Kd.V_alloc | apply Kd.V_drewN | apply Kd.V_drew)); exact HO2.out) (Kd.R_base ho0) hb); have n2_ := Aside0.mk (Kd.N_elder' (by (with_reducible repeat (first | apply Kd.N_alloc | apply Kd.N_drewN | apply Kd.N_drew)); exact HO455.out) (Kd.R_base ho0) hb); have n3_ := Aside0.mk (Kd.V_elder' (by (with_reducible repeat (first | apply Kd.V_alloc | apply Kd.V_drewN | apply Kd.V_drew)); exact HO460.out) (Kd.R_base ho0) hb); have n4_ := Aside0.mk (Kd.R_elder' (by (with_reducible repeat (first | apply Kd.R_alloc | apply Kd.R_drewN | apply Kd.R_drew)); exact HO463.out) (Kd.R_base ho0) hb); have n5_ := Aside0.mk (Kd.R_lower (Kd.R_new' (Kd.R_newM (M := fun k_ => (w.heap.size ≤ k_)) ho0 (below_size (by repeat (first | (with_reducible first | exact HB.out | apply below_alloc | apply pw_below_drewN | apply below_drew1) | exact HB.out))) (fun k_ h_ => h_)) (Kd.R_lt (by (with_reducible repeat (first | apply Kd.R_alloc | apply Kd.R_drewN | apply Kd.R_drew)); exact HO463.out))) (below_size (by repeat (first | (with_reducible first | exact HB.out | apply below_alloc | apply pw_below_drewN | apply below_drew1) | exact HB.out)))); have n6_ := Aside0.mk (below_step (by repeat (first | (with_reducible first | exact HB.out | apply below_alloc | apply pw_below_drewN | apply below_drew1) | exact HB.out)) hb); clear HO1; clear HO2; clear HO455; clear HO460; clear HO463; clear HB; have HO1 := n0_; have HO2 := n1_; have HO455 := n2_; have HO460 := n3_; have HO463 := n4_; have HO467 := n5_; have HB := n6_; clear n0_ n1_ n2_ n3_ n4_ n5_ n6_; (try clear hb); (try clear hb2); (try clear hk); (try clear hi); (try clear ho0)) | (go_at_call 20; (with_reducible refine (filigreeref01_Norm.calls k _ _ l1 t468 _ ?side1 ?side2 A11.out).mono ?_); (case side1 => repeat (first | exact (Kd.V_reads' HO1.out).2.2 | (with_reducible refine Kd.C_alloc ?_ _) | (with_reducible refine Kd.C_drewN ?_ _) | (with_reducible refine Kd.C_drew ?_))); (case side2 => exact (Kd.V_reads' HO1.out).2.1); rintro e w26 ⟨v469, rfl, ho0, hb⟩; have n0_ := Aside0.mk (Kd.V_elder' (by (with_reducible repeat (first | apply Kd.V_alloc | apply Kd.V_drewN | apply Kd.V_drew)); exact HO1.out) (Kd.R_base ho0) hb); have n1_ := Aside0.mk (Kd.V_elder' (by (with_reducible repeat (first | apply Kd.V_alloc | apply Kd.V_drewN | apply Kd.V_drew)); exact HO2.out) (Kd.R_base ho0) hb); have n2_ := Aside0.mk (Kd.N_elder' (by (with_reducible repeat (first | apply Kd.N_alloc | apply Kd.N_drewN | apply Kd.N_drew)); exact HO455.out) (Kd.R_base ho0) hb); have n3_ := Aside0.mk (Kd.V_elder' (by (with_reducible repeat (first | apply Kd.V_alloc | apply Kd.V_drewN | apply Kd.V_drew)); exact HO460.out) (Kd.R_base ho0) hb); have n4_ := Aside0.mk (Kd.R_elder' (by (with_reducible repeat (first | apply Kd.R_alloc | apply Kd.R_drewN | apply Kd.R_drew)); exact HO463.out) (Kd.R_base ho0) hb); have n5_ := Aside0.mk (Kd.R_elder' (by (with_reducible repeat (first | apply Kd.R_alloc | apply Kd.R_drewN | apply Kd.R_drew)); exact HO467.out) (Kd.R_base ho0) hb); have n6_ := Aside0.mk (Kd.R_lower (Kd.R_new' (Kd.R_new' (Kd.R_newM (M := fun k_ => (w.heap.size ≤ k_)) ho0 (below_size (by repeat (first | (with_reducible first | exact HB.out | apply below_alloc | apply pw_below_drewN | apply below_drew1) | exact HB.out))) (fun k_ h_ => h_)) (Kd.R_lt (by (with_reducible repeat (first | apply Kd.R_alloc | apply Kd.R_drewN | apply Kd.R_drew)); exact HO463.out))) (Kd.R_lt (by (with_reducible repeat (first | apply Kd.R_alloc | apply Kd.R_drewN | apply Kd.R_drew)); exact HO467.out))) (below_size (by repeat (first | (with_reducible first | exact HB.out | apply below_alloc | apply pw_below_drewN | apply below_drew1) | exact HB.out)))); have n7_ := Aside0.mk (below_step (by repeat (first | (with_reducible first | exact HB.out | apply below_alloc | apply pw_below_drewN | apply below_drew1) | exact HB.out)) hb); clear HO1; clear HO2; clear HO455; clear HO460; clear HO463; clear HO467; clear HB; have HO1 := n0_; have HO2 := n1_; have HO455 := n2_; have HO460 := n3_; have HO463 := n4_; have HO467 := n5_; have HO470 := n6_; have HB := n7_; clear n0_ n1_ n2_ n3_ n4_ n5_ n6_ n7_; (try clear hb); (try clear hb2); (try clear hk); (try clear hi); (try clear ho0); obtain ⟨Ao27, co27, eo27⟩ := Kd.R_slice HO467.out; subst eo27; obtain ⟨Ao28, co28, eo28⟩ := Kd.R_slice HO470.out; subst eo28) | (go_at_call 16; (with_reducible refine (filigreeref01_Same.calls k _ _ t465 _ _ t468 true _ ?side1 ?side2 ?side3 ?side4 A12.out).mono ?_); (case side1 => repeat (first | exact (Kd.R_reads' HO467.out).2.2 | (with_reducible refine Kd.C_alloc ?_ _) | (with_reducible refine Kd.C_drewN ?_ _) | (with_reducible refine Kd.C_drew ?_))); (case side2 => exact (Kd.R_reads' HO467.out).2.1); (case side3 => repeat (first | exact (Kd.R_reads' HO470.out).2.2 | (with_reducible refine Kd.C_alloc ?_ _) | (with_reducible refine Kd.C_drewN ?_ _) | (with_reducible refine Kd.C_drew ?_))); (case side4 => exact (Kd.R_reads' HO470.out).2.1); rintro e w' ⟨rfl, ⟨nd, rfl⟩⟩) | (go_at_call 21; (with_reducible refine (natural_Cmp.calls _ _ l1 _ _ l2 t472 _ ?side1 ?side2 ?side3 ?side4 A14.out).mono ?_); (case side1 => repeat (first | exact (Kd.V_reads' HO1.out).2.2 | (with_reducible refine Kd.C_alloc ?_ _) | (with_reducible refine Kd.C_drewN ?_ _) | (with_reducible refine Kd.C_drew ?_))); (case side2 => exact (Kd.V_reads' HO1.out).2.1); (case side3 => repeat (first | exact (Kd.V_reads' HO2.out).2.2 | (with_reducible refine Kd.C_alloc ?_ _) | (with_reducible refine Kd.C_drewN ?_ _) | (with_reducible refine Kd.C_drew ?_))); (case side4 => exact (Kd.V_reads' HO2.out).2.1); rintro e w29 ⟨rfl, hb⟩; have n0_ := Aside0.mk (Kd.V_below (by (with_reducible repeat (first | apply Kd.V_alloc | apply Kd.V_drewN | apply Kd.V_drew)); exact HO1.out) hb); have n1_ := Aside0.mk (Kd.V_below (by (with_reducible repeat (first | apply Kd.V_alloc | apply Kd.V_drewN | apply Kd.V_drew)); exact HO2.out) hb); have n2_ := Aside0.mk (Kd.N_below (by (with_reducible repeat (first | apply Kd.N_alloc | apply Kd.N_drewN | apply Kd.N_drew)); exact HO455.out) hb); have n3_ := Aside0.mk (Kd.V_below (by (with_reducible repeat (first | apply Kd.V_alloc | apply Kd.V_drewN | apply Kd.V_drew)); exact HO460.out) hb); have n4_ := Aside0.mk (Kd.R_below (by (with_reducible repeat (first | apply Kd.R_alloc | apply Kd.R_drewN | apply Kd.R_drew)); exact HO463.out) hb); have n5_ := Aside0.mk (Kd.R_below (by (with_reducible repeat (first | apply Kd.R_alloc | apply Kd.R_drewN | apply Kd.R_drew)); exact HO467.out) hb); have n6_ := Aside0.mk (Kd.R_below (by (with_reducible repeat (first | apply Kd.R_alloc | apply Kd.R_drewN | apply Kd.R_drew)); exact HO470.out) hb); have n7_ := Aside0.mk (below_step (by repeat (first | (with_reducible first | exact HB.out | apply below_alloc | apply pw_below_drewN | apply below_drew1) | exact HB.out)) hb); clear HO1; clear HO2; clear HO455; clear HO460; clear HO463; clear HO467; clear HO470; clear HB; have HO1 := n0_; have HO2 := n1_; have HO455 := n2_; have HO460 := n3_; have HO463 := n4_; have HO467 := n5_; have HO470 := n6_; have HB := n7_; clear n0_ n1_ n2_ n3_ n4_ n5_ n6_ n7_; (try clear hb); (try clear hb2); (try clear hk); (try clear hi)) | (go_at_call 22; (with_reducible refine (filigreeref01_Cmp.calls k _ _ l1 _ _ l2 t473 _ ?side1 ?side2 ?side3 ?side4 A15.out).mono ?_); (case side1 => repeat (first | exact (Kd.V_reads' HO1.out).2.2 | (with_reducible refine Kd.C_alloc ?_ _) | (with_reducible refine Kd.C_drewN ?_ _) | (with_reducible refine Kd.C_drew ?_))); (case side2 => exact (Kd.V_reads' HO1.out).2.1); (case side3 => repeat (first | exact (Kd.V_reads' HO2.out).2.2 | (with_reducible refine Kd.C_alloc ?_ _) | (with_reducible refine Kd.C_drewN ?_ _) | (with_reducible refine Kd.C_drew ?_))); (case side4 => exact (Kd.V_reads' HO2.out).2.1); rintro e w30 ⟨rfl, hb⟩; have n0_ := Aside0.mk (Kd.V_below (by (with_reducible repeat (first | apply Kd.V_alloc | apply Kd.V_drewN | apply Kd.V_drew)); exact HO1.out) hb); have n1_ := Aside0.mk (Kd.V_below (by (with_reducible repeat (first | apply Kd.V_alloc | apply Kd.V_drewN | apply Kd.V_drew)); exact HO2.out) hb); have n2_ := Aside0.mk (Kd.N_below (by (with_reducible repeat (first | apply Kd.N_alloc | apply Kd.N_drewN | apply Kd.N_drew)); exact HO455.out) hb); have n3_ := Aside0.mk (Kd.V_below (by (with_reducible repeat (first | apply Kd.V_alloc | apply Kd.V_drewN | apply Kd.V_drew)); exact HO460.out) hb); have n4_ := Aside0.mk (Kd.R_below (by (with_reducible repeat (first | apply Kd.R_alloc | apply Kd.R_drewN | apply Kd.R_drew)); exact HO463.out) hb); have n5_ := Aside0.mk (Kd.R_below (by (with_reducible repeat (first | apply Kd.R_alloc | apply Kd.R_drewN | apply Kd.R_drew)); exact HO467.out) hb); have n6_ := Aside0.mk (Kd.R_below (by (with_reducible repeat (first | apply Kd.R_alloc | apply Kd.R_drewN | apply Kd.R_drew)); exact HO470.out) hb); have n7_ := Aside0.mk (below_step (by repeat (first | (with_reducible first | exact HB.out | apply below_alloc | apply pw_below_drewN | apply below_drew1) | exact HB.out)) hb); clear HO1; clear HO2; clear HO455; clear HO460; clear HO463; clear HO467; clear HO470; clear HB; have HO1 := n0_; have HO2 := n1_; have HO455 := n2_; have HO460 := n3_; have HO463 := n4_; have HO467 := n5_; have HO470 := n6_; have HB := n7_; clear n0_ n1_ n2_ n3_ n4_ n5_ n6_ n7_; (try clear hb); (try clear hb2); (try clear hk); (try clear hi)) | (go_at_call 15; (with_reducible refine (filigreelaw01_alive.calls k  t474 _ A17.out).mono ?_); rintro e w31 ⟨rfl, hb⟩; have n0_ := Aside0.mk (Kd.V_below (by (with_reducible repeat (first | apply Kd.V_alloc | apply Kd.V_drewN | apply Kd.V_drew)); exact HO1.out) hb); have n1_ := Aside0.mk (Kd.V_below (by (with_reducible repeat (first | apply Kd.V_alloc | apply Kd.V_drewN | apply Kd.V_drew)); exact HO2.out) hb); have n2_ := Aside0.mk (Kd.N_below (by (with_reducible repeat (first | apply Kd.N_alloc | apply Kd.N_drewN | apply Kd.N_drew)); exact HO455.out) hb); have n3_ := Aside0.mk (Kd.V_below (by (with_reducible repeat (first | apply Kd.V_alloc | apply Kd.V_drewN | apply Kd.V_drew)); exact HO460.out) hb); have n4_ := Aside0.mk (Kd.R_below (by (with_reducible repeat (first | apply Kd.R_alloc | apply Kd.R_drewN | apply Kd.R_drew)); exact HO463.out) hb); have n5_ := Aside0.mk (Kd.R_below (by (with_reducible repeat (first | apply Kd.R_alloc | apply Kd.R_drewN | apply Kd.R_drew)); exact HO467.out) hb); have n6_ := Aside0.mk (Kd.R_below (by (with_reducible repeat (first | apply Kd.R_alloc | apply Kd.R_drewN | apply Kd.R_drew)); exact HO470.out) hb); have n7_ := Aside0.mk (below_step (by repeat (first | (with_reducible first | exact HB.out | apply below_alloc | apply pw_below_drewN | apply below_drew1) | exact HB.out)) hb); clear HO1; clear HO2; clear HO455; clear HO460; clear HO463; clear HO467; clear HO470; clear HB; have HO1 := n0_; have HO2 := n1_; have HO455 := n2_; have HO460 := n3_; have HO463 := n4_; have HO467 := n5_; have HO470 := n6_; have HB := n7_; clear n0_ n1_ n2_ n3_ n4_ n5_ n6_ n7_; (try clear hb); (try clear hb2); (try clear hk); (try clear hi)))
          go_ret
          exact ⟨by first | rfl | (simp [errW_none, errW_some] <;> rfl) | (simp [*, errW_none, errW_some] <;> rfl), by repeat (first | (with_reducible first | exact HB.out | apply below_alloc | apply pw_below_drewN | apply below_drew1) | exact HB.out)⟩
        · rw [if_neg c16] at H
          have c16b0 : (t472 == t473) = false := beq_eq_false_iff_ne.mpr c16
          have c16b1 : (t472 != t473) = true := bne_iff_ne.mpr c16
          obtain rfl := Option.some.inj H
          go_enter Tryd.func3, Tryd.ntmps3
          go_wp2_with (first | ((with_reducible refine gate_dst (N := 9) rfl ?_); refine Kd.N_lit (Kd.slice 36 (Kd.int .u32)) _ 23 ?hg (N' := 9) ?hd (xs := ([l1, l2] : List (List Int))) (inner := [.slice A1 l1.length c1, .slice A2 l2.length c2]) (ok := (fun k_ => ((P1_ k_ ∨ P2_ k_) ∨ w.heap.size ≤ k_))) (okp := (fun k_ => ((P1_ k_ ∨ P2_ k_) ∨ w.heap.size ≤ k_))) ?hr ?hp (fun _ hk => hk) ((show ∀ k_, w.heap.size ≤ k_ → (fun k_ => ((P1_ k_ ∨ P2_ k_) ∨ w.heap.size ≤ k_)) k_ from fun k_ hk => (.inr (Nat.le_trans (below_size (by repeat (first | (with_reducible first | exact HB.out | apply below_alloc | apply pw_below_drewN | apply below_drew1) | exact HB.out))) hk))) _ (Nat.le_refl _)) (Below.refl _ _) (Nat.le_refl _) (by simp) ?_; (case hd => rfl); (case hg => rfl); (case hr => first | (go_simp; done) | (go_simp; rfl) | (go_simp; rw [show ∀ x : Int, IntKind.u32.wrap (IntKind.u8.wrap x) = x % 256 from fun x => (by show (x % 256) % 4294967296 = x % 256; omega)])); (case hp => exact (Reps.one (show Kd.FK (Kd.slice 36 (Kd.int .u32)) _ _ l1 [.slice A1 l1.length c1] from (Kd.FK_slice_mk (Kd.V_reads' (Kd.V_mono (ok' := (fun k_ => ((P1_ k_ ∨ P2_ k_) ∨ w.heap.size ≤ k_))) (HO1.out) (fun k_ hk => hk))).2.1 (Kd.V_F (Kd.V_mono (ok' := (fun k_ => ((P1_ k_ ∨ P2_ k_) ∨ w.heap.size ≤ k_))) (HO1.out) (fun k_ hk => hk))))) (Reps.one (show Kd.FK (Kd.slice 36 (Kd.int .u32)) _ _ l2 [.slice A2 l2.length c2] from (Kd.FK_slice_mk (Kd.V_reads' (Kd.V_mono (ok' := (fun k_ => ((P1_ k_ ∨ P2_ k_) ∨ w.heap.size ≤ k_))) (HO2.out) (fun k_ hk => hk))).2.1 (Kd.V_F (Kd.V_mono (ok' := (fun k_ => ((P1_ k_ ∨ P2_ k_) ∨ w.heap.size ≤ k_))) (HO2.out) (fun k_ hk => hk))))) (Reps.none _ _)))); intro v454 w32 ho33 hb hg_ hnew_; clear hg_ hnew_; (first | rw [← Ny453.out] at ho33 | (simp only [Int.reduceToNat] at ho33; rw [← Ny453.out] at ho33)); have n0_ := Aside0.mk (Kd.V_elder' (by (with_reducible repeat (first | apply Kd.V_alloc | apply Kd.V_drewN | apply Kd.V_drew)); exact HO1.out) (Kd.N_base ho33) hb); have n1_ := Aside0.mk (Kd.V_elder' (by (with_reducible repeat (first | apply Kd.V_alloc | apply Kd.V_drewN | apply Kd.V_drew)); exact HO2.out) (Kd.N_base ho33) hb); have n2_ := Aside0.mk (Kd.N_lower ho33 (below_size (by repeat (first | (with_reducible first | exact HB.out | apply below_alloc | apply pw_below_drewN | apply below_drew1) | exact HB.out)))); have n3_ := Aside0.mk (below_step (by repeat (first | (with_reducible first | exact HB.out | apply below_alloc | apply pw_below_drewN | apply below_drew1) | exact HB.out)) hb); clear HO1; clear HO2; clear HB; have HO1 := n0_; have HO2 := n1_; have HO455 := n2_; have HB := n3_; clear n0_ n1_ n2_ n3_; clear hb ho33; obtain ⟨Ao34, co34, eo34⟩ := Kd.N_slice HO455.out; subst eo34) | ((with_reducible refine gate_callee (f := 14) rfl ?_); refine goesL_ (some 10) rfl rfl Tryd.func14 (by kernel_rfl) rfl #[.slice Ao34 y453.length co34] rfl (by (try simp only [List.map_toArray, List.map_cons, List.map_nil]); first | done | rfl | (simp only [List.length_drop, List.length_take]; rfl)) ?_; (with_reducible refine (filigreelaw01_Light.calls k _ _ y453 true _ ?side1 ?side2 A4.out).mono ?_); (case side1 => repeat (first | exact (Kd.N_reads' HO455.out).2.2 | (with_reducible refine Kd.C_alloc ?_ _) | (with_reducible refine Kd.C_drewN ?_ _) | (with_reducible refine Kd.C_drew ?_))); (case side2 => exact (Kd.N_reads' HO455.out).2.1); rintro e w' ⟨rfl, ⟨nd, rfl⟩⟩; refine ⟨_, rfl, ?_⟩) | ((with_reducible refine gate_callee (f := 17) rfl ?_); refine goesL_ (some 14) rfl rfl Tryd.func17 (by kernel_rfl) rfl #[.int .u64 a0] rfl (by (try simp only [List.map_toArray, List.map_cons, List.map_nil]); first | done | rfl | (simp only [List.length_drop, List.length_take]; rfl)) ?_; (with_reducible refine (natural_Of.calls a0 t458 _ A6.out).mono ?_); rintro e w35 ⟨v459, rfl, ho0, hb⟩; refine ⟨_, rfl, ?_⟩; have n0_ := Aside0.mk (Kd.V_below (by (with_reducible repeat (first | apply Kd.V_alloc | apply Kd.V_drewN | apply Kd.V_drew)); exact HO1.out) hb); have n1_ := Aside0.mk (Kd.V_below (by (with_reducible repeat (first | apply Kd.V_alloc | apply Kd.V_drewN | apply Kd.V_drew)); exact HO2.out) hb); have n2_ := Aside0.mk (Kd.N_below (by (with_reducible repeat (first | apply Kd.N_alloc | apply Kd.N_drewN | apply Kd.N_drew)); exact HO455.out) hb); have n3_ := Aside0.mk (Kd.V_lower (Kd.V_mono (ok' := fun k_ => ((P1_ k_ ∨ P2_ k_) ∨ w.heap.size ≤ k_) ∧ some k_ ≠ (.slice Ao34 y453.length co34 : Value).ownBlock) ho0 (fun k_ hk_ => ⟨(.inr (Nat.le_trans (below_size (by repeat (first | (with_reducible first | exact HB.out | apply below_alloc | apply pw_below_drewN | apply below_drew1) | exact HB.out))) hk_)), (Kd.fresh' (Kd.N_lt (by (with_reducible repeat (first | apply Kd.N_alloc | apply Kd.N_drewN | apply Kd.N_drew)); exact HO455.out)) k_ hk_)⟩)) (below_size (by repeat (first | (with_reducible first | exact HB.out | apply below_alloc | apply pw_below_drewN | apply below_drew1) | exact HB.out)))); have n4_ := Aside0.mk (below_step (by repeat (first | (with_reducible first | exact HB.out | apply below_alloc | apply pw_below_drewN | apply below_drew1) | exact HB.out)) hb); clear HO1; clear HO2; clear HO455; clear HB; have HO1 := n0_; have HO2 := n1_; have HO455 := n2_; have HO460 := n3_; have HB := n4_; clear n0_ n1_ n2_ n3_ n4_; (try clear hb); (try clear hb2); (try clear hk); (try clear hi); (try clear ho0)) | ((with_reducible refine gate_callee (f := 18) rfl ?_); refine goesL_ (some 16) rfl rfl Tryd.func18 (by kernel_rfl) rfl #[.int .u64 a0] rfl (by (try simp only [List.map_toArray, List.map_cons, List.map_nil]); first | done | rfl | (simp only [List.length_drop, List.length_take]; rfl)) ?_; (with_reducible refine (filigreeref01_Of.calls k a0 t461 _ A7.out).mono ?_); rintro e w36 ⟨v462, rfl, ho0, hb⟩; refine ⟨_, rfl, ?_⟩; have n0_ := Aside0.mk (Kd.V_elder' (by (with_reducible repeat (first | apply Kd.V_alloc | apply Kd.V_drewN | apply Kd.V_drew)); exact HO1.out) (Kd.R_base ho0) hb); have n1_ := Aside0.mk (Kd.V_elder' (by (with_reducible repeat (first | apply Kd.V_alloc | apply Kd.V_drewN | apply Kd.V_drew)); exact HO2.out) (Kd.R_base ho0) hb); have n2_ := Aside0.mk (Kd.N_elder' (by (with_reducible repeat (first | apply Kd.N_alloc | apply Kd.N_drewN | apply Kd.N_drew)); exact HO455.out) (Kd.R_base ho0) hb); have n3_ := Aside0.mk (Kd.V_elder' (by (with_reducible repeat (first | apply Kd.V_alloc | apply Kd.V_drewN | apply Kd.V_drew)); exact HO460.out) (Kd.R_base ho0) hb); have n4_ := Aside0.mk (Kd.R_lower (Kd.R_newM (M := fun k_ => (w.heap.size ≤ k_)) ho0 (below_size (by repeat (first | (with_reducible first | exact HB.out | apply below_alloc | apply pw_below_drewN | apply below_drew1) | exact HB.out))) (fun k_ h_ => h_)) (below_size (by repeat (first | (with_reducible first | exact HB.out | apply below_alloc | apply pw_below_drewN | apply below_drew1) | exact HB.out)))); have n5_ := Aside0.mk (below_step (by repeat (first | (with_reducible first | exact HB.out | apply below_alloc | apply pw_below_drewN | apply below_drew1) | exact HB.out)) hb); clear HO1; clear HO2; clear HO455; clear HO460; clear HB; have HO1 := n0_; have HO2 := n1_; have HO455 := n2_; have HO460 := n3_; have HO463 := n4_; have HB := n5_; clear n0_ n1_ n2_ n3_ n4_ n5_; (try clear hb); (try clear hb2); (try clear hk); (try clear hi); (try clear ho0); obtain ⟨Ao37, co37, eo37⟩ := Kd.V_slice HO460.out; subst eo37; obtain ⟨Ao38, co38, eo38⟩ := Kd.R_slice HO463.out; subst eo38) | ((with_reducible refine gate_callee (f := 16) rfl ?_); refine goesL_ (some 17) rfl rfl Tryd.func16 (by kernel_rfl) rfl #[.slice Ao37 t458.length co37, .slice Ao38 t461.length co38] rfl (by (try simp only [List.map_toArray, List.map_cons, List.map_nil]); first | done | rfl | (simp only [List.length_drop, List.length_take]; rfl)) ?_; (with_reducible refine (filigreeref01_Same.calls k _ _ t458 _ _ t461 true _ ?side1 ?side2 ?side3 ?side4 A8.out).mono ?_); (case side1 => repeat (first | exact (Kd.V_reads' HO460.out).2.2 | (with_reducible refine Kd.C_alloc ?_ _) | (with_reducible refine Kd.C_drewN ?_ _) | (with_reducible refine Kd.C_drew ?_))); (case side2 => exact (Kd.V_reads' HO460.out).2.1); (case side3 => repeat (first | exact (Kd.R_reads' HO463.out).2.2 | (with_reducible refine Kd.C_alloc ?_ _) | (with_reducible refine Kd.C_drewN ?_ _) | (with_reducible refine Kd.C_drew ?_))); (case side4 => exact (Kd.R_reads' HO463.out).2.1); rintro e w' ⟨rfl, ⟨nd, rfl⟩⟩; refine ⟨_, rfl, ?_⟩) | (go_at_call 19; (with_reducible refine (natural_Norm.calls _ _ l1 t465 _ ?side1 ?side2 A10.out).mono ?_); (case side1 => repeat (first | exact (Kd.V_reads' HO1.out).2.2 | (with_reducible refine Kd.C_alloc ?_ _) | (with_reducible refine Kd.C_drewN ?_ _) | (with_reducible refine Kd.C_drew ?_))); (case side2 => exact (Kd.V_reads' HO1.out).2.1); rintro e w39 ⟨v466, rfl, ho0, hb⟩; have n0_ := Aside0.mk (Kd.V_elder' (by (with_reducible repeat (first | apply Kd.V_alloc | apply Kd.V_drewN | apply Kd.V_drew)); exact HO1.out) (Kd.R_base ho0) hb); have n1_ := Aside0.mk (Kd.V_elder' (by (with_reducible repeat (first | apply Kd.V_alloc | apply Kd.V_drewN | apply Kd.V_drew)); exact HO2.out) (Kd.R_base ho0) hb); have n2_ := Aside0.mk (Kd.N_elder' (by (with_reducible repeat (first | apply Kd.N_alloc | apply Kd.N_drewN | apply Kd.N_drew)); exact HO455.out) (Kd.R_base ho0) hb); have n3_ := Aside0.mk (Kd.V_elder' (by (with_reducible repeat (first | apply Kd.V_alloc | apply Kd.V_drewN | apply Kd.V_drew)); exact HO460.out) (Kd.R_base ho0) hb); have n4_ := Aside0.mk (Kd.R_elder' (by (with_reducible repeat (first | apply Kd.R_alloc | apply Kd.R_drewN | apply Kd.R_drew)); exact HO463.out) (Kd.R_base ho0) hb); have n5_ := Aside0.mk (Kd.R_lower (Kd.R_new' (Kd.R_newM (M := fun k_ => (w.heap.size ≤ k_)) ho0 (below_size (by repeat (first | (with_reducible first | exact HB.out | apply below_alloc | apply pw_below_drewN | apply below_drew1) | exact HB.out))) (fun k_ h_ => h_)) (Kd.R_lt (by (with_reducible repeat (first | apply Kd.R_alloc | apply Kd.R_drewN | apply Kd.R_drew)); exact HO463.out))) (below_size (by repeat (first | (with_reducible first | exact HB.out | apply below_alloc | apply pw_below_drewN | apply below_drew1) | exact HB.out)))); have n6_ := Aside0.mk (below_step (by repeat (first | (with_reducible first | exact HB.out | apply below_alloc | apply pw_below_drewN | apply below_drew1) | exact HB.out)) hb); clear HO1; clear HO2; clear HO455; clear HO460; clear HO463; clear HB; have HO1 := n0_; have HO2 := n1_; have HO455 := n2_; have HO460 := n3_; have HO463 := n4_; have HO467 := n5_; have HB := n6_; clear n0_ n1_ n2_ n3_ n4_ n5_ n6_; (try clear hb); (try clear hb2); (try clear hk); (try clear hi); (try clear ho0)) | (go_at_call 20; (with_reducible refine (filigreeref01_Norm.calls k _ _ l1 t468 _ ?side1 ?side2 A11.out).mono ?_); (case side1 => repeat (first | exact (Kd.V_reads' HO1.out).2.2 | (with_reducible refine Kd.C_alloc ?_ _) | (with_reducible refine Kd.C_drewN ?_ _) | (with_reducible refine Kd.C_drew ?_))); (case side2 => exact (Kd.V_reads' HO1.out).2.1); rintro e w40 ⟨v469, rfl, ho0, hb⟩; have n0_ := Aside0.mk (Kd.V_elder' (by (with_reducible repeat (first | apply Kd.V_alloc | apply Kd.V_drewN | apply Kd.V_drew)); exact HO1.out) (Kd.R_base ho0) hb); have n1_ := Aside0.mk (Kd.V_elder' (by (with_reducible repeat (first | apply Kd.V_alloc | apply Kd.V_drewN | apply Kd.V_drew)); exact HO2.out) (Kd.R_base ho0) hb); have n2_ := Aside0.mk (Kd.N_elder' (by (with_reducible repeat (first | apply Kd.N_alloc | apply Kd.N_drewN | apply Kd.N_drew)); exact HO455.out) (Kd.R_base ho0) hb); have n3_ := Aside0.mk (Kd.V_elder' (by (with_reducible repeat (first | apply Kd.V_alloc | apply Kd.V_drewN | apply Kd.V_drew)); exact HO460.out) (Kd.R_base ho0) hb); have n4_ := Aside0.mk (Kd.R_elder' (by (with_reducible repeat (first | apply Kd.R_alloc | apply Kd.R_drewN | apply Kd.R_drew)); exact HO463.out) (Kd.R_base ho0) hb); have n5_ := Aside0.mk (Kd.R_elder' (by (with_reducible repeat (first | apply Kd.R_alloc | apply Kd.R_drewN | apply Kd.R_drew)); exact HO467.out) (Kd.R_base ho0) hb); have n6_ := Aside0.mk (Kd.R_lower (Kd.R_new' (Kd.R_new' (Kd.R_newM (M := fun k_ => (w.heap.size ≤ k_)) ho0 (below_size (by repeat (first | (with_reducible first | exact HB.out | apply below_alloc | apply pw_below_drewN | apply below_drew1) | exact HB.out))) (fun k_ h_ => h_)) (Kd.R_lt (by (with_reducible repeat (first | apply Kd.R_alloc | apply Kd.R_drewN | apply Kd.R_drew)); exact HO463.out))) (Kd.R_lt (by (with_reducible repeat (first | apply Kd.R_alloc | apply Kd.R_drewN | apply Kd.R_drew)); exact HO467.out))) (below_size (by repeat (first | (with_reducible first | exact HB.out | apply below_alloc | apply pw_below_drewN | apply below_drew1) | exact HB.out)))); have n7_ := Aside0.mk (below_step (by repeat (first | (with_reducible first | exact HB.out | apply below_alloc | apply pw_below_drewN | apply below_drew1) | exact HB.out)) hb); clear HO1; clear HO2; clear HO455; clear HO460; clear HO463; clear HO467; clear HB; have HO1 := n0_; have HO2 := n1_; have HO455 := n2_; have HO460 := n3_; have HO463 := n4_; have HO467 := n5_; have HO470 := n6_; have HB := n7_; clear n0_ n1_ n2_ n3_ n4_ n5_ n6_ n7_; (try clear hb); (try clear hb2); (try clear hk); (try clear hi); (try clear ho0); obtain ⟨Ao41, co41, eo41⟩ := Kd.R_slice HO467.out; subst eo41; obtain ⟨Ao42, co42, eo42⟩ := Kd.R_slice HO470.out; subst eo42) | (go_at_call 16; (with_reducible refine (filigreeref01_Same.calls k _ _ t465 _ _ t468 true _ ?side1 ?side2 ?side3 ?side4 A12.out).mono ?_); (case side1 => repeat (first | exact (Kd.R_reads' HO467.out).2.2 | (with_reducible refine Kd.C_alloc ?_ _) | (with_reducible refine Kd.C_drewN ?_ _) | (with_reducible refine Kd.C_drew ?_))); (case side2 => exact (Kd.R_reads' HO467.out).2.1); (case side3 => repeat (first | exact (Kd.R_reads' HO470.out).2.2 | (with_reducible refine Kd.C_alloc ?_ _) | (with_reducible refine Kd.C_drewN ?_ _) | (with_reducible refine Kd.C_drew ?_))); (case side4 => exact (Kd.R_reads' HO470.out).2.1); rintro e w' ⟨rfl, ⟨nd, rfl⟩⟩) | (go_at_call 21; (with_reducible refine (natural_Cmp.calls _ _ l1 _ _ l2 t472 _ ?side1 ?side2 ?side3 ?side4 A14.out).mono ?_); (case side1 => repeat (first | exact (Kd.V_reads' HO1.out).2.2 | (with_reducible refine Kd.C_alloc ?_ _) | (with_reducible refine Kd.C_drewN ?_ _) | (with_reducible refine Kd.C_drew ?_))); (case side2 => exact (Kd.V_reads' HO1.out).2.1); (case side3 => repeat (first | exact (Kd.V_reads' HO2.out).2.2 | (with_reducible refine Kd.C_alloc ?_ _) | (with_reducible refine Kd.C_drewN ?_ _) | (with_reducible refine Kd.C_drew ?_))); (case side4 => exact (Kd.V_reads' HO2.out).2.1); rintro e w43 ⟨rfl, hb⟩; have n0_ := Aside0.mk (Kd.V_below (by (with_reducible repeat (first | apply Kd.V_alloc | apply Kd.V_drewN | apply Kd.V_drew)); exact HO1.out) hb); have n1_ := Aside0.mk (Kd.V_below (by (with_reducible repeat (first | apply Kd.V_alloc | apply Kd.V_drewN | apply Kd.V_drew)); exact HO2.out) hb); have n2_ := Aside0.mk (Kd.N_below (by (with_reducible repeat (first | apply Kd.N_alloc | apply Kd.N_drewN | apply Kd.N_drew)); exact HO455.out) hb); have n3_ := Aside0.mk (Kd.V_below (by (with_reducible repeat (first | apply Kd.V_alloc | apply Kd.V_drewN | apply Kd.V_drew)); exact HO460.out) hb); have n4_ := Aside0.mk (Kd.R_below (by (with_reducible repeat (first | apply Kd.R_alloc | apply Kd.R_drewN | apply Kd.R_drew)); exact HO463.out) hb); have n5_ := Aside0.mk (Kd.R_below (by (with_reducible repeat (first | apply Kd.R_alloc | apply Kd.R_drewN | apply Kd.R_drew)); exact HO467.out) hb); have n6_ := Aside0.mk (Kd.R_below (by (with_reducible repeat (first | apply Kd.R_alloc | apply Kd.R_drewN | apply Kd.R_drew)); exact HO470.out) hb); have n7_ := Aside0.mk (below_step (by repeat (first | (with_reducible first | exact HB.out | apply below_alloc | apply pw_below_drewN | apply below_drew1) | exact HB.out)) hb); clear HO1; clear HO2; clear HO455; clear HO460; clear HO463; clear HO467; clear HO470; clear HB; have HO1 := n0_; have HO2 := n1_; have HO455 := n2_; have HO460 := n3_; have HO463 := n4_; have HO467 := n5_; have HO470 := n6_; have HB := n7_; clear n0_ n1_ n2_ n3_ n4_ n5_ n6_ n7_; (try clear hb); (try clear hb2); (try clear hk); (try clear hi)) | (go_at_call 22; (with_reducible refine (filigreeref01_Cmp.calls k _ _ l1 _ _ l2 t473 _ ?side1 ?side2 ?side3 ?side4 A15.out).mono ?_); (case side1 => repeat (first | exact (Kd.V_reads' HO1.out).2.2 | (with_reducible refine Kd.C_alloc ?_ _) | (with_reducible refine Kd.C_drewN ?_ _) | (with_reducible refine Kd.C_drew ?_))); (case side2 => exact (Kd.V_reads' HO1.out).2.1); (case side3 => repeat (first | exact (Kd.V_reads' HO2.out).2.2 | (with_reducible refine Kd.C_alloc ?_ _) | (with_reducible refine Kd.C_drewN ?_ _) | (with_reducible refine Kd.C_drew ?_))); (case side4 => exact (Kd.V_reads' HO2.out).2.1); rintro e w44 ⟨rfl, hb⟩; have n0_ := Aside0.mk (Kd.V_below (by (with_reducible repeat (first | apply Kd.V_alloc | apply Kd.V_drewN | apply Kd.V_drew)); exact HO1.out) hb); have n1_ := Aside0.mk (Kd.V_below (by (with_reducible repeat (first | apply Kd.V_alloc | apply Kd.V_drewN | apply Kd.V_drew)); exact HO2.out) hb); have n2_ := Aside0.mk (Kd.N_below (by (with_reducible repeat (first | apply Kd.N_alloc | apply Kd.N_drewN | apply Kd.N_drew)); exact HO455.out) hb); have n3_ := Aside0.mk (Kd.V_below (by (with_reducible repeat (first | apply Kd.V_alloc | apply Kd.V_drewN | apply Kd.V_drew)); exact HO460.out) hb); have n4_ := Aside0.mk (Kd.R_below (by (with_reducible repeat (first | apply Kd.R_alloc | apply Kd.R_drewN | apply Kd.R_drew)); exact HO463.out) hb); have n5_ := Aside0.mk (Kd.R_below (by (with_reducible repeat (first | apply Kd.R_alloc | apply Kd.R_drewN | apply Kd.R_drew)); exact HO467.out) hb); have n6_ := Aside0.mk (Kd.R_below (by (with_reducible repeat (first | apply Kd.R_alloc | apply Kd.R_drewN | apply Kd.R_drew)); exact HO470.out) hb); have n7_ := Aside0.mk (below_step (by repeat (first | (with_reducible first | exact HB.out | apply below_alloc | apply pw_below_drewN | apply below_drew1) | exact HB.out)) hb); clear HO1; clear HO2; clear HO455; clear HO460; clear HO463; clear HO467; clear HO470; clear HB; have HO1 := n0_; have HO2 := n1_; have HO455 := n2_; have HO460 := n3_; have HO463 := n4_; have HO467 := n5_; have HO470 := n6_; have HB := n7_; clear n0_ n1_ n2_ n3_ n4_ n5_ n6_ n7_; (try clear hb); (try clear hb2); (try clear hk); (try clear hi)))
          go_ret
          exact ⟨by first | rfl | (simp [errW_none, errW_some] <;> rfl) | (simp [*, errW_none, errW_some] <;> rfl), by repeat (first | (with_reducible first | exact HB.out | apply below_alloc | apply pw_below_drewN | apply below_drew1) | exact HB.out)⟩
      · replace c13 := Bool.eq_false_iff.mpr c13
        subst c13
        have H1 : (some false) = some r := by rw [if_neg (show ¬ (false = true) by decide)] at H; exact H
        clear H
        have H := H1
        clear H1
        exact absurd ((Option.some.inj H).trans HRT.out) (by decide)
    · replace c9 := Bool.eq_false_iff.mpr c9
      subst c9
      have H1 : (some false) = some r := by rw [if_neg (show ¬ (false = true) by decide)] at H; exact H
      clear H
      have H := H1
      clear H1
      exact absurd ((Option.some.inj H).trans HRT.out) (by decide)
  · replace c5 := Bool.eq_false_iff.mpr c5
    subst c5
    have H1 : ((filigreelaw01_alive.f k).bind fun t457 => (some t457)) = some r := by rw [if_neg (show ¬ (false = true) by decide)] at H; exact H
    clear H
    have H := H1
    clear H1
    replace H := Option.bind_eq_some_iff.mp H
    obtain ⟨t457, A630, H⟩ := H
    replace H : (some t457) = some r := H
    have A63 := Aside0.mk A630
    clear A630
    obtain rfl := Option.some.inj H
    go_enter Tryd.func3, Tryd.ntmps3
    go_wp2_with (first | ((with_reducible refine gate_dst (N := 9) rfl ?_); refine Kd.N_lit (Kd.slice 36 (Kd.int .u32)) _ 23 ?hg (N' := 9) ?hd (xs := ([l1, l2] : List (List Int))) (inner := [.slice A1 l1.length c1, .slice A2 l2.length c2]) (ok := (fun k_ => ((P1_ k_ ∨ P2_ k_) ∨ w.heap.size ≤ k_))) (okp := (fun k_ => ((P1_ k_ ∨ P2_ k_) ∨ w.heap.size ≤ k_))) ?hr ?hp (fun _ hk => hk) ((show ∀ k_, w.heap.size ≤ k_ → (fun k_ => ((P1_ k_ ∨ P2_ k_) ∨ w.heap.size ≤ k_)) k_ from fun k_ hk => (.inr (Nat.le_trans (below_size (by repeat (first | (with_reducible first | exact HB.out | apply below_alloc | apply pw_below_drewN | apply below_drew1) | exact HB.out))) hk))) _ (Nat.le_refl _)) (Below.refl _ _) (Nat.le_refl _) (by simp) ?_; (case hd => rfl); (case hg => rfl); (case hr => first | (go_simp; done) | (go_simp; rfl) | (go_simp; rw [show ∀ x : Int, IntKind.u32.wrap (IntKind.u8.wrap x) = x % 256 from fun x => (by show (x % 256) % 4294967296 = x % 256; omega)])); (case hp => exact (Reps.one (show Kd.FK (Kd.slice 36 (Kd.int .u32)) _ _ l1 [.slice A1 l1.length c1] from (Kd.FK_slice_mk (Kd.V_reads' (Kd.V_mono (ok' := (fun k_ => ((P1_ k_ ∨ P2_ k_) ∨ w.heap.size ≤ k_))) (HO1.out) (fun k_ hk => hk))).2.1 (Kd.V_F (Kd.V_mono (ok' := (fun k_ => ((P1_ k_ ∨ P2_ k_) ∨ w.heap.size ≤ k_))) (HO1.out) (fun k_ hk => hk))))) (Reps.one (show Kd.FK (Kd.slice 36 (Kd.int .u32)) _ _ l2 [.slice A2 l2.length c2] from (Kd.FK_slice_mk (Kd.V_reads' (Kd.V_mono (ok' := (fun k_ => ((P1_ k_ ∨ P2_ k_) ∨ w.heap.size ≤ k_))) (HO2.out) (fun k_ hk => hk))).2.1 (Kd.V_F (Kd.V_mono (ok' := (fun k_ => ((P1_ k_ ∨ P2_ k_) ∨ w.heap.size ≤ k_))) (HO2.out) (fun k_ hk => hk))))) (Reps.none _ _)))); intro v454 w64 ho65 hb hg_ hnew_; clear hg_ hnew_; (first | rw [← Ny453.out] at ho65 | (simp only [Int.reduceToNat] at ho65; rw [← Ny453.out] at ho65)); have n0_ := Aside0.mk (Kd.V_elder' (by (with_reducible repeat (first | apply Kd.V_alloc | apply Kd.V_drewN | apply Kd.V_drew)); exact HO1.out) (Kd.N_base ho65) hb); have n1_ := Aside0.mk (Kd.V_elder' (by (with_reducible repeat (first | apply Kd.V_alloc | apply Kd.V_drewN | apply Kd.V_drew)); exact HO2.out) (Kd.N_base ho65) hb); have n2_ := Aside0.mk (Kd.N_lower ho65 (below_size (by repeat (first | (with_reducible first | exact HB.out | apply below_alloc | apply pw_below_drewN | apply below_drew1) | exact HB.out)))); have n3_ := Aside0.mk (below_step (by repeat (first | (with_reducible first | exact HB.out | apply below_alloc | apply pw_below_drewN | apply below_drew1) | exact HB.out)) hb); clear HO1; clear HO2; clear HB; have HO1 := n0_; have HO2 := n1_; have HO455 := n2_; have HB := n3_; clear n0_ n1_ n2_ n3_; clear hb ho65; obtain ⟨Ao66, co66, eo66⟩ := Kd.N_slice HO455.out; subst eo66) | ((with_reducible refine gate_callee (f := 14) rfl ?_); refine goesL_ (some 10) rfl rfl Tryd.func14 (by kernel_rfl) rfl #[.slice Ao66 y453.length co66] rfl (by (try simp only [List.map_toArray, List.map_cons, List.map_nil]); first | done | rfl | (simp only [List.length_drop, List.length_take]; rfl)) ?_; (with_reducible refine (filigreelaw01_Light.calls k _ _ y453 false _ ?side1 ?side2 A4.out).mono ?_); (case side1 => repeat (first | exact (Kd.N_reads' HO455.out).2.2 | (with_reducible refine Kd.C_alloc ?_ _) | (with_reducible refine Kd.C_drewN ?_ _) | (with_reducible refine Kd.C_drew ?_))); (case side2 => exact (Kd.N_reads' HO455.out).2.1); rintro e w' ⟨rfl, ⟨nd, rfl⟩⟩; refine ⟨_, rfl, ?_⟩) | ((with_reducible refine gate_callee (f := 15) rfl ?_); refine goesL_ (some 12) rfl rfl Tryd.func15 (by kernel_rfl) rfl #[] rfl (by (try simp only [List.map_toArray, List.map_cons, List.map_nil]); first | done | rfl | (simp only [List.length_drop, List.length_take]; rfl)) ?_; (with_reducible refine (filigreelaw01_alive.calls k  t457 _ A63.out).mono ?_); rintro e w67 ⟨rfl, hb⟩; refine ⟨_, rfl, ?_⟩; have n0_ := Aside0.mk (Kd.V_below (by (with_reducible repeat (first | apply Kd.V_alloc | apply Kd.V_drewN | apply Kd.V_drew)); exact HO1.out) hb); have n1_ := Aside0.mk (Kd.V_below (by (with_reducible repeat (first | apply Kd.V_alloc | apply Kd.V_drewN | apply Kd.V_drew)); exact HO2.out) hb); have n2_ := Aside0.mk (Kd.N_below (by (with_reducible repeat (first | apply Kd.N_alloc | apply Kd.N_drewN | apply Kd.N_drew)); exact HO455.out) hb); have n3_ := Aside0.mk (below_step (by repeat (first | (with_reducible first | exact HB.out | apply below_alloc | apply pw_below_drewN | apply below_drew1) | exact HB.out)) hb); clear HO1; clear HO2; clear HO455; clear HB; have HO1 := n0_; have HO2 := n1_; have HO455 := n2_; have HB := n3_; clear n0_ n1_ n2_ n3_; (try clear hb); (try clear hb2); (try clear hk); (try clear hi)))
    go_ret
    exact ⟨by first | rfl | (simp [errW_none, errW_some] <;> rfl) | (simp [*, errW_none, errW_some] <;> rfl), by repeat (first | (with_reducible first | exact HB.out | apply below_alloc | apply pw_below_drewN | apply below_drew1) | exact HB.out)⟩

end Go.Proofs.YtihlelniaiadgaaDoor.A
/- The plain laws of limbs: the value of a row of limbs, its normal form, what the document's answer and the program's small functions make of it. -/
namespace Go.Proofs.YtihlelniaiadgaaDoor.A
open Go Go.RowKit Go.Proofs.YtihlelniaiadgaaDoorW.PrintWords Go.Proofs.YtihlelniaiadgaaDoorW.PrintLast Go.Proofs.YtihlelniaiadgaaDoorW.PrintMore

/-- The number that limbs stand for, the lowest first. -/
def val : List Int → Int
  | [] => 0
  | x :: r => x + 4294967296 * val r
def Limbs (l : List Int) : Prop := ∀ x ∈ l, 0 ≤ x ∧ x < 4294967296
theorem w64 {n : Int} (h : -9223372036854775808 ≤ n) (h' : n ≤ 9223372036854775807) : wrap64 n = n := by unfold wrap64; omega
theorem limbs_of_wf {l : List Int} (h : ∀ x ∈ l, (Lit.int .u32 x).wf = true) : Limbs l := fun x hx => by
  have := Go.bounds_u32 (h x hx)
  omega
theorem Limbs.nil : Limbs [] := fun _ h => by cases h
theorem Limbs.cons {x : Int} {l : List Int} (h : Limbs (x :: l)) : (0 ≤ x ∧ x < 4294967296) ∧ Limbs l := ⟨h x (List.mem_cons_self ..), fun y hy => h y (List.mem_cons_of_mem _ hy)⟩
theorem Limbs.mk {x : Int} {l : List Int} (h0 : 0 ≤ x) (h1 : x < 4294967296) (h : Limbs l) : Limbs (x :: l) := fun y hy => by
  rcases List.mem_cons.1 hy with rfl | hy
  · exact ⟨h0, h1⟩
  · exact h y hy
theorem Limbs.take {l : List Int} (h : Limbs l) (n : Nat) : Limbs (l.take n) := fun x hx => h x (List.mem_of_mem_take hx)
theorem getD_lt (l : List Int) {n : Nat} (h : n < l.length) : l.getD n 0 = l[n] := by rw [List.getD_eq_getElem?_getD, List.getElem?_eq_getElem h, Option.getD_some]
theorem getD_ge (l : List Int) {n : Nat} (h : l.length ≤ n) : l.getD n 0 = 0 := by rw [List.getD_eq_getElem?_getD, List.getElem?_eq_none h, Option.getD_none]
theorem Limbs.getD {l : List Int} (h : Limbs l) (n : Nat) : 0 ≤ l.getD n 0 ∧ l.getD n 0 < 4294967296 := by
  by_cases hn : n < l.length
  · rw [getD_lt _ hn]; exact h _ (List.getElem_mem hn)
  · rw [getD_ge _ (by omega)]; omega
theorem val_append (a b : List Int) : val (a ++ b) = val a + 4294967296 ^ a.length * val b := by
  induction a with
  | nil => simp [val]
  | cons x a ih => simp only [List.cons_append, val, ih, List.length_cons, Int.pow_succ]; rw [Int.mul_add, ← Int.mul_assoc, Int.mul_comm 4294967296 (4294967296 ^ a.length)]; omega
theorem val_nonneg {l : List Int} (h : Limbs l) : 0 ≤ val l := by
  induction l with
  | nil => simp [val]
  | cons x l ih => have := h.cons; have := ih this.2; simp only [val]; omega
theorem val_lt {l : List Int} (h : Limbs l) : val l < 4294967296 ^ l.length := by
  induction l with
  | nil => simp [val]
  | cons x l ih =>
    have h1 := h.cons
    have h2 := ih h1.2
    simp only [val, List.length_cons, Int.pow_succ]
    omega

/-- No limb that is nought at the top. -/
def Trim (l : List Int) : Prop := l = [] ∨ l.getD (l.length - 1) 0 ≠ 0
theorem Trim.tail {x : Int} {l : List Int} (h : Trim (x :: l)) : Trim l := by
  rcases l with _ | ⟨y, l⟩
  · exact .inl rfl
  · rcases h with h | h
    · cases h
    · exact .inr (by simpa using h)
theorem val_pos {l : List Int} (h : Limbs l) (ht : Trim l) (hn : l ≠ []) : 0 < val l := by
  induction l with
  | nil => exact absurd rfl hn
  | cons x l ih =>
    have h1 := h.cons
    rcases l with _ | ⟨y, l⟩
    · rcases ht with ht | ht
      · cases ht
      · simp [val] at ht ⊢; omega
    · have := ih h1.2 ht.tail (by simp)
      simp only [val] at this ⊢
      omega
theorem val_inj {a : List Int} : ∀ {b : List Int}, Limbs a → Trim a → Limbs b → Trim b → val a = val b → a = b := by
  induction a with
  | nil =>
    intro b _ _ hb tb h
    by_cases hn : b = []
    · exact hn.symm
    · have := val_pos hb tb hn
      simp only [val] at h
      omega
  | cons x a ih =>
    intro b ha ta hb tb h
    rcases b with _ | ⟨y, b⟩
    · have := val_pos ha ta (by simp)
      simp only [val] at h this
      omega
    · have h1 := ha.cons
      have h2 := hb.cons
      simp only [val] at h
      have h3 : x = y := by omega
      have h4 : val a = val b := by omega
      rw [h3, ih h1.2 ta.tail h2.2 tb.tail h4]

theorem cutLen_trim (l : List Int) : ∀ n, cutLen l n = 0 ∨ l.getD (cutLen l n - 1) 0 ≠ 0
  | 0 => .inl rfl
  | n + 1 => by
    simp only [cutLen]
    split
    · exact cutLen_trim l n
    · rename_i h
      exact .inr (by simpa using h)
theorem val_cutLen (l : List Int) : ∀ n, n ≤ l.length → val (l.take (cutLen l n)) = val (l.take n)
  | 0, _ => by simp [cutLen]
  | n + 1, h => by
    simp only [cutLen]
    split
    · rename_i h0
      rw [val_cutLen l n (by omega), List.take_succ_eq_append_getElem (by omega), val_append]
      rw [getD_lt _ (by omega)] at h0
      simp [val, h0]
    · rfl
/-- A row of limbs without the noughts at the top. -/
def cut (l : List Int) : List Int := l.take (cutLen l l.length)
theorem cut_length (l : List Int) : (cut l).length ≤ l.length := by unfold cut; rw [List.length_take]; omega
theorem cut_len (l : List Int) : (cut l).length = cutLen l l.length := by have := cutLen_le l l.length; unfold cut; rw [List.length_take]; omega
theorem cut_limbs {l : List Int} (h : Limbs l) : Limbs (cut l) := h.take _
theorem cut_val (l : List Int) : val (cut l) = val l := by unfold cut; rw [val_cutLen l _ (Nat.le_refl _), List.take_length]
theorem cut_trim (l : List Int) : Trim (cut l) := by
  have h1 := cut_len l
  rcases cutLen_trim l l.length with h | h
  · exact .inl (List.eq_nil_of_length_eq_zero (by omega))
  · by_cases h0 : cutLen l l.length = 0
    · exact .inl (List.eq_nil_of_length_eq_zero (by omega))
    · refine .inr ?_
      rw [h1]
      unfold cut
      rw [List.getD_eq_getElem?_getD, List.getElem?_take, if_pos (by omega), ← List.getD_eq_getElem?_getD]
      exact h
/-- The normal form is one. -/
theorem norm_eq {a l : List Int} (ha : Limbs a) (ta : Trim a) (hl : Limbs l) (h : val a = val l) : a = cut l := val_inj ha ta (cut_limbs hl) (cut_trim l) (by rw [cut_val, h])
theorem cut_cut {l : List Int} (hl : Limbs l) : cut (cut l) = cut l := (norm_eq (cut_limbs hl) (cut_trim l) (cut_limbs hl) rfl).symm
theorem cut_of_trim {l : List Int} (hl : Limbs l) (ht : Trim l) : cut l = l := (norm_eq hl ht hl rfl).symm

theorem cut_f (l : List Int) : natural_cut.f l = some (cut l) := rfl
theorem rd_nat (l : List Int) (n : Nat) : rd l (n : Int) = l.getD n 0 := by simp [rd]

/- the document's answer: Same, Norm, Of -/
theorem same_l0 (l : List Int) (hl : l.length < 4611686018427387904) : ∀ (m k : Nat), m ≤ l.length → l.length - m < k → filigreeref01_Same.l0 k l l (m : Int) = some true := by
  intro m k
  induction k generalizing m with
  | zero => intro _ h; omega
  | succ k ih =>
    intro hm hk
    simp only [filigreeref01_Same.l0]
    by_cases h : (m : Int) < (l.length : Int)
    · simp only [h, if_true, show (0 : Int) ≤ (m : Int) from by omega, w64 (n := (m : Int) + 1) (by omega) (by omega)]
      exact ih (m + 1) (by omega) (by omega)
    · rw [if_neg h]
theorem same_f (l : List Int) (hl : l.length < 4611686018427387904) (k : Nat) (hk : l.length < k) : filigreeref01_Same.f k l l = some true := by
  unfold filigreeref01_Same.f
  rw [if_pos rfl]
  exact same_l0 l hl 0 k (by omega) (by omega)
theorem norm_l0 (l : List Int) (hl : l.length < 35184372088832) : ∀ (n k : Nat), n ≤ l.length → n < k → filigreeref01_Norm.l0 k l (n : Int) = some (l.take (cutLen l n)) := by
  intro n k
  induction k generalizing n with
  | zero => intro _ h; omega
  | succ k ih =>
    intro hn hk
    simp only [filigreeref01_Norm.l0]
    rcases n with _ | n
    · rw [if_neg (by omega)]
      simp only [Option.bind_some]
      rw [if_pos (by omega), if_pos (by omega), if_pos (by simp)]
      simp [cutLen]
    · rw [if_pos (by omega), w64 (by omega) (by omega), show ((n + 1 : Nat) : Int) - 1 = (n : Int) from by omega, if_pos (by omega), if_pos (by omega), rd_nat]
      simp only [cutLen]
      by_cases h : l.getD n 0 = 0
      · rw [if_pos h, if_pos h]
        exact ih n (by omega) (by omega)
      · rw [if_neg h, if_neg h]
        simp only [Option.bind_some]
        rw [if_pos (by omega), if_pos (by omega), if_pos (by simp; omega)]
        simp
theorem norm_f (l : List Int) (hl : l.length < 35184372088832) (k : Nat) (hk : l.length < k) : filigreeref01_Norm.f k l = some (cut l) := norm_l0 l hl l.length k (Nat.le_refl _) hk
theorem clone_f (l : List Int) (hl : l.length < 35184372088832) : slices_Clone_uint32_uint32.f l = some l := if_pos hl
theorem nnorm_f (l : List Int) (hl : l.length < 35184372088832) : natural_Norm.f l = some (cut l) := by
  unfold natural_Norm.f
  rw [cut_f, Option.bind_some, clone_f _ (by have := cut_length l; omega)]
  rfl
theorem u64_low (a : Int) (h0 : 0 ≤ a) (h1 : a < 18446744073709551616) : Go.bits .and .u64 a 4294967295 = a % 4294967296 := by
  have h := bits_and_u64_nat a.toNat (2 ^ 32 - 1) (by omega) (by decide)
  rw [Nat.and_two_pow_sub_one_eq_mod, Int.toNat_of_nonneg h0] at h
  rw [show ((4294967295 : Int)) = ((2 ^ 32 - 1 : Nat) : Int) from rfl, h]
  omega
/-- The limbs of a number below 2^64. -/
def of2 (a : Int) : List Int := cut [a % 4294967296, a / 4294967296]
theorem of_f (a : Int) (h0 : 0 ≤ a) (h1 : a < 18446744073709551616) : natural_Of.f a = some (of2 a) := by
  unfold natural_Of.f
  rw [show (a / 4294967296) % 4294967296 = a / 4294967296 from by omega]
  rfl
theorem rof_f (a : Int) (h0 : 0 ≤ a) (h1 : a < 18446744073709551616) (k : Nat) (hk : 2 < k) : filigreeref01_Of.f k a = some (of2 a) := by
  unfold filigreeref01_Of.f
  rw [u64_low a h0 h1, show a % 4294967296 % 4294967296 = a % 4294967296 from by omega, show (a / 4294967296) % 4294967296 = a / 4294967296 from by omega, norm_f _ (by simp) k (by simpa using hk)]
  rfl
theorem alive_some : filigreelaw01_alive.f 60 = some true := by kernel_rfl
theorem leO_le {α : Type} {f : Nat → Option α} (h : ∀ k, LeO (f k) (f (k + 1))) {k0 : Nat} {r : α} (h0 : f k0 = some r) : ∀ k, k0 ≤ k → f k = some r := by
  intro k hk
  induction hk with
  | refl => exact h0
  | step _ ih => exact h _ _ ih
theorem alive_f (k : Nat) (hk : 60 ≤ k) : filigreelaw01_alive.f k = some true := leO_le (f := fun k => filigreelaw01_alive.f k) filigreelaw01_alive.mono alive_some k hk
end Go.Proofs.YtihlelniaiadgaaDoor.A
/- The plain laws of comparing: limbs against limbs, bits against bits. -/
namespace Go.Proofs.YtihlelniaiadgaaDoor.A
open Go Go.RowKit Go.Proofs.YtihlelniaiadgaaDoorW.PrintWords Go.Proofs.YtihlelniaiadgaaDoorW.PrintLast Go.Proofs.YtihlelniaiadgaaDoorW.PrintMore

theorem cmpI_step {a b x y P : Int} (ha : 0 ≤ a) (ha' : a < P) (hb : 0 ≤ b) (hb' : b < P) : cmpI (a + P * x) (b + P * y) = if x = y then cmpI a b else cmpI x y := by
  unfold cmpI
  rcases Int.lt_trichotomy x y with h | h | h
  · have h1 : P * x + P ≤ P * y := by have := Int.mul_le_mul_of_nonneg_left (show x + 1 ≤ y by omega) (show 0 ≤ P by omega); rw [Int.mul_add] at this; omega
    rw [if_pos (by omega), if_neg (by omega), if_pos h]
  · subst h
    rw [if_pos rfl]
    by_cases h2 : a < b
    · rw [if_pos (by omega), if_pos h2]
    · rw [if_neg (by omega), if_neg h2]
      by_cases h3 : a > b
      · rw [if_pos (by omega), if_pos h3]
      · rw [if_neg (by omega), if_neg h3]
  · have h1 : P * y + P ≤ P * x := by have := Int.mul_le_mul_of_nonneg_left (show y + 1 ≤ x by omega) (show 0 ≤ P by omega); rw [Int.mul_add] at this; omega
    rw [if_neg (by omega), if_pos (by omega), if_neg (by omega), if_neg (by omega), if_pos h]
theorem val_take_succ (l : List Int) (n : Nat) (h : n < l.length) : val (l.take (n + 1)) = val (l.take n) + 4294967296 ^ n * l.getD n 0 := by
  rw [List.take_succ_eq_append_getElem h, val_append, List.length_take, Nat.min_eq_left (by omega), getD_lt _ h]
  simp [val]
theorem cmpTop_val {a b : List Int} (ha : Limbs a) (hb : Limbs b) : ∀ n, n ≤ a.length → n ≤ b.length → cmpTop a b n = cmpI (val (a.take n)) (val (b.take n))
  | 0, _, _ => by simp [cmpTop, val, cmpI]
  | n + 1, h1, h2 => by
    have hla := val_lt (ha.take n)
    have hlb := val_lt (hb.take n)
    rw [List.length_take, Nat.min_eq_left (by omega)] at hla hlb
    rw [val_take_succ a n (by omega), val_take_succ b n (by omega), cmpI_step (val_nonneg (ha.take n)) hla (val_nonneg (hb.take n)) hlb, ← cmpTop_val ha hb n (by omega) (by omega)]
    simp only [cmpTop]
    (first | rfl | (unfold cmpI; split <;> split <;> simp_all) | skip)
theorem val_ge {l : List Int} (h : Limbs l) (ht : Trim l) (hn : l ≠ []) : (4294967296 : Int) ^ (l.length - 1) ≤ val l := by
  obtain ⟨n, hn'⟩ : ∃ n, l.length = n + 1 := ⟨l.length - 1, by have : l.length ≠ 0 := fun h0 => hn (List.eq_nil_of_length_eq_zero h0); omega⟩
  have h1 := val_take_succ l n (by omega)
  rw [← hn', List.take_length] at h1
  have h2 : l.getD n 0 ≠ 0 := by
    rcases ht with ht | ht
    · exact absurd ht hn
    · rw [hn'] at ht; exact ht
  have h3 := h.getD n
  have h4 := val_nonneg (h.take n)
  have h5 : (4294967296 : Int) ^ n * 1 ≤ 4294967296 ^ n * l.getD n 0 := Int.mul_le_mul_of_nonneg_left (by omega) (Int.le_of_lt (Int.pow_pos (by decide)))
  rw [h1, show l.length - 1 = n by omega]
  omega
theorem pow_up {m n : Nat} (h : m ≤ n) : (4294967296 : Int) ^ m ≤ 4294967296 ^ n := by
  obtain ⟨d, rfl⟩ := Nat.exists_eq_add_of_le h
  rw [Int.pow_add]
  have h1 : (0 : Int) < 4294967296 ^ d := Int.pow_pos (by decide)
  have h2 : (0 : Int) < 4294967296 ^ m := Int.pow_pos (by decide)
  have := Int.mul_le_mul_of_nonneg_left (show (1 : Int) ≤ 4294967296 ^ d by omega) (Int.le_of_lt h2)
  rw [Int.mul_one] at this
  exact this
theorem cmp_f (a b : List Int) (ha : Limbs a) (hb : Limbs b) : natural_Cmp.f a b = some (cmpI (val a) (val b)) := by
  unfold natural_Cmp.f
  rw [← cut_len a, ← cut_len b]
  congr 1
  have key : ∀ {a b : List Int}, Limbs a → Limbs b → (cut a).length < (cut b).length → val a < val b := by
    intro a b ha hb h
    have h1 := val_lt (cut_limbs ha)
    have h2 := val_ge (cut_limbs hb) (cut_trim b) (by intro h0; rw [h0] at h; exact absurd h (by simp))
    have h3 : (4294967296 : Int) ^ (cut a).length ≤ 4294967296 ^ ((cut b).length - 1) := pow_up (by omega)
    rw [cut_val] at h1 h2
    omega
  split
  · rename_i h
    rw [cmpTop_val ha hb _ (cut_length a) (by rw [h]; exact cut_length b)]
    rw [show a.take (cut a).length = cut a by rw [cut_len]; rfl, h, show b.take (cut b).length = cut b by rw [cut_len]; rfl, cut_val, cut_val]
  · rename_i h
    rcases Nat.lt_or_gt_of_ne h with h | h
    · have := key ha hb h
      unfold cmpI
      rw [if_pos (by omega), if_pos this]
    · have := key hb ha h
      unfold cmpI
      rw [if_neg (by omega), if_pos (by omega), if_neg (by omega), if_pos (by omega)]

/- bits -/
def bval : List Int → Int
  | [] => 0
  | x :: r => x + 2 * bval r
def Bits (l : List Int) : Prop := ∀ x ∈ l, x = 0 ∨ x = 1
theorem bval_append (a b : List Int) : bval (a ++ b) = bval a + 2 ^ a.length * bval b := by
  induction a with
  | nil => simp [bval]
  | cons x a ih => simp only [List.cons_append, bval, ih, List.length_cons, Int.pow_succ]; rw [Int.mul_add, ← Int.mul_assoc, Int.mul_comm 2 (2 ^ a.length)]; omega
theorem Bits.tail {x : Int} {l : List Int} (h : Bits (x :: l)) : (x = 0 ∨ x = 1) ∧ Bits l := ⟨h x (List.mem_cons_self ..), fun y hy => h y (List.mem_cons_of_mem _ hy)⟩
theorem Bits.nil : Bits [] := fun _ h => by cases h
theorem Bits.append {a b : List Int} (ha : Bits a) (hb : Bits b) : Bits (a ++ b) := fun x hx => by
  rcases List.mem_append.1 hx with h | h
  · exact ha x h
  · exact hb x h
theorem Bits.one {x : Int} (h : x = 0 ∨ x = 1) : Bits [x] := fun y hy => by rw [List.mem_singleton] at hy; rw [hy]; exact h
theorem Bits.take {l : List Int} (h : Bits l) (n : Nat) : Bits (l.take n) := fun x hx => h x (List.mem_of_mem_take hx)
theorem Bits.getD {l : List Int} (h : Bits l) (n : Nat) : l.getD n 0 = 0 ∨ l.getD n 0 = 1 := by
  by_cases hn : n < l.length
  · rw [getD_lt _ hn]; exact h _ (List.getElem_mem hn)
  · rw [getD_ge _ (by omega)]; exact .inl rfl
theorem bval_bounds {l : List Int} (h : Bits l) : 0 ≤ bval l ∧ bval l < 2 ^ l.length := by
  induction l with
  | nil => simp [bval]
  | cons x l ih =>
    have h1 := h.tail
    have h2 := ih h1.2
    simp only [bval, List.length_cons, Int.pow_succ]
    omega
theorem bval_take_succ (l : List Int) (n : Nat) : bval (l.take (n + 1)) = bval (l.take n) + 2 ^ n * l.getD n 0 := by
  by_cases h : n < l.length
  · rw [List.take_succ_eq_append_getElem h, bval_append, List.length_take, Nat.min_eq_left (by omega), getD_lt _ h]
    simp [bval]
  · rw [List.take_of_length_le (by omega), List.take_of_length_le (by omega), getD_ge _ (by omega)]
    simp
theorem bval_take_lt {l : List Int} (h : Bits l) (n : Nat) : 0 ≤ bval (l.take n) ∧ bval (l.take n) < 2 ^ n := by
  have h1 := bval_bounds (h.take n)
  refine ⟨h1.1, Int.lt_of_lt_of_le h1.2 ?_⟩
  have := Nat.pow_le_pow_right (show 0 < 2 by decide) (show (l.take n).length ≤ n by rw [List.length_take]; omega)
  exact_mod_cast this
/-- The n low bits of x, the lowest first. -/
def bitsW (x : Int) : Nat → List Int
  | 0 => []
  | n + 1 => bitsW x n ++ [x / 2 ^ n % 2]
theorem bitsW_zero (x : Int) : bitsW x 0 = [] := rfl
theorem bitsW_succ (x : Int) (n : Nat) : bitsW x (n + 1) = bitsW x n ++ [x / 2 ^ n % 2] := rfl
theorem bitsW_length (x : Int) (n : Nat) : (bitsW x n).length = n := by
  induction n with
  | zero => rfl
  | succ n ih => simp [bitsW, ih]
theorem bitsW_bits (x : Int) (n : Nat) : Bits (bitsW x n) := by
  induction n with
  | zero => exact Bits.nil
  | succ n ih => exact ih.append (Bits.one (by omega))
theorem bval_bitsW (x : Int) (n : Nat) (h : 0 ≤ x) : bval (bitsW x n) = x % 2 ^ n := by
  induction n with
  | zero => simp only [bitsW, bval, Int.pow_zero]; omega
  | succ n ih =>
    simp only [bitsW]
    rw [bval_append, ih, bitsW_length]
    simp only [bval]
    rw [Int.pow_succ, Int.emod_def x (2 ^ n * 2), ← Int.ediv_ediv_of_nonneg (Int.le_of_lt (Int.pow_pos (by decide)))]
    have h1 := Int.emod_def x (2 ^ n)
    have h2 := Int.emod_def (x / 2 ^ n) 2
    rw [h1, h2, Int.mul_add, Int.mul_sub, Int.mul_assoc]
    simp only [Int.mul_zero, Int.add_zero]
    omega
def bitsOf : List Int → List Int
  | [] => []
  | x :: r => bitsW x 32 ++ bitsOf r
theorem bitsOf_length (l : List Int) : (bitsOf l).length = 32 * l.length := by
  induction l with
  | nil => rfl
  | cons x l ih => simp [bitsOf, ih, bitsW_length]; omega
theorem bitsOf_bits (l : List Int) : Bits (bitsOf l) := by
  induction l with
  | nil => exact Bits.nil
  | cons x l ih => exact (bitsW_bits x 32).append ih
theorem bval_bitsOf {l : List Int} (h : Limbs l) : bval (bitsOf l) = val l := by
  induction l with
  | nil => rfl
  | cons x l ih =>
    have h1 := h.cons
    simp only [bitsOf, val]
    rw [bval_append, ih h1.2, bval_bitsW x 32 h1.1.1, bitsW_length]
    have : x % 2 ^ 32 = x := by omega
    rw [this]; omega
theorem wraps_u32 (n : Int) (h₀ : 0 ≤ n) (h₁ : n < 2 ^ 32) : IntKind.u32.wrap n = n := by show n % 4294967296 = n; omega
theorem wraps_u64 (n : Int) (h₀ : 0 ≤ n) (h₁ : n < 2 ^ 64) : IntKind.u64.wrap n = n := by show n % 18446744073709551616 = n; omega
theorem u32_and1 (x : Int) (h₀ : 0 ≤ x) (h₁ : x < 4294967296) : Go.bits .and .u32 x 1 = x % 2 := bits_mask .u32 32 (by decide) wraps_u32 1 (by decide) x h₀ h₁
theorem u8_and1 (x : Int) (h₀ : 0 ≤ x) (h₁ : x < 256) : Go.bits .and .u8 x 1 = x % 2 := bits_mask .u8 8 (by decide) wraps_u8 1 (by decide) x h₀ h₁
theorem shr_u32 (x : Int) (i : Nat) (h : i ≤ 32) : shr .u32 x (IntKind.u64.wrap (i : Int)) = x / 2 ^ i := by
  rw [wraps_u64 _ (by omega) (by omega)]
  unfold shr
  rw [show min ((i : Int)).toNat (IntKind.bits .u32) = i from by rw [Int.toNat_natCast]; exact Nat.min_eq_left h]
theorem bits_l1 (x0 : List Int) (hl : Limbs x0) (m : Nat) (hm : m < x0.length) (pre : List Int) (hp : pre.length + 32 < 140737488355328) (hm2 : x0.length < 4611686018427387904) : ∀ (j i k : Nat), i + j = 32 →
    filigreeref01_bits.l1 (k + j + 1) x0 (pre ++ bitsW (x0.getD m 0) i) (m : Int) (i : Int) = filigreeref01_bits.l0 k x0 (pre ++ bitsW (x0.getD m 0) 32) ((m + 1 : Nat) : Int) := by
  intro j
  induction j with
  | zero =>
    intro i k h
    obtain rfl : i = 32 := by omega
    rw [filigreeref01_bits.l1, if_neg (by omega), w64 (by omega) (by omega)]
    rfl
  | succ j ih =>
    intro i k h
    have hx := hl.getD m
    have hdiv : 0 ≤ x0.getD m 0 / 2 ^ i ∧ x0.getD m 0 / 2 ^ i < 4294967296 := by
      refine ⟨Int.ediv_nonneg hx.1 (Int.le_of_lt (Int.pow_pos (by decide))), ?_⟩
      have := Int.ediv_le_self (2 ^ i) hx.1
      omega
    rw [show k + (j + 1) + 1 = (k + j + 1) + 1 by omega, filigreeref01_bits.l1, if_pos (by omega), if_pos (by omega), if_pos (by omega), if_pos (by rw [wraps_u64 _ (by omega) (by omega)]; omega), if_pos (by rw [List.length_append, bitsW_length]; omega), rd_nat, shr_u32 _ i (by omega), u32_and1 _ hdiv.1 hdiv.2, w64 (by omega) (by omega), show x0.getD m 0 / 2 ^ i % 2 % 256 = x0.getD m 0 / 2 ^ i % 2 by omega]
    have := ih (i + 1) k (by omega)
    rw [show ((i + 1 : Nat) : Int) = (i : Int) + 1 by omega] at this
    rw [← this, bitsW_succ, List.append_assoc]
theorem bits_l0 (x0 : List Int) (hl : Limbs x0) (hm2 : x0.length < 4000000000000) : ∀ (j m k : Nat), m + j = x0.length →
    filigreeref01_bits.l0 (k + 34 * j + 1) x0 (bitsOf (x0.take m)) (m : Int) = some (bitsOf x0) := by
  intro j
  induction j with
  | zero =>
    intro m k h
    rw [filigreeref01_bits.l0, if_neg (by omega), List.take_of_length_le (by omega)]
  | succ j ih =>
    intro m k h
    rw [show k + 34 * (j + 1) + 1 = ((k + 34 * j + 1) + 32 + 1) + 1 by omega]
    rw [filigreeref01_bits.l0, if_pos (by omega)]
    have h1 := bits_l1 x0 hl m (by omega) (bitsOf (x0.take m)) (by rw [bitsOf_length, List.length_take]; omega) (by omega) 32 0 (k + 34 * j + 1) (by omega)
    rw [bitsW_zero, List.append_nil] at h1
    rw [show ((0 : Nat) : Int) = 0 from rfl] at h1
    rw [h1]
    have h2 : bitsOf (x0.take (m + 1)) = bitsOf (x0.take m) ++ bitsW (x0.getD m 0) 32 := by
      rw [List.take_succ_eq_append_getElem (by omega), getD_lt _ (by omega)]
      have : ∀ a b : List Int, bitsOf (a ++ b) = bitsOf a ++ bitsOf b := by
        intro a b
        induction a with
        | nil => rfl
        | cons x a ih => simp [bitsOf, ih]
      rw [this]
      simp [bitsOf]
    have h3 := ih (m + 1) k (by omega)
    rw [h2] at h3
    exact h3
theorem bits_f (l : List Int) (hl : Limbs l) (hm : l.length < 4000000000000) (k : Nat) (hk : 34 * l.length + 1 ≤ k) : filigreeref01_bits.f k l = some (bitsOf l) := by
  unfold filigreeref01_bits.f
  obtain ⟨d, rfl⟩ : ∃ d, k = d + 34 * l.length + 1 := ⟨k - (34 * l.length + 1), by omega⟩
  exact bits_l0 l hl hm l.length 0 d (by omega)
theorem at_f (l : List Int) (i : Nat) : filigreeref01_at.f l (i : Int) = some (l.getD i 0) := by
  unfold filigreeref01_at.f
  by_cases h : (i : Int) < (l.length : Int)
  · rw [if_pos h, if_pos (by omega), rd_nat]
  · rw [if_neg h, getD_ge _ (by omega)]
theorem rcmp_l0 (x y : List Int) (hx : Bits x) (hy : Bits y) : ∀ (n k : Nat), n < 4611686018427387904 → n < k → filigreeref01_Cmp.l0 k x y ((n : Int) - 1) = some (cmpI (bval (x.take n)) (bval (y.take n))) := by
  intro n
  induction n with
  | zero =>
    intro k _ hk
    obtain ⟨k, rfl⟩ : ∃ d, k = d + 1 := ⟨k - 1, by omega⟩
    simp only [filigreeref01_Cmp.l0]
    rw [if_neg (by omega)]
    simp [bval, cmpI]
  | succ n ih =>
    intro k hn hk
    obtain ⟨k, rfl⟩ : ∃ d, k = d + 1 := ⟨k - 1, by omega⟩
    simp only [filigreeref01_Cmp.l0]
    rw [if_pos (by omega), show ((n + 1 : Nat) : Int) - 1 = (n : Int) by omega]
    simp only [at_f, Option.bind_some]
    rw [w64 (by omega) (by omega), ih k (by omega) (by omega)]
    have h1 := bval_take_lt hx n
    have h2 := bval_take_lt hy n
    rw [bval_take_succ, bval_take_succ, cmpI_step h1.1 h1.2 h2.1 h2.2]
    by_cases h3 : x.getD n 0 < y.getD n 0
    · rw [if_pos h3, if_neg (by omega)]
      unfold cmpI
      rw [if_pos h3]
    · rw [if_neg h3]
      by_cases h4 : x.getD n 0 > y.getD n 0
      · rw [if_pos h4, if_neg (by omega)]
        unfold cmpI
        rw [if_neg h3, if_pos h4]
      · rw [if_neg h4, if_pos (by omega)]
theorem mx_nat (a b : Nat) : mx (a : Int) (b : Int) = ((max a b : Nat) : Int) := by unfold mx; split <;> omega
theorem rcmp_f (a b : List Int) (ha : Limbs a) (hb : Limbs b) (la : a.length < 4000000000000) (lb : b.length < 4000000000000) (k : Nat) (hk : 34 * a.length + 34 * b.length + 2 ≤ k) : filigreeref01_Cmp.f k a b = some (cmpI (val a) (val b)) := by
  unfold filigreeref01_Cmp.f
  rw [bits_f a ha la k (by omega), Option.bind_some, bits_f b hb lb k (by omega), Option.bind_some, mx_nat, bitsOf_length, bitsOf_length, w64 (by omega) (by omega), rcmp_l0 _ _ (bitsOf_bits a) (bitsOf_bits b) _ k (by omega) (by omega)]
  rw [List.take_of_length_le (by rw [bitsOf_length]; omega), List.take_of_length_le (by rw [bitsOf_length]; omega), bval_bitsOf ha, bval_bitsOf hb]
end Go.Proofs.YtihlelniaiadgaaDoor.A
/- The guard of the laws: are the numbers short enough? -/
namespace Go.Proofs.YtihlelniaiadgaaDoor.A
open Go Go.RowKit Go.Proofs.YtihlelniaiadgaaDoorW.PrintWords Go.Proofs.YtihlelniaiadgaaDoorW.PrintLast Go.Proofs.YtihlelniaiadgaaDoorW.PrintMore
theorem light2 (a b : List Int) (ha : a.length ≤ maxLen) (hb : b.length ≤ maxLen) (k : Nat) (hk : 3 ≤ k) : filigreelaw01_Light.f k [a, b] = some (decide (a.length ≤ 12 ∧ b.length ≤ 12)) := by
  obtain ⟨k, rfl⟩ : ∃ d, k = d + 3 := ⟨k - 3, by omega⟩
  unfold filigreelaw01_Light.f
  rw [filigreelaw01_Light.l0, if_pos (by simp), if_pos (by omega), show rd_L1 [a, b] 0 = a from rfl]
  by_cases h1 : (a.length : Int) > 12
  · rw [if_pos h1, decide_eq_false (by omega)]
  · rw [if_neg h1, show wrap64 (0 + 1) = 1 from (by unfold wrap64; omega), filigreelaw01_Light.l0, if_pos (by simp), if_pos (by omega), show rd_L1 [a, b] 1 = b from rfl]
    by_cases h2 : (b.length : Int) > 12
    · rw [if_pos h2, decide_eq_false (by omega)]
    · rw [if_neg h2, show wrap64 (1 + 1) = 2 from (by unfold wrap64; omega), filigreelaw01_Light.l0, if_neg (by simp), decide_eq_true (by omega)]
theorem light3 (a b c : List Int) (ha : a.length ≤ maxLen) (hb : b.length ≤ maxLen) (k : Nat) (hk : 4 ≤ k) : filigreelaw01_Light.f k [a, b, c] = some (decide (a.length ≤ 12 ∧ b.length ≤ 12 ∧ c.length ≤ 12)) := by
  obtain ⟨k, rfl⟩ : ∃ d, k = d + 4 := ⟨k - 4, by omega⟩
  unfold filigreelaw01_Light.f
  rw [filigreelaw01_Light.l0, if_pos (by simp), if_pos (by omega), show rd_L1 [a, b, c] 0 = a from rfl]
  by_cases h1 : (a.length : Int) > 12
  · rw [if_pos h1, decide_eq_false (by omega)]
  · rw [if_neg h1, show wrap64 (0 + 1) = 1 from (by unfold wrap64; omega), filigreelaw01_Light.l0, if_pos (by simp), if_pos (by omega), show rd_L1 [a, b, c] 1 = b from rfl]
    by_cases h2 : (b.length : Int) > 12
    · rw [if_pos h2, decide_eq_false (by omega)]
    · rw [if_neg h2, show wrap64 (1 + 1) = 2 from (by unfold wrap64; omega), filigreelaw01_Light.l0, if_pos (by simp), if_pos (by omega), show rd_L1 [a, b, c] 2 = c from rfl]
      by_cases h3 : (c.length : Int) > 12
      · rw [if_pos h3, decide_eq_false (by omega)]
      · rw [if_neg h3, show wrap64 (2 + 1) = 3 from (by unfold wrap64; omega), filigreelaw01_Light.l0, if_neg (by simp), decide_eq_true (by omega)]
end Go.Proofs.YtihlelniaiadgaaDoor.A
/- The plain law of the program's product. -/
namespace Go.Proofs.YtihlelniaiadgaaDoor.A
open Go Go.RowKit Go.Proofs.YtihlelniaiadgaaDoorW.PrintWords Go.Proofs.YtihlelniaiadgaaDoorW.PrintLast Go.Proofs.YtihlelniaiadgaaDoorW.PrintMore
/-- Limbs in their normal form that stand for n. -/
structure IsNum (l : List Int) (n : Int) : Prop where
  limbs : Limbs l
  trim : Trim l
  eq : val l = n
theorem IsNum.unique {a b : List Int} {n : Int} (ha : IsNum a n) (hb : IsNum b n) : a = b := val_inj ha.limbs ha.trim hb.limbs hb.trim (ha.eq.trans hb.eq.symm)
theorem IsNum.cut {l : List Int} (h : Limbs l) : IsNum (cut l) (val l) := ⟨cut_limbs h, cut_trim l, cut_val l⟩
theorem IsNum.nonneg {l : List Int} {n : Int} (h : IsNum l n) : 0 ≤ n := by rw [← h.eq]; exact val_nonneg h.limbs
theorem getD_set_ne (l : List Int) {m n : Nat} (v : Int) (h : m ≠ n) : (l.set m v).getD n 0 = l.getD n 0 := by rw [List.getD_eq_getElem?_getD, List.getElem?_set_ne h, ← List.getD_eq_getElem?_getD]
theorem getD_set_eq (l : List Int) {n : Nat} (v : Int) (h : n < l.length) : (l.set n v).getD n 0 = v := by rw [List.getD_eq_getElem?_getD, List.getElem?_set_self h]; rfl
theorem val_set (l : List Int) : ∀ (n : Nat) (v : Int), n < l.length → val (l.set n v) = val l + 4294967296 ^ n * (v - l.getD n 0) := by
  induction l with
  | nil => intro n v h; exact absurd h (by simp)
  | cons x l ih =>
    intro n v h
    rcases n with _ | n
    · simp only [List.set_cons_zero, val, List.getD_cons_zero, Int.pow_zero]; omega
    · have := ih n v (by simpa using h)
      simp only [List.set_cons_succ, val, List.getD_cons_succ, this, Int.pow_succ]
      grind
theorem Limbs.set {l : List Int} (h : Limbs l) (n : Nat) {v : Int} (h0 : 0 ≤ v) (h1 : v < 4294967296) : Limbs (l.set n v) := fun x hx => by
  rcases List.mem_or_eq_of_mem_set hx with hx | rfl
  · exact h x hx
  · exact ⟨h0, h1⟩
theorem getD_of_lt {l : List Int} : ∀ {m n : Nat}, Limbs l → val l < 4294967296 ^ n → n ≤ m → l.getD m 0 = 0 := by
  induction l with
  | nil => intro m n _ _ _; rfl
  | cons x l ih =>
    intro m n hl h hmn
    have h1 := hl.cons
    have h2 := val_nonneg h1.2
    simp only [val] at h
    rcases n with _ | n
    · rw [Int.pow_zero] at h
      have hx : x = 0 := by omega
      have hv : val l = 0 := by omega
      rcases m with _ | m
      · simpa using hx
      · rw [List.getD_cons_succ]
        exact ih (n := 0) h1.2 (by rw [hv]; decide) (by omega)
    · rcases m with _ | m
      · omega
      · rw [List.getD_cons_succ]
        refine ih (n := n) h1.2 ?_ (by omega)
        rw [Int.pow_succ] at h
        omega
theorem limbs_replicate (n : Nat) : Limbs (List.replicate n 0) := fun x hx => by rw [List.eq_of_mem_replicate hx]; omega
theorem val_replicate (n : Nat) : val (List.replicate n 0) = 0 := by
  induction n with
  | zero => rfl
  | succ n ih => simp only [List.replicate_succ, val, ih]; rfl

theorem mul_l1 (b : List Int) (hb : Limbs b) (x : Int) (hx : 0 ≤ x ∧ x < 4294967296) (i : Nat) (X : List Int) (n p : Int) (N : Nat) (hN : N < 70368744177665) (hi : i + b.length < N) (T : Int) :
    ∀ (j m k : Nat) (O : List Int) (c : Int), m + j = b.length → O.length = N → Limbs O → 0 ≤ c → c < 4294967296 → O.getD (i + b.length) 0 = 0 →
    val O + c * 4294967296 ^ (i + m) + x * (val b - val (b.take m)) * 4294967296 ^ i = T →
    ∃ O', O'.length = N ∧ Limbs O' ∧ val O' = T ∧ natural_Mul.l1 (k + j + 1) b O (i : Int) x c X n p b (b.length : Int) (m : Int) = natural_Mul.l0 k b O' X n (wrap64 (p + 1)) := by
  intro j
  induction j with
  | zero =>
    intro m k O c hm hO lO hc0 hc1 hz hT
    obtain rfl : m = b.length := by omega
    refine ⟨O.set (i + b.length) c, by rw [List.length_set]; exact hO, lO.set _ hc0 hc1, ?_, ?_⟩
    · rw [val_set _ _ _ (by omega), hz]
      rw [List.take_length] at hT
      grind
    · rw [natural_Mul.l1, if_neg (by omega), w64 (by omega) (by omega), if_pos (by omega), if_pos (by omega), show c % 4294967296 = c from by omega]
      rfl
  | succ j ih =>
    intro m k O c hm hO lO hc0 hc1 hz hT
    have hbm := hb.getD m
    have hom := lO.getD (i + m)
    obtain ⟨s, hs⟩ : ∃ s, s = x * b.getD m 0 + O.getD (i + m) 0 + c := ⟨_, rfl⟩
    have hxb : 0 ≤ x * b.getD m 0 := Int.mul_nonneg hx.1 hbm.1
    have hxb2 : x * b.getD m 0 ≤ 4294967295 * 4294967295 := Int.mul_le_mul (by omega) (by omega) hbm.1 (by decide)
    have e1 : IntKind.u64.wrap ((IntKind.u64.wrap ((IntKind.u64.wrap ((IntKind.u64.wrap x) * (IntKind.u64.wrap (rd b (m : Int))))) + (IntKind.u64.wrap (rd O ((i + m : Nat) : Int))))) + c) = s := by
      rw [rd_nat, rd_nat, wraps_u64 x (by omega) (by omega), wraps_u64 (b.getD m 0) (by omega) (by omega), wraps_u64 (O.getD (i + m) 0) (by omega) (by omega), wraps_u64 (x * b.getD m 0) (by omega) (by omega), wraps_u64 (x * b.getD m 0 + O.getD (i + m) 0) (by omega) (by omega), wraps_u64 (x * b.getD m 0 + O.getD (i + m) 0 + c) (by omega) (by omega), hs]
    have hs0 : 0 ≤ s ∧ s < 18446744073709551616 := by omega
    obtain ⟨O', h1, h2, h3, h4⟩ := ih (m + 1) k (O.set (i + m) (s % 4294967296)) (s / 4294967296) (by omega) (by rw [List.length_set]; exact hO) (lO.set _ (by omega) (by omega)) (by omega) (by omega) (by rw [getD_set_ne _ _ (by omega)]; exact hz) (by
      rw [val_set _ _ _ (by omega), val_take_succ b m (by omega), ← hT, show i + (m + 1) = (i + m) + 1 by omega, Int.pow_succ, Int.pow_add]
      have := Int.emod_add_mul_ediv s 4294967296
      grind)
    refine ⟨O', h1, h2, h3, ?_⟩
    rw [show k + (j + 1) + 1 = (k + j + 1) + 1 by omega, natural_Mul.l1, if_pos (by omega), if_pos (by omega), if_pos (by omega), w64 (n := (i : Int) + (m : Int)) (by omega) (by omega), if_pos (by omega), if_pos (by omega), w64 (n := (m : Int) + 1) (by omega) (by omega), show ((i : Int) + (m : Int)) = ((i + m : Nat) : Int) by omega, e1, Int.toNat_natCast, show ((m : Int) + 1) = ((m + 1 : Nat) : Int) by omega]
    exact h4
theorem mul_l0 (a b : List Int) (ha : Limbs a) (hb : Limbs b) (N : Nat) (hN : N < 70368744177665) (hab : a.length + b.length = N) :
    ∀ (j m k : Nat) (O : List Int), m + j = a.length → O.length = N → Limbs O → val O = val (a.take m) * val b →
    ∃ r, natural_Mul.l0 (k + (b.length + 2) * j + 1) b O a (a.length : Int) (m : Int) = some r ∧ IsNum r (val a * val b) ∧ r.length ≤ N := by
  intro j
  induction j with
  | zero =>
    intro m k O hm hO lO hv
    refine ⟨cut O, ?_, ?_, by have := cut_length O; omega⟩
    · rw [natural_Mul.l0, if_neg (by omega)]
      rfl
    · have := IsNum.cut lO
      rw [hv, List.take_of_length_le (by omega)] at this
      exact this
  | succ j ih =>
    intro m k O hm hO lO hv
    have ham := ha.getD m
    have hlt : val O < 4294967296 ^ (m + b.length) := by
      rw [hv, Int.pow_add]
      have h1 := val_lt (ha.take m)
      have h2 := val_lt hb
      have h3 := val_nonneg (ha.take m)
      have h4 := val_nonneg hb
      rw [List.length_take, Nat.min_eq_left (by omega)] at h1
      exact Int.lt_of_le_of_lt (Int.mul_le_mul_of_nonneg_right (Int.le_of_lt h1) h4) (Int.mul_lt_mul_of_pos_left h2 (Int.pow_pos (by decide)))
    obtain ⟨O', h1, h2, h3, h4⟩ := mul_l1 b hb (a.getD m 0) ham m a (a.length : Int) (m : Int) N hN (by omega) (val (a.take (m + 1)) * val b) b.length 0 (k + (b.length + 2) * j + 1) O 0 (by omega) hO lO (by omega) (by omega) (getD_of_lt lO hlt (Nat.le_refl _)) (by
      rw [hv, val_take_succ a m (by omega)]
      simp only [List.take_zero, val]
      grind)
    obtain ⟨r, h5, h6, h7⟩ := ih (m + 1) k O' (by omega) h1 h2 h3
    refine ⟨r, ?_, h6, h7⟩
    rw [show k + (b.length + 2) * (j + 1) + 1 = ((k + (b.length + 2) * j + 1) + b.length + 1) + 1 by rw [Nat.mul_add]; omega, natural_Mul.l0, if_pos (by omega), if_pos (by omega), if_pos (by omega), rd_nat]
    rw [show ((0 : Nat) : Int) = 0 from rfl] at h4
    rw [h4, w64 (by omega) (by omega)]
    exact h5
theorem mul_f (a b : List Int) (ha : Limbs a) (hb : Limbs b) (hN : a.length + b.length < 70368744177665) (k : Nat) (hk : (b.length + 2) * a.length + 1 ≤ k) :
    ∃ r, natural_Mul.f k a b = some r ∧ IsNum r (val a * val b) ∧ r.length ≤ a.length + b.length := by
  have ca := cut_length a
  have cb := cut_length b
  have h0 : ((cut b).length + 2) * (cut a).length + 1 ≤ k := Nat.le_trans (Nat.succ_le_succ (Nat.mul_le_mul (by omega) ca)) hk
  obtain ⟨d, rfl⟩ : ∃ d, k = d + ((cut b).length + 2) * (cut a).length + 1 := ⟨k - (((cut b).length + 2) * (cut a).length + 1), by omega⟩
  obtain ⟨r, h1, h2, h3⟩ := mul_l0 (cut a) (cut b) (cut_limbs ha) (cut_limbs hb) ((cut a).length + (cut b).length) (by omega) rfl (cut a).length 0 d (List.replicate ((cut a).length + (cut b).length) 0) (by omega) (by simp) (limbs_replicate _) (by rw [val_replicate]; simp [val])
  refine ⟨r, ?_, by rw [cut_val, cut_val] at h2; exact h2, by omega⟩
  unfold natural_Mul.f
  rw [cut_f, Option.bind_some, cut_f, Option.bind_some, w64 (by omega) (by omega), if_pos (by omega), show ((cut a).length : Int) + ((cut b).length : Int) = (((cut a).length + (cut b).length : Nat) : Int) by omega, Int.toNat_natCast, if_pos (by omega)]
  exact h1
end Go.Proofs.YtihlelniaiadgaaDoor.A
-- written by a program of this session (a turned print; wip/tools): Lean checks it
namespace Go.Proofs.YtihlelniaiadgaaDoor.A
open Go.RowKit Go.Proofs.YtihlelniaiadgaaDoorW.PrintWords Go.Proofs.YtihlelniaiadgaaDoorW.PrintLast Go.Proofs.YtihlelniaiadgaaDoorW.PrintMore
attribute [local go_sem] max2_int min2_int max_two min_two max_three min_three max_four min_four   -- for this text's walks alone
set_option linter.unusedVariables false
set_option linter.unusedSimpArgs false

/-! ### filigreeref01_sum: function 44 -/
def filigreeref01_sum.l0 : Nat → List Int → List Int → List Int → Int → Int → Option (List Int)
  | 0, _, _, _, _, _ => none
  | k + 1, x0, x1, x5, x6, x7 => if x7 ≤ (mx (x0.length : Int) (x1.length : Int)) then ((filigreeref01_at.f x0 x7).bind fun t475 => ((filigreeref01_at.f x1 x7).bind fun t476 => (if x5.length < 140737488355328 then (filigreeref01_sum.l0 k x0 x1 (x5 ++ [Go.bits .and .u8 ((((t475 + t476) % 256) + x6) % 256) 1]) (((((t475 + t476) % 256) + x6) % 256) / 2) (wrap64 (x7 + 1))) else (none)))) else (some x5)
def filigreeref01_sum.f (k : Nat) (l0 : List Int) (l1 : List Int) : Option (List Int) := filigreeref01_sum.l0 k l0 l1 ([] : List Int) 0 0
theorem filigreeref01_sum.mono_l : ∀ k, (∀ y0 y1 y2 y3 y4, LeO (filigreeref01_sum.l0 k y0 y1 y2 y3 y4) (filigreeref01_sum.l0 (k + 1) y0 y1 y2 y3 y4))
  | 0 => fun _ _ _ _ _ r h => by simp [filigreeref01_sum.l0] at h
  | k + 1 => by
    have ih0 := filigreeref01_sum.mono_l k
    · intro y0 y1 y2 y3 y4
      unfold filigreeref01_sum.l0
      repeat' first
      | (with_reducible exact ih0 _ _ _ _ _)
      | (with_reducible exact LeO.refl _)
      | (with_reducible exact LeO.none _)
      | (with_reducible refine LeO.ite ?_ ?_)
      | (with_reducible refine LeO.bind ?_ (fun _ => ?_))
      | exact ih0 _ _ _ _ _
      | exact LeO.none _
      | refine LeO.ite ?_ ?_
      | refine LeO.bind ?_ (fun _ => ?_)
theorem filigreeref01_sum.mono : ∀ a0 a1 k, LeO (filigreeref01_sum.f k a0 a1) (filigreeref01_sum.f (k + 1) a0 a1) := by
  intro a0 a1 k
  have ih0 := filigreeref01_sum.mono_l k
  unfold filigreeref01_sum.f
  repeat' first
      | (with_reducible exact ih0 _ _ _ _ _)
      | (with_reducible exact LeO.refl _)
      | (with_reducible exact LeO.none _)
      | (with_reducible refine LeO.ite ?_ ?_)
      | (with_reducible refine LeO.bind ?_ (fun _ => ?_))
      | exact ih0 _ _ _ _ _
      | exact LeO.none _
      | refine LeO.ite ?_ ?_
      | refine LeO.bind ?_ (fun _ => ?_)
set_option maxHeartbeats 8000000 in
set_option maxRecDepth 100000 in
theorem filigreeref01_sum.calls (k : Nat) (A0 : Option Addr) (c0 : Nat) (l0 : List Int) (A1 : Option Addr) (c1 : Nat) (l1 : List Int) (r : List Int) (w : World) (hr0 : Kd.C (Kd.int .u8) w A0 l0.length l0) (hc0 : l0.length ≤ c0) (hr1 : Kd.C (Kd.int .u8) w A1 l1.length l1) (hc1 : l1.length ≤ c1) (h : filigreeref01_sum.f k l0 l1 = some r) :
    Calls Tryd.prog 44 #[.slice A0 l0.length c0, .slice A1 l1.length c1] w fun e w' => ∃ v0_ : Value, e = .returned (v0_) ∧ Kd.R (Kd.int .u8) 5 w' w.heap.size (fun _ => True) v0_ r ∧ Below w.heap.size w w' := by
  have HR0 := Aside0.mk hr0
  have HC0 := Aside0.mk hc0
  clear hr0 hc0
  have HR1 := Aside0.mk hr1
  have HC1 := Aside0.mk hc1
  clear hr1 hc1
  have HB := Aside0.mk (Below.refl w.heap.size w)
  have H : (filigreeref01_sum.l0 k l0 l1 ([] : List Int) 0 0) = some r := h
  clear h
  have H' := Aside0.mk H
  clear H
  go_enter Tryd.func44, Tryd.ntmps44
  go_wp2
  go_loopg [5, 6, 7] k (fun kq v5 v6 v7 w' => ∃ (x5_1 : List Int) (x6_1 : Int) (x7_1 : Int), v6 = .int .u8 x6_1 ∧ v7 = .int .i64 x7_1 ∧ Aside0 (filigreeref01_sum.l0 kq l0 l1 x5_1 x6_1 x7_1 = some r) ∧ Aside0 (kq ≤ k) ∧ Aside0 (Kd.R (Kd.int .u8) 5 w' w.heap.size (fun _ => True) v5 x5_1) ∧ Aside0 (Below w.heap.size w w'))
  case atStart => exact ⟨(([] : List Int)), (0), (0), (by first | rfl | (simp; done) | (simp [*]; done)), (by first | rfl | (simp; done) | (simp [*]; done)), H', ⟨Nat.le_refl _⟩, ⟨by first | exact Kd.R_nil _ _ _ _ _ | exact Kd.N_nil _ _ _ _ _ | exact Kd.V_nil _ _ _ _ _ | exact Kd.Q_nil _ _ _ _ _ | exact Kd.S_nil _ _ _ _ _⟩, ⟨by repeat (first | (with_reducible first | exact HB.out | apply below_alloc | apply pw_below_drewN | apply below_drew1) | exact HB.out)⟩⟩
  case round =>
    clear H'
    try clear c1
    try clear p2
    obtain ⟨x5_1, x6_1, x7_1, rfl, rfl, HA, HK1, HO_5, HB⟩ := hrel
    cases gk with
    | zero => exact absurd HA.out (by simp [filigreeref01_sum.l0])
    | succ k1 =>
      have H := HA.out
      clear HA
      simp only [filigreeref01_sum.l0] at H
      obtain ⟨ji3, hji3⟩ : ∃ j_ : Int, (mx (l0.length : Int) (l1.length : Int)) = j_ := ⟨_, rfl⟩
      replace H : (if x7_1 ≤ (ji3) then ((filigreeref01_at.f l0 x7_1).bind fun t475 => ((filigreeref01_at.f l1 x7_1).bind fun t476 => (if x5_1.length < 140737488355328 then (filigreeref01_sum.l0 k1 l0 l1 (x5_1 ++ [Go.bits .and .u8 ((((t475 + t476) % 256) + x6_1) % 256) 1]) (((((t475 + t476) % 256) + x6_1) % 256) / 2) (wrap64 (x7_1 + 1))) else (none)))) else (some x5_1)) = some r := by first | (rw [hji3] at H; exact H) | (simp only [hji3] at H ⊢; exact H)
      have hji3_ : (if (l0.length : Int) < (l1.length : Int) then (l1.length : Int) else (l0.length : Int)) = ji3 := hji3
      have hji3_n : (if l0.length < l1.length then (l1.length : Int) else (l0.length : Int)) = ji3 := by rw [← hji3]; simp only [mx, mn, Int.ofNat_lt]
      by_cases c4 : x7_1 ≤ (ji3)
      · rw [if_pos c4] at H
        have c4b0 : decide (x7_1 ≤ (ji3)) = true := decide_eq_true c4
        clear c4
        replace H := Option.bind_eq_some_iff.mp H
        obtain ⟨t475, A50, H⟩ := H
        replace H : ((filigreeref01_at.f l1 x7_1).bind fun t476 => (if x5_1.length < 140737488355328 then (filigreeref01_sum.l0 k1 l0 l1 (x5_1 ++ [Go.bits .and .u8 ((((t475 + t476) % 256) + x6_1) % 256) 1]) (((((t475 + t476) % 256) + x6_1) % 256) / 2) (wrap64 (x7_1 + 1))) else (none))) = some r := H
        have A5 := Aside0.mk A50
        clear A50
        replace H := Option.bind_eq_some_iff.mp H
        obtain ⟨t476, A60, H⟩ := H
        replace H : (if x5_1.length < 140737488355328 then (filigreeref01_sum.l0 k1 l0 l1 (x5_1 ++ [Go.bits .and .u8 ((((t475 + t476) % 256) + x6_1) % 256) 1]) (((((t475 + t476) % 256) + x6_1) % 256) / 2) (wrap64 (x7_1 + 1))) else (none)) = some r := H
        have A6 := Aside0.mk A60
        clear A60
        by_cases c7 : x5_1.length < 140737488355328
        · rw [if_pos c7] at H
          have LMc7 := Aside0.mk c7
          clear c7
          obtain ⟨y477, hy477⟩ : ∃ y_ : List Int, y_ = (x5_1 ++ [Go.bits .and .u8 ((((t475 + t476) % 256) + x6_1) % 256) 1]) := ⟨_, rfl⟩
          replace H : (filigreeref01_sum.l0 k1 l0 l1 y477 (((((t475 + t476) % 256) + x6_1) % 256) / 2) (wrap64 (x7_1 + 1))) = some r := by first | (rw [hy477]; with_reducible exact H) | (have H2_ := (Option.bind_some _ _).symm.trans H; rw [hy477]; with_reducible exact H2_) | (have H2_ := (Option.bind_some _ _).symm.trans H; with_reducible exact H2_) | with_reducible exact H | (rw [hy477]; exact H) | exact H
          have Ny477 := Aside0.mk hy477
          clear hy477
          have H' := Aside0.mk H
          clear H
          go_wp2_with (first | ((with_reducible refine gate_callee (f := 43) rfl ?_); refine goesL_ (some 20) rfl rfl Tryd.func43 (by kernel_rfl) rfl #[.slice A0 l0.length c0, .int .i64 x7_1] rfl (by (try simp only [List.map_toArray, List.map_cons, List.map_nil]); first | done | rfl | (simp only [List.length_drop, List.length_take]; rfl)) ?_; (with_reducible refine (filigreeref01_at.calls _ _ l0 x7_1 t475 _ ?side1 ?side2 A5.out).mono ?_); (case side1 => repeat (first | exact (Kd.C_below HR0.out HB.out) | (with_reducible refine Kd.C_alloc ?_ _) | (with_reducible refine Kd.C_drewN ?_ _) | (with_reducible refine Kd.C_drew ?_))); (case side2 => exact HC0.out); rintro e w' ⟨rfl, ⟨nd, rfl⟩⟩; refine ⟨_, rfl, ?_⟩) | ((with_reducible refine gate_callee (f := 43) rfl ?_); refine goesL_ (some 23) rfl rfl Tryd.func43 (by kernel_rfl) rfl #[.slice A1 l1.length c1, .int .i64 x7_1] rfl (by (try simp only [List.map_toArray, List.map_cons, List.map_nil]); first | done | rfl | (simp only [List.length_drop, List.length_take]; rfl)) ?_; (with_reducible refine (filigreeref01_at.calls _ _ l1 x7_1 t476 _ ?side1 ?side2 A6.out).mono ?_); (case side1 => repeat (first | exact (Kd.C_below HR1.out (by repeat (first | (with_reducible first | exact HB.out | apply below_alloc | apply pw_below_drewN | apply below_drew1) | exact HB.out))) | (with_reducible refine Kd.C_alloc ?_ _) | (with_reducible refine Kd.C_drewN ?_ _) | (with_reducible refine Kd.C_drew ?_))); (case side2 => exact HC1.out); rintro e w' ⟨rfl, ⟨nd, rfl⟩⟩; refine ⟨_, rfl, ?_⟩) | ((with_reducible refine gate_builtin (b := .append) (xs := #[.tmp 27, .tmp 30]) rfl ?_); at_builtin; refine Kd.R_append (Kd.int .u8) (w0 := w) w.heap.size rfl (.tmp 27) (.tmp 30) 50 5 (.int .u8 0) 1 rfl Tryd.underlying50 info5 rfl (by decide) (by omega) u5 x5_1 (Go.bits .and .u8 ((t475 + t476 + x6_1) % 256) 1) [.int .u8 (Go.bits .and .u8 ((t475 + t476 + x6_1) % 256) 1)] (fun _ => True) (fun _ => False) rfl rfl ?aP (fun _ hk => hk.elim) ?aF ?aO ?aB ?aS ?aL ?_; (case aP => exact rfl); (case aB => exact (by repeat (first | (with_reducible first | exact HB.out | apply below_alloc | apply pw_below_drewN | apply below_drew1) | exact HB.out))); (case aF => exact (fun _ _ => trivial)); (case aO => exact (by (with_reducible repeat (first | apply Kd.R_alloc | apply Kd.R_drewN | apply Kd.R_drew)); exact HO_5.out)); (case aS => exact (below_size (by repeat (first | (with_reducible first | exact HB.out | apply below_alloc | apply pw_below_drewN | apply below_drew1) | exact HB.out)))); (case aL => have := LMc7.out; omega); intro v478 w8 ho hb hg hat; rw [show ((t475 + t476 + x6_1) % 256) = ((((t475 + t476) % 256) + x6_1) % 256) from by omega] at ho; rw [← Ny477.out] at ho; have n0_ := Aside0.mk (hb); have n1_ := Aside0.mk (ho); clear HB; clear HO_5; have HB := n0_; have HO479 := n1_; clear n0_ n1_; clear ho hb hg hat))
          go_roundg k1
          case measure => have := HK1.out; omega
          case rel => exact ⟨(y477), (((((t475 + t476) % 256) + x6_1) % 256) / 2), (wrap64 (x7_1 + 1)), (by first | rfl | (simp; done) | (simp [*]; done)), (by first | rfl | (simp; done) | (simp [*]; done)), H', ⟨by have := HK1.out; omega⟩, ⟨by (with_reducible repeat (first | apply Kd.R_alloc | apply Kd.R_drewN | apply Kd.R_drew)); exact HO479.out⟩, ⟨by repeat (first | (with_reducible first | exact HB.out | apply below_alloc | apply pw_below_drewN | apply below_drew1) | exact HB.out)⟩⟩
        · rw [if_neg c7] at H
          exact absurd H (by simp)
      · rw [if_neg c4] at H
        have c4b0 : decide (x7_1 ≤ (ji3)) = false := decide_eq_false c4
        clear c4
        obtain rfl := Option.some.inj H
        go_wp2
        go_ret
        exact ⟨_, by first | rfl | (simp [errW_none, errW_some] <;> rfl) | (simp only [← hji3]; first | rfl | (simp [errW_none, errW_some] <;> rfl)) | (simp [*, errW_none, errW_some] <;> rfl), by (with_reducible repeat (first | apply Kd.R_alloc | apply Kd.R_drewN | apply Kd.R_drew)); exact HO_5.out, by repeat (first | (with_reducible first | exact HB.out | apply below_alloc | apply pw_below_drewN | apply below_drew1) | exact HB.out)⟩

end Go.Proofs.YtihlelniaiadgaaDoor.A
-- written by a program of this session (a turned print; wip/tools): Lean checks it
namespace Go.Proofs.YtihlelniaiadgaaDoor.A
open Go.RowKit Go.Proofs.YtihlelniaiadgaaDoorW.PrintWords Go.Proofs.YtihlelniaiadgaaDoorW.PrintLast Go.Proofs.YtihlelniaiadgaaDoorW.PrintMore
attribute [local go_sem] max2_int min2_int max_two min_two max_three min_three max_four min_four   -- for this text's walks alone
set_option linter.unusedVariables false
set_option linter.unusedSimpArgs false

/-! ### filigreeref01_limbs: function 45 -/
def filigreeref01_limbs.l0 : Nat → List Int → List Int → Int → Option (List Int)
  | 0, _, _, _ => none
  | k + 1, x0, x3, x4 => if x4 < (x0.length : Int) then (if 0 ≤ (wrap64 (Int.tdiv x4 32)) then (if (wrap64 (Int.tdiv x4 32)) < (x3.length : Int) then (if 0 ≤ x4 then (if 0 ≤ (IntKind.u64.wrap (Int.tmod x4 32)) then (filigreeref01_limbs.l0 k x0 (x3.set ((wrap64 (Int.tdiv x4 32)) : Int).toNat (Go.bits .or .u32 (rd x3 (wrap64 (Int.tdiv x4 32))) (shl .u32 ((rd x0 x4) % 4294967296) (IntKind.u64.wrap (Int.tmod x4 32))))) (wrap64 (x4 + 1))) else (none)) else (none)) else (none)) else (none)) else ((filigreeref01_Norm.f k x3).bind fun t486 => (some t486))
def filigreeref01_limbs.f (k : Nat) (l0 : List Int) : Option (List Int) := if 0 ≤ (wrap64 (Int.tdiv (wrap64 ((l0.length : Int) + 31)) 32)) then (if (wrap64 (Int.tdiv (wrap64 ((l0.length : Int) + 31)) 32) : Int).toNat ≤ 70368744177664 then (filigreeref01_limbs.l0 k l0 (List.replicate (wrap64 (Int.tdiv (wrap64 ((l0.length : Int) + 31)) 32) : Int).toNat 0) 0) else (none)) else (none)
theorem filigreeref01_limbs.mono_l : ∀ k, (∀ y0 y1 y2, LeO (filigreeref01_limbs.l0 k y0 y1 y2) (filigreeref01_limbs.l0 (k + 1) y0 y1 y2))
  | 0 => fun _ _ _ r h => by simp [filigreeref01_limbs.l0] at h
  | k + 1 => by
    have ih0 := filigreeref01_limbs.mono_l k
    · intro y0 y1 y2
      unfold filigreeref01_limbs.l0
      repeat' first
      | (with_reducible exact ih0 _ _ _)
      | (with_reducible exact filigreeref01_Norm.mono _ _)
      | (with_reducible exact LeO.refl _)
      | (with_reducible exact LeO.none _)
      | (with_reducible refine LeO.ite ?_ ?_)
      | (with_reducible refine LeO.bind ?_ (fun _ => ?_))
      | exact ih0 _ _ _
      | exact filigreeref01_Norm.mono _ _
      | exact LeO.none _
      | refine LeO.ite ?_ ?_
      | refine LeO.bind ?_ (fun _ => ?_)
theorem filigreeref01_limbs.mono : ∀ a0 k, LeO (filigreeref01_limbs.f k a0) (filigreeref01_limbs.f (k + 1) a0) := by
  intro a0 k
  have ih0 := filigreeref01_limbs.mono_l k
  unfold filigreeref01_limbs.f
  repeat' first
      | (with_reducible exact ih0 _ _ _)
      | (with_reducible exact filigreeref01_Norm.mono _ _)
      | (with_reducible exact LeO.refl _)
      | (with_reducible exact LeO.none _)
      | (with_reducible refine LeO.ite ?_ ?_)
      | (with_reducible refine LeO.bind ?_ (fun _ => ?_))
      | exact ih0 _ _ _
      | exact filigreeref01_Norm.mono _ _
      | exact LeO.none _
      | refine LeO.ite ?_ ?_
      | refine LeO.bind ?_ (fun _ => ?_)
def filigreeref01_limbs.T5 : Bool × List (List Nat × List Nat) := (true, [([], []), ([], []), ([1], [1]), ([], []), ([], []), ([4], [4]), ([3, 5], [3, 5]), ([6], [6]), ([], []), ([], []), ([8, 9], [8, 9]), ([10], [10]), ([11], [11]), ([], []), ([13], [13]), ([14], [14]), ([12, 15], [12, 15]), ([7, 16], [7, 16]), ([0, 2, 0, 1, 2, 3, 4, 5, 6, 7, 8, 9, 10, 11, 12, 13, 14, 15, 16, 17], [0, 2]), ([18, 17, 0, 1, 2, 3, 4, 5, 6, 7, 8, 9, 10, 11, 12, 13, 14, 15, 16, 17], [17, 18])])
def filigreeref01_limbs.B5 : List Nat := [0, 0, 2, 0, 0, 16, 56, 120, 0, 0, 768, 1792, 3840, 0, 8192, 24576, 65280, 131064, 262143, 524287]
theorem filigreeref01_limbs.tab5 : rtab .any (opsOf Tryd.f45 5) = filigreeref01_limbs.T5 := by kernel_rfl
theorem filigreeref01_limbs.bits5 : waitsOk filigreeref01_limbs.T5.2 filigreeref01_limbs.B5 = true := by kernel_rfl
set_option maxHeartbeats 8000000 in
set_option maxRecDepth 100000 in
theorem filigreeref01_limbs.calls (k : Nat) (A0 : Option Addr) (c0 : Nat) (l0 : List Int) (r : List Int) (w : World) (hr0 : Kd.C (Kd.int .u8) w A0 l0.length l0) (hc0 : l0.length ≤ c0) (h : filigreeref01_limbs.f k l0 = some r) :
    Calls Tryd.prog 45 #[.slice A0 l0.length c0] w fun e w' => ∃ v0_ : Value, e = .returned (v0_) ∧ Kd.R (Kd.int .u32) 36 w' w.heap.size (fun _ => True) v0_ r ∧ Below w.heap.size w w' := by
  have HR0 := Aside0.mk hr0
  have HC0 := Aside0.mk hc0
  clear hr0 hc0
  have HB := Aside0.mk (Below.refl w.heap.size w)
  have H : (if 0 ≤ (wrap64 (Int.tdiv (wrap64 ((l0.length : Int) + 31)) 32)) then (if (wrap64 (Int.tdiv (wrap64 ((l0.length : Int) + 31)) 32) : Int).toNat ≤ 70368744177664 then (filigreeref01_limbs.l0 k l0 (List.replicate (wrap64 (Int.tdiv (wrap64 ((l0.length : Int) + 31)) 32) : Int).toNat 0) 0) else (none)) else (none)) = some r := h
  clear h
  obtain ⟨ji2, hji2⟩ : ∃ j_ : Int, (wrap64 (Int.tdiv (wrap64 ((l0.length : Int) + 31)) 32)) = j_ := ⟨_, rfl⟩
  replace H : (if 0 ≤ (ji2) then (if (ji2 : Int).toNat ≤ 70368744177664 then (filigreeref01_limbs.l0 k l0 (List.replicate (ji2 : Int).toNat 0) 0) else (none)) else (none)) = some r := by first | (rw [hji2] at H; exact H) | (simp only [hji2] at H ⊢; exact H)
  have hji2w : (IntKind.i64.wrap (Int.tdiv (wrap64 ((l0.length : Int) + 31)) 32)) = ji2 := (i64_w _).trans hji2
  by_cases c3 : 0 ≤ (ji2)
  · rw [if_pos c3] at H
    have c3b0 := eq_true c3
    have c3b1 : decide (0 ≤ (ji2)) = true := decide_eq_true c3
    clear c3
    by_cases c4 : (ji2 : Int).toNat ≤ 70368744177664
    · rw [if_pos c4] at H
      have c4b0 := eq_true c4
      have c4b1 : decide ((ji2 : Int).toNat ≤ 70368744177664) = true := decide_eq_true c4
      clear c4
      obtain ⟨y480, hy480⟩ : ∃ y_ : List Int, y_ = (List.replicate (ji2 : Int).toNat 0) := ⟨_, rfl⟩
      replace H : (filigreeref01_limbs.l0 k l0 y480 0) = some r := by first | (rw [hy480]; with_reducible exact H) | (have H2_ := (Option.bind_some _ _).symm.trans H; rw [hy480]; with_reducible exact H2_) | (have H2_ := (Option.bind_some _ _).symm.trans H; with_reducible exact H2_) | with_reducible exact H | (rw [hy480]; exact H) | exact H
      have Ny480 := Aside0.mk hy480
      clear hy480
      have H' := Aside0.mk H
      clear H
      go_enter Tryd.func45, Tryd.ntmps45
      go_wp2_with (first | ((with_reducible refine gate_dst (N := 9) rfl ?_); refine Kd.R_make (Kd.int .u32) _ 36 rfl (N := 9) rfl 23 _ _ rfl ji2 rfl rfl Tryd.underlying23 (.int .u32 0) 4 info36 rfl (by decide) (by omega) 0 (ok := fun _ => True) (okp := fun _ => True) rfl (fun _ hk => hk) trivial (of_decide_eq_true (by first | (with_reducible assumption) | assumption)) (Nat.le_trans (Nat.mul_le_mul_right _ (of_decide_eq_true (by first | (with_reducible assumption) | assumption) : ji2.toNat ≤ 70368744177664)) (by omega)) (Below.refl _ _) (Nat.le_refl _) ?_; intro v481 w5 ho6 hb hg_ hnew_; clear hg_ hnew_; (first | rw [← Ny480.out] at ho6 | (simp only [Int.reduceToNat] at ho6; rw [← Ny480.out] at ho6)); have n0_ := Aside0.mk (Kd.R_lower ho6 (below_size (by repeat (first | (with_reducible first | exact HB.out | apply below_alloc | apply pw_below_drewN | apply below_drew1) | exact HB.out)))); have n1_ := Aside0.mk (below_step (by repeat (first | (with_reducible first | exact HB.out | apply below_alloc | apply pw_below_drewN | apply below_drew1) | exact HB.out)) hb); clear HB; have HO482 := n0_; have HB := n1_; clear n0_ n1_; clear hb ho6))
      go_loopg [4] k (fun kq v4 w' => ∃ (x3_1 : List Int) (x4_1 : Int), v4 = .int .i64 x4_1 ∧ Aside0 (filigreeref01_limbs.l0 kq l0 x3_1 x4_1 = some r) ∧ Aside0 (kq ≤ k) ∧ Aside0 (Kd.R (Kd.int .u32) 36 w' w.heap.size (fun _ => True) v481 x3_1) ∧ Aside0 (Below w.heap.size w w'))
      case atStart => exact ⟨(y480), (0), (by first | rfl | (simp; done) | (simp [*]; done)), H', ⟨Nat.le_refl _⟩, ⟨by (with_reducible repeat (first | apply Kd.R_alloc | apply Kd.R_drewN | apply Kd.R_drew)); exact HO482.out⟩, ⟨by repeat (first | (with_reducible first | exact HB.out | apply below_alloc | apply pw_below_drewN | apply below_drew1) | exact HB.out)⟩⟩
      case round =>
        clear H'
        try clear p2
        try clear c3
        try clear c3b0
        try clear c3b1
        try clear c4
        try clear c4b0
        try clear c4b1
        try clear p6
        obtain ⟨x3_1, x4_1, rfl, HA, HK1, HO_3, HB⟩ := hrel
        cases gk with
        | zero => exact absurd HA.out (by simp [filigreeref01_limbs.l0])
        | succ k1 =>
          have H := HA.out
          clear HA
          simp only [filigreeref01_limbs.l0] at H
          by_cases c7 : x4_1 < (l0.length : Int)
          · rw [if_pos c7] at H
            have c7b0 : decide (x4_1 < (l0.length : Int)) = true := decide_eq_true c7
            clear c7
            obtain ⟨ji8, hji8⟩ : ∃ j_ : Int, (wrap64 (Int.tdiv x4_1 32)) = j_ := ⟨_, rfl⟩
            replace H : (if 0 ≤ (ji8) then (if (ji8) < (x3_1.length : Int) then (if 0 ≤ x4_1 then (if 0 ≤ (IntKind.u64.wrap (Int.tmod x4_1 32)) then (filigreeref01_limbs.l0 k1 l0 (x3_1.set ((ji8) : Int).toNat (Go.bits .or .u32 (rd x3_1 (ji8)) (shl .u32 ((rd l0 x4_1) % 4294967296) (IntKind.u64.wrap (Int.tmod x4_1 32))))) (wrap64 (x4_1 + 1))) else (none)) else (none)) else (none)) else (none)) = some r := by first | (rw [hji8] at H; exact H) | (simp only [hji8] at H ⊢; exact H)
            have hji8w : (IntKind.i64.wrap (Int.tdiv x4_1 32)) = ji8 := (i64_w _).trans hji8
            by_cases c9 : 0 ≤ (ji8)
            · rw [if_pos c9] at H
              have c9b0 : decide (0 ≤ (ji8)) = true := decide_eq_true c9
              clear c9
              by_cases c10 : (ji8) < (x3_1.length : Int)
              · rw [if_pos c10] at H
                have c10b0 : decide ((ji8) < (x3_1.length : Int)) = true := decide_eq_true c10
                clear c10
                by_cases c11 : 0 ≤ x4_1
                · rw [if_pos c11] at H
                  have c11b0 : decide (0 ≤ x4_1) = true := decide_eq_true c11
                  clear c11
                  obtain ⟨ji12, hji12⟩ : ∃ j_ : Int, (IntKind.u64.wrap (Int.tmod x4_1 32)) = j_ := ⟨_, rfl⟩
                  replace H : (if 0 ≤ (ji12) then (filigreeref01_limbs.l0 k1 l0 (x3_1.set ((ji8) : Int).toNat (Go.bits .or .u32 (rd x3_1 (ji8)) (shl .u32 ((rd l0 x4_1) % 4294967296) (ji12)))) (wrap64 (x4_1 + 1))) else (none)) = some r := by first | (rw [hji12] at H; exact H) | (simp only [hji12] at H ⊢; exact H)
                  by_cases c13 : 0 ≤ (ji12)
                  · rw [if_pos c13] at H
                    have c13b0 := eq_true c13
                    have c13b1 : decide (0 ≤ (ji12)) = true := decide_eq_true c13
                    clear c13
                    obtain ⟨ji14, hji14⟩ : ∃ j_ : Int, (shl .u32 ((rd l0 x4_1) % 4294967296) (ji12)) = j_ := ⟨_, rfl⟩
                    replace H : (filigreeref01_limbs.l0 k1 l0 (x3_1.set ((ji8) : Int).toNat (Go.bits .or .u32 (rd x3_1 (ji8)) (ji14))) (wrap64 (x4_1 + 1))) = some r := by first | (rw [hji14] at H; exact H) | (simp only [hji14] at H ⊢; exact H)
                    have hji14_ : (IntKind.u32.wrap (((rd l0 x4_1) % 4294967296) * 2 ^ min (ji12).toNat 32)) = ji14 := hji14
                    have hji14m : ((((rd l0 x4_1) % 4294967296) * 2 ^ min (ji12).toNat 32) % 4294967296) = ji14 := hji14_
                    have hji14z : (ji12) ≤ 32 → (IntKind.u32.wrap (((rd l0 x4_1) % 4294967296) * 2 ^ (ji12).toNat)) = ji14 := shl_small hji14
                    obtain ⟨y485, hy485⟩ : ∃ y_ : List Int, y_ = (x3_1.set ((ji8) : Int).toNat (Go.bits .or .u32 (rd x3_1 (ji8)) (ji14))) := ⟨_, rfl⟩
                    replace H : (filigreeref01_limbs.l0 k1 l0 y485 (wrap64 (x4_1 + 1))) = some r := by first | (rw [hy485]; with_reducible exact H) | (have H2_ := (Option.bind_some _ _).symm.trans H; rw [hy485]; with_reducible exact H2_) | (have H2_ := (Option.bind_some _ _).symm.trans H; with_reducible exact H2_) | with_reducible exact H | (rw [hy485]; exact H) | exact H
                    have Ny485 := Aside0.mk hy485
                    clear hy485
                    have H' := Aside0.mk H
                    clear H
                    try go_wp2
                    have n0_ := Aside0.mk (Kd.R_drew HO_3.out)
                    have n1_ := Aside0.mk (below_drew1 HB.out)
                    clear HO_3
                    clear HB
                    have HO_3 := n0_
                    have HB := n1_
                    clear n0_ n1_
                    obtain ⟨Ao17, co17, eo17⟩ := Kd.R_slice HO_3.out
                    (first | subst eo17 | (injection eo17 with f1_ f2_ f3_; have f4_ := f1_.symm; have f5_ := f3_.symm; clear f1_ f2_ f3_; subst f4_; subst f5_))
                    have p483 : 0 ≤ ((ji8) : Int) := of_decide_eq_true (by first | (with_reducible assumption) | assumption)
                    have q483 : (ji8) < (x3_1.length : Int) := of_decide_eq_true (by first | (with_reducible assumption) | assumption)
                    obtain ⟨ad483, e483, hx483_0⟩ := Kd.at_int (Kd.R_reads' HO_3.out).2.2 (ji8) p483 q483
                    cases e483
                    replace p483 := eq_true p483
                    replace q483 := eq_true q483
                    have p484 : 0 ≤ (x4_1 : Int) := of_decide_eq_true (by first | (with_reducible assumption) | assumption)
                    have q484 : x4_1 < (l0.length : Int) := of_decide_eq_true (by first | (with_reducible assumption) | assumption)
                    obtain ⟨ad484, e484, hx484_0⟩ := Kd.at_int HR0.out x4_1 p484 q484
                    have hw484_0 := hx484_0
                    cases e484
                    replace hx484_0 := (HB.out.cell (World.block_lt_of_cell? w _ hx484_0)).trans hx484_0
                    replace p484 := eq_true p484
                    replace q484 := eq_true q484
                    have p15 : 0 ≤ ((ji8) : Int) := of_decide_eq_true (by first | (with_reducible assumption) | assumption)
                    have q15 : ((ji8) : Int) < ((x3_1.length : Int) : Int) := of_decide_eq_true (by first | (with_reducible assumption) | assumption)
                    obtain ⟨go15, co15, eo15, gb15, gl15, cl15, HG15⟩ := Kd.R_form HO_3.out (by omega)
                    (first | cases eo15 | (injection eo15 with ea_ en_ ec_; (first | subst ea_ | (injection ea_ with ea_; subst ea_)); subst ec_; clear en_))
                    have GB15 := Aside0.mk gb15
                    have GG15 := Aside0.mk HG15
                    clear gb15 gl15 HG15
                    (first | simp only [add_plain] at hx483_0 | skip)
                    obtain ⟨hx15_0, hf15_0⟩ := Kd.R_celln 0 HO_3.out ((ji8) : Int) p15 q15
                    replace p15 := eq_true p15
                    replace q15 := eq_true q15
                    have HP18 := Kd.R_putn HO_3.out ((ji8) : Int) (Go.bits .or .u32 (rd x3_1 (ji8)) (ji14))
                    rw [← Ny485.out] at HP18
                    have HQ18 := Aside0.mk HP18
                    clear HP18
                    refine start_ (n := 20) (S := fun w' => w'.cell? ⟨go15, ((ji8)).toNat, none⟩ = some (.int .u32 (rd x3_1 (ji8))) ∧ w'.cell? (ad484.add (x4_1).toNat) = some (.int .u8 (rd l0 x4_1))) (ds := [19]) #[false, false, false, false, false, false, false, false, false, false, false, false, false, false, false, false, false, false, false, false] (by kernel_rfl) rfl rfl ⟨hx483_0, ((HB.out.cell (World.block_lt_of_cell? w _ hw484_0)).trans hw484_0)⟩ (fun hHeld => ?_); refine with_tabW filigreeref01_limbs.tab5 filigreeref01_limbs.bits5 (fun HT_ HW_ => ?_)
                    generalize wr.drew = w16 at HO_3 HB GG15 HQ18 hf15_0 hx15_0 hx483_0 hx484_0 hHeld ⊢
                    refine pure_ (i := 0) (N := some 16) (v := ?_) (a' := ?_) #[true, false, false, false, false, false, false, false, false, false, false, false, false, false, false, false, false, false, false, false] rfl rfl (any_of HT_.out (by kernel_rfl)) (fun _ _ _ h => h) (Or.inl ⟨by rfl, ?_⟩) ?_ ?_
                    rotate_left
                    · intro w'
                      go_simp
                      with_reducible rfl
                    rotate_left
                    · simp only [Act.put, List.setIfInBounds_toArray, List.set_cons_zero, List.set_cons_succ, i64_w, i32_w]
                      rfl
                    refine pure_ (i := 1) (N := some 17) (v := ?_) (a' := ?_) #[true, true, false, false, false, false, false, false, false, false, false, false, false, false, false, false, false, false, false, false] rfl rfl (any_of HT_.out (by kernel_rfl)) (fun _ _ _ h => h) (Or.inl ⟨by rfl, ?_⟩) ?_ ?_
                    rotate_left
                    · intro w'
                      go_simp
                      with_reducible rfl
                    rotate_left
                    · simp only [Act.put, List.setIfInBounds_toArray, List.set_cons_zero, List.set_cons_succ, i64_w, i32_w]
                      rfl
                    refine pure_ (i := 2) (N := some 18) (v := ?_) (a' := ?_) #[true, true, true, false, false, false, false, false, false, false, false, false, false, false, false, false, false, false, false, false] rfl rfl (any_of HT_.out (by kernel_rfl)) (fun _ _ _ h => h) (Or.inl ⟨by rfl, ?_⟩) ?_ ?_
                    rotate_left
                    · intro w'
                      go_simp
                      with_reducible rfl
                    rotate_left
                    · simp only [Act.put, List.setIfInBounds_toArray, List.set_cons_zero, List.set_cons_succ, i64_w, i32_w]
                      rfl
                    refine pure_ (i := 3) (N := some 19) (v := ?_) (a' := ?_) #[true, true, true, true, false, false, false, false, false, false, false, false, false, false, false, false, false, false, false, false] rfl rfl (any_of HT_.out (by kernel_rfl)) (fun _ _ _ h => h) (Or.inl ⟨by rfl, ?_⟩) ?_ ?_
                    rotate_left
                    · intro w'
                      go_simp
                      with_reducible rfl
                    rotate_left
                    · simp only [Act.put, List.setIfInBounds_toArray, List.set_cons_zero, List.set_cons_succ, i64_w, i32_w]
                      rfl
                    refine pure_ (i := 4) (N := some 20) (v := ?_) (a' := ?_) #[true, true, true, true, true, false, false, false, false, false, false, false, false, false, false, false, false, false, false, false] rfl rfl (any_of HT_.out (by kernel_rfl)) (fun _ _ _ h => h) (Or.inl ⟨by rfl, ?_⟩) ?_ ?_
                    rotate_left
                    · intro w'
                      go_simp
                      with_reducible rfl
                    rotate_left
                    · simp only [Act.put, List.setIfInBounds_toArray, List.set_cons_zero, List.set_cons_succ, i64_w, i32_w]
                      rfl
                    refine pure_ (i := 5) (N := some 21) (v := ?_) (a' := ?_) #[true, true, true, true, true, true, false, false, false, false, false, false, false, false, false, false, false, false, false, false] rfl rfl (any_of HT_.out (by kernel_rfl)) (fun _ _ _ h => h) (Or.inl ⟨by rfl, ?_⟩) ?_ ?_
                    rotate_left
                    · intro w'
                      go_simp
                      with_reducible rfl
                    rotate_left
                    · simp only [Act.put, List.setIfInBounds_toArray, List.set_cons_zero, List.set_cons_succ, i64_w, i32_w]
                      rfl
                    refine pure_ (i := 6) (N := some 22) (v := ?_) (a' := ?_) #[true, true, true, true, true, true, true, false, false, false, false, false, false, false, false, false, false, false, false, false] rfl rfl (any_of HT_.out (by kernel_rfl)) (fun _ _ _ h => h) (Or.inl ⟨by rfl, ?_⟩) ?_ ?_
                    rotate_left
                    · intro w'
                      go_simp
                      with_reducible rfl
                    rotate_left
                    · simp only [Act.put, List.setIfInBounds_toArray, List.set_cons_zero, List.set_cons_succ, i64_w, i32_w]
                      rfl
                    refine pure_ (i := 8) (N := some 24) (v := ?_) (a' := ?_) #[true, true, true, true, true, true, true, false, true, false, false, false, false, false, false, false, false, false, false, false] rfl rfl (any_of HT_.out (by kernel_rfl)) (fun _ _ _ h => h) (Or.inl ⟨by rfl, ?_⟩) ?_ ?_
                    rotate_left
                    · intro w'
                      go_simp
                      with_reducible rfl
                    rotate_left
                    · simp only [Act.put, List.setIfInBounds_toArray, List.set_cons_zero, List.set_cons_succ, i64_w, i32_w]
                      rfl
                    refine pure_ (i := 9) (N := some 25) (v := ?_) (a' := ?_) #[true, true, true, true, true, true, true, false, true, true, false, false, false, false, false, false, false, false, false, false] rfl rfl (any_of HT_.out (by kernel_rfl)) (fun _ _ _ h => h) (Or.inl ⟨by rfl, ?_⟩) ?_ ?_
                    rotate_left
                    · intro w'
                      go_simp
                      with_reducible rfl
                    rotate_left
                    · simp only [Act.put, List.setIfInBounds_toArray, List.set_cons_zero, List.set_cons_succ, i64_w, i32_w]
                      rfl
                    refine pure_ (i := 10) (N := some 26) (v := ?_) (a' := ?_) #[true, true, true, true, true, true, true, false, true, true, true, false, false, false, false, false, false, false, false, false] rfl rfl (any_of HT_.out (by kernel_rfl)) (fun _ _ _ h => h) (Or.inl ⟨by rfl, ?_⟩) ?_ ?_
                    rotate_left
                    · intro w'
                      go_simp
                      with_reducible rfl
                    rotate_left
                    · simp only [Act.put, List.setIfInBounds_toArray, List.set_cons_zero, List.set_cons_succ, i64_w, i32_w]
                      rfl
                    refine pure_ (i := 13) (N := some 29) (v := ?_) (a' := ?_) #[true, true, true, true, true, true, true, false, true, true, true, false, false, true, false, false, false, false, false, false] rfl rfl (any_of HT_.out (by kernel_rfl)) (fun _ _ _ h => h) (Or.inl ⟨by rfl, ?_⟩) ?_ ?_
                    rotate_left
                    · intro w'
                      go_simp
                      with_reducible rfl
                    rotate_left
                    · simp only [Act.put, List.setIfInBounds_toArray, List.set_cons_zero, List.set_cons_succ, i64_w, i32_w]
                      rfl
                    refine pure_ (i := 14) (N := some 30) (v := ?_) (a' := ?_) #[true, true, true, true, true, true, true, false, true, true, true, false, false, true, true, false, false, false, false, false] rfl rfl (any_of HT_.out (by kernel_rfl)) (fun _ _ _ h => h) (Or.inl ⟨by rfl, ?_⟩) ?_ ?_
                    rotate_left
                    · intro w'
                      go_simp
                      with_reducible rfl
                    rotate_left
                    · simp only [Act.put, List.setIfInBounds_toArray, List.set_cons_zero, List.set_cons_succ, i64_w, i32_w]
                      rfl
                    refine pure_ (i := 15) (N := some 31) (v := ?_) (a' := ?_) #[true, true, true, true, true, true, true, false, true, true, true, false, false, true, true, true, false, false, false, false] rfl rfl (any_of HT_.out (by kernel_rfl)) (fun _ _ _ h => h) (Or.inl ⟨by rfl, ?_⟩) ?_ ?_
                    rotate_left
                    · intro w'
                      go_simp
                      with_reducible rfl
                    rotate_left
                    · simp only [Act.put, List.setIfInBounds_toArray, List.set_cons_zero, List.set_cons_succ, i64_w, i32_w]
                      rfl
                    refine take_ (i := 7) (N := some 23) (v := ?_) (a' := ?_) #[true, true, true, true, true, true, true, true, true, true, true, false, false, true, true, true, false, false, false, false] rfl rfl (take_ofW HT_.out HW_.out (by kernel_rfl)) (fun _ _ _ h => h) (Or.inl ⟨by rfl, ?_⟩) hHeld ?_ ?_
                    rotate_left
                    · rintro w' ⟨s0, s1⟩
                      go_simp
                      with_reducible rfl
                    rotate_left
                    · simp only [Act.put, List.setIfInBounds_toArray, List.set_cons_zero, List.set_cons_succ, i64_w, i32_w]
                      rfl
                    refine take_ (i := 11) (N := some 27) (v := ?_) (a' := ?_) #[true, true, true, true, true, true, true, true, true, true, true, true, false, true, true, true, false, false, false, false] rfl rfl (take_ofW HT_.out HW_.out (by kernel_rfl)) (fun _ _ _ h => h) (Or.inl ⟨by rfl, ?_⟩) hHeld ?_ ?_
                    rotate_left
                    · rintro w' ⟨s0, s1⟩
                      go_simp
                      with_reducible rfl
                    rotate_left
                    · simp only [Act.put, List.setIfInBounds_toArray, List.set_cons_zero, List.set_cons_succ, i64_w, i32_w]
                      rfl
                    refine pure_ (i := 12) (N := some 28) (v := ?_) (a' := ?_) #[true, true, true, true, true, true, true, true, true, true, true, true, true, true, true, true, false, false, false, false] rfl rfl (any_of HT_.out (by kernel_rfl)) (fun _ _ _ h => h) (Or.inl ⟨by rfl, ?_⟩) ?_ ?_
                    rotate_left
                    · intro w'
                      go_simp
                      with_reducible rfl
                    rotate_left
                    · simp only [Act.put, List.setIfInBounds_toArray, List.set_cons_zero, List.set_cons_succ, i64_w, i32_w]
                      rfl
                    refine pure_ (i := 16) (N := some 32) (v := ?_) (a' := ?_) #[true, true, true, true, true, true, true, true, true, true, true, true, true, true, true, true, true, false, false, false] rfl rfl (any_of HT_.out (by kernel_rfl)) (fun _ _ _ h => h) (Or.inl ⟨by rfl, ?_⟩) ?_ ?_
                    rotate_left
                    · intro w'
                      go_simp
                      with_reducible rfl
                    rotate_left
                    · simp only [Act.put, List.setIfInBounds_toArray, List.set_cons_zero, List.set_cons_succ, i64_w, i32_w]
                      rfl
                    refine pure_ (i := 17) (N := some 33) (v := ?_) (a' := ?_) #[true, true, true, true, true, true, true, true, true, true, true, true, true, true, true, true, true, true, false, false] rfl rfl (any_of HT_.out (by kernel_rfl)) (fun _ _ _ h => h) (Or.inl ⟨by rfl, ?_⟩) ?_ ?_
                    rotate_left
                    · intro w'
                      go_simp
                      with_reducible rfl
                    rotate_left
                    · simp only [Act.put, List.setIfInBounds_toArray, List.set_cons_zero, List.set_cons_succ, i64_w, i32_w]
                      rfl
                    refine pure_ (i := 18) (N := some 34) (v := ?_) (a' := ?_) #[true, true, true, true, true, true, true, true, true, true, true, true, true, true, true, true, true, true, true, false] rfl rfl (any_of HT_.out (by kernel_rfl)) (fun _ _ _ h => h) (Or.inl ⟨by rfl, ?_⟩) ?_ ?_
                    rotate_left
                    · intro w'
                      go_simp
                      with_reducible rfl
                    rotate_left
                    · simp only [Act.put, List.setIfInBounds_toArray, List.set_cons_zero, List.set_cons_succ, i64_w, i32_w]
                      rfl
                    refine last_ (i := 19) (N := none) #[true, true, true, true, true, true, true, true, true, true, true, true, true, true, true, true, true, true, true, true] rfl rfl (one_of HT_.out (by kernel_rfl)) (by decide) (fun K hK => ?_)
                    refine skip_ (w1 := ?_) (by rfl) rfl ?_ ?_
                    rotate_left
                    · go_simp
                      rfl
                    refine hK.out _ _ ?_
                    clear hK K
                    refine done_ (done_of HT_.out (by kernel_rfl)) ?_
                    try go_wp2
                    go_roundg k1
                    case measure => have := HK1.out; omega
                    case rel => exact ⟨(y485), (wrap64 (x4_1 + 1)), (by first | rfl | (simp; done) | (simp [*]; done)), H', ⟨by have := HK1.out; omega⟩, ⟨by (with_reducible repeat (first | apply Kd.R_alloc | apply Kd.R_drewN | apply Kd.R_drew)); (first | exact HQ18.out | (rw [hji14m]; exact HQ18.out))⟩, ⟨by repeat (first | (with_reducible first | exact HB.out | apply below_alloc | apply pw_below_drewN | apply below_drew1 | refine below_set ?_ GB15.out) | exact HB.out)⟩⟩
                  · rw [if_neg c13] at H
                    exact absurd H (by simp)
                · rw [if_neg c11] at H
                  exact absurd H (by simp)
              · rw [if_neg c10] at H
                exact absurd H (by simp)
            · rw [if_neg c9] at H
              exact absurd H (by simp)
          · rw [if_neg c7] at H
            have c7b0 : decide (x4_1 < (l0.length : Int)) = false := decide_eq_false c7
            clear c7
            replace H := Option.bind_eq_some_iff.mp H
            obtain ⟨t486, A190, H⟩ := H
            replace H : (some t486) = some r := H
            have A19 := Aside0.mk A190
            clear A190
            obtain rfl := Option.some.inj H
            obtain ⟨Ao20, co20, eo20⟩ := Kd.R_slice HO_3.out
            subst eo20
            go_wp2_with (first | ((with_reducible refine gate_callee (f := 20) rfl ?_); refine goesL_ (some 36) rfl rfl Tryd.func20 (by kernel_rfl) rfl #[.slice Ao20 x3_1.length co20] rfl (by (try simp only [List.map_toArray, List.map_cons, List.map_nil]); first | done | rfl | (simp only [List.length_drop, List.length_take]; rfl)) ?_; (with_reducible refine (filigreeref01_Norm.calls k1 _ _ x3_1 t486 _ ?side1 ?side2 A19.out).mono ?_); (case side1 => repeat (first | exact (Kd.R_reads' HO_3.out).2.2 | (with_reducible refine Kd.C_alloc ?_ _) | (with_reducible refine Kd.C_drewN ?_ _) | (with_reducible refine Kd.C_drew ?_))); (case side2 => exact (Kd.R_reads' HO_3.out).2.1); rintro e w21 ⟨v487, rfl, ho0, hb⟩; refine ⟨_, rfl, ?_⟩; have n0_ := Aside0.mk (Kd.R_elder' (by (with_reducible repeat (first | apply Kd.R_alloc | apply Kd.R_drewN | apply Kd.R_drew)); exact HO_3.out) (Kd.R_base ho0) hb); have n1_ := Aside0.mk (Kd.R_lower (Kd.R_new' ho0 (Kd.R_lt (by (with_reducible repeat (first | apply Kd.R_alloc | apply Kd.R_drewN | apply Kd.R_drew)); exact HO_3.out))) (below_size (by repeat (first | (with_reducible first | exact HB.out | apply below_alloc | apply pw_below_drewN | apply below_drew1) | exact HB.out)))); have n2_ := Aside0.mk (below_step (by repeat (first | (with_reducible first | exact HB.out | apply below_alloc | apply pw_below_drewN | apply below_drew1) | exact HB.out)) hb); clear HO_3; clear HB; have HO_3 := n0_; have HO488 := n1_; have HB := n2_; clear n0_ n1_ n2_; (try clear hb); (try clear hb2); (try clear hk); (try clear hi); (try clear ho0)))
            go_ret
            exact ⟨_, by first | rfl | (simp [errW_none, errW_some] <;> rfl) | (simp only [← hji2]; first | rfl | (simp [errW_none, errW_some] <;> rfl)) | (simp [*, errW_none, errW_some] <;> rfl), by (with_reducible repeat (first | apply Kd.R_alloc | apply Kd.R_drewN | apply Kd.R_drew)); exact Kd.R_mono HO488.out (fun _ hk => trivial), by repeat (first | (with_reducible first | exact HB.out | apply below_alloc | apply pw_below_drewN | apply below_drew1) | exact HB.out)⟩
    · rw [if_neg c4] at H
      exact absurd H (by simp)
  · rw [if_neg c3] at H
    exact absurd H (by simp)

end Go.Proofs.YtihlelniaiadgaaDoor.A
-- written by a program of this session (a turned print; wip/tools): Lean checks it
namespace Go.Proofs.YtihlelniaiadgaaDoor.A
open Go.RowKit Go.Proofs.YtihlelniaiadgaaDoorW.PrintWords Go.Proofs.YtihlelniaiadgaaDoorW.PrintLast Go.Proofs.YtihlelniaiadgaaDoorW.PrintMore
attribute [local go_sem] max2_int min2_int max_two min_two max_three min_three max_four min_four   -- for this text's walks alone
set_option linter.unusedVariables false
set_option linter.unusedSimpArgs false

/-! ### filigreeref01_Mul: function 24 -/
def filigreeref01_Mul.l0 : Nat → List Int → List Int → List Int → List Int → Int → Option (List Int)
  | 0, _, _, _, _, _ => none
  | k + 1, x5, x6, x7, x8, x9 => if x9 < (x6.length : Int) then (if 0 ≤ x9 then (if (rd x6 x9) = 1 then ((some (([] : List Int) : List Int)).bind fun y502 => (if y502.length + x8.length < 140737488355328 then ((some (y502 ++ x8 : List Int)).bind fun y505 => (if y505.length + x5.length < 140737488355328 then ((filigreeref01_sum.f k x7 (y505 ++ x5)).bind fun t511 => (if x8.length < 140737488355328 then (filigreeref01_Mul.l0 k x5 x6 t511 (x8 ++ [0]) (wrap64 (x9 + 1))) else (none))) else (none))) else (none))) else (if x8.length < 140737488355328 then (filigreeref01_Mul.l0 k x5 x6 x7 (x8 ++ [0]) (wrap64 (x9 + 1))) else (none))) else (none)) else ((filigreeref01_limbs.f k x7).bind fun t520 => (some t520))
def filigreeref01_Mul.f (k : Nat) (l0 : List Int) (l1 : List Int) : Option (List Int) := (filigreeref01_Norm.f k l0).bind fun t489 => ((filigreeref01_bits.f k t489).bind fun t492 => ((filigreeref01_Norm.f k l1).bind fun t495 => ((filigreeref01_bits.f k t495).bind fun t498 => (filigreeref01_Mul.l0 k t492 t498 ([] : List Int) ([] : List Int) 0))))
theorem filigreeref01_Mul.mono_l : ∀ k, (∀ y0 y1 y2 y3 y4, LeO (filigreeref01_Mul.l0 k y0 y1 y2 y3 y4) (filigreeref01_Mul.l0 (k + 1) y0 y1 y2 y3 y4))
  | 0 => fun _ _ _ _ _ r h => by simp [filigreeref01_Mul.l0] at h
  | k + 1 => by
    have ih0 := filigreeref01_Mul.mono_l k
    · intro y0 y1 y2 y3 y4
      unfold filigreeref01_Mul.l0
      repeat' first
      | (with_reducible exact ih0 _ _ _ _ _)
      | (with_reducible exact filigreeref01_Norm.mono _ _)
      | (with_reducible exact filigreeref01_bits.mono _ _)
      | (with_reducible exact filigreeref01_limbs.mono _ _)
      | (with_reducible exact filigreeref01_sum.mono _ _ _)
      | (with_reducible exact LeO.refl _)
      | (with_reducible exact LeO.none _)
      | (with_reducible refine LeO.ite ?_ ?_)
      | (with_reducible refine LeO.bind ?_ (fun _ => ?_))
      | exact ih0 _ _ _ _ _
      | exact filigreeref01_Norm.mono _ _
      | exact filigreeref01_bits.mono _ _
      | exact filigreeref01_limbs.mono _ _
      | exact filigreeref01_sum.mono _ _ _
      | exact LeO.none _
      | refine LeO.ite ?_ ?_
      | refine LeO.bind ?_ (fun _ => ?_)
theorem filigreeref01_Mul.mono : ∀ a0 a1 k, LeO (filigreeref01_Mul.f k a0 a1) (filigreeref01_Mul.f (k + 1) a0 a1) := by
  intro a0 a1 k
  have ih0 := filigreeref01_Mul.mono_l k
  unfold filigreeref01_Mul.f
  repeat' first
      | (with_reducible exact ih0 _ _ _ _ _)
      | (with_reducible exact filigreeref01_Norm.mono _ _)
      | (with_reducible exact filigreeref01_bits.mono _ _)
      | (with_reducible exact filigreeref01_limbs.mono _ _)
      | (with_reducible exact filigreeref01_sum.mono _ _ _)
      | (with_reducible exact LeO.refl _)
      | (with_reducible exact LeO.none _)
      | (with_reducible refine LeO.ite ?_ ?_)
      | (with_reducible refine LeO.bind ?_ (fun _ => ?_))
      | exact ih0 _ _ _ _ _
      | exact filigreeref01_Norm.mono _ _
      | exact filigreeref01_bits.mono _ _
      | exact filigreeref01_limbs.mono _ _
      | exact filigreeref01_sum.mono _ _ _
      | exact LeO.none _
      | refine LeO.ite ?_ ?_
      | refine LeO.bind ?_ (fun _ => ?_)
set_option maxHeartbeats 8000000 in
set_option maxRecDepth 100000 in
theorem filigreeref01_Mul.calls (k : Nat) (A0 : Option Addr) (c0 : Nat) (l0 : List Int) (A1 : Option Addr) (c1 : Nat) (l1 : List Int) (r : List Int) (w : World) (hr0 : Kd.C (Kd.int .u32) w A0 l0.length l0) (hc0 : l0.length ≤ c0) (hr1 : Kd.C (Kd.int .u32) w A1 l1.length l1) (hc1 : l1.length ≤ c1) (h : filigreeref01_Mul.f k l0 l1 = some r) :
    Calls Tryd.prog 24 #[.slice A0 l0.length c0, .slice A1 l1.length c1] w fun e w' => ∃ v0_ : Value, e = .returned (v0_) ∧ Kd.R (Kd.int .u32) 36 w' w.heap.size (fun _ => True) v0_ r ∧ Below w.heap.size w w' := by
  have HR0 := Aside0.mk hr0
  have HC0 := Aside0.mk hc0
  clear hr0 hc0
  have HR1 := Aside0.mk hr1
  have HC1 := Aside0.mk hc1
  clear hr1 hc1
  have HB := Aside0.mk (Below.refl w.heap.size w)
  have H : ((filigreeref01_Norm.f k l0).bind fun t489 => ((filigreeref01_bits.f k t489).bind fun t492 => ((filigreeref01_Norm.f k l1).bind fun t495 => ((filigreeref01_bits.f k t495).bind fun t498 => (filigreeref01_Mul.l0 k t492 t498 ([] : List Int) ([] : List Int) 0))))) = some r := h
  clear h
  replace H := Option.bind_eq_some_iff.mp H
  obtain ⟨t489, A30, H⟩ := H
  replace H : ((filigreeref01_bits.f k t489).bind fun t492 => ((filigreeref01_Norm.f k l1).bind fun t495 => ((filigreeref01_bits.f k t495).bind fun t498 => (filigreeref01_Mul.l0 k t492 t498 ([] : List Int) ([] : List Int) 0)))) = some r := H
  have A3 := Aside0.mk A30
  clear A30
  replace H := Option.bind_eq_some_iff.mp H
  obtain ⟨t492, A40, H⟩ := H
  replace H : ((filigreeref01_Norm.f k l1).bind fun t495 => ((filigreeref01_bits.f k t495).bind fun t498 => (filigreeref01_Mul.l0 k t492 t498 ([] : List Int) ([] : List Int) 0))) = some r := H
  have A4 := Aside0.mk A40
  clear A40
  replace H := Option.bind_eq_some_iff.mp H
  obtain ⟨t495, A50, H⟩ := H
  replace H : ((filigreeref01_bits.f k t495).bind fun t498 => (filigreeref01_Mul.l0 k t492 t498 ([] : List Int) ([] : List Int) 0)) = some r := H
  have A5 := Aside0.mk A50
  clear A50
  replace H := Option.bind_eq_some_iff.mp H
  obtain ⟨t498, A60, H⟩ := H
  replace H : (filigreeref01_Mul.l0 k t492 t498 ([] : List Int) ([] : List Int) 0) = some r := H
  have A6 := Aside0.mk A60
  clear A60
  have H' := Aside0.mk H
  clear H
  go_enter Tryd.func24, Tryd.ntmps24
  go_wp2_with (first | ((with_reducible refine gate_callee (f := 20) rfl ?_); refine goesL_ (some 11) rfl rfl Tryd.func20 (by kernel_rfl) rfl #[.slice A0 l0.length c0] rfl (by (try simp only [List.map_toArray, List.map_cons, List.map_nil]); first | done | rfl | (simp only [List.length_drop, List.length_take]; rfl)) ?_; (with_reducible refine (filigreeref01_Norm.calls k _ _ l0 t489 _ ?side1 ?side2 A3.out).mono ?_); (case side1 => repeat (first | exact HR0.out | (with_reducible refine Kd.C_alloc ?_ _) | (with_reducible refine Kd.C_drewN ?_ _) | (with_reducible refine Kd.C_drew ?_))); (case side2 => exact HC0.out); rintro e w7 ⟨v490, rfl, ho0, hb⟩; refine ⟨_, rfl, ?_⟩; have n0_ := Aside0.mk (Kd.R_lower ho0 (below_size (by repeat (first | (with_reducible first | exact HB.out | apply below_alloc | apply pw_below_drewN | apply below_drew1) | exact HB.out)))); have n1_ := Aside0.mk (below_step (by repeat (first | (with_reducible first | exact HB.out | apply below_alloc | apply pw_below_drewN | apply below_drew1) | exact HB.out)) hb); clear HB; have HO491 := n0_; have HB := n1_; clear n0_ n1_; (try clear hb); (try clear hb2); (try clear hk); (try clear hi); (try clear ho0); obtain ⟨Ao8, co8, eo8⟩ := Kd.R_slice HO491.out; subst eo8) | ((with_reducible refine gate_callee (f := 42) rfl ?_); refine goesL_ (some 12) rfl rfl Tryd.func42 (by kernel_rfl) rfl #[.slice Ao8 t489.length co8] rfl (by (try simp only [List.map_toArray, List.map_cons, List.map_nil]); first | done | rfl | (simp only [List.length_drop, List.length_take]; rfl)) ?_; (with_reducible refine (filigreeref01_bits.calls k _ _ t489 t492 _ ?side1 ?side2 A4.out).mono ?_); (case side1 => repeat (first | exact (Kd.R_reads' HO491.out).2.2 | (with_reducible refine Kd.C_alloc ?_ _) | (with_reducible refine Kd.C_drewN ?_ _) | (with_reducible refine Kd.C_drew ?_))); (case side2 => exact (Kd.R_reads' HO491.out).2.1); rintro e w9 ⟨v493, rfl, ho0, hb⟩; refine ⟨_, rfl, ?_⟩; have n0_ := Aside0.mk (Kd.R_below (by (with_reducible repeat (first | apply Kd.R_alloc | apply Kd.R_drewN | apply Kd.R_drew)); exact HO491.out) hb); have n1_ := Aside0.mk (Kd.R_lower ho0 (below_size (by repeat (first | (with_reducible first | exact HB.out | apply below_alloc | apply pw_below_drewN | apply below_drew1) | exact HB.out)))); have n2_ := Aside0.mk (below_step (by repeat (first | (with_reducible first | exact HB.out | apply below_alloc | apply pw_below_drewN | apply below_drew1) | exact HB.out)) hb); clear HO491; clear HB; have HO491 := n0_; have HO494 := n1_; have HB := n2_; clear n0_ n1_ n2_; (try clear hb); (try clear hb2); (try clear hk); (try clear hi); (try clear ho0)) | ((with_reducible refine gate_callee (f := 20) rfl ?_); refine goesL_ (some 14) rfl rfl Tryd.func20 (by kernel_rfl) rfl #[.slice A1 l1.length c1] rfl (by (try simp only [List.map_toArray, List.map_cons, List.map_nil]); first | done | rfl | (simp only [List.length_drop, List.length_take]; rfl)) ?_; (with_reducible refine (filigreeref01_Norm.calls k _ _ l1 t495 _ ?side1 ?side2 A5.out).mono ?_); (case side1 => repeat (first | exact (Kd.C_below HR1.out HB.out) | (with_reducible refine Kd.C_alloc ?_ _) | (with_reducible refine Kd.C_drewN ?_ _) | (with_reducible refine Kd.C_drew ?_))); (case side2 => exact HC1.out); rintro e w10 ⟨v496, rfl, ho0, hb⟩; refine ⟨_, rfl, ?_⟩; have n0_ := Aside0.mk (Kd.R_elder' (by (with_reducible repeat (first | apply Kd.R_alloc | apply Kd.R_drewN | apply Kd.R_drew)); exact HO491.out) (Kd.R_base ho0) hb); have n1_ := Aside0.mk (Kd.R_below (by (with_reducible repeat (first | apply Kd.R_alloc | apply Kd.R_drewN | apply Kd.R_drew)); exact HO494.out) hb); have n2_ := Aside0.mk (Kd.R_lower (Kd.R_new' ho0 (Kd.R_lt (by (with_reducible repeat (first | apply Kd.R_alloc | apply Kd.R_drewN | apply Kd.R_drew)); exact HO491.out))) (below_size (by repeat (first | (with_reducible first | exact HB.out | apply below_alloc | apply pw_below_drewN | apply below_drew1) | exact HB.out)))); have n3_ := Aside0.mk (below_step (by repeat (first | (with_reducible first | exact HB.out | apply below_alloc | apply pw_below_drewN | apply below_drew1) | exact HB.out)) hb); clear HO491; clear HO494; clear HB; have HO491 := n0_; have HO494 := n1_; have HO497 := n2_; have HB := n3_; clear n0_ n1_ n2_ n3_; (try clear hb); (try clear hb2); (try clear hk); (try clear hi); (try clear ho0); obtain ⟨Ao11, co11, eo11⟩ := Kd.R_slice HO497.out; subst eo11) | ((with_reducible refine gate_callee (f := 42) rfl ?_); refine goesL_ (some 15) rfl rfl Tryd.func42 (by kernel_rfl) rfl #[.slice Ao11 t495.length co11] rfl (by (try simp only [List.map_toArray, List.map_cons, List.map_nil]); first | done | rfl | (simp only [List.length_drop, List.length_take]; rfl)) ?_; (with_reducible refine (filigreeref01_bits.calls k _ _ t495 t498 _ ?side1 ?side2 A6.out).mono ?_); (case side1 => repeat (first | exact (Kd.R_reads' HO497.out).2.2 | (with_reducible refine Kd.C_alloc ?_ _) | (with_reducible refine Kd.C_drewN ?_ _) | (with_reducible refine Kd.C_drew ?_))); (case side2 => exact (Kd.R_reads' HO497.out).2.1); rintro e w12 ⟨v499, rfl, ho0, hb⟩; refine ⟨_, rfl, ?_⟩; have n0_ := Aside0.mk (Kd.R_below (by (with_reducible repeat (first | apply Kd.R_alloc | apply Kd.R_drewN | apply Kd.R_drew)); exact HO491.out) hb); have n1_ := Aside0.mk (Kd.R_elder' (by (with_reducible repeat (first | apply Kd.R_alloc | apply Kd.R_drewN | apply Kd.R_drew)); exact HO494.out) (Kd.R_base ho0) hb); have n2_ := Aside0.mk (Kd.R_below (by (with_reducible repeat (first | apply Kd.R_alloc | apply Kd.R_drewN | apply Kd.R_drew)); exact HO497.out) hb); have n3_ := Aside0.mk (Kd.R_lower (Kd.R_new' ho0 (Kd.R_lt (by (with_reducible repeat (first | apply Kd.R_alloc | apply Kd.R_drewN | apply Kd.R_drew)); exact HO494.out))) (below_size (by repeat (first | (with_reducible first | exact HB.out | apply below_alloc | apply pw_below_drewN | apply below_drew1) | exact HB.out)))); have n4_ := Aside0.mk (below_step (by repeat (first | (with_reducible first | exact HB.out | apply below_alloc | apply pw_below_drewN | apply below_drew1) | exact HB.out)) hb); clear HO491; clear HO494; clear HO497; clear HB; have HO491 := n0_; have HO494 := n1_; have HO497 := n2_; have HO500 := n3_; have HB := n4_; clear n0_ n1_ n2_ n3_ n4_; (try clear hb); (try clear hb2); (try clear hk); (try clear hi); (try clear ho0)))
  go_loopg [7, 8, 9] k (fun kq v7 v8 v9 w' => ∃ (x7_1 : List Int) (x8_1 : List Int) (x9_1 : Int), v9 = .int .i64 x9_1 ∧ Aside0 (filigreeref01_Mul.l0 kq t492 t498 x7_1 x8_1 x9_1 = some r) ∧ Aside0 (kq ≤ k) ∧ Aside0 (Kd.R (Kd.int .u8) 5 w' w.heap.size (fun k_ => some k_ ≠ (v499 : Value).ownBlock ∧ some k_ ≠ (v7 : Value).ownBlock ∧ some k_ ≠ (v8 : Value).ownBlock) v493 t492) ∧ Aside0 (Kd.R (Kd.int .u8) 5 w' w.heap.size (fun k_ => some k_ ≠ (v493 : Value).ownBlock ∧ some k_ ≠ (v7 : Value).ownBlock ∧ some k_ ≠ (v8 : Value).ownBlock) v499 t498) ∧ Aside0 (Kd.R (Kd.int .u8) 5 w' w.heap.size (fun k_ => some k_ ≠ (v493 : Value).ownBlock ∧ some k_ ≠ (v499 : Value).ownBlock ∧ some k_ ≠ (v8 : Value).ownBlock) v7 x7_1) ∧ Aside0 (Kd.R (Kd.int .u8) 5 w' w.heap.size (fun k_ => some k_ ≠ (v493 : Value).ownBlock ∧ some k_ ≠ (v499 : Value).ownBlock ∧ some k_ ≠ (v7 : Value).ownBlock) v8 x8_1) ∧ Aside0 (Below w.heap.size w w'))
  case atStart => exact ⟨(([] : List Int)), (([] : List Int)), (0), (by first | rfl | (simp; done) | (simp [*]; done)), H', ⟨Nat.le_refl _⟩, ⟨by (with_reducible repeat (first | apply Kd.R_alloc | apply Kd.R_drewN | apply Kd.R_drew)); exact Kd.R_mono HO494.out (fun _ hk => ⟨hk.2, ⟨(by simp [Value.ownBlock]), (by simp [Value.ownBlock])⟩⟩)⟩, ⟨by (with_reducible repeat (first | apply Kd.R_alloc | apply Kd.R_drewN | apply Kd.R_drew)); exact Kd.R_mono HO500.out (fun _ hk => ⟨hk.2, ⟨(by simp [Value.ownBlock]), (by simp [Value.ownBlock])⟩⟩)⟩, ⟨by first | exact Kd.R_nil _ _ _ _ _ | exact Kd.N_nil _ _ _ _ _ | exact Kd.V_nil _ _ _ _ _ | exact Kd.Q_nil _ _ _ _ _ | exact Kd.S_nil _ _ _ _ _⟩, ⟨by first | exact Kd.R_nil _ _ _ _ _ | exact Kd.N_nil _ _ _ _ _ | exact Kd.V_nil _ _ _ _ _ | exact Kd.Q_nil _ _ _ _ _ | exact Kd.S_nil _ _ _ _ _⟩, ⟨by repeat (first | (with_reducible first | exact HB.out | apply below_alloc | apply pw_below_drewN | apply below_drew1) | exact HB.out)⟩⟩
  case round =>
    clear H'
    try clear c1
    try clear c2
    try clear p2
    try clear c4
    obtain ⟨x7_1, x8_1, x9_1, rfl, HA, HK1, HO_5, HO_6, HO_7, HO_8, HB⟩ := hrel
    cases gk with
    | zero => exact absurd HA.out (by simp [filigreeref01_Mul.l0])
    | succ k1 =>
      have H := HA.out
      clear HA
      simp only [filigreeref01_Mul.l0] at H
      by_cases c13 : x9_1 < (t498.length : Int)
      · rw [if_pos c13] at H
        have c13b0 : decide (x9_1 < (t498.length : Int)) = true := decide_eq_true c13
        clear c13
        by_cases c14 : 0 ≤ x9_1
        · rw [if_pos c14] at H
          have c14b0 : decide (0 ≤ x9_1) = true := decide_eq_true c14
          clear c14
          by_cases c15 : (rd t498 x9_1) = 1
          · rw [if_pos c15] at H
            have c15b0 : ((rd t498 x9_1) == 1) = true := beq_iff_eq.mpr c15
            have c15b1 : ((rd t498 x9_1) != 1) = false := bne_eq_false_iff_eq.mpr c15
            clear c15
            obtain ⟨y502, hy502⟩ : ∃ y_ : List Int, y_ = (([] : List Int)) := ⟨_, rfl⟩
            replace H : (if y502.length + x8_1.length < 140737488355328 then ((some (y502 ++ x8_1 : List Int)).bind fun y505 => (if y505.length + t492.length < 140737488355328 then ((filigreeref01_sum.f k1 x7_1 (y505 ++ t492)).bind fun t511 => (if x8_1.length < 140737488355328 then (filigreeref01_Mul.l0 k1 t492 t498 t511 (x8_1 ++ [0]) (wrap64 (x9_1 + 1))) else (none))) else (none))) else (none)) = some r := by first | (rw [hy502]; with_reducible exact H) | (have H2_ := (Option.bind_some _ _).symm.trans H; rw [hy502]; with_reducible exact H2_) | (have H2_ := (Option.bind_some _ _).symm.trans H; with_reducible exact H2_) | with_reducible exact H | (rw [hy502]; exact H) | exact H
            have Ny502 := Aside0.mk hy502
            clear hy502
            by_cases c16 : y502.length + x8_1.length < 140737488355328
            · rw [if_pos c16] at H
              have LMc16 := Aside0.mk c16
              clear c16
              obtain ⟨y505, hy505⟩ : ∃ y_ : List Int, y_ = (y502 ++ x8_1) := ⟨_, rfl⟩
              replace H : (if y505.length + t492.length < 140737488355328 then ((filigreeref01_sum.f k1 x7_1 (y505 ++ t492)).bind fun t511 => (if x8_1.length < 140737488355328 then (filigreeref01_Mul.l0 k1 t492 t498 t511 (x8_1 ++ [0]) (wrap64 (x9_1 + 1))) else (none))) else (none)) = some r := by first | (rw [hy505]; with_reducible exact H) | (have H2_ := (Option.bind_some _ _).symm.trans H; rw [hy505]; with_reducible exact H2_) | (have H2_ := (Option.bind_some _ _).symm.trans H; with_reducible exact H2_) | with_reducible exact H | (rw [hy505]; exact H) | exact H
              have Ny505 := Aside0.mk hy505
              clear hy505
              by_cases c17 : y505.length + t492.length < 140737488355328
              · rw [if_pos c17] at H
                have LMc17 := Aside0.mk c17
                clear c17
                obtain ⟨y508, hy508⟩ : ∃ y_ : List Int, y_ = (y505 ++ t492) := ⟨_, rfl⟩
                replace H : ((filigreeref01_sum.f k1 x7_1 y508).bind fun t511 => (if x8_1.length < 140737488355328 then (filigreeref01_Mul.l0 k1 t492 t498 t511 (x8_1 ++ [0]) (wrap64 (x9_1 + 1))) else (none))) = some r := by first | (rw [hy508]; with_reducible exact H) | (have H2_ := (Option.bind_some _ _).symm.trans H; rw [hy508]; with_reducible exact H2_) | (have H2_ := (Option.bind_some _ _).symm.trans H; with_reducible exact H2_) | with_reducible exact H | (rw [hy508]; exact H) | exact H
                have Ny508 := Aside0.mk hy508
                clear hy508
                replace H := Option.bind_eq_some_iff.mp H
                obtain ⟨t511, A180, H⟩ := H
                replace H : (if x8_1.length < 140737488355328 then (filigreeref01_Mul.l0 k1 t492 t498 t511 (x8_1 ++ [0]) (wrap64 (x9_1 + 1))) else (none)) = some r := H
                have A18 := Aside0.mk A180
                clear A180
                by_cases c19 : x8_1.length < 140737488355328
                · rw [if_pos c19] at H
                  have LMc19 := Aside0.mk c19
                  clear c19
                  obtain ⟨y514, hy514⟩ : ∃ y_ : List Int, y_ = (x8_1 ++ [0]) := ⟨_, rfl⟩
                  replace H : (filigreeref01_Mul.l0 k1 t492 t498 t511 y514 (wrap64 (x9_1 + 1))) = some r := by first | (rw [hy514]; with_reducible exact H) | (have H2_ := (Option.bind_some _ _).symm.trans H; rw [hy514]; with_reducible exact H2_) | (have H2_ := (Option.bind_some _ _).symm.trans H; with_reducible exact H2_) | with_reducible exact H | (rw [hy514]; exact H) | exact H
                  have Ny514 := Aside0.mk hy514
                  clear hy514
                  have H' := Aside0.mk H
                  clear H
                  obtain ⟨Ao20, co20, eo20⟩ := Kd.R_slice HO_6.out
                  subst eo20
                  have p501 : 0 ≤ (x9_1 : Int) := of_decide_eq_true (by first | (with_reducible assumption) | assumption)
                  have q501 : x9_1 < (t498.length : Int) := of_decide_eq_true (by first | (with_reducible assumption) | assumption)
                  obtain ⟨ad501, e501, hx501_0⟩ := Kd.at_int (Kd.R_reads' HO_6.out).2.2 x9_1 p501 q501
                  cases e501
                  replace p501 := eq_true p501
                  replace q501 := eq_true q501
                  go_wp2_with (first | ((with_reducible refine gate_dst (N := 28) rfl ?_); refine Kd.R_lit (Kd.int .u8) _ 5 ?hg (N := 28) ?hd (xs := ([] : List Int)) (inner := []) (ok := fun _ => True) (okp := fun _ => True) ?hr ?hp (fun _ hk => hk) trivial (Below.refl _ _) (Nat.le_refl _) (by simp) ?_; (case hd => rfl); (case hg => rfl); (case hr => first | (go_simp; done) | (go_simp; rfl) | (go_simp; rw [show ∀ x : Int, IntKind.u32.wrap (IntKind.u8.wrap x) = x % 256 from fun x => (by show (x % 256) % 4294967296 = x % 256; omega)])); (case hp => exact (Reps.none _ _)); intro v503 w21 ho22 hb hg_ hnew_; clear hg_ hnew_; (first | rw [← Ny502.out] at ho22 | (simp only [Int.reduceToNat] at ho22; rw [← Ny502.out] at ho22)); have n0_ := Aside0.mk (Kd.R_elder' (by (with_reducible repeat (first | apply Kd.R_alloc | apply Kd.R_drewN | apply Kd.R_drew)); exact HO_5.out) (Kd.R_base ho22) hb); have n1_ := Aside0.mk (Kd.R_elder' (by (with_reducible repeat (first | apply Kd.R_alloc | apply Kd.R_drewN | apply Kd.R_drew)); exact HO_6.out) (Kd.R_base ho22) hb); have n2_ := Aside0.mk (Kd.R_elder' (by (with_reducible repeat (first | apply Kd.R_alloc | apply Kd.R_drewN | apply Kd.R_drew)); exact HO_7.out) (Kd.R_base ho22) hb); have n3_ := Aside0.mk (Kd.R_elder' (by (with_reducible repeat (first | apply Kd.R_alloc | apply Kd.R_drewN | apply Kd.R_drew)); exact HO_8.out) (Kd.R_base ho22) hb); have n4_ := Aside0.mk (Kd.R_lower (Kd.R_new' (Kd.R_new' (Kd.R_new' (Kd.R_new' ho22 (Kd.R_lt (by (with_reducible repeat (first | apply Kd.R_alloc | apply Kd.R_drewN | apply Kd.R_drew)); exact HO_5.out))) (Kd.R_lt (by (with_reducible repeat (first | apply Kd.R_alloc | apply Kd.R_drewN | apply Kd.R_drew)); exact HO_6.out))) (Kd.R_lt (by (with_reducible repeat (first | apply Kd.R_alloc | apply Kd.R_drewN | apply Kd.R_drew)); exact HO_7.out))) (Kd.R_lt (by (with_reducible repeat (first | apply Kd.R_alloc | apply Kd.R_drewN | apply Kd.R_drew)); exact HO_8.out))) (below_size (by repeat (first | (with_reducible first | exact HB.out | apply below_alloc | apply pw_below_drewN | apply below_drew1) | exact HB.out)))); have n5_ := Aside0.mk (below_step (by repeat (first | (with_reducible first | exact HB.out | apply below_alloc | apply pw_below_drewN | apply below_drew1) | exact HB.out)) hb); clear HO_5; clear HO_6; clear HO_7; clear HO_8; clear HB; have HO_5 := n0_; have HO_6 := n1_; have HO_7 := n2_; have HO_8 := n3_; have HO504 := n4_; have HB := n5_; clear n0_ n1_ n2_ n3_ n4_ n5_; clear hb ho22; obtain ⟨Ao24, co24, eo24⟩ := Kd.R_slice HO_8.out; subst eo24) | ((with_reducible refine gate_builtin (b := .append) (xs := #[.tmp 28, .tmp 29]) rfl ?_); at_builtin; refine Kd.R_append_rows (Kd.int .u8) (w0 := w) w.heap.size rfl (.tmp 28) (.tmp 29) 50 5 (.int .u8 0) 1 rfl Tryd.underlying50 info5 rfl (by decide) (by omega) v503 y502 x8_1 _ _ _ (fun k_ => some k_ ≠ (v493 : Value).ownBlock ∧ some k_ ≠ (.slice (some ad501) t498.length co20 : Value).ownBlock ∧ some k_ ≠ (u7 : Value).ownBlock ∧ some k_ ≠ (.slice Ao24 x8_1.length co24 : Value).ownBlock) (fun _ => False) rfl rfl ?aO ?aR (fun _ _ h => h) (fun _ h => h.elim) ?aF ?aB ?aS ?aL ?_; (case aR => repeat (first | exact (Kd.R_reads' HO_8.out).2.2 | (with_reducible refine Kd.C_alloc ?_ _) | (with_reducible refine Kd.C_drewN ?_ _) | (with_reducible refine Kd.C_drew ?_))); (case aB => exact (by repeat (first | (with_reducible first | exact HB.out | apply below_alloc | apply pw_below_drewN | apply below_drew1) | exact HB.out))); (case aF => exact (fun k_ hk => ⟨Kd.fresh' (Kd.R_lt (by (with_reducible repeat (first | apply Kd.R_alloc | apply Kd.R_drewN | apply Kd.R_drew)); exact HO_5.out)) k_ hk, Kd.fresh' (Kd.R_lt (by (with_reducible repeat (first | apply Kd.R_alloc | apply Kd.R_drewN | apply Kd.R_drew)); exact HO_6.out)) k_ hk, Kd.fresh' (Kd.R_lt (by (with_reducible repeat (first | apply Kd.R_alloc | apply Kd.R_drewN | apply Kd.R_drew)); exact HO_7.out)) k_ hk, Kd.fresh' (Kd.R_lt (by (with_reducible repeat (first | apply Kd.R_alloc | apply Kd.R_drewN | apply Kd.R_drew)); exact HO_8.out)) k_ hk⟩)); (case aO => exact (by (with_reducible repeat (first | apply Kd.R_alloc | apply Kd.R_drewN | apply Kd.R_drew)); exact Kd.R_mono HO504.out (fun _ hk => ⟨hk.1.1.1.2, ⟨hk.1.1.2, ⟨hk.1.2, hk.2⟩⟩⟩))); (case aS => exact (below_size (by repeat (first | (with_reducible first | exact HB.out | apply below_alloc | apply pw_below_drewN | apply below_drew1) | exact HB.out)))); (case aL => have := LMc16.out; omega); intro v506 w23 ho hb hg hat; rw [← Ny505.out] at ho; have n0_ := Aside0.mk (Kd.R_after (ok := (fun k_ => some k_ ≠ (.slice (some ad501) t498.length co20 : Value).ownBlock ∧ some k_ ≠ (u7 : Value).ownBlock ∧ some k_ ≠ (.slice Ao24 x8_1.length co24 : Value).ownBlock)) (by (with_reducible repeat (first | apply Kd.R_alloc | apply Kd.R_drewN | apply Kd.R_drew)); exact HO_5.out) hg hat); have n1_ := Aside0.mk (Kd.R_after (ok := (fun k_ => some k_ ≠ (v493 : Value).ownBlock ∧ some k_ ≠ (u7 : Value).ownBlock ∧ some k_ ≠ (.slice Ao24 x8_1.length co24 : Value).ownBlock)) (by (with_reducible repeat (first | apply Kd.R_alloc | apply Kd.R_drewN | apply Kd.R_drew)); exact HO_6.out) hg hat); have n2_ := Aside0.mk (Kd.R_after (ok := (fun k_ => some k_ ≠ (v493 : Value).ownBlock ∧ some k_ ≠ (.slice (some ad501) t498.length co20 : Value).ownBlock ∧ some k_ ≠ (.slice Ao24 x8_1.length co24 : Value).ownBlock)) (by (with_reducible repeat (first | apply Kd.R_alloc | apply Kd.R_drewN | apply Kd.R_drew)); exact HO_7.out) hg hat); have n3_ := Aside0.mk (Kd.R_after (ok := (fun k_ => some k_ ≠ (v493 : Value).ownBlock ∧ some k_ ≠ (.slice (some ad501) t498.length co20 : Value).ownBlock ∧ some k_ ≠ (u7 : Value).ownBlock)) (by (with_reducible repeat (first | apply Kd.R_alloc | apply Kd.R_drewN | apply Kd.R_drew)); exact HO_8.out) hg hat); have n4_ := Aside0.mk (hb); have n5_ := Aside0.mk (ho); clear HO_5; clear HO_6; clear HO_7; clear HO_8; clear HB; clear HO504; have HO_5 := n0_; have HO_6 := n1_; have HO_7 := n2_; have HO_8 := n3_; have HB := n4_; have HO507 := n5_; clear n0_ n1_ n2_ n3_ n4_ n5_; clear ho hb hg hat; obtain ⟨Ao26, co26, eo26⟩ := Kd.R_slice HO_5.out; subst eo26) | ((with_reducible refine gate_builtin (b := .append) (xs := #[.tmp 30, .tmp 31]) rfl ?_); at_builtin; refine Kd.R_append_rows (Kd.int .u8) (w0 := w) w.heap.size rfl (.tmp 30) (.tmp 31) 50 5 (.int .u8 0) 1 rfl Tryd.underlying50 info5 rfl (by decide) (by omega) v506 y505 t492 _ _ _ (fun k_ => some k_ ≠ (.slice Ao26 t492.length co26 : Value).ownBlock ∧ some k_ ≠ (.slice (some ad501) t498.length co20 : Value).ownBlock ∧ some k_ ≠ (u7 : Value).ownBlock ∧ some k_ ≠ (.slice Ao24 x8_1.length co24 : Value).ownBlock) (fun _ => False) rfl rfl ?aO ?aR (fun _ _ h => h) (fun _ h => h.elim) ?aF ?aB ?aS ?aL ?_; (case aR => repeat (first | exact (Kd.R_reads' HO_5.out).2.2 | (with_reducible refine Kd.C_alloc ?_ _) | (with_reducible refine Kd.C_drewN ?_ _) | (with_reducible refine Kd.C_drew ?_))); (case aB => exact (by repeat (first | (with_reducible first | exact HB.out | apply below_alloc | apply pw_below_drewN | apply below_drew1) | exact HB.out))); (case aF => exact (fun k_ hk => ⟨Kd.fresh' (Kd.R_lt (by (with_reducible repeat (first | apply Kd.R_alloc | apply Kd.R_drewN | apply Kd.R_drew)); exact HO_5.out)) k_ hk, Kd.fresh' (Kd.R_lt (by (with_reducible repeat (first | apply Kd.R_alloc | apply Kd.R_drewN | apply Kd.R_drew)); exact HO_6.out)) k_ hk, Kd.fresh' (Kd.R_lt (by (with_reducible repeat (first | apply Kd.R_alloc | apply Kd.R_drewN | apply Kd.R_drew)); exact HO_7.out)) k_ hk, Kd.fresh' (Kd.R_lt (by (with_reducible repeat (first | apply Kd.R_alloc | apply Kd.R_drewN | apply Kd.R_drew)); exact HO_8.out)) k_ hk⟩)); (case aO => exact (by (with_reducible repeat (first | apply Kd.R_alloc | apply Kd.R_drewN | apply Kd.R_drew)); exact HO507.out)); (case aS => exact (below_size (by repeat (first | (with_reducible first | exact HB.out | apply below_alloc | apply pw_below_drewN | apply below_drew1) | exact HB.out)))); (case aL => have := LMc17.out; omega); intro v509 w25 ho hb hg hat; rw [← Ny508.out] at ho; have n0_ := Aside0.mk (Kd.R_after (ok := (fun k_ => some k_ ≠ (.slice (some ad501) t498.length co20 : Value).ownBlock ∧ some k_ ≠ (u7 : Value).ownBlock ∧ some k_ ≠ (.slice Ao24 x8_1.length co24 : Value).ownBlock)) (by (with_reducible repeat (first | apply Kd.R_alloc | apply Kd.R_drewN | apply Kd.R_drew)); exact HO_5.out) hg hat); have n1_ := Aside0.mk (Kd.R_after (ok := (fun k_ => some k_ ≠ (.slice Ao26 t492.length co26 : Value).ownBlock ∧ some k_ ≠ (u7 : Value).ownBlock ∧ some k_ ≠ (.slice Ao24 x8_1.length co24 : Value).ownBlock)) (by (with_reducible repeat (first | apply Kd.R_alloc | apply Kd.R_drewN | apply Kd.R_drew)); exact HO_6.out) hg hat); have n2_ := Aside0.mk (Kd.R_after (ok := (fun k_ => some k_ ≠ (.slice Ao26 t492.length co26 : Value).ownBlock ∧ some k_ ≠ (.slice (some ad501) t498.length co20 : Value).ownBlock ∧ some k_ ≠ (.slice Ao24 x8_1.length co24 : Value).ownBlock)) (by (with_reducible repeat (first | apply Kd.R_alloc | apply Kd.R_drewN | apply Kd.R_drew)); exact HO_7.out) hg hat); have n3_ := Aside0.mk (Kd.R_after (ok := (fun k_ => some k_ ≠ (.slice Ao26 t492.length co26 : Value).ownBlock ∧ some k_ ≠ (.slice (some ad501) t498.length co20 : Value).ownBlock ∧ some k_ ≠ (u7 : Value).ownBlock)) (by (with_reducible repeat (first | apply Kd.R_alloc | apply Kd.R_drewN | apply Kd.R_drew)); exact HO_8.out) hg hat); have n4_ := Aside0.mk (hb); have n5_ := Aside0.mk (ho); clear HO_5; clear HO_6; clear HO_7; clear HO_8; clear HB; clear HO507; have HO_5 := n0_; have HO_6 := n1_; have HO_7 := n2_; have HO_8 := n3_; have HB := n4_; have HO510 := n5_; clear n0_ n1_ n2_ n3_ n4_ n5_; clear ho hb hg hat; obtain ⟨Ao27, co27, eo27⟩ := Kd.R_slice HO_7.out; subst eo27; obtain ⟨Ao28, co28, eo28⟩ := Kd.R_slice HO510.out; subst eo28) | ((with_reducible refine gate_callee (f := 44) rfl ?_); refine goesL_ (some 33) rfl rfl Tryd.func44 (by kernel_rfl) rfl #[.slice Ao27 x7_1.length co27, .slice Ao28 y508.length co28] rfl (by (try simp only [List.map_toArray, List.map_cons, List.map_nil]); first | done | rfl | (simp only [List.length_drop, List.length_take]; rfl)) ?_; (with_reducible refine (filigreeref01_sum.calls k1 _ _ x7_1 _ _ y508 t511 _ ?side1 ?side2 ?side3 ?side4 A18.out).mono ?_); (case side1 => repeat (first | exact (Kd.R_reads' HO_7.out).2.2 | (with_reducible refine Kd.C_alloc ?_ _) | (with_reducible refine Kd.C_drewN ?_ _) | (with_reducible refine Kd.C_drew ?_))); (case side2 => exact (Kd.R_reads' HO_7.out).2.1); (case side3 => repeat (first | exact (Kd.R_reads' HO510.out).2.2 | (with_reducible refine Kd.C_alloc ?_ _) | (with_reducible refine Kd.C_drewN ?_ _) | (with_reducible refine Kd.C_drew ?_))); (case side4 => exact (Kd.R_reads' HO510.out).2.1); rintro e w29 ⟨v512, rfl, ho0, hb⟩; refine ⟨_, rfl, ?_⟩; have n0_ := Aside0.mk (Kd.R_elder' (by (with_reducible repeat (first | apply Kd.R_alloc | apply Kd.R_drewN | apply Kd.R_drew)); exact HO_5.out) (Kd.R_base ho0) hb); have n1_ := Aside0.mk (Kd.R_elder' (by (with_reducible repeat (first | apply Kd.R_alloc | apply Kd.R_drewN | apply Kd.R_drew)); exact HO_6.out) (Kd.R_base ho0) hb); have n2_ := Aside0.mk (Kd.R_elder' (by (with_reducible repeat (first | apply Kd.R_alloc | apply Kd.R_drewN | apply Kd.R_drew)); exact HO_7.out) (Kd.R_base ho0) hb); have n3_ := Aside0.mk (Kd.R_elder' (by (with_reducible repeat (first | apply Kd.R_alloc | apply Kd.R_drewN | apply Kd.R_drew)); exact HO_8.out) (Kd.R_base ho0) hb); have n4_ := Aside0.mk (Kd.R_elder' (by (with_reducible repeat (first | apply Kd.R_alloc | apply Kd.R_drewN | apply Kd.R_drew)); exact HO510.out) (Kd.R_base ho0) hb); have n5_ := Aside0.mk (Kd.R_lower (Kd.R_new' (Kd.R_new' (Kd.R_new' (Kd.R_new' (Kd.R_new' ho0 (Kd.R_lt (by (with_reducible repeat (first | apply Kd.R_alloc | apply Kd.R_drewN | apply Kd.R_drew)); exact HO_5.out))) (Kd.R_lt (by (with_reducible repeat (first | apply Kd.R_alloc | apply Kd.R_drewN | apply Kd.R_drew)); exact HO_6.out))) (Kd.R_lt (by (with_reducible repeat (first | apply Kd.R_alloc | apply Kd.R_drewN | apply Kd.R_drew)); exact HO_7.out))) (Kd.R_lt (by (with_reducible repeat (first | apply Kd.R_alloc | apply Kd.R_drewN | apply Kd.R_drew)); exact HO_8.out))) (Kd.R_lt (by (with_reducible repeat (first | apply Kd.R_alloc | apply Kd.R_drewN | apply Kd.R_drew)); exact HO510.out))) (below_size (by repeat (first | (with_reducible first | exact HB.out | apply below_alloc | apply pw_below_drewN | apply below_drew1) | exact HB.out)))); have n6_ := Aside0.mk (below_step (by repeat (first | (with_reducible first | exact HB.out | apply below_alloc | apply pw_below_drewN | apply below_drew1) | exact HB.out)) hb); clear HO_5; clear HO_6; clear HO_7; clear HO_8; clear HO510; clear HB; have HO_5 := n0_; have HO_6 := n1_; have HO_7 := n2_; have HO_8 := n3_; have HO510 := n4_; have HO513 := n5_; have HB := n6_; clear n0_ n1_ n2_ n3_ n4_ n5_ n6_; (try clear hb); (try clear hb2); (try clear hk); (try clear hi); (try clear ho0)) | ((with_reducible refine gate_builtin (b := .append) (xs := #[.tmp 34, .tmp 35]) rfl ?_); at_builtin; refine Kd.R_append (Kd.int .u8) (w0 := w) w.heap.size rfl (.tmp 34) (.tmp 35) 50 5 (.int .u8 0) 1 rfl Tryd.underlying50 info5 rfl (by decide) (by omega) (.slice Ao24 x8_1.length co24) x8_1 0 [.int .u8 0] (fun k_ => some k_ ≠ (.slice Ao26 t492.length co26 : Value).ownBlock ∧ some k_ ≠ (.slice (some ad501) t498.length co20 : Value).ownBlock ∧ some k_ ≠ (.slice Ao27 x7_1.length co27 : Value).ownBlock ∧ some k_ ≠ (.slice Ao28 y508.length co28 : Value).ownBlock ∧ some k_ ≠ (v512 : Value).ownBlock) (fun _ => False) rfl rfl ?aP (fun _ hk => hk.elim) ?aF ?aO ?aB ?aS ?aL ?_; (case aP => exact rfl); (case aB => exact (by repeat (first | (with_reducible first | exact HB.out | apply below_alloc | apply pw_below_drewN | apply below_drew1) | exact HB.out))); (case aF => exact (fun k_ hk => ⟨Kd.fresh' (Kd.R_lt (by (with_reducible repeat (first | apply Kd.R_alloc | apply Kd.R_drewN | apply Kd.R_drew)); exact HO_5.out)) k_ hk, Kd.fresh' (Kd.R_lt (by (with_reducible repeat (first | apply Kd.R_alloc | apply Kd.R_drewN | apply Kd.R_drew)); exact HO_6.out)) k_ hk, Kd.fresh' (Kd.R_lt (by (with_reducible repeat (first | apply Kd.R_alloc | apply Kd.R_drewN | apply Kd.R_drew)); exact HO_7.out)) k_ hk, Kd.fresh' (Kd.R_lt (by (with_reducible repeat (first | apply Kd.R_alloc | apply Kd.R_drewN | apply Kd.R_drew)); exact HO510.out)) k_ hk, Kd.fresh' (Kd.R_lt (by (with_reducible repeat (first | apply Kd.R_alloc | apply Kd.R_drewN | apply Kd.R_drew)); exact HO513.out)) k_ hk⟩)); (case aO => exact (by (with_reducible repeat (first | apply Kd.R_alloc | apply Kd.R_drewN | apply Kd.R_drew)); exact Kd.R_mono HO_8.out (fun _ hk => ⟨hk.1.1.1, ⟨hk.1.1.2.1, ⟨hk.1.1.2.2, ⟨hk.1.2, hk.2⟩⟩⟩⟩))); (case aS => exact (below_size (by repeat (first | (with_reducible first | exact HB.out | apply below_alloc | apply pw_below_drewN | apply below_drew1) | exact HB.out)))); (case aL => have := LMc19.out; omega); intro v515 w30 ho hb hg hat; rw [← Ny514.out] at ho; have n0_ := Aside0.mk (Kd.R_after (ok := (fun k_ => some k_ ≠ (.slice (some ad501) t498.length co20 : Value).ownBlock ∧ some k_ ≠ (.slice Ao27 x7_1.length co27 : Value).ownBlock ∧ some k_ ≠ (.slice Ao28 y508.length co28 : Value).ownBlock ∧ some k_ ≠ (v512 : Value).ownBlock)) (by (with_reducible repeat (first | apply Kd.R_alloc | apply Kd.R_drewN | apply Kd.R_drew)); exact Kd.R_mono HO_5.out (fun _ hk => ⟨⟨hk.1.1.1, ⟨hk.1.1.2.1, ⟨hk.1.2, hk.2⟩⟩⟩, hk.1.1.2.2⟩)) hg hat); have n1_ := Aside0.mk (Kd.R_after (ok := (fun k_ => some k_ ≠ (.slice Ao26 t492.length co26 : Value).ownBlock ∧ some k_ ≠ (.slice Ao27 x7_1.length co27 : Value).ownBlock ∧ some k_ ≠ (.slice Ao28 y508.length co28 : Value).ownBlock ∧ some k_ ≠ (v512 : Value).ownBlock)) (by (with_reducible repeat (first | apply Kd.R_alloc | apply Kd.R_drewN | apply Kd.R_drew)); exact Kd.R_mono HO_6.out (fun _ hk => ⟨⟨hk.1.1.1, ⟨hk.1.1.2.1, ⟨hk.1.2, hk.2⟩⟩⟩, hk.1.1.2.2⟩)) hg hat); have n2_ := Aside0.mk (Kd.R_after (ok := (fun k_ => some k_ ≠ (.slice Ao26 t492.length co26 : Value).ownBlock ∧ some k_ ≠ (.slice (some ad501) t498.length co20 : Value).ownBlock ∧ some k_ ≠ (.slice Ao28 y508.length co28 : Value).ownBlock ∧ some k_ ≠ (v512 : Value).ownBlock)) (by (with_reducible repeat (first | apply Kd.R_alloc | apply Kd.R_drewN | apply Kd.R_drew)); exact Kd.R_mono HO_7.out (fun _ hk => ⟨⟨hk.1.1.1, ⟨hk.1.1.2.1, ⟨hk.1.2, hk.2⟩⟩⟩, hk.1.1.2.2⟩)) hg hat); have n3_ := Aside0.mk (Kd.R_after (ok := (fun k_ => some k_ ≠ (.slice Ao26 t492.length co26 : Value).ownBlock ∧ some k_ ≠ (.slice (some ad501) t498.length co20 : Value).ownBlock ∧ some k_ ≠ (.slice Ao27 x7_1.length co27 : Value).ownBlock ∧ some k_ ≠ (v512 : Value).ownBlock)) (by (with_reducible repeat (first | apply Kd.R_alloc | apply Kd.R_drewN | apply Kd.R_drew)); exact Kd.R_mono HO510.out (fun _ hk => ⟨⟨hk.1.1, ⟨hk.1.2.1, ⟨hk.1.2.2.1, hk.2⟩⟩⟩, hk.1.2.2.2⟩)) hg hat); have n4_ := Aside0.mk (Kd.R_after (ok := (fun k_ => some k_ ≠ (.slice Ao26 t492.length co26 : Value).ownBlock ∧ some k_ ≠ (.slice (some ad501) t498.length co20 : Value).ownBlock ∧ some k_ ≠ (.slice Ao27 x7_1.length co27 : Value).ownBlock ∧ some k_ ≠ (.slice Ao28 y508.length co28 : Value).ownBlock)) (by (with_reducible repeat (first | apply Kd.R_alloc | apply Kd.R_drewN | apply Kd.R_drew)); exact Kd.R_mono HO513.out (fun _ hk => ⟨⟨hk.1.1.1.1.2, ⟨hk.1.1.1.2, ⟨hk.1.1.2, hk.2⟩⟩⟩, hk.1.2⟩)) hg hat); have n5_ := Aside0.mk (hb); have n6_ := Aside0.mk (ho); clear HO_5; clear HO_6; clear HO_7; clear HO510; clear HO513; clear HB; clear HO_8; have HO_5 := n0_; have HO_6 := n1_; have HO_7 := n2_; have HO510 := n3_; have HO513 := n4_; have HB := n5_; have HO516 := n6_; clear n0_ n1_ n2_ n3_ n4_ n5_ n6_; clear ho hb hg hat))
                  go_roundg k1
                  case measure => have := HK1.out; omega
                  case rel => exact ⟨(t511), (y514), (wrap64 (x9_1 + 1)), (by first | rfl | (simp; done) | (simp [*]; done)), H', ⟨by have := HK1.out; omega⟩, ⟨by (with_reducible repeat (first | apply Kd.R_alloc | apply Kd.R_drewN | apply Kd.R_drew)); exact Kd.R_mono HO_5.out (fun _ hk => ⟨hk.1.1, ⟨hk.1.2.2.2, hk.2⟩⟩)⟩, ⟨by (with_reducible repeat (first | apply Kd.R_alloc | apply Kd.R_drewN | apply Kd.R_drew)); exact Kd.R_mono HO_6.out (fun _ hk => ⟨hk.1.1, ⟨hk.1.2.2.2, hk.2⟩⟩)⟩, ⟨by (with_reducible repeat (first | apply Kd.R_alloc | apply Kd.R_drewN | apply Kd.R_drew)); exact Kd.R_mono HO513.out (fun _ hk => ⟨hk.1.1, ⟨hk.1.2.1, hk.2⟩⟩)⟩, ⟨by (with_reducible repeat (first | apply Kd.R_alloc | apply Kd.R_drewN | apply Kd.R_drew)); exact Kd.R_mono HO516.out (fun _ hk => ⟨hk.1, ⟨hk.2.1, hk.2.2.2.2⟩⟩)⟩, ⟨by repeat (first | (with_reducible first | exact HB.out | apply below_alloc | apply pw_below_drewN | apply below_drew1) | exact HB.out)⟩⟩
                · rw [if_neg c19] at H
                  exact absurd H (by simp)
              · rw [if_neg c17] at H
                exact absurd H (by simp)
            · rw [if_neg c16] at H
              exact absurd H (by simp)
          · rw [if_neg c15] at H
            have c15b0 : ((rd t498 x9_1) == 1) = false := beq_eq_false_iff_ne.mpr c15
            have c15b1 : ((rd t498 x9_1) != 1) = true := bne_iff_ne.mpr c15
            by_cases c31 : x8_1.length < 140737488355328
            · rw [if_pos c31] at H
              have LMc31 := Aside0.mk c31
              clear c31
              obtain ⟨y517, hy517⟩ : ∃ y_ : List Int, y_ = (x8_1 ++ [0]) := ⟨_, rfl⟩
              replace H : (filigreeref01_Mul.l0 k1 t492 t498 x7_1 y517 (wrap64 (x9_1 + 1))) = some r := by first | (rw [hy517]; with_reducible exact H) | (have H2_ := (Option.bind_some _ _).symm.trans H; rw [hy517]; with_reducible exact H2_) | (have H2_ := (Option.bind_some _ _).symm.trans H; with_reducible exact H2_) | with_reducible exact H | (rw [hy517]; exact H) | exact H
              have Ny517 := Aside0.mk hy517
              clear hy517
              have H' := Aside0.mk H
              clear H
              obtain ⟨Ao32, co32, eo32⟩ := Kd.R_slice HO_6.out
              subst eo32
              have p501 : 0 ≤ (x9_1 : Int) := of_decide_eq_true (by first | (with_reducible assumption) | assumption)
              have q501 : x9_1 < (t498.length : Int) := of_decide_eq_true (by first | (with_reducible assumption) | assumption)
              obtain ⟨ad501, e501, hx501_0⟩ := Kd.at_int (Kd.R_reads' HO_6.out).2.2 x9_1 p501 q501
              cases e501
              replace p501 := eq_true p501
              replace q501 := eq_true q501
              go_wp2_with (first | ((with_reducible refine gate_builtin (b := .append) (xs := #[.tmp 34, .tmp 35]) rfl ?_); at_builtin; refine Kd.R_append (Kd.int .u8) (w0 := w) w.heap.size rfl (.tmp 34) (.tmp 35) 50 5 (.int .u8 0) 1 rfl Tryd.underlying50 info5 rfl (by decide) (by omega) u8 x8_1 0 [.int .u8 0] (fun k_ => some k_ ≠ (v493 : Value).ownBlock ∧ some k_ ≠ (.slice (some ad501) t498.length co32 : Value).ownBlock ∧ some k_ ≠ (u7 : Value).ownBlock) (fun _ => False) rfl rfl ?aP (fun _ hk => hk.elim) ?aF ?aO ?aB ?aS ?aL ?_; (case aP => exact rfl); (case aB => exact (by repeat (first | (with_reducible first | exact HB.out | apply below_alloc | apply pw_below_drewN | apply below_drew1) | exact HB.out))); (case aF => exact (fun k_ hk => ⟨Kd.fresh' (Kd.R_lt (by (with_reducible repeat (first | apply Kd.R_alloc | apply Kd.R_drewN | apply Kd.R_drew)); exact HO_5.out)) k_ hk, Kd.fresh' (Kd.R_lt (by (with_reducible repeat (first | apply Kd.R_alloc | apply Kd.R_drewN | apply Kd.R_drew)); exact HO_6.out)) k_ hk, Kd.fresh' (Kd.R_lt (by (with_reducible repeat (first | apply Kd.R_alloc | apply Kd.R_drewN | apply Kd.R_drew)); exact HO_7.out)) k_ hk⟩)); (case aO => exact (by (with_reducible repeat (first | apply Kd.R_alloc | apply Kd.R_drewN | apply Kd.R_drew)); exact HO_8.out)); (case aS => exact (below_size (by repeat (first | (with_reducible first | exact HB.out | apply below_alloc | apply pw_below_drewN | apply below_drew1) | exact HB.out)))); (case aL => have := LMc31.out; omega); intro v518 w33 ho hb hg hat; rw [← Ny517.out] at ho; have n0_ := Aside0.mk (Kd.R_after (ok := (fun k_ => some k_ ≠ (.slice (some ad501) t498.length co32 : Value).ownBlock ∧ some k_ ≠ (u7 : Value).ownBlock)) (by (with_reducible repeat (first | apply Kd.R_alloc | apply Kd.R_drewN | apply Kd.R_drew)); exact Kd.R_mono HO_5.out (fun _ hk => ⟨⟨hk.1, hk.2.1⟩, hk.2.2⟩)) hg hat); have n1_ := Aside0.mk (Kd.R_after (ok := (fun k_ => some k_ ≠ (v493 : Value).ownBlock ∧ some k_ ≠ (u7 : Value).ownBlock)) (by (with_reducible repeat (first | apply Kd.R_alloc | apply Kd.R_drewN | apply Kd.R_drew)); exact Kd.R_mono HO_6.out (fun _ hk => ⟨⟨hk.1, hk.2.1⟩, hk.2.2⟩)) hg hat); have n2_ := Aside0.mk (Kd.R_after (ok := (fun k_ => some k_ ≠ (v493 : Value).ownBlock ∧ some k_ ≠ (.slice (some ad501) t498.length co32 : Value).ownBlock)) (by (with_reducible repeat (first | apply Kd.R_alloc | apply Kd.R_drewN | apply Kd.R_drew)); exact Kd.R_mono HO_7.out (fun _ hk => ⟨⟨hk.1, hk.2.1⟩, hk.2.2⟩)) hg hat); have n3_ := Aside0.mk (hb); have n4_ := Aside0.mk (ho); clear HO_5; clear HO_6; clear HO_7; clear HB; clear HO_8; have HO_5 := n0_; have HO_6 := n1_; have HO_7 := n2_; have HB := n3_; have HO519 := n4_; clear n0_ n1_ n2_ n3_ n4_; clear ho hb hg hat))
              go_roundg k1
              case measure => have := HK1.out; omega
              case rel => exact ⟨(x7_1), (y517), (wrap64 (x9_1 + 1)), (by first | rfl | (simp; done) | (simp [*]; done)), H', ⟨by have := HK1.out; omega⟩, ⟨by (with_reducible repeat (first | apply Kd.R_alloc | apply Kd.R_drewN | apply Kd.R_drew)); exact Kd.R_mono HO_5.out (fun _ hk => ⟨hk.1.1, ⟨hk.1.2, hk.2⟩⟩)⟩, ⟨by (with_reducible repeat (first | apply Kd.R_alloc | apply Kd.R_drewN | apply Kd.R_drew)); exact Kd.R_mono HO_6.out (fun _ hk => ⟨hk.1.1, ⟨hk.1.2, hk.2⟩⟩)⟩, ⟨by (with_reducible repeat (first | apply Kd.R_alloc | apply Kd.R_drewN | apply Kd.R_drew)); exact Kd.R_mono HO_7.out (fun _ hk => ⟨hk.1.1, ⟨hk.1.2, hk.2⟩⟩)⟩, ⟨by (with_reducible repeat (first | apply Kd.R_alloc | apply Kd.R_drewN | apply Kd.R_drew)); exact HO519.out⟩, ⟨by repeat (first | (with_reducible first | exact HB.out | apply below_alloc | apply pw_below_drewN | apply below_drew1) | exact HB.out)⟩⟩
            · rw [if_neg c31] at H
              exact absurd H (by simp)
        · rw [if_neg c14] at H
          exact absurd H (by simp)
      · rw [if_neg c13] at H
        have c13b0 : decide (x9_1 < (t498.length : Int)) = false := decide_eq_false c13
        clear c13
        replace H := Option.bind_eq_some_iff.mp H
        obtain ⟨t520, A340, H⟩ := H
        replace H : (some t520) = some r := H
        have A34 := Aside0.mk A340
        clear A340
        obtain rfl := Option.some.inj H
        obtain ⟨Ao35, co35, eo35⟩ := Kd.R_slice HO_6.out
        subst eo35
        obtain ⟨Ao36, co36, eo36⟩ := Kd.R_slice HO_7.out
        subst eo36
        go_wp2_with (first | ((with_reducible refine gate_callee (f := 45) rfl ?_); refine goesL_ (some 38) rfl rfl Tryd.func45 (by kernel_rfl) rfl #[.slice Ao36 x7_1.length co36] rfl (by (try simp only [List.map_toArray, List.map_cons, List.map_nil]); first | done | rfl | (simp only [List.length_drop, List.length_take]; rfl)) ?_; (with_reducible refine (filigreeref01_limbs.calls k1 _ _ x7_1 t520 _ ?side1 ?side2 A34.out).mono ?_); (case side1 => repeat (first | exact (Kd.R_reads' HO_7.out).2.2 | (with_reducible refine Kd.C_alloc ?_ _) | (with_reducible refine Kd.C_drewN ?_ _) | (with_reducible refine Kd.C_drew ?_))); (case side2 => exact (Kd.R_reads' HO_7.out).2.1); rintro e w37 ⟨v521, rfl, ho0, hb⟩; refine ⟨_, rfl, ?_⟩; have n0_ := Aside0.mk (Kd.R_below (by (with_reducible repeat (first | apply Kd.R_alloc | apply Kd.R_drewN | apply Kd.R_drew)); exact HO_5.out) hb); have n1_ := Aside0.mk (Kd.R_below (by (with_reducible repeat (first | apply Kd.R_alloc | apply Kd.R_drewN | apply Kd.R_drew)); exact HO_6.out) hb); have n2_ := Aside0.mk (Kd.R_below (by (with_reducible repeat (first | apply Kd.R_alloc | apply Kd.R_drewN | apply Kd.R_drew)); exact HO_7.out) hb); have n3_ := Aside0.mk (Kd.R_below (by (with_reducible repeat (first | apply Kd.R_alloc | apply Kd.R_drewN | apply Kd.R_drew)); exact HO_8.out) hb); have n4_ := Aside0.mk (Kd.R_lower ho0 (below_size (by repeat (first | (with_reducible first | exact HB.out | apply below_alloc | apply pw_below_drewN | apply below_drew1) | exact HB.out)))); have n5_ := Aside0.mk (below_step (by repeat (first | (with_reducible first | exact HB.out | apply below_alloc | apply pw_below_drewN | apply below_drew1) | exact HB.out)) hb); clear HO_5; clear HO_6; clear HO_7; clear HO_8; clear HB; have HO_5 := n0_; have HO_6 := n1_; have HO_7 := n2_; have HO_8 := n3_; have HO522 := n4_; have HB := n5_; clear n0_ n1_ n2_ n3_ n4_ n5_; (try clear hb); (try clear hb2); (try clear hk); (try clear hi); (try clear ho0)))
        go_ret
        exact ⟨_, by first | rfl | (simp [errW_none, errW_some] <;> rfl) | (simp [*, errW_none, errW_some] <;> rfl), by (with_reducible repeat (first | apply Kd.R_alloc | apply Kd.R_drewN | apply Kd.R_drew)); exact HO522.out, by repeat (first | (with_reducible first | exact HB.out | apply below_alloc | apply pw_below_drewN | apply below_drew1) | exact HB.out)⟩

end Go.Proofs.YtihlelniaiadgaaDoor.A
/- The plain laws of the document's answer over bits: sums, limbs again, the product. -/
namespace Go.Proofs.YtihlelniaiadgaaDoor.A
open Go Go.RowKit Go.Proofs.YtihlelniaiadgaaDoorW.PrintWords Go.Proofs.YtihlelniaiadgaaDoorW.PrintLast Go.Proofs.YtihlelniaiadgaaDoorW.PrintMore
theorem bval_nil : bval [] = 0 := rfl
theorem bval_one (x : Int) : bval [x] = x := by simp [bval]
/-- The document's sum of bits: one bit more than the longer one. -/
theorem sum_l0 (x y : List Int) (hx : Bits x) (hy : Bits y) (M : Nat) (hM : M = max x.length y.length) (hM2 : M < 140737488355000) :
    ∀ (j m k : Nat) (O : List Int) (c : Int), m + j = M + 1 → O.length = m → Bits O → (c = 0 ∨ c = 1) → bval O + 2 ^ m * c = bval (x.take m) + bval (y.take m) →
    ∃ r, filigreeref01_sum.l0 (k + j + 1) x y O c (m : Int) = some r ∧ Bits r ∧ r.length = M + 1 ∧ bval r = bval x + bval y := by
  intro j
  induction j with
  | zero =>
    intro m k O c hm hO hB hc hv
    refine ⟨O, ?_, hB, by omega, ?_⟩
    · rw [filigreeref01_sum.l0, mx_nat, if_neg (by omega)]
    · rw [List.take_of_length_le (by omega), List.take_of_length_le (by omega)] at hv
      have h1 := bval_bounds hx
      have h2 := bval_bounds hy
      have hpow : ∀ {a b : Nat}, a ≤ b → (2 : Int) ^ a ≤ 2 ^ b := fun h => by
        have := Nat.pow_le_pow_right (show 0 < 2 by decide) h
        exact_mod_cast this
      have h3 := hpow (show x.length ≤ M by omega)
      have h4 := hpow (show y.length ≤ M by omega)
      have h5 : (2 : Int) ^ m = 2 ^ M * 2 := by rw [show m = M + 1 by omega, Int.pow_succ]
      have h6 := bval_bounds hB
      rcases hc with rfl | rfl
      · omega
      · omega
  | succ j ih =>
    intro m k O c hm hO hB hc hv
    have hxm := hx.getD m
    have hym := hy.getD m
    obtain ⟨s, hs⟩ : ∃ s, s = x.getD m 0 + y.getD m 0 + c := ⟨_, rfl⟩
    have hs0 : 0 ≤ s ∧ s ≤ 3 := by omega
    obtain ⟨r, h1, h2, h3, h4⟩ := ih (m + 1) k (O ++ [s % 2]) (s / 2) (by omega) (by simp [hO]) (hB.append (Bits.one (by omega))) (by omega) (by
      rw [bval_append, bval_one, bval_take_succ, bval_take_succ, hO, Int.pow_succ]
      have := Int.emod_add_mul_ediv s 2
      grind)
    refine ⟨r, ?_, h2, h3, h4⟩
    rw [show k + (j + 1) + 1 = (k + j + 1) + 1 by omega, filigreeref01_sum.l0, mx_nat, if_pos (by omega), at_f, Option.bind_some, at_f, Option.bind_some, if_pos (by omega), w64 (by omega) (by omega)]
    rw [show ((x.getD m 0 + y.getD m 0) % 256 + c) % 256 = s by omega, u8_and1 s (by omega) (by omega), show ((m : Int) + 1) = ((m + 1 : Nat) : Int) by omega]
    exact h1
theorem sum_f (x y : List Int) (hx : Bits x) (hy : Bits y) (hM : max x.length y.length < 140737488355000) (k : Nat) (hk : max x.length y.length + 2 ≤ k) :
    ∃ r, filigreeref01_sum.f k x y = some r ∧ Bits r ∧ r.length = max x.length y.length + 1 ∧ bval r = bval x + bval y := by
  obtain ⟨d, rfl⟩ : ∃ d, k = d + (max x.length y.length + 1) + 1 := ⟨k - (max x.length y.length + 2), by omega⟩
  obtain ⟨r, h1, h2, h3, h4⟩ := sum_l0 x y hx hy _ rfl hM (max x.length y.length + 1) 0 d [] 0 (by omega) rfl Bits.nil (.inl rfl) (by simp [bval])
  exact ⟨r, h1, h2, h3, h4⟩
/- limbs of bits -/
theorem shl_u32 (b : Int) (hb : b = 0 ∨ b = 1) (i : Nat) (h : i < 32) : shl .u32 (b % 4294967296) (i : Int) = b * 2 ^ i := by
  unfold shl
  rw [show min ((i : Int)).toNat (IntKind.bits .u32) = i from by rw [Int.toNat_natCast]; exact Nat.min_eq_left (Nat.le_of_lt h)]
  have hp : (0 : Int) < 2 ^ i := Int.pow_pos (by decide)
  have hp2 : (2 : Int) ^ i ≤ 2 ^ 31 := by
    have := Nat.pow_le_pow_right (show 0 < 2 by decide) (show i ≤ 31 by omega)
    exact_mod_cast this
  rcases hb with rfl | rfl
  · simp; rfl
  · rw [show (1 : Int) % 4294967296 = 1 from rfl, Int.one_mul, wraps_u32 _ (by omega) (by omega)]
theorem or_low (x b : Int) (i : Nat) (hi : i < 32) (hx : 0 ≤ x) (hx2 : x < 2 ^ i) (hb : b = 0 ∨ b = 1) : Go.bits .or .u32 x (b * 2 ^ i) = x + b * 2 ^ i := by
  have hp : (0 : Int) < 2 ^ i := Int.pow_pos (by decide)
  have hp2 : (2 : Int) ^ i ≤ 2 ^ 31 := by
    have := Nat.pow_le_pow_right (show 0 < 2 by decide) (show i ≤ 31 by omega)
    exact_mod_cast this
  have hc : Go.bits .or .u32 x (b * 2 ^ i) = Go.bits .or .u32 (b * 2 ^ i) x := by
    obtain ⟨p, rfl⟩ := Int.eq_ofNat_of_zero_le hx
    obtain ⟨q, hq⟩ := Int.eq_ofNat_of_zero_le (show 0 ≤ b * 2 ^ i by rcases hb with rfl | rfl <;> omega)
    have hq2 : q < 2 ^ 32 := by rcases hb with rfl | rfl <;> omega
    have hp3 : p < 2 ^ 32 := by omega
    rw [hq, (bits_nat .u32 32 (by decide) wraps_u32 p q hp3 hq2).2, (bits_nat .u32 32 (by decide) wraps_u32 q p hq2 hp3).2, Nat.or_comm]
  rw [hc, bits_join .u32 32 (by decide) wraps_u32 i (b * 2 ^ i) x (by rcases hb with rfl | rfl <;> omega) (by rw [Int.mul_emod_left]) (by rcases hb with rfl | rfl <;> omega) hx hx2 (by omega)]
  omega
theorem pow_split (m : Nat) : (2 : Int) ^ m = 4294967296 ^ (m / 32) * 2 ^ (m % 32) := by
  rw [show (4294967296 : Int) = 2 ^ 32 from rfl, ← Int.pow_mul, ← Int.pow_add]
  congr 1
  omega
theorem limb_top (O : List Int) (lO : Limbs O) (m : Nat) (h : val O < 2 ^ m) : O.getD (m / 32) 0 < 2 ^ (m % 32) := by
  by_cases hm : m / 32 < O.length
  · have h1 : val O = val (O.take (m / 32)) + 4294967296 ^ (m / 32) * val (O.drop (m / 32)) := by
      have h0 := val_append (O.take (m / 32)) (O.drop (m / 32))
      rw [List.take_append_drop, List.length_take, Nat.min_eq_left (by omega)] at h0
      exact h0
    have h2 := val_nonneg (lO.take (m / 32))
    have h3 : O.drop (m / 32) = O.getD (m / 32) 0 :: O.drop (m / 32 + 1) := by rw [List.drop_eq_getElem_cons hm, getD_lt _ hm]
    have h4 : 0 ≤ val (O.drop (m / 32 + 1)) := val_nonneg (fun x hx => lO x (List.mem_of_mem_drop hx))
    rw [h3, val] at h1
    rw [h1, pow_split] at h
    have hp : (0 : Int) < 4294967296 ^ (m / 32) := Int.pow_pos (by decide)
    have h5 : (4294967296 : Int) ^ (m / 32) * O.getD (m / 32) 0 < 4294967296 ^ (m / 32) * 2 ^ (m % 32) := by
      have : 0 ≤ 4294967296 ^ (m / 32) * (4294967296 * val (O.drop (m / 32 + 1))) := Int.mul_nonneg (Int.le_of_lt hp) (by omega)
      rw [Int.mul_add] at h
      omega
    exact Int.lt_of_mul_lt_mul_left h5 (Int.le_of_lt hp)
  · rw [getD_ge _ (by omega)]
    exact Int.pow_pos (by decide)
theorem add_bit (x b P : Int) (hx : 0 ≤ x) (hx2 : x < P) (hb : b = 0 ∨ b = 1) (hP : P ≤ 2 ^ 31) (hp : 0 < P) : 0 ≤ x + b * P ∧ x + b * P < 4294967296 := by
  rcases hb with rfl | rfl
  · rw [Int.zero_mul]; omega
  · rw [Int.one_mul]; omega
theorem tdiv32 (m : Nat) (h : m < 4611686018427387904) : wrap64 (Int.tdiv (m : Int) 32) = ((m / 32 : Nat) : Int) := by
  have h0 : Int.tdiv (m : Int) 32 = ((m / 32 : Nat) : Int) := rfl
  rw [h0]
  exact w64 (by omega) (by omega)
theorem tmod32 (m : Nat) : IntKind.u64.wrap (Int.tmod (m : Int) 32) = ((m % 32 : Nat) : Int) := by
  have h0 : Int.tmod (m : Int) 32 = ((m % 32 : Nat) : Int) := rfl
  rw [h0]
  have h1 : m % 32 < 32 := Nat.mod_lt _ (by decide)
  generalize m % 32 = r at h1 ⊢
  show (r : Int) % 18446744073709551616 = r
  omega
theorem limbs_l0 (b : List Int) (hb : Bits b) (N : Nat) (hN : N < 35184372088832) (hbN : b.length ≤ 32 * N) :
    ∀ (j m k : Nat) (O : List Int), m + j = b.length → O.length = N → Limbs O → val O = bval (b.take m) →
    ∃ r, filigreeref01_limbs.l0 (k + N + 1 + j + 1) b O (m : Int) = some r ∧ IsNum r (bval b) ∧ r.length ≤ N := by
  intro j
  induction j with
  | zero =>
    intro m k O hm hO lO hv
    refine ⟨cut O, ?_, ?_, by have := cut_length O; omega⟩
    · rw [filigreeref01_limbs.l0, if_neg (by omega), norm_f O (by omega) _ (by omega)]
      rfl
    · have := IsNum.cut lO
      rw [hv, List.take_of_length_le (by omega)] at this
      exact this
  | succ j ih =>
    intro m k O hm hO lO hv
    have e1 := tdiv32 m (by omega)
    have e2 := tmod32 m
    have hlt : m / 32 < O.length := by omega
    have h31 : m % 32 ≤ 31 := by omega
    have hbm := hb.getD m
    have htop := limb_top O lO m (by rw [hv]; exact (bval_take_lt hb m).2)
    have hol := lO.getD (m / 32)
    have hmod : m % 32 < 32 := Nat.mod_lt _ (by decide)
    have hp : (0 : Int) < 2 ^ (m % 32) := Int.pow_pos (by decide)
    have hp2 : (2 : Int) ^ (m % 32) ≤ 2 ^ 31 := by
      have := Nat.pow_le_pow_right (show 0 < 2 by decide) h31
      exact_mod_cast this
    have hset := add_bit (O.getD (m / 32) 0) (b.getD m 0) (2 ^ (m % 32)) hol.1 htop hbm hp2 hp
    have hsh := shl_u32 (b.getD m 0) hbm (m % 32) hmod
    have hor := or_low (O.getD (m / 32) 0) (b.getD m 0) (m % 32) hmod hol.1 htop hbm
    have hps := pow_split m
    clear htop hp hp2
    generalize (2 : Int) ^ (m % 32) = Q at hset hsh hor hps
    have hv2 : val (O.set (m / 32) (O.getD (m / 32) 0 + b.getD m 0 * Q)) = bval (b.take (m + 1)) := by
      rw [val_set O (m / 32) _ hlt, hv, bval_take_succ, hps]
      have h9 : O.getD (m / 32) 0 + b.getD m 0 * Q - O.getD (m / 32) 0 = b.getD m 0 * Q := by rw [Int.add_comm (O.getD (m / 32) 0)]; exact Int.add_sub_cancel _ _
      rw [h9, Int.mul_assoc, Int.mul_comm Q]
    clear hps
    obtain ⟨r, h1, h2, h3⟩ := ih (m + 1) k (O.set (m / 32) (O.getD (m / 32) 0 + b.getD m 0 * Q)) (by omega) (by rw [List.length_set]; exact hO) (lO.set _ hset.1 hset.2) hv2
    refine ⟨r, ?_, h2, h3⟩
    rw [show k + N + 1 + (j + 1) + 1 = (k + N + 1 + j + 1) + 1 by omega, filigreeref01_limbs.l0, if_pos (by omega), e1, e2, if_pos (by omega), if_pos (by omega), if_pos (by omega), if_pos (by omega), rd_nat, rd_nat, hsh, hor, w64 (by omega) (by omega), Int.toNat_natCast, show ((m : Int) + 1) = ((m + 1 : Nat) : Int) by omega]
    exact h1
theorem limbs_f (b : List Int) (hb : Bits b) (hl : b.length < 140737488355328) (k : Nat) (hk : 2 * b.length + 4 ≤ k) :
    ∃ r, filigreeref01_limbs.f k b = some r ∧ IsNum r (bval b) ∧ 32 * r.length ≤ b.length + 31 := by
  obtain ⟨N, hN⟩ : ∃ N, N = (b.length + 31) / 32 := ⟨_, rfl⟩
  have e1 : wrap64 (Int.tdiv (wrap64 ((b.length : Int) + 31)) 32) = (N : Int) := by
    rw [w64 (n := (b.length : Int) + 31) (by omega) (by omega), show (b.length : Int) + 31 = ((b.length + 31 : Nat) : Int) by omega, show Int.tdiv ((b.length + 31 : Nat) : Int) 32 = (((b.length + 31) / 32 : Nat) : Int) from rfl, ← hN, w64 (by omega) (by omega)]
  obtain ⟨d, rfl⟩ : ∃ d, k = d + N + 1 + b.length + 1 := ⟨k - (N + 1 + b.length + 1), by omega⟩
  obtain ⟨r, h1, h2, h3⟩ := limbs_l0 b hb N (by omega) (by omega) b.length 0 d (List.replicate N 0) (by omega) (by simp) (limbs_replicate _) (by rw [val_replicate]; rfl)
  refine ⟨r, ?_, h2, by omega⟩
  unfold filigreeref01_limbs.f
  rw [e1, if_pos (by omega), Int.toNat_natCast, if_pos (by omega)]
  exact h1
end Go.Proofs.YtihlelniaiadgaaDoor.A
/- The plain law of the document's product. -/
namespace Go.Proofs.YtihlelniaiadgaaDoor.A
open Go Go.RowKit Go.Proofs.YtihlelniaiadgaaDoorW.PrintWords Go.Proofs.YtihlelniaiadgaaDoorW.PrintLast Go.Proofs.YtihlelniaiadgaaDoorW.PrintMore
theorem bits_zeros (n : Nat) : Bits (List.replicate n 0) := fun x hx => .inl (List.eq_of_mem_replicate hx)
theorem bval_zeros (n : Nat) : bval (List.replicate n 0) = 0 := by
  induction n with
  | zero => rfl
  | succ n ih => simp only [List.replicate_succ, bval, ih]; rfl
theorem rmul_l0 (x y : List Int) (hx : Bits x) (hy : Bits y) (hl : x.length + 2 * y.length < 1000000000) :
    ∀ (j m k : Nat) (A : List Int), m + j = y.length → Bits A → A.length ≤ x.length + 2 * m → bval A = bval x * bval (y.take m) →
    ∃ r, filigreeref01_Mul.l0 (k + 2 * (x.length + 2 * y.length) + 10 + j + 1) x y A (List.replicate m 0) (m : Int) = some r ∧ IsNum r (bval x * bval y) := by
  intro j
  induction j with
  | zero =>
    intro m k A hm hA lA hv
    obtain ⟨r, h1, h2, _⟩ := limbs_f A hA (by omega) (k + 2 * (x.length + 2 * y.length) + 10) (by omega)
    refine ⟨r, ?_, ?_⟩
    · rw [Nat.add_zero, filigreeref01_Mul.l0, if_neg (by omega), h1]
      rfl
    · rw [hv, List.take_of_length_le (by omega)] at h2
      exact h2
  | succ j ih =>
    intro m k A hm hA lA hv
    have hz : List.replicate m (0 : Int) ++ [0] = List.replicate (m + 1) 0 := List.replicate_succ'.symm
    have hlz : (List.replicate m (0 : Int)).length = m := List.length_replicate
    have hS : Bits (List.replicate m 0 ++ x) := (bits_zeros m).append hx
    have hSl : (List.replicate m (0 : Int) ++ x).length = m + x.length := by rw [List.length_append, hlz]
    obtain ⟨t, h1, h2, h3, h4⟩ := sum_f A (List.replicate m 0 ++ x) hA hS (by omega) (k + 2 * (x.length + 2 * y.length) + 10 + j + 1) (by omega)
    rcases hy.getD m with h0 | h0
    · obtain ⟨r, h5, h6⟩ := ih (m + 1) k A (by omega) hA (by omega) (by rw [bval_take_succ, h0, hv, Int.mul_zero, Int.add_zero])
      refine ⟨r, ?_, h6⟩
      rw [show k + 2 * (x.length + 2 * y.length) + 10 + (j + 1) + 1 = (k + 2 * (x.length + 2 * y.length) + 10 + j + 1) + 1 by omega, filigreeref01_Mul.l0, if_pos (by omega), if_pos (by omega), rd_nat, h0, if_neg (by decide), if_pos (by omega), hz, w64 (by omega) (by omega)]
      exact h5
    · obtain ⟨r, h5, h6⟩ := ih (m + 1) k t (by omega) h2 (by omega) (by
        rw [h4, hv, bval_append, bval_zeros, hlz, bval_take_succ, h0, Int.zero_add, Int.mul_one, Int.mul_add, Int.mul_comm (bval x) (2 ^ m)])
      refine ⟨r, ?_, h6⟩
      rw [show k + 2 * (x.length + 2 * y.length) + 10 + (j + 1) + 1 = (k + 2 * (x.length + 2 * y.length) + 10 + j + 1) + 1 by omega, filigreeref01_Mul.l0, if_pos (by omega), if_pos (by omega), rd_nat, h0, if_pos rfl]
      simp only [Option.bind_some, List.nil_append]
      rw [if_pos (by simp only [List.length_nil]; omega), if_pos (by omega), h1, Option.bind_some, if_pos (by omega), hz, w64 (by omega) (by omega)]
      exact h5
theorem rmul_f (a b : List Int) (ha : Limbs a) (hb : Limbs b) (la : a.length < 1000000) (lb : b.length < 1000000) (k : Nat) (hk : 200 * a.length + 200 * b.length + 100 ≤ k) :
    ∃ r, filigreeref01_Mul.f k a b = some r ∧ IsNum r (val a * val b) := by
  have ca := cut_length a
  have cb := cut_length b
  have la2 := bitsOf_length (cut a)
  have lb2 := bitsOf_length (cut b)
  obtain ⟨d, hd⟩ : ∃ d, k = d + 2 * ((bitsOf (cut a)).length + 2 * (bitsOf (cut b)).length) + 10 + (bitsOf (cut b)).length + 1 := ⟨k - (2 * ((bitsOf (cut a)).length + 2 * (bitsOf (cut b)).length) + 10 + (bitsOf (cut b)).length + 1), by omega⟩
  obtain ⟨r, h1, h2⟩ := rmul_l0 (bitsOf (cut a)) (bitsOf (cut b)) (bitsOf_bits _) (bitsOf_bits _) (by omega) (bitsOf (cut b)).length 0 d [] (by omega) Bits.nil (by simp) (by simp [bval])
  refine ⟨r, ?_, by rw [bval_bitsOf (cut_limbs ha), bval_bitsOf (cut_limbs hb), cut_val, cut_val] at h2; exact h2⟩
  rw [← hd] at h1
  unfold filigreeref01_Mul.f
  rw [norm_f a (by omega) k (by omega), Option.bind_some, bits_f _ (cut_limbs ha) (by omega) k (by omega), Option.bind_some, norm_f b (by omega) k (by omega), Option.bind_some, bits_f _ (cut_limbs hb) (by omega) k (by omega), Option.bind_some]
  exact h1
end Go.Proofs.YtihlelniaiadgaaDoor.A
-- written by a program of this session (a turned print; wip/tools): Lean checks it
namespace Go.Proofs.YtihlelniaiadgaaDoor.A
open Go.RowKit Go.Proofs.YtihlelniaiadgaaDoorW.PrintWords Go.Proofs.YtihlelniaiadgaaDoorW.PrintLast Go.Proofs.YtihlelniaiadgaaDoorW.PrintMore
attribute [local go_sem] max2_int min2_int max_two min_two max_three min_three max_four min_four   -- for this text's walks alone
set_option linter.unusedVariables false
set_option linter.unusedSimpArgs false

/-! ### bits_Sub32: function 60 -/
def bits_Sub32.f (a0 : Int) (a1 : Int) (a2 : Int) : Option (Int × Int) := some ((((a0 - a1) % 4294967296) - a2) % 4294967296, (Go.bits .or .u32 (Go.bits .and .u32 (Go.bits .xor .u32 4294967295 a0) a1) (Go.bits .and .u32 (Go.bits .xor .u32 4294967295 (Go.bits .xor .u32 a0 a1)) ((((a0 - a1) % 4294967296) - a2) % 4294967296))) / 2147483648)
set_option maxHeartbeats 8000000 in
set_option maxRecDepth 100000 in
theorem bits_Sub32.calls (a0 : Int) (a1 : Int) (a2 : Int) (r1 : Int) (r2 : Int) (w : World) (h : bits_Sub32.f a0 a1 a2 = some (r1, r2)) :
    Calls Tryd.prog 60 #[.int .u32 a0, .int .u32 a1, .int .u32 a2] w fun e w' => e = .returned (.tuple #[.int .u32 r1, .int .u32 r2]) ∧ Drawn0 w w' := by
  have H : (some ((((a0 - a1) % 4294967296) - a2) % 4294967296, (Go.bits .or .u32 (Go.bits .and .u32 (Go.bits .xor .u32 4294967295 a0) a1) (Go.bits .and .u32 (Go.bits .xor .u32 4294967295 (Go.bits .xor .u32 a0 a1)) ((((a0 - a1) % 4294967296) - a2) % 4294967296))) / 2147483648)) = some (r1, r2) := h
  clear h
  simp only [Option.some.injEq, Prod.mk.injEq] at H
  obtain ⟨rfl, rfl⟩ := H
  go_enter Tryd.func60, Tryd.ntmps60
  go_wp2
  go_ret2
  exact ⟨by first | rfl | (simp; done) | (simp [*]; done), by repeat (first | exact Drawn0.refl _ | apply Drawn0.step)⟩

end Go.Proofs.YtihlelniaiadgaaDoor.A
-- written by a program of this session (a turned print; wip/tools): Lean checks it
namespace Go.Proofs.YtihlelniaiadgaaDoor.A
open Go.RowKit Go.Proofs.YtihlelniaiadgaaDoorW.PrintWords Go.Proofs.YtihlelniaiadgaaDoorW.PrintLast Go.Proofs.YtihlelniaiadgaaDoorW.PrintMore
attribute [local go_sem] max2_int min2_int max_two min_two max_three min_three max_four min_four   -- for this text's walks alone
set_option linter.unusedVariables false
set_option linter.unusedSimpArgs false

/-! ### natural_less: function 49 -/
def natural_less.l0 : Nat → List Int → List Int → Int → Int → Int → Option (Int × List Int)
  | 0, _, _, _, _, _ => none
  | k + 1, x0, x1, x5, x9, x10 => if x10 < x9 then (if x10 < (x1.length : Int) then (if 0 ≤ x10 then (if x10 < (x0.length : Int) then ((bits_Sub32.f (rd x0 x10) (rd x1 x10) x5).bind fun bt146 => (natural_less.l0 k (x0.set (x10 : Int).toNat bt146.1) x1 bt146.2 x9 (wrap64 (x10 + 1)))) else (none)) else (none)) else (if 0 ≤ x10 then (if x10 < (x0.length : Int) then ((bits_Sub32.f (rd x0 x10) 0 x5).bind fun bt150 => (natural_less.l0 k (x0.set (x10 : Int).toNat bt150.1) x1 bt150.2 x9 (wrap64 (x10 + 1)))) else (none)) else (none))) else (some (x5, x0))
def natural_less.f (k : Nat) (l0 : List Int) (l1 : List Int) : Option (Int × List Int) := natural_less.l0 k l0 l1 0 (l0.length : Int) 0
theorem natural_less.mono_l : ∀ k, (∀ y0 y1 y2 y3 y4, LeO (natural_less.l0 k y0 y1 y2 y3 y4) (natural_less.l0 (k + 1) y0 y1 y2 y3 y4))
  | 0 => fun _ _ _ _ _ r h => by simp [natural_less.l0] at h
  | k + 1 => by
    have ih0 := natural_less.mono_l k
    · intro y0 y1 y2 y3 y4
      unfold natural_less.l0
      repeat' first
      | (with_reducible exact ih0 _ _ _ _ _)
      | (with_reducible exact LeO.refl _)
      | (with_reducible exact LeO.none _)
      | (with_reducible refine LeO.ite ?_ ?_)
      | (with_reducible refine LeO.bind ?_ (fun _ => ?_))
      | exact ih0 _ _ _ _ _
      | exact LeO.none _
      | refine LeO.ite ?_ ?_
      | refine LeO.bind ?_ (fun _ => ?_)
theorem natural_less.mono : ∀ a0 a1 k, LeO (natural_less.f k a0 a1) (natural_less.f (k + 1) a0 a1) := by
  intro a0 a1 k
  have ih0 := natural_less.mono_l k
  unfold natural_less.f
  repeat' first
      | (with_reducible exact ih0 _ _ _ _ _)
      | (with_reducible exact LeO.refl _)
      | (with_reducible exact LeO.none _)
      | (with_reducible refine LeO.ite ?_ ?_)
      | (with_reducible refine LeO.bind ?_ (fun _ => ?_))
      | exact ih0 _ _ _ _ _
      | exact LeO.none _
      | refine LeO.ite ?_ ?_
      | refine LeO.bind ?_ (fun _ => ?_)
set_option maxHeartbeats 8000000 in
set_option maxRecDepth 100000 in
theorem natural_less.calls (k : Nat) (P0_ : Nat → Prop) (u9000_ : Value) (l0 : List Int) (A1 : Option Addr) (c1 : Nat) (l1 : List Int) (r1 : Int) (r2 : List Int) (w0 w : World) (hB : Below w0.heap.size w0 w) (ho0 : Kd.R (Kd.int .u32) 36 w w0.heap.size P0_ u9000_ l0) (hr1 : ∀ W_, Kept w W_ (fun k_ => P0_ k_) → Kd.C (Kd.int .u32) W_ A1 l1.length l1) (hc1 : l1.length ≤ c1) (h : natural_less.f k l0 l1 = some (r1, r2)) :
    Calls Tryd.prog 49 #[u9000_, .slice A1 l1.length c1] w fun e w' => e = .returned (.int .u32 r1) ∧ Kd.R (Kd.int .u32) 36 w' w0.heap.size (fun k_ => (P0_ k_ ∨ w.heap.size ≤ k_)) u9000_ r2 ∧ Below w0.heap.size w0 w' ∧ Kept w w' (fun k_ => P0_ k_) := by
  have HO0 := Aside0.mk (show Kd.R (Kd.int .u32) 36 w w0.heap.size (fun k_ => (P0_ k_ ∨ w.heap.size ≤ k_)) u9000_ l0 from Kd.R_mono ho0 (fun k_ hk => (.inl hk)))
  have HR1 := Aside0.mk hr1
  have HC1 := Aside0.mk hc1
  clear hr1 hc1
  have HK := Aside0.mk (Kept.refl w (fun k_ => P0_ k_))
  have HW0 := Aside0.mk hB.size
  have HB := Aside0.mk hB
  clear hB
  have H : (natural_less.l0 k l0 l1 0 (l0.length : Int) 0) = some (r1, r2) := h
  clear h
  have H' := Aside0.mk H
  clear H
  obtain ⟨Ao3, co3, eo3⟩ := Kd.R_slice HO0.out
  subst eo3
  go_enter Tryd.func49, Tryd.ntmps49
  go_wp2
  go_loopg [5, 10] k (fun kq v5 v10 w' => ∃ (x0_1 : List Int) (x5_1 : Int) (x10_1 : Int), v5 = .int .u32 x5_1 ∧ v10 = .int .i64 x10_1 ∧ Aside0 (natural_less.l0 kq x0_1 l1 x5_1 (l0.length : Int) x10_1 = some (r1, r2)) ∧ Aside0 (kq ≤ k) ∧ Aside0 (Kd.R (Kd.int .u32) 36 w' w0.heap.size (fun k_ => (P0_ k_ ∨ w.heap.size ≤ k_)) (.slice Ao3 l0.length co3) x0_1) ∧ Aside0 (Kept w w' (fun k_ => P0_ k_)) ∧ Aside0 (Below w0.heap.size w0 w'))
  case atStart => exact ⟨(l0), (0), (0), (by first | rfl | (simp; done) | (simp [*]; done)), (by first | rfl | (simp; done) | (simp [*]; done)), H', ⟨Nat.le_refl _⟩, ⟨by (with_reducible repeat (first | apply Kd.R_alloc | apply Kd.R_drewN | apply Kd.R_drew)); exact HO0.out⟩, ⟨by repeat (first | (with_reducible first | exact HK.out | apply Kept.alloc | apply Kept.drewN | apply Kept.drew) | exact HK.out)⟩, ⟨by repeat (first | (with_reducible first | exact HB.out | apply below_alloc | apply pw_below_drewN | apply below_drew1) | exact HB.out)⟩⟩
  case round =>
    clear H'
    try clear c1
    try clear p2
    obtain ⟨x0_1, x5_1, x10_1, rfl, rfl, HA, HK1, HO_0, HK, HB⟩ := hrel
    have hl0_1 := (Kd.R_reads' HO_0.out).1
    rw [hl0_1] at HO_0
    (try simp only [hl0_1])
    cases gk with
    | zero => exact absurd HA.out (by simp [natural_less.l0])
    | succ k1 =>
      have H := HA.out
      clear HA
      simp only [natural_less.l0] at H
      by_cases c4 : x10_1 < (l0.length : Int)
      · rw [if_pos c4] at H
        have c4b0 : decide (x10_1 < (l0.length : Int)) = true := decide_eq_true c4
        (try (have c4b0l := c4b0; simp only [hl0_1] at c4b0l))
        clear c4
        by_cases c5 : x10_1 < (l1.length : Int)
        · rw [if_pos c5] at H
          have c5b0 : decide (x10_1 < (l1.length : Int)) = true := decide_eq_true c5
          (try (have c5b0l := c5b0; simp only [hl0_1] at c5b0l))
          clear c5
          by_cases c6 : 0 ≤ x10_1
          · rw [if_pos c6] at H
            have c6b0 : decide (0 ≤ x10_1) = true := decide_eq_true c6
            (try (have c6b0l := c6b0; simp only [hl0_1] at c6b0l))
            clear c6
            by_cases c7 : x10_1 < (x0_1.length : Int)
            · rw [if_pos c7] at H
              have c7b0 : decide (x10_1 < (x0_1.length : Int)) = true := decide_eq_true c7
              (try (have c7b0l := c7b0; simp only [hl0_1] at c7b0l))
              clear c7
              replace H := Option.bind_eq_some_iff.mp H
              obtain ⟨⟨t146, t147⟩, A80, H⟩ := H
              replace H : (natural_less.l0 k1 (x0_1.set (x10_1 : Int).toNat t146) l1 t147 (l0.length : Int) (wrap64 (x10_1 + 1))) = some (r1, r2) := H
              have A8 := Aside0.mk A80
              clear A80
              obtain ⟨y148, hy148⟩ : ∃ y_ : List Int, y_ = (x0_1.set (x10_1 : Int).toNat t146) := ⟨_, rfl⟩
              replace H : (natural_less.l0 k1 y148 l1 t147 (l0.length : Int) (wrap64 (x10_1 + 1))) = some (r1, r2) := by first | (rw [hy148]; with_reducible exact H) | (have H2_ := (Option.bind_some _ _).symm.trans H; rw [hy148]; with_reducible exact H2_) | (have H2_ := (Option.bind_some _ _).symm.trans H; with_reducible exact H2_) | with_reducible exact H | (rw [hy148]; exact H) | exact H
              have Ny148 := Aside0.mk hy148
              clear hy148
              have H' := Aside0.mk H
              clear H
              have p144 : 0 ≤ (x10_1 : Int) := of_decide_eq_true (by first | (with_reducible assumption) | assumption)
              have q144 : x10_1 < (l1.length : Int) := of_decide_eq_true (by first | (with_reducible assumption) | assumption)
              obtain ⟨ad144, e144, hx144_0⟩ := Kd.at_int (Kd.C_kept_now HR1.out HK.out) x10_1 p144 q144
              cases e144
              replace p144 := eq_true p144
              replace q144 := eq_true q144
              have p145 : 0 ≤ (x10_1 : Int) := of_decide_eq_true (by first | (with_reducible assumption) | assumption)
              have q145 : x10_1 < (x0_1.length : Int) := of_decide_eq_true (by first | (with_reducible assumption) | assumption)
              obtain ⟨ad145, e145, hx145_0⟩ := Kd.at_int (Kd.R_reads' HO_0.out).2.2 x10_1 p145 q145
              cases e145
              replace p145 := eq_true p145
              replace q145 := eq_true q145
              go_wp2_with (first | ((with_reducible refine gate_callee (f := 60) rfl ?_); refine goesL_ (some 30) rfl rfl Tryd.func60 (by kernel_rfl) rfl #[.int .u32 (rd x0_1 x10_1), .int .u32 (rd l1 x10_1), .int .u32 x5_1] rfl (by (try simp only [List.map_toArray, List.map_cons, List.map_nil]); first | done | rfl | (simp only [List.length_drop, List.length_take]; rfl)) ?_; (with_reducible refine (bits_Sub32.calls (rd x0_1 x10_1) (rd l1 x10_1) x5_1 t146 t147 _ A8.out).mono ?_); rintro e w' ⟨rfl, ⟨nd, rfl⟩⟩; refine ⟨_, rfl, ?_⟩; (try (rw [drewN_self wr]; generalize hq_ : World.drewN wr _ = wr; have n0_ : Aside0 (Kd.R (Kd.int .u32) 36 wr w0.heap.size (fun k_ => (P0_ k_ ∨ w.heap.size ≤ k_)) (.slice (some ad145) x0_1.length co3) x0_1) := ⟨by rw [← hq_]; exact (by (with_reducible repeat (first | apply Kd.R_alloc | apply Kd.R_drewN | apply Kd.R_drew)); exact HO_0.out)⟩; have n1_ : Aside0 (Kept w wr (fun k_ => P0_ k_)) := ⟨by rw [← hq_]; exact (by repeat (first | (with_reducible first | exact HK.out | apply Kept.alloc | apply Kept.drewN | apply Kept.drew) | exact HK.out))⟩; have n2_ : Aside0 (Below w0.heap.size w0 wr) := ⟨by rw [← hq_]; exact (by repeat (first | (with_reducible first | exact HB.out | apply below_alloc | apply pw_below_drewN | apply below_drew1) | exact HB.out))⟩; clear HO_0 HK HB hq_; have HO_0 := n0_; have HK := n1_; have HB := n2_; clear n0_ n1_ n2_)); have p9 : 0 ≤ (x10_1 : Int) := of_decide_eq_true (by first | (with_reducible assumption) | assumption); have q9 : (x10_1 : Int) < ((x0_1.length : Int) : Int) := of_decide_eq_true (by first | (with_reducible assumption) | assumption); obtain ⟨go9, co9, eo9, gb9, gl9, cl9, HG9⟩ := Kd.R_form HO_0.out (by omega); (first | cases eo9 | (injection eo9 with ea_ en_ ec_; (first | subst ea_ | (injection ea_ with ea_; subst ea_)); subst ec_; clear en_)); have GB9 := Aside0.mk gb9; have GG9 := Aside0.mk HG9; clear gb9 gl9 HG9; have HMgo9 := Aside0.mk (show (P0_ go9 ∨ w.heap.size ≤ go9) from (HO_0.out.1 _ rfl)); (first | simp only [add_plain] at hx145_0 | skip); obtain ⟨hx9_0, hf9_0⟩ := Kd.R_celln 0 HO_0.out (x10_1 : Int) p9 q9; replace p9 := eq_true p9; replace q9 := eq_true q9; obtain ⟨hy10_, hz10_⟩ := Kd.R_celln 0 HO_0.out (x10_1 : Int) (of_decide_eq_true (by first | (with_reducible assumption) | assumption)) (of_decide_eq_true (by first | (with_reducible assumption) | assumption)); have HP10 := Kd.R_putg HO_0.out (x10_1 : Int) t146) | ((with_reducible refine gate_store (t := 36) (p := 33) rfl ?_); refine store_event (t := 36) (p := 33) (v := ?vo_w11) (w1 := (wr.setCell ⟨go9, (x10_1 : Int).toNat, none⟩ (.int .u32 t146))) ?hg ?ho ?hn ?hr ?_; (case ho => rfl); (case hg => rfl); (case hn => rfl); (case hr => first | (go_simp; done) | (go_simp; rfl) | (go_simp; rw [show ∀ x : Int, IntKind.u32.wrap (IntKind.u8.wrap x) = x % 256 from fun x => (by show (x % 256) % 4294967296 = x % 256; omega)])); intro w11 hw; have hg : wr.grownBy w11 (some go9) := (by rw [hw]; exact HP10.2); have hp_ : Kd.R (Kd.int .u32) 36 w11 w0.heap.size (fun k_ => (P0_ k_ ∨ w.heap.size ≤ k_)) (.slice (some ⟨go9, 0, none⟩) x0_1.length co3) y148 := (by rw [hw, Ny148.out]; exact HP10.1); clear HP10; have n0_ := Aside0.mk (hp_); have n1_ := Aside0.mk ((by rw [hw]; exact below_set (HB.out) GB9.out : Below w0.heap.size w0 w11)); have n2_ := Aside0.mk (Kept.of_grown (S := (fun k_ => P0_ k_)) hg (by repeat (first | (with_reducible first | exact HK.out | apply Kept.alloc | apply Kept.drewN | apply Kept.drew) | exact HK.out)) (fun k_ e_ => (HO_0.out.1 k_ e_))); clear HO_0; clear HB; clear HK; have HO_0 := n0_; have HB := n1_; have HK := n2_; clear n0_ n1_ n2_; clear hg hw hp_))
              (try simp only [← hl0_1])
              go_roundg k1
              case measure => have := HK1.out; omega
              case rel => exact ⟨(y148), (t147), (wrap64 (x10_1 + 1)), (by first | rfl | (simp; done) | (simp [*]; done)), (by first | rfl | (simp; done) | (simp [*]; done)), H', ⟨by have := HK1.out; omega⟩, ⟨by (try simp only [hl0_1]); (with_reducible repeat (first | apply Kd.R_alloc | apply Kd.R_drewN | apply Kd.R_drew)); exact HO_0.out⟩, ⟨by repeat (first | (with_reducible first | exact HK.out | apply Kept.alloc | apply Kept.drewN | apply Kept.drew) | exact HK.out)⟩, ⟨by repeat (first | (with_reducible first | exact HB.out | apply below_alloc | apply pw_below_drewN | apply below_drew1) | exact HB.out)⟩⟩
            · rw [if_neg c7] at H
              exact absurd H (by simp)
          · rw [if_neg c6] at H
            exact absurd H (by simp)
        · rw [if_neg c5] at H
          have c5b0 : decide (x10_1 < (l1.length : Int)) = false := decide_eq_false c5
          (try (have c5b0l := c5b0; simp only [hl0_1] at c5b0l))
          clear c5
          by_cases c12 : 0 ≤ x10_1
          · rw [if_pos c12] at H
            have c12b0 : decide (0 ≤ x10_1) = true := decide_eq_true c12
            (try (have c12b0l := c12b0; simp only [hl0_1] at c12b0l))
            clear c12
            by_cases c13 : x10_1 < (x0_1.length : Int)
            · rw [if_pos c13] at H
              have c13b0 : decide (x10_1 < (x0_1.length : Int)) = true := decide_eq_true c13
              (try (have c13b0l := c13b0; simp only [hl0_1] at c13b0l))
              clear c13
              replace H := Option.bind_eq_some_iff.mp H
              obtain ⟨⟨t150, t151⟩, A140, H⟩ := H
              replace H : (natural_less.l0 k1 (x0_1.set (x10_1 : Int).toNat t150) l1 t151 (l0.length : Int) (wrap64 (x10_1 + 1))) = some (r1, r2) := H
              have A14 := Aside0.mk A140
              clear A140
              obtain ⟨y152, hy152⟩ : ∃ y_ : List Int, y_ = (x0_1.set (x10_1 : Int).toNat t150) := ⟨_, rfl⟩
              replace H : (natural_less.l0 k1 y152 l1 t151 (l0.length : Int) (wrap64 (x10_1 + 1))) = some (r1, r2) := by first | (rw [hy152]; with_reducible exact H) | (have H2_ := (Option.bind_some _ _).symm.trans H; rw [hy152]; with_reducible exact H2_) | (have H2_ := (Option.bind_some _ _).symm.trans H; with_reducible exact H2_) | with_reducible exact H | (rw [hy152]; exact H) | exact H
              have Ny152 := Aside0.mk hy152
              clear hy152
              have H' := Aside0.mk H
              clear H
              have p149 : 0 ≤ (x10_1 : Int) := of_decide_eq_true (by first | (with_reducible assumption) | assumption)
              have q149 : x10_1 < (x0_1.length : Int) := of_decide_eq_true (by first | (with_reducible assumption) | assumption)
              obtain ⟨ad149, e149, hx149_0⟩ := Kd.at_int (Kd.R_reads' HO_0.out).2.2 x10_1 p149 q149
              cases e149
              replace p149 := eq_true p149
              replace q149 := eq_true q149
              go_wp2_with (first | ((with_reducible refine gate_callee (f := 60) rfl ?_); refine goesL_ (some 30) rfl rfl Tryd.func60 (by kernel_rfl) rfl #[.int .u32 (rd x0_1 x10_1), .int .u32 0, .int .u32 x5_1] rfl (by (try simp only [List.map_toArray, List.map_cons, List.map_nil]); first | done | rfl | (simp only [List.length_drop, List.length_take]; rfl)) ?_; (with_reducible refine (bits_Sub32.calls (rd x0_1 x10_1) 0 x5_1 t150 t151 _ A14.out).mono ?_); rintro e w' ⟨rfl, ⟨nd, rfl⟩⟩; refine ⟨_, rfl, ?_⟩; (try (rw [drewN_self wr]; generalize hq_ : World.drewN wr _ = wr; have n0_ : Aside0 (Kd.R (Kd.int .u32) 36 wr w0.heap.size (fun k_ => (P0_ k_ ∨ w.heap.size ≤ k_)) (.slice (some ad149) x0_1.length co3) x0_1) := ⟨by rw [← hq_]; exact (by (with_reducible repeat (first | apply Kd.R_alloc | apply Kd.R_drewN | apply Kd.R_drew)); exact HO_0.out)⟩; have n1_ : Aside0 (Kept w wr (fun k_ => P0_ k_)) := ⟨by rw [← hq_]; exact (by repeat (first | (with_reducible first | exact HK.out | apply Kept.alloc | apply Kept.drewN | apply Kept.drew) | exact HK.out))⟩; have n2_ : Aside0 (Below w0.heap.size w0 wr) := ⟨by rw [← hq_]; exact (by repeat (first | (with_reducible first | exact HB.out | apply below_alloc | apply pw_below_drewN | apply below_drew1) | exact HB.out))⟩; clear HO_0 HK HB hq_; have HO_0 := n0_; have HK := n1_; have HB := n2_; clear n0_ n1_ n2_)); have p15 : 0 ≤ (x10_1 : Int) := of_decide_eq_true (by first | (with_reducible assumption) | assumption); have q15 : (x10_1 : Int) < ((x0_1.length : Int) : Int) := of_decide_eq_true (by first | (with_reducible assumption) | assumption); obtain ⟨go15, co15, eo15, gb15, gl15, cl15, HG15⟩ := Kd.R_form HO_0.out (by omega); (first | cases eo15 | (injection eo15 with ea_ en_ ec_; (first | subst ea_ | (injection ea_ with ea_; subst ea_)); subst ec_; clear en_)); have GB15 := Aside0.mk gb15; have GG15 := Aside0.mk HG15; clear gb15 gl15 HG15; have HMgo15 := Aside0.mk (show (P0_ go15 ∨ w.heap.size ≤ go15) from (HO_0.out.1 _ rfl)); (first | simp only [add_plain] at hx149_0 | skip); obtain ⟨hx15_0, hf15_0⟩ := Kd.R_celln 0 HO_0.out (x10_1 : Int) p15 q15; replace p15 := eq_true p15; replace q15 := eq_true q15; obtain ⟨hy16_, hz16_⟩ := Kd.R_celln 0 HO_0.out (x10_1 : Int) (of_decide_eq_true (by first | (with_reducible assumption) | assumption)) (of_decide_eq_true (by first | (with_reducible assumption) | assumption)); have HP16 := Kd.R_putg HO_0.out (x10_1 : Int) t150) | ((with_reducible refine gate_store (t := 36) (p := 33) rfl ?_); refine store_event (t := 36) (p := 33) (v := ?vo_w17) (w1 := (wr.setCell ⟨go15, (x10_1 : Int).toNat, none⟩ (.int .u32 t150))) ?hg ?ho ?hn ?hr ?_; (case ho => rfl); (case hg => rfl); (case hn => rfl); (case hr => first | (go_simp; done) | (go_simp; rfl) | (go_simp; rw [show ∀ x : Int, IntKind.u32.wrap (IntKind.u8.wrap x) = x % 256 from fun x => (by show (x % 256) % 4294967296 = x % 256; omega)])); intro w17 hw; have hg : wr.grownBy w17 (some go15) := (by rw [hw]; exact HP16.2); have hp_ : Kd.R (Kd.int .u32) 36 w17 w0.heap.size (fun k_ => (P0_ k_ ∨ w.heap.size ≤ k_)) (.slice (some ⟨go15, 0, none⟩) x0_1.length co3) y152 := (by rw [hw, Ny152.out]; exact HP16.1); clear HP16; have n0_ := Aside0.mk (hp_); have n1_ := Aside0.mk ((by rw [hw]; exact below_set (HB.out) GB15.out : Below w0.heap.size w0 w17)); have n2_ := Aside0.mk (Kept.of_grown (S := (fun k_ => P0_ k_)) hg (by repeat (first | (with_reducible first | exact HK.out | apply Kept.alloc | apply Kept.drewN | apply Kept.drew) | exact HK.out)) (fun k_ e_ => (HO_0.out.1 k_ e_))); clear HO_0; clear HB; clear HK; have HO_0 := n0_; have HB := n1_; have HK := n2_; clear n0_ n1_ n2_; clear hg hw hp_))
              (try simp only [← hl0_1])
              go_roundg k1
              case measure => have := HK1.out; omega
              case rel => exact ⟨(y152), (t151), (wrap64 (x10_1 + 1)), (by first | rfl | (simp; done) | (simp [*]; done)), (by first | rfl | (simp; done) | (simp [*]; done)), H', ⟨by have := HK1.out; omega⟩, ⟨by (try simp only [hl0_1]); (with_reducible repeat (first | apply Kd.R_alloc | apply Kd.R_drewN | apply Kd.R_drew)); exact HO_0.out⟩, ⟨by repeat (first | (with_reducible first | exact HK.out | apply Kept.alloc | apply Kept.drewN | apply Kept.drew) | exact HK.out)⟩, ⟨by repeat (first | (with_reducible first | exact HB.out | apply below_alloc | apply pw_below_drewN | apply below_drew1) | exact HB.out)⟩⟩
            · rw [if_neg c13] at H
              exact absurd H (by simp)
          · rw [if_neg c12] at H
            exact absurd H (by simp)
      · rw [if_neg c4] at H
        have c4b0 : decide (x10_1 < (l0.length : Int)) = false := decide_eq_false c4
        (try (have c4b0l := c4b0; simp only [hl0_1] at c4b0l))
        clear c4
        simp only [Option.some.injEq, Prod.mk.injEq] at H
        obtain ⟨rfl, rfl⟩ := H
        go_wp2
        go_ret
        exact ⟨by first | rfl | (simp [errW_none, errW_some] <;> rfl) | (simp [*, errW_none, errW_some] <;> rfl), (by first | exact (by (with_reducible repeat (first | apply Kd.R_alloc | apply Kd.R_drewN | apply Kd.R_drew)); exact HO_0.out) | (simp only [hl0_1]; exact (by (with_reducible repeat (first | apply Kd.R_alloc | apply Kd.R_drewN | apply Kd.R_drew)); exact HO_0.out))), by repeat (first | (with_reducible first | exact HB.out | apply below_alloc | apply pw_below_drewN | apply below_drew1) | exact HB.out), by repeat (first | (with_reducible first | exact HK.out | apply Kept.alloc | apply Kept.drewN | apply Kept.drew) | exact HK.out)⟩

end Go.Proofs.YtihlelniaiadgaaDoor.A
-- written by a program of this session (a turned print; wip/tools): Lean checks it
namespace Go.Proofs.YtihlelniaiadgaaDoor.A
open Go.RowKit Go.Proofs.YtihlelniaiadgaaDoorW.PrintWords Go.Proofs.YtihlelniaiadgaaDoorW.PrintLast Go.Proofs.YtihlelniaiadgaaDoorW.PrintMore
attribute [local go_sem] max2_int min2_int max_two min_two max_three min_three max_four min_four   -- for this text's walks alone
set_option linter.unusedVariables false
set_option linter.unusedSimpArgs false

/-! ### natural_Sub: function 30 -/
def natural_Sub.f (k : Nat) (l0 : List Int) (l1 : List Int) : Option (List Int × Int) := (natural_Cmp.f l0 l1).bind fun t606 => (if t606 < 0 then (some (([] : List Int), 17)) else ((natural_Norm.f l0).bind fun t607 => ((natural_cut.f l1).bind fun t610 => ((natural_less.f k t607 t610).bind fun bt613 => ((natural_cut.f bt613.2).bind fun t615 => (some (t615, 0)))))))
theorem natural_Sub.mono : ∀ a0 a1 k, LeO (natural_Sub.f k a0 a1) (natural_Sub.f (k + 1) a0 a1) := by
  intro a0 a1 k
  unfold natural_Sub.f
  repeat' first
      | (with_reducible exact natural_less.mono _ _ _)
      | (with_reducible exact LeO.refl _)
      | (with_reducible exact LeO.none _)
      | (with_reducible refine LeO.ite ?_ ?_)
      | (with_reducible refine LeO.bind ?_ (fun _ => ?_))
      | exact natural_less.mono _ _ _
      | exact LeO.none _
      | refine LeO.ite ?_ ?_
      | refine LeO.bind ?_ (fun _ => ?_)
set_option maxHeartbeats 8000000 in
set_option maxRecDepth 100000 in
theorem natural_Sub.calls (k : Nat) (A0 : Option Addr) (c0 : Nat) (l0 : List Int) (P1_ : Nat → Prop) (A1 : Option Addr) (c1 : Nat) (l1 : List Int) (r1 : List Int) (r2 : Int) (w : World) (hr0 : Kd.C (Kd.int .u32) w A0 l0.length l0) (hc0 : l0.length ≤ c0) (hs1 : Kd.V (Kd.int .u32) 36 w w.heap.size (fun k_ => P1_ k_) (.slice A1 l1.length c1) l1) (h : natural_Sub.f k l0 l1 = some (r1, r2)) :
    Calls Tryd.prog 30 #[.slice A0 l0.length c0, .slice A1 l1.length c1] w fun e w' => ∃ v0_ : Value, e = .returned (.tuple #[v0_, .int .i64 r2]) ∧ Kd.V (Kd.int .u32) 36 w' w.heap.size (fun k_ => (P1_ k_ ∨ w.heap.size ≤ k_)) v0_ r1 ∧ Below w.heap.size w w' := by
  have HR0 := Aside0.mk hr0
  have HC0 := Aside0.mk hc0
  clear hr0 hc0
  have HO1 := Aside0.mk (show Kd.V (Kd.int .u32) 36 w w.heap.size (fun k_ => (P1_ k_ ∨ w.heap.size ≤ k_)) (.slice A1 l1.length c1) l1 from Kd.V_mono hs1 (fun k_ hk => .inl hk))
  have HB := Aside0.mk (Below.refl w.heap.size w)
  have H : ((natural_Cmp.f l0 l1).bind fun t606 => (if t606 < 0 then (some (([] : List Int), 17)) else ((natural_Norm.f l0).bind fun t607 => ((natural_cut.f l1).bind fun t610 => ((natural_less.f k t607 t610).bind fun bt613 => ((natural_cut.f bt613.2).bind fun t615 => (some (t615, 0)))))))) = some (r1, r2) := h
  clear h
  replace H := Option.bind_eq_some_iff.mp H
  obtain ⟨t606, A30, H⟩ := H
  replace H : (if t606 < 0 then (some (([] : List Int), 17)) else ((natural_Norm.f l0).bind fun t607 => ((natural_cut.f l1).bind fun t610 => ((natural_less.f k t607 t610).bind fun bt613 => ((natural_cut.f bt613.2).bind fun t615 => (some (t615, 0))))))) = some (r1, r2) := H
  have A3 := Aside0.mk A30
  clear A30
  by_cases c4 : t606 < 0
  · rw [if_pos c4] at H
    have c4b0 : decide (t606 < 0) = true := decide_eq_true c4
    clear c4
    simp only [Option.some.injEq, Prod.mk.injEq] at H
    obtain ⟨rfl, rfl⟩ := H
    go_enter Tryd.func30, Tryd.ntmps30
    go_wp2_with (first | ((with_reducible refine gate_callee (f := 21) rfl ?_); refine goesL_ (some 9) rfl rfl Tryd.func21 (by kernel_rfl) rfl #[.slice A0 l0.length c0, .slice A1 l1.length c1] rfl (by (try simp only [List.map_toArray, List.map_cons, List.map_nil]); first | done | rfl | (simp only [List.length_drop, List.length_take]; rfl)) ?_; (with_reducible refine (natural_Cmp.calls _ _ l0 _ _ l1 t606 _ ?side1 ?side2 ?side3 ?side4 A3.out).mono ?_); (case side1 => repeat (first | exact HR0.out | (with_reducible refine Kd.C_alloc ?_ _) | (with_reducible refine Kd.C_drewN ?_ _) | (with_reducible refine Kd.C_drew ?_))); (case side2 => exact HC0.out); (case side3 => repeat (first | exact (Kd.V_reads' HO1.out).2.2 | (with_reducible refine Kd.C_alloc ?_ _) | (with_reducible refine Kd.C_drewN ?_ _) | (with_reducible refine Kd.C_drew ?_))); (case side4 => exact (Kd.V_reads' HO1.out).2.1); rintro e w5 ⟨rfl, hb⟩; refine ⟨_, rfl, ?_⟩; have n0_ := Aside0.mk (Kd.V_below (by (with_reducible repeat (first | apply Kd.V_alloc | apply Kd.V_drewN | apply Kd.V_drew)); exact HO1.out) hb); have n1_ := Aside0.mk (below_step (by repeat (first | (with_reducible first | exact HB.out | apply below_alloc | apply pw_below_drewN | apply below_drew1) | exact HB.out)) hb); clear HO1; clear HB; have HO1 := n0_; have HB := n1_; clear n0_ n1_; (try clear hb); (try clear hb2); (try clear hk); (try clear hi)))
    go_ret2
    exact ⟨_, by first | rfl | (simp [errW_none, errW_some] <;> rfl) | (simp [*, errW_none, errW_some] <;> rfl), (by first | exact Kd.V_nil _ _ _ _ _ | exact Kd.V_mono (Kd.R_V (by first | exact Kd.R_nil _ _ _ _ _ | exact Kd.N_nil _ _ _ _ _ | exact Kd.V_nil _ _ _ _ _ | exact Kd.Q_nil _ _ _ _ _ | exact Kd.S_nil _ _ _ _ _)) (fun k_ hk => by first | exact ⟨(.inr (hk.1)), hk.2⟩ | exact (.inr (hk)))), by repeat (first | (with_reducible first | exact HB.out | apply below_alloc | apply pw_below_drewN | apply below_drew1) | exact HB.out)⟩
  · rw [if_neg c4] at H
    have c4b0 : decide (t606 < 0) = false := decide_eq_false c4
    clear c4
    replace H := Option.bind_eq_some_iff.mp H
    obtain ⟨t607, A60, H⟩ := H
    replace H : ((natural_cut.f l1).bind fun t610 => ((natural_less.f k t607 t610).bind fun bt613 => ((natural_cut.f bt613.2).bind fun t615 => (some (t615, 0))))) = some (r1, r2) := H
    have A6 := Aside0.mk A60
    clear A60
    replace H := Option.bind_eq_some_iff.mp H
    obtain ⟨t610, A70, H⟩ := H
    replace H : ((natural_less.f k t607 t610).bind fun bt613 => ((natural_cut.f bt613.2).bind fun t615 => (some (t615, 0)))) = some (r1, r2) := H
    have A7 := Aside0.mk A70
    clear A70
    replace H := Option.bind_eq_some_iff.mp H
    obtain ⟨⟨t613, t614⟩, A80, H⟩ := H
    replace H : ((natural_cut.f t614).bind fun t615 => (some (t615, 0))) = some (r1, r2) := H
    have A8 := Aside0.mk A80
    clear A80
    replace H := Option.bind_eq_some_iff.mp H
    obtain ⟨t615, A90, H⟩ := H
    replace H : (some (t615, 0)) = some (r1, r2) := H
    have A9 := Aside0.mk A90
    clear A90
    simp only [Option.some.injEq, Prod.mk.injEq] at H
    obtain ⟨rfl, rfl⟩ := H
    go_enter Tryd.func30, Tryd.ntmps30
    go_wp2_with (first | ((with_reducible refine gate_callee (f := 21) rfl ?_); refine goesL_ (some 9) rfl rfl Tryd.func21 (by kernel_rfl) rfl #[.slice A0 l0.length c0, .slice A1 l1.length c1] rfl (by (try simp only [List.map_toArray, List.map_cons, List.map_nil]); first | done | rfl | (simp only [List.length_drop, List.length_take]; rfl)) ?_; (with_reducible refine (natural_Cmp.calls _ _ l0 _ _ l1 t606 _ ?side1 ?side2 ?side3 ?side4 A3.out).mono ?_); (case side1 => repeat (first | exact HR0.out | (with_reducible refine Kd.C_alloc ?_ _) | (with_reducible refine Kd.C_drewN ?_ _) | (with_reducible refine Kd.C_drew ?_))); (case side2 => exact HC0.out); (case side3 => repeat (first | exact (Kd.V_reads' HO1.out).2.2 | (with_reducible refine Kd.C_alloc ?_ _) | (with_reducible refine Kd.C_drewN ?_ _) | (with_reducible refine Kd.C_drew ?_))); (case side4 => exact (Kd.V_reads' HO1.out).2.1); rintro e w10 ⟨rfl, hb⟩; refine ⟨_, rfl, ?_⟩; have n0_ := Aside0.mk (Kd.V_below (by (with_reducible repeat (first | apply Kd.V_alloc | apply Kd.V_drewN | apply Kd.V_drew)); exact HO1.out) hb); have n1_ := Aside0.mk (below_step (by repeat (first | (with_reducible first | exact HB.out | apply below_alloc | apply pw_below_drewN | apply below_drew1) | exact HB.out)) hb); clear HO1; clear HB; have HO1 := n0_; have HB := n1_; clear n0_ n1_; (try clear hb); (try clear hb2); (try clear hk); (try clear hi)) | ((with_reducible refine gate_callee (f := 19) rfl ?_); refine goesL_ (some 12) rfl rfl Tryd.func19 (by kernel_rfl) rfl #[.slice A0 l0.length c0] rfl (by (try simp only [List.map_toArray, List.map_cons, List.map_nil]); first | done | rfl | (simp only [List.length_drop, List.length_take]; rfl)) ?_; (with_reducible refine (natural_Norm.calls _ _ l0 t607 _ ?side1 ?side2 A6.out).mono ?_); (case side1 => repeat (first | exact (Kd.C_below HR0.out HB.out) | (with_reducible refine Kd.C_alloc ?_ _) | (with_reducible refine Kd.C_drewN ?_ _) | (with_reducible refine Kd.C_drew ?_))); (case side2 => exact HC0.out); rintro e w11 ⟨v608, rfl, ho0, hb⟩; refine ⟨_, rfl, ?_⟩; have n0_ := Aside0.mk (Kd.V_elder' (by (with_reducible repeat (first | apply Kd.V_alloc | apply Kd.V_drewN | apply Kd.V_drew)); exact HO1.out) (Kd.R_base ho0) hb); have n1_ := Aside0.mk (Kd.R_lower (Kd.R_newM (M := fun k_ => (w.heap.size ≤ k_)) ho0 (below_size (by repeat (first | (with_reducible first | exact HB.out | apply below_alloc | apply pw_below_drewN | apply below_drew1) | exact HB.out))) (fun k_ h_ => h_)) (below_size (by repeat (first | (with_reducible first | exact HB.out | apply below_alloc | apply pw_below_drewN | apply below_drew1) | exact HB.out)))); have n2_ := Aside0.mk (below_step (by repeat (first | (with_reducible first | exact HB.out | apply below_alloc | apply pw_below_drewN | apply below_drew1) | exact HB.out)) hb); clear HO1; clear HB; have HO1 := n0_; have HO609 := n1_; have HB := n2_; clear n0_ n1_ n2_; (try clear hb); (try clear hb2); (try clear hk); (try clear hi); (try clear ho0)) | ((with_reducible refine gate_callee (f := 37) rfl ?_); refine goesL_ (some 15) rfl rfl Tryd.func37 (by kernel_rfl) rfl #[.slice A1 l1.length c1] rfl (by (try simp only [List.map_toArray, List.map_cons, List.map_nil]); first | done | rfl | (simp only [List.length_drop, List.length_take]; rfl)) ?_; (with_reducible refine (natural_cut.calls (fun k_ => ((P1_ k_ ∨ w.heap.size ≤ k_) ∧ some k_ ≠ (v608 : Value).ownBlock)) _ _ l1 t610 _ ?side1 A7.out).mono ?_); (case side1 => exact HO1.out); rintro e w12 ⟨v611, rfl, ho0, hb⟩; refine ⟨_, rfl, ?_⟩; have n0_ := Aside0.mk (Kd.V_below (by (with_reducible repeat (first | apply Kd.V_alloc | apply Kd.V_drewN | apply Kd.V_drew)); exact HO1.out) hb); have n1_ := Aside0.mk (Kd.R_below (by (with_reducible repeat (first | apply Kd.R_alloc | apply Kd.R_drewN | apply Kd.R_drew)); exact HO609.out) hb); have n2_ := Aside0.mk (Kd.V_lower (Kd.V_mono (ok' := fun k_ => (P1_ k_ ∨ w.heap.size ≤ k_) ∧ some k_ ≠ (v608 : Value).ownBlock) ho0 (fun k_ hk_ => ⟨Or.elim hk_ (fun hs_ => hs_.1) (fun hn_ => (.inr (Nat.le_trans (below_size (by repeat (first | (with_reducible first | exact HB.out | apply below_alloc | apply pw_below_drewN | apply below_drew1) | exact HB.out))) hn_))), Or.elim hk_ (fun hs_ => hs_.2) (fun hn_ => (Kd.fresh' (Kd.R_lt (by (with_reducible repeat (first | apply Kd.R_alloc | apply Kd.R_drewN | apply Kd.R_drew)); exact HO609.out)) k_ hn_))⟩)) (below_size (by repeat (first | (with_reducible first | exact HB.out | apply below_alloc | apply pw_below_drewN | apply below_drew1) | exact HB.out)))); have n3_ := Aside0.mk (below_step (by repeat (first | (with_reducible first | exact HB.out | apply below_alloc | apply pw_below_drewN | apply below_drew1) | exact HB.out)) hb); clear HO1; clear HO609; clear HB; have HO1 := n0_; have HO609 := n1_; have HO612 := n2_; have HB := n3_; clear n0_ n1_ n2_ n3_; (try clear hb); (try clear hb2); (try clear hk); (try clear hi); (try clear ho0); obtain ⟨Ao13, co13, eo13⟩ := Kd.R_slice HO609.out; subst eo13; obtain ⟨Ao14, co14, eo14⟩ := Kd.V_slice HO612.out; subst eo14) | ((with_reducible refine gate_callee (f := 49) rfl ?_); refine goesL_ (some 16) rfl rfl Tryd.func49 (by kernel_rfl) rfl #[.slice Ao13 t607.length co13, .slice Ao14 t610.length co14] rfl (by (try simp only [List.map_toArray, List.map_cons, List.map_nil]); first | done | rfl | (simp only [List.length_drop, List.length_take]; rfl)) ?_; (with_reducible refine (natural_less.calls k (fun k_ => some k_ = (.slice Ao13 t607.length co13 : Value).ownBlock) (.slice Ao13 t607.length co13) t607 _ _ t610 t613 t614 w _ ?side1 ?side2 ?side3 ?side4 A8.out).mono ?_); (case side1 => repeat (first | (with_reducible first | exact HB.out | apply below_alloc | apply pw_below_drewN | apply below_drew1) | exact HB.out)); (case side2 => exact Kd.R_tight rfl HO609.out); (case side3 => exact Kd.C_kept_ownV (HO612.out) (fun k_ hk_ hs_ => (hk_.2) hs_)); (case side4 => exact (Kd.V_reads' HO612.out).2.1); rintro e w15 ⟨rfl, hy0, hb, hkp⟩; refine ⟨_, rfl, ?_⟩; have n0_ := Aside0.mk (Kd.V_mono (ok' := fun k_ => (P1_ k_ ∨ w.heap.size ≤ k_) ∧ some k_ ≠ (.slice Ao13 t607.length co13 : Value).ownBlock) (Kd.V_keptB (HO1.out) hkp (fun k_ hk_ hs_ => (hk_.2) hs_)) (fun k_ hk_ => ⟨hk_.1.1, hk_.1.2⟩)); have n1_ := Aside0.mk (Kd.R_reok rfl hy0 (fun k_ e_ => HO609.out.1 k_ e_)); have n2_ := Aside0.mk (Kd.V_mono (ok' := fun k_ => (P1_ k_ ∨ w.heap.size ≤ k_) ∧ some k_ ≠ (.slice Ao13 t607.length co13 : Value).ownBlock) (Kd.V_keptB (HO612.out) hkp (fun k_ hk_ hs_ => (hk_.2) hs_)) (fun k_ hk_ => ⟨hk_.1.1, hk_.1.2⟩)); have n3_ := Aside0.mk (hb); clear HO1; clear HO609; clear HO612; clear HB; have HO1 := n0_; have HO609 := n1_; have HO612 := n2_; have HB := n3_; clear n0_ n1_ n2_ n3_; (try clear hb); (try clear hkp); (try clear hy0)) | ((with_reducible refine gate_callee (f := 37) rfl ?_); refine goesL_ (some 18) rfl rfl Tryd.func37 (by kernel_rfl) rfl #[.slice Ao13 t614.length co13] rfl (by (try simp only [List.map_toArray, List.map_cons, List.map_nil]); first | done | (rw [show t614.length = t607.length from (Kd.R_reads' HO609.out).1.symm] <;> rfl) | rfl | (simp only [List.length_drop, List.length_take]; rfl)) ?_; (with_reducible refine (natural_cut.calls (fun k_ => some k_ = (.slice Ao13 t607.length co13 : Value).ownBlock) _ _ t614 t615 _ ?side1 A9.out).mono ?_); (case side1 => rw [show t614.length = t607.length from (Kd.R_reads' HO609.out).1.symm]; exact Kd.R_V (Kd.R_tight rfl (HO609.out))); rintro e w16 ⟨v616, rfl, ho0, hb⟩; refine ⟨_, rfl, ?_⟩; have n0_ := Aside0.mk (Kd.V_below (by (with_reducible repeat (first | apply Kd.V_alloc | apply Kd.V_drewN | apply Kd.V_drew)); exact HO1.out) hb); have n1_ := Aside0.mk (Kd.R_below (by (with_reducible repeat (first | apply Kd.R_alloc | apply Kd.R_drewN | apply Kd.R_drew)); exact HO609.out) hb); have n2_ := Aside0.mk (Kd.V_below (by (with_reducible repeat (first | apply Kd.V_alloc | apply Kd.V_drewN | apply Kd.V_drew)); exact HO612.out) hb); have n3_ := Aside0.mk (Kd.V_lower (Kd.V_mono (ok' := fun k_ => (P1_ k_ ∨ w.heap.size ≤ k_)) ho0 (fun k_ hk_ => Or.elim hk_ (fun hs_ => (.inr (((HO609.out).1 k_ hs_.symm).1))) (fun hn_ => (.inr (Nat.le_trans (below_size (by repeat (first | (with_reducible first | exact HB.out | apply below_alloc | apply pw_below_drewN | apply below_drew1) | exact HB.out))) hn_))))) (below_size (by repeat (first | (with_reducible first | exact HB.out | apply below_alloc | apply pw_below_drewN | apply below_drew1) | exact HB.out)))); have n4_ := Aside0.mk (below_step (by repeat (first | (with_reducible first | exact HB.out | apply below_alloc | apply pw_below_drewN | apply below_drew1) | exact HB.out)) hb); clear HO1; clear HO609; clear HO612; clear HB; have HO1 := n0_; have HO609 := n1_; have HO612 := n2_; have HO617 := n3_; have HB := n4_; clear n0_ n1_ n2_ n3_ n4_; (try clear hb); (try clear hb2); (try clear hk); (try clear hi); (try clear ho0)))
    go_ret2
    exact ⟨_, by first | rfl | (simp [errW_none, errW_some] <;> rfl) | (simp [*, errW_none, errW_some] <;> rfl), by (with_reducible repeat (first | apply Kd.V_alloc | apply Kd.V_drewN | apply Kd.V_drew)); exact HO617.out, by repeat (first | (with_reducible first | exact HB.out | apply below_alloc | apply pw_below_drewN | apply below_drew1) | exact HB.out)⟩

end Go.Proofs.YtihlelniaiadgaaDoor.A
-- written by a program of this session (a turned print; wip/tools): Lean checks it
namespace Go.Proofs.YtihlelniaiadgaaDoor.A
open Go.RowKit Go.Proofs.YtihlelniaiadgaaDoorW.PrintWords Go.Proofs.YtihlelniaiadgaaDoorW.PrintLast Go.Proofs.YtihlelniaiadgaaDoorW.PrintMore
attribute [local go_sem] max2_int min2_int max_two min_two max_three min_three max_four min_four   -- for this text's walks alone
set_option linter.unusedVariables false
set_option linter.unusedSimpArgs false

/-! ### filigreeref01_less: function 51 -/
def filigreeref01_less.l0 : Nat → List Int → List Int → List Int → Int → Int → Option (List Int)
  | 0, _, _, _, _, _ => none
  | k + 1, x0, x1, x5, x6, x7 => if x7 < (mx (x0.length : Int) (x1.length : Int)) then ((filigreeref01_at.f x0 x7).bind fun t535 => ((filigreeref01_at.f x1 x7).bind fun t536 => (if x5.length < 140737488355328 then (filigreeref01_less.l0 k x0 x1 (x5 ++ [Go.bits .and .u8 ((((((2 + t535) % 256) - t536) % 256) - x6) % 256) 1]) ((1 - (((((((2 + t535) % 256) - t536) % 256) - x6) % 256) / 2)) % 256) (wrap64 (x7 + 1))) else (none)))) else (some x5)
def filigreeref01_less.f (k : Nat) (l0 : List Int) (l1 : List Int) : Option (List Int) := filigreeref01_less.l0 k l0 l1 ([] : List Int) 0 0
theorem filigreeref01_less.mono_l : ∀ k, (∀ y0 y1 y2 y3 y4, LeO (filigreeref01_less.l0 k y0 y1 y2 y3 y4) (filigreeref01_less.l0 (k + 1) y0 y1 y2 y3 y4))
  | 0 => fun _ _ _ _ _ r h => by simp [filigreeref01_less.l0] at h
  | k + 1 => by
    have ih0 := filigreeref01_less.mono_l k
    · intro y0 y1 y2 y3 y4
      unfold filigreeref01_less.l0
      repeat' first
      | (with_reducible exact ih0 _ _ _ _ _)
      | (with_reducible exact LeO.refl _)
      | (with_reducible exact LeO.none _)
      | (with_reducible refine LeO.ite ?_ ?_)
      | (with_reducible refine LeO.bind ?_ (fun _ => ?_))
      | exact ih0 _ _ _ _ _
      | exact LeO.none _
      | refine LeO.ite ?_ ?_
      | refine LeO.bind ?_ (fun _ => ?_)
theorem filigreeref01_less.mono : ∀ a0 a1 k, LeO (filigreeref01_less.f k a0 a1) (filigreeref01_less.f (k + 1) a0 a1) := by
  intro a0 a1 k
  have ih0 := filigreeref01_less.mono_l k
  unfold filigreeref01_less.f
  repeat' first
      | (with_reducible exact ih0 _ _ _ _ _)
      | (with_reducible exact LeO.refl _)
      | (with_reducible exact LeO.none _)
      | (with_reducible refine LeO.ite ?_ ?_)
      | (with_reducible refine LeO.bind ?_ (fun _ => ?_))
      | exact ih0 _ _ _ _ _
      | exact LeO.none _
      | refine LeO.ite ?_ ?_
      | refine LeO.bind ?_ (fun _ => ?_)
set_option maxHeartbeats 8000000 in
set_option maxRecDepth 100000 in
theorem filigreeref01_less.calls (k : Nat) (A0 : Option Addr) (c0 : Nat) (l0 : List Int) (A1 : Option Addr) (c1 : Nat) (l1 : List Int) (r : List Int) (w : World) (hr0 : Kd.C (Kd.int .u8) w A0 l0.length l0) (hc0 : l0.length ≤ c0) (hr1 : Kd.C (Kd.int .u8) w A1 l1.length l1) (hc1 : l1.length ≤ c1) (h : filigreeref01_less.f k l0 l1 = some r) :
    Calls Tryd.prog 51 #[.slice A0 l0.length c0, .slice A1 l1.length c1] w fun e w' => ∃ v0_ : Value, e = .returned (v0_) ∧ Kd.R (Kd.int .u8) 5 w' w.heap.size (fun _ => True) v0_ r ∧ Below w.heap.size w w' := by
  have HR0 := Aside0.mk hr0
  have HC0 := Aside0.mk hc0
  clear hr0 hc0
  have HR1 := Aside0.mk hr1
  have HC1 := Aside0.mk hc1
  clear hr1 hc1
  have HB := Aside0.mk (Below.refl w.heap.size w)
  have H : (filigreeref01_less.l0 k l0 l1 ([] : List Int) 0 0) = some r := h
  clear h
  have H' := Aside0.mk H
  clear H
  go_enter Tryd.func51, Tryd.ntmps51
  go_wp2
  go_loopg [5, 6, 7] k (fun kq v5 v6 v7 w' => ∃ (x5_1 : List Int) (x6_1 : Int) (x7_1 : Int), v6 = .int .u8 x6_1 ∧ v7 = .int .i64 x7_1 ∧ Aside0 (filigreeref01_less.l0 kq l0 l1 x5_1 x6_1 x7_1 = some r) ∧ Aside0 (kq ≤ k) ∧ Aside0 (Kd.R (Kd.int .u8) 5 w' w.heap.size (fun _ => True) v5 x5_1) ∧ Aside0 (Below w.heap.size w w'))
  case atStart => exact ⟨(([] : List Int)), (0), (0), (by first | rfl | (simp; done) | (simp [*]; done)), (by first | rfl | (simp; done) | (simp [*]; done)), H', ⟨Nat.le_refl _⟩, ⟨by first | exact Kd.R_nil _ _ _ _ _ | exact Kd.N_nil _ _ _ _ _ | exact Kd.V_nil _ _ _ _ _ | exact Kd.Q_nil _ _ _ _ _ | exact Kd.S_nil _ _ _ _ _⟩, ⟨by repeat (first | (with_reducible first | exact HB.out | apply below_alloc | apply pw_below_drewN | apply below_drew1) | exact HB.out)⟩⟩
  case round =>
    clear H'
    try clear c1
    try clear p2
    obtain ⟨x5_1, x6_1, x7_1, rfl, rfl, HA, HK1, HO_5, HB⟩ := hrel
    cases gk with
    | zero => exact absurd HA.out (by simp [filigreeref01_less.l0])
    | succ k1 =>
      have H := HA.out
      clear HA
      simp only [filigreeref01_less.l0] at H
      obtain ⟨ji3, hji3⟩ : ∃ j_ : Int, (mx (l0.length : Int) (l1.length : Int)) = j_ := ⟨_, rfl⟩
      replace H : (if x7_1 < (ji3) then ((filigreeref01_at.f l0 x7_1).bind fun t535 => ((filigreeref01_at.f l1 x7_1).bind fun t536 => (if x5_1.length < 140737488355328 then (filigreeref01_less.l0 k1 l0 l1 (x5_1 ++ [Go.bits .and .u8 ((((((2 + t535) % 256) - t536) % 256) - x6_1) % 256) 1]) ((1 - (((((((2 + t535) % 256) - t536) % 256) - x6_1) % 256) / 2)) % 256) (wrap64 (x7_1 + 1))) else (none)))) else (some x5_1)) = some r := by first | (rw [hji3] at H; exact H) | (simp only [hji3] at H ⊢; exact H)
      have hji3_ : (if (l0.length : Int) < (l1.length : Int) then (l1.length : Int) else (l0.length : Int)) = ji3 := hji3
      have hji3_n : (if l0.length < l1.length then (l1.length : Int) else (l0.length : Int)) = ji3 := by rw [← hji3]; simp only [mx, mn, Int.ofNat_lt]
      by_cases c4 : x7_1 < (ji3)
      · rw [if_pos c4] at H
        have c4b0 : decide (x7_1 < (ji3)) = true := decide_eq_true c4
        clear c4
        replace H := Option.bind_eq_some_iff.mp H
        obtain ⟨t535, A50, H⟩ := H
        replace H : ((filigreeref01_at.f l1 x7_1).bind fun t536 => (if x5_1.length < 140737488355328 then (filigreeref01_less.l0 k1 l0 l1 (x5_1 ++ [Go.bits .and .u8 ((((((2 + t535) % 256) - t536) % 256) - x6_1) % 256) 1]) ((1 - (((((((2 + t535) % 256) - t536) % 256) - x6_1) % 256) / 2)) % 256) (wrap64 (x7_1 + 1))) else (none))) = some r := H
        have A5 := Aside0.mk A50
        clear A50
        replace H := Option.bind_eq_some_iff.mp H
        obtain ⟨t536, A60, H⟩ := H
        replace H : (if x5_1.length < 140737488355328 then (filigreeref01_less.l0 k1 l0 l1 (x5_1 ++ [Go.bits .and .u8 ((((((2 + t535) % 256) - t536) % 256) - x6_1) % 256) 1]) ((1 - (((((((2 + t535) % 256) - t536) % 256) - x6_1) % 256) / 2)) % 256) (wrap64 (x7_1 + 1))) else (none)) = some r := H
        have A6 := Aside0.mk A60
        clear A60
        by_cases c7 : x5_1.length < 140737488355328
        · rw [if_pos c7] at H
          have LMc7 := Aside0.mk c7
          clear c7
          obtain ⟨y537, hy537⟩ : ∃ y_ : List Int, y_ = (x5_1 ++ [Go.bits .and .u8 ((((((2 + t535) % 256) - t536) % 256) - x6_1) % 256) 1]) := ⟨_, rfl⟩
          replace H : (filigreeref01_less.l0 k1 l0 l1 y537 ((1 - (((((((2 + t535) % 256) - t536) % 256) - x6_1) % 256) / 2)) % 256) (wrap64 (x7_1 + 1))) = some r := by first | (rw [hy537]; with_reducible exact H) | (have H2_ := (Option.bind_some _ _).symm.trans H; rw [hy537]; with_reducible exact H2_) | (have H2_ := (Option.bind_some _ _).symm.trans H; with_reducible exact H2_) | with_reducible exact H | (rw [hy537]; exact H) | exact H
          have Ny537 := Aside0.mk hy537
          clear hy537
          have H' := Aside0.mk H
          clear H
          go_wp2_with (first | ((with_reducible refine gate_callee (f := 43) rfl ?_); refine goesL_ (some 20) rfl rfl Tryd.func43 (by kernel_rfl) rfl #[.slice A0 l0.length c0, .int .i64 x7_1] rfl (by (try simp only [List.map_toArray, List.map_cons, List.map_nil]); first | done | rfl | (simp only [List.length_drop, List.length_take]; rfl)) ?_; (with_reducible refine (filigreeref01_at.calls _ _ l0 x7_1 t535 _ ?side1 ?side2 A5.out).mono ?_); (case side1 => repeat (first | exact (Kd.C_below HR0.out HB.out) | (with_reducible refine Kd.C_alloc ?_ _) | (with_reducible refine Kd.C_drewN ?_ _) | (with_reducible refine Kd.C_drew ?_))); (case side2 => exact HC0.out); rintro e w' ⟨rfl, ⟨nd, rfl⟩⟩; refine ⟨_, rfl, ?_⟩) | ((with_reducible refine gate_callee (f := 43) rfl ?_); refine goesL_ (some 24) rfl rfl Tryd.func43 (by kernel_rfl) rfl #[.slice A1 l1.length c1, .int .i64 x7_1] rfl (by (try simp only [List.map_toArray, List.map_cons, List.map_nil]); first | done | rfl | (simp only [List.length_drop, List.length_take]; rfl)) ?_; (with_reducible refine (filigreeref01_at.calls _ _ l1 x7_1 t536 _ ?side1 ?side2 A6.out).mono ?_); (case side1 => repeat (first | exact (Kd.C_below HR1.out (by repeat (first | (with_reducible first | exact HB.out | apply below_alloc | apply pw_below_drewN | apply below_drew1) | exact HB.out))) | (with_reducible refine Kd.C_alloc ?_ _) | (with_reducible refine Kd.C_drewN ?_ _) | (with_reducible refine Kd.C_drew ?_))); (case side2 => exact HC1.out); rintro e w' ⟨rfl, ⟨nd, rfl⟩⟩; refine ⟨_, rfl, ?_⟩) | ((with_reducible refine gate_builtin (b := .append) (xs := #[.tmp 28, .tmp 31]) rfl ?_); at_builtin; refine Kd.R_append (Kd.int .u8) (w0 := w) w.heap.size rfl (.tmp 28) (.tmp 31) 50 5 (.int .u8 0) 1 rfl Tryd.underlying50 info5 rfl (by decide) (by omega) u5 x5_1 (Go.bits .and .u8 ((2 + t535 - t536 - x6_1) % 256) 1) [.int .u8 (Go.bits .and .u8 ((2 + t535 - t536 - x6_1) % 256) 1)] (fun _ => True) (fun _ => False) rfl rfl ?aP (fun _ hk => hk.elim) ?aF ?aO ?aB ?aS ?aL ?_; (case aP => exact rfl); (case aB => exact (by repeat (first | (with_reducible first | exact HB.out | apply below_alloc | apply pw_below_drewN | apply below_drew1) | exact HB.out))); (case aF => exact (fun _ _ => trivial)); (case aO => exact (by (with_reducible repeat (first | apply Kd.R_alloc | apply Kd.R_drewN | apply Kd.R_drew)); exact HO_5.out)); (case aS => exact (below_size (by repeat (first | (with_reducible first | exact HB.out | apply below_alloc | apply pw_below_drewN | apply below_drew1) | exact HB.out)))); (case aL => have := LMc7.out; omega); intro v538 w8 ho hb hg hat; rw [show ((2 + t535 - t536 - x6_1) % 256) = ((((((2 + t535) % 256) - t536) % 256) - x6_1) % 256) from by omega] at ho; rw [← Ny537.out] at ho; have n0_ := Aside0.mk (hb); have n1_ := Aside0.mk (ho); clear HB; clear HO_5; have HB := n0_; have HO539 := n1_; clear n0_ n1_; clear ho hb hg hat))
          go_roundg k1
          case measure => have := HK1.out; omega
          case rel => exact ⟨(y537), ((1 - (((((((2 + t535) % 256) - t536) % 256) - x6_1) % 256) / 2)) % 256), (wrap64 (x7_1 + 1)), (by first | rfl | (simp; done) | (simp [*]; done)), (by first | rfl | (simp; done) | (simp [*]; done)), H', ⟨by have := HK1.out; omega⟩, ⟨by (with_reducible repeat (first | apply Kd.R_alloc | apply Kd.R_drewN | apply Kd.R_drew)); exact HO539.out⟩, ⟨by repeat (first | (with_reducible first | exact HB.out | apply below_alloc | apply pw_below_drewN | apply below_drew1) | exact HB.out)⟩⟩
        · rw [if_neg c7] at H
          exact absurd H (by simp)
      · rw [if_neg c4] at H
        have c4b0 : decide (x7_1 < (ji3)) = false := decide_eq_false c4
        clear c4
        obtain rfl := Option.some.inj H
        go_wp2
        go_ret
        exact ⟨_, by first | rfl | (simp [errW_none, errW_some] <;> rfl) | (simp only [← hji3]; first | rfl | (simp [errW_none, errW_some] <;> rfl)) | (simp [*, errW_none, errW_some] <;> rfl), by (with_reducible repeat (first | apply Kd.R_alloc | apply Kd.R_drewN | apply Kd.R_drew)); exact HO_5.out, by repeat (first | (with_reducible first | exact HB.out | apply below_alloc | apply pw_below_drewN | apply below_drew1) | exact HB.out)⟩

end Go.Proofs.YtihlelniaiadgaaDoor.A
-- written by a program of this session (a turned print; wip/tools): Lean checks it
namespace Go.Proofs.YtihlelniaiadgaaDoor.A
open Go.RowKit Go.Proofs.YtihlelniaiadgaaDoorW.PrintWords Go.Proofs.YtihlelniaiadgaaDoorW.PrintLast Go.Proofs.YtihlelniaiadgaaDoorW.PrintMore
attribute [local go_sem] max2_int min2_int max_two min_two max_three min_three max_four min_four   -- for this text's walks alone
set_option linter.unusedVariables false
set_option linter.unusedSimpArgs false

/-! ### filigreeref01_Sub: function 31 -/
def filigreeref01_Sub.f (k : Nat) (l0 : List Int) (l1 : List Int) : Option (List Int × Int) := (filigreeref01_Cmp.f k l0 l1).bind fun t540 => (if t540 < 0 then (some (([] : List Int), 17)) else ((filigreeref01_bits.f k l0).bind fun t541 => ((filigreeref01_bits.f k l1).bind fun t544 => ((filigreeref01_less.f k t541 t544).bind fun t547 => ((filigreeref01_limbs.f k t547).bind fun t550 => (some (t550, 0)))))))
theorem filigreeref01_Sub.mono : ∀ a0 a1 k, LeO (filigreeref01_Sub.f k a0 a1) (filigreeref01_Sub.f (k + 1) a0 a1) := by
  intro a0 a1 k
  unfold filigreeref01_Sub.f
  repeat' first
      | (with_reducible exact filigreeref01_Cmp.mono _ _ _)
      | (with_reducible exact filigreeref01_bits.mono _ _)
      | (with_reducible exact filigreeref01_less.mono _ _ _)
      | (with_reducible exact filigreeref01_limbs.mono _ _)
      | (with_reducible exact LeO.refl _)
      | (with_reducible exact LeO.none _)
      | (with_reducible refine LeO.ite ?_ ?_)
      | (with_reducible refine LeO.bind ?_ (fun _ => ?_))
      | exact filigreeref01_Cmp.mono _ _ _
      | exact filigreeref01_bits.mono _ _
      | exact filigreeref01_less.mono _ _ _
      | exact filigreeref01_limbs.mono _ _
      | exact LeO.none _
      | refine LeO.ite ?_ ?_
      | refine LeO.bind ?_ (fun _ => ?_)
set_option maxHeartbeats 8000000 in
set_option maxRecDepth 100000 in
theorem filigreeref01_Sub.calls (k : Nat) (A0 : Option Addr) (c0 : Nat) (l0 : List Int) (A1 : Option Addr) (c1 : Nat) (l1 : List Int) (r1 : List Int) (r2 : Int) (w : World) (hr0 : Kd.C (Kd.int .u32) w A0 l0.length l0) (hc0 : l0.length ≤ c0) (hr1 : Kd.C (Kd.int .u32) w A1 l1.length l1) (hc1 : l1.length ≤ c1) (h : filigreeref01_Sub.f k l0 l1 = some (r1, r2)) :
    Calls Tryd.prog 31 #[.slice A0 l0.length c0, .slice A1 l1.length c1] w fun e w' => ∃ v0_ : Value, e = .returned (.tuple #[v0_, .int .i64 r2]) ∧ Kd.R (Kd.int .u32) 36 w' w.heap.size (fun _ => True) v0_ r1 ∧ Below w.heap.size w w' := by
  have HR0 := Aside0.mk hr0
  have HC0 := Aside0.mk hc0
  clear hr0 hc0
  have HR1 := Aside0.mk hr1
  have HC1 := Aside0.mk hc1
  clear hr1 hc1
  have HB := Aside0.mk (Below.refl w.heap.size w)
  have H : ((filigreeref01_Cmp.f k l0 l1).bind fun t540 => (if t540 < 0 then (some (([] : List Int), 17)) else ((filigreeref01_bits.f k l0).bind fun t541 => ((filigreeref01_bits.f k l1).bind fun t544 => ((filigreeref01_less.f k t541 t544).bind fun t547 => ((filigreeref01_limbs.f k t547).bind fun t550 => (some (t550, 0)))))))) = some (r1, r2) := h
  clear h
  replace H := Option.bind_eq_some_iff.mp H
  obtain ⟨t540, A30, H⟩ := H
  replace H : (if t540 < 0 then (some (([] : List Int), 17)) else ((filigreeref01_bits.f k l0).bind fun t541 => ((filigreeref01_bits.f k l1).bind fun t544 => ((filigreeref01_less.f k t541 t544).bind fun t547 => ((filigreeref01_limbs.f k t547).bind fun t550 => (some (t550, 0))))))) = some (r1, r2) := H
  have A3 := Aside0.mk A30
  clear A30
  by_cases c4 : t540 < 0
  · rw [if_pos c4] at H
    have c4b0 : decide (t540 < 0) = true := decide_eq_true c4
    clear c4
    simp only [Option.some.injEq, Prod.mk.injEq] at H
    obtain ⟨rfl, rfl⟩ := H
    go_enter Tryd.func31, Tryd.ntmps31
    go_wp2_with (first | ((with_reducible refine gate_callee (f := 22) rfl ?_); refine goesL_ (some 8) rfl rfl Tryd.func22 (by kernel_rfl) rfl #[.slice A0 l0.length c0, .slice A1 l1.length c1] rfl (by (try simp only [List.map_toArray, List.map_cons, List.map_nil]); first | done | rfl | (simp only [List.length_drop, List.length_take]; rfl)) ?_; (with_reducible refine (filigreeref01_Cmp.calls k _ _ l0 _ _ l1 t540 _ ?side1 ?side2 ?side3 ?side4 A3.out).mono ?_); (case side1 => repeat (first | exact HR0.out | (with_reducible refine Kd.C_alloc ?_ _) | (with_reducible refine Kd.C_drewN ?_ _) | (with_reducible refine Kd.C_drew ?_))); (case side2 => exact HC0.out); (case side3 => repeat (first | exact HR1.out | (with_reducible refine Kd.C_alloc ?_ _) | (with_reducible refine Kd.C_drewN ?_ _) | (with_reducible refine Kd.C_drew ?_))); (case side4 => exact HC1.out); rintro e w5 ⟨rfl, hb⟩; refine ⟨_, rfl, ?_⟩; have n0_ := Aside0.mk (below_step (by repeat (first | (with_reducible first | exact HB.out | apply below_alloc | apply pw_below_drewN | apply below_drew1) | exact HB.out)) hb); clear HB; have HB := n0_; clear n0_; (try clear hb); (try clear hb2); (try clear hk); (try clear hi)))
    go_ret2
    exact ⟨_, by first | rfl | (simp [errW_none, errW_some] <;> rfl) | (simp [*, errW_none, errW_some] <;> rfl), by first | exact Kd.R_nil _ _ _ _ _ | exact Kd.N_nil _ _ _ _ _ | exact Kd.V_nil _ _ _ _ _ | exact Kd.Q_nil _ _ _ _ _ | exact Kd.S_nil _ _ _ _ _, by repeat (first | (with_reducible first | exact HB.out | apply below_alloc | apply pw_below_drewN | apply below_drew1) | exact HB.out)⟩
  · rw [if_neg c4] at H
    have c4b0 : decide (t540 < 0) = false := decide_eq_false c4
    clear c4
    replace H := Option.bind_eq_some_iff.mp H
    obtain ⟨t541, A60, H⟩ := H
    replace H : ((filigreeref01_bits.f k l1).bind fun t544 => ((filigreeref01_less.f k t541 t544).bind fun t547 => ((filigreeref01_limbs.f k t547).bind fun t550 => (some (t550, 0))))) = some (r1, r2) := H
    have A6 := Aside0.mk A60
    clear A60
    replace H := Option.bind_eq_some_iff.mp H
    obtain ⟨t544, A70, H⟩ := H
    replace H : ((filigreeref01_less.f k t541 t544).bind fun t547 => ((filigreeref01_limbs.f k t547).bind fun t550 => (some (t550, 0)))) = some (r1, r2) := H
    have A7 := Aside0.mk A70
    clear A70
    replace H := Option.bind_eq_some_iff.mp H
    obtain ⟨t547, A80, H⟩ := H
    replace H : ((filigreeref01_limbs.f k t547).bind fun t550 => (some (t550, 0))) = some (r1, r2) := H
    have A8 := Aside0.mk A80
    clear A80
    replace H := Option.bind_eq_some_iff.mp H
    obtain ⟨t550, A90, H⟩ := H
    replace H : (some (t550, 0)) = some (r1, r2) := H
    have A9 := Aside0.mk A90
    clear A90
    simp only [Option.some.injEq, Prod.mk.injEq] at H
    obtain ⟨rfl, rfl⟩ := H
    go_enter Tryd.func31, Tryd.ntmps31
    go_wp2_with (first | ((with_reducible refine gate_callee (f := 22) rfl ?_); refine goesL_ (some 8) rfl rfl Tryd.func22 (by kernel_rfl) rfl #[.slice A0 l0.length c0, .slice A1 l1.length c1] rfl (by (try simp only [List.map_toArray, List.map_cons, List.map_nil]); first | done | rfl | (simp only [List.length_drop, List.length_take]; rfl)) ?_; (with_reducible refine (filigreeref01_Cmp.calls k _ _ l0 _ _ l1 t540 _ ?side1 ?side2 ?side3 ?side4 A3.out).mono ?_); (case side1 => repeat (first | exact HR0.out | (with_reducible refine Kd.C_alloc ?_ _) | (with_reducible refine Kd.C_drewN ?_ _) | (with_reducible refine Kd.C_drew ?_))); (case side2 => exact HC0.out); (case side3 => repeat (first | exact HR1.out | (with_reducible refine Kd.C_alloc ?_ _) | (with_reducible refine Kd.C_drewN ?_ _) | (with_reducible refine Kd.C_drew ?_))); (case side4 => exact HC1.out); rintro e w10 ⟨rfl, hb⟩; refine ⟨_, rfl, ?_⟩; have n0_ := Aside0.mk (below_step (by repeat (first | (with_reducible first | exact HB.out | apply below_alloc | apply pw_below_drewN | apply below_drew1) | exact HB.out)) hb); clear HB; have HB := n0_; clear n0_; (try clear hb); (try clear hb2); (try clear hk); (try clear hi)) | ((with_reducible refine gate_callee (f := 42) rfl ?_); refine goesL_ (some 11) rfl rfl Tryd.func42 (by kernel_rfl) rfl #[.slice A0 l0.length c0] rfl (by (try simp only [List.map_toArray, List.map_cons, List.map_nil]); first | done | rfl | (simp only [List.length_drop, List.length_take]; rfl)) ?_; (with_reducible refine (filigreeref01_bits.calls k _ _ l0 t541 _ ?side1 ?side2 A6.out).mono ?_); (case side1 => repeat (first | exact (Kd.C_below HR0.out HB.out) | (with_reducible refine Kd.C_alloc ?_ _) | (with_reducible refine Kd.C_drewN ?_ _) | (with_reducible refine Kd.C_drew ?_))); (case side2 => exact HC0.out); rintro e w11 ⟨v542, rfl, ho0, hb⟩; refine ⟨_, rfl, ?_⟩; have n0_ := Aside0.mk (Kd.R_lower ho0 (below_size (by repeat (first | (with_reducible first | exact HB.out | apply below_alloc | apply pw_below_drewN | apply below_drew1) | exact HB.out)))); have n1_ := Aside0.mk (below_step (by repeat (first | (with_reducible first | exact HB.out | apply below_alloc | apply pw_below_drewN | apply below_drew1) | exact HB.out)) hb); clear HB; have HO543 := n0_; have HB := n1_; clear n0_ n1_; (try clear hb); (try clear hb2); (try clear hk); (try clear hi); (try clear ho0)) | ((with_reducible refine gate_callee (f := 42) rfl ?_); refine goesL_ (some 13) rfl rfl Tryd.func42 (by kernel_rfl) rfl #[.slice A1 l1.length c1] rfl (by (try simp only [List.map_toArray, List.map_cons, List.map_nil]); first | done | rfl | (simp only [List.length_drop, List.length_take]; rfl)) ?_; (with_reducible refine (filigreeref01_bits.calls k _ _ l1 t544 _ ?side1 ?side2 A7.out).mono ?_); (case side1 => repeat (first | exact (Kd.C_below HR1.out HB.out) | (with_reducible refine Kd.C_alloc ?_ _) | (with_reducible refine Kd.C_drewN ?_ _) | (with_reducible refine Kd.C_drew ?_))); (case side2 => exact HC1.out); rintro e w12 ⟨v545, rfl, ho0, hb⟩; refine ⟨_, rfl, ?_⟩; have n0_ := Aside0.mk (Kd.R_elder' (by (with_reducible repeat (first | apply Kd.R_alloc | apply Kd.R_drewN | apply Kd.R_drew)); exact HO543.out) (Kd.R_base ho0) hb); have n1_ := Aside0.mk (Kd.R_lower (Kd.R_new' ho0 (Kd.R_lt (by (with_reducible repeat (first | apply Kd.R_alloc | apply Kd.R_drewN | apply Kd.R_drew)); exact HO543.out))) (below_size (by repeat (first | (with_reducible first | exact HB.out | apply below_alloc | apply pw_below_drewN | apply below_drew1) | exact HB.out)))); have n2_ := Aside0.mk (below_step (by repeat (first | (with_reducible first | exact HB.out | apply below_alloc | apply pw_below_drewN | apply below_drew1) | exact HB.out)) hb); clear HO543; clear HB; have HO543 := n0_; have HO546 := n1_; have HB := n2_; clear n0_ n1_ n2_; (try clear hb); (try clear hb2); (try clear hk); (try clear hi); (try clear ho0); obtain ⟨Ao13, co13, eo13⟩ := Kd.R_slice HO543.out; subst eo13; obtain ⟨Ao14, co14, eo14⟩ := Kd.R_slice HO546.out; subst eo14) | ((with_reducible refine gate_callee (f := 51) rfl ?_); refine goesL_ (some 14) rfl rfl Tryd.func51 (by kernel_rfl) rfl #[.slice Ao13 t541.length co13, .slice Ao14 t544.length co14] rfl (by (try simp only [List.map_toArray, List.map_cons, List.map_nil]); first | done | rfl | (simp only [List.length_drop, List.length_take]; rfl)) ?_; (with_reducible refine (filigreeref01_less.calls k _ _ t541 _ _ t544 t547 _ ?side1 ?side2 ?side3 ?side4 A8.out).mono ?_); (case side1 => repeat (first | exact (Kd.R_reads' HO543.out).2.2 | (with_reducible refine Kd.C_alloc ?_ _) | (with_reducible refine Kd.C_drewN ?_ _) | (with_reducible refine Kd.C_drew ?_))); (case side2 => exact (Kd.R_reads' HO543.out).2.1); (case side3 => repeat (first | exact (Kd.R_reads' HO546.out).2.2 | (with_reducible refine Kd.C_alloc ?_ _) | (with_reducible refine Kd.C_drewN ?_ _) | (with_reducible refine Kd.C_drew ?_))); (case side4 => exact (Kd.R_reads' HO546.out).2.1); rintro e w15 ⟨v548, rfl, ho0, hb⟩; refine ⟨_, rfl, ?_⟩; have n0_ := Aside0.mk (Kd.R_elder' (by (with_reducible repeat (first | apply Kd.R_alloc | apply Kd.R_drewN | apply Kd.R_drew)); exact HO543.out) (Kd.R_base ho0) hb); have n1_ := Aside0.mk (Kd.R_elder' (by (with_reducible repeat (first | apply Kd.R_alloc | apply Kd.R_drewN | apply Kd.R_drew)); exact HO546.out) (Kd.R_base ho0) hb); have n2_ := Aside0.mk (Kd.R_lower (Kd.R_new' (Kd.R_new' ho0 (Kd.R_lt (by (with_reducible repeat (first | apply Kd.R_alloc | apply Kd.R_drewN | apply Kd.R_drew)); exact HO543.out))) (Kd.R_lt (by (with_reducible repeat (first | apply Kd.R_alloc | apply Kd.R_drewN | apply Kd.R_drew)); exact HO546.out))) (below_size (by repeat (first | (with_reducible first | exact HB.out | apply below_alloc | apply pw_below_drewN | apply below_drew1) | exact HB.out)))); have n3_ := Aside0.mk (below_step (by repeat (first | (with_reducible first | exact HB.out | apply below_alloc | apply pw_below_drewN | apply below_drew1) | exact HB.out)) hb); clear HO543; clear HO546; clear HB; have HO543 := n0_; have HO546 := n1_; have HO549 := n2_; have HB := n3_; clear n0_ n1_ n2_ n3_; (try clear hb); (try clear hb2); (try clear hk); (try clear hi); (try clear ho0); obtain ⟨Ao16, co16, eo16⟩ := Kd.R_slice HO549.out; subst eo16) | ((with_reducible refine gate_callee (f := 45) rfl ?_); refine goesL_ (some 15) rfl rfl Tryd.func45 (by kernel_rfl) rfl #[.slice Ao16 t547.length co16] rfl (by (try simp only [List.map_toArray, List.map_cons, List.map_nil]); first | done | rfl | (simp only [List.length_drop, List.length_take]; rfl)) ?_; (with_reducible refine (filigreeref01_limbs.calls k _ _ t547 t550 _ ?side1 ?side2 A9.out).mono ?_); (case side1 => repeat (first | exact (Kd.R_reads' HO549.out).2.2 | (with_reducible refine Kd.C_alloc ?_ _) | (with_reducible refine Kd.C_drewN ?_ _) | (with_reducible refine Kd.C_drew ?_))); (case side2 => exact (Kd.R_reads' HO549.out).2.1); rintro e w17 ⟨v551, rfl, ho0, hb⟩; refine ⟨_, rfl, ?_⟩; have n0_ := Aside0.mk (Kd.R_below (by (with_reducible repeat (first | apply Kd.R_alloc | apply Kd.R_drewN | apply Kd.R_drew)); exact HO543.out) hb); have n1_ := Aside0.mk (Kd.R_below (by (with_reducible repeat (first | apply Kd.R_alloc | apply Kd.R_drewN | apply Kd.R_drew)); exact HO546.out) hb); have n2_ := Aside0.mk (Kd.R_below (by (with_reducible repeat (first | apply Kd.R_alloc | apply Kd.R_drewN | apply Kd.R_drew)); exact HO549.out) hb); have n3_ := Aside0.mk (Kd.R_lower ho0 (below_size (by repeat (first | (with_reducible first | exact HB.out | apply below_alloc | apply pw_below_drewN | apply below_drew1) | exact HB.out)))); have n4_ := Aside0.mk (below_step (by repeat (first | (with_reducible first | exact HB.out | apply below_alloc | apply pw_below_drewN | apply below_drew1) | exact HB.out)) hb); clear HO543; clear HO546; clear HO549; clear HB; have HO543 := n0_; have HO546 := n1_; have HO549 := n2_; have HO552 := n3_; have HB := n4_; clear n0_ n1_ n2_ n3_ n4_; (try clear hb); (try clear hb2); (try clear hk); (try clear hi); (try clear ho0)))
    go_ret2
    exact ⟨_, by first | rfl | (simp [errW_none, errW_some] <;> rfl) | (simp [*, errW_none, errW_some] <;> rfl), by (with_reducible repeat (first | apply Kd.R_alloc | apply Kd.R_drewN | apply Kd.R_drew)); exact HO552.out, by repeat (first | (with_reducible first | exact HB.out | apply below_alloc | apply pw_below_drewN | apply below_drew1) | exact HB.out)⟩

end Go.Proofs.YtihlelniaiadgaaDoor.A
