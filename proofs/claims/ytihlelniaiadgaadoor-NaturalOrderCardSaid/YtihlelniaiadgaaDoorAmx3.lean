/- Lemmas for the statement: the walks of the functions that it reaches, and plain laws. -/
import Derived.Test.YtihlelniaiadgaaDoorAmx1
import Derived.Test.YtihlelniaiadgaaDoorAmx2
import Derived.KernelRfl
import Derived.OpenShut
-- written by a program of this session (a turned print; wip/tools): Lean checks it
namespace Go.Proofs.YtihlelniaiadgaaDoor.A
open Go.RowKit Go.Proofs.YtihlelniaiadgaaDoorW.PrintWords Go.Proofs.YtihlelniaiadgaaDoorW.PrintLast Go.Proofs.YtihlelniaiadgaaDoorW.PrintMore
attribute [local go_sem] max2_int min2_int max_two min_two max_three min_three max_four min_four   -- for this text's walks alone
set_option linter.unusedVariables false
set_option linter.unusedSimpArgs false

/-! ### filigreelaw01_NaturalOrder: function 3 -/
def filigreelaw01_NaturalOrder.f (k : Nat) (a0 : Int) (l1 : List Int) (l2 : List Int) : Option (Bool) := (filigreelaw01_Light.f k (([l1, l2] : List (List Int)))).bind fun t456 => (if t456 = true then ((natural_Of.f a0).bind fun t458 => ((filigreeref01_Of.f k a0).bind fun t461 => ((filigreeref01_Same.f k t458 t461).bind fun t464 => (if t464 = true then ((natural_Norm.f l1).bind fun t465 => ((filigreeref01_Norm.f k l1).bind fun t468 => ((filigreeref01_Same.f k t465 t468).bind fun t471 => (if t471 = true then ((natural_Cmp.f l1 l2).bind fun t472 => ((filigreeref01_Cmp.f k l1 l2).bind fun t473 => (if t472 = t473 then ((filigreelaw01_alive.f k).bind fun t474 => (some t474)) else (some false)))) else (some false))))) else (some false))))) else ((filigreelaw01_alive.f k).bind fun t457 => (some t457)))
theorem filigreelaw01_NaturalOrder.mono : ∀ a0 a1 a2 k, LeO (filigreelaw01_NaturalOrder.f k a0 a1 a2) (filigreelaw01_NaturalOrder.f (k + 1) a0 a1 a2) := by
  intro a0 a1 a2 k
  unfold filigreelaw01_NaturalOrder.f
  repeat' first
      | (with_reducible exact filigreelaw01_Light.mono _ _)
      | (with_reducible exact filigreelaw01_alive.mono _)
      | (with_reducible exact filigreeref01_Cmp.mono _ _ _)
      | (with_reducible exact filigreeref01_Norm.mono _ _)
      | (with_reducible exact filigreeref01_Of.mono _ _)
      | (with_reducible exact filigreeref01_Same.mono _ _ _)
      | (with_reducible exact LeO.refl _)
      | (with_reducible exact LeO.none _)
      | (with_reducible refine LeO.ite ?_ ?_)
      | (with_reducible refine LeO.bind ?_ (fun _ => ?_))
      | exact filigreelaw01_Light.mono _ _
      | exact filigreelaw01_alive.mono _
      | exact filigreeref01_Cmp.mono _ _ _
      | exact filigreeref01_Norm.mono _ _
      | exact filigreeref01_Of.mono _ _
      | exact filigreeref01_Same.mono _ _ _
      | exact LeO.none _
      | refine LeO.ite ?_ ?_
      | refine LeO.bind ?_ (fun _ => ?_)
set_option maxHeartbeats 8000000 in
set_option maxRecDepth 100000 in
theorem filigreelaw01_NaturalOrder.calls (k : Nat) (a0 : Int) (P1_ : Nat → Prop) (A1 : Option Addr) (c1 : Nat) (l1 : List Int) (P2_ : Nat → Prop) (A2 : Option Addr) (c2 : Nat) (l2 : List Int) (r : Bool) (w : World) (hs1 : Kd.V (Kd.int .u32) 36 w w.heap.size (fun k_ => P1_ k_) (.slice A1 l1.length c1) l1) (hs2 : Kd.V (Kd.int .u32) 36 w w.heap.size (fun k_ => P2_ k_) (.slice A2 l2.length c2) l2) (h : filigreelaw01_NaturalOrder.f k a0 l1 l2 = some r) :
    Calls Tryd.prog 3 #[.int .u64 a0, .slice A1 l1.length c1, .slice A2 l2.length c2] w fun e w' => e = .returned (.bool r) ∧ Below w.heap.size w w' := by
  have HO1 := Aside0.mk (show Kd.V (Kd.int .u32) 36 w w.heap.size (fun k_ => ((P1_ k_ ∨ P2_ k_) ∨ w.heap.size ≤ k_)) (.slice A1 l1.length c1) l1 from Kd.V_mono hs1 (fun k_ hk => .inl (.inl hk)))
  have HO2 := Aside0.mk (show Kd.V (Kd.int .u32) 36 w w.heap.size (fun k_ => ((P1_ k_ ∨ P2_ k_) ∨ w.heap.size ≤ k_)) (.slice A2 l2.length c2) l2 from Kd.V_mono hs2 (fun k_ hk => .inl (.inr hk)))
  have HB := Aside0.mk (Below.refl w.heap.size w)
  have H : ((filigreelaw01_Light.f k (([l1, l2] : List (List Int)))).bind fun t456 => (if t456 = true then ((natural_Of.f a0).bind fun t458 => ((filigreeref01_Of.f k a0).bind fun t461 => ((filigreeref01_Same.f k t458 t461).bind fun t464 => (if t464 = true then ((natural_Norm.f l1).bind fun t465 => ((filigreeref01_Norm.f k l1).bind fun t468 => ((filigreeref01_Same.f k t465 t468).bind fun t471 => (if t471 = true then ((natural_Cmp.f l1 l2).bind fun t472 => ((filigreeref01_Cmp.f k l1 l2).bind fun t473 => (if t472 = t473 then ((filigreelaw01_alive.f k).bind fun t474 => (some t474)) else (some false)))) else (some false))))) else (some false))))) else ((filigreelaw01_alive.f k).bind fun t457 => (some t457)))) = some r := h
  clear h
  obtain ⟨y453, hy453⟩ : ∃ y_ : List (List Int), y_ = (([l1, l2] : List (List Int))) := ⟨_, rfl⟩
  replace H : ((filigreelaw01_Light.f k y453).bind fun t456 => (if t456 = true then ((natural_Of.f a0).bind fun t458 => ((filigreeref01_Of.f k a0).bind fun t461 => ((filigreeref01_Same.f k t458 t461).bind fun t464 => (if t464 = true then ((natural_Norm.f l1).bind fun t465 => ((filigreeref01_Norm.f k l1).bind fun t468 => ((filigreeref01_Same.f k t465 t468).bind fun t471 => (if t471 = true then ((natural_Cmp.f l1 l2).bind fun t472 => ((filigreeref01_Cmp.f k l1 l2).bind fun t473 => (if t472 = t473 then ((filigreelaw01_alive.f k).bind fun t474 => (some t474)) else (some false)))) else (some false))))) else (some false))))) else ((filigreelaw01_alive.f k).bind fun t457 => (some t457)))) = some r := by first | (rw [hy453]; with_reducible exact H) | (have H2_ := (Option.bind_some _ _).symm.trans H; rw [hy453]; with_reducible exact H2_) | (have H2_ := (Option.bind_some _ _).symm.trans H; with_reducible exact H2_) | with_reducible exact H | (rw [hy453]; exact H) | exact H
  have Ny453 := Aside0.mk hy453
  clear hy453
  replace H := Option.bind_eq_some_iff.mp H
  obtain ⟨t456, A40, H⟩ := H
  replace H : (if t456 = true then ((natural_Of.f a0).bind fun t458 => ((filigreeref01_Of.f k a0).bind fun t461 => ((filigreeref01_Same.f k t458 t461).bind fun t464 => (if t464 = true then ((natural_Norm.f l1).bind fun t465 => ((filigreeref01_Norm.f k l1).bind fun t468 => ((filigreeref01_Same.f k t465 t468).bind fun t471 => (if t471 = true then ((natural_Cmp.f l1 l2).bind fun t472 => ((filigreeref01_Cmp.f k l1 l2).bind fun t473 => (if t472 = t473 then ((filigreelaw01_alive.f k).bind fun t474 => (some t474)) else (some false)))) else (some false))))) else (some false))))) else ((filigreelaw01_alive.f k).bind fun t457 => (some t457))) = some r := H
  have A4 := Aside0.mk A40
  clear A40
  by_cases c5 : t456 = true
  · subst c5
    have H1 : ((natural_Of.f a0).bind fun t458 => ((filigreeref01_Of.f k a0).bind fun t461 => ((filigreeref01_Same.f k t458 t461).bind fun t464 => (if t464 = true then ((natural_Norm.f l1).bind fun t465 => ((filigreeref01_Norm.f k l1).bind fun t468 => ((filigreeref01_Same.f k t465 t468).bind fun t471 => (if t471 = true then ((natural_Cmp.f l1 l2).bind fun t472 => ((filigreeref01_Cmp.f k l1 l2).bind fun t473 => (if t472 = t473 then ((filigreelaw01_alive.f k).bind fun t474 => (some t474)) else (some false)))) else (some false))))) else (some false))))) = some r := by rw [if_pos rfl] at H; exact H
    clear H
    have H := H1
    clear H1
    replace H := Option.bind_eq_some_iff.mp H
    obtain ⟨t458, A60, H⟩ := H
    replace H : ((filigreeref01_Of.f k a0).bind fun t461 => ((filigreeref01_Same.f k t458 t461).bind fun t464 => (if t464 = true then ((natural_Norm.f l1).bind fun t465 => ((filigreeref01_Norm.f k l1).bind fun t468 => ((filigreeref01_Same.f k t465 t468).bind fun t471 => (if t471 = true then ((natural_Cmp.f l1 l2).bind fun t472 => ((filigreeref01_Cmp.f k l1 l2).bind fun t473 => (if t472 = t473 then ((filigreelaw01_alive.f k).bind fun t474 => (some t474)) else (some false)))) else (some false))))) else (some false)))) = some r := H
    have A6 := Aside0.mk A60
    clear A60
    replace H := Option.bind_eq_some_iff.mp H
    obtain ⟨t461, A70, H⟩ := H
    replace H : ((filigreeref01_Same.f k t458 t461).bind fun t464 => (if t464 = true then ((natural_Norm.f l1).bind fun t465 => ((filigreeref01_Norm.f k l1).bind fun t468 => ((filigreeref01_Same.f k t465 t468).bind fun t471 => (if t471 = true then ((natural_Cmp.f l1 l2).bind fun t472 => ((filigreeref01_Cmp.f k l1 l2).bind fun t473 => (if t472 = t473 then ((filigreelaw01_alive.f k).bind fun t474 => (some t474)) else (some false)))) else (some false))))) else (some false))) = some r := H
    have A7 := Aside0.mk A70
    clear A70
    replace H := Option.bind_eq_some_iff.mp H
    obtain ⟨t464, A80, H⟩ := H
    replace H : (if t464 = true then ((natural_Norm.f l1).bind fun t465 => ((filigreeref01_Norm.f k l1).bind fun t468 => ((filigreeref01_Same.f k t465 t468).bind fun t471 => (if t471 = true then ((natural_Cmp.f l1 l2).bind fun t472 => ((filigreeref01_Cmp.f k l1 l2).bind fun t473 => (if t472 = t473 then ((filigreelaw01_alive.f k).bind fun t474 => (some t474)) else (some false)))) else (some false))))) else (some false)) = some r := H
    have A8 := Aside0.mk A80
    clear A80
    by_cases c9 : t464 = true
    · subst c9
      have H1 : ((natural_Norm.f l1).bind fun t465 => ((filigreeref01_Norm.f k l1).bind fun t468 => ((filigreeref01_Same.f k t465 t468).bind fun t471 => (if t471 = true then ((natural_Cmp.f l1 l2).bind fun t472 => ((filigreeref01_Cmp.f k l1 l2).bind fun t473 => (if t472 = t473 then ((filigreelaw01_alive.f k).bind fun t474 => (some t474)) else (some false)))) else (some false))))) = some r := by rw [if_pos rfl] at H; exact H
      clear H
      have H := H1
      clear H1
      replace H := Option.bind_eq_some_iff.mp H
      obtain ⟨t465, A100, H⟩ := H
      replace H : ((filigreeref01_Norm.f k l1).bind fun t468 => ((filigreeref01_Same.f k t465 t468).bind fun t471 => (if t471 = true then ((natural_Cmp.f l1 l2).bind fun t472 => ((filigreeref01_Cmp.f k l1 l2).bind fun t473 => (if t472 = t473 then ((filigreelaw01_alive.f k).bind fun t474 => (some t474)) else (some false)))) else (some false)))) = some r := H
      have A10 := Aside0.mk A100
      clear A100
      replace H := Option.bind_eq_some_iff.mp H
      obtain ⟨t468, A110, H⟩ := H
      replace H : ((filigreeref01_Same.f k t465 t468).bind fun t471 => (if t471 = true then ((natural_Cmp.f l1 l2).bind fun t472 => ((filigreeref01_Cmp.f k l1 l2).bind fun t473 => (if t472 = t473 then ((filigreelaw01_alive.f k).bind fun t474 => (some t474)) else (some false)))) else (some false))) = some r := H
      have A11 := Aside0.mk A110
      clear A110
      replace H := Option.bind_eq_some_iff.mp H
      obtain ⟨t471, A120, H⟩ := H
      replace H : (if t471 = true then ((natural_Cmp.f l1 l2).bind fun t472 => ((filigreeref01_Cmp.f k l1 l2).bind fun t473 => (if t472 = t473 then ((filigreelaw01_alive.f k).bind fun t474 => (some t474)) else (some false)))) else (some false)) = some r := H
      have A12 := Aside0.mk A120
      clear A120
      by_cases c13 : t471 = true
      · subst c13
        have H1 : ((natural_Cmp.f l1 l2).bind fun t472 => ((filigreeref01_Cmp.f k l1 l2).bind fun t473 => (if t472 = t473 then ((filigreelaw01_alive.f k).bind fun t474 => (some t474)) else (some false)))) = some r := by rw [if_pos rfl] at H; exact H
        clear H
        have H := H1
        clear H1
        replace H := Option.bind_eq_some_iff.mp H
        obtain ⟨t472, A140, H⟩ := H
        replace H : ((filigreeref01_Cmp.f k l1 l2).bind fun t473 => (if t472 = t473 then ((filigreelaw01_alive.f k).bind fun t474 => (some t474)) else (some false))) = some r := H
        have A14 := Aside0.mk A140
        clear A140
        replace H := Option.bind_eq_some_iff.mp H
        obtain ⟨t473, A150, H⟩ := H
        replace H : (if t472 = t473 then ((filigreelaw01_alive.f k).bind fun t474 => (some t474)) else (some false)) = some r := H
        have A15 := Aside0.mk A150
        clear A150
        by_cases c16 : t472 = t473
        · rw [if_pos c16] at H
          have c16b0 : (t472 == t473) = true := beq_iff_eq.mpr c16
          have c16b1 : (t472 != t473) = false := bne_eq_false_iff_eq.mpr c16
          clear c16
          replace H := Option.bind_eq_some_iff.mp H
          obtain ⟨t474, A170, H⟩ := H
          replace H : (some t474) = some r := H
          have A17 := Aside0.mk A170
          clear A170
          obtain rfl := Option.some.inj H
          go_enter Tryd.func3, Tryd.ntmps3
          go_wp2_with (first | ((with_reducible refine gate_dst (N := 9) rfl ?_); refine Kd.N_lit (Kd.slice 36 (Kd.int .u32)) _ 23 ?hg (N' := 9) ?hd (xs := ([l1, l2] : List (List Int))) (inner := [.slice A1 l1.length c1, .slice A2 l2.length c2]) (ok := (fun k_ => ((P1_ k_ ∨ P2_ k_) ∨ w.heap.size ≤ k_))) (okp := (fun k_ => ((P1_ k_ ∨ P2_ k_) ∨ w.heap.size ≤ k_))) ?hr ?hp (fun _ hk => hk) ((show ∀ k_, w.heap.size ≤ k_ → (fun k_ => ((P1_ k_ ∨ P2_ k_) ∨ w.heap.size ≤ k_)) k_ from fun k_ hk => (.inr (Nat.le_trans (below_size (by repeat (first | (with_reducible first | exact HB.out | apply below_alloc | apply pw_below_drewN | apply below_drew1) | exact HB.out))) hk))) _ (Nat.le_refl _)) (Below.refl _ _) (Nat.le_refl _) (by simp) ?_; (case hd => rfl); (case hg => rfl); (case hr => first | (go_simp; done) | (go_simp; rfl) | (go_simp; rw [show ∀ x : Int, IntKind.u32.wrap (IntKind.u8.wrap x) = x % 256 from fun x => (by show (x % 256) % 4294967296 = x % 256; omega)])); (case hp => exact (Reps.one (show Kd.FK (Kd.slice 36 (Kd.int .u32)) _ _ l1 [.slice A1 l1.length c1] from (Kd.FK_slice_mk (Kd.V_reads' (Kd.V_mono (ok' := (fun k_ => ((P1_ k_ ∨ P2_ k_) ∨ w.heap.size ≤ k_))) (HO1.out) (fun k_ hk => hk))).2.1 (Kd.V_F (Kd.V_mono (ok' := (fun k_ => ((P1_ k_ ∨ P2_ k_) ∨ w.heap.size ≤ k_))) (HO1.out) (fun k_ hk => hk))))) (Reps.one (show Kd.FK (Kd.slice 36 (Kd.int .u32)) _ _ l2 [.slice A2 l2.length c2] from (Kd.FK_slice_mk (Kd.V_reads' (Kd.V_mono (ok' := (fun k_ => ((P1_ k_ ∨ P2_ k_) ∨ w.heap.size ≤ k_))) (HO2.out) (fun k_ hk => hk))).2.1 (Kd.V_F (Kd.V_mono (ok' := (fun k_ => ((P1_ k_ ∨ P2_ k_) ∨ w.heap.size ≤ k_))) (HO2.out) (fun k_ hk => hk))))) (Reps.none _ _)))); intro v454 w18 ho19 hb hg_ hnew_; clear hg_ hnew_; (first | rw [← Ny453.out] at ho19 | (simp only [Int.reduceToNat] at ho19; rw [← Ny453.out] at ho19)); have n0_ := Aside0.mk (Kd.V_elder' (by (with_reducible repeat (first | apply Kd.V_alloc | apply Kd.V_drewN | apply Kd.V_drew)); exact HO1.out) (Kd.N_base ho19) hb); have n1_ := Aside0.mk (Kd.V_elder' (by (with_reducible repeat (first | apply Kd.V_alloc | apply Kd.V_drewN | apply Kd.V_drew)); exact HO2.out) (Kd.N_base ho19) hb); have n2_ := Aside0.mk (Kd.N_lower ho19 (below_size (by repeat (first | (with_reducible first | exact HB.out | apply below_alloc | apply pw_below_drewN | apply below_drew1) | exact HB.out)))); have n3_ := Aside0.mk (below_step (by repeat (first | (with_reducible first | exact HB.out | apply below_alloc | apply pw_below_drewN | apply below_drew1) | exact HB.out)) hb); clear HO1; clear HO2; clear HB; have HO1 := n0_; have HO2 := n1_; have HO455 := n2_; have HB := n3_; clear n0_ n1_ n2_ n3_; clear hb ho19; obtain ⟨Ao20, co20, eo20⟩ := Kd.N_slice HO455.out; subst eo20) | ((with_reducible refine gate_callee (f := 14) rfl ?_); refine goesL_ (some 10) rfl rfl Tryd.func14 (by kernel_rfl) rfl #[.slice Ao20 y453.length co20] rfl (by (try simp only [List.map_toArray, List.map_cons, List.map_nil]); first | done | rfl | (simp only [List.length_drop, List.length_take]; rfl)) ?_; (with_reducible refine (filigreelaw01_Light.calls k _ _ y453 true _ ?side1 ?side2 A4.out).mono ?_); (case side1 => repeat (first | exact (Kd.N_reads' HO455.out).2.2 | (with_reducible refine Kd.C_alloc ?_ _) | (with_reducible refine Kd.C_drewN ?_ _) | (with_reducible refine Kd.C_drew ?_))); (case side2 => exact (Kd.N_reads' HO455.out).2.1); rintro e w' ⟨rfl, ⟨nd, rfl⟩⟩; refine ⟨_, rfl, ?_⟩) | ((with_reducible refine gate_callee (f := 17) rfl ?_); refine goesL_ (some 14) rfl rfl Tryd.func17 (by kernel_rfl) rfl #[.int .u64 a0] rfl (by (try simp only [List.map_toArray, List.map_cons, List.map_nil]); first | done | rfl | (simp only [List.length_drop, List.length_take]; rfl)) ?_; (with_reducible refine (natural_Of.calls a0 t458 _ A6.out).mono ?_); rintro e w21 ⟨v459, rfl, ho0, hb⟩; refine ⟨_, rfl, ?_⟩; have n0_ := Aside0.mk (Kd.V_below (by (with_reducible repeat (first | apply Kd.V_alloc | apply Kd.V_drewN | apply Kd.V_drew)); exact HO1.out) hb); have n1_ := Aside0.mk (Kd.V_below (by (with_reducible repeat (first | apply Kd.V_alloc | apply Kd.V_drewN | apply Kd.V_drew)); exact HO2.out) hb); have n2_ := Aside0.mk (Kd.N_below (by (with_reducible repeat (first | apply Kd.N_alloc | apply Kd.N_drewN | apply Kd.N_drew)); exact HO455.out) hb); have n3_ := Aside0.mk (Kd.V_lower (Kd.V_mono (ok' := fun k_ => ((P1_ k_ ∨ P2_ k_) ∨ w.heap.size ≤ k_) ∧ some k_ ≠ (.slice Ao20 y453.length co20 : Value).ownBlock) ho0 (fun k_ hk_ => ⟨(.inr (Nat.le_trans (below_size (by repeat (first | (with_reducible first | exact HB.out | apply below_alloc | apply pw_below_drewN | apply below_drew1) | exact HB.out))) hk_)), (Kd.fresh' (Kd.N_lt (by (with_reducible repeat (first | apply Kd.N_alloc | apply Kd.N_drewN | apply Kd.N_drew)); exact HO455.out)) k_ hk_)⟩)) (below_size (by repeat (first | (with_reducible first | exact HB.out | apply below_alloc | apply pw_below_drewN | apply below_drew1) | exact HB.out)))); have n4_ := Aside0.mk (below_step (by repeat (first | (with_reducible first | exact HB.out | apply below_alloc | apply pw_below_drewN | apply below_drew1) | exact HB.out)) hb); clear HO1; clear HO2; clear HO455; clear HB; have HO1 := n0_; have HO2 := n1_; have HO455 := n2_; have HO460 := n3_; have HB := n4_; clear n0_ n1_ n2_ n3_ n4_; (try clear hb); (try clear hb2); (try clear hk); (try clear hi); (try clear ho0)) | ((with_reducible refine gate_callee (f := 18) rfl ?_); refine goesL_ (some 16) rfl rfl Tryd.func18 (by kernel_rfl) rfl #[.int .u64 a0] rfl (by (try simp only [List.map_toArray, List.map_cons, List.map_nil]); first | done | rfl | (simp only [List.length_drop, List.length_take]; rfl)) ?_; (with_reducible refine (filigreeref01_Of.calls k a0 t461 _ A7.out).mono ?_); rintro e w22 ⟨v462, rfl, ho0, hb⟩; refine ⟨_, rfl, ?_⟩; have n0_ := Aside0.mk (Kd.V_elder' (by (with_reducible repeat (first | apply Kd.V_alloc | apply Kd.V_drewN | apply Kd.V_drew)); exact HO1.out) (Kd.R_base ho0) hb); have n1_ := Aside0.mk (Kd.V_elder' (by (with_reducible repeat (first | apply Kd.V_alloc | apply Kd.V_drewN | apply Kd.V_drew)); exact HO2.out) (Kd.R_base ho0) hb); have n2_ := Aside0.mk (Kd.N_elder' (by (with_reducible repeat (first | apply Kd.N_alloc | apply Kd.N_drewN | apply Kd.N_drew)); exact HO455.out) (Kd.R_base ho0) hb); have n3_ := Aside0.mk (Kd.V_elder' (by (with_reducible repeat (first | apply Kd.V_alloc | apply Kd.V_drewN | apply Kd.V_drew)); exact HO460.out) (Kd.R_base ho0) hb); have n4_ := Aside0.mk (Kd.R_lower (Kd.R_newM (M := fun k_ => (w.heap.size ≤ k_)) ho0 (below_size (by repeat (first | (with_reducible first | exact HB.out | apply below_alloc | apply pw_below_drewN | apply below_drew1) | exact HB.out))) (fun k_ h_ => h_)) (below_size (by repeat (first | (with_reducible first | exact HB.out | apply below_alloc | apply pw_below_drewN | apply below_drew1) | exact HB.out)))); have n5_ := Aside0.mk (below_step (by repeat (first | (with_reducible first | exact HB.out | apply below_alloc | apply pw_below_drewN | apply below_drew1) | exact HB.out)) hb); clear HO1; clear HO2; clear HO455; clear HO460; clear HB; have HO1 := n0_; have HO2 := n1_; have HO455 := n2_; have HO460 := n3_; have HO463 := n4_; have HB := n5_; clear n0_ n1_ n2_ n3_ n4_ n5_; (try clear hb); (try clear hb2); (try clear hk); (try clear hi); (try clear ho0); obtain ⟨Ao23, co23, eo23⟩ := Kd.V_slice HO460.out; subst eo23; obtain ⟨Ao24, co24, eo24⟩ := Kd.R_slice HO463.out; subst eo24) | ((with_reducible refine gate_callee (f := 16) rfl ?_); refine goesL_ (some 17) rfl rfl Tryd.func16 (by kernel_rfl) rfl #[.slice Ao23 t458.length co23, .slice Ao24 t461.length co24] rfl (by (try simp only [List.map_toArray, List.map_cons, List.map_nil]); first | done | rfl | (simp only [List.length_drop, List.length_take]; rfl)) ?_; (with_reducible refine (filigreeref01_Same.calls k _ _ t458 _ _ t461 true _ ?side1 ?side2 ?side3 ?side4 A8.out).mono ?_); (case side1 => repeat (first | exact (Kd.V_reads' HO460.out).2.2 | (with_reducible refine Kd.C_alloc ?_ _) | (with_reducible refine Kd.C_drewN ?_ _) | (with_reducible refine Kd.C_drew ?_))); (case side2 => exact (Kd.V_reads' HO460.out).2.1); (case side3 => repeat (first | exact (Kd.R_reads' HO463.out).2.2 | (with_reducible refine Kd.C_alloc ?_ _) | (with_reducible refine Kd.C_drewN ?_ _) | (with_reducible refine Kd.C_drew ?_))); (case side4 => exact (Kd.R_reads' HO463.out).2.1); rintro e w' ⟨rfl, ⟨nd, rfl⟩⟩; refine ⟨_, rfl, ?_⟩) | (go_at_call 19; (with_reducible refine (natural_Norm.calls _ _ l1 t465 _ ?side1 ?side2 A10.out).mono ?_); (case side1 => repeat (first | exact (Kd.V_reads' HO1.out).2.2 | (with_reducible refine Kd.C_alloc ?_ _) | (with_reducible refine Kd.C_drewN ?_ _) | (with_reducible refine Kd.C_drew ?_))); (case side2 => exact (Kd.V_reads' HO1.out).2.1); rintro e w25 ⟨v466, rfl, ho0, hb⟩; have n0_ := Aside0.mk (Kd.V_elder' (by (with_reducible repeat (first | apply Kd.V_alloc | apply Kd.V_drewN | apply Kd.V_drew)); exact HO1.out) (Kd.R_base ho0) hb); have n1_ := Aside0.mk (Kd.V_elder' (by (with_reducible repeat (first | apply Kd.V_alloc | apply Kd.V_drewN | apply Kd.V_drew)); exact HO2.out) (Kd.R_base ho0) hb); have n2_ := Aside0.mk (Kd.N_elder' (by (with_reducible repeat (first | apply Kd.N_alloc | apply Kd.N_drewN | apply Kd.N_drew)); exact HO455.out) (Kd.R_base ho0) hb); have n3_ := Aside0.mk (Kd.V_elder' (by (with_reducible repeat (first | apply Kd.V_alloc | apply Kd.V_drewN | apply Kd.V_drew)); exact HO460.out) (Kd.R_base ho0) hb); have n4_ := Aside0.mk (Kd.R_elder' (by (with_reducible repeat (first | apply Kd.R_alloc | apply Kd.R_drewN | apply Kd.R_drew)); exact HO463.out) (Kd.R_base ho0) hb); have n5_ := Aside0.mk (Kd.R_lower (Kd.R_new' (Kd.R_newM (M := fun k_ => (w.heap.size ≤ k_)) ho0 (below_size (by repeat (first | (with_reducible first | exact HB.out | apply below_alloc | apply pw_below_drewN | apply below_drew1) | exact HB.out))) (fun k_ h_ => h_)) (Kd.R_lt (by (with_reducible repeat (first | apply Kd.R_alloc | apply Kd.R_drewN | apply Kd.R_drew)); exact HO463.out))) (below_size (by repeat (first | (with_reducible first | exact HB.out | apply below_alloc | apply pw_below_drewN | apply below_drew1) | exact HB.out)))); have n6_ := Aside0.mk (below_step (by repeat (first | (with_reducible first | exact HB.out | apply below_alloc | apply pw_below_drewN | apply below_drew1) | exact HB.out)) hb); clear HO1; clear HO2; clear HO455; clear HO460; clear HO463; clear HB; have HO1 := n0_; have HO2 := n1_; have HO455 := n2_; have HO460 := n3_; have HO463 := n4_; have HO467 := n5_; have HB := n6_; clear n0_ n1_ n2_ n3_ n4_ n5_ n6_; (try clear hb); (try clear hb2); (try clear hk); (try clear hi); (try clear ho0)) | (go_at_call 20; (with_reducible refine (filigreeref01_Norm.calls k _ _ l1 t468 _ ?side1 ?side2 A11.out).mono ?_); (case side1 => repeat (first | exact (Kd.V_reads' HO1.out).2.2 | (with_reducible refine Kd.C_alloc ?_ _) | (with_reducible refine Kd.C_drewN ?_ _) | (with_reducible refine Kd.C_drew ?_))); (case side2 => exact (Kd.V_reads' HO1.out).2.1); rintro e w26 ⟨v469, rfl, ho0, hb⟩; have n0_ := Aside0.mk (Kd.V_elder' (by (with_reducible repeat (first | apply Kd.V_alloc | apply Kd.V_drewN | apply Kd.V_drew)); exact HO1.out) (Kd.R_base ho0) hb); have n1_ := Aside0.mk (Kd.V_elder' (by (with_reducible repeat (first | apply Kd.V_alloc | apply Kd.V_drewN | apply Kd.V_drew)); exact HO2.out) (Kd.R_base ho0) hb); have n2_ := Aside0.mk (Kd.N_elder' (by (with_reducible repeat (first | apply Kd.N_alloc | apply Kd.N_drewN | apply Kd.N_drew)); exact HO455.out) (Kd.R_base ho0) hb); have n3_ := Aside0.mk (Kd.V_elder' (by (with_reducible repeat (first | apply Kd.V_alloc | apply Kd.V_drewN | apply Kd.V_drew)); exact HO460.out) (Kd.R_base ho0) hb); have n4_ := Aside0.mk (Kd.R_elder' (by (with_reducible repeat (first | apply Kd.R_alloc | apply Kd.R_drewN | apply Kd.R_drew)); exact HO463.out) (Kd.R_base ho0) hb); have n5_ := Aside0.mk (Kd.R_elder' (by (with_reducible repeat (first | apply Kd.R_alloc | apply Kd.R_drewN | apply Kd.R_drew)); exact HO467.out) (Kd.R_base ho0) hb); have n6_ := Aside0.mk (Kd.R_lower (Kd.R_new' (Kd.R_new' (Kd.R_newM (M := fun k_ => (w.heap.size ≤ k_)) ho0 (below_size (by repeat (first | (with_reducible first | exact HB.out | apply below_alloc | apply pw_below_drewN | apply below_drew1) | exact HB.out))) (fun k_ h_ => h_)) (Kd.R_lt (by (with_reducible repeat (first | apply Kd.R_alloc | apply Kd.R_drewN | apply Kd.R_drew)); exact HO463.out))) (Kd.R_lt (by (with_reducible repeat (first | apply Kd.R_alloc | apply Kd.R_drewN | apply Kd.R_drew)); exact HO467.out))) (below_size (by repeat (first | (with_reducible first | exact HB.out | apply below_alloc | apply pw_below_drewN | apply below_drew1) | exact HB.out)))); have n7_ := Aside0.mk (below_step (by repeat (first | (with_reducible first | exact HB.out | apply below_alloc | apply pw_below_drewN | apply below_drew1) | exact HB.out)) hb); clear HO1; clear HO2; clear HO455; clear HO460; clear HO463; clear HO467; clear HB; have HO1 := n0_; have HO2 := n1_; have HO455 := n2_; have HO460 := n3_; have HO463 := n4_; have HO467 := n5_; have HO470 := n6_; have HB := n7_; clear n0_ n1_ n2_ n3_ n4_ n5_ n6_ n7_; (try clear hb); (try clear hb2); (try clear hk); (try clear hi); (try clear ho0); obtain ⟨Ao27, co27, eo27⟩ := Kd.R_slice HO467.out; subst eo27; obtain ⟨Ao28, co28, eo28⟩ := Kd.R_slice HO470.out; subst eo28) | (go_at_call 16; (with_reducible refine (filigreeref01_Same.calls k _ _ t465 _ _ t468 true _ ?side1 ?side2 ?side3 ?side4 A12.out).mono ?_); (case side1 => repeat (first | exact (Kd.R_reads' HO467.out).2.2 | (with_reducible refine Kd.C_alloc ?_ _) | (with_reducible refine Kd.C_drewN ?_ _) | (with_reducible refine Kd.C_drew ?_))); (case side2 => exact (Kd.R_reads' HO467.out).2.1); (case side3 => repeat (first | exact (Kd.R_reads' HO470.out).2.2 | (with_reducible refine Kd.C_alloc ?_ _) | (with_reducible refine Kd.C_drewN ?_ _) | (with_reducible refine Kd.C_drew ?_))); (case side4 => exact (Kd.R_reads' HO470.out).2.1); rintro e w' ⟨rfl, ⟨nd, rfl⟩⟩) | (go_at_call 21; (with_reducible refine (natural_Cmp.calls _ _ l1 _ _ l2 t472 _ ?side1 ?side2 ?side3 ?side4 A14.out).mono ?_); (case side1 => repeat (first | exact (Kd.V_reads' HO1.out).2.2 | (with_reducible refine Kd.C_alloc ?_ _) | (with_reducible refine Kd.C_drewN ?_ _) | (with_reducible refine Kd.C_drew ?_))); (case side2 => exact (Kd.V_reads' HO1.out).2.1); (case side3 => repeat (first | exact (Kd.V_reads' HO2.out).2.2 | (with_reducible refine Kd.C_alloc ?_ _) | (with_reducible refine Kd.C_drewN ?_ _) | (with_reducible refine Kd.C_drew ?_))); (case side4 => exact (Kd.V_reads' HO2.out).2.1); rintro e w29 ⟨rfl, hb⟩; have n0_ := Aside0.mk (Kd.V_below (by (with_reducible repeat (first | apply Kd.V_alloc | apply Kd.V_drewN | apply Kd.V_drew)); exact HO1.out) hb); have n1_ := Aside0.mk (Kd.V_below (by (with_reducible repeat (first | apply Kd.V_alloc | apply Kd.V_drewN | apply Kd.V_drew)); exact HO2.out) hb); have n2_ := Aside0.mk (Kd.N_below (by (with_reducible repeat (first | apply Kd.N_alloc | apply Kd.N_drewN | apply Kd.N_drew)); exact HO455.out) hb); have n3_ := Aside0.mk (Kd.V_below (by (with_reducible repeat (first | apply Kd.V_alloc | apply Kd.V_drewN | apply Kd.V_drew)); exact HO460.out) hb); have n4_ := Aside0.mk (Kd.R_below (by (with_reducible repeat (first | apply Kd.R_alloc | apply Kd.R_drewN | apply Kd.R_drew)); exact HO463.out) hb); have n5_ := Aside0.mk (Kd.R_below (by (with_reducible repeat (first | apply Kd.R_alloc | apply Kd.R_drewN | apply Kd.R_drew)); exact HO467.out) hb); have n6_ := Aside0.mk (Kd.R_below (by (with_reducible repeat (first | apply Kd.R_alloc | apply Kd.R_drewN | apply Kd.R_drew)); exact HO470.out) hb); have n7_ := Aside0.mk (below_step (by repeat (first | (with_reducible first | exact HB.out | apply below_alloc | apply pw_below_drewN | apply below_drew1) | exact HB.out)) hb); clear HO1; clear HO2; clear HO455; clear HO460; clear HO463; clear HO467; clear HO470; clear HB; have HO1 := n0_; have HO2 := n1_; have HO455 := n2_; have HO460 := n3_; have HO463 := n4_; have HO467 := n5_; have HO470 := n6_; have HB := n7_; clear n0_ n1_ n2_ n3_ n4_ n5_ n6_ n7_; (try clear hb); (try clear hb2); (try clear hk); (try clear hi)) | (go_at_call 22; (with_reducible refine (filigreeref01_Cmp.calls k _ _ l1 _ _ l2 t473 _ ?side1 ?side2 ?side3 ?side4 A15.out).mono ?_); (case side1 => repeat (first | exact (Kd.V_reads' HO1.out).2.2 | (with_reducible refine Kd.C_alloc ?_ _) | (with_reducible refine Kd.C_drewN ?_ _) | (with_reducible refine Kd.C_drew ?_))); (case side2 => exact (Kd.V_reads' HO1.out).2.1); (case side3 => repeat (first | exact (Kd.V_reads' HO2.out).2.2 | (with_reducible refine Kd.C_alloc ?_ _) | (with_reducible refine Kd.C_drewN ?_ _) | (with_reducible refine Kd.C_drew ?_))); (case side4 => exact (Kd.V_reads' HO2.out).2.1); rintro e w30 ⟨rfl, hb⟩; have n0_ := Aside0.mk (Kd.V_below (by (with_reducible repeat (first | apply Kd.V_alloc | apply Kd.V_drewN | apply Kd.V_drew)); exact HO1.out) hb); have n1_ := Aside0.mk (Kd.V_below (by (with_reducible repeat (first | apply Kd.V_alloc | apply Kd.V_drewN | apply Kd.V_drew)); exact HO2.out) hb); have n2_ := Aside0.mk (Kd.N_below (by (with_reducible repeat (first | apply Kd.N_alloc | apply Kd.N_drewN | apply Kd.N_drew)); exact HO455.out) hb); have n3_ := Aside0.mk (Kd.V_below (by (with_reducible repeat (first | apply Kd.V_alloc | apply Kd.V_drewN | apply Kd.V_drew)); exact HO460.out) hb); have n4_ := Aside0.mk (Kd.R_below (by (with_reducible repeat (first | apply Kd.R_alloc | apply Kd.R_drewN | apply Kd.R_drew)); exact HO463.out) hb); have n5_ := Aside0.mk (Kd.R_below (by (with_reducible repeat (first | apply Kd.R_alloc | apply Kd.R_drewN | apply Kd.R_drew)); exact HO467.out) hb); have n6_ := Aside0.mk (Kd.R_below (by (with_reducible repeat (first | apply Kd.R_alloc | apply Kd.R_drewN | apply Kd.R_drew)); exact HO470.out) hb); have n7_ := Aside0.mk (below_step (by repeat (first | (with_reducible first | exact HB.out | apply below_alloc | apply pw_below_drewN | apply below_drew1) | exact HB.out)) hb); clear HO1; clear HO2; clear HO455; clear HO460; clear HO463; clear HO467; clear HO470; clear HB; have HO1 := n0_; have HO2 := n1_; have HO455 := n2_; have HO460 := n3_; have HO463 := n4_; have HO467 := n5_; have HO470 := n6_; have HB := n7_; clear n0_ n1_ n2_ n3_ n4_ n5_ n6_ n7_; (try clear hb); (try clear hb2); (try clear hk); (try clear hi)) | (go_at_call 15; (with_reducible refine (filigreelaw01_alive.calls k  t474 _ A17.out).mono ?_); rintro e w31 ⟨rfl, hb⟩; have n0_ := Aside0.mk (Kd.V_below (by (with_reducible repeat (first | apply Kd.V_alloc | apply Kd.V_drewN | apply Kd.V_drew)); exact HO1.out) hb); have n1_ := Aside0.mk (Kd.V_below (by (with_reducible repeat (first | apply Kd.V_alloc | apply Kd.V_drewN | apply Kd.V_drew)); exact HO2.out) hb); have n2_ := Aside0.mk (Kd.N_below (by (with_reducible repeat (first | apply Kd.N_alloc | apply Kd.N_drewN | apply Kd.N_drew)); exact HO455.out) hb); have n3_ := Aside0.mk (Kd.V_below (by (with_reducible repeat (first | apply Kd.V_alloc | apply Kd.V_drewN | apply Kd.V_drew)); exact HO460.out) hb); have n4_ := Aside0.mk (Kd.R_below (by (with_reducible repeat (first | apply Kd.R_alloc | apply Kd.R_drewN | apply Kd.R_drew)); exact HO463.out) hb); have n5_ := Aside0.mk (Kd.R_below (by (with_reducible repeat (first | apply Kd.R_alloc | apply Kd.R_drewN | apply Kd.R_drew)); exact HO467.out) hb); have n6_ := Aside0.mk (Kd.R_below (by (with_reducible repeat (first | apply Kd.R_alloc | apply Kd.R_drewN | apply Kd.R_drew)); exact HO470.out) hb); have n7_ := Aside0.mk (below_step (by repeat (first | (with_reducible first | exact HB.out | apply below_alloc | apply pw_below_drewN | apply below_drew1) | exact HB.out)) hb); clear HO1; clear HO2; clear HO455; clear HO460; clear HO463; clear HO467; clear HO470; clear HB; have HO1 := n0_; have HO2 := n1_; have HO455 := n2_; have HO460 := n3_; have HO463 := n4_; have HO467 := n5_; have HO470 := n6_; have HB := n7_; clear n0_ n1_ n2_ n3_ n4_ n5_ n6_ n7_; (try clear hb); (try clear hb2); (try clear hk); (try clear hi)))
          go_ret
          exact ⟨by first | rfl | (simp [errW_none, errW_some] <;> rfl) | (simp [*, errW_none, errW_some] <;> rfl), by repeat (first | (with_reducible first | exact HB.out | apply below_alloc | apply pw_below_drewN | apply below_drew1) | exact HB.out)⟩
        · rw [if_neg c16] at H
          have c16b0 : (t472 == t473) = false := beq_eq_false_iff_ne.mpr c16
          have c16b1 : (t472 != t473) = true := bne_iff_ne.mpr c16
          obtain rfl := Option.some.inj H
          go_enter Tryd.func3, Tryd.ntmps3
          go_wp2_with (first | ((with_reducible refine gate_dst (N := 9) rfl ?_); refine Kd.N_lit (Kd.slice 36 (Kd.int .u32)) _ 23 ?hg (N' := 9) ?hd (xs := ([l1, l2] : List (List Int))) (inner := [.slice A1 l1.length c1, .slice A2 l2.length c2]) (ok := (fun k_ => ((P1_ k_ ∨ P2_ k_) ∨ w.heap.size ≤ k_))) (okp := (fun k_ => ((P1_ k_ ∨ P2_ k_) ∨ w.heap.size ≤ k_))) ?hr ?hp (fun _ hk => hk) ((show ∀ k_, w.heap.size ≤ k_ → (fun k_ => ((P1_ k_ ∨ P2_ k_) ∨ w.heap.size ≤ k_)) k_ from fun k_ hk => (.inr (Nat.le_trans (below_size (by repeat (first | (with_reducible first | exact HB.out | apply below_alloc | apply pw_below_drewN | apply below_drew1) | exact HB.out))) hk))) _ (Nat.le_refl _)) (Below.refl _ _) (Nat.le_refl _) (by simp) ?_; (case hd => rfl); (case hg => rfl); (case hr => first | (go_simp; done) | (go_simp; rfl) | (go_simp; rw [show ∀ x : Int, IntKind.u32.wrap (IntKind.u8.wrap x) = x % 256 from fun x => (by show (x % 256) % 4294967296 = x % 256; omega)])); (case hp => exact (Reps.one (show Kd.FK (Kd.slice 36 (Kd.int .u32)) _ _ l1 [.slice A1 l1.length c1] from (Kd.FK_slice_mk (Kd.V_reads' (Kd.V_mono (ok' := (fun k_ => ((P1_ k_ ∨ P2_ k_) ∨ w.heap.size ≤ k_))) (HO1.out) (fun k_ hk => hk))).2.1 (Kd.V_F (Kd.V_mono (ok' := (fun k_ => ((P1_ k_ ∨ P2_ k_) ∨ w.heap.size ≤ k_))) (HO1.out) (fun k_ hk => hk))))) (Reps.one (show Kd.FK (Kd.slice 36 (Kd.int .u32)) _ _ l2 [.slice A2 l2.length c2] from (Kd.FK_slice_mk (Kd.V_reads' (Kd.V_mono (ok' := (fun k_ => ((P1_ k_ ∨ P2_ k_) ∨ w.heap.size ≤ k_))) (HO2.out) (fun k_ hk => hk))).2.1 (Kd.V_F (Kd.V_mono (ok' := (fun k_ => ((P1_ k_ ∨ P2_ k_) ∨ w.heap.size ≤ k_))) (HO2.out) (fun k_ hk => hk))))) (Reps.none _ _)))); intro v454 w32 ho33 hb hg_ hnew_; clear hg_ hnew_; (first | rw [← Ny453.out] at ho33 | (simp only [Int.reduceToNat] at ho33; rw [← Ny453.out] at ho33)); have n0_ := Aside0.mk (Kd.V_elder' (by (with_reducible repeat (first | apply Kd.V_alloc | apply Kd.V_drewN | apply Kd.V_drew)); exact HO1.out) (Kd.N_base ho33) hb); have n1_ := Aside0.mk (Kd.V_elder' (by (with_reducible repeat (first | apply Kd.V_alloc | apply Kd.V_drewN | apply Kd.V_drew)); exact HO2.out) (Kd.N_base ho33) hb); have n2_ := Aside0.mk (Kd.N_lower ho33 (below_size (by repeat (first | (with_reducible first | exact HB.out | apply below_alloc | apply pw_below_drewN | apply below_drew1) | exact HB.out)))); have n3_ := Aside0.mk (below_step (by repeat (first | (with_reducible first | exact HB.out | apply below_alloc | apply pw_below_drewN | apply below_drew1) | exact HB.out)) hb); clear HO1; clear HO2; clear HB; have HO1 := n0_; have HO2 := n1_; have HO455 := n2_; have HB := n3_; clear n0_ n1_ n2_ n3_; clear hb ho33; obtain ⟨Ao34, co34, eo34⟩ := Kd.N_slice HO455.out; subst eo34) | ((with_reducible refine gate_callee (f := 14) rfl ?_); refine goesL_ (some 10) rfl rfl Tryd.func14 (by kernel_rfl) rfl #[.slice Ao34 y453.length co34] rfl (by (try simp only [List.map_toArray, List.map_cons, List.map_nil]); first | done | rfl | (simp only [List.length_drop, List.length_take]; rfl)) ?_; (with_reducible refine (filigreelaw01_Light.calls k _ _ y453 true _ ?side1 ?side2 A4.out).mono ?_); (case side1 => repeat (first | exact (Kd.N_reads' HO455.out).2.2 | (with_reducible refine Kd.C_alloc ?_ _) | (with_reducible refine Kd.C_drewN ?_ _) | (with_reducible refine Kd.C_drew ?_))); (case side2 => exact (Kd.N_reads' HO455.out).2.1); rintro e w' ⟨rfl, ⟨nd, rfl⟩⟩; refine ⟨_, rfl, ?_⟩) | ((with_reducible refine gate_callee (f := 17) rfl ?_); refine goesL_ (some 14) rfl rfl Tryd.func17 (by kernel_rfl) rfl #[.int .u64 a0] rfl (by (try simp only [List.map_toArray, List.map_cons, List.map_nil]); first | done | rfl | (simp only [List.length_drop, List.length_take]; rfl)) ?_; (with_reducible refine (natural_Of.calls a0 t458 _ A6.out).mono ?_); rintro e w35 ⟨v459, rfl, ho0, hb⟩; refine ⟨_, rfl, ?_⟩; have n0_ := Aside0.mk (Kd.V_below (by (with_reducible repeat (first | apply Kd.V_alloc | apply Kd.V_drewN | apply Kd.V_drew)); exact HO1.out) hb); have n1_ := Aside0.mk (Kd.V_below (by (with_reducible repeat (first | apply Kd.V_alloc | apply Kd.V_drewN | apply Kd.V_drew)); exact HO2.out) hb); have n2_ := Aside0.mk (Kd.N_below (by (with_reducible repeat (first | apply Kd.N_alloc | apply Kd.N_drewN | apply Kd.N_drew)); exact HO455.out) hb); have n3_ := Aside0.mk (Kd.V_lower (Kd.V_mono (ok' := fun k_ => ((P1_ k_ ∨ P2_ k_) ∨ w.heap.size ≤ k_) ∧ some k_ ≠ (.slice Ao34 y453.length co34 : Value).ownBlock) ho0 (fun k_ hk_ => ⟨(.inr (Nat.le_trans (below_size (by repeat (first | (with_reducible first | exact HB.out | apply below_alloc | apply pw_below_drewN | apply below_drew1) | exact HB.out))) hk_)), (Kd.fresh' (Kd.N_lt (by (with_reducible repeat (first | apply Kd.N_alloc | apply Kd.N_drewN | apply Kd.N_drew)); exact HO455.out)) k_ hk_)⟩)) (below_size (by repeat (first | (with_reducible first | exact HB.out | apply below_alloc | apply pw_below_drewN | apply below_drew1) | exact HB.out)))); have n4_ := Aside0.mk (below_step (by repeat (first | (with_reducible first | exact HB.out | apply below_alloc | apply pw_below_drewN | apply below_drew1) | exact HB.out)) hb); clear HO1; clear HO2; clear HO455; clear HB; have HO1 := n0_; have HO2 := n1_; have HO455 := n2_; have HO460 := n3_; have HB := n4_; clear n0_ n1_ n2_ n3_ n4_; (try clear hb); (try clear hb2); (try clear hk); (try clear hi); (try clear ho0)) | ((with_reducible refine gate_callee (f := 18) rfl ?_); refine goesL_ (some 16) rfl rfl Tryd.func18 (by kernel_rfl) rfl #[.int .u64 a0] rfl (by (try simp only [List.map_toArray, List.map_cons, List.map_nil]); first | done | rfl | (simp only [List.length_drop, List.length_take]; rfl)) ?_; (with_reducible refine (filigreeref01_Of.calls k a0 t461 _ A7.out).mono ?_); rintro e w36 ⟨v462, rfl, ho0, hb⟩; refine ⟨_, rfl, ?_⟩; have n0_ := Aside0.mk (Kd.V_elder' (by (with_reducible repeat (first | apply Kd.V_alloc | apply Kd.V_drewN | apply Kd.V_drew)); exact HO1.out) (Kd.R_base ho0) hb); have n1_ := Aside0.mk (Kd.V_elder' (by (with_reducible repeat (first | apply Kd.V_alloc | apply Kd.V_drewN | apply Kd.V_drew)); exact HO2.out) (Kd.R_base ho0) hb); have n2_ := Aside0.mk (Kd.N_elder' (by (with_reducible repeat (first | apply Kd.N_alloc | apply Kd.N_drewN | apply Kd.N_drew)); exact HO455.out) (Kd.R_base ho0) hb); have n3_ := Aside0.mk (Kd.V_elder' (by (with_reducible repeat (first | apply Kd.V_alloc | apply Kd.V_drewN | apply Kd.V_drew)); exact HO460.out) (Kd.R_base ho0) hb); have n4_ := Aside0.mk (Kd.R_lower (Kd.R_newM (M := fun k_ => (w.heap.size ≤ k_)) ho0 (below_size (by repeat (first | (with_reducible first | exact HB.out | apply below_alloc | apply pw_below_drewN | apply below_drew1) | exact HB.out))) (fun k_ h_ => h_)) (below_size (by repeat (first | (with_reducible first | exact HB.out | apply below_alloc | apply pw_below_drewN | apply below_drew1) | exact HB.out)))); have n5_ := Aside0.mk (below_step (by repeat (first | (with_reducible first | exact HB.out | apply below_alloc | apply pw_below_drewN | apply below_drew1) | exact HB.out)) hb); clear HO1; clear HO2; clear HO455; clear HO460; clear HB; have HO1 := n0_; have HO2 := n1_; have HO455 := n2_; have HO460 := n3_; have HO463 := n4_; have HB := n5_; clear n0_ n1_ n2_ n3_ n4_ n5_; (try clear hb); (try clear hb2); (try clear hk); (try clear hi); (try clear ho0); obtain ⟨Ao37, co37, eo37⟩ := Kd.V_slice HO460.out; subst eo37; obtain ⟨Ao38, co38, eo38⟩ := Kd.R_slice HO463.out; subst eo38) | ((with_reducible refine gate_callee (f := 16) rfl ?_); refine goesL_ (some 17) rfl rfl Tryd.func16 (by kernel_rfl) rfl #[.slice Ao37 t458.length co37, .slice Ao38 t461.length co38] rfl (by (try simp only [List.map_toArray, List.map_cons, List.map_nil]); first | done | rfl | (simp only [List.length_drop, List.length_take]; rfl)) ?_; (with_reducible refine (filigreeref01_Same.calls k _ _ t458 _ _ t461 true _ ?side1 ?side2 ?side3 ?side4 A8.out).mono ?_); (case side1 => repeat (first | exact (Kd.V_reads' HO460.out).2.2 | (with_reducible refine Kd.C_alloc ?_ _) | (with_reducible refine Kd.C_drewN ?_ _) | (with_reducible refine Kd.C_drew ?_))); (case side2 => exact (Kd.V_reads' HO460.out).2.1); (case side3 => repeat (first | exact (Kd.R_reads' HO463.out).2.2 | (with_reducible refine Kd.C_alloc ?_ _) | (with_reducible refine Kd.C_drewN ?_ _) | (with_reducible refine Kd.C_drew ?_))); (case side4 => exact (Kd.R_reads' HO463.out).2.1); rintro e w' ⟨rfl, ⟨nd, rfl⟩⟩; refine ⟨_, rfl, ?_⟩) | (go_at_call 19; (with_reducible refine (natural_Norm.calls _ _ l1 t465 _ ?side1 ?side2 A10.out).mono ?_); (case side1 => repeat (first | exact (Kd.V_reads' HO1.out).2.2 | (with_reducible refine Kd.C_alloc ?_ _) | (with_reducible refine Kd.C_drewN ?_ _) | (with_reducible refine Kd.C_drew ?_))); (case side2 => exact (Kd.V_reads' HO1.out).2.1); rintro e w39 ⟨v466, rfl, ho0, hb⟩; have n0_ := Aside0.mk (Kd.V_elder' (by (with_reducible repeat (first | apply Kd.V_alloc | apply Kd.V_drewN | apply Kd.V_drew)); exact HO1.out) (Kd.R_base ho0) hb); have n1_ := Aside0.mk (Kd.V_elder' (by (with_reducible repeat (first | apply Kd.V_alloc | apply Kd.V_drewN | apply Kd.V_drew)); exact HO2.out) (Kd.R_base ho0) hb); have n2_ := Aside0.mk (Kd.N_elder' (by (with_reducible repeat (first | apply Kd.N_alloc | apply Kd.N_drewN | apply Kd.N_drew)); exact HO455.out) (Kd.R_base ho0) hb); have n3_ := Aside0.mk (Kd.V_elder' (by (with_reducible repeat (first | apply Kd.V_alloc | apply Kd.V_drewN | apply Kd.V_drew)); exact HO460.out) (Kd.R_base ho0) hb); have n4_ := Aside0.mk (Kd.R_elder' (by (with_reducible repeat (first | apply Kd.R_alloc | apply Kd.R_drewN | apply Kd.R_drew)); exact HO463.out) (Kd.R_base ho0) hb); have n5_ := Aside0.mk (Kd.R_lower (Kd.R_new' (Kd.R_newM (M := fun k_ => (w.heap.size ≤ k_)) ho0 (below_size (by repeat (first | (with_reducible first | exact HB.out | apply below_alloc | apply pw_below_drewN | apply below_drew1) | exact HB.out))) (fun k_ h_ => h_)) (Kd.R_lt (by (with_reducible repeat (first | apply Kd.R_alloc | apply Kd.R_drewN | apply Kd.R_drew)); exact HO463.out))) (below_size (by repeat (first | (with_reducible first | exact HB.out | apply below_alloc | apply pw_below_drewN | apply below_drew1) | exact HB.out)))); have n6_ := Aside0.mk (below_step (by repeat (first | (with_reducible first | exact HB.out | apply below_alloc | apply pw_below_drewN | apply below_drew1) | exact HB.out)) hb); clear HO1; clear HO2; clear HO455; clear HO460; clear HO463; clear HB; have HO1 := n0_; have HO2 := n1_; have HO455 := n2_; have HO460 := n3_; have HO463 := n4_; have HO467 := n5_; have HB := n6_; clear n0_ n1_ n2_ n3_ n4_ n5_ n6_; (try clear hb); (try clear hb2); (try clear hk); (try clear hi); (try clear ho0)) | (go_at_call 20; (with_reducible refine (filigreeref01_Norm.calls k _ _ l1 t468 _ ?side1 ?side2 A11.out).mono ?_); (case side1 => repeat (first | exact (Kd.V_reads' HO1.out).2.2 | (with_reducible refine Kd.C_alloc ?_ _) | (with_reducible refine Kd.C_drewN ?_ _) | (with_reducible refine Kd.C_drew ?_))); (case side2 => exact (Kd.V_reads' HO1.out).2.1); rintro e w40 ⟨v469, rfl, ho0, hb⟩; have n0_ := Aside0.mk (Kd.V_elder' (by (with_reducible repeat (first | apply Kd.V_alloc | apply Kd.V_drewN | apply Kd.V_drew)); exact HO1.out) (Kd.R_base ho0) hb); have n1_ := Aside0.mk (Kd.V_elder' (by (with_reducible repeat (first | apply Kd.V_alloc | apply Kd.V_drewN | apply Kd.V_drew)); exact HO2.out) (Kd.R_base ho0) hb); have n2_ := Aside0.mk (Kd.N_elder' (by (with_reducible repeat (first | apply Kd.N_alloc | apply Kd.N_drewN | apply Kd.N_drew)); exact HO455.out) (Kd.R_base ho0) hb); have n3_ := Aside0.mk (Kd.V_elder' (by (with_reducible repeat (first | apply Kd.V_alloc | apply Kd.V_drewN | apply Kd.V_drew)); exact HO460.out) (Kd.R_base ho0) hb); have n4_ := Aside0.mk (Kd.R_elder' (by (with_reducible repeat (first | apply Kd.R_alloc | apply Kd.R_drewN | apply Kd.R_drew)); exact HO463.out) (Kd.R_base ho0) hb); have n5_ := Aside0.mk (Kd.R_elder' (by (with_reducible repeat (first | apply Kd.R_alloc | apply Kd.R_drewN | apply Kd.R_drew)); exact HO467.out) (Kd.R_base ho0) hb); have n6_ := Aside0.mk (Kd.R_lower (Kd.R_new' (Kd.R_new' (Kd.R_newM (M := fun k_ => (w.heap.size ≤ k_)) ho0 (below_size (by repeat (first | (with_reducible first | exact HB.out | apply below_alloc | apply pw_below_drewN | apply below_drew1) | exact HB.out))) (fun k_ h_ => h_)) (Kd.R_lt (by (with_reducible repeat (first | apply Kd.R_alloc | apply Kd.R_drewN | apply Kd.R_drew)); exact HO463.out))) (Kd.R_lt (by (with_reducible repeat (first | apply Kd.R_alloc | apply Kd.R_drewN | apply Kd.R_drew)); exact HO467.out))) (below_size (by repeat (first | (with_reducible first | exact HB.out | apply below_alloc | apply pw_below_drewN | apply below_drew1) | exact HB.out)))); have n7_ := Aside0.mk (below_step (by repeat (first | (with_reducible first | exact HB.out | apply below_alloc | apply pw_below_drewN | apply below_drew1) | exact HB.out)) hb); clear HO1; clear HO2; clear HO455; clear HO460; clear HO463; clear HO467; clear HB; have HO1 := n0_; have HO2 := n1_; have HO455 := n2_; have HO460 := n3_; have HO463 := n4_; have HO467 := n5_; have HO470 := n6_; have HB := n7_; clear n0_ n1_ n2_ n3_ n4_ n5_ n6_ n7_; (try clear hb); (try clear hb2); (try clear hk); (try clear hi); (try clear ho0); obtain ⟨Ao41, co41, eo41⟩ := Kd.R_slice HO467.out; subst eo41; obtain ⟨Ao42, co42, eo42⟩ := Kd.R_slice HO470.out; subst eo42) | (go_at_call 16; (with_reducible refine (filigreeref01_Same.calls k _ _ t465 _ _ t468 true _ ?side1 ?side2 ?side3 ?side4 A12.out).mono ?_); (case side1 => repeat (first | exact (Kd.R_reads' HO467.out).2.2 | (with_reducible refine Kd.C_alloc ?_ _) | (with_reducible refine Kd.C_drewN ?_ _) | (with_reducible refine Kd.C_drew ?_))); (case side2 => exact (Kd.R_reads' HO467.out).2.1); (case side3 => repeat (first | exact (Kd.R_reads' HO470.out).2.2 | (with_reducible refine Kd.C_alloc ?_ _) | (with_reducible refine Kd.C_drewN ?_ _) | (with_reducible refine Kd.C_drew ?_))); (case side4 => exact (Kd.R_reads' HO470.out).2.1); rintro e w' ⟨rfl, ⟨nd, rfl⟩⟩) | (go_at_call 21; (with_reducible refine (natural_Cmp.calls _ _ l1 _ _ l2 t472 _ ?side1 ?side2 ?side3 ?side4 A14.out).mono ?_); (case side1 => repeat (first | exact (Kd.V_reads' HO1.out).2.2 | (with_reducible refine Kd.C_alloc ?_ _) | (with_reducible refine Kd.C_drewN ?_ _) | (with_reducible refine Kd.C_drew ?_))); (case side2 => exact (Kd.V_reads' HO1.out).2.1); (case side3 => repeat (first | exact (Kd.V_reads' HO2.out).2.2 | (with_reducible refine Kd.C_alloc ?_ _) | (with_reducible refine Kd.C_drewN ?_ _) | (with_reducible refine Kd.C_drew ?_))); (case side4 => exact (Kd.V_reads' HO2.out).2.1); rintro e w43 ⟨rfl, hb⟩; have n0_ := Aside0.mk (Kd.V_below (by (with_reducible repeat (first | apply Kd.V_alloc | apply Kd.V_drewN | apply Kd.V_drew)); exact HO1.out) hb); have n1_ := Aside0.mk (Kd.V_below (by (with_reducible repeat (first | apply Kd.V_alloc | apply Kd.V_drewN | apply Kd.V_drew)); exact HO2.out) hb); have n2_ := Aside0.mk (Kd.N_below (by (with_reducible repeat (first | apply Kd.N_alloc | apply Kd.N_drewN | apply Kd.N_drew)); exact HO455.out) hb); have n3_ := Aside0.mk (Kd.V_below (by (with_reducible repeat (first | apply Kd.V_alloc | apply Kd.V_drewN | apply Kd.V_drew)); exact HO460.out) hb); have n4_ := Aside0.mk (Kd.R_below (by (with_reducible repeat (first | apply Kd.R_alloc | apply Kd.R_drewN | apply Kd.R_drew)); exact HO463.out) hb); have n5_ := Aside0.mk (Kd.R_below (by (with_reducible repeat (first | apply Kd.R_alloc | apply Kd.R_drewN | apply Kd.R_drew)); exact HO467.out) hb); have n6_ := Aside0.mk (Kd.R_below (by (with_reducible repeat (first | apply Kd.R_alloc | apply Kd.R_drewN | apply Kd.R_drew)); exact HO470.out) hb); have n7_ := Aside0.mk (below_step (by repeat (first | (with_reducible first | exact HB.out | apply below_alloc | apply pw_below_drewN | apply below_drew1) | exact HB.out)) hb); clear HO1; clear HO2; clear HO455; clear HO460; clear HO463; clear HO467; clear HO470; clear HB; have HO1 := n0_; have HO2 := n1_; have HO455 := n2_; have HO460 := n3_; have HO463 := n4_; have HO467 := n5_; have HO470 := n6_; have HB := n7_; clear n0_ n1_ n2_ n3_ n4_ n5_ n6_ n7_; (try clear hb); (try clear hb2); (try clear hk); (try clear hi)) | (go_at_call 22; (with_reducible refine (filigreeref01_Cmp.calls k _ _ l1 _ _ l2 t473 _ ?side1 ?side2 ?side3 ?side4 A15.out).mono ?_); (case side1 => repeat (first | exact (Kd.V_reads' HO1.out).2.2 | (with_reducible refine Kd.C_alloc ?_ _) | (with_reducible refine Kd.C_drewN ?_ _) | (with_reducible refine Kd.C_drew ?_))); (case side2 => exact (Kd.V_reads' HO1.out).2.1); (case side3 => repeat (first | exact (Kd.V_reads' HO2.out).2.2 | (with_reducible refine Kd.C_alloc ?_ _) | (with_reducible refine Kd.C_drewN ?_ _) | (with_reducible refine Kd.C_drew ?_))); (case side4 => exact (Kd.V_reads' HO2.out).2.1); rintro e w44 ⟨rfl, hb⟩; have n0_ := Aside0.mk (Kd.V_below (by (with_reducible repeat (first | apply Kd.V_alloc | apply Kd.V_drewN | apply Kd.V_drew)); exact HO1.out) hb); have n1_ := Aside0.mk (Kd.V_below (by (with_reducible repeat (first | apply Kd.V_alloc | apply Kd.V_drewN | apply Kd.V_drew)); exact HO2.out) hb); have n2_ := Aside0.mk (Kd.N_below (by (with_reducible repeat (first | apply Kd.N_alloc | apply Kd.N_drewN | apply Kd.N_drew)); exact HO455.out) hb); have n3_ := Aside0.mk (Kd.V_below (by (with_reducible repeat (first | apply Kd.V_alloc | apply Kd.V_drewN | apply Kd.V_drew)); exact HO460.out) hb); have n4_ := Aside0.mk (Kd.R_below (by (with_reducible repeat (first | apply Kd.R_alloc | apply Kd.R_drewN | apply Kd.R_drew)); exact HO463.out) hb); have n5_ := Aside0.mk (Kd.R_below (by (with_reducible repeat (first | apply Kd.R_alloc | apply Kd.R_drewN | apply Kd.R_drew)); exact HO467.out) hb); have n6_ := Aside0.mk (Kd.R_below (by (with_reducible repeat (first | apply Kd.R_alloc | apply Kd.R_drewN | apply Kd.R_drew)); exact HO470.out) hb); have n7_ := Aside0.mk (below_step (by repeat (first | (with_reducible first | exact HB.out | apply below_alloc | apply pw_below_drewN | apply below_drew1) | exact HB.out)) hb); clear HO1; clear HO2; clear HO455; clear HO460; clear HO463; clear HO467; clear HO470; clear HB; have HO1 := n0_; have HO2 := n1_; have HO455 := n2_; have HO460 := n3_; have HO463 := n4_; have HO467 := n5_; have HO470 := n6_; have HB := n7_; clear n0_ n1_ n2_ n3_ n4_ n5_ n6_ n7_; (try clear hb); (try clear hb2); (try clear hk); (try clear hi)))
          go_ret
          exact ⟨by first | rfl | (simp [errW_none, errW_some] <;> rfl) | (simp [*, errW_none, errW_some] <;> rfl), by repeat (first | (with_reducible first | exact HB.out | apply below_alloc | apply pw_below_drewN | apply below_drew1) | exact HB.out)⟩
      · replace c13 := Bool.eq_false_iff.mpr c13
        subst c13
        have H1 : (some false) = some r := by rw [if_neg (show ¬ (false = true) by decide)] at H; exact H
        clear H
        have H := H1
        clear H1
        obtain rfl := Option.some.inj H
        go_enter Tryd.func3, Tryd.ntmps3
        go_wp2_with (first | ((with_reducible refine gate_dst (N := 9) rfl ?_); refine Kd.N_lit (Kd.slice 36 (Kd.int .u32)) _ 23 ?hg (N' := 9) ?hd (xs := ([l1, l2] : List (List Int))) (inner := [.slice A1 l1.length c1, .slice A2 l2.length c2]) (ok := (fun k_ => ((P1_ k_ ∨ P2_ k_) ∨ w.heap.size ≤ k_))) (okp := (fun k_ => ((P1_ k_ ∨ P2_ k_) ∨ w.heap.size ≤ k_))) ?hr ?hp (fun _ hk => hk) ((show ∀ k_, w.heap.size ≤ k_ → (fun k_ => ((P1_ k_ ∨ P2_ k_) ∨ w.heap.size ≤ k_)) k_ from fun k_ hk => (.inr (Nat.le_trans (below_size (by repeat (first | (with_reducible first | exact HB.out | apply below_alloc | apply pw_below_drewN | apply below_drew1) | exact HB.out))) hk))) _ (Nat.le_refl _)) (Below.refl _ _) (Nat.le_refl _) (by simp) ?_; (case hd => rfl); (case hg => rfl); (case hr => first | (go_simp; done) | (go_simp; rfl) | (go_simp; rw [show ∀ x : Int, IntKind.u32.wrap (IntKind.u8.wrap x) = x % 256 from fun x => (by show (x % 256) % 4294967296 = x % 256; omega)])); (case hp => exact (Reps.one (show Kd.FK (Kd.slice 36 (Kd.int .u32)) _ _ l1 [.slice A1 l1.length c1] from (Kd.FK_slice_mk (Kd.V_reads' (Kd.V_mono (ok' := (fun k_ => ((P1_ k_ ∨ P2_ k_) ∨ w.heap.size ≤ k_))) (HO1.out) (fun k_ hk => hk))).2.1 (Kd.V_F (Kd.V_mono (ok' := (fun k_ => ((P1_ k_ ∨ P2_ k_) ∨ w.heap.size ≤ k_))) (HO1.out) (fun k_ hk => hk))))) (Reps.one (show Kd.FK (Kd.slice 36 (Kd.int .u32)) _ _ l2 [.slice A2 l2.length c2] from (Kd.FK_slice_mk (Kd.V_reads' (Kd.V_mono (ok' := (fun k_ => ((P1_ k_ ∨ P2_ k_) ∨ w.heap.size ≤ k_))) (HO2.out) (fun k_ hk => hk))).2.1 (Kd.V_F (Kd.V_mono (ok' := (fun k_ => ((P1_ k_ ∨ P2_ k_) ∨ w.heap.size ≤ k_))) (HO2.out) (fun k_ hk => hk))))) (Reps.none _ _)))); intro v454 w45 ho46 hb hg_ hnew_; clear hg_ hnew_; (first | rw [← Ny453.out] at ho46 | (simp only [Int.reduceToNat] at ho46; rw [← Ny453.out] at ho46)); have n0_ := Aside0.mk (Kd.V_elder' (by (with_reducible repeat (first | apply Kd.V_alloc | apply Kd.V_drewN | apply Kd.V_drew)); exact HO1.out) (Kd.N_base ho46) hb); have n1_ := Aside0.mk (Kd.V_elder' (by (with_reducible repeat (first | apply Kd.V_alloc | apply Kd.V_drewN | apply Kd.V_drew)); exact HO2.out) (Kd.N_base ho46) hb); have n2_ := Aside0.mk (Kd.N_lower ho46 (below_size (by repeat (first | (with_reducible first | exact HB.out | apply below_alloc | apply pw_below_drewN | apply below_drew1) | exact HB.out)))); have n3_ := Aside0.mk (below_step (by repeat (first | (with_reducible first | exact HB.out | apply below_alloc | apply pw_below_drewN | apply below_drew1) | exact HB.out)) hb); clear HO1; clear HO2; clear HB; have HO1 := n0_; have HO2 := n1_; have HO455 := n2_; have HB := n3_; clear n0_ n1_ n2_ n3_; clear hb ho46; obtain ⟨Ao47, co47, eo47⟩ := Kd.N_slice HO455.out; subst eo47) | ((with_reducible refine gate_callee (f := 14) rfl ?_); refine goesL_ (some 10) rfl rfl Tryd.func14 (by kernel_rfl) rfl #[.slice Ao47 y453.length co47] rfl (by (try simp only [List.map_toArray, List.map_cons, List.map_nil]); first | done | rfl | (simp only [List.length_drop, List.length_take]; rfl)) ?_; (with_reducible refine (filigreelaw01_Light.calls k _ _ y453 true _ ?side1 ?side2 A4.out).mono ?_); (case side1 => repeat (first | exact (Kd.N_reads' HO455.out).2.2 | (with_reducible refine Kd.C_alloc ?_ _) | (with_reducible refine Kd.C_drewN ?_ _) | (with_reducible refine Kd.C_drew ?_))); (case side2 => exact (Kd.N_reads' HO455.out).2.1); rintro e w' ⟨rfl, ⟨nd, rfl⟩⟩; refine ⟨_, rfl, ?_⟩) | ((with_reducible refine gate_callee (f := 17) rfl ?_); refine goesL_ (some 14) rfl rfl Tryd.func17 (by kernel_rfl) rfl #[.int .u64 a0] rfl (by (try simp only [List.map_toArray, List.map_cons, List.map_nil]); first | done | rfl | (simp only [List.length_drop, List.length_take]; rfl)) ?_; (with_reducible refine (natural_Of.calls a0 t458 _ A6.out).mono ?_); rintro e w48 ⟨v459, rfl, ho0, hb⟩; refine ⟨_, rfl, ?_⟩; have n0_ := Aside0.mk (Kd.V_below (by (with_reducible repeat (first | apply Kd.V_alloc | apply Kd.V_drewN | apply Kd.V_drew)); exact HO1.out) hb); have n1_ := Aside0.mk (Kd.V_below (by (with_reducible repeat (first | apply Kd.V_alloc | apply Kd.V_drewN | apply Kd.V_drew)); exact HO2.out) hb); have n2_ := Aside0.mk (Kd.N_below (by (with_reducible repeat (first | apply Kd.N_alloc | apply Kd.N_drewN | apply Kd.N_drew)); exact HO455.out) hb); have n3_ := Aside0.mk (Kd.V_lower (Kd.V_mono (ok' := fun k_ => ((P1_ k_ ∨ P2_ k_) ∨ w.heap.size ≤ k_) ∧ some k_ ≠ (.slice Ao47 y453.length co47 : Value).ownBlock) ho0 (fun k_ hk_ => ⟨(.inr (Nat.le_trans (below_size (by repeat (first | (with_reducible first | exact HB.out | apply below_alloc | apply pw_below_drewN | apply below_drew1) | exact HB.out))) hk_)), (Kd.fresh' (Kd.N_lt (by (with_reducible repeat (first | apply Kd.N_alloc | apply Kd.N_drewN | apply Kd.N_drew)); exact HO455.out)) k_ hk_)⟩)) (below_size (by repeat (first | (with_reducible first | exact HB.out | apply below_alloc | apply pw_below_drewN | apply below_drew1) | exact HB.out)))); have n4_ := Aside0.mk (below_step (by repeat (first | (with_reducible first | exact HB.out | apply below_alloc | apply pw_below_drewN | apply below_drew1) | exact HB.out)) hb); clear HO1; clear HO2; clear HO455; clear HB; have HO1 := n0_; have HO2 := n1_; have HO455 := n2_; have HO460 := n3_; have HB := n4_; clear n0_ n1_ n2_ n3_ n4_; (try clear hb); (try clear hb2); (try clear hk); (try clear hi); (try clear ho0)) | ((with_reducible refine gate_callee (f := 18) rfl ?_); refine goesL_ (some 16) rfl rfl Tryd.func18 (by kernel_rfl) rfl #[.int .u64 a0] rfl (by (try simp only [List.map_toArray, List.map_cons, List.map_nil]); first | done | rfl | (simp only [List.length_drop, List.length_take]; rfl)) ?_; (with_reducible refine (filigreeref01_Of.calls k a0 t461 _ A7.out).mono ?_); rintro e w49 ⟨v462, rfl, ho0, hb⟩; refine ⟨_, rfl, ?_⟩; have n0_ := Aside0.mk (Kd.V_elder' (by (with_reducible repeat (first | apply Kd.V_alloc | apply Kd.V_drewN | apply Kd.V_drew)); exact HO1.out) (Kd.R_base ho0) hb); have n1_ := Aside0.mk (Kd.V_elder' (by (with_reducible repeat (first | apply Kd.V_alloc | apply Kd.V_drewN | apply Kd.V_drew)); exact HO2.out) (Kd.R_base ho0) hb); have n2_ := Aside0.mk (Kd.N_elder' (by (with_reducible repeat (first | apply Kd.N_alloc | apply Kd.N_drewN | apply Kd.N_drew)); exact HO455.out) (Kd.R_base ho0) hb); have n3_ := Aside0.mk (Kd.V_elder' (by (with_reducible repeat (first | apply Kd.V_alloc | apply Kd.V_drewN | apply Kd.V_drew)); exact HO460.out) (Kd.R_base ho0) hb); have n4_ := Aside0.mk (Kd.R_lower (Kd.R_newM (M := fun k_ => (w.heap.size ≤ k_)) ho0 (below_size (by repeat (first | (with_reducible first | exact HB.out | apply below_alloc | apply pw_below_drewN | apply below_drew1) | exact HB.out))) (fun k_ h_ => h_)) (below_size (by repeat (first | (with_reducible first | exact HB.out | apply below_alloc | apply pw_below_drewN | apply below_drew1) | exact HB.out)))); have n5_ := Aside0.mk (below_step (by repeat (first | (with_reducible first | exact HB.out | apply below_alloc | apply pw_below_drewN | apply below_drew1) | exact HB.out)) hb); clear HO1; clear HO2; clear HO455; clear HO460; clear HB; have HO1 := n0_; have HO2 := n1_; have HO455 := n2_; have HO460 := n3_; have HO463 := n4_; have HB := n5_; clear n0_ n1_ n2_ n3_ n4_ n5_; (try clear hb); (try clear hb2); (try clear hk); (try clear hi); (try clear ho0); obtain ⟨Ao50, co50, eo50⟩ := Kd.V_slice HO460.out; subst eo50; obtain ⟨Ao51, co51, eo51⟩ := Kd.R_slice HO463.out; subst eo51) | ((with_reducible refine gate_callee (f := 16) rfl ?_); refine goesL_ (some 17) rfl rfl Tryd.func16 (by kernel_rfl) rfl #[.slice Ao50 t458.length co50, .slice Ao51 t461.length co51] rfl (by (try simp only [List.map_toArray, List.map_cons, List.map_nil]); first | done | rfl | (simp only [List.length_drop, List.length_take]; rfl)) ?_; (with_reducible refine (filigreeref01_Same.calls k _ _ t458 _ _ t461 true _ ?side1 ?side2 ?side3 ?side4 A8.out).mono ?_); (case side1 => repeat (first | exact (Kd.V_reads' HO460.out).2.2 | (with_reducible refine Kd.C_alloc ?_ _) | (with_reducible refine Kd.C_drewN ?_ _) | (with_reducible refine Kd.C_drew ?_))); (case side2 => exact (Kd.V_reads' HO460.out).2.1); (case side3 => repeat (first | exact (Kd.R_reads' HO463.out).2.2 | (with_reducible refine Kd.C_alloc ?_ _) | (with_reducible refine Kd.C_drewN ?_ _) | (with_reducible refine Kd.C_drew ?_))); (case side4 => exact (Kd.R_reads' HO463.out).2.1); rintro e w' ⟨rfl, ⟨nd, rfl⟩⟩; refine ⟨_, rfl, ?_⟩) | (go_at_call 19; (with_reducible refine (natural_Norm.calls _ _ l1 t465 _ ?side1 ?side2 A10.out).mono ?_); (case side1 => repeat (first | exact (Kd.V_reads' HO1.out).2.2 | (with_reducible refine Kd.C_alloc ?_ _) | (with_reducible refine Kd.C_drewN ?_ _) | (with_reducible refine Kd.C_drew ?_))); (case side2 => exact (Kd.V_reads' HO1.out).2.1); rintro e w52 ⟨v466, rfl, ho0, hb⟩; have n0_ := Aside0.mk (Kd.V_elder' (by (with_reducible repeat (first | apply Kd.V_alloc | apply Kd.V_drewN | apply Kd.V_drew)); exact HO1.out) (Kd.R_base ho0) hb); have n1_ := Aside0.mk (Kd.V_elder' (by (with_reducible repeat (first | apply Kd.V_alloc | apply Kd.V_drewN | apply Kd.V_drew)); exact HO2.out) (Kd.R_base ho0) hb); have n2_ := Aside0.mk (Kd.N_elder' (by (with_reducible repeat (first | apply Kd.N_alloc | apply Kd.N_drewN | apply Kd.N_drew)); exact HO455.out) (Kd.R_base ho0) hb); have n3_ := Aside0.mk (Kd.V_elder' (by (with_reducible repeat (first | apply Kd.V_alloc | apply Kd.V_drewN | apply Kd.V_drew)); exact HO460.out) (Kd.R_base ho0) hb); have n4_ := Aside0.mk (Kd.R_elder' (by (with_reducible repeat (first | apply Kd.R_alloc | apply Kd.R_drewN | apply Kd.R_drew)); exact HO463.out) (Kd.R_base ho0) hb); have n5_ := Aside0.mk (Kd.R_lower (Kd.R_new' (Kd.R_newM (M := fun k_ => (w.heap.size ≤ k_)) ho0 (below_size (by repeat (first | (with_reducible first | exact HB.out | apply below_alloc | apply pw_below_drewN | apply below_drew1) | exact HB.out))) (fun k_ h_ => h_)) (Kd.R_lt (by (with_reducible repeat (first | apply Kd.R_alloc | apply Kd.R_drewN | apply Kd.R_drew)); exact HO463.out))) (below_size (by repeat (first | (with_reducible first | exact HB.out | apply below_alloc | apply pw_below_drewN | apply below_drew1) | exact HB.out)))); have n6_ := Aside0.mk (below_step (by repeat (first | (with_reducible first | exact HB.out | apply below_alloc | apply pw_below_drewN | apply below_drew1) | exact HB.out)) hb); clear HO1; clear HO2; clear HO455; clear HO460; clear HO463; clear HB; have HO1 := n0_; have HO2 := n1_; have HO455 := n2_; have HO460 := n3_; have HO463 := n4_; have HO467 := n5_; have HB := n6_; clear n0_ n1_ n2_ n3_ n4_ n5_ n6_; (try clear hb); (try clear hb2); (try clear hk); (try clear hi); (try clear ho0)) | (go_at_call 20; (with_reducible refine (filigreeref01_Norm.calls k _ _ l1 t468 _ ?side1 ?side2 A11.out).mono ?_); (case side1 => repeat (first | exact (Kd.V_reads' HO1.out).2.2 | (with_reducible refine Kd.C_alloc ?_ _) | (with_reducible refine Kd.C_drewN ?_ _) | (with_reducible refine Kd.C_drew ?_))); (case side2 => exact (Kd.V_reads' HO1.out).2.1); rintro e w53 ⟨v469, rfl, ho0, hb⟩; have n0_ := Aside0.mk (Kd.V_elder' (by (with_reducible repeat (first | apply Kd.V_alloc | apply Kd.V_drewN | apply Kd.V_drew)); exact HO1.out) (Kd.R_base ho0) hb); have n1_ := Aside0.mk (Kd.V_elder' (by (with_reducible repeat (first | apply Kd.V_alloc | apply Kd.V_drewN | apply Kd.V_drew)); exact HO2.out) (Kd.R_base ho0) hb); have n2_ := Aside0.mk (Kd.N_elder' (by (with_reducible repeat (first | apply Kd.N_alloc | apply Kd.N_drewN | apply Kd.N_drew)); exact HO455.out) (Kd.R_base ho0) hb); have n3_ := Aside0.mk (Kd.V_elder' (by (with_reducible repeat (first | apply Kd.V_alloc | apply Kd.V_drewN | apply Kd.V_drew)); exact HO460.out) (Kd.R_base ho0) hb); have n4_ := Aside0.mk (Kd.R_elder' (by (with_reducible repeat (first | apply Kd.R_alloc | apply Kd.R_drewN | apply Kd.R_drew)); exact HO463.out) (Kd.R_base ho0) hb); have n5_ := Aside0.mk (Kd.R_elder' (by (with_reducible repeat (first | apply Kd.R_alloc | apply Kd.R_drewN | apply Kd.R_drew)); exact HO467.out) (Kd.R_base ho0) hb); have n6_ := Aside0.mk (Kd.R_lower (Kd.R_new' (Kd.R_new' (Kd.R_newM (M := fun k_ => (w.heap.size ≤ k_)) ho0 (below_size (by repeat (first | (with_reducible first | exact HB.out | apply below_alloc | apply pw_below_drewN | apply below_drew1) | exact HB.out))) (fun k_ h_ => h_)) (Kd.R_lt (by (with_reducible repeat (first | apply Kd.R_alloc | apply Kd.R_drewN | apply Kd.R_drew)); exact HO463.out))) (Kd.R_lt (by (with_reducible repeat (first | apply Kd.R_alloc | apply Kd.R_drewN | apply Kd.R_drew)); exact HO467.out))) (below_size (by repeat (first | (with_reducible first | exact HB.out | apply below_alloc | apply pw_below_drewN | apply below_drew1) | exact HB.out)))); have n7_ := Aside0.mk (below_step (by repeat (first | (with_reducible first | exact HB.out | apply below_alloc | apply pw_below_drewN | apply below_drew1) | exact HB.out)) hb); clear HO1; clear HO2; clear HO455; clear HO460; clear HO463; clear HO467; clear HB; have HO1 := n0_; have HO2 := n1_; have HO455 := n2_; have HO460 := n3_; have HO463 := n4_; have HO467 := n5_; have HO470 := n6_; have HB := n7_; clear n0_ n1_ n2_ n3_ n4_ n5_ n6_ n7_; (try clear hb); (try clear hb2); (try clear hk); (try clear hi); (try clear ho0); obtain ⟨Ao54, co54, eo54⟩ := Kd.R_slice HO467.out; subst eo54; obtain ⟨Ao55, co55, eo55⟩ := Kd.R_slice HO470.out; subst eo55) | (go_at_call 16; (with_reducible refine (filigreeref01_Same.calls k _ _ t465 _ _ t468 false _ ?side1 ?side2 ?side3 ?side4 A12.out).mono ?_); (case side1 => repeat (first | exact (Kd.R_reads' HO467.out).2.2 | (with_reducible refine Kd.C_alloc ?_ _) | (with_reducible refine Kd.C_drewN ?_ _) | (with_reducible refine Kd.C_drew ?_))); (case side2 => exact (Kd.R_reads' HO467.out).2.1); (case side3 => repeat (first | exact (Kd.R_reads' HO470.out).2.2 | (with_reducible refine Kd.C_alloc ?_ _) | (with_reducible refine Kd.C_drewN ?_ _) | (with_reducible refine Kd.C_drew ?_))); (case side4 => exact (Kd.R_reads' HO470.out).2.1); rintro e w' ⟨rfl, ⟨nd, rfl⟩⟩))
        go_ret
        exact ⟨by first | rfl | (simp [errW_none, errW_some] <;> rfl) | (simp [*, errW_none, errW_some] <;> rfl), by repeat (first | (with_reducible first | exact HB.out | apply below_alloc | apply pw_below_drewN | apply below_drew1) | exact HB.out)⟩
    · replace c9 := Bool.eq_false_iff.mpr c9
      subst c9
      have H1 : (some false) = some r := by rw [if_neg (show ¬ (false = true) by decide)] at H; exact H
      clear H
      have H := H1
      clear H1
      obtain rfl := Option.some.inj H
      go_enter Tryd.func3, Tryd.ntmps3
      go_wp2_with (first | ((with_reducible refine gate_dst (N := 9) rfl ?_); refine Kd.N_lit (Kd.slice 36 (Kd.int .u32)) _ 23 ?hg (N' := 9) ?hd (xs := ([l1, l2] : List (List Int))) (inner := [.slice A1 l1.length c1, .slice A2 l2.length c2]) (ok := (fun k_ => ((P1_ k_ ∨ P2_ k_) ∨ w.heap.size ≤ k_))) (okp := (fun k_ => ((P1_ k_ ∨ P2_ k_) ∨ w.heap.size ≤ k_))) ?hr ?hp (fun _ hk => hk) ((show ∀ k_, w.heap.size ≤ k_ → (fun k_ => ((P1_ k_ ∨ P2_ k_) ∨ w.heap.size ≤ k_)) k_ from fun k_ hk => (.inr (Nat.le_trans (below_size (by repeat (first | (with_reducible first | exact HB.out | apply below_alloc | apply pw_below_drewN | apply below_drew1) | exact HB.out))) hk))) _ (Nat.le_refl _)) (Below.refl _ _) (Nat.le_refl _) (by simp) ?_; (case hd => rfl); (case hg => rfl); (case hr => first | (go_simp; done) | (go_simp; rfl) | (go_simp; rw [show ∀ x : Int, IntKind.u32.wrap (IntKind.u8.wrap x) = x % 256 from fun x => (by show (x % 256) % 4294967296 = x % 256; omega)])); (case hp => exact (Reps.one (show Kd.FK (Kd.slice 36 (Kd.int .u32)) _ _ l1 [.slice A1 l1.length c1] from (Kd.FK_slice_mk (Kd.V_reads' (Kd.V_mono (ok' := (fun k_ => ((P1_ k_ ∨ P2_ k_) ∨ w.heap.size ≤ k_))) (HO1.out) (fun k_ hk => hk))).2.1 (Kd.V_F (Kd.V_mono (ok' := (fun k_ => ((P1_ k_ ∨ P2_ k_) ∨ w.heap.size ≤ k_))) (HO1.out) (fun k_ hk => hk))))) (Reps.one (show Kd.FK (Kd.slice 36 (Kd.int .u32)) _ _ l2 [.slice A2 l2.length c2] from (Kd.FK_slice_mk (Kd.V_reads' (Kd.V_mono (ok' := (fun k_ => ((P1_ k_ ∨ P2_ k_) ∨ w.heap.size ≤ k_))) (HO2.out) (fun k_ hk => hk))).2.1 (Kd.V_F (Kd.V_mono (ok' := (fun k_ => ((P1_ k_ ∨ P2_ k_) ∨ w.heap.size ≤ k_))) (HO2.out) (fun k_ hk => hk))))) (Reps.none _ _)))); intro v454 w56 ho57 hb hg_ hnew_; clear hg_ hnew_; (first | rw [← Ny453.out] at ho57 | (simp only [Int.reduceToNat] at ho57; rw [← Ny453.out] at ho57)); have n0_ := Aside0.mk (Kd.V_elder' (by (with_reducible repeat (first | apply Kd.V_alloc | apply Kd.V_drewN | apply Kd.V_drew)); exact HO1.out) (Kd.N_base ho57) hb); have n1_ := Aside0.mk (Kd.V_elder' (by (with_reducible repeat (first | apply Kd.V_alloc | apply Kd.V_drewN | apply Kd.V_drew)); exact HO2.out) (Kd.N_base ho57) hb); have n2_ := Aside0.mk (Kd.N_lower ho57 (below_size (by repeat (first | (with_reducible first | exact HB.out | apply below_alloc | apply pw_below_drewN | apply below_drew1) | exact HB.out)))); have n3_ := Aside0.mk (below_step (by repeat (first | (with_reducible first | exact HB.out | apply below_alloc | apply pw_below_drewN | apply below_drew1) | exact HB.out)) hb); clear HO1; clear HO2; clear HB; have HO1 := n0_; have HO2 := n1_; have HO455 := n2_; have HB := n3_; clear n0_ n1_ n2_ n3_; clear hb ho57; obtain ⟨Ao58, co58, eo58⟩ := Kd.N_slice HO455.out; subst eo58) | ((with_reducible refine gate_callee (f := 14) rfl ?_); refine goesL_ (some 10) rfl rfl Tryd.func14 (by kernel_rfl) rfl #[.slice Ao58 y453.length co58] rfl (by (try simp only [List.map_toArray, List.map_cons, List.map_nil]); first | done | rfl | (simp only [List.length_drop, List.length_take]; rfl)) ?_; (with_reducible refine (filigreelaw01_Light.calls k _ _ y453 true _ ?side1 ?side2 A4.out).mono ?_); (case side1 => repeat (first | exact (Kd.N_reads' HO455.out).2.2 | (with_reducible refine Kd.C_alloc ?_ _) | (with_reducible refine Kd.C_drewN ?_ _) | (with_reducible refine Kd.C_drew ?_))); (case side2 => exact (Kd.N_reads' HO455.out).2.1); rintro e w' ⟨rfl, ⟨nd, rfl⟩⟩; refine ⟨_, rfl, ?_⟩) | ((with_reducible refine gate_callee (f := 17) rfl ?_); refine goesL_ (some 14) rfl rfl Tryd.func17 (by kernel_rfl) rfl #[.int .u64 a0] rfl (by (try simp only [List.map_toArray, List.map_cons, List.map_nil]); first | done | rfl | (simp only [List.length_drop, List.length_take]; rfl)) ?_; (with_reducible refine (natural_Of.calls a0 t458 _ A6.out).mono ?_); rintro e w59 ⟨v459, rfl, ho0, hb⟩; refine ⟨_, rfl, ?_⟩; have n0_ := Aside0.mk (Kd.V_below (by (with_reducible repeat (first | apply Kd.V_alloc | apply Kd.V_drewN | apply Kd.V_drew)); exact HO1.out) hb); have n1_ := Aside0.mk (Kd.V_below (by (with_reducible repeat (first | apply Kd.V_alloc | apply Kd.V_drewN | apply Kd.V_drew)); exact HO2.out) hb); have n2_ := Aside0.mk (Kd.N_below (by (with_reducible repeat (first | apply Kd.N_alloc | apply Kd.N_drewN | apply Kd.N_drew)); exact HO455.out) hb); have n3_ := Aside0.mk (Kd.V_lower (Kd.V_mono (ok' := fun k_ => ((P1_ k_ ∨ P2_ k_) ∨ w.heap.size ≤ k_) ∧ some k_ ≠ (.slice Ao58 y453.length co58 : Value).ownBlock) ho0 (fun k_ hk_ => ⟨(.inr (Nat.le_trans (below_size (by repeat (first | (with_reducible first | exact HB.out | apply below_alloc | apply pw_below_drewN | apply below_drew1) | exact HB.out))) hk_)), (Kd.fresh' (Kd.N_lt (by (with_reducible repeat (first | apply Kd.N_alloc | apply Kd.N_drewN | apply Kd.N_drew)); exact HO455.out)) k_ hk_)⟩)) (below_size (by repeat (first | (with_reducible first | exact HB.out | apply below_alloc | apply pw_below_drewN | apply below_drew1) | exact HB.out)))); have n4_ := Aside0.mk (below_step (by repeat (first | (with_reducible first | exact HB.out | apply below_alloc | apply pw_below_drewN | apply below_drew1) | exact HB.out)) hb); clear HO1; clear HO2; clear HO455; clear HB; have HO1 := n0_; have HO2 := n1_; have HO455 := n2_; have HO460 := n3_; have HB := n4_; clear n0_ n1_ n2_ n3_ n4_; (try clear hb); (try clear hb2); (try clear hk); (try clear hi); (try clear ho0)) | ((with_reducible refine gate_callee (f := 18) rfl ?_); refine goesL_ (some 16) rfl rfl Tryd.func18 (by kernel_rfl) rfl #[.int .u64 a0] rfl (by (try simp only [List.map_toArray, List.map_cons, List.map_nil]); first | done | rfl | (simp only [List.length_drop, List.length_take]; rfl)) ?_; (with_reducible refine (filigreeref01_Of.calls k a0 t461 _ A7.out).mono ?_); rintro e w60 ⟨v462, rfl, ho0, hb⟩; refine ⟨_, rfl, ?_⟩; have n0_ := Aside0.mk (Kd.V_elder' (by (with_reducible repeat (first | apply Kd.V_alloc | apply Kd.V_drewN | apply Kd.V_drew)); exact HO1.out) (Kd.R_base ho0) hb); have n1_ := Aside0.mk (Kd.V_elder' (by (with_reducible repeat (first | apply Kd.V_alloc | apply Kd.V_drewN | apply Kd.V_drew)); exact HO2.out) (Kd.R_base ho0) hb); have n2_ := Aside0.mk (Kd.N_elder' (by (with_reducible repeat (first | apply Kd.N_alloc | apply Kd.N_drewN | apply Kd.N_drew)); exact HO455.out) (Kd.R_base ho0) hb); have n3_ := Aside0.mk (Kd.V_elder' (by (with_reducible repeat (first | apply Kd.V_alloc | apply Kd.V_drewN | apply Kd.V_drew)); exact HO460.out) (Kd.R_base ho0) hb); have n4_ := Aside0.mk (Kd.R_lower (Kd.R_newM (M := fun k_ => (w.heap.size ≤ k_)) ho0 (below_size (by repeat (first | (with_reducible first | exact HB.out | apply below_alloc | apply pw_below_drewN | apply below_drew1) | exact HB.out))) (fun k_ h_ => h_)) (below_size (by repeat (first | (with_reducible first | exact HB.out | apply below_alloc | apply pw_below_drewN | apply below_drew1) | exact HB.out)))); have n5_ := Aside0.mk (below_step (by repeat (first | (with_reducible first | exact HB.out | apply below_alloc | apply pw_below_drewN | apply below_drew1) | exact HB.out)) hb); clear HO1; clear HO2; clear HO455; clear HO460; clear HB; have HO1 := n0_; have HO2 := n1_; have HO455 := n2_; have HO460 := n3_; have HO463 := n4_; have HB := n5_; clear n0_ n1_ n2_ n3_ n4_ n5_; (try clear hb); (try clear hb2); (try clear hk); (try clear hi); (try clear ho0); obtain ⟨Ao61, co61, eo61⟩ := Kd.V_slice HO460.out; subst eo61; obtain ⟨Ao62, co62, eo62⟩ := Kd.R_slice HO463.out; subst eo62) | ((with_reducible refine gate_callee (f := 16) rfl ?_); refine goesL_ (some 17) rfl rfl Tryd.func16 (by kernel_rfl) rfl #[.slice Ao61 t458.length co61, .slice Ao62 t461.length co62] rfl (by (try simp only [List.map_toArray, List.map_cons, List.map_nil]); first | done | rfl | (simp only [List.length_drop, List.length_take]; rfl)) ?_; (with_reducible refine (filigreeref01_Same.calls k _ _ t458 _ _ t461 false _ ?side1 ?side2 ?side3 ?side4 A8.out).mono ?_); (case side1 => repeat (first | exact (Kd.V_reads' HO460.out).2.2 | (with_reducible refine Kd.C_alloc ?_ _) | (with_reducible refine Kd.C_drewN ?_ _) | (with_reducible refine Kd.C_drew ?_))); (case side2 => exact (Kd.V_reads' HO460.out).2.1); (case side3 => repeat (first | exact (Kd.R_reads' HO463.out).2.2 | (with_reducible refine Kd.C_alloc ?_ _) | (with_reducible refine Kd.C_drewN ?_ _) | (with_reducible refine Kd.C_drew ?_))); (case side4 => exact (Kd.R_reads' HO463.out).2.1); rintro e w' ⟨rfl, ⟨nd, rfl⟩⟩; refine ⟨_, rfl, ?_⟩))
      go_ret
      exact ⟨by first | rfl | (simp [errW_none, errW_some] <;> rfl) | (simp [*, errW_none, errW_some] <;> rfl), by repeat (first | (with_reducible first | exact HB.out | apply below_alloc | apply pw_below_drewN | apply below_drew1) | exact HB.out)⟩
  · replace c5 := Bool.eq_false_iff.mpr c5
    subst c5
    have H1 : ((filigreelaw01_alive.f k).bind fun t457 => (some t457)) = some r := by rw [if_neg (show ¬ (false = true) by decide)] at H; exact H
    clear H
    have H := H1
    clear H1
    replace H := Option.bind_eq_some_iff.mp H
    obtain ⟨t457, A630, H⟩ := H
    replace H : (some t457) = some r := H
    have A63 := Aside0.mk A630
    clear A630
    obtain rfl := Option.some.inj H
    go_enter Tryd.func3, Tryd.ntmps3
    go_wp2_with (first | ((with_reducible refine gate_dst (N := 9) rfl ?_); refine Kd.N_lit (Kd.slice 36 (Kd.int .u32)) _ 23 ?hg (N' := 9) ?hd (xs := ([l1, l2] : List (List Int))) (inner := [.slice A1 l1.length c1, .slice A2 l2.length c2]) (ok := (fun k_ => ((P1_ k_ ∨ P2_ k_) ∨ w.heap.size ≤ k_))) (okp := (fun k_ => ((P1_ k_ ∨ P2_ k_) ∨ w.heap.size ≤ k_))) ?hr ?hp (fun _ hk => hk) ((show ∀ k_, w.heap.size ≤ k_ → (fun k_ => ((P1_ k_ ∨ P2_ k_) ∨ w.heap.size ≤ k_)) k_ from fun k_ hk => (.inr (Nat.le_trans (below_size (by repeat (first | (with_reducible first | exact HB.out | apply below_alloc | apply pw_below_drewN | apply below_drew1) | exact HB.out))) hk))) _ (Nat.le_refl _)) (Below.refl _ _) (Nat.le_refl _) (by simp) ?_; (case hd => rfl); (case hg => rfl); (case hr => first | (go_simp; done) | (go_simp; rfl) | (go_simp; rw [show ∀ x : Int, IntKind.u32.wrap (IntKind.u8.wrap x) = x % 256 from fun x => (by show (x % 256) % 4294967296 = x % 256; omega)])); (case hp => exact (Reps.one (show Kd.FK (Kd.slice 36 (Kd.int .u32)) _ _ l1 [.slice A1 l1.length c1] from (Kd.FK_slice_mk (Kd.V_reads' (Kd.V_mono (ok' := (fun k_ => ((P1_ k_ ∨ P2_ k_) ∨ w.heap.size ≤ k_))) (HO1.out) (fun k_ hk => hk))).2.1 (Kd.V_F (Kd.V_mono (ok' := (fun k_ => ((P1_ k_ ∨ P2_ k_) ∨ w.heap.size ≤ k_))) (HO1.out) (fun k_ hk => hk))))) (Reps.one (show Kd.FK (Kd.slice 36 (Kd.int .u32)) _ _ l2 [.slice A2 l2.length c2] from (Kd.FK_slice_mk (Kd.V_reads' (Kd.V_mono (ok' := (fun k_ => ((P1_ k_ ∨ P2_ k_) ∨ w.heap.size ≤ k_))) (HO2.out) (fun k_ hk => hk))).2.1 (Kd.V_F (Kd.V_mono (ok' := (fun k_ => ((P1_ k_ ∨ P2_ k_) ∨ w.heap.size ≤ k_))) (HO2.out) (fun k_ hk => hk))))) (Reps.none _ _)))); intro v454 w64 ho65 hb hg_ hnew_; clear hg_ hnew_; (first | rw [← Ny453.out] at ho65 | (simp only [Int.reduceToNat] at ho65; rw [← Ny453.out] at ho65)); have n0_ := Aside0.mk (Kd.V_elder' (by (with_reducible repeat (first | apply Kd.V_alloc | apply Kd.V_drewN | apply Kd.V_drew)); exact HO1.out) (Kd.N_base ho65) hb); have n1_ := Aside0.mk (Kd.V_elder' (by (with_reducible repeat (first | apply Kd.V_alloc | apply Kd.V_drewN | apply Kd.V_drew)); exact HO2.out) (Kd.N_base ho65) hb); have n2_ := Aside0.mk (Kd.N_lower ho65 (below_size (by repeat (first | (with_reducible first | exact HB.out | apply below_alloc | apply pw_below_drewN | apply below_drew1) | exact HB.out)))); have n3_ := Aside0.mk (below_step (by repeat (first | (with_reducible first | exact HB.out | apply below_alloc | apply pw_below_drewN | apply below_drew1) | exact HB.out)) hb); clear HO1; clear HO2; clear HB; have HO1 := n0_; have HO2 := n1_; have HO455 := n2_; have HB := n3_; clear n0_ n1_ n2_ n3_; clear hb ho65; obtain ⟨Ao66, co66, eo66⟩ := Kd.N_slice HO455.out; subst eo66) | ((with_reducible refine gate_callee (f := 14) rfl ?_); refine goesL_ (some 10) rfl rfl Tryd.func14 (by kernel_rfl) rfl #[.slice Ao66 y453.length co66] rfl (by (try simp only [List.map_toArray, List.map_cons, List.map_nil]); first | done | rfl | (simp only [List.length_drop, List.length_take]; rfl)) ?_; (with_reducible refine (filigreelaw01_Light.calls k _ _ y453 false _ ?side1 ?side2 A4.out).mono ?_); (case side1 => repeat (first | exact (Kd.N_reads' HO455.out).2.2 | (with_reducible refine Kd.C_alloc ?_ _) | (with_reducible refine Kd.C_drewN ?_ _) | (with_reducible refine Kd.C_drew ?_))); (case side2 => exact (Kd.N_reads' HO455.out).2.1); rintro e w' ⟨rfl, ⟨nd, rfl⟩⟩; refine ⟨_, rfl, ?_⟩) | ((with_reducible refine gate_callee (f := 15) rfl ?_); refine goesL_ (some 12) rfl rfl Tryd.func15 (by kernel_rfl) rfl #[] rfl (by (try simp only [List.map_toArray, List.map_cons, List.map_nil]); first | done | rfl | (simp only [List.length_drop, List.length_take]; rfl)) ?_; (with_reducible refine (filigreelaw01_alive.calls k  t457 _ A63.out).mono ?_); rintro e w67 ⟨rfl, hb⟩; refine ⟨_, rfl, ?_⟩; have n0_ := Aside0.mk (Kd.V_below (by (with_reducible repeat (first | apply Kd.V_alloc | apply Kd.V_drewN | apply Kd.V_drew)); exact HO1.out) hb); have n1_ := Aside0.mk (Kd.V_below (by (with_reducible repeat (first | apply Kd.V_alloc | apply Kd.V_drewN | apply Kd.V_drew)); exact HO2.out) hb); have n2_ := Aside0.mk (Kd.N_below (by (with_reducible repeat (first | apply Kd.N_alloc | apply Kd.N_drewN | apply Kd.N_drew)); exact HO455.out) hb); have n3_ := Aside0.mk (below_step (by repeat (first | (with_reducible first | exact HB.out | apply below_alloc | apply pw_below_drewN | apply below_drew1) | exact HB.out)) hb); clear HO1; clear HO2; clear HO455; clear HB; have HO1 := n0_; have HO2 := n1_; have HO455 := n2_; have HB := n3_; clear n0_ n1_ n2_ n3_; (try clear hb); (try clear hb2); (try clear hk); (try clear hi)))
    go_ret
    exact ⟨by first | rfl | (simp [errW_none, errW_some] <;> rfl) | (simp [*, errW_none, errW_some] <;> rfl), by repeat (first | (with_reducible first | exact HB.out | apply below_alloc | apply pw_below_drewN | apply below_drew1) | exact HB.out)⟩

end Go.Proofs.YtihlelniaiadgaaDoor.A
/- The plain laws of limbs: the value of a row of limbs, its normal form, what the document's answer and the program's small functions make of it. -/
namespace Go.Proofs.YtihlelniaiadgaaDoor.A
open Go Go.RowKit Go.Proofs.YtihlelniaiadgaaDoorW.PrintWords Go.Proofs.YtihlelniaiadgaaDoorW.PrintLast Go.Proofs.YtihlelniaiadgaaDoorW.PrintMore

/-- The number that limbs stand for, the lowest first. -/
def val : List Int → Int
  | [] => 0
  | x :: r => x + 4294967296 * val r
def Limbs (l : List Int) : Prop := ∀ x ∈ l, 0 ≤ x ∧ x < 4294967296
theorem w64 {n : Int} (h : -9223372036854775808 ≤ n) (h' : n ≤ 9223372036854775807) : wrap64 n = n := by unfold wrap64; omega
theorem limbs_of_wf {l : List Int} (h : ∀ x ∈ l, (Lit.int .u32 x).wf = true) : Limbs l := fun x hx => by
  have := Go.bounds_u32 (h x hx)
  omega
theorem Limbs.nil : Limbs [] := fun _ h => by cases h
theorem Limbs.cons {x : Int} {l : List Int} (h : Limbs (x :: l)) : (0 ≤ x ∧ x < 4294967296) ∧ Limbs l := ⟨h x (List.mem_cons_self ..), fun y hy => h y (List.mem_cons_of_mem _ hy)⟩
theorem Limbs.mk {x : Int} {l : List Int} (h0 : 0 ≤ x) (h1 : x < 4294967296) (h : Limbs l) : Limbs (x :: l) := fun y hy => by
  rcases List.mem_cons.1 hy with rfl | hy
  · exact ⟨h0, h1⟩
  · exact h y hy
theorem Limbs.take {l : List Int} (h : Limbs l) (n : Nat) : Limbs (l.take n) := fun x hx => h x (List.mem_of_mem_take hx)
theorem getD_lt (l : List Int) {n : Nat} (h : n < l.length) : l.getD n 0 = l[n] := by rw [List.getD_eq_getElem?_getD, List.getElem?_eq_getElem h, Option.getD_some]
theorem getD_ge (l : List Int) {n : Nat} (h : l.length ≤ n) : l.getD n 0 = 0 := by rw [List.getD_eq_getElem?_getD, List.getElem?_eq_none h, Option.getD_none]
theorem Limbs.getD {l : List Int} (h : Limbs l) (n : Nat) : 0 ≤ l.getD n 0 ∧ l.getD n 0 < 4294967296 := by
  by_cases hn : n < l.length
  · rw [getD_lt _ hn]; exact h _ (List.getElem_mem hn)
  · rw [getD_ge _ (by omega)]; omega
theorem val_append (a b : List Int) : val (a ++ b) = val a + 4294967296 ^ a.length * val b := by
  induction a with
  | nil => simp [val]
  | cons x a ih => simp only [List.cons_append, val, ih, List.length_cons, Int.pow_succ]; rw [Int.mul_add, ← Int.mul_assoc, Int.mul_comm 4294967296 (4294967296 ^ a.length)]; omega
theorem val_nonneg {l : List Int} (h : Limbs l) : 0 ≤ val l := by
  induction l with
  | nil => simp [val]
  | cons x l ih => have := h.cons; have := ih this.2; simp only [val]; omega
theorem val_lt {l : List Int} (h : Limbs l) : val l < 4294967296 ^ l.length := by
  induction l with
  | nil => simp [val]
  | cons x l ih =>
    have h1 := h.cons
    have h2 := ih h1.2
    simp only [val, List.length_cons, Int.pow_succ]
    omega

/-- No limb that is nought at the top. -/
def Trim (l : List Int) : Prop := l = [] ∨ l.getD (l.length - 1) 0 ≠ 0
theorem Trim.tail {x : Int} {l : List Int} (h : Trim (x :: l)) : Trim l := by
  rcases l with _ | ⟨y, l⟩
  · exact .inl rfl
  · rcases h with h | h
    · cases h
    · exact .inr (by simpa using h)
theorem val_pos {l : List Int} (h : Limbs l) (ht : Trim l) (hn : l ≠ []) : 0 < val l := by
  induction l with
  | nil => exact absurd rfl hn
  | cons x l ih =>
    have h1 := h.cons
    rcases l with _ | ⟨y, l⟩
    · rcases ht with ht | ht
      · cases ht
      · simp [val] at ht ⊢; omega
    · have := ih h1.2 ht.tail (by simp)
      simp only [val] at this ⊢
      omega
theorem val_inj {a : List Int} : ∀ {b : List Int}, Limbs a → Trim a → Limbs b → Trim b → val a = val b → a = b := by
  induction a with
  | nil =>
    intro b _ _ hb tb h
    by_cases hn : b = []
    · exact hn.symm
    · have := val_pos hb tb hn
      simp only [val] at h
      omega
  | cons x a ih =>
    intro b ha ta hb tb h
    rcases b with _ | ⟨y, b⟩
    · have := val_pos ha ta (by simp)
      simp only [val] at h this
      omega
    · have h1 := ha.cons
      have h2 := hb.cons
      simp only [val] at h
      have h3 : x = y := by omega
      have h4 : val a = val b := by omega
      rw [h3, ih h1.2 ta.tail h2.2 tb.tail h4]

theorem cutLen_trim (l : List Int) : ∀ n, cutLen l n = 0 ∨ l.getD (cutLen l n - 1) 0 ≠ 0
  | 0 => .inl rfl
  | n + 1 => by
    simp only [cutLen]
    split
    · exact cutLen_trim l n
    · rename_i h
      exact .inr (by simpa using h)
theorem val_cutLen (l : List Int) : ∀ n, n ≤ l.length → val (l.take (cutLen l n)) = val (l.take n)
  | 0, _ => by simp [cutLen]
  | n + 1, h => by
    simp only [cutLen]
    split
    · rename_i h0
      rw [val_cutLen l n (by omega), List.take_succ_eq_append_getElem (by omega), val_append]
      rw [getD_lt _ (by omega)] at h0
      simp [val, h0]
    · rfl
/-- A row of limbs without the noughts at the top. -/
def cut (l : List Int) : List Int := l.take (cutLen l l.length)
theorem cut_length (l : List Int) : (cut l).length ≤ l.length := by unfold cut; rw [List.length_take]; omega
theorem cut_len (l : List Int) : (cut l).length = cutLen l l.length := by have := cutLen_le l l.length; unfold cut; rw [List.length_take]; omega
theorem cut_limbs {l : List Int} (h : Limbs l) : Limbs (cut l) := h.take _
theorem cut_val (l : List Int) : val (cut l) = val l := by unfold cut; rw [val_cutLen l _ (Nat.le_refl _), List.take_length]
theorem cut_trim (l : List Int) : Trim (cut l) := by
  have h1 := cut_len l
  rcases cutLen_trim l l.length with h | h
  · exact .inl (List.eq_nil_of_length_eq_zero (by omega))
  · by_cases h0 : cutLen l l.length = 0
    · exact .inl (List.eq_nil_of_length_eq_zero (by omega))
    · refine .inr ?_
      rw [h1]
      unfold cut
      rw [List.getD_eq_getElem?_getD, List.getElem?_take, if_pos (by omega), ← List.getD_eq_getElem?_getD]
      exact h
/-- The normal form is one. -/
theorem norm_eq {a l : List Int} (ha : Limbs a) (ta : Trim a) (hl : Limbs l) (h : val a = val l) : a = cut l := val_inj ha ta (cut_limbs hl) (cut_trim l) (by rw [cut_val, h])
theorem cut_cut {l : List Int} (hl : Limbs l) : cut (cut l) = cut l := (norm_eq (cut_limbs hl) (cut_trim l) (cut_limbs hl) rfl).symm
theorem cut_of_trim {l : List Int} (hl : Limbs l) (ht : Trim l) : cut l = l := (norm_eq hl ht hl rfl).symm

theorem cut_f (l : List Int) : natural_cut.f l = some (cut l) := rfl
theorem rd_nat (l : List Int) (n : Nat) : rd l (n : Int) = l.getD n 0 := by simp [rd]

/- the document's answer: Same, Norm, Of -/
theorem same_l0 (l : List Int) (hl : l.length < 4611686018427387904) : ∀ (m k : Nat), m ≤ l.length → l.length - m < k → filigreeref01_Same.l0 k l l (m : Int) = some true := by
  intro m k
  induction k generalizing m with
  | zero => intro _ h; omega
  | succ k ih =>
    intro hm hk
    simp only [filigreeref01_Same.l0]
    by_cases h : (m : Int) < (l.length : Int)
    · simp only [h, if_true, show (0 : Int) ≤ (m : Int) from by omega, w64 (n := (m : Int) + 1) (by omega) (by omega)]
      exact ih (m + 1) (by omega) (by omega)
    · rw [if_neg h]
theorem same_f (l : List Int) (hl : l.length < 4611686018427387904) (k : Nat) (hk : l.length < k) : filigreeref01_Same.f k l l = some true := by
  unfold filigreeref01_Same.f
  rw [if_pos rfl]
  exact same_l0 l hl 0 k (by omega) (by omega)
theorem norm_l0 (l : List Int) (hl : l.length < 35184372088832) : ∀ (n k : Nat), n ≤ l.length → n < k → filigreeref01_Norm.l0 k l (n : Int) = some (l.take (cutLen l n)) := by
  intro n k
  induction k generalizing n with
  | zero => intro _ h; omega
  | succ k ih =>
    intro hn hk
    simp only [filigreeref01_Norm.l0]
    rcases n with _ | n
    · rw [if_neg (by omega)]
      simp only [Option.bind_some]
      rw [if_pos (by omega), if_pos (by omega), if_pos (by simp)]
      simp [cutLen]
    · rw [if_pos (by omega), w64 (by omega) (by omega), show ((n + 1 : Nat) : Int) - 1 = (n : Int) from by omega, if_pos (by omega), if_pos (by omega), rd_nat]
      simp only [cutLen]
      by_cases h : l.getD n 0 = 0
      · rw [if_pos h, if_pos h]
        exact ih n (by omega) (by omega)
      · rw [if_neg h, if_neg h]
        simp only [Option.bind_some]
        rw [if_pos (by omega), if_pos (by omega), if_pos (by simp; omega)]
        simp
theorem norm_f (l : List Int) (hl : l.length < 35184372088832) (k : Nat) (hk : l.length < k) : filigreeref01_Norm.f k l = some (cut l) := norm_l0 l hl l.length k (Nat.le_refl _) hk
theorem clone_f (l : List Int) (hl : l.length < 35184372088832) : slices_Clone_uint32_uint32.f l = some l := if_pos hl
theorem nnorm_f (l : List Int) (hl : l.length < 35184372088832) : natural_Norm.f l = some (cut l) := by
  unfold natural_Norm.f
  rw [cut_f, Option.bind_some, clone_f _ (by have := cut_length l; omega)]
  rfl
theorem u64_low (a : Int) (h0 : 0 ≤ a) (h1 : a < 18446744073709551616) : Go.bits .and .u64 a 4294967295 = a % 4294967296 := by
  have h := bits_and_u64_nat a.toNat (2 ^ 32 - 1) (by omega) (by decide)
  rw [Nat.and_two_pow_sub_one_eq_mod, Int.toNat_of_nonneg h0] at h
  rw [show ((4294967295 : Int)) = ((2 ^ 32 - 1 : Nat) : Int) from rfl, h]
  omega
/-- The limbs of a number below 2^64. -/
def of2 (a : Int) : List Int := cut [a % 4294967296, a / 4294967296]
theorem of_f (a : Int) (h0 : 0 ≤ a) (h1 : a < 18446744073709551616) : natural_Of.f a = some (of2 a) := by
  unfold natural_Of.f
  rw [show (a / 4294967296) % 4294967296 = a / 4294967296 from by omega]
  rfl
theorem rof_f (a : Int) (h0 : 0 ≤ a) (h1 : a < 18446744073709551616) (k : Nat) (hk : 2 < k) : filigreeref01_Of.f k a = some (of2 a) := by
  unfold filigreeref01_Of.f
  rw [u64_low a h0 h1, show a % 4294967296 % 4294967296 = a % 4294967296 from by omega, show (a / 4294967296) % 4294967296 = a / 4294967296 from by omega, norm_f _ (by simp) k (by simpa using hk)]
  rfl
theorem alive_some : filigreelaw01_alive.f 60 = some true := by kernel_rfl
theorem leO_le {α : Type} {f : Nat → Option α} (h : ∀ k, LeO (f k) (f (k + 1))) {k0 : Nat} {r : α} (h0 : f k0 = some r) : ∀ k, k0 ≤ k → f k = some r := by
  intro k hk
  induction hk with
  | refl => exact h0
  | step _ ih => exact h _ _ ih
theorem alive_f (k : Nat) (hk : 60 ≤ k) : filigreelaw01_alive.f k = some true := leO_le (f := fun k => filigreelaw01_alive.f k) filigreelaw01_alive.mono alive_some k hk
end Go.Proofs.YtihlelniaiadgaaDoor.A
/- The plain laws of comparing: limbs against limbs, bits against bits. -/
namespace Go.Proofs.YtihlelniaiadgaaDoor.A
open Go Go.RowKit Go.Proofs.YtihlelniaiadgaaDoorW.PrintWords Go.Proofs.YtihlelniaiadgaaDoorW.PrintLast Go.Proofs.YtihlelniaiadgaaDoorW.PrintMore

theorem cmpI_step {a b x y P : Int} (ha : 0 ≤ a) (ha' : a < P) (hb : 0 ≤ b) (hb' : b < P) : cmpI (a + P * x) (b + P * y) = if x = y then cmpI a b else cmpI x y := by
  unfold cmpI
  rcases Int.lt_trichotomy x y with h | h | h
  · have h1 : P * x + P ≤ P * y := by have := Int.mul_le_mul_of_nonneg_left (show x + 1 ≤ y by omega) (show 0 ≤ P by omega); rw [Int.mul_add] at this; omega
    rw [if_pos (by omega), if_neg (by omega), if_pos h]
  · subst h
    rw [if_pos rfl]
    by_cases h2 : a < b
    · rw [if_pos (by omega), if_pos h2]
    · rw [if_neg (by omega), if_neg h2]
      by_cases h3 : a > b
      · rw [if_pos (by omega), if_pos h3]
      · rw [if_neg (by omega), if_neg h3]
  · have h1 : P * y + P ≤ P * x := by have := Int.mul_le_mul_of_nonneg_left (show y + 1 ≤ x by omega) (show 0 ≤ P by omega); rw [Int.mul_add] at this; omega
    rw [if_neg (by omega), if_pos (by omega), if_neg (by omega), if_neg (by omega), if_pos h]
theorem val_take_succ (l : List Int) (n : Nat) (h : n < l.length) : val (l.take (n + 1)) = val (l.take n) + 4294967296 ^ n * l.getD n 0 := by
  rw [List.take_succ_eq_append_getElem h, val_append, List.length_take, Nat.min_eq_left (by omega), getD_lt _ h]
  simp [val]
theorem cmpTop_val {a b : List Int} (ha : Limbs a) (hb : Limbs b) : ∀ n, n ≤ a.length → n ≤ b.length → cmpTop a b n = cmpI (val (a.take n)) (val (b.take n))
  | 0, _, _ => by simp [cmpTop, val, cmpI]
  | n + 1, h1, h2 => by
    have hla := val_lt (ha.take n)
    have hlb := val_lt (hb.take n)
    rw [List.length_take, Nat.min_eq_left (by omega)] at hla hlb
    rw [val_take_succ a n (by omega), val_take_succ b n (by omega), cmpI_step (val_nonneg (ha.take n)) hla (val_nonneg (hb.take n)) hlb, ← cmpTop_val ha hb n (by omega) (by omega)]
    simp only [cmpTop]
    (first | rfl | (unfold cmpI; split <;> split <;> simp_all) | skip)
theorem val_ge {l : List Int} (h : Limbs l) (ht : Trim l) (hn : l ≠ []) : (4294967296 : Int) ^ (l.length - 1) ≤ val l := by
  obtain ⟨n, hn'⟩ : ∃ n, l.length = n + 1 := ⟨l.length - 1, by have : l.length ≠ 0 := fun h0 => hn (List.eq_nil_of_length_eq_zero h0); omega⟩
  have h1 := val_take_succ l n (by omega)
  rw [← hn', List.take_length] at h1
  have h2 : l.getD n 0 ≠ 0 := by
    rcases ht with ht | ht
    · exact absurd ht hn
    · rw [hn'] at ht; exact ht
  have h3 := h.getD n
  have h4 := val_nonneg (h.take n)
  have h5 : (4294967296 : Int) ^ n * 1 ≤ 4294967296 ^ n * l.getD n 0 := Int.mul_le_mul_of_nonneg_left (by omega) (Int.le_of_lt (Int.pow_pos (by decide)))
  rw [h1, show l.length - 1 = n by omega]
  omega
theorem pow_up {m n : Nat} (h : m ≤ n) : (4294967296 : Int) ^ m ≤ 4294967296 ^ n := by
  obtain ⟨d, rfl⟩ := Nat.exists_eq_add_of_le h
  rw [Int.pow_add]
  have h1 : (0 : Int) < 4294967296 ^ d := Int.pow_pos (by decide)
  have h2 : (0 : Int) < 4294967296 ^ m := Int.pow_pos (by decide)
  have := Int.mul_le_mul_of_nonneg_left (show (1 : Int) ≤ 4294967296 ^ d by omega) (Int.le_of_lt h2)
  rw [Int.mul_one] at this
  exact this
theorem cmp_f (a b : List Int) (ha : Limbs a) (hb : Limbs b) : natural_Cmp.f a b = some (cmpI (val a) (val b)) := by
  unfold natural_Cmp.f
  rw [← cut_len a, ← cut_len b]
  congr 1
  have key : ∀ {a b : List Int}, Limbs a → Limbs b → (cut a).length < (cut b).length → val a < val b := by
    intro a b ha hb h
    have h1 := val_lt (cut_limbs ha)
    have h2 := val_ge (cut_limbs hb) (cut_trim b) (by intro h0; rw [h0] at h; exact absurd h (by simp))
    have h3 : (4294967296 : Int) ^ (cut a).length ≤ 4294967296 ^ ((cut b).length - 1) := pow_up (by omega)
    rw [cut_val] at h1 h2
    omega
  split
  · rename_i h
    rw [cmpTop_val ha hb _ (cut_length a) (by rw [h]; exact cut_length b)]
    rw [show a.take (cut a).length = cut a by rw [cut_len]; rfl, h, show b.take (cut b).length = cut b by rw [cut_len]; rfl, cut_val, cut_val]
  · rename_i h
    rcases Nat.lt_or_gt_of_ne h with h | h
    · have := key ha hb h
      unfold cmpI
      rw [if_pos (by omega), if_pos this]
    · have := key hb ha h
      unfold cmpI
      rw [if_neg (by omega), if_pos (by omega), if_neg (by omega), if_pos (by omega)]

/- bits -/
def bval : List Int → Int
  | [] => 0
  | x :: r => x + 2 * bval r
def Bits (l : List Int) : Prop := ∀ x ∈ l, x = 0 ∨ x = 1
theorem bval_append (a b : List Int) : bval (a ++ b) = bval a + 2 ^ a.length * bval b := by
  induction a with
  | nil => simp [bval]
  | cons x a ih => simp only [List.cons_append, bval, ih, List.length_cons, Int.pow_succ]; rw [Int.mul_add, ← Int.mul_assoc, Int.mul_comm 2 (2 ^ a.length)]; omega
theorem Bits.tail {x : Int} {l : List Int} (h : Bits (x :: l)) : (x = 0 ∨ x = 1) ∧ Bits l := ⟨h x (List.mem_cons_self ..), fun y hy => h y (List.mem_cons_of_mem _ hy)⟩
theorem Bits.nil : Bits [] := fun _ h => by cases h
theorem Bits.append {a b : List Int} (ha : Bits a) (hb : Bits b) : Bits (a ++ b) := fun x hx => by
  rcases List.mem_append.1 hx with h | h
  · exact ha x h
  · exact hb x h
theorem Bits.one {x : Int} (h : x = 0 ∨ x = 1) : Bits [x] := fun y hy => by rw [List.mem_singleton] at hy; rw [hy]; exact h
theorem Bits.take {l : List Int} (h : Bits l) (n : Nat) : Bits (l.take n) := fun x hx => h x (List.mem_of_mem_take hx)
theorem Bits.getD {l : List Int} (h : Bits l) (n : Nat) : l.getD n 0 = 0 ∨ l.getD n 0 = 1 := by
  by_cases hn : n < l.length
  · rw [getD_lt _ hn]; exact h _ (List.getElem_mem hn)
  · rw [getD_ge _ (by omega)]; exact .inl rfl
theorem bval_bounds {l : List Int} (h : Bits l) : 0 ≤ bval l ∧ bval l < 2 ^ l.length := by
  induction l with
  | nil => simp [bval]
  | cons x l ih =>
    have h1 := h.tail
    have h2 := ih h1.2
    simp only [bval, List.length_cons, Int.pow_succ]
    omega
theorem bval_take_succ (l : List Int) (n : Nat) : bval (l.take (n + 1)) = bval (l.take n) + 2 ^ n * l.getD n 0 := by
  by_cases h : n < l.length
  · rw [List.take_succ_eq_append_getElem h, bval_append, List.length_take, Nat.min_eq_left (by omega), getD_lt _ h]
    simp [bval]
  · rw [List.take_of_length_le (by omega), List.take_of_length_le (by omega), getD_ge _ (by omega)]
    simp
theorem bval_take_lt {l : List Int} (h : Bits l) (n : Nat) : 0 ≤ bval (l.take n) ∧ bval (l.take n) < 2 ^ n := by
  have h1 := bval_bounds (h.take n)
  refine ⟨h1.1, Int.lt_of_lt_of_le h1.2 ?_⟩
  have := Nat.pow_le_pow_right (show 0 < 2 by decide) (show (l.take n).length ≤ n by rw [List.length_take]; omega)
  exact_mod_cast this
/-- The n low bits of x, the lowest first. -/
def bitsW (x : Int) : Nat → List Int
  | 0 => []
  | n + 1 => bitsW x n ++ [x / 2 ^ n % 2]
theorem bitsW_zero (x : Int) : bitsW x 0 = [] := rfl
theorem bitsW_succ (x : Int) (n : Nat) : bitsW x (n + 1) = bitsW x n ++ [x / 2 ^ n % 2] := rfl
theorem bitsW_length (x : Int) (n : Nat) : (bitsW x n).length = n := by
  induction n with
  | zero => rfl
  | succ n ih => simp [bitsW, ih]
theorem bitsW_bits (x : Int) (n : Nat) : Bits (bitsW x n) := by
  induction n with
  | zero => exact Bits.nil
  | succ n ih => exact ih.append (Bits.one (by omega))
theorem bval_bitsW (x : Int) (n : Nat) (h : 0 ≤ x) : bval (bitsW x n) = x % 2 ^ n := by
  induction n with
  | zero => simp only [bitsW, bval, Int.pow_zero]; omega
  | succ n ih =>
    simp only [bitsW]
    rw [bval_append, ih, bitsW_length]
    simp only [bval]
    rw [Int.pow_succ, Int.emod_def x (2 ^ n * 2), ← Int.ediv_ediv_of_nonneg (Int.le_of_lt (Int.pow_pos (by decide)))]
    have h1 := Int.emod_def x (2 ^ n)
    have h2 := Int.emod_def (x / 2 ^ n) 2
    rw [h1, h2, Int.mul_add, Int.mul_sub, Int.mul_assoc]
    simp only [Int.mul_zero, Int.add_zero]
    omega
def bitsOf : List Int → List Int
  | [] => []
  | x :: r => bitsW x 32 ++ bitsOf r
theorem bitsOf_length (l : List Int) : (bitsOf l).length = 32 * l.length := by
  induction l with
  | nil => rfl
  | cons x l ih => simp [bitsOf, ih, bitsW_length]; omega
theorem bitsOf_bits (l : List Int) : Bits (bitsOf l) := by
  induction l with
  | nil => exact Bits.nil
  | cons x l ih => exact (bitsW_bits x 32).append ih
theorem bval_bitsOf {l : List Int} (h : Limbs l) : bval (bitsOf l) = val l := by
  induction l with
  | nil => rfl
  | cons x l ih =>
    have h1 := h.cons
    simp only [bitsOf, val]
    rw [bval_append, ih h1.2, bval_bitsW x 32 h1.1.1, bitsW_length]
    have : x % 2 ^ 32 = x := by omega
    rw [this]; omega
theorem wraps_u32 (n : Int) (h₀ : 0 ≤ n) (h₁ : n < 2 ^ 32) : IntKind.u32.wrap n = n := by show n % 4294967296 = n; omega
theorem wraps_u64 (n : Int) (h₀ : 0 ≤ n) (h₁ : n < 2 ^ 64) : IntKind.u64.wrap n = n := by show n % 18446744073709551616 = n; omega
theorem u32_and1 (x : Int) (h₀ : 0 ≤ x) (h₁ : x < 4294967296) : Go.bits .and .u32 x 1 = x % 2 := bits_mask .u32 32 (by decide) wraps_u32 1 (by decide) x h₀ h₁
theorem u8_and1 (x : Int) (h₀ : 0 ≤ x) (h₁ : x < 256) : Go.bits .and .u8 x 1 = x % 2 := bits_mask .u8 8 (by decide) wraps_u8 1 (by decide) x h₀ h₁
theorem shr_u32 (x : Int) (i : Nat) (h : i ≤ 32) : shr .u32 x (IntKind.u64.wrap (i : Int)) = x / 2 ^ i := by
  rw [wraps_u64 _ (by omega) (by omega)]
  unfold shr
  rw [show min ((i : Int)).toNat (IntKind.bits .u32) = i from by rw [Int.toNat_natCast]; exact Nat.min_eq_left h]
theorem bits_l1 (x0 : List Int) (hl : Limbs x0) (m : Nat) (hm : m < x0.length) (pre : List Int) (hp : pre.length + 32 < 140737488355328) (hm2 : x0.length < 4611686018427387904) : ∀ (j i k : Nat), i + j = 32 →
    filigreeref01_bits.l1 (k + j + 1) x0 (pre ++ bitsW (x0.getD m 0) i) (m : Int) (i : Int) = filigreeref01_bits.l0 k x0 (pre ++ bitsW (x0.getD m 0) 32) ((m + 1 : Nat) : Int) := by
  intro j
  induction j with
  | zero =>
    intro i k h
    obtain rfl : i = 32 := by omega
    rw [filigreeref01_bits.l1, if_neg (by omega), w64 (by omega) (by omega)]
    rfl
  | succ j ih =>
    intro i k h
    have hx := hl.getD m
    have hdiv : 0 ≤ x0.getD m 0 / 2 ^ i ∧ x0.getD m 0 / 2 ^ i < 4294967296 := by
      refine ⟨Int.ediv_nonneg hx.1 (Int.le_of_lt (Int.pow_pos (by decide))), ?_⟩
      have := Int.ediv_le_self (2 ^ i) hx.1
      omega
    rw [show k + (j + 1) + 1 = (k + j + 1) + 1 by omega, filigreeref01_bits.l1, if_pos (by omega), if_pos (by omega), if_pos (by omega), if_pos (by rw [wraps_u64 _ (by omega) (by omega)]; omega), if_pos (by rw [List.length_append, bitsW_length]; omega), rd_nat, shr_u32 _ i (by omega), u32_and1 _ hdiv.1 hdiv.2, w64 (by omega) (by omega), show x0.getD m 0 / 2 ^ i % 2 % 256 = x0.getD m 0 / 2 ^ i % 2 by omega]
    have := ih (i + 1) k (by omega)
    rw [show ((i + 1 : Nat) : Int) = (i : Int) + 1 by omega] at this
    rw [← this, bitsW_succ, List.append_assoc]
theorem bits_l0 (x0 : List Int) (hl : Limbs x0) (hm2 : x0.length < 4000000000000) : ∀ (j m k : Nat), m + j = x0.length →
    filigreeref01_bits.l0 (k + 34 * j + 1) x0 (bitsOf (x0.take m)) (m : Int) = some (bitsOf x0) := by
  intro j
  induction j with
  | zero =>
    intro m k h
    rw [filigreeref01_bits.l0, if_neg (by omega), List.take_of_length_le (by omega)]
  | succ j ih =>
    intro m k h
    rw [show k + 34 * (j + 1) + 1 = ((k + 34 * j + 1) + 32 + 1) + 1 by omega]
    rw [filigreeref01_bits.l0, if_pos (by omega)]
    have h1 := bits_l1 x0 hl m (by omega) (bitsOf (x0.take m)) (by rw [bitsOf_length, List.length_take]; omega) (by omega) 32 0 (k + 34 * j + 1) (by omega)
    rw [bitsW_zero, List.append_nil] at h1
    rw [show ((0 : Nat) : Int) = 0 from rfl] at h1
    rw [h1]
    have h2 : bitsOf (x0.take (m + 1)) = bitsOf (x0.take m) ++ bitsW (x0.getD m 0) 32 := by
      rw [List.take_succ_eq_append_getElem (by omega), getD_lt _ (by omega)]
      have : ∀ a b : List Int, bitsOf (a ++ b) = bitsOf a ++ bitsOf b := by
        intro a b
        induction a with
        | nil => rfl
        | cons x a ih => simp [bitsOf, ih]
      rw [this]
      simp [bitsOf]
    have h3 := ih (m + 1) k (by omega)
    rw [h2] at h3
    exact h3
theorem bits_f (l : List Int) (hl : Limbs l) (hm : l.length < 4000000000000) (k : Nat) (hk : 34 * l.length + 1 ≤ k) : filigreeref01_bits.f k l = some (bitsOf l) := by
  unfold filigreeref01_bits.f
  obtain ⟨d, rfl⟩ : ∃ d, k = d + 34 * l.length + 1 := ⟨k - (34 * l.length + 1), by omega⟩
  exact bits_l0 l hl hm l.length 0 d (by omega)
theorem at_f (l : List Int) (i : Nat) : filigreeref01_at.f l (i : Int) = some (l.getD i 0) := by
  unfold filigreeref01_at.f
  by_cases h : (i : Int) < (l.length : Int)
  · rw [if_pos h, if_pos (by omega), rd_nat]
  · rw [if_neg h, getD_ge _ (by omega)]
theorem rcmp_l0 (x y : List Int) (hx : Bits x) (hy : Bits y) : ∀ (n k : Nat), n < 4611686018427387904 → n < k → filigreeref01_Cmp.l0 k x y ((n : Int) - 1) = some (cmpI (bval (x.take n)) (bval (y.take n))) := by
  intro n
  induction n with
  | zero =>
    intro k _ hk
    obtain ⟨k, rfl⟩ : ∃ d, k = d + 1 := ⟨k - 1, by omega⟩
    simp only [filigreeref01_Cmp.l0]
    rw [if_neg (by omega)]
    simp [bval, cmpI]
  | succ n ih =>
    intro k hn hk
    obtain ⟨k, rfl⟩ : ∃ d, k = d + 1 := ⟨k - 1, by omega⟩
    simp only [filigreeref01_Cmp.l0]
    rw [if_pos (by omega), show ((n + 1 : Nat) : Int) - 1 = (n : Int) by omega]
    simp only [at_f, Option.bind_some]
    rw [w64 (by omega) (by omega), ih k (by omega) (by omega)]
    have h1 := bval_take_lt hx n
    have h2 := bval_take_lt hy n
    rw [bval_take_succ, bval_take_succ, cmpI_step h1.1 h1.2 h2.1 h2.2]
    by_cases h3 : x.getD n 0 < y.getD n 0
    · rw [if_pos h3, if_neg (by omega)]
      unfold cmpI
      rw [if_pos h3]
    · rw [if_neg h3]
      by_cases h4 : x.getD n 0 > y.getD n 0
      · rw [if_pos h4, if_neg (by omega)]
        unfold cmpI
        rw [if_neg h3, if_pos h4]
      · rw [if_neg h4, if_pos (by omega)]
theorem mx_nat (a b : Nat) : mx (a : Int) (b : Int) = ((max a b : Nat) : Int) := by unfold mx; split <;> omega
theorem rcmp_f (a b : List Int) (ha : Limbs a) (hb : Limbs b) (la : a.length < 4000000000000) (lb : b.length < 4000000000000) (k : Nat) (hk : 34 * a.length + 34 * b.length + 2 ≤ k) : filigreeref01_Cmp.f k a b = some (cmpI (val a) (val b)) := by
  unfold filigreeref01_Cmp.f
  rw [bits_f a ha la k (by omega), Option.bind_some, bits_f b hb lb k (by omega), Option.bind_some, mx_nat, bitsOf_length, bitsOf_length, w64 (by omega) (by omega), rcmp_l0 _ _ (bitsOf_bits a) (bitsOf_bits b) _ k (by omega) (by omega)]
  rw [List.take_of_length_le (by rw [bitsOf_length]; omega), List.take_of_length_le (by rw [bitsOf_length]; omega), bval_bitsOf ha, bval_bitsOf hb]
end Go.Proofs.YtihlelniaiadgaaDoor.A
/- The guard of the laws: are the numbers short enough? -/
namespace Go.Proofs.YtihlelniaiadgaaDoor.A
open Go Go.RowKit Go.Proofs.YtihlelniaiadgaaDoorW.PrintWords Go.Proofs.YtihlelniaiadgaaDoorW.PrintLast Go.Proofs.YtihlelniaiadgaaDoorW.PrintMore
theorem light2 (a b : List Int) (ha : a.length ≤ maxLen) (hb : b.length ≤ maxLen) (k : Nat) (hk : 3 ≤ k) : filigreelaw01_Light.f k [a, b] = some (decide (a.length ≤ 12 ∧ b.length ≤ 12)) := by
  obtain ⟨k, rfl⟩ : ∃ d, k = d + 3 := ⟨k - 3, by omega⟩
  unfold filigreelaw01_Light.f
  rw [filigreelaw01_Light.l0, if_pos (by simp), if_pos (by omega), show rd_L1 [a, b] 0 = a from rfl]
  by_cases h1 : (a.length : Int) > 12
  · rw [if_pos h1, decide_eq_false (by omega)]
  · rw [if_neg h1, show wrap64 (0 + 1) = 1 from (by unfold wrap64; omega), filigreelaw01_Light.l0, if_pos (by simp), if_pos (by omega), show rd_L1 [a, b] 1 = b from rfl]
    by_cases h2 : (b.length : Int) > 12
    · rw [if_pos h2, decide_eq_false (by omega)]
    · rw [if_neg h2, show wrap64 (1 + 1) = 2 from (by unfold wrap64; omega), filigreelaw01_Light.l0, if_neg (by simp), decide_eq_true (by omega)]
theorem light3 (a b c : List Int) (ha : a.length ≤ maxLen) (hb : b.length ≤ maxLen) (k : Nat) (hk : 4 ≤ k) : filigreelaw01_Light.f k [a, b, c] = some (decide (a.length ≤ 12 ∧ b.length ≤ 12 ∧ c.length ≤ 12)) := by
  obtain ⟨k, rfl⟩ : ∃ d, k = d + 4 := ⟨k - 4, by omega⟩
  unfold filigreelaw01_Light.f
  rw [filigreelaw01_Light.l0, if_pos (by simp), if_pos (by omega), show rd_L1 [a, b, c] 0 = a from rfl]
  by_cases h1 : (a.length : Int) > 12
  · rw [if_pos h1, decide_eq_false (by omega)]
  · rw [if_neg h1, show wrap64 (0 + 1) = 1 from (by unfold wrap64; omega), filigreelaw01_Light.l0, if_pos (by simp), if_pos (by omega), show rd_L1 [a, b, c] 1 = b from rfl]
    by_cases h2 : (b.length : Int) > 12
    · rw [if_pos h2, decide_eq_false (by omega)]
    · rw [if_neg h2, show wrap64 (1 + 1) = 2 from (by unfold wrap64; omega), filigreelaw01_Light.l0, if_pos (by simp), if_pos (by omega), show rd_L1 [a, b, c] 2 = c from rfl]
      by_cases h3 : (c.length : Int) > 12
      · rw [if_pos h3, decide_eq_false (by omega)]
      · rw [if_neg h3, show wrap64 (2 + 1) = 3 from (by unfold wrap64; omega), filigreelaw01_Light.l0, if_neg (by simp), decide_eq_true (by omega)]
end Go.Proofs.YtihlelniaiadgaaDoor.A
namespace Go.Proofs.YtihlelniaiadgaaDoor.A
open Go.RowKit Go.Proofs.YtihlelniaiadgaaDoorW.PrintWords Go.Proofs.YtihlelniaiadgaaDoorW.PrintLast Go.Proofs.YtihlelniaiadgaaDoorW.PrintMore
/-- What the walk leaves: a statement of plain lists and numbers. -/
def filigreelaw01_NaturalOrder.Pure : Prop := ∀ (a0 : Int) (l1 : List Int) (l2 : List Int), (Lit.int .u64 a0).wf = true → l1.length ≤ maxLen → l1.length * 4 ≤ 140737488351232 → (∀ x ∈ l1, (Lit.int .u32 x).wf = true) → l2.length ≤ maxLen → l2.length * 4 ≤ 140737488351232 → (∀ x ∈ l2, (Lit.int .u32 x).wf = true) → ∃ k, filigreelaw01_NaturalOrder.f k a0 l1 l2 = some true
end Go.Proofs.YtihlelniaiadgaaDoor.A
/- The plain law of NaturalOrder. -/
namespace Go.Proofs.YtihlelniaiadgaaDoor.A
open Go Go.RowKit Go.Proofs.YtihlelniaiadgaaDoorW.PrintWords Go.Proofs.YtihlelniaiadgaaDoorW.PrintLast Go.Proofs.YtihlelniaiadgaaDoorW.PrintMore
theorem of2_len (a : Int) : (of2 a).length ≤ 2 := cut_length _
theorem pure_NaturalOrder : filigreelaw01_NaturalOrder.Pure := by
  intro a0 l1 l2 h0 m1 _ h1 m2 _ h2
  have b0 := bounds_u64 h0
  have L1 := limbs_of_wf h1
  have L2 := limbs_of_wf h2
  obtain ⟨k, hk⟩ : ∃ k : Nat, k = 1000 := ⟨_, rfl⟩
  refine ⟨k, ?_⟩
  unfold filigreelaw01_NaturalOrder.f
  rw [light2 l1 l2 m1 m2 k (by omega), Option.bind_some]
  by_cases hL : l1.length ≤ 12 ∧ l2.length ≤ 12
  · have hc := cut_length l1
    have ho := of2_len a0
    rw [decide_eq_true hL, if_pos rfl, of_f a0 (by omega) (by omega), Option.bind_some, rof_f a0 (by omega) (by omega) k (by omega), Option.bind_some, same_f _ (by omega) k (by omega), Option.bind_some, if_pos rfl]
    rw [nnorm_f l1 (by omega), Option.bind_some, norm_f l1 (by omega) k (by omega), Option.bind_some, same_f _ (by omega) k (by omega), Option.bind_some, if_pos rfl]
    rw [cmp_f l1 l2 L1 L2, Option.bind_some, rcmp_f l1 l2 L1 L2 (by omega) (by omega) k (by omega), Option.bind_some, if_pos rfl, alive_f k (by omega)]
    rfl
  · rw [decide_eq_false hL, if_neg (by simp), alive_f k (by omega)]
    rfl
end Go.Proofs.YtihlelniaiadgaaDoor.A
