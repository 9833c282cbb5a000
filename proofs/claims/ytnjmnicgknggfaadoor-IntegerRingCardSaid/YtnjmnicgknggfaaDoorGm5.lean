/- Lemmas for the statement: the walks of the functions that it reaches, and plain laws. -/
import Derived.Test.YtnjmnicgknggfaaDoorGm1
import Derived.Test.YtnjmnicgknggfaaDoorGm4
import Derived.Test.YtnjmnicgknggfaaDoorGm3
import Derived.Test.YtnjmnicgknggfaaDoorGm2
set_option linter.unusedVariables false
set_option linter.unusedSimpArgs false
set_option maxHeartbeats 8000000
set_option maxRecDepth 100000
namespace Go.Proofs.YtnjmnicgknggfaaDoor.G
open Go Go.RowKit Go.Proofs.YtnjmnicgknggfaaDoorW.PrintWords Go.Proofs.YtnjmnicgknggfaaDoorW.PrintLast Go.Proofs.YtnjmnicgknggfaaDoorW.PrintMore
attribute [local go_sem] max2_int min2_int max_two min_two max_three min_three max_four min_four
open Go.Proofs.YtnjmnicgknggfaaDoorW.PrintWords.Kd renaming R_alloc → zRa, R_drewN → zRn, R_drew → zRd, V_alloc → zVa, V_drewN → zVn, V_drew → zVd, V_below → zVb, C_alloc → zCa, C_drewN → zCn, C_drew → zCd, R_mono → zRm, V_mono → zVm, at_int → zAi, R_elder' → zRe, R_lower → zRl, R_new' → zRw, R_lt → zRt, R_below → zRb, R_base → zRz, R_reads' → zRr, R_slice → zRs, V_elder' → zVe, V_lower → zVl, V_slice → zVs, V_reads' → zVr
open Go.Proofs.YtnjmnicgknggfaaDoorW.PrintWords renaming pw_below_drewN → zBn, below_alloc → zBa, below_drew1 → zBd, below_size → zBs, below_step → zBt, blk_drewN → zKn, blk_drew → zKd, blk_alloc → zKa, blk_below → zKb, blk_cell → zKc, blk_frozen → zKf
open List renaming setIfInBounds_toArray → zSa, set_cons_zero → zSb, set_cons_succ → zSc, length_drop → zLd, length_take → zLt, map_toArray → zMa, map_cons → zMc, map_nil → zMn, length_cons → zLc, length_nil → zLn
open Go.Proofs.YtnjmnicgknggfaaDoorW.PrintWords.Aside0 renaming mk → zMk
open Option renaming bind_eq_some_iff → zBi, bind_some → zOb
open Option.some renaming inj → zOi
open Int renaming toNat_natCast → zTn

def filigreelaw02_IntegerRing.f (k : Nat) (a0_0 : Bool) (l0_1 : List Int) (a1_0 : Bool) (l1_1 : List Int) (a2_0 : Bool) (l2_1 : List Int) : Option (Bool) := (w1_Light.f k (([l0_1, l1_1, l2_1] : List (List Int)))).bind fun t511 => (if t511 = true then ((integer_Neg.f a0_0 l0_1).bind fun bt513 => ((integer_Add.f k a0_0 l0_1 bt513.1 bt513.2).bind fun bt517 => ((integer_Add.f k a1_0 l1_1 a2_0 l2_1).bind fun bt522 => ((integer_Mul.f k a0_0 l0_1 bt522.1 bt522.2).bind fun bt526 => ((integer_Mul.f k a0_0 l0_1 a1_0 l1_1).bind fun bt531 => ((integer_Mul.f k a0_0 l0_1 a2_0 l2_1).bind fun bt535 => ((integer_Add.f k bt531.1 bt531.2 bt535.1 bt535.2).bind fun bt539 => (if (bt517.2.length : Int) = 0 then (if bt517.1 = true then (some false) else ((filigreeref02_Same.f k bt526.1 bt526.2 bt539.1 bt539.2).bind fun t544 => (if t544 = true then ((integer_Add.f k a0_0 l0_1 a1_0 l1_1).bind fun bt545 => ((integer_Add.f k a1_0 l1_1 a0_0 l0_1).bind fun bt549 => ((filigreeref02_Same.f k bt545.1 bt545.2 bt549.1 bt549.2).bind fun t553 => (if t553 = true then ((integer_Mul.f k a0_0 l0_1 a1_0 l1_1).bind fun bt554 => ((integer_Mul.f k a1_0 l1_1 a0_0 l0_1).bind fun bt558 => ((filigreeref02_Same.f k bt554.1 bt554.2 bt558.1 bt558.2).bind fun t562 => (if t562 = true then ((integer_Add.f k a0_0 l0_1 a1_0 l1_1).bind fun bt563 => ((integer_Sub.f k bt563.1 bt563.2 a1_0 l1_1).bind fun bt567 => ((filigreeref02_Norm.f k a0_0 l0_1).bind fun bt571 => ((filigreeref02_Same.f k bt567.1 bt567.2 bt571.1 bt571.2).bind fun t575 => (if t575 = true then ((filigreelaw02_alive.f k).bind fun t576 => (some t576)) else (some false)))))) else (some false))))) else (some false))))) else (some false)))) else (some false))))))))) else ((filigreelaw02_alive.f k).bind fun t512 => (some t512)))
def filigreelaw02_IntegerRing.T5 : Bool × List (List Nat × List Nat) := (true, [([], []), ([], []), ([0, 1], [0, 1]), ([], []), ([], []), ([3, 4, 2], [3, 4]), ([2, 5, 5], [2, 5]), ([], []), ([7, 6, 6, 0, 1, 2, 3, 4, 5, 6, 7], [6, 7])])
def filigreelaw02_IntegerRing.B5 : List Nat := [0, 0, 3, 0, 0, 31, 63, 0, 255]
theorem filigreelaw02_IntegerRing.tab5 : rtab .any (opsOf Tryd.f5 5) = filigreelaw02_IntegerRing.T5 := by kernel_rfl
theorem filigreelaw02_IntegerRing.bits5 : waitsOk filigreelaw02_IntegerRing.T5.2 filigreelaw02_IntegerRing.B5 = true := by kernel_rfl
def filigreelaw02_IntegerRing.T6 : Bool × List (List Nat × List Nat) := (true, [([], []), ([0], [0]), ([1], [1]), ([2], [2]), ([3], [3]), ([4], [4]), ([5, 4], [4, 5]), ([6, 4], [4, 6]), ([4, 7], [4, 7]), ([8, 4], [8]), ([9], [9]), ([9], [9]), ([10, 11, 9, 9], [9, 10, 11]), ([9, 12], [9, 12]), ([13, 12], [13]), ([14], [14]), ([14], [14]), ([15, 16, 14, 14], [14, 15, 16]), ([14], [14]), ([14], [14]), ([18, 19, 17, 14], [14, 18, 19]), ([17, 20, 20, 14], [14, 17, 20]), ([14, 21], [14, 21]), ([22, 21], [22]), ([23], [23]), ([23], [23]), ([24, 25, 23, 23], [23, 24, 25]), ([23], [23]), ([23], [23]), ([27, 28, 26, 23], [23, 27, 28]), ([26, 29, 29, 23], [23, 26, 29]), ([23, 30], [23, 30]), ([31, 30], [31]), ([32], [32]), ([32], [32]), ([33, 34, 32, 32], [32, 33, 34]), ([32], [32]), ([35, 36, 35, 32], [32, 35, 36]), ([32], [32]), ([38, 37, 32], [32, 38]), ([37, 39, 39, 32], [32, 37, 39]), ([32, 40], [32, 40]), ([41, 40], [41]), ([42, 42], [42]), ([42, 43], [42, 43]), ([44, 43, 0, 1, 2, 3, 4, 5, 6, 7, 8, 9, 10, 11, 12, 13, 14, 15, 16, 17, 18, 19, 20, 21, 22, 23, 24, 25, 26, 27, 28, 29, 30, 31, 32, 33, 34, 35, 36, 37, 38, 39, 40, 41, 42, 43, 44], [44])])
def filigreelaw02_IntegerRing.B6 : List Nat := [0, 1, 3, 7, 15, 31, 63, 127, 255, 511, 1023, 1023, 4095, 8191, 16383, 32767, 32767, 131071, 32767, 32767, 1048575, 2097151, 4194303, 8388607, 16777215, 16777215, 67108863, 16777215, 16777215, 536870911, 1073741823, 2147483647, 4294967295, 8589934591, 8589934591, 34359738367, 8589934591, 137438953471, 8589934591, 549755813887, 1099511627775, 2199023255551, 4398046511103, 8796093022207, 17592186044415, 35184372088831]
theorem filigreelaw02_IntegerRing.tab6 : rtab .any (opsOf Tryd.f5 6) = filigreelaw02_IntegerRing.T6 := by kernel_rfl
theorem filigreelaw02_IntegerRing.bits6 : waitsOk filigreelaw02_IntegerRing.T6.2 filigreelaw02_IntegerRing.B6 = true := by kernel_rfl
theorem filigreelaw02_IntegerRing.calls (k : Nat) (a0_0 : Bool) (P0_1_ : Nat → Prop) (A0_1 : Option Addr) (c0_1 : Nat) (l0_1 : List Int) (a1_0 : Bool) (P1_1_ : Nat → Prop) (A1_1 : Option Addr) (c1_1 : Nat) (l1_1 : List Int) (a2_0 : Bool) (P2_1_ : Nat → Prop) (A2_1 : Option Addr) (c2_1 : Nat) (l2_1 : List Int) (r : Bool) (w : World) (hs0_1 : Kd.V (Kd.int .u32) 58 w w.heap.size (fun k_ => P0_1_ k_) (.slice A0_1 l0_1.length c0_1) l0_1) (hs1_1 : Kd.V (Kd.int .u32) 58 w w.heap.size (fun k_ => P1_1_ k_) (.slice A1_1 l1_1.length c1_1) l1_1) (hs2_1 : Kd.V (Kd.int .u32) 58 w w.heap.size (fun k_ => P2_1_ k_) (.slice A2_1 l2_1.length c2_1) l2_1) (h : filigreelaw02_IntegerRing.f k a0_0 l0_1 a1_0 l1_1 a2_0 l2_1 = some r) (hr_ : r = true) :
  Calls Tryd.prog 5 #[.agg #[.bool a0_0, .slice A0_1 l0_1.length c0_1], .agg #[.bool a1_0, .slice A1_1 l1_1.length c1_1], .agg #[.bool a2_0, .slice A2_1 l2_1.length c2_1]] w fun e w' => e = .returned (.bool r) ∧ Below w.heap.size w w' := by
 have HRT := zMk hr_
 clear hr_
 have hu24 := Tryd.underlying24
 have HO0_1 := zMk (show Kd.V (Kd.int .u32) 58 w w.heap.size (fun k_ => ((P0_1_ k_ ∨ P1_1_ k_ ∨ P2_1_ k_) ∨ w.heap.size ≤ k_)) (.slice A0_1 l0_1.length c0_1) l0_1 from zVm hs0_1 (fun k_ hk => .inl (.inl hk)))
 have HO1_1 := zMk (show Kd.V (Kd.int .u32) 58 w w.heap.size (fun k_ => ((P0_1_ k_ ∨ P1_1_ k_ ∨ P2_1_ k_) ∨ w.heap.size ≤ k_)) (.slice A1_1 l1_1.length c1_1) l1_1 from zVm hs1_1 (fun k_ hk => .inl (.inr (.inl hk))))
 have HO2_1 := zMk (show Kd.V (Kd.int .u32) 58 w w.heap.size (fun k_ => ((P0_1_ k_ ∨ P1_1_ k_ ∨ P2_1_ k_) ∨ w.heap.size ≤ k_)) (.slice A2_1 l2_1.length c2_1) l2_1 from zVm hs2_1 (fun k_ hk => .inl (.inr (.inr hk))))
 have HB := zMk (Below.refl w.heap.size w)
 have H : ((w1_Light.f k (([l0_1, l1_1, l2_1] : List (List Int)))).bind fun t511 => (if t511 = true then ((integer_Neg.f a0_0 l0_1).bind fun bt513 => ((integer_Add.f k a0_0 l0_1 bt513.1 bt513.2).bind fun bt517 => ((integer_Add.f k a1_0 l1_1 a2_0 l2_1).bind fun bt522 => ((integer_Mul.f k a0_0 l0_1 bt522.1 bt522.2).bind fun bt526 => ((integer_Mul.f k a0_0 l0_1 a1_0 l1_1).bind fun bt531 => ((integer_Mul.f k a0_0 l0_1 a2_0 l2_1).bind fun bt535 => ((integer_Add.f k bt531.1 bt531.2 bt535.1 bt535.2).bind fun bt539 => (if (bt517.2.length : Int) = 0 then (if bt517.1 = true then (some false) else ((filigreeref02_Same.f k bt526.1 bt526.2 bt539.1 bt539.2).bind fun t544 => (if t544 = true then ((integer_Add.f k a0_0 l0_1 a1_0 l1_1).bind fun bt545 => ((integer_Add.f k a1_0 l1_1 a0_0 l0_1).bind fun bt549 => ((filigreeref02_Same.f k bt545.1 bt545.2 bt549.1 bt549.2).bind fun t553 => (if t553 = true then ((integer_Mul.f k a0_0 l0_1 a1_0 l1_1).bind fun bt554 => ((integer_Mul.f k a1_0 l1_1 a0_0 l0_1).bind fun bt558 => ((filigreeref02_Same.f k bt554.1 bt554.2 bt558.1 bt558.2).bind fun t562 => (if t562 = true then ((integer_Add.f k a0_0 l0_1 a1_0 l1_1).bind fun bt563 => ((integer_Sub.f k bt563.1 bt563.2 a1_0 l1_1).bind fun bt567 => ((filigreeref02_Norm.f k a0_0 l0_1).bind fun bt571 => ((filigreeref02_Same.f k bt567.1 bt567.2 bt571.1 bt571.2).bind fun t575 => (if t575 = true then ((filigreelaw02_alive.f k).bind fun t576 => (some t576)) else (some false)))))) else (some false))))) else (some false))))) else (some false)))) else (some false))))))))) else ((filigreelaw02_alive.f k).bind fun t512 => (some t512)))) = some r := h
 clear h
 obtain ⟨y508, hy508⟩ : ∃ y_ : List (List Int), y_ = (([l0_1, l1_1, l2_1] : List (List Int))) := ⟨_, rfl⟩
 replace H : ((w1_Light.f k y508).bind fun t511 => (if t511 = true then ((integer_Neg.f a0_0 l0_1).bind fun bt513 => ((integer_Add.f k a0_0 l0_1 bt513.1 bt513.2).bind fun bt517 => ((integer_Add.f k a1_0 l1_1 a2_0 l2_1).bind fun bt522 => ((integer_Mul.f k a0_0 l0_1 bt522.1 bt522.2).bind fun bt526 => ((integer_Mul.f k a0_0 l0_1 a1_0 l1_1).bind fun bt531 => ((integer_Mul.f k a0_0 l0_1 a2_0 l2_1).bind fun bt535 => ((integer_Add.f k bt531.1 bt531.2 bt535.1 bt535.2).bind fun bt539 => (if (bt517.2.length : Int) = 0 then (if bt517.1 = true then (some false) else ((filigreeref02_Same.f k bt526.1 bt526.2 bt539.1 bt539.2).bind fun t544 => (if t544 = true then ((integer_Add.f k a0_0 l0_1 a1_0 l1_1).bind fun bt545 => ((integer_Add.f k a1_0 l1_1 a0_0 l0_1).bind fun bt549 => ((filigreeref02_Same.f k bt545.1 bt545.2 bt549.1 bt549.2).bind fun t553 => (if t553 = true then ((integer_Mul.f k a0_0 l0_1 a1_0 l1_1).bind fun bt554 => ((integer_Mul.f k a1_0 l1_1 a0_0 l0_1).bind fun bt558 => ((filigreeref02_Same.f k bt554.1 bt554.2 bt558.1 bt558.2).bind fun t562 => (if t562 = true then ((integer_Add.f k a0_0 l0_1 a1_0 l1_1).bind fun bt563 => ((integer_Sub.f k bt563.1 bt563.2 a1_0 l1_1).bind fun bt567 => ((filigreeref02_Norm.f k a0_0 l0_1).bind fun bt571 => ((filigreeref02_Same.f k bt567.1 bt567.2 bt571.1 bt571.2).bind fun t575 => (if t575 = true then ((filigreelaw02_alive.f k).bind fun t576 => (some t576)) else (some false)))))) else (some false))))) else (some false))))) else (some false)))) else (some false))))))))) else ((filigreelaw02_alive.f k).bind fun t512 => (some t512)))) = some r := by first | (rw [hy508]; with_reducible exact H) | (have H2_ := bsm H; first | (rw [hy508]; with_reducible exact H2_) | with_reducible exact H2_) | with_reducible exact H | (rw [hy508]; exact H) | exact H
 have Ny508 := zMk hy508
 clear hy508
 replace H := bnd H
 obtain ⟨t511, A40, H⟩ := H
 have A4 := zMk A40
 clear A40
 by_cases c5 : t511 = true
 ·subst c5
  replace H : ((integer_Neg.f a0_0 l0_1).bind fun bt513 => ((integer_Add.f k a0_0 l0_1 bt513.1 bt513.2).bind fun bt517 => ((integer_Add.f k a1_0 l1_1 a2_0 l2_1).bind fun bt522 => ((integer_Mul.f k a0_0 l0_1 bt522.1 bt522.2).bind fun bt526 => ((integer_Mul.f k a0_0 l0_1 a1_0 l1_1).bind fun bt531 => ((integer_Mul.f k a0_0 l0_1 a2_0 l2_1).bind fun bt535 => ((integer_Add.f k bt531.1 bt531.2 bt535.1 bt535.2).bind fun bt539 => (if (bt517.2.length : Int) = 0 then (if bt517.1 = true then (some false) else ((filigreeref02_Same.f k bt526.1 bt526.2 bt539.1 bt539.2).bind fun t544 => (if t544 = true then ((integer_Add.f k a0_0 l0_1 a1_0 l1_1).bind fun bt545 => ((integer_Add.f k a1_0 l1_1 a0_0 l0_1).bind fun bt549 => ((filigreeref02_Same.f k bt545.1 bt545.2 bt549.1 bt549.2).bind fun t553 => (if t553 = true then ((integer_Mul.f k a0_0 l0_1 a1_0 l1_1).bind fun bt554 => ((integer_Mul.f k a1_0 l1_1 a0_0 l0_1).bind fun bt558 => ((filigreeref02_Same.f k bt554.1 bt554.2 bt558.1 bt558.2).bind fun t562 => (if t562 = true then ((integer_Add.f k a0_0 l0_1 a1_0 l1_1).bind fun bt563 => ((integer_Sub.f k bt563.1 bt563.2 a1_0 l1_1).bind fun bt567 => ((filigreeref02_Norm.f k a0_0 l0_1).bind fun bt571 => ((filigreeref02_Same.f k bt567.1 bt567.2 bt571.1 bt571.2).bind fun t575 => (if t575 = true then ((filigreelaw02_alive.f k).bind fun t576 => (some t576)) else (some false)))))) else (some false))))) else (some false))))) else (some false)))) else (some false))))))))) = some r := by rw [if_pos rfl] at H; exact H
  replace H := bnd H
  obtain ⟨⟨t513, t514⟩, A60, H⟩ := H
  replace H : ((integer_Add.f k a0_0 l0_1 t513 t514).bind fun bt517 => ((integer_Add.f k a1_0 l1_1 a2_0 l2_1).bind fun bt522 => ((integer_Mul.f k a0_0 l0_1 bt522.1 bt522.2).bind fun bt526 => ((integer_Mul.f k a0_0 l0_1 a1_0 l1_1).bind fun bt531 => ((integer_Mul.f k a0_0 l0_1 a2_0 l2_1).bind fun bt535 => ((integer_Add.f k bt531.1 bt531.2 bt535.1 bt535.2).bind fun bt539 => (if (bt517.2.length : Int) = 0 then (if bt517.1 = true then (some false) else ((filigreeref02_Same.f k bt526.1 bt526.2 bt539.1 bt539.2).bind fun t544 => (if t544 = true then ((integer_Add.f k a0_0 l0_1 a1_0 l1_1).bind fun bt545 => ((integer_Add.f k a1_0 l1_1 a0_0 l0_1).bind fun bt549 => ((filigreeref02_Same.f k bt545.1 bt545.2 bt549.1 bt549.2).bind fun t553 => (if t553 = true then ((integer_Mul.f k a0_0 l0_1 a1_0 l1_1).bind fun bt554 => ((integer_Mul.f k a1_0 l1_1 a0_0 l0_1).bind fun bt558 => ((filigreeref02_Same.f k bt554.1 bt554.2 bt558.1 bt558.2).bind fun t562 => (if t562 = true then ((integer_Add.f k a0_0 l0_1 a1_0 l1_1).bind fun bt563 => ((integer_Sub.f k bt563.1 bt563.2 a1_0 l1_1).bind fun bt567 => ((filigreeref02_Norm.f k a0_0 l0_1).bind fun bt571 => ((filigreeref02_Same.f k bt567.1 bt567.2 bt571.1 bt571.2).bind fun t575 => (if t575 = true then ((filigreelaw02_alive.f k).bind fun t576 => (some t576)) else (some false)))))) else (some false))))) else (some false))))) else (some false)))) else (some false)))))))) = some r := H
  have A6 := zMk A60
  clear A60
  replace H := bnd H
  obtain ⟨⟨t517, t518⟩, A70, H⟩ := H
  replace H : ((integer_Add.f k a1_0 l1_1 a2_0 l2_1).bind fun bt522 => ((integer_Mul.f k a0_0 l0_1 bt522.1 bt522.2).bind fun bt526 => ((integer_Mul.f k a0_0 l0_1 a1_0 l1_1).bind fun bt531 => ((integer_Mul.f k a0_0 l0_1 a2_0 l2_1).bind fun bt535 => ((integer_Add.f k bt531.1 bt531.2 bt535.1 bt535.2).bind fun bt539 => (if (t518.length : Int) = 0 then (if t517 = true then (some false) else ((filigreeref02_Same.f k bt526.1 bt526.2 bt539.1 bt539.2).bind fun t544 => (if t544 = true then ((integer_Add.f k a0_0 l0_1 a1_0 l1_1).bind fun bt545 => ((integer_Add.f k a1_0 l1_1 a0_0 l0_1).bind fun bt549 => ((filigreeref02_Same.f k bt545.1 bt545.2 bt549.1 bt549.2).bind fun t553 => (if t553 = true then ((integer_Mul.f k a0_0 l0_1 a1_0 l1_1).bind fun bt554 => ((integer_Mul.f k a1_0 l1_1 a0_0 l0_1).bind fun bt558 => ((filigreeref02_Same.f k bt554.1 bt554.2 bt558.1 bt558.2).bind fun t562 => (if t562 = true then ((integer_Add.f k a0_0 l0_1 a1_0 l1_1).bind fun bt563 => ((integer_Sub.f k bt563.1 bt563.2 a1_0 l1_1).bind fun bt567 => ((filigreeref02_Norm.f k a0_0 l0_1).bind fun bt571 => ((filigreeref02_Same.f k bt567.1 bt567.2 bt571.1 bt571.2).bind fun t575 => (if t575 = true then ((filigreelaw02_alive.f k).bind fun t576 => (some t576)) else (some false)))))) else (some false))))) else (some false))))) else (some false)))) else (some false))))))) = some r := H
  have A7 := zMk A70
  clear A70
  replace H := bnd H
  obtain ⟨⟨t522, t523⟩, A80, H⟩ := H
  replace H : ((integer_Mul.f k a0_0 l0_1 t522 t523).bind fun bt526 => ((integer_Mul.f k a0_0 l0_1 a1_0 l1_1).bind fun bt531 => ((integer_Mul.f k a0_0 l0_1 a2_0 l2_1).bind fun bt535 => ((integer_Add.f k bt531.1 bt531.2 bt535.1 bt535.2).bind fun bt539 => (if (t518.length : Int) = 0 then (if t517 = true then (some false) else ((filigreeref02_Same.f k bt526.1 bt526.2 bt539.1 bt539.2).bind fun t544 => (if t544 = true then ((integer_Add.f k a0_0 l0_1 a1_0 l1_1).bind fun bt545 => ((integer_Add.f k a1_0 l1_1 a0_0 l0_1).bind fun bt549 => ((filigreeref02_Same.f k bt545.1 bt545.2 bt549.1 bt549.2).bind fun t553 => (if t553 = true then ((integer_Mul.f k a0_0 l0_1 a1_0 l1_1).bind fun bt554 => ((integer_Mul.f k a1_0 l1_1 a0_0 l0_1).bind fun bt558 => ((filigreeref02_Same.f k bt554.1 bt554.2 bt558.1 bt558.2).bind fun t562 => (if t562 = true then ((integer_Add.f k a0_0 l0_1 a1_0 l1_1).bind fun bt563 => ((integer_Sub.f k bt563.1 bt563.2 a1_0 l1_1).bind fun bt567 => ((filigreeref02_Norm.f k a0_0 l0_1).bind fun bt571 => ((filigreeref02_Same.f k bt567.1 bt567.2 bt571.1 bt571.2).bind fun t575 => (if t575 = true then ((filigreelaw02_alive.f k).bind fun t576 => (some t576)) else (some false)))))) else (some false))))) else (some false))))) else (some false)))) else (some false)))))) = some r := H
  have A8 := zMk A80
  clear A80
  replace H := bnd H
  obtain ⟨⟨t526, t527⟩, A90, H⟩ := H
  replace H : ((integer_Mul.f k a0_0 l0_1 a1_0 l1_1).bind fun bt531 => ((integer_Mul.f k a0_0 l0_1 a2_0 l2_1).bind fun bt535 => ((integer_Add.f k bt531.1 bt531.2 bt535.1 bt535.2).bind fun bt539 => (if (t518.length : Int) = 0 then (if t517 = true then (some false) else ((filigreeref02_Same.f k t526 t527 bt539.1 bt539.2).bind fun t544 => (if t544 = true then ((integer_Add.f k a0_0 l0_1 a1_0 l1_1).bind fun bt545 => ((integer_Add.f k a1_0 l1_1 a0_0 l0_1).bind fun bt549 => ((filigreeref02_Same.f k bt545.1 bt545.2 bt549.1 bt549.2).bind fun t553 => (if t553 = true then ((integer_Mul.f k a0_0 l0_1 a1_0 l1_1).bind fun bt554 => ((integer_Mul.f k a1_0 l1_1 a0_0 l0_1).bind fun bt558 => ((filigreeref02_Same.f k bt554.1 bt554.2 bt558.1 bt558.2).bind fun t562 => (if t562 = true then ((integer_Add.f k a0_0 l0_1 a1_0 l1_1).bind fun bt563 => ((integer_Sub.f k bt563.1 bt563.2 a1_0 l1_1).bind fun bt567 => ((filigreeref02_Norm.f k a0_0 l0_1).bind fun bt571 => ((filigreeref02_Same.f k bt567.1 bt567.2 bt571.1 bt571.2).bind fun t575 => (if t575 = true then ((filigreelaw02_alive.f k).bind fun t576 => (some t576)) else (some false)))))) else (some false))))) else (some false))))) else (some false)))) else (some false))))) = some r := H
  have A9 := zMk A90
  clear A90
  replace H := bnd H
  obtain ⟨⟨t531, t532⟩, A100, H⟩ := H
  replace H : ((integer_Mul.f k a0_0 l0_1 a2_0 l2_1).bind fun bt535 => ((integer_Add.f k t531 t532 bt535.1 bt535.2).bind fun bt539 => (if (t518.length : Int) = 0 then (if t517 = true then (some false) else ((filigreeref02_Same.f k t526 t527 bt539.1 bt539.2).bind fun t544 => (if t544 = true then ((integer_Add.f k a0_0 l0_1 a1_0 l1_1).bind fun bt545 => ((integer_Add.f k a1_0 l1_1 a0_0 l0_1).bind fun bt549 => ((filigreeref02_Same.f k bt545.1 bt545.2 bt549.1 bt549.2).bind fun t553 => (if t553 = true then ((integer_Mul.f k a0_0 l0_1 a1_0 l1_1).bind fun bt554 => ((integer_Mul.f k a1_0 l1_1 a0_0 l0_1).bind fun bt558 => ((filigreeref02_Same.f k bt554.1 bt554.2 bt558.1 bt558.2).bind fun t562 => (if t562 = true then ((integer_Add.f k a0_0 l0_1 a1_0 l1_1).bind fun bt563 => ((integer_Sub.f k bt563.1 bt563.2 a1_0 l1_1).bind fun bt567 => ((filigreeref02_Norm.f k a0_0 l0_1).bind fun bt571 => ((filigreeref02_Same.f k bt567.1 bt567.2 bt571.1 bt571.2).bind fun t575 => (if t575 = true then ((filigreelaw02_alive.f k).bind fun t576 => (some t576)) else (some false)))))) else (some false))))) else (some false))))) else (some false)))) else (some false)))) = some r := H
  have A10 := zMk A100
  clear A100
  replace H := bnd H
  obtain ⟨⟨t535, t536⟩, A110, H⟩ := H
  replace H : ((integer_Add.f k t531 t532 t535 t536).bind fun bt539 => (if (t518.length : Int) = 0 then (if t517 = true then (some false) else ((filigreeref02_Same.f k t526 t527 bt539.1 bt539.2).bind fun t544 => (if t544 = true then ((integer_Add.f k a0_0 l0_1 a1_0 l1_1).bind fun bt545 => ((integer_Add.f k a1_0 l1_1 a0_0 l0_1).bind fun bt549 => ((filigreeref02_Same.f k bt545.1 bt545.2 bt549.1 bt549.2).bind fun t553 => (if t553 = true then ((integer_Mul.f k a0_0 l0_1 a1_0 l1_1).bind fun bt554 => ((integer_Mul.f k a1_0 l1_1 a0_0 l0_1).bind fun bt558 => ((filigreeref02_Same.f k bt554.1 bt554.2 bt558.1 bt558.2).bind fun t562 => (if t562 = true then ((integer_Add.f k a0_0 l0_1 a1_0 l1_1).bind fun bt563 => ((integer_Sub.f k bt563.1 bt563.2 a1_0 l1_1).bind fun bt567 => ((filigreeref02_Norm.f k a0_0 l0_1).bind fun bt571 => ((filigreeref02_Same.f k bt567.1 bt567.2 bt571.1 bt571.2).bind fun t575 => (if t575 = true then ((filigreelaw02_alive.f k).bind fun t576 => (some t576)) else (some false)))))) else (some false))))) else (some false))))) else (some false)))) else (some false))) = some r := H
  have A11 := zMk A110
  clear A110
  replace H := bnd H
  obtain ⟨⟨t539, t540⟩, A120, H⟩ := H
  replace H : (if (t518.length : Int) = 0 then (if t517 = true then (some false) else ((filigreeref02_Same.f k t526 t527 t539 t540).bind fun t544 => (if t544 = true then ((integer_Add.f k a0_0 l0_1 a1_0 l1_1).bind fun bt545 => ((integer_Add.f k a1_0 l1_1 a0_0 l0_1).bind fun bt549 => ((filigreeref02_Same.f k bt545.1 bt545.2 bt549.1 bt549.2).bind fun t553 => (if t553 = true then ((integer_Mul.f k a0_0 l0_1 a1_0 l1_1).bind fun bt554 => ((integer_Mul.f k a1_0 l1_1 a0_0 l0_1).bind fun bt558 => ((filigreeref02_Same.f k bt554.1 bt554.2 bt558.1 bt558.2).bind fun t562 => (if t562 = true then ((integer_Add.f k a0_0 l0_1 a1_0 l1_1).bind fun bt563 => ((integer_Sub.f k bt563.1 bt563.2 a1_0 l1_1).bind fun bt567 => ((filigreeref02_Norm.f k a0_0 l0_1).bind fun bt571 => ((filigreeref02_Same.f k bt567.1 bt567.2 bt571.1 bt571.2).bind fun t575 => (if t575 = true then ((filigreelaw02_alive.f k).bind fun t576 => (some t576)) else (some false)))))) else (some false))))) else (some false))))) else (some false)))) else (some false)) = some r := H
  have A12 := zMk A120
  clear A120
  by_cases c13 : (t518.length : Int) = 0
  ·rw [if_pos c13] at H
   have c13b0 : ((t518.length : Int) == 0) = true := beq_iff_eq.mpr c13
   have c13b1 : ((t518.length : Int) != 0) = false := bne_eq_false_iff_eq.mpr c13
   clear c13
   by_cases c14 : t517 = true
   ·subst c14
    replace H : (some false) = some r := by rw [if_pos rfl] at H; exact H
    exact absurd ((zOi H).trans HRT.out) (by decide)
   ·replace c14 := Bool.eq_false_iff.mpr c14
    subst c14
    replace H : ((filigreeref02_Same.f k t526 t527 t539 t540).bind fun t544 => (if t544 = true then ((integer_Add.f k a0_0 l0_1 a1_0 l1_1).bind fun bt545 => ((integer_Add.f k a1_0 l1_1 a0_0 l0_1).bind fun bt549 => ((filigreeref02_Same.f k bt545.1 bt545.2 bt549.1 bt549.2).bind fun t553 => (if t553 = true then ((integer_Mul.f k a0_0 l0_1 a1_0 l1_1).bind fun bt554 => ((integer_Mul.f k a1_0 l1_1 a0_0 l0_1).bind fun bt558 => ((filigreeref02_Same.f k bt554.1 bt554.2 bt558.1 bt558.2).bind fun t562 => (if t562 = true then ((integer_Add.f k a0_0 l0_1 a1_0 l1_1).bind fun bt563 => ((integer_Sub.f k bt563.1 bt563.2 a1_0 l1_1).bind fun bt567 => ((filigreeref02_Norm.f k a0_0 l0_1).bind fun bt571 => ((filigreeref02_Same.f k bt567.1 bt567.2 bt571.1 bt571.2).bind fun t575 => (if t575 = true then ((filigreelaw02_alive.f k).bind fun t576 => (some t576)) else (some false)))))) else (some false))))) else (some false))))) else (some false))) = some r := by rw [if_neg (show ¬ (false = true) by decide)] at H; exact H
    replace H := bnd H
    obtain ⟨t544, A600, H⟩ := H
    have A60 := zMk A600
    clear A600
    by_cases c61 : t544 = true
    ·subst c61
     replace H : ((integer_Add.f k a0_0 l0_1 a1_0 l1_1).bind fun bt545 => ((integer_Add.f k a1_0 l1_1 a0_0 l0_1).bind fun bt549 => ((filigreeref02_Same.f k bt545.1 bt545.2 bt549.1 bt549.2).bind fun t553 => (if t553 = true then ((integer_Mul.f k a0_0 l0_1 a1_0 l1_1).bind fun bt554 => ((integer_Mul.f k a1_0 l1_1 a0_0 l0_1).bind fun bt558 => ((filigreeref02_Same.f k bt554.1 bt554.2 bt558.1 bt558.2).bind fun t562 => (if t562 = true then ((integer_Add.f k a0_0 l0_1 a1_0 l1_1).bind fun bt563 => ((integer_Sub.f k bt563.1 bt563.2 a1_0 l1_1).bind fun bt567 => ((filigreeref02_Norm.f k a0_0 l0_1).bind fun bt571 => ((filigreeref02_Same.f k bt567.1 bt567.2 bt571.1 bt571.2).bind fun t575 => (if t575 = true then ((filigreelaw02_alive.f k).bind fun t576 => (some t576)) else (some false)))))) else (some false))))) else (some false))))) = some r := by rw [if_pos rfl] at H; exact H
     replace H := bnd H
     obtain ⟨⟨t545, t546⟩, A620, H⟩ := H
     replace H : ((integer_Add.f k a1_0 l1_1 a0_0 l0_1).bind fun bt549 => ((filigreeref02_Same.f k t545 t546 bt549.1 bt549.2).bind fun t553 => (if t553 = true then ((integer_Mul.f k a0_0 l0_1 a1_0 l1_1).bind fun bt554 => ((integer_Mul.f k a1_0 l1_1 a0_0 l0_1).bind fun bt558 => ((filigreeref02_Same.f k bt554.1 bt554.2 bt558.1 bt558.2).bind fun t562 => (if t562 = true then ((integer_Add.f k a0_0 l0_1 a1_0 l1_1).bind fun bt563 => ((integer_Sub.f k bt563.1 bt563.2 a1_0 l1_1).bind fun bt567 => ((filigreeref02_Norm.f k a0_0 l0_1).bind fun bt571 => ((filigreeref02_Same.f k bt567.1 bt567.2 bt571.1 bt571.2).bind fun t575 => (if t575 = true then ((filigreelaw02_alive.f k).bind fun t576 => (some t576)) else (some false)))))) else (some false))))) else (some false)))) = some r := H
     have A62 := zMk A620
     clear A620
     replace H := bnd H
     obtain ⟨⟨t549, t550⟩, A630, H⟩ := H
     replace H : ((filigreeref02_Same.f k t545 t546 t549 t550).bind fun t553 => (if t553 = true then ((integer_Mul.f k a0_0 l0_1 a1_0 l1_1).bind fun bt554 => ((integer_Mul.f k a1_0 l1_1 a0_0 l0_1).bind fun bt558 => ((filigreeref02_Same.f k bt554.1 bt554.2 bt558.1 bt558.2).bind fun t562 => (if t562 = true then ((integer_Add.f k a0_0 l0_1 a1_0 l1_1).bind fun bt563 => ((integer_Sub.f k bt563.1 bt563.2 a1_0 l1_1).bind fun bt567 => ((filigreeref02_Norm.f k a0_0 l0_1).bind fun bt571 => ((filigreeref02_Same.f k bt567.1 bt567.2 bt571.1 bt571.2).bind fun t575 => (if t575 = true then ((filigreelaw02_alive.f k).bind fun t576 => (some t576)) else (some false)))))) else (some false))))) else (some false))) = some r := H
     have A63 := zMk A630
     clear A630
     replace H := bnd H
     obtain ⟨t553, A640, H⟩ := H
     have A64 := zMk A640
     clear A640
     by_cases c65 : t553 = true
     ·subst c65
      replace H : ((integer_Mul.f k a0_0 l0_1 a1_0 l1_1).bind fun bt554 => ((integer_Mul.f k a1_0 l1_1 a0_0 l0_1).bind fun bt558 => ((filigreeref02_Same.f k bt554.1 bt554.2 bt558.1 bt558.2).bind fun t562 => (if t562 = true then ((integer_Add.f k a0_0 l0_1 a1_0 l1_1).bind fun bt563 => ((integer_Sub.f k bt563.1 bt563.2 a1_0 l1_1).bind fun bt567 => ((filigreeref02_Norm.f k a0_0 l0_1).bind fun bt571 => ((filigreeref02_Same.f k bt567.1 bt567.2 bt571.1 bt571.2).bind fun t575 => (if t575 = true then ((filigreelaw02_alive.f k).bind fun t576 => (some t576)) else (some false)))))) else (some false))))) = some r := by rw [if_pos rfl] at H; exact H
      replace H := bnd H
      obtain ⟨⟨t554, t555⟩, A660, H⟩ := H
      replace H : ((integer_Mul.f k a1_0 l1_1 a0_0 l0_1).bind fun bt558 => ((filigreeref02_Same.f k t554 t555 bt558.1 bt558.2).bind fun t562 => (if t562 = true then ((integer_Add.f k a0_0 l0_1 a1_0 l1_1).bind fun bt563 => ((integer_Sub.f k bt563.1 bt563.2 a1_0 l1_1).bind fun bt567 => ((filigreeref02_Norm.f k a0_0 l0_1).bind fun bt571 => ((filigreeref02_Same.f k bt567.1 bt567.2 bt571.1 bt571.2).bind fun t575 => (if t575 = true then ((filigreelaw02_alive.f k).bind fun t576 => (some t576)) else (some false)))))) else (some false)))) = some r := H
      have A66 := zMk A660
      clear A660
      replace H := bnd H
      obtain ⟨⟨t558, t559⟩, A670, H⟩ := H
      replace H : ((filigreeref02_Same.f k t554 t555 t558 t559).bind fun t562 => (if t562 = true then ((integer_Add.f k a0_0 l0_1 a1_0 l1_1).bind fun bt563 => ((integer_Sub.f k bt563.1 bt563.2 a1_0 l1_1).bind fun bt567 => ((filigreeref02_Norm.f k a0_0 l0_1).bind fun bt571 => ((filigreeref02_Same.f k bt567.1 bt567.2 bt571.1 bt571.2).bind fun t575 => (if t575 = true then ((filigreelaw02_alive.f k).bind fun t576 => (some t576)) else (some false)))))) else (some false))) = some r := H
      have A67 := zMk A670
      clear A670
      replace H := bnd H
      obtain ⟨t562, A680, H⟩ := H
      have A68 := zMk A680
      clear A680
      by_cases c69 : t562 = true
      ·subst c69
       replace H : ((integer_Add.f k a0_0 l0_1 a1_0 l1_1).bind fun bt563 => ((integer_Sub.f k bt563.1 bt563.2 a1_0 l1_1).bind fun bt567 => ((filigreeref02_Norm.f k a0_0 l0_1).bind fun bt571 => ((filigreeref02_Same.f k bt567.1 bt567.2 bt571.1 bt571.2).bind fun t575 => (if t575 = true then ((filigreelaw02_alive.f k).bind fun t576 => (some t576)) else (some false)))))) = some r := by rw [if_pos rfl] at H; exact H
       replace H := bnd H
       obtain ⟨⟨t563, t564⟩, A700, H⟩ := H
       replace H : ((integer_Sub.f k t563 t564 a1_0 l1_1).bind fun bt567 => ((filigreeref02_Norm.f k a0_0 l0_1).bind fun bt571 => ((filigreeref02_Same.f k bt567.1 bt567.2 bt571.1 bt571.2).bind fun t575 => (if t575 = true then ((filigreelaw02_alive.f k).bind fun t576 => (some t576)) else (some false))))) = some r := H
       have A70 := zMk A700
       clear A700
       replace H := bnd H
       obtain ⟨⟨t567, t568⟩, A710, H⟩ := H
       replace H : ((filigreeref02_Norm.f k a0_0 l0_1).bind fun bt571 => ((filigreeref02_Same.f k t567 t568 bt571.1 bt571.2).bind fun t575 => (if t575 = true then ((filigreelaw02_alive.f k).bind fun t576 => (some t576)) else (some false)))) = some r := H
       have A71 := zMk A710
       clear A710
       replace H := bnd H
       obtain ⟨⟨t571, t572⟩, A720, H⟩ := H
       replace H : ((filigreeref02_Same.f k t567 t568 t571 t572).bind fun t575 => (if t575 = true then ((filigreelaw02_alive.f k).bind fun t576 => (some t576)) else (some false))) = some r := H
       have A72 := zMk A720
       clear A720
       replace H := bnd H
       obtain ⟨t575, A730, H⟩ := H
       have A73 := zMk A730
       clear A730
       by_cases c74 : t575 = true
       ·subst c74
        replace H : ((filigreelaw02_alive.f k).bind fun t576 => (some t576)) = some r := by rw [if_pos rfl] at H; exact H
        replace H := bnd H
        obtain ⟨t576, A750, H⟩ := H
        have A75 := zMk A750
        clear A750
        obtain rfl := zOi H
        go_enter Tryd.func5, Tryd.ntmps5
        try go_wp2_with (first | ((with_reducible refine gate_dst (N := 3) rfl ?_); refine box_event ?hg (N := 3) ?hd (cs := #[.bool a0_0, .slice A0_1 l0_1.length c0_1]) (t := 24) ?hr ?_; (case hd => rfl); (case hg => rfl); (case hr => first | (go_simp; done)|(go_simp; rfl)|(go_simp; rw [show ∀ x : Int, IntKind.u32.wrap (IntKind.u8.wrap x) = x % 256 from fun x => (by show (x % 256) % 4294967296 = x % 256; omega)])); intro g05 hg w76 hbox hb; replace HO0_1 := zMk (zVb (Kd.V_elderB (by exact uV HO0_1.out) g05 (Nat.le_of_eq hg.symm)) hb); replace HO1_1 := zMk (zVb (Kd.V_elderB (by exact uV HO1_1.out) g05 (Nat.le_of_eq hg.symm)) hb); replace HO2_1 := zMk (zVb (Kd.V_elderB (by exact uV HO2_1.out) g05 (Nat.le_of_eq hg.symm)) hb); have K05 := zMk (hbox); have W05 := zMk ((by rw [hg]; exact (zBs (by exact uT HB.out)) : w.heap.size ≤ g05)); have E05 := zMk ((by rw [hg]; exact (zBs (by exact uT HB.out)) : w.heap.size ≤ g05)); have IGE505 := ownGe E05.out; replace HB := zMk (zBt (by exact uT HB.out) hb); clear hb hbox hg)|((with_reducible refine gate_dst (N := 4) rfl ?_); refine box_event ?hg (N := 4) ?hd (cs := #[.bool a1_0, .slice A1_1 l1_1.length c1_1]) (t := 24) ?hr ?_; (case hd => rfl); (case hg => rfl); (case hr => first | (go_simp; done)|(go_simp; rfl)|(go_simp; rw [show ∀ x : Int, IntKind.u32.wrap (IntKind.u8.wrap x) = x % 256 from fun x => (by show (x % 256) % 4294967296 = x % 256; omega)])); intro g06 hg w77 hbox hb; replace HO0_1 := zMk (zVb (Kd.V_elderB (by exact uV HO0_1.out) g06 (Nat.le_of_eq hg.symm)) hb); replace HO1_1 := zMk (zVb (Kd.V_elderB (by exact uV HO1_1.out) g06 (Nat.le_of_eq hg.symm)) hb); replace HO2_1 := zMk (zVb (Kd.V_elderB (by exact uV HO2_1.out) g06 (Nat.le_of_eq hg.symm)) hb); have K06 := zMk (hbox); have W06 := zMk ((by rw [hg]; exact (zBs (by exact uT HB.out)) : w.heap.size ≤ g06)); have E06 := zMk ((by rw [hg]; exact (zBs (by exact uT HB.out)) : w.heap.size ≤ g06)); have IGE506 := ownGe E06.out; replace HB := zMk (zBt (by exact uT HB.out) hb); have N05_06 := zMk ((by rw [hg]; exact Nat.ne_of_lt (blk_lt (g := g05) (o := .cells #[.bool a0_0, .slice A0_1 l0_1.length c0_1] 24 (0, 0)) (by (with_reducible repeat (first |  refine zKn ?_ _|  refine zKd ?_|  refine zKa ?_ _)); exact K05.out)) : g05 ≠ g06)); have N06_05 := zMk ((by rw [hg]; exact Nat.ne_of_gt (blk_lt (g := g05) (o := .cells #[.bool a0_0, .slice A0_1 l0_1.length c0_1] 24 (0, 0)) (by (with_reducible repeat (first |  refine zKn ?_ _|  refine zKd ?_|  refine zKa ?_ _)); exact K05.out)) : g06 ≠ g05)); replace K05 := zMk (zKb (g := g05) (o := .cells #[.bool a0_0, .slice A0_1 l0_1.length c0_1] 24 (0, 0)) (by (with_reducible repeat (first |  refine zKn ?_ _|  refine zKd ?_|  refine zKa ?_ _)); exact K05.out) hb); clear hb hbox hg)|((with_reducible refine gate_dst (N := 5) rfl ?_); refine box_event ?hg (N := 5) ?hd (cs := #[.bool a2_0, .slice A2_1 l2_1.length c2_1]) (t := 24) ?hr ?_; (case hd => rfl); (case hg => rfl); (case hr => first | (go_simp; done)|(go_simp; rfl)|(go_simp; rw [show ∀ x : Int, IntKind.u32.wrap (IntKind.u8.wrap x) = x % 256 from fun x => (by show (x % 256) % 4294967296 = x % 256; omega)])); intro g07 hg w78 hbox hb; replace HO0_1 := zMk (zVb (Kd.V_elderB (by exact uV HO0_1.out) g07 (Nat.le_of_eq hg.symm)) hb); replace HO1_1 := zMk (zVb (Kd.V_elderB (by exact uV HO1_1.out) g07 (Nat.le_of_eq hg.symm)) hb); replace HO2_1 := zMk (zVb (Kd.V_elderB (by exact uV HO2_1.out) g07 (Nat.le_of_eq hg.symm)) hb); have K07 := zMk (hbox); have W07 := zMk ((by rw [hg]; exact (zBs (by exact uT HB.out)) : w.heap.size ≤ g07)); have E07 := zMk ((by rw [hg]; exact (zBs (by exact uT HB.out)) : w.heap.size ≤ g07)); have IGE507 := ownGe E07.out; replace HB := zMk (zBt (by exact uT HB.out) hb); have N05_07 := zMk ((by rw [hg]; exact Nat.ne_of_lt (blk_lt (g := g05) (o := .cells #[.bool a0_0, .slice A0_1 l0_1.length c0_1] 24 (0, 0)) (by (with_reducible repeat (first |  refine zKn ?_ _|  refine zKd ?_|  refine zKa ?_ _)); exact K05.out)) : g05 ≠ g07)); have N07_05 := zMk ((by rw [hg]; exact Nat.ne_of_gt (blk_lt (g := g05) (o := .cells #[.bool a0_0, .slice A0_1 l0_1.length c0_1] 24 (0, 0)) (by (with_reducible repeat (first |  refine zKn ?_ _|  refine zKd ?_|  refine zKa ?_ _)); exact K05.out)) : g07 ≠ g05)); replace K05 := zMk (zKb (g := g05) (o := .cells #[.bool a0_0, .slice A0_1 l0_1.length c0_1] 24 (0, 0)) (by (with_reducible repeat (first |  refine zKn ?_ _|  refine zKd ?_|  refine zKa ?_ _)); exact K05.out) hb); have N06_07 := zMk ((by rw [hg]; exact Nat.ne_of_lt (blk_lt (g := g06) (o := .cells #[.bool a1_0, .slice A1_1 l1_1.length c1_1] 24 (0, 0)) (by (with_reducible repeat (first |  refine zKn ?_ _|  refine zKd ?_|  refine zKa ?_ _)); exact K06.out)) : g06 ≠ g07)); have N07_06 := zMk ((by rw [hg]; exact Nat.ne_of_gt (blk_lt (g := g06) (o := .cells #[.bool a1_0, .slice A1_1 l1_1.length c1_1] 24 (0, 0)) (by (with_reducible repeat (first |  refine zKn ?_ _|  refine zKd ?_|  refine zKa ?_ _)); exact K06.out)) : g07 ≠ g06)); replace K06 := zMk (zKb (g := g06) (o := .cells #[.bool a1_0, .slice A1_1 l1_1.length c1_1] 24 (0, 0)) (by (with_reducible repeat (first |  refine zKn ?_ _|  refine zKd ?_|  refine zKa ?_ _)); exact K06.out) hb); clear hb hbox hg; have hnb79 := N05_06.out; have hnc79 := N06_05.out; have hnb80 := N05_07.out; have hnc80 := N07_05.out; have hcz81_0 : w78.cell? ⟨g05, 0, none⟩ = some (.bool a0_0) := (zKc K05.out 0).trans rfl; have hcz81_1 : w78.cell? ⟨g05, 1, none⟩ = some (.slice A0_1 l0_1.length c0_1) := (zKc K05.out 1).trans rfl; have hfz81_0 := zKf K05.out 0; have hfz81_1 := zKf K05.out 1; have hnb82 := N06_07.out; have hnc82 := N07_06.out; have hcz83_0 : w78.cell? ⟨g06, 0, none⟩ = some (.bool a1_0) := (zKc K06.out 0).trans rfl; have hcz83_1 : w78.cell? ⟨g06, 1, none⟩ = some (.slice A1_1 l1_1.length c1_1) := (zKc K06.out 1).trans rfl; have hfz83_0 := zKf K06.out 0; have hfz83_1 := zKf K06.out 1; have hcz84_0 : w78.cell? ⟨g07, 0, none⟩ = some (.bool a2_0) := (zKc K07.out 0).trans rfl; have hcz84_1 : w78.cell? ⟨g07, 1, none⟩ = some (.slice A2_1 l2_1.length c2_1) := (zKc K07.out 1).trans rfl; have hfz84_0 := zKf K07.out 0; have hfz84_1 := zKf K07.out 1)|((with_reducible refine gate_dst (N := 16) rfl ?_); refine Kd.N_lit (Kd.slice 58 (Kd.int .u32)) _ 22 ?hg (N' := 16) ?hd (xs := ([l0_1, l1_1, l2_1] : List (List Int))) (inner := [.slice A0_1 l0_1.length c0_1, .slice A1_1 l1_1.length c1_1, .slice A2_1 l2_1.length c2_1]) (ok := (fun k_ => ((P0_1_ k_ ∨ P1_1_ k_ ∨ P2_1_ k_) ∨ w.heap.size ≤ k_) ∧ k_ ≠ g05 ∧ k_ ≠ g06 ∧ k_ ≠ g07)) (okp := (fun k_ => ((P0_1_ k_ ∨ P1_1_ k_ ∨ P2_1_ k_) ∨ w.heap.size ≤ k_) ∧ k_ ≠ g05 ∧ k_ ≠ g06 ∧ k_ ≠ g07)) ?hr ?hp (fun _ hk => hk) ((show ∀ k_, w78.heap.size ≤ k_ → (fun k_ => ((P0_1_ k_ ∨ P1_1_ k_ ∨ P2_1_ k_) ∨ w.heap.size ≤ k_) ∧ k_ ≠ g05 ∧ k_ ≠ g06 ∧ k_ ≠ g07) k_ from fun k_ hk => ⟨(.inr (Nat.le_trans (zBs (by exact uT HB.out)) hk)), Kd.freshB (g := g05) (o := .cells #[.bool a0_0, .slice A0_1 l0_1.length c0_1] 24 (0, 0)) (by (with_reducible repeat (first |  refine zKn ?_ _|  refine zKd ?_|  refine zKa ?_ _)); exact K05.out) k_ hk, Kd.freshB (g := g06) (o := .cells #[.bool a1_0, .slice A1_1 l1_1.length c1_1] 24 (0, 0)) (by (with_reducible repeat (first |  refine zKn ?_ _|  refine zKd ?_|  refine zKa ?_ _)); exact K06.out) k_ hk, Kd.freshB (g := g07) (o := .cells #[.bool a2_0, .slice A2_1 l2_1.length c2_1] 24 (0, 0)) (by (with_reducible repeat (first |  refine zKn ?_ _|  refine zKd ?_|  refine zKa ?_ _)); exact K07.out) k_ hk⟩) _ (Nat.le_refl _)) (Below.refl _ _) (Nat.le_refl _) (by simp) ?_; (case hd => rfl); (case hg => rfl); (case hr => first | (go_simp; done)|(go_simp; rfl)|(go_simp; rw [show ∀ x : Int, IntKind.u32.wrap (IntKind.u8.wrap x) = x % 256 from fun x => (by show (x % 256) % 4294967296 = x % 256; omega)])); (case hp => exact (Reps.one (show Kd.FK (Kd.slice 58 (Kd.int .u32)) _ _ l0_1 [.slice A0_1 l0_1.length c0_1] from (Kd.FK_slice_mk (zVr (zVm (ok' := (fun k_ => ((P0_1_ k_ ∨ P1_1_ k_ ∨ P2_1_ k_) ∨ w.heap.size ≤ k_) ∧ k_ ≠ g05 ∧ k_ ≠ g06 ∧ k_ ≠ g07)) (HO0_1.out) (fun k_ hk => ⟨hk.1.1.1, ⟨hk.1.1.2, ⟨hk.1.2, hk.2⟩⟩⟩))).2.1 (Kd.V_F (zVm (ok' := (fun k_ => ((P0_1_ k_ ∨ P1_1_ k_ ∨ P2_1_ k_) ∨ w.heap.size ≤ k_) ∧ k_ ≠ g05 ∧ k_ ≠ g06 ∧ k_ ≠ g07)) (HO0_1.out) (fun k_ hk => ⟨hk.1.1.1, ⟨hk.1.1.2, ⟨hk.1.2, hk.2⟩⟩⟩))))) (Reps.one (show Kd.FK (Kd.slice 58 (Kd.int .u32)) _ _ l1_1 [.slice A1_1 l1_1.length c1_1] from (Kd.FK_slice_mk (zVr (zVm (ok' := (fun k_ => ((P0_1_ k_ ∨ P1_1_ k_ ∨ P2_1_ k_) ∨ w.heap.size ≤ k_) ∧ k_ ≠ g05 ∧ k_ ≠ g06 ∧ k_ ≠ g07)) (HO1_1.out) (fun k_ hk => ⟨hk.1.1.1, ⟨hk.1.1.2, ⟨hk.1.2, hk.2⟩⟩⟩))).2.1 (Kd.V_F (zVm (ok' := (fun k_ => ((P0_1_ k_ ∨ P1_1_ k_ ∨ P2_1_ k_) ∨ w.heap.size ≤ k_) ∧ k_ ≠ g05 ∧ k_ ≠ g06 ∧ k_ ≠ g07)) (HO1_1.out) (fun k_ hk => ⟨hk.1.1.1, ⟨hk.1.1.2, ⟨hk.1.2, hk.2⟩⟩⟩))))) (Reps.one (show Kd.FK (Kd.slice 58 (Kd.int .u32)) _ _ l2_1 [.slice A2_1 l2_1.length c2_1] from (Kd.FK_slice_mk (zVr (zVm (ok' := (fun k_ => ((P0_1_ k_ ∨ P1_1_ k_ ∨ P2_1_ k_) ∨ w.heap.size ≤ k_) ∧ k_ ≠ g05 ∧ k_ ≠ g06 ∧ k_ ≠ g07)) (HO2_1.out) (fun k_ hk => ⟨hk.1.1.1, ⟨hk.1.1.2, ⟨hk.1.2, hk.2⟩⟩⟩))).2.1 (Kd.V_F (zVm (ok' := (fun k_ => ((P0_1_ k_ ∨ P1_1_ k_ ∨ P2_1_ k_) ∨ w.heap.size ≤ k_) ∧ k_ ≠ g05 ∧ k_ ≠ g06 ∧ k_ ≠ g07)) (HO2_1.out) (fun k_ hk => ⟨hk.1.1.1, ⟨hk.1.1.2, ⟨hk.1.2, hk.2⟩⟩⟩))))) (Reps.none _ _))))); intro v509 w85 ho86 hb hg_ hnew_; clear hg_ hnew_; (first |  rw [← Ny508.out] at ho86|  (simp only [Int.reduceToNat] at ho86; rw [← Ny508.out] at ho86)); replace HO0_1 := zMk (zVe (by exact uV HO0_1.out) (Kd.N_base ho86) hb); replace HO1_1 := zMk (zVe (by exact uV HO1_1.out) (Kd.N_base ho86) hb); replace HO2_1 := zMk (zVe (by exact uV HO2_1.out) (Kd.N_base ho86) hb); have O10 := zMk (Kd.N_lower ho86 (zBs (by exact uT HB.out))); replace K05 := zMk (zKb (g := g05) (o := .cells #[.bool a0_0, .slice A0_1 l0_1.length c0_1] 24 (0, 0)) (by (with_reducible repeat (first |  refine zKn ?_ _|  refine zKd ?_|  refine zKa ?_ _)); exact K05.out) hb); replace K06 := zMk (zKb (g := g06) (o := .cells #[.bool a1_0, .slice A1_1 l1_1.length c1_1] 24 (0, 0)) (by (with_reducible repeat (first |  refine zKn ?_ _|  refine zKd ?_|  refine zKa ?_ _)); exact K06.out) hb); replace K07 := zMk (zKb (g := g07) (o := .cells #[.bool a2_0, .slice A2_1 l2_1.length c2_1] 24 (0, 0)) (by (with_reducible repeat (first |  refine zKn ?_ _|  refine zKd ?_|  refine zKa ?_ _)); exact K07.out) hb); replace HB := zMk (zBt (by exact uT HB.out) hb); clear hb ho86; obtain ⟨Ao87, co87, eo87⟩ := Kd.N_slice O10.out; subst eo87)|((with_reducible refine gate_callee (f := 10) rfl ?_); refine goesL_ (some 17) rfl rfl Tryd.func10 (by kernel_rfl) rfl #[.slice Ao87 y508.length co87] rfl (by (try simp only [zMa, zMc, zMn]); first |  done|  rfl|  (simp only [zLd, zLt]; rfl)) ?_; (with_reducible refine (w1_Light.calls k _ _ y508 true _ ?side1 ?side2 A4.out).mono ?_); (case side1 => repeat (first |  exact (Kd.N_reads' O10.out).2.2|  (with_reducible refine zCa ?_ _)|(with_reducible refine zCn ?_ _)|(with_reducible refine zCd ?_))); (case side2 => exact (Kd.N_reads' O10.out).2.1); rintro e w' ⟨rfl, ⟨nd, rfl⟩⟩; refine ⟨_, rfl, ?_⟩; (try (rw [drewN_self w85]; generalize hq_ : World.drewN w85 _ = w85; have n0_ : Aside0 (Kd.V (Kd.int .u32) 58 w85 w.heap.size (fun k_ => ((P0_1_ k_ ∨ P1_1_ k_ ∨ P2_1_ k_) ∨ w.heap.size ≤ k_) ∧ some k_ ≠ (.slice Ao87 y508.length co87 : Value).ownBlock ∧ k_ ≠ g05 ∧ k_ ≠ g06 ∧ k_ ≠ g07) (.slice A0_1 l0_1.length c0_1) l0_1) := ⟨by rw [← hq_]; exact (by (with_reducible repeat (first |  apply zVa|  apply zVn|  apply zVd)); exact zVm HO0_1.out (fun _ hk => ⟨hk.1.1.1.1, ⟨hk.2, ⟨hk.1.1.1.2, ⟨hk.1.1.2, hk.1.2⟩⟩⟩⟩))⟩; have n1_ : Aside0 (Kd.V (Kd.int .u32) 58 w85 w.heap.size (fun k_ => ((P0_1_ k_ ∨ P1_1_ k_ ∨ P2_1_ k_) ∨ w.heap.size ≤ k_) ∧ some k_ ≠ (.slice Ao87 y508.length co87 : Value).ownBlock ∧ k_ ≠ g05 ∧ k_ ≠ g06 ∧ k_ ≠ g07) (.slice A1_1 l1_1.length c1_1) l1_1) := ⟨by rw [← hq_]; exact (by (with_reducible repeat (first |  apply zVa|  apply zVn|  apply zVd)); exact zVm HO1_1.out (fun _ hk => ⟨hk.1.1.1.1, ⟨hk.2, ⟨hk.1.1.1.2, ⟨hk.1.1.2, hk.1.2⟩⟩⟩⟩))⟩; have n2_ : Aside0 (Kd.V (Kd.int .u32) 58 w85 w.heap.size (fun k_ => ((P0_1_ k_ ∨ P1_1_ k_ ∨ P2_1_ k_) ∨ w.heap.size ≤ k_) ∧ some k_ ≠ (.slice Ao87 y508.length co87 : Value).ownBlock ∧ k_ ≠ g05 ∧ k_ ≠ g06 ∧ k_ ≠ g07) (.slice A2_1 l2_1.length c2_1) l2_1) := ⟨by rw [← hq_]; exact (by (with_reducible repeat (first |  apply zVa|  apply zVn|  apply zVd)); exact zVm HO2_1.out (fun _ hk => ⟨hk.1.1.1.1, ⟨hk.2, ⟨hk.1.1.1.2, ⟨hk.1.1.2, hk.1.2⟩⟩⟩⟩))⟩; have n3_ : Aside0 (Kd.N (Kd.slice 58 (Kd.int .u32)) 22 w85 w.heap.size (fun k_ => ((P0_1_ k_ ∨ P1_1_ k_ ∨ P2_1_ k_) ∨ w.heap.size ≤ k_) ∧ k_ ≠ g05 ∧ k_ ≠ g06 ∧ k_ ≠ g07) (.slice Ao87 y508.length co87) y508) := ⟨by rw [← hq_]; exact (by exact uN O10.out)⟩; have n4_ : Aside0 (w85.heap[g05]? = some (.cells #[.bool a0_0, .slice A0_1 l0_1.length c0_1] 24 (0, 0))) := ⟨by rw [← hq_]; exact (by (with_reducible repeat (first |  refine zKn ?_ _|  refine zKd ?_|  refine zKa ?_ _)); exact K05.out)⟩; have n5_ : Aside0 (w85.heap[g06]? = some (.cells #[.bool a1_0, .slice A1_1 l1_1.length c1_1] 24 (0, 0))) := ⟨by rw [← hq_]; exact (by (with_reducible repeat (first |  refine zKn ?_ _|  refine zKd ?_|  refine zKa ?_ _)); exact K06.out)⟩; have n6_ : Aside0 (w85.heap[g07]? = some (.cells #[.bool a2_0, .slice A2_1 l2_1.length c2_1] 24 (0, 0))) := ⟨by rw [← hq_]; exact (by (with_reducible repeat (first |  refine zKn ?_ _|  refine zKd ?_|  refine zKa ?_ _)); exact K07.out)⟩; have n7_ : Aside0 (Below w.heap.size w w85) := ⟨by rw [← hq_]; exact (by exact uT HB.out)⟩; clear HO0_1 HO1_1 HO2_1 O10 K05 K06 K07 HB hq_; have HO0_1 := n0_; have HO1_1 := n1_; have HO2_1 := n2_; have O10 := n3_; have K05 := n4_; have K06 := n5_; have K07 := n6_; have HB := n7_; clear n0_ n1_ n2_ n3_ n4_ n5_ n6_ n7_))))
        replace HO0_1 := zMk (zVd HO0_1.out)
        replace HO1_1 := zMk (zVd HO1_1.out)
        replace HO2_1 := zMk (zVd HO2_1.out)
        replace O10 := zMk (Kd.N_drew O10.out)
        replace K05 := zMk (zKd K05.out)
        replace K06 := zMk (zKd K06.out)
        replace K07 := zMk (zKd K07.out)
        replace HB := zMk (zBd HB.out)
        refine start_ (n := 6) (S := fun w' => w'.cell? ⟨g05, 0, none⟩ = some (.bool a0_0) ∧ w'.cell? ⟨g05, 1, none⟩ = some (.slice A0_1 l0_1.length c0_1)) (ds := []) #[false, false, false, false, false, false] (by kernel_rfl) rfl rfl ⟨(zKc K05.out 0).trans rfl, (zKc K05.out 1).trans rfl⟩ (fun hHeld => ?_)
        generalize w85.drew = w88 at HO0_1 HO1_1 HO2_1 O10 K05 K06 K07 HB hHeld ⊢
        refine take_ (i := 0) (N := some 20) (v := ?_) (a' := ?_) #[true, false, false, false, false, false] rfl rfl (by kernel_rfl) (fun _ _ _ h => h) (Or.inl ⟨by rfl, ?_⟩) hHeld ?_ ?_
        rotate_left
        ·rintro w' ⟨s0, s1⟩
         go_simp
         with_reducible rfl
        rotate_left
        ·simp only [Act.put, zSa, zSb, zSc, i64_w, i32_w]
         rfl
        refine take_ (i := 1) (N := some 21) (v := ?_) (a' := ?_) #[true, true, false, false, false, false] rfl rfl (by kernel_rfl) (fun _ _ _ h => h) (Or.inl ⟨by rfl, ?_⟩) hHeld ?_ ?_
        rotate_left
        ·rintro w' ⟨s0, s1⟩
         go_simp
         with_reducible rfl
        rotate_left
        ·simp only [Act.put, zSa, zSb, zSc, i64_w, i32_w]
         rfl
        refine join_ (σ := Value × Value × Nat) 1 #[true, true, true, true, true, false] (fun s_ => [(22, .agg #[.bool t513, s_.1]), (23, .agg #[.bool false, s_.2.1]), (7, .pointer (some ⟨s_.2.2, 0, none⟩))]) (fun s_ w' => (w'.cell? ⟨g05, 0, none⟩ = some (.bool a0_0) ∧ w'.cell? ⟨g05, 1, none⟩ = some (.slice A0_1 l0_1.length c0_1)) ∧ (Kd.V (Kd.int .u32) 58 w' w.heap.size (fun k_ => ((P0_1_ k_ ∨ P1_1_ k_ ∨ P2_1_ k_) ∨ w.heap.size ≤ k_) ∧ some k_ ≠ (.slice Ao87 y508.length co87 : Value).ownBlock ∧ some k_ ≠ (s_.1 : Value).ownBlock ∧ some k_ ≠ (s_.2.1 : Value).ownBlock ∧ k_ ≠ g05 ∧ k_ ≠ g06 ∧ k_ ≠ g07 ∧ k_ ≠ s_.2.2) (.slice A0_1 l0_1.length c0_1) l0_1) ∧ (Kd.V (Kd.int .u32) 58 w' w.heap.size (fun k_ => ((P0_1_ k_ ∨ P1_1_ k_ ∨ P2_1_ k_) ∨ w.heap.size ≤ k_) ∧ some k_ ≠ (.slice Ao87 y508.length co87 : Value).ownBlock ∧ some k_ ≠ (s_.1 : Value).ownBlock ∧ some k_ ≠ (s_.2.1 : Value).ownBlock ∧ k_ ≠ g05 ∧ k_ ≠ g06 ∧ k_ ≠ g07 ∧ k_ ≠ s_.2.2) (.slice A1_1 l1_1.length c1_1) l1_1) ∧ (Kd.V (Kd.int .u32) 58 w' w.heap.size (fun k_ => ((P0_1_ k_ ∨ P1_1_ k_ ∨ P2_1_ k_) ∨ w.heap.size ≤ k_) ∧ some k_ ≠ (.slice Ao87 y508.length co87 : Value).ownBlock ∧ some k_ ≠ (s_.1 : Value).ownBlock ∧ some k_ ≠ (s_.2.1 : Value).ownBlock ∧ k_ ≠ g05 ∧ k_ ≠ g06 ∧ k_ ≠ g07 ∧ k_ ≠ s_.2.2) (.slice A2_1 l2_1.length c2_1) l2_1) ∧ (Kd.N (Kd.slice 58 (Kd.int .u32)) 22 w' w.heap.size (fun k_ => ((P0_1_ k_ ∨ P1_1_ k_ ∨ P2_1_ k_) ∨ w.heap.size ≤ k_) ∧ some k_ ≠ (s_.1 : Value).ownBlock ∧ some k_ ≠ (s_.2.1 : Value).ownBlock ∧ k_ ≠ g05 ∧ k_ ≠ g06 ∧ k_ ≠ g07 ∧ k_ ≠ s_.2.2) (.slice Ao87 y508.length co87) y508) ∧ (Kd.R (Kd.int .u32) 58 w' w.heap.size (fun k_ => (w.heap.size ≤ k_) ∧ some k_ ≠ (s_.2.1 : Value).ownBlock) s_.1 t514) ∧ (Kd.R (Kd.int .u32) 58 w' w.heap.size (fun k_ => (w.heap.size ≤ k_) ∧ some k_ ≠ (s_.1 : Value).ownBlock) s_.2.1 t518) ∧ (w'.heap[g05]? = some (.cells #[.bool a0_0, .slice A0_1 l0_1.length c0_1] 24 (0, 0))) ∧ (w'.heap[g06]? = some (.cells #[.bool a1_0, .slice A1_1 l1_1.length c1_1] 24 (0, 0))) ∧ (w'.heap[g07]? = some (.cells #[.bool a2_0, .slice A2_1 l2_1.length c2_1] 24 (0, 0))) ∧ (w'.heap[s_.2.2]? = some (.cells #[.bool false, .slice none 0 0] 24 (0, 0))) ∧ (w.heap.size ≤ s_.2.2) ∧ (w.heap.size ≤ s_.2.2) ∧ (g05 ≠ s_.2.2) ∧ (s_.2.2 ≠ g05) ∧ (g06 ≠ s_.2.2) ∧ (s_.2.2 ≠ g06) ∧ (g07 ≠ s_.2.2) ∧ (s_.2.2 ≠ g07) ∧ (Below w.heap.size w w')) ?_ ?_
        rotate_left
        ·intro hCont
         refine two_ (i := 2) (j := 4) (Ni := some 22) (Nj := some 7) #[true, true, true, false, false, false] #[true, true, false, false, true, false] rfl rfl rfl rfl (by kernel_rfl) (by decide) (by decide) (fun K hK => ?_) (fun K hK => ?_)
         ·skip
          refine goes_ Tryd.func23 (by kernel_rfl) rfl #[.agg #[.bool a0_0, .slice A0_1 l0_1.length c0_1]] (by rfl) rfl rfl (by (try simp only [zMa, zMc, zMn]); first | done | rfl | (simp only [zLd, zLt]; rfl)) ?_
          with_reducible refine (integer_Neg.calls a0_0 _ _ l0_1 t513 t514 _ ?side1 ?side2 A6.out).mono ?_
          (case side1 => exact uC (zVr HO0_1.out).2.2)
          (case side2 => exact (zVr HO0_1.out).2.1)
          rintro e w89 ⟨v515, rfl, ho0, hb⟩
          refine ⟨_, rfl, ?_⟩
          replace HO0_1 := zMk (zVe (by exact uV HO0_1.out) (zRz ho0) hb)
          replace HO1_1 := zMk (zVe (by exact uV HO1_1.out) (zRz ho0) hb)
          replace HO2_1 := zMk (zVe (by exact uV HO2_1.out) (zRz ho0) hb)
          replace O10 := zMk (Kd.N_elder' (by exact uN O10.out) (zRz ho0) hb)
          have O16 := zMk (zRl (Kd.R_newM (M := fun k_ => (w.heap.size ≤ k_)) ho0 (zBs (by exact uT HB.out)) (fun k_ h_ => h_)) (zBs (by exact uT HB.out)))
          replace K05 := zMk (zKb K05.out hb)
          replace K06 := zMk (zKb K06.out hb)
          replace K07 := zMk (zKb K07.out hb)
          replace HB := zMk (zBt (by exact uT HB.out) hb)
          obtain ⟨Ao90, co90, eo90⟩ := zRs O16.out
          (first |  subst eo90|  (injection eo90 with f1_ f2_ f3_; have f4_ := f1_.symm; have f5_ := f3_.symm; clear f1_ f2_ f3_; subst f4_; subst f5_))
          refine hK.out _ _ ⟨(zKc K05.out 0).trans rfl, (zKc K05.out 1).trans rfl⟩ (fun hHeld => ?_)
          clear hK K
          refine norm_ (a' := ?_) ?_ ?_
          rotate_left
          ·show Act.put _ (some 22) _ = _
           simp only [Act.put, zSa, zSb, zSc, i64_w, i32_w]
           rfl
          refine two_ (i := 3) (j := 4) (Ni := some 23) (Nj := some 7) #[true, true, true, true, false, false] #[true, true, true, false, true, false] rfl rfl rfl rfl (by kernel_rfl) (by decide) (by decide) (fun K hK => ?_) (fun K hK => ?_)
          ·skip
           refine goes_ Tryd.func17 (by kernel_rfl) rfl #[.agg #[.bool a0_0, .slice A0_1 l0_1.length c0_1], .agg #[.bool t513, .slice Ao90 t514.length co90]] (by rfl) rfl rfl (by (try simp only [zMa, zMc, zMn]); first | done | rfl | (simp only [zLd, zLt]; rfl)) ?_
           with_reducible refine (integer_Add.calls k a0_0 _ _ l0_1 t513 _ _ t514 false t518 _ ?side1 ?side2 ?side3 ?side4 A7.out).mono ?_
           (case side1 => exact uC (zVr HO0_1.out).2.2)
           (case side2 => exact (zVr HO0_1.out).2.1)
           (case side3 => exact uC (zRr O16.out).2.2)
           (case side4 => exact (zRr O16.out).2.1)
           rintro e w91 ⟨v519, rfl, ho0, hb⟩
           refine ⟨_, rfl, ?_⟩
           replace HO0_1 := zMk (zVe (by exact uV HO0_1.out) (zRz ho0) hb)
           replace HO1_1 := zMk (zVe (by exact uV HO1_1.out) (zRz ho0) hb)
           replace HO2_1 := zMk (zVe (by exact uV HO2_1.out) (zRz ho0) hb)
           replace O10 := zMk (Kd.N_elder' (by exact uN O10.out) (zRz ho0) hb)
           have O20 := zMk (zRl (zRw (Kd.R_newM (M := fun k_ => (w.heap.size ≤ k_)) ho0 (zBs (by exact uT HB.out)) (fun k_ h_ => h_)) (zRt (by exact uR O16.out))) (zBs (by exact uT HB.out)))
           replace O16 := zMk (zRe (by exact uR O16.out) (zRz ho0) hb)
           replace K05 := zMk (zKb K05.out hb)
           replace K06 := zMk (zKb K06.out hb)
           replace K07 := zMk (zKb K07.out hb)
           replace HB := zMk (zBt (by exact uT HB.out) hb)
           refine hK.out _ _ ⟨(zKc K05.out 0).trans rfl, (zKc K05.out 1).trans rfl⟩ (fun hHeld => ?_)
           clear hK K
           refine norm_ (a' := ?_) ?_ ?_
           rotate_left
           ·show Act.put _ (some 23) _ = _
            simp only [Act.put, zSa, zSb, zSc, i64_w, i32_w]
            rfl
           refine one_ (i := 4) (N := some 7) #[true, true, true, true, true, false] rfl rfl (by kernel_rfl) (by decide) (fun K hK => ?_)
           refine box_step ?hg (N := 7) ?hd (cs := #[.bool false, .slice none 0 0]) (t := 24) ?hr ?_; (case hd => rfl); (case hg => rfl); (case hr => first | (go_simp; done) | (go_simp; rfl) | (go_simp; rw [show ∀ x : Int, IntKind.u32.wrap (IntKind.u8.wrap x) = x % 256 from fun x => (by show (x % 256) % 4294967296 = x % 256; omega)]))
           intro g21 hg w92 hbox hb
           replace HO0_1 := zMk (zVb (Kd.V_elderB (by exact uV HO0_1.out) g21 (Nat.le_of_eq hg.symm)) hb)
           replace HO1_1 := zMk (zVb (Kd.V_elderB (by exact uV HO1_1.out) g21 (Nat.le_of_eq hg.symm)) hb)
           replace HO2_1 := zMk (zVb (Kd.V_elderB (by exact uV HO2_1.out) g21 (Nat.le_of_eq hg.symm)) hb)
           replace O10 := zMk (Kd.N_below (Kd.N_elderB (by exact uN O10.out) g21 (Nat.le_of_eq hg.symm)) hb)
           replace O16 := zMk (zRb (by exact uR O16.out) hb)
           replace O20 := zMk (zRb (by exact uR O20.out) hb)
           have K21 := zMk (hbox)
           have W21 := zMk ((by rw [hg]; exact (zBs (by exact uT HB.out)) : w.heap.size ≤ g21))
           have E21 := zMk ((by rw [hg]; exact (zBs (by exact uT HB.out)) : w.heap.size ≤ g21))
           have IGE521 := ownGe E21.out
           replace HB := zMk (zBt (by exact uT HB.out) hb)
           have N05_21 := zMk ((by rw [hg]; exact Nat.ne_of_lt (blk_lt (g := g05) (o := .cells #[.bool a0_0, .slice A0_1 l0_1.length c0_1] 24 (0, 0)) K05.out) : g05 ≠ g21))
           have N21_05 := zMk ((by rw [hg]; exact Nat.ne_of_gt (blk_lt (g := g05) (o := .cells #[.bool a0_0, .slice A0_1 l0_1.length c0_1] 24 (0, 0)) K05.out) : g21 ≠ g05))
           replace K05 := zMk (zKb K05.out hb)
           have N06_21 := zMk ((by rw [hg]; exact Nat.ne_of_lt (blk_lt (g := g06) (o := .cells #[.bool a1_0, .slice A1_1 l1_1.length c1_1] 24 (0, 0)) K06.out) : g06 ≠ g21))
           have N21_06 := zMk ((by rw [hg]; exact Nat.ne_of_gt (blk_lt (g := g06) (o := .cells #[.bool a1_0, .slice A1_1 l1_1.length c1_1] 24 (0, 0)) K06.out) : g21 ≠ g06))
           replace K06 := zMk (zKb K06.out hb)
           have N07_21 := zMk ((by rw [hg]; exact Nat.ne_of_lt (blk_lt (g := g07) (o := .cells #[.bool a2_0, .slice A2_1 l2_1.length c2_1] 24 (0, 0)) K07.out) : g07 ≠ g21))
           have N21_07 := zMk ((by rw [hg]; exact Nat.ne_of_gt (blk_lt (g := g07) (o := .cells #[.bool a2_0, .slice A2_1 l2_1.length c2_1] 24 (0, 0)) K07.out) : g21 ≠ g07))
           replace K07 := zMk (zKb K07.out hb)
           clear hb hbox hg
           refine hK.out _ _ ⟨(zKc K05.out 0).trans rfl, (zKc K05.out 1).trans rfl⟩ (fun hHeld => ?_)
           clear hK K
           refine norm_ (a' := ?_) ?_ ?_
           rotate_left
           ·show Act.put _ (some 7) _ = _
            simp only [Act.put, zSa, zSb, zSc, i64_w, i32_w]
            rfl
           exact norm_ (by simp only [putAll, Act.put, zSa, zSb, zSc]) (hCont (.slice Ao90 t514.length co90, v519, g21) _ ⟨hHeld, zVm HO0_1.out (fun _ hk => (by grind)), zVm HO1_1.out (fun _ hk => (by grind)), zVm HO2_1.out (fun _ hk => (by grind)), Kd.N_mono O10.out (fun _ hk => (by grind)), zRm O16.out (fun _ hk => (by grind)), zRm O20.out (fun _ hk => (by grind)), K05.out, K06.out, K07.out, K21.out, W21.out, E21.out, N05_21.out, N21_05.out, N06_21.out, N21_06.out, N07_21.out, N21_07.out, (by exact uT HB.out)⟩)
          ·skip
           refine box_step ?hg (N := 7) ?hd (cs := #[.bool false, .slice none 0 0]) (t := 24) ?hr ?_; (case hd => rfl); (case hg => rfl); (case hr => first | (go_simp; done) | (go_simp; rfl) | (go_simp; rw [show ∀ x : Int, IntKind.u32.wrap (IntKind.u8.wrap x) = x % 256 from fun x => (by show (x % 256) % 4294967296 = x % 256; omega)]))
           intro g21 hg w90 hbox hb
           replace HO0_1 := zMk (zVb (Kd.V_elderB (by exact uV HO0_1.out) g21 (Nat.le_of_eq hg.symm)) hb)
           replace HO1_1 := zMk (zVb (Kd.V_elderB (by exact uV HO1_1.out) g21 (Nat.le_of_eq hg.symm)) hb)
           replace HO2_1 := zMk (zVb (Kd.V_elderB (by exact uV HO2_1.out) g21 (Nat.le_of_eq hg.symm)) hb)
           replace O10 := zMk (Kd.N_below (Kd.N_elderB (by exact uN O10.out) g21 (Nat.le_of_eq hg.symm)) hb)
           replace O16 := zMk (zRb (by exact uR O16.out) hb)
           have K21 := zMk (hbox)
           have W21 := zMk ((by rw [hg]; exact (zBs (by exact uT HB.out)) : w.heap.size ≤ g21))
           have E21 := zMk ((by rw [hg]; exact (zBs (by exact uT HB.out)) : w.heap.size ≤ g21))
           have IGE521 := ownGe E21.out
           replace HB := zMk (zBt (by exact uT HB.out) hb)
           have N05_21 := zMk ((by rw [hg]; exact Nat.ne_of_lt (blk_lt (g := g05) (o := .cells #[.bool a0_0, .slice A0_1 l0_1.length c0_1] 24 (0, 0)) K05.out) : g05 ≠ g21))
           have N21_05 := zMk ((by rw [hg]; exact Nat.ne_of_gt (blk_lt (g := g05) (o := .cells #[.bool a0_0, .slice A0_1 l0_1.length c0_1] 24 (0, 0)) K05.out) : g21 ≠ g05))
           replace K05 := zMk (zKb K05.out hb)
           have N06_21 := zMk ((by rw [hg]; exact Nat.ne_of_lt (blk_lt (g := g06) (o := .cells #[.bool a1_0, .slice A1_1 l1_1.length c1_1] 24 (0, 0)) K06.out) : g06 ≠ g21))
           have N21_06 := zMk ((by rw [hg]; exact Nat.ne_of_gt (blk_lt (g := g06) (o := .cells #[.bool a1_0, .slice A1_1 l1_1.length c1_1] 24 (0, 0)) K06.out) : g21 ≠ g06))
           replace K06 := zMk (zKb K06.out hb)
           have N07_21 := zMk ((by rw [hg]; exact Nat.ne_of_lt (blk_lt (g := g07) (o := .cells #[.bool a2_0, .slice A2_1 l2_1.length c2_1] 24 (0, 0)) K07.out) : g07 ≠ g21))
           have N21_07 := zMk ((by rw [hg]; exact Nat.ne_of_gt (blk_lt (g := g07) (o := .cells #[.bool a2_0, .slice A2_1 l2_1.length c2_1] 24 (0, 0)) K07.out) : g21 ≠ g07))
           replace K07 := zMk (zKb K07.out hb)
           clear hb hbox hg
           obtain ⟨Ao91, co91, eo91⟩ := zRs O16.out
           (first |  subst eo91|  (injection eo91 with f1_ f2_ f3_; have f4_ := f1_.symm; have f5_ := f3_.symm; clear f1_ f2_ f3_; subst f4_; subst f5_))
           refine hK.out _ _ ⟨(zKc K05.out 0).trans rfl, (zKc K05.out 1).trans rfl⟩ (fun hHeld => ?_)
           clear hK K
           refine norm_ (a' := ?_) ?_ ?_
           rotate_left
           ·show Act.put _ (some 7) _ = _
            simp only [Act.put, zSa, zSb, zSc, i64_w, i32_w]
            rfl
           refine one_ (i := 3) (N := some 23) #[true, true, true, true, true, false] rfl rfl (by kernel_rfl) (by decide) (fun K hK => ?_)
           refine goes_ Tryd.func17 (by kernel_rfl) rfl #[.agg #[.bool a0_0, .slice A0_1 l0_1.length c0_1], .agg #[.bool t513, .slice Ao91 t514.length co91]] (by rfl) rfl rfl (by (try simp only [zMa, zMc, zMn]); first | done | rfl | (simp only [zLd, zLt]; rfl)) ?_
           with_reducible refine (integer_Add.calls k a0_0 _ _ l0_1 t513 _ _ t514 false t518 _ ?side1 ?side2 ?side3 ?side4 A7.out).mono ?_
           (case side1 => exact uC (zVr HO0_1.out).2.2)
           (case side2 => exact (zVr HO0_1.out).2.1)
           (case side3 => exact uC (zRr O16.out).2.2)
           (case side4 => exact (zRr O16.out).2.1)
           rintro e w92 ⟨v519, rfl, ho0, hb⟩
           refine ⟨_, rfl, ?_⟩
           replace HO0_1 := zMk (zVe (by exact uV HO0_1.out) (zRz ho0) hb)
           replace HO1_1 := zMk (zVe (by exact uV HO1_1.out) (zRz ho0) hb)
           replace HO2_1 := zMk (zVe (by exact uV HO2_1.out) (zRz ho0) hb)
           replace O10 := zMk (Kd.N_elder' (by exact uN O10.out) (zRz ho0) hb)
           have O20 := zMk (zRl (zRw (Kd.R_newM (M := fun k_ => (w.heap.size ≤ k_)) ho0 (zBs (by exact uT HB.out)) (fun k_ h_ => h_)) (zRt (by exact uR O16.out))) (zBs (by exact uT HB.out)))
           replace O16 := zMk (zRe (by exact uR O16.out) (zRz ho0) hb)
           replace K05 := zMk (zKb K05.out hb)
           replace K06 := zMk (zKb K06.out hb)
           replace K07 := zMk (zKb K07.out hb)
           replace K21 := zMk (zKb K21.out hb)
           replace HB := zMk (zBt (by exact uT HB.out) hb)
           refine hK.out _ _ ⟨(zKc K05.out 0).trans rfl, (zKc K05.out 1).trans rfl⟩ (fun hHeld => ?_)
           clear hK K
           refine norm_ (a' := ?_) ?_ ?_
           rotate_left
           ·show Act.put _ (some 23) _ = _
            simp only [Act.put, zSa, zSb, zSc, i64_w, i32_w]
            rfl
           exact norm_ (by simp only [putAll, Act.put, zSa, zSb, zSc]) (hCont (.slice Ao91 t514.length co91, v519, g21) _ ⟨hHeld, zVm HO0_1.out (fun _ hk => (by grind)), zVm HO1_1.out (fun _ hk => (by grind)), zVm HO2_1.out (fun _ hk => (by grind)), Kd.N_mono O10.out (fun _ hk => (by grind)), zRm O16.out (fun _ hk => (by grind)), zRm O20.out (fun _ hk => (by grind)), K05.out, K06.out, K07.out, K21.out, W21.out, E21.out, N05_21.out, N21_05.out, N06_21.out, N21_06.out, N07_21.out, N21_07.out, (by exact uT HB.out)⟩)
         ·skip
          refine box_step ?hg (N := 7) ?hd (cs := #[.bool false, .slice none 0 0]) (t := 24) ?hr ?_; (case hd => rfl); (case hg => rfl); (case hr => first | (go_simp; done) | (go_simp; rfl) | (go_simp; rw [show ∀ x : Int, IntKind.u32.wrap (IntKind.u8.wrap x) = x % 256 from fun x => (by show (x % 256) % 4294967296 = x % 256; omega)]))
          intro g21 hg w89 hbox hb
          replace HO0_1 := zMk (zVb (Kd.V_elderB (by exact uV HO0_1.out) g21 (Nat.le_of_eq hg.symm)) hb)
          replace HO1_1 := zMk (zVb (Kd.V_elderB (by exact uV HO1_1.out) g21 (Nat.le_of_eq hg.symm)) hb)
          replace HO2_1 := zMk (zVb (Kd.V_elderB (by exact uV HO2_1.out) g21 (Nat.le_of_eq hg.symm)) hb)
          replace O10 := zMk (Kd.N_below (Kd.N_elderB (by exact uN O10.out) g21 (Nat.le_of_eq hg.symm)) hb)
          have K21 := zMk (hbox)
          have W21 := zMk ((by rw [hg]; exact (zBs (by exact uT HB.out)) : w.heap.size ≤ g21))
          have E21 := zMk ((by rw [hg]; exact (zBs (by exact uT HB.out)) : w.heap.size ≤ g21))
          have IGE521 := ownGe E21.out
          replace HB := zMk (zBt (by exact uT HB.out) hb)
          have N05_21 := zMk ((by rw [hg]; exact Nat.ne_of_lt (blk_lt (g := g05) (o := .cells #[.bool a0_0, .slice A0_1 l0_1.length c0_1] 24 (0, 0)) K05.out) : g05 ≠ g21))
          have N21_05 := zMk ((by rw [hg]; exact Nat.ne_of_gt (blk_lt (g := g05) (o := .cells #[.bool a0_0, .slice A0_1 l0_1.length c0_1] 24 (0, 0)) K05.out) : g21 ≠ g05))
          replace K05 := zMk (zKb K05.out hb)
          have N06_21 := zMk ((by rw [hg]; exact Nat.ne_of_lt (blk_lt (g := g06) (o := .cells #[.bool a1_0, .slice A1_1 l1_1.length c1_1] 24 (0, 0)) K06.out) : g06 ≠ g21))
          have N21_06 := zMk ((by rw [hg]; exact Nat.ne_of_gt (blk_lt (g := g06) (o := .cells #[.bool a1_0, .slice A1_1 l1_1.length c1_1] 24 (0, 0)) K06.out) : g21 ≠ g06))
          replace K06 := zMk (zKb K06.out hb)
          have N07_21 := zMk ((by rw [hg]; exact Nat.ne_of_lt (blk_lt (g := g07) (o := .cells #[.bool a2_0, .slice A2_1 l2_1.length c2_1] 24 (0, 0)) K07.out) : g07 ≠ g21))
          have N21_07 := zMk ((by rw [hg]; exact Nat.ne_of_gt (blk_lt (g := g07) (o := .cells #[.bool a2_0, .slice A2_1 l2_1.length c2_1] 24 (0, 0)) K07.out) : g21 ≠ g07))
          replace K07 := zMk (zKb K07.out hb)
          clear hb hbox hg
          refine hK.out _ _ ⟨(zKc K05.out 0).trans rfl, (zKc K05.out 1).trans rfl⟩ (fun hHeld => ?_)
          clear hK K
          refine norm_ (a' := ?_) ?_ ?_
          rotate_left
          ·show Act.put _ (some 7) _ = _
           simp only [Act.put, zSa, zSb, zSc, i64_w, i32_w]
           rfl
          refine one_ (i := 2) (N := some 22) #[true, true, true, false, true, false] rfl rfl (by kernel_rfl) (by decide) (fun K hK => ?_)
          refine goes_ Tryd.func23 (by kernel_rfl) rfl #[.agg #[.bool a0_0, .slice A0_1 l0_1.length c0_1]] (by rfl) rfl rfl (by (try simp only [zMa, zMc, zMn]); first | done | rfl | (simp only [zLd, zLt]; rfl)) ?_
          with_reducible refine (integer_Neg.calls a0_0 _ _ l0_1 t513 t514 _ ?side1 ?side2 A6.out).mono ?_
          (case side1 => exact uC (zVr HO0_1.out).2.2)
          (case side2 => exact (zVr HO0_1.out).2.1)
          rintro e w90 ⟨v515, rfl, ho0, hb⟩
          refine ⟨_, rfl, ?_⟩
          replace HO0_1 := zMk (zVe (by exact uV HO0_1.out) (zRz ho0) hb)
          replace HO1_1 := zMk (zVe (by exact uV HO1_1.out) (zRz ho0) hb)
          replace HO2_1 := zMk (zVe (by exact uV HO2_1.out) (zRz ho0) hb)
          replace O10 := zMk (Kd.N_elder' (by exact uN O10.out) (zRz ho0) hb)
          have O16 := zMk (zRl (Kd.R_newM (M := fun k_ => (w.heap.size ≤ k_)) ho0 (zBs (by exact uT HB.out)) (fun k_ h_ => h_)) (zBs (by exact uT HB.out)))
          replace K05 := zMk (zKb K05.out hb)
          replace K06 := zMk (zKb K06.out hb)
          replace K07 := zMk (zKb K07.out hb)
          replace K21 := zMk (zKb K21.out hb)
          replace HB := zMk (zBt (by exact uT HB.out) hb)
          obtain ⟨Ao91, co91, eo91⟩ := zRs O16.out
          (first |  subst eo91|  (injection eo91 with f1_ f2_ f3_; have f4_ := f1_.symm; have f5_ := f3_.symm; clear f1_ f2_ f3_; subst f4_; subst f5_))
          refine hK.out _ _ ⟨(zKc K05.out 0).trans rfl, (zKc K05.out 1).trans rfl⟩ (fun hHeld => ?_)
          clear hK K
          refine norm_ (a' := ?_) ?_ ?_
          rotate_left
          ·show Act.put _ (some 22) _ = _
           simp only [Act.put, zSa, zSb, zSc, i64_w, i32_w]
           rfl
          refine one_ (i := 3) (N := some 23) #[true, true, true, true, true, false] rfl rfl (by kernel_rfl) (by decide) (fun K hK => ?_)
          refine goes_ Tryd.func17 (by kernel_rfl) rfl #[.agg #[.bool a0_0, .slice A0_1 l0_1.length c0_1], .agg #[.bool t513, .slice Ao91 t514.length co91]] (by rfl) rfl rfl (by (try simp only [zMa, zMc, zMn]); first | done | rfl | (simp only [zLd, zLt]; rfl)) ?_
          with_reducible refine (integer_Add.calls k a0_0 _ _ l0_1 t513 _ _ t514 false t518 _ ?side1 ?side2 ?side3 ?side4 A7.out).mono ?_
          (case side1 => exact uC (zVr HO0_1.out).2.2)
          (case side2 => exact (zVr HO0_1.out).2.1)
          (case side3 => exact uC (zRr O16.out).2.2)
          (case side4 => exact (zRr O16.out).2.1)
          rintro e w92 ⟨v519, rfl, ho0, hb⟩
          refine ⟨_, rfl, ?_⟩
          replace HO0_1 := zMk (zVe (by exact uV HO0_1.out) (zRz ho0) hb)
          replace HO1_1 := zMk (zVe (by exact uV HO1_1.out) (zRz ho0) hb)
          replace HO2_1 := zMk (zVe (by exact uV HO2_1.out) (zRz ho0) hb)
          replace O10 := zMk (Kd.N_elder' (by exact uN O10.out) (zRz ho0) hb)
          have O20 := zMk (zRl (zRw (Kd.R_newM (M := fun k_ => (w.heap.size ≤ k_)) ho0 (zBs (by exact uT HB.out)) (fun k_ h_ => h_)) (zRt (by exact uR O16.out))) (zBs (by exact uT HB.out)))
          replace O16 := zMk (zRe (by exact uR O16.out) (zRz ho0) hb)
          replace K05 := zMk (zKb K05.out hb)
          replace K06 := zMk (zKb K06.out hb)
          replace K07 := zMk (zKb K07.out hb)
          replace K21 := zMk (zKb K21.out hb)
          replace HB := zMk (zBt (by exact uT HB.out) hb)
          refine hK.out _ _ ⟨(zKc K05.out 0).trans rfl, (zKc K05.out 1).trans rfl⟩ (fun hHeld => ?_)
          clear hK K
          refine norm_ (a' := ?_) ?_ ?_
          rotate_left
          ·show Act.put _ (some 23) _ = _
           simp only [Act.put, zSa, zSb, zSc, i64_w, i32_w]
           rfl
          exact norm_ (by simp only [putAll, Act.put, zSa, zSb, zSc]) (hCont (.slice Ao91 t514.length co91, v519, g21) _ ⟨hHeld, zVm HO0_1.out (fun _ hk => (by grind)), zVm HO1_1.out (fun _ hk => (by grind)), zVm HO2_1.out (fun _ hk => (by grind)), Kd.N_mono O10.out (fun _ hk => (by grind)), zRm O16.out (fun _ hk => (by grind)), zRm O20.out (fun _ hk => (by grind)), K05.out, K06.out, K07.out, K21.out, W21.out, E21.out, N05_21.out, N21_05.out, N06_21.out, N21_06.out, N07_21.out, N21_07.out, (by exact uT HB.out)⟩)
        rintro ⟨v515, v519, g21⟩ w93 ⟨hS_, h0_, h1_, h2_, h3_, h4_, h5_, h6_, h7_, h8_, h9_, h10_, h11_, h12_, h13_, h14_, h15_, h16_, h17_, h18_⟩
        have n0_ : Aside0 (Kd.V (Kd.int .u32) 58 w93 w.heap.size (fun k_ => ((P0_1_ k_ ∨ P1_1_ k_ ∨ P2_1_ k_) ∨ w.heap.size ≤ k_) ∧ some k_ ≠ (.slice Ao87 y508.length co87 : Value).ownBlock ∧ some k_ ≠ (v515 : Value).ownBlock ∧ some k_ ≠ (v519 : Value).ownBlock ∧ k_ ≠ g05 ∧ k_ ≠ g06 ∧ k_ ≠ g07 ∧ k_ ≠ g21) (.slice A0_1 l0_1.length c0_1) l0_1) := ⟨h0_⟩
        have n1_ : Aside0 (Kd.V (Kd.int .u32) 58 w93 w.heap.size (fun k_ => ((P0_1_ k_ ∨ P1_1_ k_ ∨ P2_1_ k_) ∨ w.heap.size ≤ k_) ∧ some k_ ≠ (.slice Ao87 y508.length co87 : Value).ownBlock ∧ some k_ ≠ (v515 : Value).ownBlock ∧ some k_ ≠ (v519 : Value).ownBlock ∧ k_ ≠ g05 ∧ k_ ≠ g06 ∧ k_ ≠ g07 ∧ k_ ≠ g21) (.slice A1_1 l1_1.length c1_1) l1_1) := ⟨h1_⟩
        have n2_ : Aside0 (Kd.V (Kd.int .u32) 58 w93 w.heap.size (fun k_ => ((P0_1_ k_ ∨ P1_1_ k_ ∨ P2_1_ k_) ∨ w.heap.size ≤ k_) ∧ some k_ ≠ (.slice Ao87 y508.length co87 : Value).ownBlock ∧ some k_ ≠ (v515 : Value).ownBlock ∧ some k_ ≠ (v519 : Value).ownBlock ∧ k_ ≠ g05 ∧ k_ ≠ g06 ∧ k_ ≠ g07 ∧ k_ ≠ g21) (.slice A2_1 l2_1.length c2_1) l2_1) := ⟨h2_⟩
        have n3_ : Aside0 (Kd.N (Kd.slice 58 (Kd.int .u32)) 22 w93 w.heap.size (fun k_ => ((P0_1_ k_ ∨ P1_1_ k_ ∨ P2_1_ k_) ∨ w.heap.size ≤ k_) ∧ some k_ ≠ (v515 : Value).ownBlock ∧ some k_ ≠ (v519 : Value).ownBlock ∧ k_ ≠ g05 ∧ k_ ≠ g06 ∧ k_ ≠ g07 ∧ k_ ≠ g21) (.slice Ao87 y508.length co87) y508) := ⟨h3_⟩
        have n4_ : Aside0 (Kd.R (Kd.int .u32) 58 w93 w.heap.size (fun k_ => (w.heap.size ≤ k_) ∧ some k_ ≠ (v519 : Value).ownBlock) v515 t514) := ⟨h4_⟩
        have n5_ : Aside0 (Kd.R (Kd.int .u32) 58 w93 w.heap.size (fun k_ => (w.heap.size ≤ k_) ∧ some k_ ≠ (v515 : Value).ownBlock) v519 t518) := ⟨h5_⟩
        have n6_ : Aside0 (w93.heap[g05]? = some (.cells #[.bool a0_0, .slice A0_1 l0_1.length c0_1] 24 (0, 0))) := ⟨h6_⟩
        have n7_ : Aside0 (w93.heap[g06]? = some (.cells #[.bool a1_0, .slice A1_1 l1_1.length c1_1] 24 (0, 0))) := ⟨h7_⟩
        have n8_ : Aside0 (w93.heap[g07]? = some (.cells #[.bool a2_0, .slice A2_1 l2_1.length c2_1] 24 (0, 0))) := ⟨h8_⟩
        have n9_ : Aside0 (w93.heap[g21]? = some (.cells #[.bool false, .slice none 0 0] 24 (0, 0))) := ⟨h9_⟩
        have n10_ : Aside0 (w.heap.size ≤ g21) := ⟨h10_⟩
        have n11_ : Aside0 (w.heap.size ≤ g21) := ⟨h11_⟩
        have n12_ : Aside0 (g05 ≠ g21) := ⟨h12_⟩
        have n13_ : Aside0 (g21 ≠ g05) := ⟨h13_⟩
        have n14_ : Aside0 (g06 ≠ g21) := ⟨h14_⟩
        have n15_ : Aside0 (g21 ≠ g06) := ⟨h15_⟩
        have n16_ : Aside0 (g07 ≠ g21) := ⟨h16_⟩
        have n17_ : Aside0 (g21 ≠ g07) := ⟨h17_⟩
        have n18_ : Aside0 (Below w.heap.size w w93) := ⟨h18_⟩
        clear HO0_1 HO1_1 HO2_1 O10 K05 K06 K07 HB h0_ h1_ h2_ h3_ h4_ h5_ h6_ h7_ h8_ h9_ h10_ h11_ h12_ h13_ h14_ h15_ h16_ h17_ h18_
        have HO0_1 := n0_
        have HO1_1 := n1_
        have HO2_1 := n2_
        have O10 := n3_
        have O16 := n4_
        have O20 := n5_
        have K05 := n6_
        have K06 := n7_
        have K07 := n8_
        have K21 := n9_
        have W21 := n10_
        have E21 := n11_
        have IGE521 := ownGe E21.out
        have N05_21 := n12_
        have N21_05 := n13_
        have N06_21 := n14_
        have N21_06 := n15_
        have N07_21 := n16_
        have N21_07 := n17_
        have HB := n18_
        clear n0_ n1_ n2_ n3_ n4_ n5_ n6_ n7_ n8_ n9_ n10_ n11_ n12_ n13_ n14_ n15_ n16_ n17_ n18_
        have hHeld : w93.cell? ⟨g05, 0, none⟩ = some (.bool a0_0) ∧ w93.cell? ⟨g05, 1, none⟩ = some (.slice A0_1 l0_1.length c0_1) := hS_
        obtain ⟨Ao95, co95, eo95⟩ := zRs O20.out
        (first |  subst eo95|  (injection eo95 with f1_ f2_ f3_; have f4_ := f1_.symm; have f5_ := f3_.symm; clear f1_ f2_ f3_; subst f4_; subst f5_))
        refine norm_ (a' := ?_) ?_ ?_
        rotate_left
        ·simp only [putAll, Act.put, zSa, zSb, zSc]
         rfl
        refine one_ (i := 5) (N := none) #[true, true, true, true, true, true] rfl rfl (by kernel_rfl) (by decide) (fun K hK => ?_)
        have hs94 : w93.cell? ⟨g21, 0, none⟩ = some (.bool false) := (zKc K21.out 0).trans rfl
        have hfs94 := zKf K21.out 0
        have hns94_0 := N05_21.out
        have hns94_1 := N06_21.out
        have hns94_2 := N07_21.out
        have hms94_0 := N21_05.out
        have hms94_1 := N21_06.out
        have hms94_2 := N21_07.out
        have hs96 : w93.cell? ⟨g21, 1, none⟩ = some (.slice none 0 0) := (zKc K21.out 1).trans rfl
        have hfs96 := zKf K21.out 1
        have hns96_0 := N05_21.out
        have hns96_1 := N06_21.out
        have hns96_2 := N07_21.out
        have hms96_0 := N21_05.out
        have hms96_1 := N21_06.out
        have hms96_2 := N21_07.out
        refine skip_ (w1 := ?_) (by rfl) rfl ?_ ?_
        rotate_left
        ·go_simp
         rfl
        refine hK.out _ _ ⟨((cell_far (p := ⟨g21, _, none⟩) N05_21.out _).trans (((cell_far (p := ⟨g21, _, none⟩) N05_21.out _).trans (hHeld.1)))), ((cell_far (p := ⟨g21, _, none⟩) N05_21.out _).trans (((cell_far (p := ⟨g21, _, none⟩) N05_21.out _).trans (hHeld.2))))⟩ (fun hHeld => ?_)
        clear hK K
        refine done_ (by kernel_rfl) ?_
        try go_wp2
        have n0_ : Aside0 (Kd.V (Kd.int .u32) 58 ((w93.setCell ⟨g21, 0, none⟩ (.bool false)).setCell ⟨g21, 1, none⟩ (.slice Ao95 t518.length co95)) w.heap.size (fun k_ => ((P0_1_ k_ ∨ P1_1_ k_ ∨ P2_1_ k_) ∨ w.heap.size ≤ k_) ∧ some k_ ≠ (.slice Ao87 y508.length co87 : Value).ownBlock ∧ some k_ ≠ (v515 : Value).ownBlock ∧ some k_ ≠ (.slice Ao95 t518.length co95 : Value).ownBlock ∧ k_ ≠ g05 ∧ k_ ≠ g06 ∧ k_ ≠ g07 ∧ k_ ≠ g21) (.slice A0_1 l0_1.length c0_1) l0_1) := ⟨by (with_reducible repeat (first |  apply zVa|  apply zVn|  apply zVd)); exact zVm (Kd.V_far (p := ⟨g21, 1, none⟩) (Kd.V_far (p := ⟨g21, 0, none⟩) (zVm HO0_1.out (fun k_ hk => (⟨hk, hk.2.2.2.2.2.2.2⟩ : _ ∧ k_ ≠ g21))) (fun _ hk => hk.2) (.bool false)) (fun _ hk => hk.2) (.slice Ao95 t518.length co95)) (fun _ hk => ⟨hk.1.1, ⟨hk.1.2.1, ⟨hk.1.2.2.1, ⟨hk.1.2.2.2.1, ⟨hk.1.2.2.2.2.1, ⟨hk.1.2.2.2.2.2.1, ⟨hk.1.2.2.2.2.2.2.1, hk.1.2.2.2.2.2.2.2⟩⟩⟩⟩⟩⟩⟩)⟩
        have n1_ : Aside0 (Kd.V (Kd.int .u32) 58 ((w93.setCell ⟨g21, 0, none⟩ (.bool false)).setCell ⟨g21, 1, none⟩ (.slice Ao95 t518.length co95)) w.heap.size (fun k_ => ((P0_1_ k_ ∨ P1_1_ k_ ∨ P2_1_ k_) ∨ w.heap.size ≤ k_) ∧ some k_ ≠ (.slice Ao87 y508.length co87 : Value).ownBlock ∧ some k_ ≠ (v515 : Value).ownBlock ∧ some k_ ≠ (.slice Ao95 t518.length co95 : Value).ownBlock ∧ k_ ≠ g05 ∧ k_ ≠ g06 ∧ k_ ≠ g07 ∧ k_ ≠ g21) (.slice A1_1 l1_1.length c1_1) l1_1) := ⟨by (with_reducible repeat (first | apply zVa | apply zVn | apply zVd)); exact zVm (Kd.V_far (p := ⟨g21, 1, none⟩) (Kd.V_far (p := ⟨g21, 0, none⟩) (zVm HO1_1.out (fun k_ hk => (⟨hk, hk.2.2.2.2.2.2.2⟩ : _ ∧ k_ ≠ g21))) (fun _ hk => hk.2) (.bool false)) (fun _ hk => hk.2) (.slice Ao95 t518.length co95)) (fun _ hk => ⟨hk.1.1, ⟨hk.1.2.1, ⟨hk.1.2.2.1, ⟨hk.1.2.2.2.1, ⟨hk.1.2.2.2.2.1, ⟨hk.1.2.2.2.2.2.1, ⟨hk.1.2.2.2.2.2.2.1, hk.1.2.2.2.2.2.2.2⟩⟩⟩⟩⟩⟩⟩)⟩
        have n2_ : Aside0 (Kd.V (Kd.int .u32) 58 ((w93.setCell ⟨g21, 0, none⟩ (.bool false)).setCell ⟨g21, 1, none⟩ (.slice Ao95 t518.length co95)) w.heap.size (fun k_ => ((P0_1_ k_ ∨ P1_1_ k_ ∨ P2_1_ k_) ∨ w.heap.size ≤ k_) ∧ some k_ ≠ (.slice Ao87 y508.length co87 : Value).ownBlock ∧ some k_ ≠ (v515 : Value).ownBlock ∧ some k_ ≠ (.slice Ao95 t518.length co95 : Value).ownBlock ∧ k_ ≠ g05 ∧ k_ ≠ g06 ∧ k_ ≠ g07 ∧ k_ ≠ g21) (.slice A2_1 l2_1.length c2_1) l2_1) := ⟨by (with_reducible repeat (first | apply zVa | apply zVn | apply zVd)); exact zVm (Kd.V_far (p := ⟨g21, 1, none⟩) (Kd.V_far (p := ⟨g21, 0, none⟩) (zVm HO2_1.out (fun k_ hk => (⟨hk, hk.2.2.2.2.2.2.2⟩ : _ ∧ k_ ≠ g21))) (fun _ hk => hk.2) (.bool false)) (fun _ hk => hk.2) (.slice Ao95 t518.length co95)) (fun _ hk => ⟨hk.1.1, ⟨hk.1.2.1, ⟨hk.1.2.2.1, ⟨hk.1.2.2.2.1, ⟨hk.1.2.2.2.2.1, ⟨hk.1.2.2.2.2.2.1, ⟨hk.1.2.2.2.2.2.2.1, hk.1.2.2.2.2.2.2.2⟩⟩⟩⟩⟩⟩⟩)⟩
        have n3_ : Aside0 (Kd.N (Kd.slice 58 (Kd.int .u32)) 22 ((w93.setCell ⟨g21, 0, none⟩ (.bool false)).setCell ⟨g21, 1, none⟩ (.slice Ao95 t518.length co95)) w.heap.size (fun k_ => ((P0_1_ k_ ∨ P1_1_ k_ ∨ P2_1_ k_) ∨ w.heap.size ≤ k_) ∧ some k_ ≠ (v515 : Value).ownBlock ∧ some k_ ≠ (.slice Ao95 t518.length co95 : Value).ownBlock ∧ k_ ≠ g05 ∧ k_ ≠ g06 ∧ k_ ≠ g07 ∧ k_ ≠ g21) (.slice Ao87 y508.length co87) y508) := ⟨by (with_reducible repeat (first | apply Kd.N_alloc | apply Kd.N_drewN | apply Kd.N_drew)); exact Kd.N_mono (Kd.N_far (p := ⟨g21, 1, none⟩) (Kd.N_far (p := ⟨g21, 0, none⟩) (Kd.N_mono O10.out (fun k_ hk => (⟨hk, hk.2.2.2.2.2.2⟩ : _ ∧ k_ ≠ g21))) (fun _ hk => hk.2) (.bool false)) (fun _ hk => hk.2) (.slice Ao95 t518.length co95)) (fun _ hk => ⟨hk.1.1, ⟨hk.1.2.1, ⟨hk.1.2.2.1, ⟨hk.1.2.2.2.1, ⟨hk.1.2.2.2.2.1, ⟨hk.1.2.2.2.2.2.1, hk.1.2.2.2.2.2.2⟩⟩⟩⟩⟩⟩)⟩
        have n4_ : Aside0 (Kd.R (Kd.int .u32) 58 ((w93.setCell ⟨g21, 0, none⟩ (.bool false)).setCell ⟨g21, 1, none⟩ (.slice Ao95 t518.length co95)) w.heap.size (fun k_ => (w.heap.size ≤ k_) ∧ some k_ ≠ (.slice Ao95 t518.length co95 : Value).ownBlock) v515 t514) := ⟨by (with_reducible repeat (first | apply zRa | apply zRn | apply zRd)); exact zRm (Kd.R_far (p := ⟨g21, 1, none⟩) (Kd.R_far (p := ⟨g21, 0, none⟩) (Kd.R_types O16.out K21.out (by decide)) (fun _ hk => hk.2) (.bool false)) (fun _ hk => hk.2) (.slice Ao95 t518.length co95)) (fun _ hk => ⟨hk.1.1, hk.1.2⟩)⟩
        have n5_ : Aside0 (Kd.R (Kd.int .u32) 58 ((w93.setCell ⟨g21, 0, none⟩ (.bool false)).setCell ⟨g21, 1, none⟩ (.slice Ao95 t518.length co95)) w.heap.size (fun k_ => (w.heap.size ≤ k_) ∧ some k_ ≠ (v515 : Value).ownBlock) (.slice Ao95 t518.length co95) t518) := ⟨by (with_reducible repeat (first | apply zRa | apply zRn | apply zRd)); exact zRm (Kd.R_far (p := ⟨g21, 1, none⟩) (Kd.R_far (p := ⟨g21, 0, none⟩) (Kd.R_types O20.out K21.out (by decide)) (fun _ hk => hk.2) (.bool false)) (fun _ hk => hk.2) (.slice Ao95 t518.length co95)) (fun _ hk => ⟨hk.1.1, hk.1.2⟩)⟩
        have n6_ : Aside0 (((w93.setCell ⟨g21, 0, none⟩ (.bool false)).setCell ⟨g21, 1, none⟩ (.slice Ao95 t518.length co95)).heap[g05]? = some (.cells #[.bool a0_0, .slice A0_1 l0_1.length c0_1] 24 (0, 0))) := ⟨by (with_reducible repeat (first | refine zKn ?_ _ | refine zKd ?_ | refine zKa ?_ _)); refine blk_far ?_ N05_21.out _; (with_reducible repeat (first | refine zKn ?_ _ | refine zKd ?_ | refine zKa ?_ _)); refine blk_far ?_ N05_21.out _; (with_reducible repeat (first | refine zKn ?_ _ | refine zKd ?_ | refine zKa ?_ _)); exact K05.out⟩
        have n7_ : Aside0 (((w93.setCell ⟨g21, 0, none⟩ (.bool false)).setCell ⟨g21, 1, none⟩ (.slice Ao95 t518.length co95)).heap[g06]? = some (.cells #[.bool a1_0, .slice A1_1 l1_1.length c1_1] 24 (0, 0))) := ⟨by (with_reducible repeat (first | refine zKn ?_ _ | refine zKd ?_ | refine zKa ?_ _)); refine blk_far ?_ N06_21.out _; (with_reducible repeat (first | refine zKn ?_ _ | refine zKd ?_ | refine zKa ?_ _)); refine blk_far ?_ N06_21.out _; (with_reducible repeat (first | refine zKn ?_ _ | refine zKd ?_ | refine zKa ?_ _)); exact K06.out⟩
        have n8_ : Aside0 (((w93.setCell ⟨g21, 0, none⟩ (.bool false)).setCell ⟨g21, 1, none⟩ (.slice Ao95 t518.length co95)).heap[g07]? = some (.cells #[.bool a2_0, .slice A2_1 l2_1.length c2_1] 24 (0, 0))) := ⟨by (with_reducible repeat (first | refine zKn ?_ _ | refine zKd ?_ | refine zKa ?_ _)); refine blk_far ?_ N07_21.out _; (with_reducible repeat (first | refine zKn ?_ _ | refine zKd ?_ | refine zKa ?_ _)); refine blk_far ?_ N07_21.out _; (with_reducible repeat (first | refine zKn ?_ _ | refine zKd ?_ | refine zKa ?_ _)); exact K07.out⟩
        have n9_ : Aside0 (((w93.setCell ⟨g21, 0, none⟩ (.bool false)).setCell ⟨g21, 1, none⟩ (.slice Ao95 t518.length co95)).heap[g21]? = some (.cells #[.bool false, .slice Ao95 t518.length co95] 24 (0, 0))) := ⟨by (with_reducible repeat (first | refine zKn ?_ _ | refine zKd ?_ | refine zKa ?_ _)); refine blk_put (cs := #[.bool false, .slice none 0 0]) ?_ 1 _ rfl; (with_reducible repeat (first | refine zKn ?_ _ | refine zKd ?_ | refine zKa ?_ _)); refine blk_put (cs := #[.bool false, .slice none 0 0]) ?_ 0 _ rfl; (with_reducible repeat (first | refine zKn ?_ _ | refine zKd ?_ | refine zKa ?_ _)); exact K21.out⟩
        have n10_ : Aside0 (Below w.heap.size w ((w93.setCell ⟨g21, 0, none⟩ (.bool false)).setCell ⟨g21, 1, none⟩ (.slice Ao95 t518.length co95))) := ⟨by exact uT HB.out⟩
        generalize ((w93.setCell ⟨g21, 0, none⟩ (.bool false)).setCell ⟨g21, 1, none⟩ (.slice Ao95 t518.length co95)) = w97 at n0_ n1_ n2_ n3_ n4_ n5_ n6_ n7_ n8_ n9_ n10_ ⊢
        have HO0_1 := n0_
        have HO1_1 := n1_
        have HO2_1 := n2_
        have O10 := n3_
        have O16 := n4_
        have O20 := n5_
        have K05 := n6_
        have K06 := n7_
        have K07 := n8_
        have K21 := n9_
        have HB := n10_
        clear n0_ n1_ n2_ n3_ n4_ n5_ n6_ n7_ n8_ n9_ n10_
        replace HO0_1 := zMk (zVd HO0_1.out)
        replace HO1_1 := zMk (zVd HO1_1.out)
        replace HO2_1 := zMk (zVd HO2_1.out)
        replace O10 := zMk (Kd.N_drew O10.out)
        replace O16 := zMk (zRd O16.out)
        replace O20 := zMk (zRd O20.out)
        replace K05 := zMk (zKd K05.out)
        replace K06 := zMk (zKd K06.out)
        replace K07 := zMk (zKd K07.out)
        replace K21 := zMk (zKd K21.out)
        replace HB := zMk (zBd HB.out)
        refine start_ (n := 7) (S := fun w' => w'.cell? ⟨g05, 0, none⟩ = some (.bool a0_0) ∧ w'.cell? ⟨g05, 1, none⟩ = some (.slice A0_1 l0_1.length c0_1) ∧ w'.cell? ⟨g06, 0, none⟩ = some (.bool a1_0) ∧ w'.cell? ⟨g06, 1, none⟩ = some (.slice A1_1 l1_1.length c1_1) ∧ w'.cell? ⟨g07, 0, none⟩ = some (.bool a2_0) ∧ w'.cell? ⟨g07, 1, none⟩ = some (.slice A2_1 l2_1.length c2_1)) (ds := []) #[false, false, false, false, false, false, false] (by kernel_rfl) rfl rfl ⟨(zKc K05.out 0).trans rfl, (zKc K05.out 1).trans rfl, (zKc K06.out 0).trans rfl, (zKc K06.out 1).trans rfl, (zKc K07.out 0).trans rfl, (zKc K07.out 1).trans rfl⟩ (fun hHeld => ?_)
        generalize w97.drew = w98 at HO0_1 HO1_1 HO2_1 O10 O16 O20 K05 K06 K07 K21 HB hHeld ⊢
        refine take_ (i := 0) (N := some 24) (v := ?_) (a' := ?_) #[true, false, false, false, false, false, false] rfl rfl (by kernel_rfl) (fun _ _ _ h => h) (Or.inl ⟨by rfl, ?_⟩) hHeld ?_ ?_
        rotate_left
        ·rintro w' ⟨s0, s1, s2, s3, s4, s5⟩
         go_simp
         with_reducible rfl
        rotate_left
        ·simp only [Act.put, zSa, zSb, zSc, i64_w, i32_w]
         rfl
        refine take_ (i := 1) (N := some 25) (v := ?_) (a' := ?_) #[true, true, false, false, false, false, false] rfl rfl (by kernel_rfl) (fun _ _ _ h => h) (Or.inl ⟨by rfl, ?_⟩) hHeld ?_ ?_
        rotate_left
        ·rintro w' ⟨s0, s1, s2, s3, s4, s5⟩
         go_simp
         with_reducible rfl
        rotate_left
        ·simp only [Act.put, zSa, zSb, zSc, i64_w, i32_w]
         rfl
        refine take_ (i := 2) (N := some 26) (v := ?_) (a' := ?_) #[true, true, true, false, false, false, false] rfl rfl (by kernel_rfl) (fun _ _ _ h => h) (Or.inl ⟨by rfl, ?_⟩) hHeld ?_ ?_
        rotate_left
        ·rintro w' ⟨s0, s1, s2, s3, s4, s5⟩
         go_simp
         with_reducible rfl
        rotate_left
        ·simp only [Act.put, zSa, zSb, zSc, i64_w, i32_w]
         rfl
        refine join_ (σ := Value × Value × Nat) 1 #[true, true, true, true, true, true, false] (fun s_ => [(27, .agg #[.bool t522, s_.1]), (28, .agg #[.bool t526, s_.2.1]), (8, .pointer (some ⟨s_.2.2, 0, none⟩))]) (fun s_ w' => (w'.cell? ⟨g05, 0, none⟩ = some (.bool a0_0) ∧ w'.cell? ⟨g05, 1, none⟩ = some (.slice A0_1 l0_1.length c0_1) ∧ w'.cell? ⟨g06, 0, none⟩ = some (.bool a1_0) ∧ w'.cell? ⟨g06, 1, none⟩ = some (.slice A1_1 l1_1.length c1_1) ∧ w'.cell? ⟨g07, 0, none⟩ = some (.bool a2_0) ∧ w'.cell? ⟨g07, 1, none⟩ = some (.slice A2_1 l2_1.length c2_1)) ∧ (Kd.V (Kd.int .u32) 58 w' w.heap.size (fun k_ => ((P0_1_ k_ ∨ P1_1_ k_ ∨ P2_1_ k_) ∨ w.heap.size ≤ k_) ∧ some k_ ≠ (.slice Ao87 y508.length co87 : Value).ownBlock ∧ some k_ ≠ (v515 : Value).ownBlock ∧ some k_ ≠ (.slice Ao95 t518.length co95 : Value).ownBlock ∧ some k_ ≠ (s_.1 : Value).ownBlock ∧ some k_ ≠ (s_.2.1 : Value).ownBlock ∧ k_ ≠ g05 ∧ k_ ≠ g06 ∧ k_ ≠ g07 ∧ k_ ≠ g21 ∧ k_ ≠ s_.2.2) (.slice A0_1 l0_1.length c0_1) l0_1) ∧ (Kd.V (Kd.int .u32) 58 w' w.heap.size (fun k_ => ((P0_1_ k_ ∨ P1_1_ k_ ∨ P2_1_ k_) ∨ w.heap.size ≤ k_) ∧ some k_ ≠ (.slice Ao87 y508.length co87 : Value).ownBlock ∧ some k_ ≠ (v515 : Value).ownBlock ∧ some k_ ≠ (.slice Ao95 t518.length co95 : Value).ownBlock ∧ some k_ ≠ (s_.1 : Value).ownBlock ∧ some k_ ≠ (s_.2.1 : Value).ownBlock ∧ k_ ≠ g05 ∧ k_ ≠ g06 ∧ k_ ≠ g07 ∧ k_ ≠ g21 ∧ k_ ≠ s_.2.2) (.slice A1_1 l1_1.length c1_1) l1_1) ∧ (Kd.V (Kd.int .u32) 58 w' w.heap.size (fun k_ => ((P0_1_ k_ ∨ P1_1_ k_ ∨ P2_1_ k_) ∨ w.heap.size ≤ k_) ∧ some k_ ≠ (.slice Ao87 y508.length co87 : Value).ownBlock ∧ some k_ ≠ (v515 : Value).ownBlock ∧ some k_ ≠ (.slice Ao95 t518.length co95 : Value).ownBlock ∧ some k_ ≠ (s_.1 : Value).ownBlock ∧ some k_ ≠ (s_.2.1 : Value).ownBlock ∧ k_ ≠ g05 ∧ k_ ≠ g06 ∧ k_ ≠ g07 ∧ k_ ≠ g21 ∧ k_ ≠ s_.2.2) (.slice A2_1 l2_1.length c2_1) l2_1) ∧ (Kd.N (Kd.slice 58 (Kd.int .u32)) 22 w' w.heap.size (fun k_ => ((P0_1_ k_ ∨ P1_1_ k_ ∨ P2_1_ k_) ∨ w.heap.size ≤ k_) ∧ some k_ ≠ (v515 : Value).ownBlock ∧ some k_ ≠ (.slice Ao95 t518.length co95 : Value).ownBlock ∧ some k_ ≠ (s_.1 : Value).ownBlock ∧ some k_ ≠ (s_.2.1 : Value).ownBlock ∧ k_ ≠ g05 ∧ k_ ≠ g06 ∧ k_ ≠ g07 ∧ k_ ≠ g21 ∧ k_ ≠ s_.2.2) (.slice Ao87 y508.length co87) y508) ∧ (Kd.R (Kd.int .u32) 58 w' w.heap.size (fun k_ => (w.heap.size ≤ k_) ∧ some k_ ≠ (.slice Ao95 t518.length co95 : Value).ownBlock ∧ some k_ ≠ (s_.1 : Value).ownBlock ∧ some k_ ≠ (s_.2.1 : Value).ownBlock) v515 t514) ∧ (Kd.R (Kd.int .u32) 58 w' w.heap.size (fun k_ => (w.heap.size ≤ k_) ∧ some k_ ≠ (v515 : Value).ownBlock ∧ some k_ ≠ (s_.1 : Value).ownBlock ∧ some k_ ≠ (s_.2.1 : Value).ownBlock) (.slice Ao95 t518.length co95) t518) ∧ (Kd.R (Kd.int .u32) 58 w' w.heap.size (fun k_ => (w.heap.size ≤ k_) ∧ some k_ ≠ (v515 : Value).ownBlock ∧ some k_ ≠ (.slice Ao95 t518.length co95 : Value).ownBlock ∧ some k_ ≠ (s_.2.1 : Value).ownBlock) s_.1 t523) ∧ (Kd.R (Kd.int .u32) 58 w' w.heap.size (fun k_ => (w.heap.size ≤ k_) ∧ some k_ ≠ (v515 : Value).ownBlock ∧ some k_ ≠ (.slice Ao95 t518.length co95 : Value).ownBlock ∧ some k_ ≠ (s_.1 : Value).ownBlock) s_.2.1 t527) ∧ (w'.heap[g05]? = some (.cells #[.bool a0_0, .slice A0_1 l0_1.length c0_1] 24 (0, 0))) ∧ (w'.heap[g06]? = some (.cells #[.bool a1_0, .slice A1_1 l1_1.length c1_1] 24 (0, 0))) ∧ (w'.heap[g07]? = some (.cells #[.bool a2_0, .slice A2_1 l2_1.length c2_1] 24 (0, 0))) ∧ (w'.heap[g21]? = some (.cells #[.bool false, .slice Ao95 t518.length co95] 24 (0, 0))) ∧ (w'.heap[s_.2.2]? = some (.cells #[.bool false, .slice none 0 0] 24 (0, 0))) ∧ (w.heap.size ≤ s_.2.2) ∧ (w.heap.size ≤ s_.2.2) ∧ (g05 ≠ s_.2.2) ∧ (s_.2.2 ≠ g05) ∧ (g06 ≠ s_.2.2) ∧ (s_.2.2 ≠ g06) ∧ (g07 ≠ s_.2.2) ∧ (s_.2.2 ≠ g07) ∧ (g21 ≠ s_.2.2) ∧ (s_.2.2 ≠ g21) ∧ (Below w.heap.size w w')) ?_ ?_
        rotate_left
        ·intro hCont
         refine two_ (i := 3) (j := 5) (Ni := some 27) (Nj := some 8) #[true, true, true, true, false, false, false] #[true, true, true, false, false, true, false] rfl rfl rfl rfl (by kernel_rfl) (by decide) (by decide) (fun K hK => ?_) (fun K hK => ?_)
         ·skip
          refine goes_ Tryd.func17 (by kernel_rfl) rfl #[.agg #[.bool a1_0, .slice A1_1 l1_1.length c1_1], .agg #[.bool a2_0, .slice A2_1 l2_1.length c2_1]] (by rfl) rfl rfl (by (try simp only [zMa, zMc, zMn]); first | done | rfl | (simp only [zLd, zLt]; rfl)) ?_
          with_reducible refine (integer_Add.calls k a1_0 _ _ l1_1 a2_0 _ _ l2_1 t522 t523 _ ?side1 ?side2 ?side3 ?side4 A8.out).mono ?_
          (case side1 => exact uC (zVr HO1_1.out).2.2)
          (case side2 => exact (zVr HO1_1.out).2.1)
          (case side3 => exact uC (zVr HO2_1.out).2.2)
          (case side4 => exact (zVr HO2_1.out).2.1)
          rintro e w99 ⟨v524, rfl, ho0, hb⟩
          refine ⟨_, rfl, ?_⟩
          replace HO0_1 := zMk (zVe (by exact uV HO0_1.out) (zRz ho0) hb)
          replace HO1_1 := zMk (zVe (by exact uV HO1_1.out) (zRz ho0) hb)
          replace HO2_1 := zMk (zVe (by exact uV HO2_1.out) (zRz ho0) hb)
          replace O10 := zMk (Kd.N_elder' (by exact uN O10.out) (zRz ho0) hb)
          have O25 := zMk (zRl (zRw (zRw (Kd.R_newM (M := fun k_ => (w.heap.size ≤ k_)) ho0 (zBs (by exact uT HB.out)) (fun k_ h_ => h_)) (zRt (by exact uR O16.out))) (zRt (by exact uR O20.out))) (zBs (by exact uT HB.out)))
          replace O16 := zMk (zRe (by exact uR O16.out) (zRz ho0) hb)
          replace O20 := zMk (zRe (by exact uR O20.out) (zRz ho0) hb)
          replace K05 := zMk (zKb K05.out hb)
          replace K06 := zMk (zKb K06.out hb)
          replace K07 := zMk (zKb K07.out hb)
          replace K21 := zMk (zKb K21.out hb)
          replace HB := zMk (zBt (by exact uT HB.out) hb)
          obtain ⟨Ao100, co100, eo100⟩ := zRs O25.out
          (first |  subst eo100|  (injection eo100 with f1_ f2_ f3_; have f4_ := f1_.symm; have f5_ := f3_.symm; clear f1_ f2_ f3_; subst f4_; subst f5_))
          refine hK.out _ _ ⟨(zKc K05.out 0).trans rfl, (zKc K05.out 1).trans rfl, (zKc K06.out 0).trans rfl, (zKc K06.out 1).trans rfl, (zKc K07.out 0).trans rfl, (zKc K07.out 1).trans rfl⟩ (fun hHeld => ?_)
          clear hK K
          refine norm_ (a' := ?_) ?_ ?_
          rotate_left
          ·show Act.put _ (some 27) _ = _
           simp only [Act.put, zSa, zSb, zSc, i64_w, i32_w]
           rfl
          refine two_ (i := 4) (j := 5) (Ni := some 28) (Nj := some 8) #[true, true, true, true, true, false, false] #[true, true, true, true, false, true, false] rfl rfl rfl rfl (by kernel_rfl) (by decide) (by decide) (fun K hK => ?_) (fun K hK => ?_)
          ·skip
           refine goes_ Tryd.func21 (by kernel_rfl) rfl #[.agg #[.bool a0_0, .slice A0_1 l0_1.length c0_1], .agg #[.bool t522, .slice Ao100 t523.length co100]] (by rfl) rfl rfl (by (try simp only [zMa, zMc, zMn]); first | done | rfl | (simp only [zLd, zLt]; rfl)) ?_
           with_reducible refine (integer_Mul.calls k a0_0 _ _ l0_1 t522 _ _ t523 t526 t527 _ ?side1 ?side2 ?side3 ?side4 A9.out).mono ?_
           (case side1 => exact uC (zVr HO0_1.out).2.2)
           (case side2 => exact (zVr HO0_1.out).2.1)
           (case side3 => exact uC (zRr O25.out).2.2)
           (case side4 => exact (zRr O25.out).2.1)
           rintro e w101 ⟨v528, rfl, ho0, hb⟩
           refine ⟨_, rfl, ?_⟩
           replace HO0_1 := zMk (zVe (by exact uV HO0_1.out) (zRz ho0) hb)
           replace HO1_1 := zMk (zVe (by exact uV HO1_1.out) (zRz ho0) hb)
           replace HO2_1 := zMk (zVe (by exact uV HO2_1.out) (zRz ho0) hb)
           replace O10 := zMk (Kd.N_elder' (by exact uN O10.out) (zRz ho0) hb)
           have O29 := zMk (zRl (zRw (zRw (zRw (Kd.R_newM (M := fun k_ => (w.heap.size ≤ k_)) ho0 (zBs (by exact uT HB.out)) (fun k_ h_ => h_)) (zRt (by exact uR O16.out))) (zRt (by exact uR O20.out))) (zRt (by exact uR O25.out))) (zBs (by exact uT HB.out)))
           replace O16 := zMk (zRe (by exact uR O16.out) (zRz ho0) hb)
           replace O20 := zMk (zRe (by exact uR O20.out) (zRz ho0) hb)
           replace O25 := zMk (zRe (by exact uR O25.out) (zRz ho0) hb)
           replace K05 := zMk (zKb K05.out hb)
           replace K06 := zMk (zKb K06.out hb)
           replace K07 := zMk (zKb K07.out hb)
           replace K21 := zMk (zKb K21.out hb)
           replace HB := zMk (zBt (by exact uT HB.out) hb)
           refine hK.out _ _ ⟨(zKc K05.out 0).trans rfl, (zKc K05.out 1).trans rfl, (zKc K06.out 0).trans rfl, (zKc K06.out 1).trans rfl, (zKc K07.out 0).trans rfl, (zKc K07.out 1).trans rfl⟩ (fun hHeld => ?_)
           clear hK K
           refine norm_ (a' := ?_) ?_ ?_
           rotate_left
           ·show Act.put _ (some 28) _ = _
            simp only [Act.put, zSa, zSb, zSc, i64_w, i32_w]
            rfl
           refine one_ (i := 5) (N := some 8) #[true, true, true, true, true, true, false] rfl rfl (by kernel_rfl) (by decide) (fun K hK => ?_)
           refine box_step ?hg (N := 8) ?hd (cs := #[.bool false, .slice none 0 0]) (t := 24) ?hr ?_; (case hd => rfl); (case hg => rfl); (case hr => first | (go_simp; done) | (go_simp; rfl) | (go_simp; rw [show ∀ x : Int, IntKind.u32.wrap (IntKind.u8.wrap x) = x % 256 from fun x => (by show (x % 256) % 4294967296 = x % 256; omega)]))
           intro g30 hg w102 hbox hb
           replace HO0_1 := zMk (zVb (Kd.V_elderB (by exact uV HO0_1.out) g30 (Nat.le_of_eq hg.symm)) hb)
           replace HO1_1 := zMk (zVb (Kd.V_elderB (by exact uV HO1_1.out) g30 (Nat.le_of_eq hg.symm)) hb)
           replace HO2_1 := zMk (zVb (Kd.V_elderB (by exact uV HO2_1.out) g30 (Nat.le_of_eq hg.symm)) hb)
           replace O10 := zMk (Kd.N_below (Kd.N_elderB (by exact uN O10.out) g30 (Nat.le_of_eq hg.symm)) hb)
           replace O16 := zMk (zRb (by exact uR O16.out) hb)
           replace O20 := zMk (zRb (by exact uR O20.out) hb)
           replace O25 := zMk (zRb (by exact uR O25.out) hb)
           replace O29 := zMk (zRb (by exact uR O29.out) hb)
           have K30 := zMk (hbox)
           have W30 := zMk ((by rw [hg]; exact (zBs (by exact uT HB.out)) : w.heap.size ≤ g30))
           have E30 := zMk ((by rw [hg]; exact (zBs (by exact uT HB.out)) : w.heap.size ≤ g30))
           have IGE530 := ownGe E30.out
           replace HB := zMk (zBt (by exact uT HB.out) hb)
           have N05_30 := zMk ((by rw [hg]; exact Nat.ne_of_lt (blk_lt (g := g05) (o := .cells #[.bool a0_0, .slice A0_1 l0_1.length c0_1] 24 (0, 0)) K05.out) : g05 ≠ g30))
           have N30_05 := zMk ((by rw [hg]; exact Nat.ne_of_gt (blk_lt (g := g05) (o := .cells #[.bool a0_0, .slice A0_1 l0_1.length c0_1] 24 (0, 0)) K05.out) : g30 ≠ g05))
           replace K05 := zMk (zKb K05.out hb)
           have N06_30 := zMk ((by rw [hg]; exact Nat.ne_of_lt (blk_lt (g := g06) (o := .cells #[.bool a1_0, .slice A1_1 l1_1.length c1_1] 24 (0, 0)) K06.out) : g06 ≠ g30))
           have N30_06 := zMk ((by rw [hg]; exact Nat.ne_of_gt (blk_lt (g := g06) (o := .cells #[.bool a1_0, .slice A1_1 l1_1.length c1_1] 24 (0, 0)) K06.out) : g30 ≠ g06))
           replace K06 := zMk (zKb K06.out hb)
           have N07_30 := zMk ((by rw [hg]; exact Nat.ne_of_lt (blk_lt (g := g07) (o := .cells #[.bool a2_0, .slice A2_1 l2_1.length c2_1] 24 (0, 0)) K07.out) : g07 ≠ g30))
           have N30_07 := zMk ((by rw [hg]; exact Nat.ne_of_gt (blk_lt (g := g07) (o := .cells #[.bool a2_0, .slice A2_1 l2_1.length c2_1] 24 (0, 0)) K07.out) : g30 ≠ g07))
           replace K07 := zMk (zKb K07.out hb)
           have N21_30 := zMk ((by rw [hg]; exact Nat.ne_of_lt (blk_lt (g := g21) (o := .cells #[.bool false, .slice Ao95 t518.length co95] 24 (0, 0)) K21.out) : g21 ≠ g30))
           have N30_21 := zMk ((by rw [hg]; exact Nat.ne_of_gt (blk_lt (g := g21) (o := .cells #[.bool false, .slice Ao95 t518.length co95] 24 (0, 0)) K21.out) : g30 ≠ g21))
           replace K21 := zMk (zKb K21.out hb)
           clear hb hbox hg
           refine hK.out _ _ ⟨(zKc K05.out 0).trans rfl, (zKc K05.out 1).trans rfl, (zKc K06.out 0).trans rfl, (zKc K06.out 1).trans rfl, (zKc K07.out 0).trans rfl, (zKc K07.out 1).trans rfl⟩ (fun hHeld => ?_)
           clear hK K
           refine norm_ (a' := ?_) ?_ ?_
           rotate_left
           ·show Act.put _ (some 8) _ = _
            simp only [Act.put, zSa, zSb, zSc, i64_w, i32_w]
            rfl
           exact norm_ (by simp only [putAll, Act.put, zSa, zSb, zSc]) (hCont (.slice Ao100 t523.length co100, v528, g30) _ ⟨hHeld, zVm HO0_1.out (fun _ hk => (by grind)), zVm HO1_1.out (fun _ hk => (by grind)), zVm HO2_1.out (fun _ hk => (by grind)), Kd.N_mono O10.out (fun _ hk => (by grind)), zRm O16.out (fun _ hk => (by grind)), zRm O20.out (fun _ hk => (by grind)), zRm O25.out (fun _ hk => (by grind)), zRm O29.out (fun _ hk => (by grind)), K05.out, K06.out, K07.out, K21.out, K30.out, W30.out, E30.out, N05_30.out, N30_05.out, N06_30.out, N30_06.out, N07_30.out, N30_07.out, N21_30.out, N30_21.out, (by exact uT HB.out)⟩)
          ·skip
           refine box_step ?hg (N := 8) ?hd (cs := #[.bool false, .slice none 0 0]) (t := 24) ?hr ?_; (case hd => rfl); (case hg => rfl); (case hr => first | (go_simp; done) | (go_simp; rfl) | (go_simp; rw [show ∀ x : Int, IntKind.u32.wrap (IntKind.u8.wrap x) = x % 256 from fun x => (by show (x % 256) % 4294967296 = x % 256; omega)]))
           intro g30 hg w100 hbox hb
           replace HO0_1 := zMk (zVb (Kd.V_elderB (by exact uV HO0_1.out) g30 (Nat.le_of_eq hg.symm)) hb)
           replace HO1_1 := zMk (zVb (Kd.V_elderB (by exact uV HO1_1.out) g30 (Nat.le_of_eq hg.symm)) hb)
           replace HO2_1 := zMk (zVb (Kd.V_elderB (by exact uV HO2_1.out) g30 (Nat.le_of_eq hg.symm)) hb)
           replace O10 := zMk (Kd.N_below (Kd.N_elderB (by exact uN O10.out) g30 (Nat.le_of_eq hg.symm)) hb)
           replace O16 := zMk (zRb (by exact uR O16.out) hb)
           replace O20 := zMk (zRb (by exact uR O20.out) hb)
           replace O25 := zMk (zRb (by exact uR O25.out) hb)
           have K30 := zMk (hbox)
           have W30 := zMk ((by rw [hg]; exact (zBs (by exact uT HB.out)) : w.heap.size ≤ g30))
           have E30 := zMk ((by rw [hg]; exact (zBs (by exact uT HB.out)) : w.heap.size ≤ g30))
           have IGE530 := ownGe E30.out
           replace HB := zMk (zBt (by exact uT HB.out) hb)
           have N05_30 := zMk ((by rw [hg]; exact Nat.ne_of_lt (blk_lt (g := g05) (o := .cells #[.bool a0_0, .slice A0_1 l0_1.length c0_1] 24 (0, 0)) K05.out) : g05 ≠ g30))
           have N30_05 := zMk ((by rw [hg]; exact Nat.ne_of_gt (blk_lt (g := g05) (o := .cells #[.bool a0_0, .slice A0_1 l0_1.length c0_1] 24 (0, 0)) K05.out) : g30 ≠ g05))
           replace K05 := zMk (zKb K05.out hb)
           have N06_30 := zMk ((by rw [hg]; exact Nat.ne_of_lt (blk_lt (g := g06) (o := .cells #[.bool a1_0, .slice A1_1 l1_1.length c1_1] 24 (0, 0)) K06.out) : g06 ≠ g30))
           have N30_06 := zMk ((by rw [hg]; exact Nat.ne_of_gt (blk_lt (g := g06) (o := .cells #[.bool a1_0, .slice A1_1 l1_1.length c1_1] 24 (0, 0)) K06.out) : g30 ≠ g06))
           replace K06 := zMk (zKb K06.out hb)
           have N07_30 := zMk ((by rw [hg]; exact Nat.ne_of_lt (blk_lt (g := g07) (o := .cells #[.bool a2_0, .slice A2_1 l2_1.length c2_1] 24 (0, 0)) K07.out) : g07 ≠ g30))
           have N30_07 := zMk ((by rw [hg]; exact Nat.ne_of_gt (blk_lt (g := g07) (o := .cells #[.bool a2_0, .slice A2_1 l2_1.length c2_1] 24 (0, 0)) K07.out) : g30 ≠ g07))
           replace K07 := zMk (zKb K07.out hb)
           have N21_30 := zMk ((by rw [hg]; exact Nat.ne_of_lt (blk_lt (g := g21) (o := .cells #[.bool false, .slice Ao95 t518.length co95] 24 (0, 0)) K21.out) : g21 ≠ g30))
           have N30_21 := zMk ((by rw [hg]; exact Nat.ne_of_gt (blk_lt (g := g21) (o := .cells #[.bool false, .slice Ao95 t518.length co95] 24 (0, 0)) K21.out) : g30 ≠ g21))
           replace K21 := zMk (zKb K21.out hb)
           clear hb hbox hg
           obtain ⟨Ao101, co101, eo101⟩ := zRs O25.out
           (first |  subst eo101|  (injection eo101 with f1_ f2_ f3_; have f4_ := f1_.symm; have f5_ := f3_.symm; clear f1_ f2_ f3_; subst f4_; subst f5_))
           refine hK.out _ _ ⟨(zKc K05.out 0).trans rfl, (zKc K05.out 1).trans rfl, (zKc K06.out 0).trans rfl, (zKc K06.out 1).trans rfl, (zKc K07.out 0).trans rfl, (zKc K07.out 1).trans rfl⟩ (fun hHeld => ?_)
           clear hK K
           refine norm_ (a' := ?_) ?_ ?_
           rotate_left
           ·show Act.put _ (some 8) _ = _
            simp only [Act.put, zSa, zSb, zSc, i64_w, i32_w]
            rfl
           refine one_ (i := 4) (N := some 28) #[true, true, true, true, true, true, false] rfl rfl (by kernel_rfl) (by decide) (fun K hK => ?_)
           refine goes_ Tryd.func21 (by kernel_rfl) rfl #[.agg #[.bool a0_0, .slice A0_1 l0_1.length c0_1], .agg #[.bool t522, .slice Ao101 t523.length co101]] (by rfl) rfl rfl (by (try simp only [zMa, zMc, zMn]); first | done | rfl | (simp only [zLd, zLt]; rfl)) ?_
           with_reducible refine (integer_Mul.calls k a0_0 _ _ l0_1 t522 _ _ t523 t526 t527 _ ?side1 ?side2 ?side3 ?side4 A9.out).mono ?_
           (case side1 => exact uC (zVr HO0_1.out).2.2)
           (case side2 => exact (zVr HO0_1.out).2.1)
           (case side3 => exact uC (zRr O25.out).2.2)
           (case side4 => exact (zRr O25.out).2.1)
           rintro e w102 ⟨v528, rfl, ho0, hb⟩
           refine ⟨_, rfl, ?_⟩
           replace HO0_1 := zMk (zVe (by exact uV HO0_1.out) (zRz ho0) hb)
           replace HO1_1 := zMk (zVe (by exact uV HO1_1.out) (zRz ho0) hb)
           replace HO2_1 := zMk (zVe (by exact uV HO2_1.out) (zRz ho0) hb)
           replace O10 := zMk (Kd.N_elder' (by exact uN O10.out) (zRz ho0) hb)
           have O29 := zMk (zRl (zRw (zRw (zRw (Kd.R_newM (M := fun k_ => (w.heap.size ≤ k_)) ho0 (zBs (by exact uT HB.out)) (fun k_ h_ => h_)) (zRt (by exact uR O16.out))) (zRt (by exact uR O20.out))) (zRt (by exact uR O25.out))) (zBs (by exact uT HB.out)))
           replace O16 := zMk (zRe (by exact uR O16.out) (zRz ho0) hb)
           replace O20 := zMk (zRe (by exact uR O20.out) (zRz ho0) hb)
           replace O25 := zMk (zRe (by exact uR O25.out) (zRz ho0) hb)
           replace K05 := zMk (zKb K05.out hb)
           replace K06 := zMk (zKb K06.out hb)
           replace K07 := zMk (zKb K07.out hb)
           replace K21 := zMk (zKb K21.out hb)
           replace K30 := zMk (zKb K30.out hb)
           replace HB := zMk (zBt (by exact uT HB.out) hb)
           refine hK.out _ _ ⟨(zKc K05.out 0).trans rfl, (zKc K05.out 1).trans rfl, (zKc K06.out 0).trans rfl, (zKc K06.out 1).trans rfl, (zKc K07.out 0).trans rfl, (zKc K07.out 1).trans rfl⟩ (fun hHeld => ?_)
           clear hK K
           refine norm_ (a' := ?_) ?_ ?_
           rotate_left
           ·show Act.put _ (some 28) _ = _
            simp only [Act.put, zSa, zSb, zSc, i64_w, i32_w]
            rfl
           exact norm_ (by simp only [putAll, Act.put, zSa, zSb, zSc]) (hCont (.slice Ao101 t523.length co101, v528, g30) _ ⟨hHeld, zVm HO0_1.out (fun _ hk => (by grind)), zVm HO1_1.out (fun _ hk => (by grind)), zVm HO2_1.out (fun _ hk => (by grind)), Kd.N_mono O10.out (fun _ hk => (by grind)), zRm O16.out (fun _ hk => (by grind)), zRm O20.out (fun _ hk => (by grind)), zRm O25.out (fun _ hk => (by grind)), zRm O29.out (fun _ hk => (by grind)), K05.out, K06.out, K07.out, K21.out, K30.out, W30.out, E30.out, N05_30.out, N30_05.out, N06_30.out, N30_06.out, N07_30.out, N30_07.out, N21_30.out, N30_21.out, (by exact uT HB.out)⟩)
         ·skip
          refine box_step ?hg (N := 8) ?hd (cs := #[.bool false, .slice none 0 0]) (t := 24) ?hr ?_; (case hd => rfl); (case hg => rfl); (case hr => first | (go_simp; done) | (go_simp; rfl) | (go_simp; rw [show ∀ x : Int, IntKind.u32.wrap (IntKind.u8.wrap x) = x % 256 from fun x => (by show (x % 256) % 4294967296 = x % 256; omega)]))
          intro g30 hg w99 hbox hb
          replace HO0_1 := zMk (zVb (Kd.V_elderB (by exact uV HO0_1.out) g30 (Nat.le_of_eq hg.symm)) hb)
          replace HO1_1 := zMk (zVb (Kd.V_elderB (by exact uV HO1_1.out) g30 (Nat.le_of_eq hg.symm)) hb)
          replace HO2_1 := zMk (zVb (Kd.V_elderB (by exact uV HO2_1.out) g30 (Nat.le_of_eq hg.symm)) hb)
          replace O10 := zMk (Kd.N_below (Kd.N_elderB (by exact uN O10.out) g30 (Nat.le_of_eq hg.symm)) hb)
          replace O16 := zMk (zRb (by exact uR O16.out) hb)
          replace O20 := zMk (zRb (by exact uR O20.out) hb)
          have K30 := zMk (hbox)
          have W30 := zMk ((by rw [hg]; exact (zBs (by exact uT HB.out)) : w.heap.size ≤ g30))
          have E30 := zMk ((by rw [hg]; exact (zBs (by exact uT HB.out)) : w.heap.size ≤ g30))
          have IGE530 := ownGe E30.out
          replace HB := zMk (zBt (by exact uT HB.out) hb)
          have N05_30 := zMk ((by rw [hg]; exact Nat.ne_of_lt (blk_lt (g := g05) (o := .cells #[.bool a0_0, .slice A0_1 l0_1.length c0_1] 24 (0, 0)) K05.out) : g05 ≠ g30))
          have N30_05 := zMk ((by rw [hg]; exact Nat.ne_of_gt (blk_lt (g := g05) (o := .cells #[.bool a0_0, .slice A0_1 l0_1.length c0_1] 24 (0, 0)) K05.out) : g30 ≠ g05))
          replace K05 := zMk (zKb K05.out hb)
          have N06_30 := zMk ((by rw [hg]; exact Nat.ne_of_lt (blk_lt (g := g06) (o := .cells #[.bool a1_0, .slice A1_1 l1_1.length c1_1] 24 (0, 0)) K06.out) : g06 ≠ g30))
          have N30_06 := zMk ((by rw [hg]; exact Nat.ne_of_gt (blk_lt (g := g06) (o := .cells #[.bool a1_0, .slice A1_1 l1_1.length c1_1] 24 (0, 0)) K06.out) : g30 ≠ g06))
          replace K06 := zMk (zKb K06.out hb)
          have N07_30 := zMk ((by rw [hg]; exact Nat.ne_of_lt (blk_lt (g := g07) (o := .cells #[.bool a2_0, .slice A2_1 l2_1.length c2_1] 24 (0, 0)) K07.out) : g07 ≠ g30))
          have N30_07 := zMk ((by rw [hg]; exact Nat.ne_of_gt (blk_lt (g := g07) (o := .cells #[.bool a2_0, .slice A2_1 l2_1.length c2_1] 24 (0, 0)) K07.out) : g30 ≠ g07))
          replace K07 := zMk (zKb K07.out hb)
          have N21_30 := zMk ((by rw [hg]; exact Nat.ne_of_lt (blk_lt (g := g21) (o := .cells #[.bool false, .slice Ao95 t518.length co95] 24 (0, 0)) K21.out) : g21 ≠ g30))
          have N30_21 := zMk ((by rw [hg]; exact Nat.ne_of_gt (blk_lt (g := g21) (o := .cells #[.bool false, .slice Ao95 t518.length co95] 24 (0, 0)) K21.out) : g30 ≠ g21))
          replace K21 := zMk (zKb K21.out hb)
          clear hb hbox hg
          refine hK.out _ _ ⟨(zKc K05.out 0).trans rfl, (zKc K05.out 1).trans rfl, (zKc K06.out 0).trans rfl, (zKc K06.out 1).trans rfl, (zKc K07.out 0).trans rfl, (zKc K07.out 1).trans rfl⟩ (fun hHeld => ?_)
          clear hK K
          refine norm_ (a' := ?_) ?_ ?_
          rotate_left
          ·show Act.put _ (some 8) _ = _
           simp only [Act.put, zSa, zSb, zSc, i64_w, i32_w]
           rfl
          refine one_ (i := 3) (N := some 27) #[true, true, true, true, false, true, false] rfl rfl (by kernel_rfl) (by decide) (fun K hK => ?_)
          refine goes_ Tryd.func17 (by kernel_rfl) rfl #[.agg #[.bool a1_0, .slice A1_1 l1_1.length c1_1], .agg #[.bool a2_0, .slice A2_1 l2_1.length c2_1]] (by rfl) rfl rfl (by (try simp only [zMa, zMc, zMn]); first | done | rfl | (simp only [zLd, zLt]; rfl)) ?_
          with_reducible refine (integer_Add.calls k a1_0 _ _ l1_1 a2_0 _ _ l2_1 t522 t523 _ ?side1 ?side2 ?side3 ?side4 A8.out).mono ?_
          (case side1 => exact uC (zVr HO1_1.out).2.2)
          (case side2 => exact (zVr HO1_1.out).2.1)
          (case side3 => exact uC (zVr HO2_1.out).2.2)
          (case side4 => exact (zVr HO2_1.out).2.1)
          rintro e w100 ⟨v524, rfl, ho0, hb⟩
          refine ⟨_, rfl, ?_⟩
          replace HO0_1 := zMk (zVe (by exact uV HO0_1.out) (zRz ho0) hb)
          replace HO1_1 := zMk (zVe (by exact uV HO1_1.out) (zRz ho0) hb)
          replace HO2_1 := zMk (zVe (by exact uV HO2_1.out) (zRz ho0) hb)
          replace O10 := zMk (Kd.N_elder' (by exact uN O10.out) (zRz ho0) hb)
          have O25 := zMk (zRl (zRw (zRw (Kd.R_newM (M := fun k_ => (w.heap.size ≤ k_)) ho0 (zBs (by exact uT HB.out)) (fun k_ h_ => h_)) (zRt (by exact uR O16.out))) (zRt (by exact uR O20.out))) (zBs (by exact uT HB.out)))
          replace O16 := zMk (zRe (by exact uR O16.out) (zRz ho0) hb)
          replace O20 := zMk (zRe (by exact uR O20.out) (zRz ho0) hb)
          replace K05 := zMk (zKb K05.out hb)
          replace K06 := zMk (zKb K06.out hb)
          replace K07 := zMk (zKb K07.out hb)
          replace K21 := zMk (zKb K21.out hb)
          replace K30 := zMk (zKb K30.out hb)
          replace HB := zMk (zBt (by exact uT HB.out) hb)
          obtain ⟨Ao101, co101, eo101⟩ := zRs O25.out
          (first |  subst eo101|  (injection eo101 with f1_ f2_ f3_; have f4_ := f1_.symm; have f5_ := f3_.symm; clear f1_ f2_ f3_; subst f4_; subst f5_))
          refine hK.out _ _ ⟨(zKc K05.out 0).trans rfl, (zKc K05.out 1).trans rfl, (zKc K06.out 0).trans rfl, (zKc K06.out 1).trans rfl, (zKc K07.out 0).trans rfl, (zKc K07.out 1).trans rfl⟩ (fun hHeld => ?_)
          clear hK K
          refine norm_ (a' := ?_) ?_ ?_
          rotate_left
          ·show Act.put _ (some 27) _ = _
           simp only [Act.put, zSa, zSb, zSc, i64_w, i32_w]
           rfl
          refine one_ (i := 4) (N := some 28) #[true, true, true, true, true, true, false] rfl rfl (by kernel_rfl) (by decide) (fun K hK => ?_)
          refine goes_ Tryd.func21 (by kernel_rfl) rfl #[.agg #[.bool a0_0, .slice A0_1 l0_1.length c0_1], .agg #[.bool t522, .slice Ao101 t523.length co101]] (by rfl) rfl rfl (by (try simp only [zMa, zMc, zMn]); first | done | rfl | (simp only [zLd, zLt]; rfl)) ?_
          with_reducible refine (integer_Mul.calls k a0_0 _ _ l0_1 t522 _ _ t523 t526 t527 _ ?side1 ?side2 ?side3 ?side4 A9.out).mono ?_
          (case side1 => exact uC (zVr HO0_1.out).2.2)
          (case side2 => exact (zVr HO0_1.out).2.1)
          (case side3 => exact uC (zRr O25.out).2.2)
          (case side4 => exact (zRr O25.out).2.1)
          rintro e w102 ⟨v528, rfl, ho0, hb⟩
          refine ⟨_, rfl, ?_⟩
          replace HO0_1 := zMk (zVe (by exact uV HO0_1.out) (zRz ho0) hb)
          replace HO1_1 := zMk (zVe (by exact uV HO1_1.out) (zRz ho0) hb)
          replace HO2_1 := zMk (zVe (by exact uV HO2_1.out) (zRz ho0) hb)
          replace O10 := zMk (Kd.N_elder' (by exact uN O10.out) (zRz ho0) hb)
          have O29 := zMk (zRl (zRw (zRw (zRw (Kd.R_newM (M := fun k_ => (w.heap.size ≤ k_)) ho0 (zBs (by exact uT HB.out)) (fun k_ h_ => h_)) (zRt (by exact uR O16.out))) (zRt (by exact uR O20.out))) (zRt (by exact uR O25.out))) (zBs (by exact uT HB.out)))
          replace O16 := zMk (zRe (by exact uR O16.out) (zRz ho0) hb)
          replace O20 := zMk (zRe (by exact uR O20.out) (zRz ho0) hb)
          replace O25 := zMk (zRe (by exact uR O25.out) (zRz ho0) hb)
          replace K05 := zMk (zKb K05.out hb)
          replace K06 := zMk (zKb K06.out hb)
          replace K07 := zMk (zKb K07.out hb)
          replace K21 := zMk (zKb K21.out hb)
          replace K30 := zMk (zKb K30.out hb)
          replace HB := zMk (zBt (by exact uT HB.out) hb)
          refine hK.out _ _ ⟨(zKc K05.out 0).trans rfl, (zKc K05.out 1).trans rfl, (zKc K06.out 0).trans rfl, (zKc K06.out 1).trans rfl, (zKc K07.out 0).trans rfl, (zKc K07.out 1).trans rfl⟩ (fun hHeld => ?_)
          clear hK K
          refine norm_ (a' := ?_) ?_ ?_
          rotate_left
          ·show Act.put _ (some 28) _ = _
           simp only [Act.put, zSa, zSb, zSc, i64_w, i32_w]
           rfl
          exact norm_ (by simp only [putAll, Act.put, zSa, zSb, zSc]) (hCont (.slice Ao101 t523.length co101, v528, g30) _ ⟨hHeld, zVm HO0_1.out (fun _ hk => (by grind)), zVm HO1_1.out (fun _ hk => (by grind)), zVm HO2_1.out (fun _ hk => (by grind)), Kd.N_mono O10.out (fun _ hk => (by grind)), zRm O16.out (fun _ hk => (by grind)), zRm O20.out (fun _ hk => (by grind)), zRm O25.out (fun _ hk => (by grind)), zRm O29.out (fun _ hk => (by grind)), K05.out, K06.out, K07.out, K21.out, K30.out, W30.out, E30.out, N05_30.out, N30_05.out, N06_30.out, N30_06.out, N07_30.out, N30_07.out, N21_30.out, N30_21.out, (by exact uT HB.out)⟩)
        rintro ⟨v524, v528, g30⟩ w103 ⟨hS_, h0_, h1_, h2_, h3_, h4_, h5_, h6_, h7_, h8_, h9_, h10_, h11_, h12_, h13_, h14_, h15_, h16_, h17_, h18_, h19_, h20_, h21_, h22_, h23_⟩
        have n0_ : Aside0 (Kd.V (Kd.int .u32) 58 w103 w.heap.size (fun k_ => ((P0_1_ k_ ∨ P1_1_ k_ ∨ P2_1_ k_) ∨ w.heap.size ≤ k_) ∧ some k_ ≠ (.slice Ao87 y508.length co87 : Value).ownBlock ∧ some k_ ≠ (v515 : Value).ownBlock ∧ some k_ ≠ (.slice Ao95 t518.length co95 : Value).ownBlock ∧ some k_ ≠ (v524 : Value).ownBlock ∧ some k_ ≠ (v528 : Value).ownBlock ∧ k_ ≠ g05 ∧ k_ ≠ g06 ∧ k_ ≠ g07 ∧ k_ ≠ g21 ∧ k_ ≠ g30) (.slice A0_1 l0_1.length c0_1) l0_1) := ⟨h0_⟩
        have n1_ : Aside0 (Kd.V (Kd.int .u32) 58 w103 w.heap.size (fun k_ => ((P0_1_ k_ ∨ P1_1_ k_ ∨ P2_1_ k_) ∨ w.heap.size ≤ k_) ∧ some k_ ≠ (.slice Ao87 y508.length co87 : Value).ownBlock ∧ some k_ ≠ (v515 : Value).ownBlock ∧ some k_ ≠ (.slice Ao95 t518.length co95 : Value).ownBlock ∧ some k_ ≠ (v524 : Value).ownBlock ∧ some k_ ≠ (v528 : Value).ownBlock ∧ k_ ≠ g05 ∧ k_ ≠ g06 ∧ k_ ≠ g07 ∧ k_ ≠ g21 ∧ k_ ≠ g30) (.slice A1_1 l1_1.length c1_1) l1_1) := ⟨h1_⟩
        have n2_ : Aside0 (Kd.V (Kd.int .u32) 58 w103 w.heap.size (fun k_ => ((P0_1_ k_ ∨ P1_1_ k_ ∨ P2_1_ k_) ∨ w.heap.size ≤ k_) ∧ some k_ ≠ (.slice Ao87 y508.length co87 : Value).ownBlock ∧ some k_ ≠ (v515 : Value).ownBlock ∧ some k_ ≠ (.slice Ao95 t518.length co95 : Value).ownBlock ∧ some k_ ≠ (v524 : Value).ownBlock ∧ some k_ ≠ (v528 : Value).ownBlock ∧ k_ ≠ g05 ∧ k_ ≠ g06 ∧ k_ ≠ g07 ∧ k_ ≠ g21 ∧ k_ ≠ g30) (.slice A2_1 l2_1.length c2_1) l2_1) := ⟨h2_⟩
        have n3_ : Aside0 (Kd.N (Kd.slice 58 (Kd.int .u32)) 22 w103 w.heap.size (fun k_ => ((P0_1_ k_ ∨ P1_1_ k_ ∨ P2_1_ k_) ∨ w.heap.size ≤ k_) ∧ some k_ ≠ (v515 : Value).ownBlock ∧ some k_ ≠ (.slice Ao95 t518.length co95 : Value).ownBlock ∧ some k_ ≠ (v524 : Value).ownBlock ∧ some k_ ≠ (v528 : Value).ownBlock ∧ k_ ≠ g05 ∧ k_ ≠ g06 ∧ k_ ≠ g07 ∧ k_ ≠ g21 ∧ k_ ≠ g30) (.slice Ao87 y508.length co87) y508) := ⟨h3_⟩
        have n4_ : Aside0 (Kd.R (Kd.int .u32) 58 w103 w.heap.size (fun k_ => (w.heap.size ≤ k_) ∧ some k_ ≠ (.slice Ao95 t518.length co95 : Value).ownBlock ∧ some k_ ≠ (v524 : Value).ownBlock ∧ some k_ ≠ (v528 : Value).ownBlock) v515 t514) := ⟨h4_⟩
        have n5_ : Aside0 (Kd.R (Kd.int .u32) 58 w103 w.heap.size (fun k_ => (w.heap.size ≤ k_) ∧ some k_ ≠ (v515 : Value).ownBlock ∧ some k_ ≠ (v524 : Value).ownBlock ∧ some k_ ≠ (v528 : Value).ownBlock) (.slice Ao95 t518.length co95) t518) := ⟨h5_⟩
        have n6_ : Aside0 (Kd.R (Kd.int .u32) 58 w103 w.heap.size (fun k_ => (w.heap.size ≤ k_) ∧ some k_ ≠ (v515 : Value).ownBlock ∧ some k_ ≠ (.slice Ao95 t518.length co95 : Value).ownBlock ∧ some k_ ≠ (v528 : Value).ownBlock) v524 t523) := ⟨h6_⟩
        have n7_ : Aside0 (Kd.R (Kd.int .u32) 58 w103 w.heap.size (fun k_ => (w.heap.size ≤ k_) ∧ some k_ ≠ (v515 : Value).ownBlock ∧ some k_ ≠ (.slice Ao95 t518.length co95 : Value).ownBlock ∧ some k_ ≠ (v524 : Value).ownBlock) v528 t527) := ⟨h7_⟩
        have n8_ : Aside0 (w103.heap[g05]? = some (.cells #[.bool a0_0, .slice A0_1 l0_1.length c0_1] 24 (0, 0))) := ⟨h8_⟩
        have n9_ : Aside0 (w103.heap[g06]? = some (.cells #[.bool a1_0, .slice A1_1 l1_1.length c1_1] 24 (0, 0))) := ⟨h9_⟩
        have n10_ : Aside0 (w103.heap[g07]? = some (.cells #[.bool a2_0, .slice A2_1 l2_1.length c2_1] 24 (0, 0))) := ⟨h10_⟩
        have n11_ : Aside0 (w103.heap[g21]? = some (.cells #[.bool false, .slice Ao95 t518.length co95] 24 (0, 0))) := ⟨h11_⟩
        have n12_ : Aside0 (w103.heap[g30]? = some (.cells #[.bool false, .slice none 0 0] 24 (0, 0))) := ⟨h12_⟩
        have n13_ : Aside0 (w.heap.size ≤ g30) := ⟨h13_⟩
        have n14_ : Aside0 (w.heap.size ≤ g30) := ⟨h14_⟩
        have n15_ : Aside0 (g05 ≠ g30) := ⟨h15_⟩
        have n16_ : Aside0 (g30 ≠ g05) := ⟨h16_⟩
        have n17_ : Aside0 (g06 ≠ g30) := ⟨h17_⟩
        have n18_ : Aside0 (g30 ≠ g06) := ⟨h18_⟩
        have n19_ : Aside0 (g07 ≠ g30) := ⟨h19_⟩
        have n20_ : Aside0 (g30 ≠ g07) := ⟨h20_⟩
        have n21_ : Aside0 (g21 ≠ g30) := ⟨h21_⟩
        have n22_ : Aside0 (g30 ≠ g21) := ⟨h22_⟩
        have n23_ : Aside0 (Below w.heap.size w w103) := ⟨h23_⟩
        clear HO0_1 HO1_1 HO2_1 O10 O16 O20 K05 K06 K07 K21 HB h0_ h1_ h2_ h3_ h4_ h5_ h6_ h7_ h8_ h9_ h10_ h11_ h12_ h13_ h14_ h15_ h16_ h17_ h18_ h19_ h20_ h21_ h22_ h23_
        have HO0_1 := n0_
        have HO1_1 := n1_
        have HO2_1 := n2_
        have O10 := n3_
        have O16 := n4_
        have O20 := n5_
        have O25 := n6_
        have O29 := n7_
        have K05 := n8_
        have K06 := n9_
        have K07 := n10_
        have K21 := n11_
        have K30 := n12_
        have W30 := n13_
        have E30 := n14_
        have IGE530 := ownGe E30.out
        have N05_30 := n15_
        have N30_05 := n16_
        have N06_30 := n17_
        have N30_06 := n18_
        have N07_30 := n19_
        have N30_07 := n20_
        have N21_30 := n21_
        have N30_21 := n22_
        have HB := n23_
        clear n0_ n1_ n2_ n3_ n4_ n5_ n6_ n7_ n8_ n9_ n10_ n11_ n12_ n13_ n14_ n15_ n16_ n17_ n18_ n19_ n20_ n21_ n22_ n23_
        have hHeld : w103.cell? ⟨g05, 0, none⟩ = some (.bool a0_0) ∧ w103.cell? ⟨g05, 1, none⟩ = some (.slice A0_1 l0_1.length c0_1) ∧ w103.cell? ⟨g06, 0, none⟩ = some (.bool a1_0) ∧ w103.cell? ⟨g06, 1, none⟩ = some (.slice A1_1 l1_1.length c1_1) ∧ w103.cell? ⟨g07, 0, none⟩ = some (.bool a2_0) ∧ w103.cell? ⟨g07, 1, none⟩ = some (.slice A2_1 l2_1.length c2_1) := hS_
        obtain ⟨Ao105, co105, eo105⟩ := zRs O29.out
        (first |  subst eo105|  (injection eo105 with f1_ f2_ f3_; have f4_ := f1_.symm; have f5_ := f3_.symm; clear f1_ f2_ f3_; subst f4_; subst f5_))
        refine norm_ (a' := ?_) ?_ ?_
        rotate_left
        ·simp only [putAll, Act.put, zSa, zSb, zSc]
         rfl
        refine one_ (i := 6) (N := none) #[true, true, true, true, true, true, true] rfl rfl (by kernel_rfl) (by decide) (fun K hK => ?_)
        have hs104 : w103.cell? ⟨g30, 0, none⟩ = some (.bool false) := (zKc K30.out 0).trans rfl
        have hfs104 := zKf K30.out 0
        have hns104_0 := N05_30.out
        have hns104_1 := N06_30.out
        have hns104_2 := N07_30.out
        have hns104_3 := N21_30.out
        have hms104_0 := N30_05.out
        have hms104_1 := N30_06.out
        have hms104_2 := N30_07.out
        have hms104_3 := N30_21.out
        have hs106 : w103.cell? ⟨g30, 1, none⟩ = some (.slice none 0 0) := (zKc K30.out 1).trans rfl
        have hfs106 := zKf K30.out 1
        have hns106_0 := N05_30.out
        have hns106_1 := N06_30.out
        have hns106_2 := N07_30.out
        have hns106_3 := N21_30.out
        have hms106_0 := N30_05.out
        have hms106_1 := N30_06.out
        have hms106_2 := N30_07.out
        have hms106_3 := N30_21.out
        refine skip_ (w1 := ?_) (by rfl) rfl ?_ ?_
        rotate_left
        ·go_simp
         rfl
        refine hK.out _ _ ⟨((cell_far (p := ⟨g30, _, none⟩) N05_30.out _).trans (((cell_far (p := ⟨g30, _, none⟩) N05_30.out _).trans (hHeld.1)))), ((cell_far (p := ⟨g30, _, none⟩) N05_30.out _).trans (((cell_far (p := ⟨g30, _, none⟩) N05_30.out _).trans (hHeld.2.1)))), ((cell_far (p := ⟨g30, _, none⟩) N06_30.out _).trans (((cell_far (p := ⟨g30, _, none⟩) N06_30.out _).trans (hHeld.2.2.1)))), ((cell_far (p := ⟨g30, _, none⟩) N06_30.out _).trans (((cell_far (p := ⟨g30, _, none⟩) N06_30.out _).trans (hHeld.2.2.2.1)))), ((cell_far (p := ⟨g30, _, none⟩) N07_30.out _).trans (((cell_far (p := ⟨g30, _, none⟩) N07_30.out _).trans (hHeld.2.2.2.2.1)))), ((cell_far (p := ⟨g30, _, none⟩) N07_30.out _).trans (((cell_far (p := ⟨g30, _, none⟩) N07_30.out _).trans (hHeld.2.2.2.2.2))))⟩ (fun hHeld => ?_)
        clear hK K
        refine done_ (by kernel_rfl) ?_
        try go_wp2
        have n0_ : Aside0 (Kd.V (Kd.int .u32) 58 ((w103.setCell ⟨g30, 0, none⟩ (.bool t526)).setCell ⟨g30, 1, none⟩ (.slice Ao105 t527.length co105)) w.heap.size (fun k_ => ((P0_1_ k_ ∨ P1_1_ k_ ∨ P2_1_ k_) ∨ w.heap.size ≤ k_) ∧ some k_ ≠ (.slice Ao87 y508.length co87 : Value).ownBlock ∧ some k_ ≠ (v515 : Value).ownBlock ∧ some k_ ≠ (.slice Ao95 t518.length co95 : Value).ownBlock ∧ some k_ ≠ (v524 : Value).ownBlock ∧ some k_ ≠ (.slice Ao105 t527.length co105 : Value).ownBlock ∧ k_ ≠ g05 ∧ k_ ≠ g06 ∧ k_ ≠ g07 ∧ k_ ≠ g21 ∧ k_ ≠ g30) (.slice A0_1 l0_1.length c0_1) l0_1) := ⟨by (with_reducible repeat (first |  apply zVa|  apply zVn|  apply zVd)); exact zVm (Kd.V_far (p := ⟨g30, 1, none⟩) (Kd.V_far (p := ⟨g30, 0, none⟩) (zVm HO0_1.out (fun k_ hk => (⟨hk, hk.2.2.2.2.2.2.2.2.2.2⟩ : _ ∧ k_ ≠ g30))) (fun _ hk => hk.2) (.bool t526)) (fun _ hk => hk.2) (.slice Ao105 t527.length co105)) (fun _ hk => ⟨hk.1.1, ⟨hk.1.2.1, ⟨hk.1.2.2.1, ⟨hk.1.2.2.2.1, ⟨hk.1.2.2.2.2.1, ⟨hk.1.2.2.2.2.2.1, ⟨hk.1.2.2.2.2.2.2.1, ⟨hk.1.2.2.2.2.2.2.2.1, ⟨hk.1.2.2.2.2.2.2.2.2.1, ⟨hk.1.2.2.2.2.2.2.2.2.2.1, hk.1.2.2.2.2.2.2.2.2.2.2⟩⟩⟩⟩⟩⟩⟩⟩⟩⟩)⟩
        have n1_ : Aside0 (Kd.V (Kd.int .u32) 58 ((w103.setCell ⟨g30, 0, none⟩ (.bool t526)).setCell ⟨g30, 1, none⟩ (.slice Ao105 t527.length co105)) w.heap.size (fun k_ => ((P0_1_ k_ ∨ P1_1_ k_ ∨ P2_1_ k_) ∨ w.heap.size ≤ k_) ∧ some k_ ≠ (.slice Ao87 y508.length co87 : Value).ownBlock ∧ some k_ ≠ (v515 : Value).ownBlock ∧ some k_ ≠ (.slice Ao95 t518.length co95 : Value).ownBlock ∧ some k_ ≠ (v524 : Value).ownBlock ∧ some k_ ≠ (.slice Ao105 t527.length co105 : Value).ownBlock ∧ k_ ≠ g05 ∧ k_ ≠ g06 ∧ k_ ≠ g07 ∧ k_ ≠ g21 ∧ k_ ≠ g30) (.slice A1_1 l1_1.length c1_1) l1_1) := ⟨by (with_reducible repeat (first | apply zVa | apply zVn | apply zVd)); exact zVm (Kd.V_far (p := ⟨g30, 1, none⟩) (Kd.V_far (p := ⟨g30, 0, none⟩) (zVm HO1_1.out (fun k_ hk => (⟨hk, hk.2.2.2.2.2.2.2.2.2.2⟩ : _ ∧ k_ ≠ g30))) (fun _ hk => hk.2) (.bool t526)) (fun _ hk => hk.2) (.slice Ao105 t527.length co105)) (fun _ hk => ⟨hk.1.1, ⟨hk.1.2.1, ⟨hk.1.2.2.1, ⟨hk.1.2.2.2.1, ⟨hk.1.2.2.2.2.1, ⟨hk.1.2.2.2.2.2.1, ⟨hk.1.2.2.2.2.2.2.1, ⟨hk.1.2.2.2.2.2.2.2.1, ⟨hk.1.2.2.2.2.2.2.2.2.1, ⟨hk.1.2.2.2.2.2.2.2.2.2.1, hk.1.2.2.2.2.2.2.2.2.2.2⟩⟩⟩⟩⟩⟩⟩⟩⟩⟩)⟩
        have n2_ : Aside0 (Kd.V (Kd.int .u32) 58 ((w103.setCell ⟨g30, 0, none⟩ (.bool t526)).setCell ⟨g30, 1, none⟩ (.slice Ao105 t527.length co105)) w.heap.size (fun k_ => ((P0_1_ k_ ∨ P1_1_ k_ ∨ P2_1_ k_) ∨ w.heap.size ≤ k_) ∧ some k_ ≠ (.slice Ao87 y508.length co87 : Value).ownBlock ∧ some k_ ≠ (v515 : Value).ownBlock ∧ some k_ ≠ (.slice Ao95 t518.length co95 : Value).ownBlock ∧ some k_ ≠ (v524 : Value).ownBlock ∧ some k_ ≠ (.slice Ao105 t527.length co105 : Value).ownBlock ∧ k_ ≠ g05 ∧ k_ ≠ g06 ∧ k_ ≠ g07 ∧ k_ ≠ g21 ∧ k_ ≠ g30) (.slice A2_1 l2_1.length c2_1) l2_1) := ⟨by (with_reducible repeat (first | apply zVa | apply zVn | apply zVd)); exact zVm (Kd.V_far (p := ⟨g30, 1, none⟩) (Kd.V_far (p := ⟨g30, 0, none⟩) (zVm HO2_1.out (fun k_ hk => (⟨hk, hk.2.2.2.2.2.2.2.2.2.2⟩ : _ ∧ k_ ≠ g30))) (fun _ hk => hk.2) (.bool t526)) (fun _ hk => hk.2) (.slice Ao105 t527.length co105)) (fun _ hk => ⟨hk.1.1, ⟨hk.1.2.1, ⟨hk.1.2.2.1, ⟨hk.1.2.2.2.1, ⟨hk.1.2.2.2.2.1, ⟨hk.1.2.2.2.2.2.1, ⟨hk.1.2.2.2.2.2.2.1, ⟨hk.1.2.2.2.2.2.2.2.1, ⟨hk.1.2.2.2.2.2.2.2.2.1, ⟨hk.1.2.2.2.2.2.2.2.2.2.1, hk.1.2.2.2.2.2.2.2.2.2.2⟩⟩⟩⟩⟩⟩⟩⟩⟩⟩)⟩
        have n3_ : Aside0 (Kd.N (Kd.slice 58 (Kd.int .u32)) 22 ((w103.setCell ⟨g30, 0, none⟩ (.bool t526)).setCell ⟨g30, 1, none⟩ (.slice Ao105 t527.length co105)) w.heap.size (fun k_ => ((P0_1_ k_ ∨ P1_1_ k_ ∨ P2_1_ k_) ∨ w.heap.size ≤ k_) ∧ some k_ ≠ (v515 : Value).ownBlock ∧ some k_ ≠ (.slice Ao95 t518.length co95 : Value).ownBlock ∧ some k_ ≠ (v524 : Value).ownBlock ∧ some k_ ≠ (.slice Ao105 t527.length co105 : Value).ownBlock ∧ k_ ≠ g05 ∧ k_ ≠ g06 ∧ k_ ≠ g07 ∧ k_ ≠ g21 ∧ k_ ≠ g30) (.slice Ao87 y508.length co87) y508) := ⟨by (with_reducible repeat (first | apply Kd.N_alloc | apply Kd.N_drewN | apply Kd.N_drew)); exact Kd.N_mono (Kd.N_far (p := ⟨g30, 1, none⟩) (Kd.N_far (p := ⟨g30, 0, none⟩) (Kd.N_mono O10.out (fun k_ hk => (⟨hk, hk.2.2.2.2.2.2.2.2.2⟩ : _ ∧ k_ ≠ g30))) (fun _ hk => hk.2) (.bool t526)) (fun _ hk => hk.2) (.slice Ao105 t527.length co105)) (fun _ hk => ⟨hk.1.1, ⟨hk.1.2.1, ⟨hk.1.2.2.1, ⟨hk.1.2.2.2.1, ⟨hk.1.2.2.2.2.1, ⟨hk.1.2.2.2.2.2.1, ⟨hk.1.2.2.2.2.2.2.1, ⟨hk.1.2.2.2.2.2.2.2.1, ⟨hk.1.2.2.2.2.2.2.2.2.1, hk.1.2.2.2.2.2.2.2.2.2⟩⟩⟩⟩⟩⟩⟩⟩⟩)⟩
        have n4_ : Aside0 (Kd.R (Kd.int .u32) 58 ((w103.setCell ⟨g30, 0, none⟩ (.bool t526)).setCell ⟨g30, 1, none⟩ (.slice Ao105 t527.length co105)) w.heap.size (fun k_ => (w.heap.size ≤ k_) ∧ some k_ ≠ (.slice Ao95 t518.length co95 : Value).ownBlock ∧ some k_ ≠ (v524 : Value).ownBlock ∧ some k_ ≠ (.slice Ao105 t527.length co105 : Value).ownBlock) v515 t514) := ⟨by (with_reducible repeat (first | apply zRa | apply zRn | apply zRd)); exact zRm (Kd.R_far (p := ⟨g30, 1, none⟩) (Kd.R_far (p := ⟨g30, 0, none⟩) (Kd.R_types O16.out K30.out (by decide)) (fun _ hk => hk.2) (.bool t526)) (fun _ hk => hk.2) (.slice Ao105 t527.length co105)) (fun _ hk => ⟨hk.1.1, ⟨hk.1.2.1, ⟨hk.1.2.2.1, hk.1.2.2.2⟩⟩⟩)⟩
        have n5_ : Aside0 (Kd.R (Kd.int .u32) 58 ((w103.setCell ⟨g30, 0, none⟩ (.bool t526)).setCell ⟨g30, 1, none⟩ (.slice Ao105 t527.length co105)) w.heap.size (fun k_ => (w.heap.size ≤ k_) ∧ some k_ ≠ (v515 : Value).ownBlock ∧ some k_ ≠ (v524 : Value).ownBlock ∧ some k_ ≠ (.slice Ao105 t527.length co105 : Value).ownBlock) (.slice Ao95 t518.length co95) t518) := ⟨by (with_reducible repeat (first | apply zRa | apply zRn | apply zRd)); exact zRm (Kd.R_far (p := ⟨g30, 1, none⟩) (Kd.R_far (p := ⟨g30, 0, none⟩) (Kd.R_types O20.out K30.out (by decide)) (fun _ hk => hk.2) (.bool t526)) (fun _ hk => hk.2) (.slice Ao105 t527.length co105)) (fun _ hk => ⟨hk.1.1, ⟨hk.1.2.1, ⟨hk.1.2.2.1, hk.1.2.2.2⟩⟩⟩)⟩
        have n6_ : Aside0 (Kd.R (Kd.int .u32) 58 ((w103.setCell ⟨g30, 0, none⟩ (.bool t526)).setCell ⟨g30, 1, none⟩ (.slice Ao105 t527.length co105)) w.heap.size (fun k_ => (w.heap.size ≤ k_) ∧ some k_ ≠ (v515 : Value).ownBlock ∧ some k_ ≠ (.slice Ao95 t518.length co95 : Value).ownBlock ∧ some k_ ≠ (.slice Ao105 t527.length co105 : Value).ownBlock) v524 t523) := ⟨by (with_reducible repeat (first | apply zRa | apply zRn | apply zRd)); exact zRm (Kd.R_far (p := ⟨g30, 1, none⟩) (Kd.R_far (p := ⟨g30, 0, none⟩) (Kd.R_types O25.out K30.out (by decide)) (fun _ hk => hk.2) (.bool t526)) (fun _ hk => hk.2) (.slice Ao105 t527.length co105)) (fun _ hk => ⟨hk.1.1, ⟨hk.1.2.1, ⟨hk.1.2.2.1, hk.1.2.2.2⟩⟩⟩)⟩
        have n7_ : Aside0 (Kd.R (Kd.int .u32) 58 ((w103.setCell ⟨g30, 0, none⟩ (.bool t526)).setCell ⟨g30, 1, none⟩ (.slice Ao105 t527.length co105)) w.heap.size (fun k_ => (w.heap.size ≤ k_) ∧ some k_ ≠ (v515 : Value).ownBlock ∧ some k_ ≠ (.slice Ao95 t518.length co95 : Value).ownBlock ∧ some k_ ≠ (v524 : Value).ownBlock) (.slice Ao105 t527.length co105) t527) := ⟨by (with_reducible repeat (first | apply zRa | apply zRn | apply zRd)); exact zRm (Kd.R_far (p := ⟨g30, 1, none⟩) (Kd.R_far (p := ⟨g30, 0, none⟩) (Kd.R_types O29.out K30.out (by decide)) (fun _ hk => hk.2) (.bool t526)) (fun _ hk => hk.2) (.slice Ao105 t527.length co105)) (fun _ hk => ⟨hk.1.1, ⟨hk.1.2.1, ⟨hk.1.2.2.1, hk.1.2.2.2⟩⟩⟩)⟩
        have n8_ : Aside0 (((w103.setCell ⟨g30, 0, none⟩ (.bool t526)).setCell ⟨g30, 1, none⟩ (.slice Ao105 t527.length co105)).heap[g05]? = some (.cells #[.bool a0_0, .slice A0_1 l0_1.length c0_1] 24 (0, 0))) := ⟨by (with_reducible repeat (first | refine zKn ?_ _ | refine zKd ?_ | refine zKa ?_ _)); refine blk_far ?_ N05_30.out _; (with_reducible repeat (first | refine zKn ?_ _ | refine zKd ?_ | refine zKa ?_ _)); refine blk_far ?_ N05_30.out _; (with_reducible repeat (first | refine zKn ?_ _ | refine zKd ?_ | refine zKa ?_ _)); exact K05.out⟩
        have n9_ : Aside0 (((w103.setCell ⟨g30, 0, none⟩ (.bool t526)).setCell ⟨g30, 1, none⟩ (.slice Ao105 t527.length co105)).heap[g06]? = some (.cells #[.bool a1_0, .slice A1_1 l1_1.length c1_1] 24 (0, 0))) := ⟨by (with_reducible repeat (first | refine zKn ?_ _ | refine zKd ?_ | refine zKa ?_ _)); refine blk_far ?_ N06_30.out _; (with_reducible repeat (first | refine zKn ?_ _ | refine zKd ?_ | refine zKa ?_ _)); refine blk_far ?_ N06_30.out _; (with_reducible repeat (first | refine zKn ?_ _ | refine zKd ?_ | refine zKa ?_ _)); exact K06.out⟩
        have n10_ : Aside0 (((w103.setCell ⟨g30, 0, none⟩ (.bool t526)).setCell ⟨g30, 1, none⟩ (.slice Ao105 t527.length co105)).heap[g07]? = some (.cells #[.bool a2_0, .slice A2_1 l2_1.length c2_1] 24 (0, 0))) := ⟨by (with_reducible repeat (first | refine zKn ?_ _ | refine zKd ?_ | refine zKa ?_ _)); refine blk_far ?_ N07_30.out _; (with_reducible repeat (first | refine zKn ?_ _ | refine zKd ?_ | refine zKa ?_ _)); refine blk_far ?_ N07_30.out _; (with_reducible repeat (first | refine zKn ?_ _ | refine zKd ?_ | refine zKa ?_ _)); exact K07.out⟩
        have n11_ : Aside0 (((w103.setCell ⟨g30, 0, none⟩ (.bool t526)).setCell ⟨g30, 1, none⟩ (.slice Ao105 t527.length co105)).heap[g21]? = some (.cells #[.bool false, .slice Ao95 t518.length co95] 24 (0, 0))) := ⟨by (with_reducible repeat (first | refine zKn ?_ _ | refine zKd ?_ | refine zKa ?_ _)); refine blk_far ?_ N21_30.out _; (with_reducible repeat (first | refine zKn ?_ _ | refine zKd ?_ | refine zKa ?_ _)); refine blk_far ?_ N21_30.out _; (with_reducible repeat (first | refine zKn ?_ _ | refine zKd ?_ | refine zKa ?_ _)); exact K21.out⟩
        have n12_ : Aside0 (((w103.setCell ⟨g30, 0, none⟩ (.bool t526)).setCell ⟨g30, 1, none⟩ (.slice Ao105 t527.length co105)).heap[g30]? = some (.cells #[.bool t526, .slice Ao105 t527.length co105] 24 (0, 0))) := ⟨by (with_reducible repeat (first | refine zKn ?_ _ | refine zKd ?_ | refine zKa ?_ _)); refine blk_put (cs := #[.bool t526, .slice none 0 0]) ?_ 1 _ rfl; (with_reducible repeat (first | refine zKn ?_ _ | refine zKd ?_ | refine zKa ?_ _)); refine blk_put (cs := #[.bool false, .slice none 0 0]) ?_ 0 _ rfl; (with_reducible repeat (first | refine zKn ?_ _ | refine zKd ?_ | refine zKa ?_ _)); exact K30.out⟩
        have n13_ : Aside0 (Below w.heap.size w ((w103.setCell ⟨g30, 0, none⟩ (.bool t526)).setCell ⟨g30, 1, none⟩ (.slice Ao105 t527.length co105))) := ⟨by exact uT HB.out⟩
        generalize ((w103.setCell ⟨g30, 0, none⟩ (.bool t526)).setCell ⟨g30, 1, none⟩ (.slice Ao105 t527.length co105)) = w107 at n0_ n1_ n2_ n3_ n4_ n5_ n6_ n7_ n8_ n9_ n10_ n11_ n12_ n13_ ⊢
        have HO0_1 := n0_
        have HO1_1 := n1_
        have HO2_1 := n2_
        have O10 := n3_
        have O16 := n4_
        have O20 := n5_
        have O25 := n6_
        have O29 := n7_
        have K05 := n8_
        have K06 := n9_
        have K07 := n10_
        have K21 := n11_
        have K30 := n12_
        have HB := n13_
        clear n0_ n1_ n2_ n3_ n4_ n5_ n6_ n7_ n8_ n9_ n10_ n11_ n12_ n13_
        replace HO0_1 := zMk (zVd HO0_1.out)
        replace HO1_1 := zMk (zVd HO1_1.out)
        replace HO2_1 := zMk (zVd HO2_1.out)
        replace O10 := zMk (Kd.N_drew O10.out)
        replace O16 := zMk (zRd O16.out)
        replace O20 := zMk (zRd O20.out)
        replace O25 := zMk (zRd O25.out)
        replace O29 := zMk (zRd O29.out)
        replace K05 := zMk (zKd K05.out)
        replace K06 := zMk (zKd K06.out)
        replace K07 := zMk (zKd K07.out)
        replace K21 := zMk (zKd K21.out)
        replace K30 := zMk (zKd K30.out)
        replace HB := zMk (zBd HB.out)
        refine start_ (n := 9) (S := fun w' => w'.cell? ⟨g05, 0, none⟩ = some (.bool a0_0) ∧ w'.cell? ⟨g05, 1, none⟩ = some (.slice A0_1 l0_1.length c0_1) ∧ w'.cell? ⟨g06, 0, none⟩ = some (.bool a1_0) ∧ w'.cell? ⟨g06, 1, none⟩ = some (.slice A1_1 l1_1.length c1_1) ∧ w'.cell? ⟨g07, 0, none⟩ = some (.bool a2_0) ∧ w'.cell? ⟨g07, 1, none⟩ = some (.slice A2_1 l2_1.length c2_1)) (ds := []) #[false, false, false, false, false, false, false, false, false] (by kernel_rfl) rfl rfl ⟨(zKc K05.out 0).trans rfl, (zKc K05.out 1).trans rfl, (zKc K06.out 0).trans rfl, (zKc K06.out 1).trans rfl, (zKc K07.out 0).trans rfl, (zKc K07.out 1).trans rfl⟩ (fun hHeld => ?_); refine with_tabW filigreelaw02_IntegerRing.tab5 filigreelaw02_IntegerRing.bits5 (fun HT_ HW_ => ?_)
        generalize w107.drew = w108 at HO0_1 HO1_1 HO2_1 O10 O16 O20 O25 O29 K05 K06 K07 K21 K30 HB hHeld ⊢
        refine take_ (i := 0) (N := some 29) (v := ?_) (a' := ?_) #[true, false, false, false, false, false, false, false, false] rfl rfl (take_ofW HT_.out HW_.out (by kernel_rfl)) (fun _ _ _ h => h) (Or.inl ⟨by rfl, ?_⟩) hHeld ?_ ?_
        rotate_left
        ·rintro w' ⟨s0, s1, s2, s3, s4, s5⟩
         go_simp
         with_reducible rfl
        rotate_left
        ·simp only [Act.put, zSa, zSb, zSc, i64_w, i32_w]
         rfl
        refine take_ (i := 1) (N := some 30) (v := ?_) (a' := ?_) #[true, true, false, false, false, false, false, false, false] rfl rfl (take_ofW HT_.out HW_.out (by kernel_rfl)) (fun _ _ _ h => h) (Or.inl ⟨by rfl, ?_⟩) hHeld ?_ ?_
        rotate_left
        ·rintro w' ⟨s0, s1, s2, s3, s4, s5⟩
         go_simp
         with_reducible rfl
        rotate_left
        ·simp only [Act.put, zSa, zSb, zSc, i64_w, i32_w]
         rfl
        refine take_ (i := 3) (N := some 32) (v := ?_) (a' := ?_) #[true, true, false, true, false, false, false, false, false] rfl rfl (take_ofW HT_.out HW_.out (by kernel_rfl)) (fun _ _ _ h => h) (Or.inl ⟨by rfl, ?_⟩) hHeld ?_ ?_
        rotate_left
        ·rintro w' ⟨s0, s1, s2, s3, s4, s5⟩
         go_simp
         with_reducible rfl
        rotate_left
        ·simp only [Act.put, zSa, zSb, zSc, i64_w, i32_w]
         rfl
        refine take_ (i := 4) (N := some 33) (v := ?_) (a' := ?_) #[true, true, false, true, true, false, false, false, false] rfl rfl (take_ofW HT_.out HW_.out (by kernel_rfl)) (fun _ _ _ h => h) (Or.inl ⟨by rfl, ?_⟩) hHeld ?_ ?_
        rotate_left
        ·rintro w' ⟨s0, s1, s2, s3, s4, s5⟩
         go_simp
         with_reducible rfl
        rotate_left
        ·simp only [Act.put, zSa, zSb, zSc, i64_w, i32_w]
         rfl
        refine join_ (σ := Value × Value × Value × Nat) 1 #[true, true, true, true, true, true, true, true, false] (fun s_ => [(31, .agg #[.bool t531, s_.1]), (34, .agg #[.bool t535, s_.2.1]), (35, .agg #[.bool t539, s_.2.2.1]), (9, .pointer (some ⟨s_.2.2.2, 0, none⟩))]) (fun s_ w' => (w'.cell? ⟨g05, 0, none⟩ = some (.bool a0_0) ∧ w'.cell? ⟨g05, 1, none⟩ = some (.slice A0_1 l0_1.length c0_1) ∧ w'.cell? ⟨g06, 0, none⟩ = some (.bool a1_0) ∧ w'.cell? ⟨g06, 1, none⟩ = some (.slice A1_1 l1_1.length c1_1) ∧ w'.cell? ⟨g07, 0, none⟩ = some (.bool a2_0) ∧ w'.cell? ⟨g07, 1, none⟩ = some (.slice A2_1 l2_1.length c2_1)) ∧ (Kd.V (Kd.int .u32) 58 w' w.heap.size (fun k_ => ((P0_1_ k_ ∨ P1_1_ k_ ∨ P2_1_ k_) ∨ w.heap.size ≤ k_) ∧ some k_ ≠ (.slice Ao87 y508.length co87 : Value).ownBlock ∧ some k_ ≠ (v515 : Value).ownBlock ∧ some k_ ≠ (.slice Ao95 t518.length co95 : Value).ownBlock ∧ some k_ ≠ (v524 : Value).ownBlock ∧ some k_ ≠ (.slice Ao105 t527.length co105 : Value).ownBlock ∧ some k_ ≠ (s_.1 : Value).ownBlock ∧ some k_ ≠ (s_.2.1 : Value).ownBlock ∧ some k_ ≠ (s_.2.2.1 : Value).ownBlock ∧ k_ ≠ g05 ∧ k_ ≠ g06 ∧ k_ ≠ g07 ∧ k_ ≠ g21 ∧ k_ ≠ g30 ∧ k_ ≠ s_.2.2.2) (.slice A0_1 l0_1.length c0_1) l0_1) ∧ (Kd.V (Kd.int .u32) 58 w' w.heap.size (fun k_ => ((P0_1_ k_ ∨ P1_1_ k_ ∨ P2_1_ k_) ∨ w.heap.size ≤ k_) ∧ some k_ ≠ (.slice Ao87 y508.length co87 : Value).ownBlock ∧ some k_ ≠ (v515 : Value).ownBlock ∧ some k_ ≠ (.slice Ao95 t518.length co95 : Value).ownBlock ∧ some k_ ≠ (v524 : Value).ownBlock ∧ some k_ ≠ (.slice Ao105 t527.length co105 : Value).ownBlock ∧ some k_ ≠ (s_.1 : Value).ownBlock ∧ some k_ ≠ (s_.2.1 : Value).ownBlock ∧ some k_ ≠ (s_.2.2.1 : Value).ownBlock ∧ k_ ≠ g05 ∧ k_ ≠ g06 ∧ k_ ≠ g07 ∧ k_ ≠ g21 ∧ k_ ≠ g30 ∧ k_ ≠ s_.2.2.2) (.slice A1_1 l1_1.length c1_1) l1_1) ∧ (Kd.V (Kd.int .u32) 58 w' w.heap.size (fun k_ => ((P0_1_ k_ ∨ P1_1_ k_ ∨ P2_1_ k_) ∨ w.heap.size ≤ k_) ∧ some k_ ≠ (.slice Ao87 y508.length co87 : Value).ownBlock ∧ some k_ ≠ (v515 : Value).ownBlock ∧ some k_ ≠ (.slice Ao95 t518.length co95 : Value).ownBlock ∧ some k_ ≠ (v524 : Value).ownBlock ∧ some k_ ≠ (.slice Ao105 t527.length co105 : Value).ownBlock ∧ some k_ ≠ (s_.1 : Value).ownBlock ∧ some k_ ≠ (s_.2.1 : Value).ownBlock ∧ some k_ ≠ (s_.2.2.1 : Value).ownBlock ∧ k_ ≠ g05 ∧ k_ ≠ g06 ∧ k_ ≠ g07 ∧ k_ ≠ g21 ∧ k_ ≠ g30 ∧ k_ ≠ s_.2.2.2) (.slice A2_1 l2_1.length c2_1) l2_1) ∧ (Kd.N (Kd.slice 58 (Kd.int .u32)) 22 w' w.heap.size (fun k_ => ((P0_1_ k_ ∨ P1_1_ k_ ∨ P2_1_ k_) ∨ w.heap.size ≤ k_) ∧ some k_ ≠ (v515 : Value).ownBlock ∧ some k_ ≠ (.slice Ao95 t518.length co95 : Value).ownBlock ∧ some k_ ≠ (v524 : Value).ownBlock ∧ some k_ ≠ (.slice Ao105 t527.length co105 : Value).ownBlock ∧ some k_ ≠ (s_.1 : Value).ownBlock ∧ some k_ ≠ (s_.2.1 : Value).ownBlock ∧ some k_ ≠ (s_.2.2.1 : Value).ownBlock ∧ k_ ≠ g05 ∧ k_ ≠ g06 ∧ k_ ≠ g07 ∧ k_ ≠ g21 ∧ k_ ≠ g30 ∧ k_ ≠ s_.2.2.2) (.slice Ao87 y508.length co87) y508) ∧ (Kd.R (Kd.int .u32) 58 w' w.heap.size (fun k_ => (w.heap.size ≤ k_) ∧ some k_ ≠ (.slice Ao95 t518.length co95 : Value).ownBlock ∧ some k_ ≠ (v524 : Value).ownBlock ∧ some k_ ≠ (.slice Ao105 t527.length co105 : Value).ownBlock ∧ some k_ ≠ (s_.1 : Value).ownBlock ∧ some k_ ≠ (s_.2.1 : Value).ownBlock ∧ some k_ ≠ (s_.2.2.1 : Value).ownBlock) v515 t514) ∧ (Kd.R (Kd.int .u32) 58 w' w.heap.size (fun k_ => (w.heap.size ≤ k_) ∧ some k_ ≠ (v515 : Value).ownBlock ∧ some k_ ≠ (v524 : Value).ownBlock ∧ some k_ ≠ (.slice Ao105 t527.length co105 : Value).ownBlock ∧ some k_ ≠ (s_.1 : Value).ownBlock ∧ some k_ ≠ (s_.2.1 : Value).ownBlock ∧ some k_ ≠ (s_.2.2.1 : Value).ownBlock) (.slice Ao95 t518.length co95) t518) ∧ (Kd.R (Kd.int .u32) 58 w' w.heap.size (fun k_ => (w.heap.size ≤ k_) ∧ some k_ ≠ (v515 : Value).ownBlock ∧ some k_ ≠ (.slice Ao95 t518.length co95 : Value).ownBlock ∧ some k_ ≠ (.slice Ao105 t527.length co105 : Value).ownBlock ∧ some k_ ≠ (s_.1 : Value).ownBlock ∧ some k_ ≠ (s_.2.1 : Value).ownBlock ∧ some k_ ≠ (s_.2.2.1 : Value).ownBlock) v524 t523) ∧ (Kd.R (Kd.int .u32) 58 w' w.heap.size (fun k_ => (w.heap.size ≤ k_) ∧ some k_ ≠ (v515 : Value).ownBlock ∧ some k_ ≠ (.slice Ao95 t518.length co95 : Value).ownBlock ∧ some k_ ≠ (v524 : Value).ownBlock ∧ some k_ ≠ (s_.1 : Value).ownBlock ∧ some k_ ≠ (s_.2.1 : Value).ownBlock ∧ some k_ ≠ (s_.2.2.1 : Value).ownBlock) (.slice Ao105 t527.length co105) t527) ∧ (Kd.R (Kd.int .u32) 58 w' w.heap.size (fun k_ => (w.heap.size ≤ k_) ∧ some k_ ≠ (v515 : Value).ownBlock ∧ some k_ ≠ (.slice Ao95 t518.length co95 : Value).ownBlock ∧ some k_ ≠ (v524 : Value).ownBlock ∧ some k_ ≠ (.slice Ao105 t527.length co105 : Value).ownBlock ∧ some k_ ≠ (s_.2.1 : Value).ownBlock ∧ some k_ ≠ (s_.2.2.1 : Value).ownBlock) s_.1 t532) ∧ (Kd.R (Kd.int .u32) 58 w' w.heap.size (fun k_ => (w.heap.size ≤ k_) ∧ some k_ ≠ (v515 : Value).ownBlock ∧ some k_ ≠ (.slice Ao95 t518.length co95 : Value).ownBlock ∧ some k_ ≠ (v524 : Value).ownBlock ∧ some k_ ≠ (.slice Ao105 t527.length co105 : Value).ownBlock ∧ some k_ ≠ (s_.1 : Value).ownBlock ∧ some k_ ≠ (s_.2.2.1 : Value).ownBlock) s_.2.1 t536) ∧ (Kd.R (Kd.int .u32) 58 w' w.heap.size (fun k_ => (w.heap.size ≤ k_) ∧ some k_ ≠ (v515 : Value).ownBlock ∧ some k_ ≠ (.slice Ao95 t518.length co95 : Value).ownBlock ∧ some k_ ≠ (v524 : Value).ownBlock ∧ some k_ ≠ (.slice Ao105 t527.length co105 : Value).ownBlock ∧ some k_ ≠ (s_.1 : Value).ownBlock ∧ some k_ ≠ (s_.2.1 : Value).ownBlock) s_.2.2.1 t540) ∧ (w'.heap[g05]? = some (.cells #[.bool a0_0, .slice A0_1 l0_1.length c0_1] 24 (0, 0))) ∧ (w'.heap[g06]? = some (.cells #[.bool a1_0, .slice A1_1 l1_1.length c1_1] 24 (0, 0))) ∧ (w'.heap[g07]? = some (.cells #[.bool a2_0, .slice A2_1 l2_1.length c2_1] 24 (0, 0))) ∧ (w'.heap[g21]? = some (.cells #[.bool false, .slice Ao95 t518.length co95] 24 (0, 0))) ∧ (w'.heap[g30]? = some (.cells #[.bool t526, .slice Ao105 t527.length co105] 24 (0, 0))) ∧ (w'.heap[s_.2.2.2]? = some (.cells #[.bool false, .slice none 0 0] 24 (0, 0))) ∧ (w.heap.size ≤ s_.2.2.2) ∧ (w.heap.size ≤ s_.2.2.2) ∧ (g05 ≠ s_.2.2.2) ∧ (s_.2.2.2 ≠ g05) ∧ (g06 ≠ s_.2.2.2) ∧ (s_.2.2.2 ≠ g06) ∧ (g07 ≠ s_.2.2.2) ∧ (s_.2.2.2 ≠ g07) ∧ (g21 ≠ s_.2.2.2) ∧ (s_.2.2.2 ≠ g21) ∧ (g30 ≠ s_.2.2.2) ∧ (s_.2.2.2 ≠ g30) ∧ (Below w.heap.size w w')) ?_ ?_
        rotate_left
        ·intro hCont
         refine two_ (i := 2) (j := 7) (Ni := some 31) (Nj := some 9) #[true, true, true, true, true, false, false, false, false] #[true, true, false, true, true, false, false, true, false] rfl rfl rfl rfl (two_of HT_.out (by kernel_rfl)) (by decide) (by decide) (fun K hK => ?_) (fun K hK => ?_)
         ·skip
          refine goes_ Tryd.func21 (by kernel_rfl) rfl #[.agg #[.bool a0_0, .slice A0_1 l0_1.length c0_1], .agg #[.bool a1_0, .slice A1_1 l1_1.length c1_1]] (by rfl) rfl rfl (by (try simp only [zMa, zMc, zMn]); first | done | rfl | (simp only [zLd, zLt]; rfl)) ?_
          with_reducible refine (integer_Mul.calls k a0_0 _ _ l0_1 a1_0 _ _ l1_1 t531 t532 _ ?side1 ?side2 ?side3 ?side4 A10.out).mono ?_
          (case side1 => exact uC (zVr HO0_1.out).2.2)
          (case side2 => exact (zVr HO0_1.out).2.1)
          (case side3 => exact uC (zVr HO1_1.out).2.2)
          (case side4 => exact (zVr HO1_1.out).2.1)
          rintro e w109 ⟨v533, rfl, ho0, hb⟩
          refine ⟨_, rfl, ?_⟩
          replace HO0_1 := zMk (zVe (by exact uV HO0_1.out) (zRz ho0) hb)
          replace HO1_1 := zMk (zVe (by exact uV HO1_1.out) (zRz ho0) hb)
          replace HO2_1 := zMk (zVe (by exact uV HO2_1.out) (zRz ho0) hb)
          replace O10 := zMk (Kd.N_elder' (by exact uN O10.out) (zRz ho0) hb)
          have O34 := zMk (zRl (zRw (zRw (zRw (zRw (Kd.R_newM (M := fun k_ => (w.heap.size ≤ k_)) ho0 (zBs (by exact uT HB.out)) (fun k_ h_ => h_)) (zRt (by exact uR O16.out))) (zRt (by exact uR O20.out))) (zRt (by exact uR O25.out))) (zRt (by exact uR O29.out))) (zBs (by exact uT HB.out)))
          replace O16 := zMk (zRe (by exact uR O16.out) (zRz ho0) hb)
          replace O20 := zMk (zRe (by exact uR O20.out) (zRz ho0) hb)
          replace O25 := zMk (zRe (by exact uR O25.out) (zRz ho0) hb)
          replace O29 := zMk (zRe (by exact uR O29.out) (zRz ho0) hb)
          replace K05 := zMk (zKb K05.out hb)
          replace K06 := zMk (zKb K06.out hb)
          replace K07 := zMk (zKb K07.out hb)
          replace K21 := zMk (zKb K21.out hb)
          replace K30 := zMk (zKb K30.out hb)
          replace HB := zMk (zBt (by exact uT HB.out) hb)
          refine hK.out _ _ ⟨(zKc K05.out 0).trans rfl, (zKc K05.out 1).trans rfl, (zKc K06.out 0).trans rfl, (zKc K06.out 1).trans rfl, (zKc K07.out 0).trans rfl, (zKc K07.out 1).trans rfl⟩ (fun hHeld => ?_)
          clear hK K
          refine norm_ (a' := ?_) ?_ ?_
          rotate_left
          ·show Act.put _ (some 31) _ = _
           simp only [Act.put, zSa, zSb, zSc, i64_w, i32_w]
           rfl
          refine two_ (i := 5) (j := 7) (Ni := some 34) (Nj := some 9) #[true, true, true, true, true, true, false, false, false] #[true, true, true, true, true, false, false, true, false] rfl rfl rfl rfl (two_of HT_.out (by kernel_rfl)) (by decide) (by decide) (fun K hK => ?_) (fun K hK => ?_)
          ·skip
           refine goes_ Tryd.func21 (by kernel_rfl) rfl #[.agg #[.bool a0_0, .slice A0_1 l0_1.length c0_1], .agg #[.bool a2_0, .slice A2_1 l2_1.length c2_1]] (by rfl) rfl rfl (by (try simp only [zMa, zMc, zMn]); first | done | rfl | (simp only [zLd, zLt]; rfl)) ?_
           with_reducible refine (integer_Mul.calls k a0_0 _ _ l0_1 a2_0 _ _ l2_1 t535 t536 _ ?side1 ?side2 ?side3 ?side4 A11.out).mono ?_
           (case side1 => exact uC (zVr HO0_1.out).2.2)
           (case side2 => exact (zVr HO0_1.out).2.1)
           (case side3 => exact uC (zVr HO2_1.out).2.2)
           (case side4 => exact (zVr HO2_1.out).2.1)
           rintro e w110 ⟨v537, rfl, ho0, hb⟩
           refine ⟨_, rfl, ?_⟩
           replace HO0_1 := zMk (zVe (by exact uV HO0_1.out) (zRz ho0) hb)
           replace HO1_1 := zMk (zVe (by exact uV HO1_1.out) (zRz ho0) hb)
           replace HO2_1 := zMk (zVe (by exact uV HO2_1.out) (zRz ho0) hb)
           replace O10 := zMk (Kd.N_elder' (by exact uN O10.out) (zRz ho0) hb)
           have O38 := zMk (zRl (zRw (zRw (zRw (zRw (zRw (Kd.R_newM (M := fun k_ => (w.heap.size ≤ k_)) ho0 (zBs (by exact uT HB.out)) (fun k_ h_ => h_)) (zRt (by exact uR O16.out))) (zRt (by exact uR O20.out))) (zRt (by exact uR O25.out))) (zRt (by exact uR O29.out))) (zRt (by exact uR O34.out))) (zBs (by exact uT HB.out)))
           replace O16 := zMk (zRe (by exact uR O16.out) (zRz ho0) hb)
           replace O20 := zMk (zRe (by exact uR O20.out) (zRz ho0) hb)
           replace O25 := zMk (zRe (by exact uR O25.out) (zRz ho0) hb)
           replace O29 := zMk (zRe (by exact uR O29.out) (zRz ho0) hb)
           replace O34 := zMk (zRe (by exact uR O34.out) (zRz ho0) hb)
           replace K05 := zMk (zKb K05.out hb)
           replace K06 := zMk (zKb K06.out hb)
           replace K07 := zMk (zKb K07.out hb)
           replace K21 := zMk (zKb K21.out hb)
           replace K30 := zMk (zKb K30.out hb)
           replace HB := zMk (zBt (by exact uT HB.out) hb)
           obtain ⟨Ao111, co111, eo111⟩ := zRs O34.out
           (first |  subst eo111|  (injection eo111 with f1_ f2_ f3_; have f4_ := f1_.symm; have f5_ := f3_.symm; clear f1_ f2_ f3_; subst f4_; subst f5_))
           obtain ⟨Ao112, co112, eo112⟩ := zRs O38.out
           (first |  subst eo112|  (injection eo112 with f1_ f2_ f3_; have f4_ := f1_.symm; have f5_ := f3_.symm; clear f1_ f2_ f3_; subst f4_; subst f5_))
           refine hK.out _ _ ⟨(zKc K05.out 0).trans rfl, (zKc K05.out 1).trans rfl, (zKc K06.out 0).trans rfl, (zKc K06.out 1).trans rfl, (zKc K07.out 0).trans rfl, (zKc K07.out 1).trans rfl⟩ (fun hHeld => ?_)
           clear hK K
           refine norm_ (a' := ?_) ?_ ?_
           rotate_left
           ·show Act.put _ (some 34) _ = _
            simp only [Act.put, zSa, zSb, zSc, i64_w, i32_w]
            rfl
           refine two_ (i := 6) (j := 7) (Ni := some 35) (Nj := some 9) #[true, true, true, true, true, true, true, false, false] #[true, true, true, true, true, true, false, true, false] rfl rfl rfl rfl (two_of HT_.out (by kernel_rfl)) (by decide) (by decide) (fun K hK => ?_) (fun K hK => ?_)
           ·skip
            refine goes_ Tryd.func17 (by kernel_rfl) rfl #[.agg #[.bool t531, .slice Ao111 t532.length co111], .agg #[.bool t535, .slice Ao112 t536.length co112]] (by rfl) rfl rfl (by (try simp only [zMa, zMc, zMn]); first | done | rfl | (simp only [zLd, zLt]; rfl)) ?_
            with_reducible refine (integer_Add.calls k t531 _ _ t532 t535 _ _ t536 t539 t540 _ ?side1 ?side2 ?side3 ?side4 A12.out).mono ?_
            (case side1 => exact uC (zRr O34.out).2.2)
            (case side2 => exact (zRr O34.out).2.1)
            (case side3 => exact uC (zRr O38.out).2.2)
            (case side4 => exact (zRr O38.out).2.1)
            rintro e w113 ⟨v541, rfl, ho0, hb⟩
            refine ⟨_, rfl, ?_⟩
            replace HO0_1 := zMk (zVe (by exact uV HO0_1.out) (zRz ho0) hb)
            replace HO1_1 := zMk (zVe (by exact uV HO1_1.out) (zRz ho0) hb)
            replace HO2_1 := zMk (zVe (by exact uV HO2_1.out) (zRz ho0) hb)
            replace O10 := zMk (Kd.N_elder' (by exact uN O10.out) (zRz ho0) hb)
            have O42 := zMk (zRl (zRw (zRw (zRw (zRw (zRw (zRw (Kd.R_newM (M := fun k_ => (w.heap.size ≤ k_)) ho0 (zBs (by exact uT HB.out)) (fun k_ h_ => h_)) (zRt (by exact uR O16.out))) (zRt (by exact uR O20.out))) (zRt (by exact uR O25.out))) (zRt (by exact uR O29.out))) (zRt (by exact uR O34.out))) (zRt (by exact uR O38.out))) (zBs (by exact uT HB.out)))
            replace O16 := zMk (zRe (by exact uR O16.out) (zRz ho0) hb)
            replace O20 := zMk (zRe (by exact uR O20.out) (zRz ho0) hb)
            replace O25 := zMk (zRe (by exact uR O25.out) (zRz ho0) hb)
            replace O29 := zMk (zRe (by exact uR O29.out) (zRz ho0) hb)
            replace O34 := zMk (zRe (by exact uR O34.out) (zRz ho0) hb)
            replace O38 := zMk (zRe (by exact uR O38.out) (zRz ho0) hb)
            replace K05 := zMk (zKb K05.out hb)
            replace K06 := zMk (zKb K06.out hb)
            replace K07 := zMk (zKb K07.out hb)
            replace K21 := zMk (zKb K21.out hb)
            replace K30 := zMk (zKb K30.out hb)
            replace HB := zMk (zBt (by exact uT HB.out) hb)
            refine hK.out _ _ ⟨(zKc K05.out 0).trans rfl, (zKc K05.out 1).trans rfl, (zKc K06.out 0).trans rfl, (zKc K06.out 1).trans rfl, (zKc K07.out 0).trans rfl, (zKc K07.out 1).trans rfl⟩ (fun hHeld => ?_)
            clear hK K
            refine norm_ (a' := ?_) ?_ ?_
            rotate_left
            ·show Act.put _ (some 35) _ = _
             simp only [Act.put, zSa, zSb, zSc, i64_w, i32_w]
             rfl
            refine one_ (i := 7) (N := some 9) #[true, true, true, true, true, true, true, true, false] rfl rfl (one_of HT_.out (by kernel_rfl)) (by decide) (fun K hK => ?_)
            refine box_step ?hg (N := 9) ?hd (cs := #[.bool false, .slice none 0 0]) (t := 24) ?hr ?_; (case hd => rfl); (case hg => rfl); (case hr => first | (go_simp; done) | (go_simp; rfl) | (go_simp; rw [show ∀ x : Int, IntKind.u32.wrap (IntKind.u8.wrap x) = x % 256 from fun x => (by show (x % 256) % 4294967296 = x % 256; omega)]))
            intro g43 hg w114 hbox hb
            replace HO0_1 := zMk (zVb (Kd.V_elderB (by exact uV HO0_1.out) g43 (Nat.le_of_eq hg.symm)) hb)
            replace HO1_1 := zMk (zVb (Kd.V_elderB (by exact uV HO1_1.out) g43 (Nat.le_of_eq hg.symm)) hb)
            replace HO2_1 := zMk (zVb (Kd.V_elderB (by exact uV HO2_1.out) g43 (Nat.le_of_eq hg.symm)) hb)
            replace O10 := zMk (Kd.N_below (Kd.N_elderB (by exact uN O10.out) g43 (Nat.le_of_eq hg.symm)) hb)
            replace O16 := zMk (zRb (by exact uR O16.out) hb)
            replace O20 := zMk (zRb (by exact uR O20.out) hb)
            replace O25 := zMk (zRb (by exact uR O25.out) hb)
            replace O29 := zMk (zRb (by exact uR O29.out) hb)
            replace O34 := zMk (zRb (by exact uR O34.out) hb)
            replace O38 := zMk (zRb (by exact uR O38.out) hb)
            replace O42 := zMk (zRb (by exact uR O42.out) hb)
            have K43 := zMk (hbox)
            have W43 := zMk ((by rw [hg]; exact (zBs (by exact uT HB.out)) : w.heap.size ≤ g43))
            have E43 := zMk ((by rw [hg]; exact (zBs (by exact uT HB.out)) : w.heap.size ≤ g43))
            have IGE543 := ownGe E43.out
            replace HB := zMk (zBt (by exact uT HB.out) hb)
            have N05_43 := zMk ((by rw [hg]; exact Nat.ne_of_lt (blk_lt (g := g05) (o := .cells #[.bool a0_0, .slice A0_1 l0_1.length c0_1] 24 (0, 0)) K05.out) : g05 ≠ g43))
            have N43_05 := zMk ((by rw [hg]; exact Nat.ne_of_gt (blk_lt (g := g05) (o := .cells #[.bool a0_0, .slice A0_1 l0_1.length c0_1] 24 (0, 0)) K05.out) : g43 ≠ g05))
            replace K05 := zMk (zKb K05.out hb)
            have N06_43 := zMk ((by rw [hg]; exact Nat.ne_of_lt (blk_lt (g := g06) (o := .cells #[.bool a1_0, .slice A1_1 l1_1.length c1_1] 24 (0, 0)) K06.out) : g06 ≠ g43))
            have N43_06 := zMk ((by rw [hg]; exact Nat.ne_of_gt (blk_lt (g := g06) (o := .cells #[.bool a1_0, .slice A1_1 l1_1.length c1_1] 24 (0, 0)) K06.out) : g43 ≠ g06))
            replace K06 := zMk (zKb K06.out hb)
            have N07_43 := zMk ((by rw [hg]; exact Nat.ne_of_lt (blk_lt (g := g07) (o := .cells #[.bool a2_0, .slice A2_1 l2_1.length c2_1] 24 (0, 0)) K07.out) : g07 ≠ g43))
            have N43_07 := zMk ((by rw [hg]; exact Nat.ne_of_gt (blk_lt (g := g07) (o := .cells #[.bool a2_0, .slice A2_1 l2_1.length c2_1] 24 (0, 0)) K07.out) : g43 ≠ g07))
            replace K07 := zMk (zKb K07.out hb)
            have N21_43 := zMk ((by rw [hg]; exact Nat.ne_of_lt (blk_lt (g := g21) (o := .cells #[.bool false, .slice Ao95 t518.length co95] 24 (0, 0)) K21.out) : g21 ≠ g43))
            have N43_21 := zMk ((by rw [hg]; exact Nat.ne_of_gt (blk_lt (g := g21) (o := .cells #[.bool false, .slice Ao95 t518.length co95] 24 (0, 0)) K21.out) : g43 ≠ g21))
            replace K21 := zMk (zKb K21.out hb)
            have N30_43 := zMk ((by rw [hg]; exact Nat.ne_of_lt (blk_lt (g := g30) (o := .cells #[.bool t526, .slice Ao105 t527.length co105] 24 (0, 0)) K30.out) : g30 ≠ g43))
            have N43_30 := zMk ((by rw [hg]; exact Nat.ne_of_gt (blk_lt (g := g30) (o := .cells #[.bool t526, .slice Ao105 t527.length co105] 24 (0, 0)) K30.out) : g43 ≠ g30))
            replace K30 := zMk (zKb K30.out hb)
            clear hb hbox hg
            refine hK.out _ _ ⟨(zKc K05.out 0).trans rfl, (zKc K05.out 1).trans rfl, (zKc K06.out 0).trans rfl, (zKc K06.out 1).trans rfl, (zKc K07.out 0).trans rfl, (zKc K07.out 1).trans rfl⟩ (fun hHeld => ?_)
            clear hK K
            refine norm_ (a' := ?_) ?_ ?_
            rotate_left
            ·show Act.put _ (some 9) _ = _
             simp only [Act.put, zSa, zSb, zSc, i64_w, i32_w]
             rfl
            exact norm_ (by simp only [putAll, Act.put, zSa, zSb, zSc]) (hCont (.slice Ao111 t532.length co111, .slice Ao112 t536.length co112, v541, g43) _ ⟨hHeld, zVm HO0_1.out (fun _ hk => (by grind)), zVm HO1_1.out (fun _ hk => (by grind)), zVm HO2_1.out (fun _ hk => (by grind)), Kd.N_mono O10.out (fun _ hk => (by grind)), zRm O16.out (fun _ hk => (by grind)), zRm O20.out (fun _ hk => (by grind)), zRm O25.out (fun _ hk => (by grind)), zRm O29.out (fun _ hk => (by grind)), zRm O34.out (fun _ hk => (by grind)), zRm O38.out (fun _ hk => (by grind)), zRm O42.out (fun _ hk => (by grind)), K05.out, K06.out, K07.out, K21.out, K30.out, K43.out, W43.out, E43.out, N05_43.out, N43_05.out, N06_43.out, N43_06.out, N07_43.out, N43_07.out, N21_43.out, N43_21.out, N30_43.out, N43_30.out, (by exact uT HB.out)⟩)
           ·skip
            refine box_step ?hg (N := 9) ?hd (cs := #[.bool false, .slice none 0 0]) (t := 24) ?hr ?_; (case hd => rfl); (case hg => rfl); (case hr => first | (go_simp; done) | (go_simp; rfl) | (go_simp; rw [show ∀ x : Int, IntKind.u32.wrap (IntKind.u8.wrap x) = x % 256 from fun x => (by show (x % 256) % 4294967296 = x % 256; omega)]))
            intro g43 hg w111 hbox hb
            replace HO0_1 := zMk (zVb (Kd.V_elderB (by exact uV HO0_1.out) g43 (Nat.le_of_eq hg.symm)) hb)
            replace HO1_1 := zMk (zVb (Kd.V_elderB (by exact uV HO1_1.out) g43 (Nat.le_of_eq hg.symm)) hb)
            replace HO2_1 := zMk (zVb (Kd.V_elderB (by exact uV HO2_1.out) g43 (Nat.le_of_eq hg.symm)) hb)
            replace O10 := zMk (Kd.N_below (Kd.N_elderB (by exact uN O10.out) g43 (Nat.le_of_eq hg.symm)) hb)
            replace O16 := zMk (zRb (by exact uR O16.out) hb)
            replace O20 := zMk (zRb (by exact uR O20.out) hb)
            replace O25 := zMk (zRb (by exact uR O25.out) hb)
            replace O29 := zMk (zRb (by exact uR O29.out) hb)
            replace O34 := zMk (zRb (by exact uR O34.out) hb)
            replace O38 := zMk (zRb (by exact uR O38.out) hb)
            have K43 := zMk (hbox)
            have W43 := zMk ((by rw [hg]; exact (zBs (by exact uT HB.out)) : w.heap.size ≤ g43))
            have E43 := zMk ((by rw [hg]; exact (zBs (by exact uT HB.out)) : w.heap.size ≤ g43))
            have IGE543 := ownGe E43.out
            replace HB := zMk (zBt (by exact uT HB.out) hb)
            have N05_43 := zMk ((by rw [hg]; exact Nat.ne_of_lt (blk_lt (g := g05) (o := .cells #[.bool a0_0, .slice A0_1 l0_1.length c0_1] 24 (0, 0)) K05.out) : g05 ≠ g43))
            have N43_05 := zMk ((by rw [hg]; exact Nat.ne_of_gt (blk_lt (g := g05) (o := .cells #[.bool a0_0, .slice A0_1 l0_1.length c0_1] 24 (0, 0)) K05.out) : g43 ≠ g05))
            replace K05 := zMk (zKb K05.out hb)
            have N06_43 := zMk ((by rw [hg]; exact Nat.ne_of_lt (blk_lt (g := g06) (o := .cells #[.bool a1_0, .slice A1_1 l1_1.length c1_1] 24 (0, 0)) K06.out) : g06 ≠ g43))
            have N43_06 := zMk ((by rw [hg]; exact Nat.ne_of_gt (blk_lt (g := g06) (o := .cells #[.bool a1_0, .slice A1_1 l1_1.length c1_1] 24 (0, 0)) K06.out) : g43 ≠ g06))
            replace K06 := zMk (zKb K06.out hb)
            have N07_43 := zMk ((by rw [hg]; exact Nat.ne_of_lt (blk_lt (g := g07) (o := .cells #[.bool a2_0, .slice A2_1 l2_1.length c2_1] 24 (0, 0)) K07.out) : g07 ≠ g43))
            have N43_07 := zMk ((by rw [hg]; exact Nat.ne_of_gt (blk_lt (g := g07) (o := .cells #[.bool a2_0, .slice A2_1 l2_1.length c2_1] 24 (0, 0)) K07.out) : g43 ≠ g07))
            replace K07 := zMk (zKb K07.out hb)
            have N21_43 := zMk ((by rw [hg]; exact Nat.ne_of_lt (blk_lt (g := g21) (o := .cells #[.bool false, .slice Ao95 t518.length co95] 24 (0, 0)) K21.out) : g21 ≠ g43))
            have N43_21 := zMk ((by rw [hg]; exact Nat.ne_of_gt (blk_lt (g := g21) (o := .cells #[.bool false, .slice Ao95 t518.length co95] 24 (0, 0)) K21.out) : g43 ≠ g21))
            replace K21 := zMk (zKb K21.out hb)
            have N30_43 := zMk ((by rw [hg]; exact Nat.ne_of_lt (blk_lt (g := g30) (o := .cells #[.bool t526, .slice Ao105 t527.length co105] 24 (0, 0)) K30.out) : g30 ≠ g43))
            have N43_30 := zMk ((by rw [hg]; exact Nat.ne_of_gt (blk_lt (g := g30) (o := .cells #[.bool t526, .slice Ao105 t527.length co105] 24 (0, 0)) K30.out) : g43 ≠ g30))
            replace K30 := zMk (zKb K30.out hb)
            clear hb hbox hg
            obtain ⟨Ao112, co112, eo112⟩ := zRs O34.out
            (first |  subst eo112|  (injection eo112 with f1_ f2_ f3_; have f4_ := f1_.symm; have f5_ := f3_.symm; clear f1_ f2_ f3_; subst f4_; subst f5_))
            obtain ⟨Ao113, co113, eo113⟩ := zRs O38.out
            (first |  subst eo113|  (injection eo113 with f1_ f2_ f3_; have f4_ := f1_.symm; have f5_ := f3_.symm; clear f1_ f2_ f3_; subst f4_; subst f5_))
            refine hK.out _ _ ⟨(zKc K05.out 0).trans rfl, (zKc K05.out 1).trans rfl, (zKc K06.out 0).trans rfl, (zKc K06.out 1).trans rfl, (zKc K07.out 0).trans rfl, (zKc K07.out 1).trans rfl⟩ (fun hHeld => ?_)
            clear hK K
            refine norm_ (a' := ?_) ?_ ?_
            rotate_left
            ·show Act.put _ (some 9) _ = _
             simp only [Act.put, zSa, zSb, zSc, i64_w, i32_w]
             rfl
            refine one_ (i := 6) (N := some 35) #[true, true, true, true, true, true, true, true, false] rfl rfl (one_of HT_.out (by kernel_rfl)) (by decide) (fun K hK => ?_)
            refine goes_ Tryd.func17 (by kernel_rfl) rfl #[.agg #[.bool t531, .slice Ao112 t532.length co112], .agg #[.bool t535, .slice Ao113 t536.length co113]] (by rfl) rfl rfl (by (try simp only [zMa, zMc, zMn]); first | done | rfl | (simp only [zLd, zLt]; rfl)) ?_
            with_reducible refine (integer_Add.calls k t531 _ _ t532 t535 _ _ t536 t539 t540 _ ?side1 ?side2 ?side3 ?side4 A12.out).mono ?_
            (case side1 => exact uC (zRr O34.out).2.2)
            (case side2 => exact (zRr O34.out).2.1)
            (case side3 => exact uC (zRr O38.out).2.2)
            (case side4 => exact (zRr O38.out).2.1)
            rintro e w114 ⟨v541, rfl, ho0, hb⟩
            refine ⟨_, rfl, ?_⟩
            replace HO0_1 := zMk (zVe (by exact uV HO0_1.out) (zRz ho0) hb)
            replace HO1_1 := zMk (zVe (by exact uV HO1_1.out) (zRz ho0) hb)
            replace HO2_1 := zMk (zVe (by exact uV HO2_1.out) (zRz ho0) hb)
            replace O10 := zMk (Kd.N_elder' (by exact uN O10.out) (zRz ho0) hb)
            have O42 := zMk (zRl (zRw (zRw (zRw (zRw (zRw (zRw (Kd.R_newM (M := fun k_ => (w.heap.size ≤ k_)) ho0 (zBs (by exact uT HB.out)) (fun k_ h_ => h_)) (zRt (by exact uR O16.out))) (zRt (by exact uR O20.out))) (zRt (by exact uR O25.out))) (zRt (by exact uR O29.out))) (zRt (by exact uR O34.out))) (zRt (by exact uR O38.out))) (zBs (by exact uT HB.out)))
            replace O16 := zMk (zRe (by exact uR O16.out) (zRz ho0) hb)
            replace O20 := zMk (zRe (by exact uR O20.out) (zRz ho0) hb)
            replace O25 := zMk (zRe (by exact uR O25.out) (zRz ho0) hb)
            replace O29 := zMk (zRe (by exact uR O29.out) (zRz ho0) hb)
            replace O34 := zMk (zRe (by exact uR O34.out) (zRz ho0) hb)
            replace O38 := zMk (zRe (by exact uR O38.out) (zRz ho0) hb)
            replace K05 := zMk (zKb K05.out hb)
            replace K06 := zMk (zKb K06.out hb)
            replace K07 := zMk (zKb K07.out hb)
            replace K21 := zMk (zKb K21.out hb)
            replace K30 := zMk (zKb K30.out hb)
            replace K43 := zMk (zKb K43.out hb)
            replace HB := zMk (zBt (by exact uT HB.out) hb)
            refine hK.out _ _ ⟨(zKc K05.out 0).trans rfl, (zKc K05.out 1).trans rfl, (zKc K06.out 0).trans rfl, (zKc K06.out 1).trans rfl, (zKc K07.out 0).trans rfl, (zKc K07.out 1).trans rfl⟩ (fun hHeld => ?_)
            clear hK K
            refine norm_ (a' := ?_) ?_ ?_
            rotate_left
            ·show Act.put _ (some 35) _ = _
             simp only [Act.put, zSa, zSb, zSc, i64_w, i32_w]
             rfl
            exact norm_ (by simp only [putAll, Act.put, zSa, zSb, zSc]) (hCont (.slice Ao112 t532.length co112, .slice Ao113 t536.length co113, v541, g43) _ ⟨hHeld, zVm HO0_1.out (fun _ hk => (by grind)), zVm HO1_1.out (fun _ hk => (by grind)), zVm HO2_1.out (fun _ hk => (by grind)), Kd.N_mono O10.out (fun _ hk => (by grind)), zRm O16.out (fun _ hk => (by grind)), zRm O20.out (fun _ hk => (by grind)), zRm O25.out (fun _ hk => (by grind)), zRm O29.out (fun _ hk => (by grind)), zRm O34.out (fun _ hk => (by grind)), zRm O38.out (fun _ hk => (by grind)), zRm O42.out (fun _ hk => (by grind)), K05.out, K06.out, K07.out, K21.out, K30.out, K43.out, W43.out, E43.out, N05_43.out, N43_05.out, N06_43.out, N43_06.out, N07_43.out, N43_07.out, N21_43.out, N43_21.out, N30_43.out, N43_30.out, (by exact uT HB.out)⟩)
          ·skip
           refine box_step ?hg (N := 9) ?hd (cs := #[.bool false, .slice none 0 0]) (t := 24) ?hr ?_; (case hd => rfl); (case hg => rfl); (case hr => first | (go_simp; done) | (go_simp; rfl) | (go_simp; rw [show ∀ x : Int, IntKind.u32.wrap (IntKind.u8.wrap x) = x % 256 from fun x => (by show (x % 256) % 4294967296 = x % 256; omega)]))
           intro g43 hg w110 hbox hb
           replace HO0_1 := zMk (zVb (Kd.V_elderB (by exact uV HO0_1.out) g43 (Nat.le_of_eq hg.symm)) hb)
           replace HO1_1 := zMk (zVb (Kd.V_elderB (by exact uV HO1_1.out) g43 (Nat.le_of_eq hg.symm)) hb)
           replace HO2_1 := zMk (zVb (Kd.V_elderB (by exact uV HO2_1.out) g43 (Nat.le_of_eq hg.symm)) hb)
           replace O10 := zMk (Kd.N_below (Kd.N_elderB (by exact uN O10.out) g43 (Nat.le_of_eq hg.symm)) hb)
           replace O16 := zMk (zRb (by exact uR O16.out) hb)
           replace O20 := zMk (zRb (by exact uR O20.out) hb)
           replace O25 := zMk (zRb (by exact uR O25.out) hb)
           replace O29 := zMk (zRb (by exact uR O29.out) hb)
           replace O34 := zMk (zRb (by exact uR O34.out) hb)
           have K43 := zMk (hbox)
           have W43 := zMk ((by rw [hg]; exact (zBs (by exact uT HB.out)) : w.heap.size ≤ g43))
           have E43 := zMk ((by rw [hg]; exact (zBs (by exact uT HB.out)) : w.heap.size ≤ g43))
           have IGE543 := ownGe E43.out
           replace HB := zMk (zBt (by exact uT HB.out) hb)
           have N05_43 := zMk ((by rw [hg]; exact Nat.ne_of_lt (blk_lt (g := g05) (o := .cells #[.bool a0_0, .slice A0_1 l0_1.length c0_1] 24 (0, 0)) K05.out) : g05 ≠ g43))
           have N43_05 := zMk ((by rw [hg]; exact Nat.ne_of_gt (blk_lt (g := g05) (o := .cells #[.bool a0_0, .slice A0_1 l0_1.length c0_1] 24 (0, 0)) K05.out) : g43 ≠ g05))
           replace K05 := zMk (zKb K05.out hb)
           have N06_43 := zMk ((by rw [hg]; exact Nat.ne_of_lt (blk_lt (g := g06) (o := .cells #[.bool a1_0, .slice A1_1 l1_1.length c1_1] 24 (0, 0)) K06.out) : g06 ≠ g43))
           have N43_06 := zMk ((by rw [hg]; exact Nat.ne_of_gt (blk_lt (g := g06) (o := .cells #[.bool a1_0, .slice A1_1 l1_1.length c1_1] 24 (0, 0)) K06.out) : g43 ≠ g06))
           replace K06 := zMk (zKb K06.out hb)
           have N07_43 := zMk ((by rw [hg]; exact Nat.ne_of_lt (blk_lt (g := g07) (o := .cells #[.bool a2_0, .slice A2_1 l2_1.length c2_1] 24 (0, 0)) K07.out) : g07 ≠ g43))
           have N43_07 := zMk ((by rw [hg]; exact Nat.ne_of_gt (blk_lt (g := g07) (o := .cells #[.bool a2_0, .slice A2_1 l2_1.length c2_1] 24 (0, 0)) K07.out) : g43 ≠ g07))
           replace K07 := zMk (zKb K07.out hb)
           have N21_43 := zMk ((by rw [hg]; exact Nat.ne_of_lt (blk_lt (g := g21) (o := .cells #[.bool false, .slice Ao95 t518.length co95] 24 (0, 0)) K21.out) : g21 ≠ g43))
           have N43_21 := zMk ((by rw [hg]; exact Nat.ne_of_gt (blk_lt (g := g21) (o := .cells #[.bool false, .slice Ao95 t518.length co95] 24 (0, 0)) K21.out) : g43 ≠ g21))
           replace K21 := zMk (zKb K21.out hb)
           have N30_43 := zMk ((by rw [hg]; exact Nat.ne_of_lt (blk_lt (g := g30) (o := .cells #[.bool t526, .slice Ao105 t527.length co105] 24 (0, 0)) K30.out) : g30 ≠ g43))
           have N43_30 := zMk ((by rw [hg]; exact Nat.ne_of_gt (blk_lt (g := g30) (o := .cells #[.bool t526, .slice Ao105 t527.length co105] 24 (0, 0)) K30.out) : g43 ≠ g30))
           replace K30 := zMk (zKb K30.out hb)
           clear hb hbox hg
           refine hK.out _ _ ⟨(zKc K05.out 0).trans rfl, (zKc K05.out 1).trans rfl, (zKc K06.out 0).trans rfl, (zKc K06.out 1).trans rfl, (zKc K07.out 0).trans rfl, (zKc K07.out 1).trans rfl⟩ (fun hHeld => ?_)
           clear hK K
           refine norm_ (a' := ?_) ?_ ?_
           rotate_left
           ·show Act.put _ (some 9) _ = _
            simp only [Act.put, zSa, zSb, zSc, i64_w, i32_w]
            rfl
           refine one_ (i := 5) (N := some 34) #[true, true, true, true, true, true, false, true, false] rfl rfl (one_of HT_.out (by kernel_rfl)) (by decide) (fun K hK => ?_)
           refine goes_ Tryd.func21 (by kernel_rfl) rfl #[.agg #[.bool a0_0, .slice A0_1 l0_1.length c0_1], .agg #[.bool a2_0, .slice A2_1 l2_1.length c2_1]] (by rfl) rfl rfl (by (try simp only [zMa, zMc, zMn]); first | done | rfl | (simp only [zLd, zLt]; rfl)) ?_
           with_reducible refine (integer_Mul.calls k a0_0 _ _ l0_1 a2_0 _ _ l2_1 t535 t536 _ ?side1 ?side2 ?side3 ?side4 A11.out).mono ?_
           (case side1 => exact uC (zVr HO0_1.out).2.2)
           (case side2 => exact (zVr HO0_1.out).2.1)
           (case side3 => exact uC (zVr HO2_1.out).2.2)
           (case side4 => exact (zVr HO2_1.out).2.1)
           rintro e w111 ⟨v537, rfl, ho0, hb⟩
           refine ⟨_, rfl, ?_⟩
           replace HO0_1 := zMk (zVe (by exact uV HO0_1.out) (zRz ho0) hb)
           replace HO1_1 := zMk (zVe (by exact uV HO1_1.out) (zRz ho0) hb)
           replace HO2_1 := zMk (zVe (by exact uV HO2_1.out) (zRz ho0) hb)
           replace O10 := zMk (Kd.N_elder' (by exact uN O10.out) (zRz ho0) hb)
           have O38 := zMk (zRl (zRw (zRw (zRw (zRw (zRw (Kd.R_newM (M := fun k_ => (w.heap.size ≤ k_)) ho0 (zBs (by exact uT HB.out)) (fun k_ h_ => h_)) (zRt (by exact uR O16.out))) (zRt (by exact uR O20.out))) (zRt (by exact uR O25.out))) (zRt (by exact uR O29.out))) (zRt (by exact uR O34.out))) (zBs (by exact uT HB.out)))
           replace O16 := zMk (zRe (by exact uR O16.out) (zRz ho0) hb)
           replace O20 := zMk (zRe (by exact uR O20.out) (zRz ho0) hb)
           replace O25 := zMk (zRe (by exact uR O25.out) (zRz ho0) hb)
           replace O29 := zMk (zRe (by exact uR O29.out) (zRz ho0) hb)
           replace O34 := zMk (zRe (by exact uR O34.out) (zRz ho0) hb)
           replace K05 := zMk (zKb K05.out hb)
           replace K06 := zMk (zKb K06.out hb)
           replace K07 := zMk (zKb K07.out hb)
           replace K21 := zMk (zKb K21.out hb)
           replace K30 := zMk (zKb K30.out hb)
           replace K43 := zMk (zKb K43.out hb)
           replace HB := zMk (zBt (by exact uT HB.out) hb)
           obtain ⟨Ao112, co112, eo112⟩ := zRs O34.out
           (first |  subst eo112|  (injection eo112 with f1_ f2_ f3_; have f4_ := f1_.symm; have f5_ := f3_.symm; clear f1_ f2_ f3_; subst f4_; subst f5_))
           obtain ⟨Ao113, co113, eo113⟩ := zRs O38.out
           (first |  subst eo113|  (injection eo113 with f1_ f2_ f3_; have f4_ := f1_.symm; have f5_ := f3_.symm; clear f1_ f2_ f3_; subst f4_; subst f5_))
           refine hK.out _ _ ⟨(zKc K05.out 0).trans rfl, (zKc K05.out 1).trans rfl, (zKc K06.out 0).trans rfl, (zKc K06.out 1).trans rfl, (zKc K07.out 0).trans rfl, (zKc K07.out 1).trans rfl⟩ (fun hHeld => ?_)
           clear hK K
           refine norm_ (a' := ?_) ?_ ?_
           rotate_left
           ·show Act.put _ (some 34) _ = _
            simp only [Act.put, zSa, zSb, zSc, i64_w, i32_w]
            rfl
           refine one_ (i := 6) (N := some 35) #[true, true, true, true, true, true, true, true, false] rfl rfl (one_of HT_.out (by kernel_rfl)) (by decide) (fun K hK => ?_)
           refine goes_ Tryd.func17 (by kernel_rfl) rfl #[.agg #[.bool t531, .slice Ao112 t532.length co112], .agg #[.bool t535, .slice Ao113 t536.length co113]] (by rfl) rfl rfl (by (try simp only [zMa, zMc, zMn]); first | done | rfl | (simp only [zLd, zLt]; rfl)) ?_
           with_reducible refine (integer_Add.calls k t531 _ _ t532 t535 _ _ t536 t539 t540 _ ?side1 ?side2 ?side3 ?side4 A12.out).mono ?_
           (case side1 => exact uC (zRr O34.out).2.2)
           (case side2 => exact (zRr O34.out).2.1)
           (case side3 => exact uC (zRr O38.out).2.2)
           (case side4 => exact (zRr O38.out).2.1)
           rintro e w114 ⟨v541, rfl, ho0, hb⟩
           refine ⟨_, rfl, ?_⟩
           replace HO0_1 := zMk (zVe (by exact uV HO0_1.out) (zRz ho0) hb)
           replace HO1_1 := zMk (zVe (by exact uV HO1_1.out) (zRz ho0) hb)
           replace HO2_1 := zMk (zVe (by exact uV HO2_1.out) (zRz ho0) hb)
           replace O10 := zMk (Kd.N_elder' (by exact uN O10.out) (zRz ho0) hb)
           have O42 := zMk (zRl (zRw (zRw (zRw (zRw (zRw (zRw (Kd.R_newM (M := fun k_ => (w.heap.size ≤ k_)) ho0 (zBs (by exact uT HB.out)) (fun k_ h_ => h_)) (zRt (by exact uR O16.out))) (zRt (by exact uR O20.out))) (zRt (by exact uR O25.out))) (zRt (by exact uR O29.out))) (zRt (by exact uR O34.out))) (zRt (by exact uR O38.out))) (zBs (by exact uT HB.out)))
           replace O16 := zMk (zRe (by exact uR O16.out) (zRz ho0) hb)
           replace O20 := zMk (zRe (by exact uR O20.out) (zRz ho0) hb)
           replace O25 := zMk (zRe (by exact uR O25.out) (zRz ho0) hb)
           replace O29 := zMk (zRe (by exact uR O29.out) (zRz ho0) hb)
           replace O34 := zMk (zRe (by exact uR O34.out) (zRz ho0) hb)
           replace O38 := zMk (zRe (by exact uR O38.out) (zRz ho0) hb)
           replace K05 := zMk (zKb K05.out hb)
           replace K06 := zMk (zKb K06.out hb)
           replace K07 := zMk (zKb K07.out hb)
           replace K21 := zMk (zKb K21.out hb)
           replace K30 := zMk (zKb K30.out hb)
           replace K43 := zMk (zKb K43.out hb)
           replace HB := zMk (zBt (by exact uT HB.out) hb)
           refine hK.out _ _ ⟨(zKc K05.out 0).trans rfl, (zKc K05.out 1).trans rfl, (zKc K06.out 0).trans rfl, (zKc K06.out 1).trans rfl, (zKc K07.out 0).trans rfl, (zKc K07.out 1).trans rfl⟩ (fun hHeld => ?_)
           clear hK K
           refine norm_ (a' := ?_) ?_ ?_
           rotate_left
           ·show Act.put _ (some 35) _ = _
            simp only [Act.put, zSa, zSb, zSc, i64_w, i32_w]
            rfl
           exact norm_ (by simp only [putAll, Act.put, zSa, zSb, zSc]) (hCont (.slice Ao112 t532.length co112, .slice Ao113 t536.length co113, v541, g43) _ ⟨hHeld, zVm HO0_1.out (fun _ hk => (by grind)), zVm HO1_1.out (fun _ hk => (by grind)), zVm HO2_1.out (fun _ hk => (by grind)), Kd.N_mono O10.out (fun _ hk => (by grind)), zRm O16.out (fun _ hk => (by grind)), zRm O20.out (fun _ hk => (by grind)), zRm O25.out (fun _ hk => (by grind)), zRm O29.out (fun _ hk => (by grind)), zRm O34.out (fun _ hk => (by grind)), zRm O38.out (fun _ hk => (by grind)), zRm O42.out (fun _ hk => (by grind)), K05.out, K06.out, K07.out, K21.out, K30.out, K43.out, W43.out, E43.out, N05_43.out, N43_05.out, N06_43.out, N43_06.out, N07_43.out, N43_07.out, N21_43.out, N43_21.out, N30_43.out, N43_30.out, (by exact uT HB.out)⟩)
         ·skip
          refine box_step ?hg (N := 9) ?hd (cs := #[.bool false, .slice none 0 0]) (t := 24) ?hr ?_; (case hd => rfl); (case hg => rfl); (case hr => first | (go_simp; done) | (go_simp; rfl) | (go_simp; rw [show ∀ x : Int, IntKind.u32.wrap (IntKind.u8.wrap x) = x % 256 from fun x => (by show (x % 256) % 4294967296 = x % 256; omega)]))
          intro g43 hg w109 hbox hb
          replace HO0_1 := zMk (zVb (Kd.V_elderB (by exact uV HO0_1.out) g43 (Nat.le_of_eq hg.symm)) hb)
          replace HO1_1 := zMk (zVb (Kd.V_elderB (by exact uV HO1_1.out) g43 (Nat.le_of_eq hg.symm)) hb)
          replace HO2_1 := zMk (zVb (Kd.V_elderB (by exact uV HO2_1.out) g43 (Nat.le_of_eq hg.symm)) hb)
          replace O10 := zMk (Kd.N_below (Kd.N_elderB (by exact uN O10.out) g43 (Nat.le_of_eq hg.symm)) hb)
          replace O16 := zMk (zRb (by exact uR O16.out) hb)
          replace O20 := zMk (zRb (by exact uR O20.out) hb)
          replace O25 := zMk (zRb (by exact uR O25.out) hb)
          replace O29 := zMk (zRb (by exact uR O29.out) hb)
          have K43 := zMk (hbox)
          have W43 := zMk ((by rw [hg]; exact (zBs (by exact uT HB.out)) : w.heap.size ≤ g43))
          have E43 := zMk ((by rw [hg]; exact (zBs (by exact uT HB.out)) : w.heap.size ≤ g43))
          have IGE543 := ownGe E43.out
          replace HB := zMk (zBt (by exact uT HB.out) hb)
          have N05_43 := zMk ((by rw [hg]; exact Nat.ne_of_lt (blk_lt (g := g05) (o := .cells #[.bool a0_0, .slice A0_1 l0_1.length c0_1] 24 (0, 0)) K05.out) : g05 ≠ g43))
          have N43_05 := zMk ((by rw [hg]; exact Nat.ne_of_gt (blk_lt (g := g05) (o := .cells #[.bool a0_0, .slice A0_1 l0_1.length c0_1] 24 (0, 0)) K05.out) : g43 ≠ g05))
          replace K05 := zMk (zKb K05.out hb)
          have N06_43 := zMk ((by rw [hg]; exact Nat.ne_of_lt (blk_lt (g := g06) (o := .cells #[.bool a1_0, .slice A1_1 l1_1.length c1_1] 24 (0, 0)) K06.out) : g06 ≠ g43))
          have N43_06 := zMk ((by rw [hg]; exact Nat.ne_of_gt (blk_lt (g := g06) (o := .cells #[.bool a1_0, .slice A1_1 l1_1.length c1_1] 24 (0, 0)) K06.out) : g43 ≠ g06))
          replace K06 := zMk (zKb K06.out hb)
          have N07_43 := zMk ((by rw [hg]; exact Nat.ne_of_lt (blk_lt (g := g07) (o := .cells #[.bool a2_0, .slice A2_1 l2_1.length c2_1] 24 (0, 0)) K07.out) : g07 ≠ g43))
          have N43_07 := zMk ((by rw [hg]; exact Nat.ne_of_gt (blk_lt (g := g07) (o := .cells #[.bool a2_0, .slice A2_1 l2_1.length c2_1] 24 (0, 0)) K07.out) : g43 ≠ g07))
          replace K07 := zMk (zKb K07.out hb)
          have N21_43 := zMk ((by rw [hg]; exact Nat.ne_of_lt (blk_lt (g := g21) (o := .cells #[.bool false, .slice Ao95 t518.length co95] 24 (0, 0)) K21.out) : g21 ≠ g43))
          have N43_21 := zMk ((by rw [hg]; exact Nat.ne_of_gt (blk_lt (g := g21) (o := .cells #[.bool false, .slice Ao95 t518.length co95] 24 (0, 0)) K21.out) : g43 ≠ g21))
          replace K21 := zMk (zKb K21.out hb)
          have N30_43 := zMk ((by rw [hg]; exact Nat.ne_of_lt (blk_lt (g := g30) (o := .cells #[.bool t526, .slice Ao105 t527.length co105] 24 (0, 0)) K30.out) : g30 ≠ g43))
          have N43_30 := zMk ((by rw [hg]; exact Nat.ne_of_gt (blk_lt (g := g30) (o := .cells #[.bool t526, .slice Ao105 t527.length co105] 24 (0, 0)) K30.out) : g43 ≠ g30))
          replace K30 := zMk (zKb K30.out hb)
          clear hb hbox hg
          refine hK.out _ _ ⟨(zKc K05.out 0).trans rfl, (zKc K05.out 1).trans rfl, (zKc K06.out 0).trans rfl, (zKc K06.out 1).trans rfl, (zKc K07.out 0).trans rfl, (zKc K07.out 1).trans rfl⟩ (fun hHeld => ?_)
          clear hK K
          refine norm_ (a' := ?_) ?_ ?_
          rotate_left
          ·show Act.put _ (some 9) _ = _
           simp only [Act.put, zSa, zSb, zSc, i64_w, i32_w]
           rfl
          refine one_ (i := 2) (N := some 31) #[true, true, true, true, true, false, false, true, false] rfl rfl (one_of HT_.out (by kernel_rfl)) (by decide) (fun K hK => ?_)
          refine goes_ Tryd.func21 (by kernel_rfl) rfl #[.agg #[.bool a0_0, .slice A0_1 l0_1.length c0_1], .agg #[.bool a1_0, .slice A1_1 l1_1.length c1_1]] (by rfl) rfl rfl (by (try simp only [zMa, zMc, zMn]); first | done | rfl | (simp only [zLd, zLt]; rfl)) ?_
          with_reducible refine (integer_Mul.calls k a0_0 _ _ l0_1 a1_0 _ _ l1_1 t531 t532 _ ?side1 ?side2 ?side3 ?side4 A10.out).mono ?_
          (case side1 => exact uC (zVr HO0_1.out).2.2)
          (case side2 => exact (zVr HO0_1.out).2.1)
          (case side3 => exact uC (zVr HO1_1.out).2.2)
          (case side4 => exact (zVr HO1_1.out).2.1)
          rintro e w110 ⟨v533, rfl, ho0, hb⟩
          refine ⟨_, rfl, ?_⟩
          replace HO0_1 := zMk (zVe (by exact uV HO0_1.out) (zRz ho0) hb)
          replace HO1_1 := zMk (zVe (by exact uV HO1_1.out) (zRz ho0) hb)
          replace HO2_1 := zMk (zVe (by exact uV HO2_1.out) (zRz ho0) hb)
          replace O10 := zMk (Kd.N_elder' (by exact uN O10.out) (zRz ho0) hb)
          have O34 := zMk (zRl (zRw (zRw (zRw (zRw (Kd.R_newM (M := fun k_ => (w.heap.size ≤ k_)) ho0 (zBs (by exact uT HB.out)) (fun k_ h_ => h_)) (zRt (by exact uR O16.out))) (zRt (by exact uR O20.out))) (zRt (by exact uR O25.out))) (zRt (by exact uR O29.out))) (zBs (by exact uT HB.out)))
          replace O16 := zMk (zRe (by exact uR O16.out) (zRz ho0) hb)
          replace O20 := zMk (zRe (by exact uR O20.out) (zRz ho0) hb)
          replace O25 := zMk (zRe (by exact uR O25.out) (zRz ho0) hb)
          replace O29 := zMk (zRe (by exact uR O29.out) (zRz ho0) hb)
          replace K05 := zMk (zKb K05.out hb)
          replace K06 := zMk (zKb K06.out hb)
          replace K07 := zMk (zKb K07.out hb)
          replace K21 := zMk (zKb K21.out hb)
          replace K30 := zMk (zKb K30.out hb)
          replace K43 := zMk (zKb K43.out hb)
          replace HB := zMk (zBt (by exact uT HB.out) hb)
          refine hK.out _ _ ⟨(zKc K05.out 0).trans rfl, (zKc K05.out 1).trans rfl, (zKc K06.out 0).trans rfl, (zKc K06.out 1).trans rfl, (zKc K07.out 0).trans rfl, (zKc K07.out 1).trans rfl⟩ (fun hHeld => ?_)
          clear hK K
          refine norm_ (a' := ?_) ?_ ?_
          rotate_left
          ·show Act.put _ (some 31) _ = _
           simp only [Act.put, zSa, zSb, zSc, i64_w, i32_w]
           rfl
          refine one_ (i := 5) (N := some 34) #[true, true, true, true, true, true, false, true, false] rfl rfl (one_of HT_.out (by kernel_rfl)) (by decide) (fun K hK => ?_)
          refine goes_ Tryd.func21 (by kernel_rfl) rfl #[.agg #[.bool a0_0, .slice A0_1 l0_1.length c0_1], .agg #[.bool a2_0, .slice A2_1 l2_1.length c2_1]] (by rfl) rfl rfl (by (try simp only [zMa, zMc, zMn]); first | done | rfl | (simp only [zLd, zLt]; rfl)) ?_
          with_reducible refine (integer_Mul.calls k a0_0 _ _ l0_1 a2_0 _ _ l2_1 t535 t536 _ ?side1 ?side2 ?side3 ?side4 A11.out).mono ?_
          (case side1 => exact uC (zVr HO0_1.out).2.2)
          (case side2 => exact (zVr HO0_1.out).2.1)
          (case side3 => exact uC (zVr HO2_1.out).2.2)
          (case side4 => exact (zVr HO2_1.out).2.1)
          rintro e w111 ⟨v537, rfl, ho0, hb⟩
          refine ⟨_, rfl, ?_⟩
          replace HO0_1 := zMk (zVe (by exact uV HO0_1.out) (zRz ho0) hb)
          replace HO1_1 := zMk (zVe (by exact uV HO1_1.out) (zRz ho0) hb)
          replace HO2_1 := zMk (zVe (by exact uV HO2_1.out) (zRz ho0) hb)
          replace O10 := zMk (Kd.N_elder' (by exact uN O10.out) (zRz ho0) hb)
          have O38 := zMk (zRl (zRw (zRw (zRw (zRw (zRw (Kd.R_newM (M := fun k_ => (w.heap.size ≤ k_)) ho0 (zBs (by exact uT HB.out)) (fun k_ h_ => h_)) (zRt (by exact uR O16.out))) (zRt (by exact uR O20.out))) (zRt (by exact uR O25.out))) (zRt (by exact uR O29.out))) (zRt (by exact uR O34.out))) (zBs (by exact uT HB.out)))
          replace O16 := zMk (zRe (by exact uR O16.out) (zRz ho0) hb)
          replace O20 := zMk (zRe (by exact uR O20.out) (zRz ho0) hb)
          replace O25 := zMk (zRe (by exact uR O25.out) (zRz ho0) hb)
          replace O29 := zMk (zRe (by exact uR O29.out) (zRz ho0) hb)
          replace O34 := zMk (zRe (by exact uR O34.out) (zRz ho0) hb)
          replace K05 := zMk (zKb K05.out hb)
          replace K06 := zMk (zKb K06.out hb)
          replace K07 := zMk (zKb K07.out hb)
          replace K21 := zMk (zKb K21.out hb)
          replace K30 := zMk (zKb K30.out hb)
          replace K43 := zMk (zKb K43.out hb)
          replace HB := zMk (zBt (by exact uT HB.out) hb)
          obtain ⟨Ao112, co112, eo112⟩ := zRs O34.out
          (first |  subst eo112|  (injection eo112 with f1_ f2_ f3_; have f4_ := f1_.symm; have f5_ := f3_.symm; clear f1_ f2_ f3_; subst f4_; subst f5_))
          obtain ⟨Ao113, co113, eo113⟩ := zRs O38.out
          (first |  subst eo113|  (injection eo113 with f1_ f2_ f3_; have f4_ := f1_.symm; have f5_ := f3_.symm; clear f1_ f2_ f3_; subst f4_; subst f5_))
          refine hK.out _ _ ⟨(zKc K05.out 0).trans rfl, (zKc K05.out 1).trans rfl, (zKc K06.out 0).trans rfl, (zKc K06.out 1).trans rfl, (zKc K07.out 0).trans rfl, (zKc K07.out 1).trans rfl⟩ (fun hHeld => ?_)
          clear hK K
          refine norm_ (a' := ?_) ?_ ?_
          rotate_left
          ·show Act.put _ (some 34) _ = _
           simp only [Act.put, zSa, zSb, zSc, i64_w, i32_w]
           rfl
          refine one_ (i := 6) (N := some 35) #[true, true, true, true, true, true, true, true, false] rfl rfl (one_of HT_.out (by kernel_rfl)) (by decide) (fun K hK => ?_)
          refine goes_ Tryd.func17 (by kernel_rfl) rfl #[.agg #[.bool t531, .slice Ao112 t532.length co112], .agg #[.bool t535, .slice Ao113 t536.length co113]] (by rfl) rfl rfl (by (try simp only [zMa, zMc, zMn]); first | done | rfl | (simp only [zLd, zLt]; rfl)) ?_
          with_reducible refine (integer_Add.calls k t531 _ _ t532 t535 _ _ t536 t539 t540 _ ?side1 ?side2 ?side3 ?side4 A12.out).mono ?_
          (case side1 => exact uC (zRr O34.out).2.2)
          (case side2 => exact (zRr O34.out).2.1)
          (case side3 => exact uC (zRr O38.out).2.2)
          (case side4 => exact (zRr O38.out).2.1)
          rintro e w114 ⟨v541, rfl, ho0, hb⟩
          refine ⟨_, rfl, ?_⟩
          replace HO0_1 := zMk (zVe (by exact uV HO0_1.out) (zRz ho0) hb)
          replace HO1_1 := zMk (zVe (by exact uV HO1_1.out) (zRz ho0) hb)
          replace HO2_1 := zMk (zVe (by exact uV HO2_1.out) (zRz ho0) hb)
          replace O10 := zMk (Kd.N_elder' (by exact uN O10.out) (zRz ho0) hb)
          have O42 := zMk (zRl (zRw (zRw (zRw (zRw (zRw (zRw (Kd.R_newM (M := fun k_ => (w.heap.size ≤ k_)) ho0 (zBs (by exact uT HB.out)) (fun k_ h_ => h_)) (zRt (by exact uR O16.out))) (zRt (by exact uR O20.out))) (zRt (by exact uR O25.out))) (zRt (by exact uR O29.out))) (zRt (by exact uR O34.out))) (zRt (by exact uR O38.out))) (zBs (by exact uT HB.out)))
          replace O16 := zMk (zRe (by exact uR O16.out) (zRz ho0) hb)
          replace O20 := zMk (zRe (by exact uR O20.out) (zRz ho0) hb)
          replace O25 := zMk (zRe (by exact uR O25.out) (zRz ho0) hb)
          replace O29 := zMk (zRe (by exact uR O29.out) (zRz ho0) hb)
          replace O34 := zMk (zRe (by exact uR O34.out) (zRz ho0) hb)
          replace O38 := zMk (zRe (by exact uR O38.out) (zRz ho0) hb)
          replace K05 := zMk (zKb K05.out hb)
          replace K06 := zMk (zKb K06.out hb)
          replace K07 := zMk (zKb K07.out hb)
          replace K21 := zMk (zKb K21.out hb)
          replace K30 := zMk (zKb K30.out hb)
          replace K43 := zMk (zKb K43.out hb)
          replace HB := zMk (zBt (by exact uT HB.out) hb)
          refine hK.out _ _ ⟨(zKc K05.out 0).trans rfl, (zKc K05.out 1).trans rfl, (zKc K06.out 0).trans rfl, (zKc K06.out 1).trans rfl, (zKc K07.out 0).trans rfl, (zKc K07.out 1).trans rfl⟩ (fun hHeld => ?_)
          clear hK K
          refine norm_ (a' := ?_) ?_ ?_
          rotate_left
          ·show Act.put _ (some 35) _ = _
           simp only [Act.put, zSa, zSb, zSc, i64_w, i32_w]
           rfl
          exact norm_ (by simp only [putAll, Act.put, zSa, zSb, zSc]) (hCont (.slice Ao112 t532.length co112, .slice Ao113 t536.length co113, v541, g43) _ ⟨hHeld, zVm HO0_1.out (fun _ hk => (by grind)), zVm HO1_1.out (fun _ hk => (by grind)), zVm HO2_1.out (fun _ hk => (by grind)), Kd.N_mono O10.out (fun _ hk => (by grind)), zRm O16.out (fun _ hk => (by grind)), zRm O20.out (fun _ hk => (by grind)), zRm O25.out (fun _ hk => (by grind)), zRm O29.out (fun _ hk => (by grind)), zRm O34.out (fun _ hk => (by grind)), zRm O38.out (fun _ hk => (by grind)), zRm O42.out (fun _ hk => (by grind)), K05.out, K06.out, K07.out, K21.out, K30.out, K43.out, W43.out, E43.out, N05_43.out, N43_05.out, N06_43.out, N43_06.out, N07_43.out, N43_07.out, N21_43.out, N43_21.out, N30_43.out, N43_30.out, (by exact uT HB.out)⟩)
        rintro ⟨v533, v537, v541, g43⟩ w115 ⟨hS_, h0_, h1_, h2_, h3_, h4_, h5_, h6_, h7_, h8_, h9_, h10_, h11_, h12_, h13_, h14_, h15_, h16_, h17_, h18_, h19_, h20_, h21_, h22_, h23_, h24_, h25_, h26_, h27_, h28_, h29_⟩
        have n0_ : Aside0 (Kd.V (Kd.int .u32) 58 w115 w.heap.size (fun k_ => ((P0_1_ k_ ∨ P1_1_ k_ ∨ P2_1_ k_) ∨ w.heap.size ≤ k_) ∧ some k_ ≠ (.slice Ao87 y508.length co87 : Value).ownBlock ∧ some k_ ≠ (v515 : Value).ownBlock ∧ some k_ ≠ (.slice Ao95 t518.length co95 : Value).ownBlock ∧ some k_ ≠ (v524 : Value).ownBlock ∧ some k_ ≠ (.slice Ao105 t527.length co105 : Value).ownBlock ∧ some k_ ≠ (v533 : Value).ownBlock ∧ some k_ ≠ (v537 : Value).ownBlock ∧ some k_ ≠ (v541 : Value).ownBlock ∧ k_ ≠ g05 ∧ k_ ≠ g06 ∧ k_ ≠ g07 ∧ k_ ≠ g21 ∧ k_ ≠ g30 ∧ k_ ≠ g43) (.slice A0_1 l0_1.length c0_1) l0_1) := ⟨h0_⟩
        have n1_ : Aside0 (Kd.V (Kd.int .u32) 58 w115 w.heap.size (fun k_ => ((P0_1_ k_ ∨ P1_1_ k_ ∨ P2_1_ k_) ∨ w.heap.size ≤ k_) ∧ some k_ ≠ (.slice Ao87 y508.length co87 : Value).ownBlock ∧ some k_ ≠ (v515 : Value).ownBlock ∧ some k_ ≠ (.slice Ao95 t518.length co95 : Value).ownBlock ∧ some k_ ≠ (v524 : Value).ownBlock ∧ some k_ ≠ (.slice Ao105 t527.length co105 : Value).ownBlock ∧ some k_ ≠ (v533 : Value).ownBlock ∧ some k_ ≠ (v537 : Value).ownBlock ∧ some k_ ≠ (v541 : Value).ownBlock ∧ k_ ≠ g05 ∧ k_ ≠ g06 ∧ k_ ≠ g07 ∧ k_ ≠ g21 ∧ k_ ≠ g30 ∧ k_ ≠ g43) (.slice A1_1 l1_1.length c1_1) l1_1) := ⟨h1_⟩
        have n2_ : Aside0 (Kd.V (Kd.int .u32) 58 w115 w.heap.size (fun k_ => ((P0_1_ k_ ∨ P1_1_ k_ ∨ P2_1_ k_) ∨ w.heap.size ≤ k_) ∧ some k_ ≠ (.slice Ao87 y508.length co87 : Value).ownBlock ∧ some k_ ≠ (v515 : Value).ownBlock ∧ some k_ ≠ (.slice Ao95 t518.length co95 : Value).ownBlock ∧ some k_ ≠ (v524 : Value).ownBlock ∧ some k_ ≠ (.slice Ao105 t527.length co105 : Value).ownBlock ∧ some k_ ≠ (v533 : Value).ownBlock ∧ some k_ ≠ (v537 : Value).ownBlock ∧ some k_ ≠ (v541 : Value).ownBlock ∧ k_ ≠ g05 ∧ k_ ≠ g06 ∧ k_ ≠ g07 ∧ k_ ≠ g21 ∧ k_ ≠ g30 ∧ k_ ≠ g43) (.slice A2_1 l2_1.length c2_1) l2_1) := ⟨h2_⟩
        have n3_ : Aside0 (Kd.N (Kd.slice 58 (Kd.int .u32)) 22 w115 w.heap.size (fun k_ => ((P0_1_ k_ ∨ P1_1_ k_ ∨ P2_1_ k_) ∨ w.heap.size ≤ k_) ∧ some k_ ≠ (v515 : Value).ownBlock ∧ some k_ ≠ (.slice Ao95 t518.length co95 : Value).ownBlock ∧ some k_ ≠ (v524 : Value).ownBlock ∧ some k_ ≠ (.slice Ao105 t527.length co105 : Value).ownBlock ∧ some k_ ≠ (v533 : Value).ownBlock ∧ some k_ ≠ (v537 : Value).ownBlock ∧ some k_ ≠ (v541 : Value).ownBlock ∧ k_ ≠ g05 ∧ k_ ≠ g06 ∧ k_ ≠ g07 ∧ k_ ≠ g21 ∧ k_ ≠ g30 ∧ k_ ≠ g43) (.slice Ao87 y508.length co87) y508) := ⟨h3_⟩
        have n4_ : Aside0 (Kd.R (Kd.int .u32) 58 w115 w.heap.size (fun k_ => (w.heap.size ≤ k_) ∧ some k_ ≠ (.slice Ao95 t518.length co95 : Value).ownBlock ∧ some k_ ≠ (v524 : Value).ownBlock ∧ some k_ ≠ (.slice Ao105 t527.length co105 : Value).ownBlock ∧ some k_ ≠ (v533 : Value).ownBlock ∧ some k_ ≠ (v537 : Value).ownBlock ∧ some k_ ≠ (v541 : Value).ownBlock) v515 t514) := ⟨h4_⟩
        have n5_ : Aside0 (Kd.R (Kd.int .u32) 58 w115 w.heap.size (fun k_ => (w.heap.size ≤ k_) ∧ some k_ ≠ (v515 : Value).ownBlock ∧ some k_ ≠ (v524 : Value).ownBlock ∧ some k_ ≠ (.slice Ao105 t527.length co105 : Value).ownBlock ∧ some k_ ≠ (v533 : Value).ownBlock ∧ some k_ ≠ (v537 : Value).ownBlock ∧ some k_ ≠ (v541 : Value).ownBlock) (.slice Ao95 t518.length co95) t518) := ⟨h5_⟩
        have n6_ : Aside0 (Kd.R (Kd.int .u32) 58 w115 w.heap.size (fun k_ => (w.heap.size ≤ k_) ∧ some k_ ≠ (v515 : Value).ownBlock ∧ some k_ ≠ (.slice Ao95 t518.length co95 : Value).ownBlock ∧ some k_ ≠ (.slice Ao105 t527.length co105 : Value).ownBlock ∧ some k_ ≠ (v533 : Value).ownBlock ∧ some k_ ≠ (v537 : Value).ownBlock ∧ some k_ ≠ (v541 : Value).ownBlock) v524 t523) := ⟨h6_⟩
        have n7_ : Aside0 (Kd.R (Kd.int .u32) 58 w115 w.heap.size (fun k_ => (w.heap.size ≤ k_) ∧ some k_ ≠ (v515 : Value).ownBlock ∧ some k_ ≠ (.slice Ao95 t518.length co95 : Value).ownBlock ∧ some k_ ≠ (v524 : Value).ownBlock ∧ some k_ ≠ (v533 : Value).ownBlock ∧ some k_ ≠ (v537 : Value).ownBlock ∧ some k_ ≠ (v541 : Value).ownBlock) (.slice Ao105 t527.length co105) t527) := ⟨h7_⟩
        have n8_ : Aside0 (Kd.R (Kd.int .u32) 58 w115 w.heap.size (fun k_ => (w.heap.size ≤ k_) ∧ some k_ ≠ (v515 : Value).ownBlock ∧ some k_ ≠ (.slice Ao95 t518.length co95 : Value).ownBlock ∧ some k_ ≠ (v524 : Value).ownBlock ∧ some k_ ≠ (.slice Ao105 t527.length co105 : Value).ownBlock ∧ some k_ ≠ (v537 : Value).ownBlock ∧ some k_ ≠ (v541 : Value).ownBlock) v533 t532) := ⟨h8_⟩
        have n9_ : Aside0 (Kd.R (Kd.int .u32) 58 w115 w.heap.size (fun k_ => (w.heap.size ≤ k_) ∧ some k_ ≠ (v515 : Value).ownBlock ∧ some k_ ≠ (.slice Ao95 t518.length co95 : Value).ownBlock ∧ some k_ ≠ (v524 : Value).ownBlock ∧ some k_ ≠ (.slice Ao105 t527.length co105 : Value).ownBlock ∧ some k_ ≠ (v533 : Value).ownBlock ∧ some k_ ≠ (v541 : Value).ownBlock) v537 t536) := ⟨h9_⟩
        have n10_ : Aside0 (Kd.R (Kd.int .u32) 58 w115 w.heap.size (fun k_ => (w.heap.size ≤ k_) ∧ some k_ ≠ (v515 : Value).ownBlock ∧ some k_ ≠ (.slice Ao95 t518.length co95 : Value).ownBlock ∧ some k_ ≠ (v524 : Value).ownBlock ∧ some k_ ≠ (.slice Ao105 t527.length co105 : Value).ownBlock ∧ some k_ ≠ (v533 : Value).ownBlock ∧ some k_ ≠ (v537 : Value).ownBlock) v541 t540) := ⟨h10_⟩
        have n11_ : Aside0 (w115.heap[g05]? = some (.cells #[.bool a0_0, .slice A0_1 l0_1.length c0_1] 24 (0, 0))) := ⟨h11_⟩
        have n12_ : Aside0 (w115.heap[g06]? = some (.cells #[.bool a1_0, .slice A1_1 l1_1.length c1_1] 24 (0, 0))) := ⟨h12_⟩
        have n13_ : Aside0 (w115.heap[g07]? = some (.cells #[.bool a2_0, .slice A2_1 l2_1.length c2_1] 24 (0, 0))) := ⟨h13_⟩
        have n14_ : Aside0 (w115.heap[g21]? = some (.cells #[.bool false, .slice Ao95 t518.length co95] 24 (0, 0))) := ⟨h14_⟩
        have n15_ : Aside0 (w115.heap[g30]? = some (.cells #[.bool t526, .slice Ao105 t527.length co105] 24 (0, 0))) := ⟨h15_⟩
        have n16_ : Aside0 (w115.heap[g43]? = some (.cells #[.bool false, .slice none 0 0] 24 (0, 0))) := ⟨h16_⟩
        have n17_ : Aside0 (w.heap.size ≤ g43) := ⟨h17_⟩
        have n18_ : Aside0 (w.heap.size ≤ g43) := ⟨h18_⟩
        have n19_ : Aside0 (g05 ≠ g43) := ⟨h19_⟩
        have n20_ : Aside0 (g43 ≠ g05) := ⟨h20_⟩
        have n21_ : Aside0 (g06 ≠ g43) := ⟨h21_⟩
        have n22_ : Aside0 (g43 ≠ g06) := ⟨h22_⟩
        have n23_ : Aside0 (g07 ≠ g43) := ⟨h23_⟩
        have n24_ : Aside0 (g43 ≠ g07) := ⟨h24_⟩
        have n25_ : Aside0 (g21 ≠ g43) := ⟨h25_⟩
        have n26_ : Aside0 (g43 ≠ g21) := ⟨h26_⟩
        have n27_ : Aside0 (g30 ≠ g43) := ⟨h27_⟩
        have n28_ : Aside0 (g43 ≠ g30) := ⟨h28_⟩
        have n29_ : Aside0 (Below w.heap.size w w115) := ⟨h29_⟩
        clear HO0_1 HO1_1 HO2_1 O10 O16 O20 O25 O29 K05 K06 K07 K21 K30 HB h0_ h1_ h2_ h3_ h4_ h5_ h6_ h7_ h8_ h9_ h10_ h11_ h12_ h13_ h14_ h15_ h16_ h17_ h18_ h19_ h20_ h21_ h22_ h23_ h24_ h25_ h26_ h27_ h28_ h29_
        have HO0_1 := n0_
        have HO1_1 := n1_
        have HO2_1 := n2_
        have O10 := n3_
        have O16 := n4_
        have O20 := n5_
        have O25 := n6_
        have O29 := n7_
        have O34 := n8_
        have O38 := n9_
        have O42 := n10_
        have K05 := n11_
        have K06 := n12_
        have K07 := n13_
        have K21 := n14_
        have K30 := n15_
        have K43 := n16_
        have W43 := n17_
        have E43 := n18_
        have IGE543 := ownGe E43.out
        have N05_43 := n19_
        have N43_05 := n20_
        have N06_43 := n21_
        have N43_06 := n22_
        have N07_43 := n23_
        have N43_07 := n24_
        have N21_43 := n25_
        have N43_21 := n26_
        have N30_43 := n27_
        have N43_30 := n28_
        have HB := n29_
        clear n0_ n1_ n2_ n3_ n4_ n5_ n6_ n7_ n8_ n9_ n10_ n11_ n12_ n13_ n14_ n15_ n16_ n17_ n18_ n19_ n20_ n21_ n22_ n23_ n24_ n25_ n26_ n27_ n28_ n29_
        have hHeld : w115.cell? ⟨g05, 0, none⟩ = some (.bool a0_0) ∧ w115.cell? ⟨g05, 1, none⟩ = some (.slice A0_1 l0_1.length c0_1) ∧ w115.cell? ⟨g06, 0, none⟩ = some (.bool a1_0) ∧ w115.cell? ⟨g06, 1, none⟩ = some (.slice A1_1 l1_1.length c1_1) ∧ w115.cell? ⟨g07, 0, none⟩ = some (.bool a2_0) ∧ w115.cell? ⟨g07, 1, none⟩ = some (.slice A2_1 l2_1.length c2_1) := hS_
        obtain ⟨Ao117, co117, eo117⟩ := zRs O42.out
        (first |  subst eo117|  (injection eo117 with f1_ f2_ f3_; have f4_ := f1_.symm; have f5_ := f3_.symm; clear f1_ f2_ f3_; subst f4_; subst f5_))
        refine norm_ (a' := ?_) ?_ ?_
        rotate_left
        ·simp only [putAll, Act.put, zSa, zSb, zSc]
         rfl
        refine one_ (i := 8) (N := none) #[true, true, true, true, true, true, true, true, true] rfl rfl (one_of HT_.out (by kernel_rfl)) (by decide) (fun K hK => ?_)
        have hs116 : w115.cell? ⟨g43, 0, none⟩ = some (.bool false) := (zKc K43.out 0).trans rfl
        have hfs116 := zKf K43.out 0
        have hns116_0 := N05_43.out
        have hns116_1 := N06_43.out
        have hns116_2 := N07_43.out
        have hns116_3 := N21_43.out
        have hns116_4 := N30_43.out
        have hms116_0 := N43_05.out
        have hms116_1 := N43_06.out
        have hms116_2 := N43_07.out
        have hms116_3 := N43_21.out
        have hms116_4 := N43_30.out
        have hs118 : w115.cell? ⟨g43, 1, none⟩ = some (.slice none 0 0) := (zKc K43.out 1).trans rfl
        have hfs118 := zKf K43.out 1
        have hns118_0 := N05_43.out
        have hns118_1 := N06_43.out
        have hns118_2 := N07_43.out
        have hns118_3 := N21_43.out
        have hns118_4 := N30_43.out
        have hms118_0 := N43_05.out
        have hms118_1 := N43_06.out
        have hms118_2 := N43_07.out
        have hms118_3 := N43_21.out
        have hms118_4 := N43_30.out
        refine skip_ (w1 := ?_) (by rfl) rfl ?_ ?_
        rotate_left
        ·go_simp
         rfl
        refine hK.out _ _ ⟨((cell_far (p := ⟨g43, _, none⟩) N05_43.out _).trans (((cell_far (p := ⟨g43, _, none⟩) N05_43.out _).trans (hHeld.1)))), ((cell_far (p := ⟨g43, _, none⟩) N05_43.out _).trans (((cell_far (p := ⟨g43, _, none⟩) N05_43.out _).trans (hHeld.2.1)))), ((cell_far (p := ⟨g43, _, none⟩) N06_43.out _).trans (((cell_far (p := ⟨g43, _, none⟩) N06_43.out _).trans (hHeld.2.2.1)))), ((cell_far (p := ⟨g43, _, none⟩) N06_43.out _).trans (((cell_far (p := ⟨g43, _, none⟩) N06_43.out _).trans (hHeld.2.2.2.1)))), ((cell_far (p := ⟨g43, _, none⟩) N07_43.out _).trans (((cell_far (p := ⟨g43, _, none⟩) N07_43.out _).trans (hHeld.2.2.2.2.1)))), ((cell_far (p := ⟨g43, _, none⟩) N07_43.out _).trans (((cell_far (p := ⟨g43, _, none⟩) N07_43.out _).trans (hHeld.2.2.2.2.2))))⟩ (fun hHeld => ?_)
        clear hK K
        refine done_ (done_of HT_.out (by kernel_rfl)) ?_
        try go_wp2
        have n0_ : Aside0 (Kd.V (Kd.int .u32) 58 ((w115.setCell ⟨g43, 0, none⟩ (.bool t539)).setCell ⟨g43, 1, none⟩ (.slice Ao117 t540.length co117)) w.heap.size (fun k_ => ((P0_1_ k_ ∨ P1_1_ k_ ∨ P2_1_ k_) ∨ w.heap.size ≤ k_) ∧ some k_ ≠ (.slice Ao87 y508.length co87 : Value).ownBlock ∧ some k_ ≠ (v515 : Value).ownBlock ∧ some k_ ≠ (.slice Ao95 t518.length co95 : Value).ownBlock ∧ some k_ ≠ (v524 : Value).ownBlock ∧ some k_ ≠ (.slice Ao105 t527.length co105 : Value).ownBlock ∧ some k_ ≠ (v533 : Value).ownBlock ∧ some k_ ≠ (v537 : Value).ownBlock ∧ some k_ ≠ (.slice Ao117 t540.length co117 : Value).ownBlock ∧ k_ ≠ g05 ∧ k_ ≠ g06 ∧ k_ ≠ g07 ∧ k_ ≠ g21 ∧ k_ ≠ g30 ∧ k_ ≠ g43) (.slice A0_1 l0_1.length c0_1) l0_1) := ⟨by (with_reducible repeat (first |  apply zVa|  apply zVn|  apply zVd)); exact zVm (Kd.V_far (p := ⟨g43, 1, none⟩) (Kd.V_far (p := ⟨g43, 0, none⟩) (zVm HO0_1.out (fun k_ hk => (⟨hk, hk.2.2.2.2.2.2.2.2.2.2.2.2.2.2⟩ : _ ∧ k_ ≠ g43))) (fun _ hk => hk.2) (.bool t539)) (fun _ hk => hk.2) (.slice Ao117 t540.length co117)) (fun _ hk => ⟨hk.1.1, ⟨hk.1.2.1, ⟨hk.1.2.2.1, ⟨hk.1.2.2.2.1, ⟨hk.1.2.2.2.2.1, ⟨hk.1.2.2.2.2.2.1, ⟨hk.1.2.2.2.2.2.2.1, ⟨hk.1.2.2.2.2.2.2.2.1, ⟨hk.1.2.2.2.2.2.2.2.2.1, ⟨hk.1.2.2.2.2.2.2.2.2.2.1, ⟨hk.1.2.2.2.2.2.2.2.2.2.2.1, ⟨hk.1.2.2.2.2.2.2.2.2.2.2.2.1, ⟨hk.1.2.2.2.2.2.2.2.2.2.2.2.2.1, ⟨hk.1.2.2.2.2.2.2.2.2.2.2.2.2.2.1, hk.1.2.2.2.2.2.2.2.2.2.2.2.2.2.2⟩⟩⟩⟩⟩⟩⟩⟩⟩⟩⟩⟩⟩⟩)⟩
        have n1_ : Aside0 (Kd.V (Kd.int .u32) 58 ((w115.setCell ⟨g43, 0, none⟩ (.bool t539)).setCell ⟨g43, 1, none⟩ (.slice Ao117 t540.length co117)) w.heap.size (fun k_ => ((P0_1_ k_ ∨ P1_1_ k_ ∨ P2_1_ k_) ∨ w.heap.size ≤ k_) ∧ some k_ ≠ (.slice Ao87 y508.length co87 : Value).ownBlock ∧ some k_ ≠ (v515 : Value).ownBlock ∧ some k_ ≠ (.slice Ao95 t518.length co95 : Value).ownBlock ∧ some k_ ≠ (v524 : Value).ownBlock ∧ some k_ ≠ (.slice Ao105 t527.length co105 : Value).ownBlock ∧ some k_ ≠ (v533 : Value).ownBlock ∧ some k_ ≠ (v537 : Value).ownBlock ∧ some k_ ≠ (.slice Ao117 t540.length co117 : Value).ownBlock ∧ k_ ≠ g05 ∧ k_ ≠ g06 ∧ k_ ≠ g07 ∧ k_ ≠ g21 ∧ k_ ≠ g30 ∧ k_ ≠ g43) (.slice A1_1 l1_1.length c1_1) l1_1) := ⟨by (with_reducible repeat (first | apply zVa | apply zVn | apply zVd)); exact zVm (Kd.V_far (p := ⟨g43, 1, none⟩) (Kd.V_far (p := ⟨g43, 0, none⟩) (zVm HO1_1.out (fun k_ hk => (⟨hk, hk.2.2.2.2.2.2.2.2.2.2.2.2.2.2⟩ : _ ∧ k_ ≠ g43))) (fun _ hk => hk.2) (.bool t539)) (fun _ hk => hk.2) (.slice Ao117 t540.length co117)) (fun _ hk => ⟨hk.1.1, ⟨hk.1.2.1, ⟨hk.1.2.2.1, ⟨hk.1.2.2.2.1, ⟨hk.1.2.2.2.2.1, ⟨hk.1.2.2.2.2.2.1, ⟨hk.1.2.2.2.2.2.2.1, ⟨hk.1.2.2.2.2.2.2.2.1, ⟨hk.1.2.2.2.2.2.2.2.2.1, ⟨hk.1.2.2.2.2.2.2.2.2.2.1, ⟨hk.1.2.2.2.2.2.2.2.2.2.2.1, ⟨hk.1.2.2.2.2.2.2.2.2.2.2.2.1, ⟨hk.1.2.2.2.2.2.2.2.2.2.2.2.2.1, ⟨hk.1.2.2.2.2.2.2.2.2.2.2.2.2.2.1, hk.1.2.2.2.2.2.2.2.2.2.2.2.2.2.2⟩⟩⟩⟩⟩⟩⟩⟩⟩⟩⟩⟩⟩⟩)⟩
        have n2_ : Aside0 (Kd.V (Kd.int .u32) 58 ((w115.setCell ⟨g43, 0, none⟩ (.bool t539)).setCell ⟨g43, 1, none⟩ (.slice Ao117 t540.length co117)) w.heap.size (fun k_ => ((P0_1_ k_ ∨ P1_1_ k_ ∨ P2_1_ k_) ∨ w.heap.size ≤ k_) ∧ some k_ ≠ (.slice Ao87 y508.length co87 : Value).ownBlock ∧ some k_ ≠ (v515 : Value).ownBlock ∧ some k_ ≠ (.slice Ao95 t518.length co95 : Value).ownBlock ∧ some k_ ≠ (v524 : Value).ownBlock ∧ some k_ ≠ (.slice Ao105 t527.length co105 : Value).ownBlock ∧ some k_ ≠ (v533 : Value).ownBlock ∧ some k_ ≠ (v537 : Value).ownBlock ∧ some k_ ≠ (.slice Ao117 t540.length co117 : Value).ownBlock ∧ k_ ≠ g05 ∧ k_ ≠ g06 ∧ k_ ≠ g07 ∧ k_ ≠ g21 ∧ k_ ≠ g30 ∧ k_ ≠ g43) (.slice A2_1 l2_1.length c2_1) l2_1) := ⟨by (with_reducible repeat (first | apply zVa | apply zVn | apply zVd)); exact zVm (Kd.V_far (p := ⟨g43, 1, none⟩) (Kd.V_far (p := ⟨g43, 0, none⟩) (zVm HO2_1.out (fun k_ hk => (⟨hk, hk.2.2.2.2.2.2.2.2.2.2.2.2.2.2⟩ : _ ∧ k_ ≠ g43))) (fun _ hk => hk.2) (.bool t539)) (fun _ hk => hk.2) (.slice Ao117 t540.length co117)) (fun _ hk => ⟨hk.1.1, ⟨hk.1.2.1, ⟨hk.1.2.2.1, ⟨hk.1.2.2.2.1, ⟨hk.1.2.2.2.2.1, ⟨hk.1.2.2.2.2.2.1, ⟨hk.1.2.2.2.2.2.2.1, ⟨hk.1.2.2.2.2.2.2.2.1, ⟨hk.1.2.2.2.2.2.2.2.2.1, ⟨hk.1.2.2.2.2.2.2.2.2.2.1, ⟨hk.1.2.2.2.2.2.2.2.2.2.2.1, ⟨hk.1.2.2.2.2.2.2.2.2.2.2.2.1, ⟨hk.1.2.2.2.2.2.2.2.2.2.2.2.2.1, ⟨hk.1.2.2.2.2.2.2.2.2.2.2.2.2.2.1, hk.1.2.2.2.2.2.2.2.2.2.2.2.2.2.2⟩⟩⟩⟩⟩⟩⟩⟩⟩⟩⟩⟩⟩⟩)⟩
        have n3_ : Aside0 (Kd.N (Kd.slice 58 (Kd.int .u32)) 22 ((w115.setCell ⟨g43, 0, none⟩ (.bool t539)).setCell ⟨g43, 1, none⟩ (.slice Ao117 t540.length co117)) w.heap.size (fun k_ => ((P0_1_ k_ ∨ P1_1_ k_ ∨ P2_1_ k_) ∨ w.heap.size ≤ k_) ∧ some k_ ≠ (v515 : Value).ownBlock ∧ some k_ ≠ (.slice Ao95 t518.length co95 : Value).ownBlock ∧ some k_ ≠ (v524 : Value).ownBlock ∧ some k_ ≠ (.slice Ao105 t527.length co105 : Value).ownBlock ∧ some k_ ≠ (v533 : Value).ownBlock ∧ some k_ ≠ (v537 : Value).ownBlock ∧ some k_ ≠ (.slice Ao117 t540.length co117 : Value).ownBlock ∧ k_ ≠ g05 ∧ k_ ≠ g06 ∧ k_ ≠ g07 ∧ k_ ≠ g21 ∧ k_ ≠ g30 ∧ k_ ≠ g43) (.slice Ao87 y508.length co87) y508) := ⟨by (with_reducible repeat (first | apply Kd.N_alloc | apply Kd.N_drewN | apply Kd.N_drew)); exact Kd.N_mono (Kd.N_far (p := ⟨g43, 1, none⟩) (Kd.N_far (p := ⟨g43, 0, none⟩) (Kd.N_mono O10.out (fun k_ hk => (⟨hk, hk.2.2.2.2.2.2.2.2.2.2.2.2.2⟩ : _ ∧ k_ ≠ g43))) (fun _ hk => hk.2) (.bool t539)) (fun _ hk => hk.2) (.slice Ao117 t540.length co117)) (fun _ hk => ⟨hk.1.1, ⟨hk.1.2.1, ⟨hk.1.2.2.1, ⟨hk.1.2.2.2.1, ⟨hk.1.2.2.2.2.1, ⟨hk.1.2.2.2.2.2.1, ⟨hk.1.2.2.2.2.2.2.1, ⟨hk.1.2.2.2.2.2.2.2.1, ⟨hk.1.2.2.2.2.2.2.2.2.1, ⟨hk.1.2.2.2.2.2.2.2.2.2.1, ⟨hk.1.2.2.2.2.2.2.2.2.2.2.1, ⟨hk.1.2.2.2.2.2.2.2.2.2.2.2.1, ⟨hk.1.2.2.2.2.2.2.2.2.2.2.2.2.1, hk.1.2.2.2.2.2.2.2.2.2.2.2.2.2⟩⟩⟩⟩⟩⟩⟩⟩⟩⟩⟩⟩⟩)⟩
        have n4_ : Aside0 (Kd.R (Kd.int .u32) 58 ((w115.setCell ⟨g43, 0, none⟩ (.bool t539)).setCell ⟨g43, 1, none⟩ (.slice Ao117 t540.length co117)) w.heap.size (fun k_ => (w.heap.size ≤ k_) ∧ some k_ ≠ (.slice Ao95 t518.length co95 : Value).ownBlock ∧ some k_ ≠ (v524 : Value).ownBlock ∧ some k_ ≠ (.slice Ao105 t527.length co105 : Value).ownBlock ∧ some k_ ≠ (v533 : Value).ownBlock ∧ some k_ ≠ (v537 : Value).ownBlock ∧ some k_ ≠ (.slice Ao117 t540.length co117 : Value).ownBlock) v515 t514) := ⟨by (with_reducible repeat (first | apply zRa | apply zRn | apply zRd)); exact zRm (Kd.R_far (p := ⟨g43, 1, none⟩) (Kd.R_far (p := ⟨g43, 0, none⟩) (Kd.R_types O16.out K43.out (by decide)) (fun _ hk => hk.2) (.bool t539)) (fun _ hk => hk.2) (.slice Ao117 t540.length co117)) (fun _ hk => ⟨hk.1.1, ⟨hk.1.2.1, ⟨hk.1.2.2.1, ⟨hk.1.2.2.2.1, ⟨hk.1.2.2.2.2.1, ⟨hk.1.2.2.2.2.2.1, hk.1.2.2.2.2.2.2⟩⟩⟩⟩⟩⟩)⟩
        have n5_ : Aside0 (Kd.R (Kd.int .u32) 58 ((w115.setCell ⟨g43, 0, none⟩ (.bool t539)).setCell ⟨g43, 1, none⟩ (.slice Ao117 t540.length co117)) w.heap.size (fun k_ => (w.heap.size ≤ k_) ∧ some k_ ≠ (v515 : Value).ownBlock ∧ some k_ ≠ (v524 : Value).ownBlock ∧ some k_ ≠ (.slice Ao105 t527.length co105 : Value).ownBlock ∧ some k_ ≠ (v533 : Value).ownBlock ∧ some k_ ≠ (v537 : Value).ownBlock ∧ some k_ ≠ (.slice Ao117 t540.length co117 : Value).ownBlock) (.slice Ao95 t518.length co95) t518) := ⟨by (with_reducible repeat (first | apply zRa | apply zRn | apply zRd)); exact zRm (Kd.R_far (p := ⟨g43, 1, none⟩) (Kd.R_far (p := ⟨g43, 0, none⟩) (Kd.R_types O20.out K43.out (by decide)) (fun _ hk => hk.2) (.bool t539)) (fun _ hk => hk.2) (.slice Ao117 t540.length co117)) (fun _ hk => ⟨hk.1.1, ⟨hk.1.2.1, ⟨hk.1.2.2.1, ⟨hk.1.2.2.2.1, ⟨hk.1.2.2.2.2.1, ⟨hk.1.2.2.2.2.2.1, hk.1.2.2.2.2.2.2⟩⟩⟩⟩⟩⟩)⟩
        have n6_ : Aside0 (Kd.R (Kd.int .u32) 58 ((w115.setCell ⟨g43, 0, none⟩ (.bool t539)).setCell ⟨g43, 1, none⟩ (.slice Ao117 t540.length co117)) w.heap.size (fun k_ => (w.heap.size ≤ k_) ∧ some k_ ≠ (v515 : Value).ownBlock ∧ some k_ ≠ (.slice Ao95 t518.length co95 : Value).ownBlock ∧ some k_ ≠ (.slice Ao105 t527.length co105 : Value).ownBlock ∧ some k_ ≠ (v533 : Value).ownBlock ∧ some k_ ≠ (v537 : Value).ownBlock ∧ some k_ ≠ (.slice Ao117 t540.length co117 : Value).ownBlock) v524 t523) := ⟨by (with_reducible repeat (first | apply zRa | apply zRn | apply zRd)); exact zRm (Kd.R_far (p := ⟨g43, 1, none⟩) (Kd.R_far (p := ⟨g43, 0, none⟩) (Kd.R_types O25.out K43.out (by decide)) (fun _ hk => hk.2) (.bool t539)) (fun _ hk => hk.2) (.slice Ao117 t540.length co117)) (fun _ hk => ⟨hk.1.1, ⟨hk.1.2.1, ⟨hk.1.2.2.1, ⟨hk.1.2.2.2.1, ⟨hk.1.2.2.2.2.1, ⟨hk.1.2.2.2.2.2.1, hk.1.2.2.2.2.2.2⟩⟩⟩⟩⟩⟩)⟩
        have n7_ : Aside0 (Kd.R (Kd.int .u32) 58 ((w115.setCell ⟨g43, 0, none⟩ (.bool t539)).setCell ⟨g43, 1, none⟩ (.slice Ao117 t540.length co117)) w.heap.size (fun k_ => (w.heap.size ≤ k_) ∧ some k_ ≠ (v515 : Value).ownBlock ∧ some k_ ≠ (.slice Ao95 t518.length co95 : Value).ownBlock ∧ some k_ ≠ (v524 : Value).ownBlock ∧ some k_ ≠ (v533 : Value).ownBlock ∧ some k_ ≠ (v537 : Value).ownBlock ∧ some k_ ≠ (.slice Ao117 t540.length co117 : Value).ownBlock) (.slice Ao105 t527.length co105) t527) := ⟨by (with_reducible repeat (first | apply zRa | apply zRn | apply zRd)); exact zRm (Kd.R_far (p := ⟨g43, 1, none⟩) (Kd.R_far (p := ⟨g43, 0, none⟩) (Kd.R_types O29.out K43.out (by decide)) (fun _ hk => hk.2) (.bool t539)) (fun _ hk => hk.2) (.slice Ao117 t540.length co117)) (fun _ hk => ⟨hk.1.1, ⟨hk.1.2.1, ⟨hk.1.2.2.1, ⟨hk.1.2.2.2.1, ⟨hk.1.2.2.2.2.1, ⟨hk.1.2.2.2.2.2.1, hk.1.2.2.2.2.2.2⟩⟩⟩⟩⟩⟩)⟩
        have n8_ : Aside0 (Kd.R (Kd.int .u32) 58 ((w115.setCell ⟨g43, 0, none⟩ (.bool t539)).setCell ⟨g43, 1, none⟩ (.slice Ao117 t540.length co117)) w.heap.size (fun k_ => (w.heap.size ≤ k_) ∧ some k_ ≠ (v515 : Value).ownBlock ∧ some k_ ≠ (.slice Ao95 t518.length co95 : Value).ownBlock ∧ some k_ ≠ (v524 : Value).ownBlock ∧ some k_ ≠ (.slice Ao105 t527.length co105 : Value).ownBlock ∧ some k_ ≠ (v537 : Value).ownBlock ∧ some k_ ≠ (.slice Ao117 t540.length co117 : Value).ownBlock) v533 t532) := ⟨by (with_reducible repeat (first | apply zRa | apply zRn | apply zRd)); exact zRm (Kd.R_far (p := ⟨g43, 1, none⟩) (Kd.R_far (p := ⟨g43, 0, none⟩) (Kd.R_types O34.out K43.out (by decide)) (fun _ hk => hk.2) (.bool t539)) (fun _ hk => hk.2) (.slice Ao117 t540.length co117)) (fun _ hk => ⟨hk.1.1, ⟨hk.1.2.1, ⟨hk.1.2.2.1, ⟨hk.1.2.2.2.1, ⟨hk.1.2.2.2.2.1, ⟨hk.1.2.2.2.2.2.1, hk.1.2.2.2.2.2.2⟩⟩⟩⟩⟩⟩)⟩
        have n9_ : Aside0 (Kd.R (Kd.int .u32) 58 ((w115.setCell ⟨g43, 0, none⟩ (.bool t539)).setCell ⟨g43, 1, none⟩ (.slice Ao117 t540.length co117)) w.heap.size (fun k_ => (w.heap.size ≤ k_) ∧ some k_ ≠ (v515 : Value).ownBlock ∧ some k_ ≠ (.slice Ao95 t518.length co95 : Value).ownBlock ∧ some k_ ≠ (v524 : Value).ownBlock ∧ some k_ ≠ (.slice Ao105 t527.length co105 : Value).ownBlock ∧ some k_ ≠ (v533 : Value).ownBlock ∧ some k_ ≠ (.slice Ao117 t540.length co117 : Value).ownBlock) v537 t536) := ⟨by (with_reducible repeat (first | apply zRa | apply zRn | apply zRd)); exact zRm (Kd.R_far (p := ⟨g43, 1, none⟩) (Kd.R_far (p := ⟨g43, 0, none⟩) (Kd.R_types O38.out K43.out (by decide)) (fun _ hk => hk.2) (.bool t539)) (fun _ hk => hk.2) (.slice Ao117 t540.length co117)) (fun _ hk => ⟨hk.1.1, ⟨hk.1.2.1, ⟨hk.1.2.2.1, ⟨hk.1.2.2.2.1, ⟨hk.1.2.2.2.2.1, ⟨hk.1.2.2.2.2.2.1, hk.1.2.2.2.2.2.2⟩⟩⟩⟩⟩⟩)⟩
        have n10_ : Aside0 (Kd.R (Kd.int .u32) 58 ((w115.setCell ⟨g43, 0, none⟩ (.bool t539)).setCell ⟨g43, 1, none⟩ (.slice Ao117 t540.length co117)) w.heap.size (fun k_ => (w.heap.size ≤ k_) ∧ some k_ ≠ (v515 : Value).ownBlock ∧ some k_ ≠ (.slice Ao95 t518.length co95 : Value).ownBlock ∧ some k_ ≠ (v524 : Value).ownBlock ∧ some k_ ≠ (.slice Ao105 t527.length co105 : Value).ownBlock ∧ some k_ ≠ (v533 : Value).ownBlock ∧ some k_ ≠ (v537 : Value).ownBlock) (.slice Ao117 t540.length co117) t540) := ⟨by (with_reducible repeat (first | apply zRa | apply zRn | apply zRd)); exact zRm (Kd.R_far (p := ⟨g43, 1, none⟩) (Kd.R_far (p := ⟨g43, 0, none⟩) (Kd.R_types O42.out K43.out (by decide)) (fun _ hk => hk.2) (.bool t539)) (fun _ hk => hk.2) (.slice Ao117 t540.length co117)) (fun _ hk => ⟨hk.1.1, ⟨hk.1.2.1, ⟨hk.1.2.2.1, ⟨hk.1.2.2.2.1, ⟨hk.1.2.2.2.2.1, ⟨hk.1.2.2.2.2.2.1, hk.1.2.2.2.2.2.2⟩⟩⟩⟩⟩⟩)⟩
        have n11_ : Aside0 (((w115.setCell ⟨g43, 0, none⟩ (.bool t539)).setCell ⟨g43, 1, none⟩ (.slice Ao117 t540.length co117)).heap[g05]? = some (.cells #[.bool a0_0, .slice A0_1 l0_1.length c0_1] 24 (0, 0))) := ⟨by (with_reducible repeat (first | refine zKn ?_ _ | refine zKd ?_ | refine zKa ?_ _)); refine blk_far ?_ N05_43.out _; (with_reducible repeat (first | refine zKn ?_ _ | refine zKd ?_ | refine zKa ?_ _)); refine blk_far ?_ N05_43.out _; (with_reducible repeat (first | refine zKn ?_ _ | refine zKd ?_ | refine zKa ?_ _)); exact K05.out⟩
        have n12_ : Aside0 (((w115.setCell ⟨g43, 0, none⟩ (.bool t539)).setCell ⟨g43, 1, none⟩ (.slice Ao117 t540.length co117)).heap[g06]? = some (.cells #[.bool a1_0, .slice A1_1 l1_1.length c1_1] 24 (0, 0))) := ⟨by (with_reducible repeat (first | refine zKn ?_ _ | refine zKd ?_ | refine zKa ?_ _)); refine blk_far ?_ N06_43.out _; (with_reducible repeat (first | refine zKn ?_ _ | refine zKd ?_ | refine zKa ?_ _)); refine blk_far ?_ N06_43.out _; (with_reducible repeat (first | refine zKn ?_ _ | refine zKd ?_ | refine zKa ?_ _)); exact K06.out⟩
        have n13_ : Aside0 (((w115.setCell ⟨g43, 0, none⟩ (.bool t539)).setCell ⟨g43, 1, none⟩ (.slice Ao117 t540.length co117)).heap[g07]? = some (.cells #[.bool a2_0, .slice A2_1 l2_1.length c2_1] 24 (0, 0))) := ⟨by (with_reducible repeat (first | refine zKn ?_ _ | refine zKd ?_ | refine zKa ?_ _)); refine blk_far ?_ N07_43.out _; (with_reducible repeat (first | refine zKn ?_ _ | refine zKd ?_ | refine zKa ?_ _)); refine blk_far ?_ N07_43.out _; (with_reducible repeat (first | refine zKn ?_ _ | refine zKd ?_ | refine zKa ?_ _)); exact K07.out⟩
        have n14_ : Aside0 (((w115.setCell ⟨g43, 0, none⟩ (.bool t539)).setCell ⟨g43, 1, none⟩ (.slice Ao117 t540.length co117)).heap[g21]? = some (.cells #[.bool false, .slice Ao95 t518.length co95] 24 (0, 0))) := ⟨by (with_reducible repeat (first | refine zKn ?_ _ | refine zKd ?_ | refine zKa ?_ _)); refine blk_far ?_ N21_43.out _; (with_reducible repeat (first | refine zKn ?_ _ | refine zKd ?_ | refine zKa ?_ _)); refine blk_far ?_ N21_43.out _; (with_reducible repeat (first | refine zKn ?_ _ | refine zKd ?_ | refine zKa ?_ _)); exact K21.out⟩
        have n15_ : Aside0 (((w115.setCell ⟨g43, 0, none⟩ (.bool t539)).setCell ⟨g43, 1, none⟩ (.slice Ao117 t540.length co117)).heap[g30]? = some (.cells #[.bool t526, .slice Ao105 t527.length co105] 24 (0, 0))) := ⟨by (with_reducible repeat (first | refine zKn ?_ _ | refine zKd ?_ | refine zKa ?_ _)); refine blk_far ?_ N30_43.out _; (with_reducible repeat (first | refine zKn ?_ _ | refine zKd ?_ | refine zKa ?_ _)); refine blk_far ?_ N30_43.out _; (with_reducible repeat (first | refine zKn ?_ _ | refine zKd ?_ | refine zKa ?_ _)); exact K30.out⟩
        have n16_ : Aside0 (((w115.setCell ⟨g43, 0, none⟩ (.bool t539)).setCell ⟨g43, 1, none⟩ (.slice Ao117 t540.length co117)).heap[g43]? = some (.cells #[.bool t539, .slice Ao117 t540.length co117] 24 (0, 0))) := ⟨by (with_reducible repeat (first | refine zKn ?_ _ | refine zKd ?_ | refine zKa ?_ _)); refine blk_put (cs := #[.bool t539, .slice none 0 0]) ?_ 1 _ rfl; (with_reducible repeat (first | refine zKn ?_ _ | refine zKd ?_ | refine zKa ?_ _)); refine blk_put (cs := #[.bool false, .slice none 0 0]) ?_ 0 _ rfl; (with_reducible repeat (first | refine zKn ?_ _ | refine zKd ?_ | refine zKa ?_ _)); exact K43.out⟩
        have n17_ : Aside0 (Below w.heap.size w ((w115.setCell ⟨g43, 0, none⟩ (.bool t539)).setCell ⟨g43, 1, none⟩ (.slice Ao117 t540.length co117))) := ⟨by exact uT HB.out⟩
        generalize ((w115.setCell ⟨g43, 0, none⟩ (.bool t539)).setCell ⟨g43, 1, none⟩ (.slice Ao117 t540.length co117)) = w119 at n0_ n1_ n2_ n3_ n4_ n5_ n6_ n7_ n8_ n9_ n10_ n11_ n12_ n13_ n14_ n15_ n16_ n17_ ⊢
        have HO0_1 := n0_
        have HO1_1 := n1_
        have HO2_1 := n2_
        have O10 := n3_
        have O16 := n4_
        have O20 := n5_
        have O25 := n6_
        have O29 := n7_
        have O34 := n8_
        have O38 := n9_
        have O42 := n10_
        have K05 := n11_
        have K06 := n12_
        have K07 := n13_
        have K21 := n14_
        have K30 := n15_
        have K43 := n16_
        have HB := n17_
        clear n0_ n1_ n2_ n3_ n4_ n5_ n6_ n7_ n8_ n9_ n10_ n11_ n12_ n13_ n14_ n15_ n16_ n17_
        replace HO0_1 := zMk (zVd HO0_1.out)
        replace HO1_1 := zMk (zVd HO1_1.out)
        replace HO2_1 := zMk (zVd HO2_1.out)
        replace O10 := zMk (Kd.N_drew O10.out)
        replace O16 := zMk (zRd O16.out)
        replace O20 := zMk (zRd O20.out)
        replace O25 := zMk (zRd O25.out)
        replace O29 := zMk (zRd O29.out)
        replace O34 := zMk (zRd O34.out)
        replace O38 := zMk (zRd O38.out)
        replace O42 := zMk (zRd O42.out)
        replace K05 := zMk (zKd K05.out)
        replace K06 := zMk (zKd K06.out)
        replace K07 := zMk (zKd K07.out)
        replace K21 := zMk (zKd K21.out)
        replace K30 := zMk (zKd K30.out)
        replace K43 := zMk (zKd K43.out)
        replace HB := zMk (zBd HB.out)
        refine start_ (n := 46) (S := fun w' => w'.cell? ⟨g21, 0, none⟩ = some (.bool false) ∧ w'.cell? ⟨g21, 1, none⟩ = some (.slice Ao95 t518.length co95) ∧ w'.cell? ⟨g30, 0, none⟩ = some (.bool t526) ∧ w'.cell? ⟨g30, 1, none⟩ = some (.slice Ao105 t527.length co105) ∧ w'.cell? ⟨g43, 0, none⟩ = some (.bool t539) ∧ w'.cell? ⟨g43, 1, none⟩ = some (.slice Ao117 t540.length co117) ∧ w'.cell? ⟨g05, 0, none⟩ = some (.bool a0_0) ∧ w'.cell? ⟨g05, 1, none⟩ = some (.slice A0_1 l0_1.length c0_1) ∧ w'.cell? ⟨g06, 0, none⟩ = some (.bool a1_0) ∧ w'.cell? ⟨g06, 1, none⟩ = some (.slice A1_1 l1_1.length c1_1)) (ds := []) #[false, false, false, false, false, false, false, false, false, false, false, false, false, false, false, false, false, false, false, false, false, false, false, false, false, false, false, false, false, false, false, false, false, false, false, false, false, false, false, false, false, false, false, false, false, false] (by kernel_rfl) rfl rfl ⟨(zKc K21.out 0).trans rfl, (zKc K21.out 1).trans rfl, (zKc K30.out 0).trans rfl, (zKc K30.out 1).trans rfl, (zKc K43.out 0).trans rfl, (zKc K43.out 1).trans rfl, (zKc K05.out 0).trans rfl, (zKc K05.out 1).trans rfl, (zKc K06.out 0).trans rfl, (zKc K06.out 1).trans rfl⟩ (fun hHeld => ?_); refine with_tabW filigreelaw02_IntegerRing.tab6 filigreelaw02_IntegerRing.bits6 (fun HT_ HW_ => ?_)
        generalize w119.drew = w120 at HO0_1 HO1_1 HO2_1 O10 O16 O20 O25 O29 O34 O38 O42 K05 K06 K07 K21 K30 K43 HB hHeld ⊢
        refine pure_ (i := 0) (N := some 36) (v := ?_) (a' := ?_) #[true, false, false, false, false, false, false, false, false, false, false, false, false, false, false, false, false, false, false, false, false, false, false, false, false, false, false, false, false, false, false, false, false, false, false, false, false, false, false, false, false, false, false, false, false, false] rfl rfl (any_of HT_.out (by kernel_rfl)) (fun _ _ _ h => h) (Or.inl ⟨by rfl, ?_⟩) ?_ ?_
        rotate_left
        ·intro w'
         go_simp
         with_reducible rfl
        rotate_left
        ·simp only [Act.put, zSa, zSb, zSc, i64_w, i32_w]
         rfl
        refine take_ (i := 1) (N := some 37) (v := ?_) (a' := ?_) #[true, true, false, false, false, false, false, false, false, false, false, false, false, false, false, false, false, false, false, false, false, false, false, false, false, false, false, false, false, false, false, false, false, false, false, false, false, false, false, false, false, false, false, false, false, false] rfl rfl (take_ofW HT_.out HW_.out (by kernel_rfl)) (fun _ _ _ h => h) (Or.inl ⟨by rfl, ?_⟩) hHeld ?_ ?_
        rotate_left
        ·rintro w' ⟨s0, s1, s2, s3, s4, s5, s6, s7, s8, s9⟩
         go_simp
         with_reducible rfl
        rotate_left
        ·simp only [Act.put, zSa, zSb, zSc, i64_w, i32_w]
         rfl
        refine pure_ (i := 2) (N := some 38) (v := ?_) (a' := ?_) #[true, true, true, false, false, false, false, false, false, false, false, false, false, false, false, false, false, false, false, false, false, false, false, false, false, false, false, false, false, false, false, false, false, false, false, false, false, false, false, false, false, false, false, false, false, false] rfl rfl (any_of HT_.out (by kernel_rfl)) (fun _ _ _ h => h) (Or.inl ⟨by rfl, ?_⟩) ?_ ?_
        rotate_left
        ·intro w'
         go_simp
         with_reducible rfl
        rotate_left
        ·simp only [Act.put, zSa, zSb, zSc, i64_w, i32_w]
         rfl
        refine pure_ (i := 3) (N := some 39) (v := ?_) (a' := ?_) #[true, true, true, true, false, false, false, false, false, false, false, false, false, false, false, false, false, false, false, false, false, false, false, false, false, false, false, false, false, false, false, false, false, false, false, false, false, false, false, false, false, false, false, false, false, false] rfl rfl (any_of HT_.out (by kernel_rfl)) (fun _ _ _ h => h) (Or.inl ⟨by rfl, ?_⟩) ?_ ?_
        rotate_left
        ·intro w'
         go_simp
         with_reducible rfl
        rotate_left
        ·simp only [Act.put, zSa, zSb, zSc, i64_w, i32_w]
         rfl
        refine pure_ (i := 4) (N := some 40) (v := ?_) (a' := ?_) #[true, true, true, true, true, false, false, false, false, false, false, false, false, false, false, false, false, false, false, false, false, false, false, false, false, false, false, false, false, false, false, false, false, false, false, false, false, false, false, false, false, false, false, false, false, false] rfl rfl (any_of HT_.out (by kernel_rfl)) (fun _ _ _ h => h) (Or.inl ⟨by rfl, ?_⟩) ?_ ?_
        rotate_left
        ·intro w'
         go_simp
         with_reducible rfl
        rotate_left
        ·simp only [Act.put, zSa, zSb, zSc, i64_w, i32_w]
         rfl
        refine pure_ (i := 5) (N := some 41) (v := ?_) (a' := ?_) #[true, true, true, true, true, true, false, false, false, false, false, false, false, false, false, false, false, false, false, false, false, false, false, false, false, false, false, false, false, false, false, false, false, false, false, false, false, false, false, false, false, false, false, false, false, false] rfl rfl (any_of HT_.out (by kernel_rfl)) (fun _ _ _ h => h) (Or.inl ⟨by rfl, ?_⟩) ?_ ?_
        rotate_left
        ·intro w'
         go_simp
         with_reducible rfl
        rotate_left
        ·simp only [Act.put, zSa, zSb, zSc, i64_w, i32_w]
         rfl
        refine take_ (i := 6) (N := some 42) (v := ?_) (a' := ?_) #[true, true, true, true, true, true, true, false, false, false, false, false, false, false, false, false, false, false, false, false, false, false, false, false, false, false, false, false, false, false, false, false, false, false, false, false, false, false, false, false, false, false, false, false, false, false] rfl rfl (take_ofW HT_.out HW_.out (by kernel_rfl)) (fun _ _ _ h => h) (Or.inl ⟨by rfl, ?_⟩) hHeld ?_ ?_
        rotate_left
        ·rintro w' ⟨s0, s1, s2, s3, s4, s5, s6, s7, s8, s9⟩
         go_simp
         with_reducible rfl
        rotate_left
        ·simp only [Act.put, zSa, zSb, zSc, i64_w, i32_w]
         rfl
        refine pure_ (i := 7) (N := some 43) (v := ?_) (a' := ?_) #[true, true, true, true, true, true, true, true, false, false, false, false, false, false, false, false, false, false, false, false, false, false, false, false, false, false, false, false, false, false, false, false, false, false, false, false, false, false, false, false, false, false, false, false, false, false] rfl rfl (any_of HT_.out (by kernel_rfl)) (fun _ _ _ h => h) (Or.inl ⟨by rfl, ?_⟩) ?_ ?_
        rotate_left
        ·intro w'
         go_simp
         with_reducible rfl
        rotate_left
        ·simp only [Act.put, zSa, zSb, zSc, i64_w, i32_w]
         rfl
        refine pure_ (i := 8) (N := some 44) (v := ?_) (a' := ?_) #[true, true, true, true, true, true, true, true, true, false, false, false, false, false, false, false, false, false, false, false, false, false, false, false, false, false, false, false, false, false, false, false, false, false, false, false, false, false, false, false, false, false, false, false, false, false] rfl rfl (any_of HT_.out (by kernel_rfl)) (fun _ _ _ h => h) (Or.inl ⟨by rfl, ?_⟩) ?_ ?_
        rotate_left
        ·intro w'
         go_simp
         with_reducible rfl
        rotate_left
        ·simp only [Act.put, zSa, zSb, zSc, i64_w, i32_w]
         rfl
        refine pure_ (i := 9) (N := some 45) (v := ?_) (a' := ?_) #[true, true, true, true, true, true, true, true, true, true, false, false, false, false, false, false, false, false, false, false, false, false, false, false, false, false, false, false, false, false, false, false, false, false, false, false, false, false, false, false, false, false, false, false, false, false] rfl rfl (any_of HT_.out (by kernel_rfl)) (fun _ _ _ h => h) (Or.inl ⟨by rfl, ?_⟩) ?_ ?_
        rotate_left
        ·intro w'
         go_simp
         with_reducible rfl
        rotate_left
        ·simp only [Act.put, zSa, zSb, zSc, i64_w, i32_w]
         rfl
        refine take_ (i := 10) (N := some 46) (v := ?_) (a' := ?_) #[true, true, true, true, true, true, true, true, true, true, true, false, false, false, false, false, false, false, false, false, false, false, false, false, false, false, false, false, false, false, false, false, false, false, false, false, false, false, false, false, false, false, false, false, false, false] rfl rfl (take_ofW HT_.out HW_.out (by kernel_rfl)) (fun _ _ _ h => h) (Or.inl ⟨by rfl, ?_⟩) hHeld ?_ ?_
        rotate_left
        ·rintro w' ⟨s0, s1, s2, s3, s4, s5, s6, s7, s8, s9⟩
         go_simp
         with_reducible rfl
        rotate_left
        ·simp only [Act.put, zSa, zSb, zSc, i64_w, i32_w]
         rfl
        refine take_ (i := 11) (N := some 47) (v := ?_) (a' := ?_) #[true, true, true, true, true, true, true, true, true, true, true, true, false, false, false, false, false, false, false, false, false, false, false, false, false, false, false, false, false, false, false, false, false, false, false, false, false, false, false, false, false, false, false, false, false, false] rfl rfl (take_ofW HT_.out HW_.out (by kernel_rfl)) (fun _ _ _ h => h) (Or.inl ⟨by rfl, ?_⟩) hHeld ?_ ?_
        rotate_left
        ·rintro w' ⟨s0, s1, s2, s3, s4, s5, s6, s7, s8, s9⟩
         go_simp
         with_reducible rfl
        rotate_left
        ·simp only [Act.put, zSa, zSb, zSc, i64_w, i32_w]
         rfl
        refine one_ (i := 12) (N := some 48) #[true, true, true, true, true, true, true, true, true, true, true, true, true, false, false, false, false, false, false, false, false, false, false, false, false, false, false, false, false, false, false, false, false, false, false, false, false, false, false, false, false, false, false, false, false, false] rfl rfl (one_of HT_.out (by kernel_rfl)) (by decide) (fun K hK => ?_)
        refine goes_ Tryd.func16 (by kernel_rfl) rfl #[.agg #[.bool t526, .slice Ao105 t527.length co105], .agg #[.bool t539, .slice Ao117 t540.length co117]] (by rfl) rfl rfl (by (try simp only [zMa, zMc, zMn]); first | done | rfl | (simp only [zLd, zLt]; rfl)) ?_
        with_reducible refine (filigreeref02_Same.calls k t526 _ _ t527 t539 _ _ t540 true _ ?side1 ?side2 ?side3 ?side4 A60.out).mono ?_
        (case side1 => exact uC (zRr O29.out).2.2)
        (case side2 => exact (zRr O29.out).2.1)
        (case side3 => exact uC (zRr O42.out).2.2)
        (case side4 => exact (zRr O42.out).2.1)
        rintro e w121 ⟨rfl, hb⟩
        refine ⟨_, rfl, ?_⟩
        replace HO0_1 := zMk (zVb (by exact uV HO0_1.out) hb)
        replace HO1_1 := zMk (zVb (by exact uV HO1_1.out) hb)
        replace HO2_1 := zMk (zVb (by exact uV HO2_1.out) hb)
        replace O10 := zMk (Kd.N_below (by exact uN O10.out) hb)
        replace O16 := zMk (zRb (by exact uR O16.out) hb)
        replace O20 := zMk (zRb (by exact uR O20.out) hb)
        replace O25 := zMk (zRb (by exact uR O25.out) hb)
        replace O29 := zMk (zRb (by exact uR O29.out) hb)
        replace O34 := zMk (zRb (by exact uR O34.out) hb)
        replace O38 := zMk (zRb (by exact uR O38.out) hb)
        replace O42 := zMk (zRb (by exact uR O42.out) hb)
        replace K05 := zMk (zKb K05.out hb)
        replace K06 := zMk (zKb K06.out hb)
        replace K07 := zMk (zKb K07.out hb)
        replace K21 := zMk (zKb K21.out hb)
        replace K30 := zMk (zKb K30.out hb)
        replace K43 := zMk (zKb K43.out hb)
        replace HB := zMk (zBt (by exact uT HB.out) hb)
        refine hK.out _ _ ⟨(zKc K21.out 0).trans rfl, (zKc K21.out 1).trans rfl, (zKc K30.out 0).trans rfl, (zKc K30.out 1).trans rfl, (zKc K43.out 0).trans rfl, (zKc K43.out 1).trans rfl, (zKc K05.out 0).trans rfl, (zKc K05.out 1).trans rfl, (zKc K06.out 0).trans rfl, (zKc K06.out 1).trans rfl⟩ (fun hHeld => ?_)
        clear hK K
        refine norm_ (a' := ?_) ?_ ?_
        rotate_left
        ·show Act.put _ (some 48) _ = _
         simp only [Act.put, zSa, zSb, zSc, i64_w, i32_w]
         rfl
        refine pure_ (i := 13) (N := some 49) (v := ?_) (a' := ?_) #[true, true, true, true, true, true, true, true, true, true, true, true, true, true, false, false, false, false, false, false, false, false, false, false, false, false, false, false, false, false, false, false, false, false, false, false, false, false, false, false, false, false, false, false, false, false] rfl rfl (any_of HT_.out (by kernel_rfl)) (fun _ _ _ h => h) (Or.inl ⟨by rfl, ?_⟩) ?_ ?_
        rotate_left
        ·intro w'
         go_simp
         with_reducible rfl
        rotate_left
        ·simp only [Act.put, zSa, zSb, zSc, i64_w, i32_w]
         rfl
        refine pure_ (i := 14) (N := some 50) (v := ?_) (a' := ?_) #[true, true, true, true, true, true, true, true, true, true, true, true, true, true, true, false, false, false, false, false, false, false, false, false, false, false, false, false, false, false, false, false, false, false, false, false, false, false, false, false, false, false, false, false, false, false] rfl rfl (any_of HT_.out (by kernel_rfl)) (fun _ _ _ h => h) (Or.inl ⟨by rfl, ?_⟩) ?_ ?_
        rotate_left
        ·intro w'
         go_simp
         with_reducible rfl
        rotate_left
        ·simp only [Act.put, zSa, zSb, zSc, i64_w, i32_w]
         rfl
        refine take_ (i := 15) (N := some 51) (v := ?_) (a' := ?_) #[true, true, true, true, true, true, true, true, true, true, true, true, true, true, true, true, false, false, false, false, false, false, false, false, false, false, false, false, false, false, false, false, false, false, false, false, false, false, false, false, false, false, false, false, false, false] rfl rfl (take_ofW HT_.out HW_.out (by kernel_rfl)) (fun _ _ _ h => h) (Or.inl ⟨by rfl, ?_⟩) hHeld ?_ ?_
        rotate_left
        ·rintro w' ⟨s0, s1, s2, s3, s4, s5, s6, s7, s8, s9⟩
         go_simp
         with_reducible rfl
        rotate_left
        ·simp only [Act.put, zSa, zSb, zSc, i64_w, i32_w]
         rfl
        refine take_ (i := 16) (N := some 52) (v := ?_) (a' := ?_) #[true, true, true, true, true, true, true, true, true, true, true, true, true, true, true, true, true, false, false, false, false, false, false, false, false, false, false, false, false, false, false, false, false, false, false, false, false, false, false, false, false, false, false, false, false, false] rfl rfl (take_ofW HT_.out HW_.out (by kernel_rfl)) (fun _ _ _ h => h) (Or.inl ⟨by rfl, ?_⟩) hHeld ?_ ?_
        rotate_left
        ·rintro w' ⟨s0, s1, s2, s3, s4, s5, s6, s7, s8, s9⟩
         go_simp
         with_reducible rfl
        rotate_left
        ·simp only [Act.put, zSa, zSb, zSc, i64_w, i32_w]
         rfl
        refine take_ (i := 18) (N := some 54) (v := ?_) (a' := ?_) #[true, true, true, true, true, true, true, true, true, true, true, true, true, true, true, true, true, false, true, false, false, false, false, false, false, false, false, false, false, false, false, false, false, false, false, false, false, false, false, false, false, false, false, false, false, false] rfl rfl (take_ofW HT_.out HW_.out (by kernel_rfl)) (fun _ _ _ h => h) (Or.inl ⟨by rfl, ?_⟩) hHeld ?_ ?_
        rotate_left
        ·rintro w' ⟨s0, s1, s2, s3, s4, s5, s6, s7, s8, s9⟩
         go_simp
         with_reducible rfl
        rotate_left
        ·simp only [Act.put, zSa, zSb, zSc, i64_w, i32_w]
         rfl
        refine take_ (i := 19) (N := some 55) (v := ?_) (a' := ?_) #[true, true, true, true, true, true, true, true, true, true, true, true, true, true, true, true, true, false, true, true, false, false, false, false, false, false, false, false, false, false, false, false, false, false, false, false, false, false, false, false, false, false, false, false, false, false] rfl rfl (take_ofW HT_.out HW_.out (by kernel_rfl)) (fun _ _ _ h => h) (Or.inl ⟨by rfl, ?_⟩) hHeld ?_ ?_
        rotate_left
        ·rintro w' ⟨s0, s1, s2, s3, s4, s5, s6, s7, s8, s9⟩
         go_simp
         with_reducible rfl
        rotate_left
        ·simp only [Act.put, zSa, zSb, zSc, i64_w, i32_w]
         rfl
        refine one_ (i := 17) (N := some 53) #[true, true, true, true, true, true, true, true, true, true, true, true, true, true, true, true, true, true, true, true, false, false, false, false, false, false, false, false, false, false, false, false, false, false, false, false, false, false, false, false, false, false, false, false, false, false] rfl rfl (one_of HT_.out (by kernel_rfl)) (by decide) (fun K hK => ?_)
        refine goes_ Tryd.func17 (by kernel_rfl) rfl #[.agg #[.bool a0_0, .slice A0_1 l0_1.length c0_1], .agg #[.bool a1_0, .slice A1_1 l1_1.length c1_1]] (by rfl) rfl rfl (by (try simp only [zMa, zMc, zMn]); first | done | rfl | (simp only [zLd, zLt]; rfl)) ?_
        with_reducible refine (integer_Add.calls k a0_0 _ _ l0_1 a1_0 _ _ l1_1 t545 t546 _ ?side1 ?side2 ?side3 ?side4 A62.out).mono ?_
        (case side1 => exact uC (zVr HO0_1.out).2.2)
        (case side2 => exact (zVr HO0_1.out).2.1)
        (case side3 => exact uC (zVr HO1_1.out).2.2)
        (case side4 => exact (zVr HO1_1.out).2.1)
        rintro e w122 ⟨v547, rfl, ho0, hb⟩
        refine ⟨_, rfl, ?_⟩
        replace HO0_1 := zMk (zVe (by exact uV HO0_1.out) (zRz ho0) hb)
        replace HO1_1 := zMk (zVe (by exact uV HO1_1.out) (zRz ho0) hb)
        replace HO2_1 := zMk (zVe (by exact uV HO2_1.out) (zRz ho0) hb)
        replace O10 := zMk (Kd.N_elder' (by exact uN O10.out) (zRz ho0) hb)
        have O48 := zMk (zRl (zRw (zRw (zRw (zRw (zRw (zRw (zRw (Kd.R_newM (M := fun k_ => (w.heap.size ≤ k_)) ho0 (zBs (by exact uT HB.out)) (fun k_ h_ => h_)) (zRt (by exact uR O16.out))) (zRt (by exact uR O20.out))) (zRt (by exact uR O25.out))) (zRt (by exact uR O29.out))) (zRt (by exact uR O34.out))) (zRt (by exact uR O38.out))) (zRt (by exact uR O42.out))) (zBs (by exact uT HB.out)))
        replace O16 := zMk (zRe (by exact uR O16.out) (zRz ho0) hb)
        replace O20 := zMk (zRe (by exact uR O20.out) (zRz ho0) hb)
        replace O25 := zMk (zRe (by exact uR O25.out) (zRz ho0) hb)
        replace O29 := zMk (zRe (by exact uR O29.out) (zRz ho0) hb)
        replace O34 := zMk (zRe (by exact uR O34.out) (zRz ho0) hb)
        replace O38 := zMk (zRe (by exact uR O38.out) (zRz ho0) hb)
        replace O42 := zMk (zRe (by exact uR O42.out) (zRz ho0) hb)
        replace K05 := zMk (zKb K05.out hb)
        replace K06 := zMk (zKb K06.out hb)
        replace K07 := zMk (zKb K07.out hb)
        replace K21 := zMk (zKb K21.out hb)
        replace K30 := zMk (zKb K30.out hb)
        replace K43 := zMk (zKb K43.out hb)
        replace HB := zMk (zBt (by exact uT HB.out) hb)
        refine hK.out _ _ ⟨(zKc K21.out 0).trans rfl, (zKc K21.out 1).trans rfl, (zKc K30.out 0).trans rfl, (zKc K30.out 1).trans rfl, (zKc K43.out 0).trans rfl, (zKc K43.out 1).trans rfl, (zKc K05.out 0).trans rfl, (zKc K05.out 1).trans rfl, (zKc K06.out 0).trans rfl, (zKc K06.out 1).trans rfl⟩ (fun hHeld => ?_)
        clear hK K
        refine norm_ (a' := ?_) ?_ ?_
        rotate_left
        ·show Act.put _ (some 53) _ = _
         simp only [Act.put, zSa, zSb, zSc, i64_w, i32_w]
         rfl
        refine one_ (i := 20) (N := some 56) #[true, true, true, true, true, true, true, true, true, true, true, true, true, true, true, true, true, true, true, true, true, false, false, false, false, false, false, false, false, false, false, false, false, false, false, false, false, false, false, false, false, false, false, false, false, false] rfl rfl (one_of HT_.out (by kernel_rfl)) (by decide) (fun K hK => ?_)
        refine goes_ Tryd.func17 (by kernel_rfl) rfl #[.agg #[.bool a1_0, .slice A1_1 l1_1.length c1_1], .agg #[.bool a0_0, .slice A0_1 l0_1.length c0_1]] (by rfl) rfl rfl (by (try simp only [zMa, zMc, zMn]); first | done | rfl | (simp only [zLd, zLt]; rfl)) ?_
        with_reducible refine (integer_Add.calls k a1_0 _ _ l1_1 a0_0 _ _ l0_1 t549 t550 _ ?side1 ?side2 ?side3 ?side4 A63.out).mono ?_
        (case side1 => exact uC (zVr HO1_1.out).2.2)
        (case side2 => exact (zVr HO1_1.out).2.1)
        (case side3 => exact uC (zVr HO0_1.out).2.2)
        (case side4 => exact (zVr HO0_1.out).2.1)
        rintro e w123 ⟨v551, rfl, ho0, hb⟩
        refine ⟨_, rfl, ?_⟩
        replace HO0_1 := zMk (zVe (by exact uV HO0_1.out) (zRz ho0) hb)
        replace HO1_1 := zMk (zVe (by exact uV HO1_1.out) (zRz ho0) hb)
        replace HO2_1 := zMk (zVe (by exact uV HO2_1.out) (zRz ho0) hb)
        replace O10 := zMk (Kd.N_elder' (by exact uN O10.out) (zRz ho0) hb)
        have O52 := zMk (zRl (zRw (zRw (zRw (zRw (zRw (zRw (zRw (zRw (Kd.R_newM (M := fun k_ => (w.heap.size ≤ k_)) ho0 (zBs (by exact uT HB.out)) (fun k_ h_ => h_)) (zRt (by exact uR O16.out))) (zRt (by exact uR O20.out))) (zRt (by exact uR O25.out))) (zRt (by exact uR O29.out))) (zRt (by exact uR O34.out))) (zRt (by exact uR O38.out))) (zRt (by exact uR O42.out))) (zRt (by exact uR O48.out))) (zBs (by exact uT HB.out)))
        replace O16 := zMk (zRe (by exact uR O16.out) (zRz ho0) hb)
        replace O20 := zMk (zRe (by exact uR O20.out) (zRz ho0) hb)
        replace O25 := zMk (zRe (by exact uR O25.out) (zRz ho0) hb)
        replace O29 := zMk (zRe (by exact uR O29.out) (zRz ho0) hb)
        replace O34 := zMk (zRe (by exact uR O34.out) (zRz ho0) hb)
        replace O38 := zMk (zRe (by exact uR O38.out) (zRz ho0) hb)
        replace O42 := zMk (zRe (by exact uR O42.out) (zRz ho0) hb)
        replace O48 := zMk (zRe (by exact uR O48.out) (zRz ho0) hb)
        replace K05 := zMk (zKb K05.out hb)
        replace K06 := zMk (zKb K06.out hb)
        replace K07 := zMk (zKb K07.out hb)
        replace K21 := zMk (zKb K21.out hb)
        replace K30 := zMk (zKb K30.out hb)
        replace K43 := zMk (zKb K43.out hb)
        replace HB := zMk (zBt (by exact uT HB.out) hb)
        obtain ⟨Ao124, co124, eo124⟩ := zRs O48.out
        (first |  subst eo124|  (injection eo124 with f1_ f2_ f3_; have f4_ := f1_.symm; have f5_ := f3_.symm; clear f1_ f2_ f3_; subst f4_; subst f5_))
        obtain ⟨Ao125, co125, eo125⟩ := zRs O52.out
        (first |  subst eo125|  (injection eo125 with f1_ f2_ f3_; have f4_ := f1_.symm; have f5_ := f3_.symm; clear f1_ f2_ f3_; subst f4_; subst f5_))
        refine hK.out _ _ ⟨(zKc K21.out 0).trans rfl, (zKc K21.out 1).trans rfl, (zKc K30.out 0).trans rfl, (zKc K30.out 1).trans rfl, (zKc K43.out 0).trans rfl, (zKc K43.out 1).trans rfl, (zKc K05.out 0).trans rfl, (zKc K05.out 1).trans rfl, (zKc K06.out 0).trans rfl, (zKc K06.out 1).trans rfl⟩ (fun hHeld => ?_)
        clear hK K
        refine norm_ (a' := ?_) ?_ ?_
        rotate_left
        ·show Act.put _ (some 56) _ = _
         simp only [Act.put, zSa, zSb, zSc, i64_w, i32_w]
         rfl
        refine one_ (i := 21) (N := some 57) #[true, true, true, true, true, true, true, true, true, true, true, true, true, true, true, true, true, true, true, true, true, true, false, false, false, false, false, false, false, false, false, false, false, false, false, false, false, false, false, false, false, false, false, false, false, false] rfl rfl (one_of HT_.out (by kernel_rfl)) (by decide) (fun K hK => ?_)
        refine goes_ Tryd.func16 (by kernel_rfl) rfl #[.agg #[.bool t545, .slice Ao124 t546.length co124], .agg #[.bool t549, .slice Ao125 t550.length co125]] (by rfl) rfl rfl (by (try simp only [zMa, zMc, zMn]); first | done | rfl | (simp only [zLd, zLt]; rfl)) ?_
        with_reducible refine (filigreeref02_Same.calls k t545 _ _ t546 t549 _ _ t550 true _ ?side1 ?side2 ?side3 ?side4 A64.out).mono ?_
        (case side1 => exact uC (zRr O48.out).2.2)
        (case side2 => exact (zRr O48.out).2.1)
        (case side3 => exact uC (zRr O52.out).2.2)
        (case side4 => exact (zRr O52.out).2.1)
        rintro e w126 ⟨rfl, hb⟩
        refine ⟨_, rfl, ?_⟩
        replace HO0_1 := zMk (zVb (by exact uV HO0_1.out) hb)
        replace HO1_1 := zMk (zVb (by exact uV HO1_1.out) hb)
        replace HO2_1 := zMk (zVb (by exact uV HO2_1.out) hb)
        replace O10 := zMk (Kd.N_below (by exact uN O10.out) hb)
        replace O16 := zMk (zRb (by exact uR O16.out) hb)
        replace O20 := zMk (zRb (by exact uR O20.out) hb)
        replace O25 := zMk (zRb (by exact uR O25.out) hb)
        replace O29 := zMk (zRb (by exact uR O29.out) hb)
        replace O34 := zMk (zRb (by exact uR O34.out) hb)
        replace O38 := zMk (zRb (by exact uR O38.out) hb)
        replace O42 := zMk (zRb (by exact uR O42.out) hb)
        replace O48 := zMk (zRb (by exact uR O48.out) hb)
        replace O52 := zMk (zRb (by exact uR O52.out) hb)
        replace K05 := zMk (zKb K05.out hb)
        replace K06 := zMk (zKb K06.out hb)
        replace K07 := zMk (zKb K07.out hb)
        replace K21 := zMk (zKb K21.out hb)
        replace K30 := zMk (zKb K30.out hb)
        replace K43 := zMk (zKb K43.out hb)
        replace HB := zMk (zBt (by exact uT HB.out) hb)
        refine hK.out _ _ ⟨(zKc K21.out 0).trans rfl, (zKc K21.out 1).trans rfl, (zKc K30.out 0).trans rfl, (zKc K30.out 1).trans rfl, (zKc K43.out 0).trans rfl, (zKc K43.out 1).trans rfl, (zKc K05.out 0).trans rfl, (zKc K05.out 1).trans rfl, (zKc K06.out 0).trans rfl, (zKc K06.out 1).trans rfl⟩ (fun hHeld => ?_)
        clear hK K
        refine norm_ (a' := ?_) ?_ ?_
        rotate_left
        ·show Act.put _ (some 57) _ = _
         simp only [Act.put, zSa, zSb, zSc, i64_w, i32_w]
         rfl
        refine pure_ (i := 22) (N := some 58) (v := ?_) (a' := ?_) #[true, true, true, true, true, true, true, true, true, true, true, true, true, true, true, true, true, true, true, true, true, true, true, false, false, false, false, false, false, false, false, false, false, false, false, false, false, false, false, false, false, false, false, false, false, false] rfl rfl (any_of HT_.out (by kernel_rfl)) (fun _ _ _ h => h) (Or.inl ⟨by rfl, ?_⟩) ?_ ?_
        rotate_left
        ·intro w'
         go_simp
         with_reducible rfl
        rotate_left
        ·simp only [Act.put, zSa, zSb, zSc, i64_w, i32_w]
         rfl
        refine pure_ (i := 23) (N := some 59) (v := ?_) (a' := ?_) #[true, true, true, true, true, true, true, true, true, true, true, true, true, true, true, true, true, true, true, true, true, true, true, true, false, false, false, false, false, false, false, false, false, false, false, false, false, false, false, false, false, false, false, false, false, false] rfl rfl (any_of HT_.out (by kernel_rfl)) (fun _ _ _ h => h) (Or.inl ⟨by rfl, ?_⟩) ?_ ?_
        rotate_left
        ·intro w'
         go_simp
         with_reducible rfl
        rotate_left
        ·simp only [Act.put, zSa, zSb, zSc, i64_w, i32_w]
         rfl
        refine take_ (i := 24) (N := some 60) (v := ?_) (a' := ?_) #[true, true, true, true, true, true, true, true, true, true, true, true, true, true, true, true, true, true, true, true, true, true, true, true, true, false, false, false, false, false, false, false, false, false, false, false, false, false, false, false, false, false, false, false, false, false] rfl rfl (take_ofW HT_.out HW_.out (by kernel_rfl)) (fun _ _ _ h => h) (Or.inl ⟨by rfl, ?_⟩) hHeld ?_ ?_
        rotate_left
        ·rintro w' ⟨s0, s1, s2, s3, s4, s5, s6, s7, s8, s9⟩
         go_simp
         with_reducible rfl
        rotate_left
        ·simp only [Act.put, zSa, zSb, zSc, i64_w, i32_w]
         rfl
        refine take_ (i := 25) (N := some 61) (v := ?_) (a' := ?_) #[true, true, true, true, true, true, true, true, true, true, true, true, true, true, true, true, true, true, true, true, true, true, true, true, true, true, false, false, false, false, false, false, false, false, false, false, false, false, false, false, false, false, false, false, false, false] rfl rfl (take_ofW HT_.out HW_.out (by kernel_rfl)) (fun _ _ _ h => h) (Or.inl ⟨by rfl, ?_⟩) hHeld ?_ ?_
        rotate_left
        ·rintro w' ⟨s0, s1, s2, s3, s4, s5, s6, s7, s8, s9⟩
         go_simp
         with_reducible rfl
        rotate_left
        ·simp only [Act.put, zSa, zSb, zSc, i64_w, i32_w]
         rfl
        refine take_ (i := 27) (N := some 63) (v := ?_) (a' := ?_) #[true, true, true, true, true, true, true, true, true, true, true, true, true, true, true, true, true, true, true, true, true, true, true, true, true, true, false, true, false, false, false, false, false, false, false, false, false, false, false, false, false, false, false, false, false, false] rfl rfl (take_ofW HT_.out HW_.out (by kernel_rfl)) (fun _ _ _ h => h) (Or.inl ⟨by rfl, ?_⟩) hHeld ?_ ?_
        rotate_left
        ·rintro w' ⟨s0, s1, s2, s3, s4, s5, s6, s7, s8, s9⟩
         go_simp
         with_reducible rfl
        rotate_left
        ·simp only [Act.put, zSa, zSb, zSc, i64_w, i32_w]
         rfl
        refine take_ (i := 28) (N := some 64) (v := ?_) (a' := ?_) #[true, true, true, true, true, true, true, true, true, true, true, true, true, true, true, true, true, true, true, true, true, true, true, true, true, true, false, true, true, false, false, false, false, false, false, false, false, false, false, false, false, false, false, false, false, false] rfl rfl (take_ofW HT_.out HW_.out (by kernel_rfl)) (fun _ _ _ h => h) (Or.inl ⟨by rfl, ?_⟩) hHeld ?_ ?_
        rotate_left
        ·rintro w' ⟨s0, s1, s2, s3, s4, s5, s6, s7, s8, s9⟩
         go_simp
         with_reducible rfl
        rotate_left
        ·simp only [Act.put, zSa, zSb, zSc, i64_w, i32_w]
         rfl
        refine one_ (i := 26) (N := some 62) #[true, true, true, true, true, true, true, true, true, true, true, true, true, true, true, true, true, true, true, true, true, true, true, true, true, true, true, true, true, false, false, false, false, false, false, false, false, false, false, false, false, false, false, false, false, false] rfl rfl (one_of HT_.out (by kernel_rfl)) (by decide) (fun K hK => ?_)
        refine goes_ Tryd.func21 (by kernel_rfl) rfl #[.agg #[.bool a0_0, .slice A0_1 l0_1.length c0_1], .agg #[.bool a1_0, .slice A1_1 l1_1.length c1_1]] (by rfl) rfl rfl (by (try simp only [zMa, zMc, zMn]); first | done | rfl | (simp only [zLd, zLt]; rfl)) ?_
        with_reducible refine (integer_Mul.calls k a0_0 _ _ l0_1 a1_0 _ _ l1_1 t554 t555 _ ?side1 ?side2 ?side3 ?side4 A66.out).mono ?_
        (case side1 => exact uC (zVr HO0_1.out).2.2)
        (case side2 => exact (zVr HO0_1.out).2.1)
        (case side3 => exact uC (zVr HO1_1.out).2.2)
        (case side4 => exact (zVr HO1_1.out).2.1)
        rintro e w127 ⟨v556, rfl, ho0, hb⟩
        refine ⟨_, rfl, ?_⟩
        replace HO0_1 := zMk (zVe (by exact uV HO0_1.out) (zRz ho0) hb)
        replace HO1_1 := zMk (zVe (by exact uV HO1_1.out) (zRz ho0) hb)
        replace HO2_1 := zMk (zVe (by exact uV HO2_1.out) (zRz ho0) hb)
        replace O10 := zMk (Kd.N_elder' (by exact uN O10.out) (zRz ho0) hb)
        have O57 := zMk (zRl (zRw (zRw (zRw (zRw (zRw (zRw (zRw (zRw (zRw (Kd.R_newM (M := fun k_ => (w.heap.size ≤ k_)) ho0 (zBs (by exact uT HB.out)) (fun k_ h_ => h_)) (zRt (by exact uR O16.out))) (zRt (by exact uR O20.out))) (zRt (by exact uR O25.out))) (zRt (by exact uR O29.out))) (zRt (by exact uR O34.out))) (zRt (by exact uR O38.out))) (zRt (by exact uR O42.out))) (zRt (by exact uR O48.out))) (zRt (by exact uR O52.out))) (zBs (by exact uT HB.out)))
        replace O16 := zMk (zRe (by exact uR O16.out) (zRz ho0) hb)
        replace O20 := zMk (zRe (by exact uR O20.out) (zRz ho0) hb)
        replace O25 := zMk (zRe (by exact uR O25.out) (zRz ho0) hb)
        replace O29 := zMk (zRe (by exact uR O29.out) (zRz ho0) hb)
        replace O34 := zMk (zRe (by exact uR O34.out) (zRz ho0) hb)
        replace O38 := zMk (zRe (by exact uR O38.out) (zRz ho0) hb)
        replace O42 := zMk (zRe (by exact uR O42.out) (zRz ho0) hb)
        replace O48 := zMk (zRe (by exact uR O48.out) (zRz ho0) hb)
        replace O52 := zMk (zRe (by exact uR O52.out) (zRz ho0) hb)
        replace K05 := zMk (zKb K05.out hb)
        replace K06 := zMk (zKb K06.out hb)
        replace K07 := zMk (zKb K07.out hb)
        replace K21 := zMk (zKb K21.out hb)
        replace K30 := zMk (zKb K30.out hb)
        replace K43 := zMk (zKb K43.out hb)
        replace HB := zMk (zBt (by exact uT HB.out) hb)
        refine hK.out _ _ ⟨(zKc K21.out 0).trans rfl, (zKc K21.out 1).trans rfl, (zKc K30.out 0).trans rfl, (zKc K30.out 1).trans rfl, (zKc K43.out 0).trans rfl, (zKc K43.out 1).trans rfl, (zKc K05.out 0).trans rfl, (zKc K05.out 1).trans rfl, (zKc K06.out 0).trans rfl, (zKc K06.out 1).trans rfl⟩ (fun hHeld => ?_)
        clear hK K
        refine norm_ (a' := ?_) ?_ ?_
        rotate_left
        ·show Act.put _ (some 62) _ = _
         simp only [Act.put, zSa, zSb, zSc, i64_w, i32_w]
         rfl
        refine one_ (i := 29) (N := some 65) #[true, true, true, true, true, true, true, true, true, true, true, true, true, true, true, true, true, true, true, true, true, true, true, true, true, true, true, true, true, true, false, false, false, false, false, false, false, false, false, false, false, false, false, false, false, false] rfl rfl (one_of HT_.out (by kernel_rfl)) (by decide) (fun K hK => ?_)
        refine goes_ Tryd.func21 (by kernel_rfl) rfl #[.agg #[.bool a1_0, .slice A1_1 l1_1.length c1_1], .agg #[.bool a0_0, .slice A0_1 l0_1.length c0_1]] (by rfl) rfl rfl (by (try simp only [zMa, zMc, zMn]); first | done | rfl | (simp only [zLd, zLt]; rfl)) ?_
        with_reducible refine (integer_Mul.calls k a1_0 _ _ l1_1 a0_0 _ _ l0_1 t558 t559 _ ?side1 ?side2 ?side3 ?side4 A67.out).mono ?_
        (case side1 => exact uC (zVr HO1_1.out).2.2)
        (case side2 => exact (zVr HO1_1.out).2.1)
        (case side3 => exact uC (zVr HO0_1.out).2.2)
        (case side4 => exact (zVr HO0_1.out).2.1)
        rintro e w128 ⟨v560, rfl, ho0, hb⟩
        refine ⟨_, rfl, ?_⟩
        replace HO0_1 := zMk (zVe (by exact uV HO0_1.out) (zRz ho0) hb)
        replace HO1_1 := zMk (zVe (by exact uV HO1_1.out) (zRz ho0) hb)
        replace HO2_1 := zMk (zVe (by exact uV HO2_1.out) (zRz ho0) hb)
        replace O10 := zMk (Kd.N_elder' (by exact uN O10.out) (zRz ho0) hb)
        have O61 := zMk (zRl (zRw (zRw (zRw (zRw (zRw (zRw (zRw (zRw (zRw (zRw (Kd.R_newM (M := fun k_ => (w.heap.size ≤ k_)) ho0 (zBs (by exact uT HB.out)) (fun k_ h_ => h_)) (zRt (by exact uR O16.out))) (zRt (by exact uR O20.out))) (zRt (by exact uR O25.out))) (zRt (by exact uR O29.out))) (zRt (by exact uR O34.out))) (zRt (by exact uR O38.out))) (zRt (by exact uR O42.out))) (zRt (by exact uR O48.out))) (zRt (by exact uR O52.out))) (zRt (by exact uR O57.out))) (zBs (by exact uT HB.out)))
        replace O16 := zMk (zRe (by exact uR O16.out) (zRz ho0) hb)
        replace O20 := zMk (zRe (by exact uR O20.out) (zRz ho0) hb)
        replace O25 := zMk (zRe (by exact uR O25.out) (zRz ho0) hb)
        replace O29 := zMk (zRe (by exact uR O29.out) (zRz ho0) hb)
        replace O34 := zMk (zRe (by exact uR O34.out) (zRz ho0) hb)
        replace O38 := zMk (zRe (by exact uR O38.out) (zRz ho0) hb)
        replace O42 := zMk (zRe (by exact uR O42.out) (zRz ho0) hb)
        replace O48 := zMk (zRe (by exact uR O48.out) (zRz ho0) hb)
        replace O52 := zMk (zRe (by exact uR O52.out) (zRz ho0) hb)
        replace O57 := zMk (zRe (by exact uR O57.out) (zRz ho0) hb)
        replace K05 := zMk (zKb K05.out hb)
        replace K06 := zMk (zKb K06.out hb)
        replace K07 := zMk (zKb K07.out hb)
        replace K21 := zMk (zKb K21.out hb)
        replace K30 := zMk (zKb K30.out hb)
        replace K43 := zMk (zKb K43.out hb)
        replace HB := zMk (zBt (by exact uT HB.out) hb)
        obtain ⟨Ao129, co129, eo129⟩ := zRs O57.out
        (first |  subst eo129|  (injection eo129 with f1_ f2_ f3_; have f4_ := f1_.symm; have f5_ := f3_.symm; clear f1_ f2_ f3_; subst f4_; subst f5_))
        obtain ⟨Ao130, co130, eo130⟩ := zRs O61.out
        (first |  subst eo130|  (injection eo130 with f1_ f2_ f3_; have f4_ := f1_.symm; have f5_ := f3_.symm; clear f1_ f2_ f3_; subst f4_; subst f5_))
        refine hK.out _ _ ⟨(zKc K21.out 0).trans rfl, (zKc K21.out 1).trans rfl, (zKc K30.out 0).trans rfl, (zKc K30.out 1).trans rfl, (zKc K43.out 0).trans rfl, (zKc K43.out 1).trans rfl, (zKc K05.out 0).trans rfl, (zKc K05.out 1).trans rfl, (zKc K06.out 0).trans rfl, (zKc K06.out 1).trans rfl⟩ (fun hHeld => ?_)
        clear hK K
        refine norm_ (a' := ?_) ?_ ?_
        rotate_left
        ·show Act.put _ (some 65) _ = _
         simp only [Act.put, zSa, zSb, zSc, i64_w, i32_w]
         rfl
        refine one_ (i := 30) (N := some 66) #[true, true, true, true, true, true, true, true, true, true, true, true, true, true, true, true, true, true, true, true, true, true, true, true, true, true, true, true, true, true, true, false, false, false, false, false, false, false, false, false, false, false, false, false, false, false] rfl rfl (one_of HT_.out (by kernel_rfl)) (by decide) (fun K hK => ?_)
        refine goes_ Tryd.func16 (by kernel_rfl) rfl #[.agg #[.bool t554, .slice Ao129 t555.length co129], .agg #[.bool t558, .slice Ao130 t559.length co130]] (by rfl) rfl rfl (by (try simp only [zMa, zMc, zMn]); first | done | rfl | (simp only [zLd, zLt]; rfl)) ?_
        with_reducible refine (filigreeref02_Same.calls k t554 _ _ t555 t558 _ _ t559 true _ ?side1 ?side2 ?side3 ?side4 A68.out).mono ?_
        (case side1 => exact uC (zRr O57.out).2.2)
        (case side2 => exact (zRr O57.out).2.1)
        (case side3 => exact uC (zRr O61.out).2.2)
        (case side4 => exact (zRr O61.out).2.1)
        rintro e w131 ⟨rfl, hb⟩
        refine ⟨_, rfl, ?_⟩
        replace HO0_1 := zMk (zVb (by exact uV HO0_1.out) hb)
        replace HO1_1 := zMk (zVb (by exact uV HO1_1.out) hb)
        replace HO2_1 := zMk (zVb (by exact uV HO2_1.out) hb)
        replace O10 := zMk (Kd.N_below (by exact uN O10.out) hb)
        replace O16 := zMk (zRb (by exact uR O16.out) hb)
        replace O20 := zMk (zRb (by exact uR O20.out) hb)
        replace O25 := zMk (zRb (by exact uR O25.out) hb)
        replace O29 := zMk (zRb (by exact uR O29.out) hb)
        replace O34 := zMk (zRb (by exact uR O34.out) hb)
        replace O38 := zMk (zRb (by exact uR O38.out) hb)
        replace O42 := zMk (zRb (by exact uR O42.out) hb)
        replace O48 := zMk (zRb (by exact uR O48.out) hb)
        replace O52 := zMk (zRb (by exact uR O52.out) hb)
        replace O57 := zMk (zRb (by exact uR O57.out) hb)
        replace O61 := zMk (zRb (by exact uR O61.out) hb)
        replace K05 := zMk (zKb K05.out hb)
        replace K06 := zMk (zKb K06.out hb)
        replace K07 := zMk (zKb K07.out hb)
        replace K21 := zMk (zKb K21.out hb)
        replace K30 := zMk (zKb K30.out hb)
        replace K43 := zMk (zKb K43.out hb)
        replace HB := zMk (zBt (by exact uT HB.out) hb)
        refine hK.out _ _ ⟨(zKc K21.out 0).trans rfl, (zKc K21.out 1).trans rfl, (zKc K30.out 0).trans rfl, (zKc K30.out 1).trans rfl, (zKc K43.out 0).trans rfl, (zKc K43.out 1).trans rfl, (zKc K05.out 0).trans rfl, (zKc K05.out 1).trans rfl, (zKc K06.out 0).trans rfl, (zKc K06.out 1).trans rfl⟩ (fun hHeld => ?_)
        clear hK K
        refine norm_ (a' := ?_) ?_ ?_
        rotate_left
        ·show Act.put _ (some 66) _ = _
         simp only [Act.put, zSa, zSb, zSc, i64_w, i32_w]
         rfl
        refine pure_ (i := 31) (N := some 67) (v := ?_) (a' := ?_) #[true, true, true, true, true, true, true, true, true, true, true, true, true, true, true, true, true, true, true, true, true, true, true, true, true, true, true, true, true, true, true, true, false, false, false, false, false, false, false, false, false, false, false, false, false, false] rfl rfl (any_of HT_.out (by kernel_rfl)) (fun _ _ _ h => h) (Or.inl ⟨by rfl, ?_⟩) ?_ ?_
        rotate_left
        ·intro w'
         go_simp
         with_reducible rfl
        rotate_left
        ·simp only [Act.put, zSa, zSb, zSc, i64_w, i32_w]
         rfl
        refine pure_ (i := 32) (N := some 68) (v := ?_) (a' := ?_) #[true, true, true, true, true, true, true, true, true, true, true, true, true, true, true, true, true, true, true, true, true, true, true, true, true, true, true, true, true, true, true, true, true, false, false, false, false, false, false, false, false, false, false, false, false, false] rfl rfl (any_of HT_.out (by kernel_rfl)) (fun _ _ _ h => h) (Or.inl ⟨by rfl, ?_⟩) ?_ ?_
        rotate_left
        ·intro w'
         go_simp
         with_reducible rfl
        rotate_left
        ·simp only [Act.put, zSa, zSb, zSc, i64_w, i32_w]
         rfl
        refine take_ (i := 33) (N := some 69) (v := ?_) (a' := ?_) #[true, true, true, true, true, true, true, true, true, true, true, true, true, true, true, true, true, true, true, true, true, true, true, true, true, true, true, true, true, true, true, true, true, true, false, false, false, false, false, false, false, false, false, false, false, false] rfl rfl (take_ofW HT_.out HW_.out (by kernel_rfl)) (fun _ _ _ h => h) (Or.inl ⟨by rfl, ?_⟩) hHeld ?_ ?_
        rotate_left
        ·rintro w' ⟨s0, s1, s2, s3, s4, s5, s6, s7, s8, s9⟩
         go_simp
         with_reducible rfl
        rotate_left
        ·simp only [Act.put, zSa, zSb, zSc, i64_w, i32_w]
         rfl
        refine take_ (i := 34) (N := some 70) (v := ?_) (a' := ?_) #[true, true, true, true, true, true, true, true, true, true, true, true, true, true, true, true, true, true, true, true, true, true, true, true, true, true, true, true, true, true, true, true, true, true, true, false, false, false, false, false, false, false, false, false, false, false] rfl rfl (take_ofW HT_.out HW_.out (by kernel_rfl)) (fun _ _ _ h => h) (Or.inl ⟨by rfl, ?_⟩) hHeld ?_ ?_
        rotate_left
        ·rintro w' ⟨s0, s1, s2, s3, s4, s5, s6, s7, s8, s9⟩
         go_simp
         with_reducible rfl
        rotate_left
        ·simp only [Act.put, zSa, zSb, zSc, i64_w, i32_w]
         rfl
        refine take_ (i := 36) (N := some 72) (v := ?_) (a' := ?_) #[true, true, true, true, true, true, true, true, true, true, true, true, true, true, true, true, true, true, true, true, true, true, true, true, true, true, true, true, true, true, true, true, true, true, true, false, true, false, false, false, false, false, false, false, false, false] rfl rfl (take_ofW HT_.out HW_.out (by kernel_rfl)) (fun _ _ _ h => h) (Or.inl ⟨by rfl, ?_⟩) hHeld ?_ ?_
        rotate_left
        ·rintro w' ⟨s0, s1, s2, s3, s4, s5, s6, s7, s8, s9⟩
         go_simp
         with_reducible rfl
        rotate_left
        ·simp only [Act.put, zSa, zSb, zSc, i64_w, i32_w]
         rfl
        refine take_ (i := 38) (N := some 74) (v := ?_) (a' := ?_) #[true, true, true, true, true, true, true, true, true, true, true, true, true, true, true, true, true, true, true, true, true, true, true, true, true, true, true, true, true, true, true, true, true, true, true, false, true, false, true, false, false, false, false, false, false, false] rfl rfl (take_ofW HT_.out HW_.out (by kernel_rfl)) (fun _ _ _ h => h) (Or.inl ⟨by rfl, ?_⟩) hHeld ?_ ?_
        rotate_left
        ·rintro w' ⟨s0, s1, s2, s3, s4, s5, s6, s7, s8, s9⟩
         go_simp
         with_reducible rfl
        rotate_left
        ·simp only [Act.put, zSa, zSb, zSc, i64_w, i32_w]
         rfl
        refine one_ (i := 35) (N := some 71) #[true, true, true, true, true, true, true, true, true, true, true, true, true, true, true, true, true, true, true, true, true, true, true, true, true, true, true, true, true, true, true, true, true, true, true, true, true, false, true, false, false, false, false, false, false, false] rfl rfl (one_of HT_.out (by kernel_rfl)) (by decide) (fun K hK => ?_)
        refine goes_ Tryd.func17 (by kernel_rfl) rfl #[.agg #[.bool a0_0, .slice A0_1 l0_1.length c0_1], .agg #[.bool a1_0, .slice A1_1 l1_1.length c1_1]] (by rfl) rfl rfl (by (try simp only [zMa, zMc, zMn]); first | done | rfl | (simp only [zLd, zLt]; rfl)) ?_
        with_reducible refine (integer_Add.calls k a0_0 _ _ l0_1 a1_0 _ _ l1_1 t563 t564 _ ?side1 ?side2 ?side3 ?side4 A70.out).mono ?_
        (case side1 => exact uC (zVr HO0_1.out).2.2)
        (case side2 => exact (zVr HO0_1.out).2.1)
        (case side3 => exact uC (zVr HO1_1.out).2.2)
        (case side4 => exact (zVr HO1_1.out).2.1)
        rintro e w132 ⟨v565, rfl, ho0, hb⟩
        refine ⟨_, rfl, ?_⟩
        replace HO0_1 := zMk (zVe (by exact uV HO0_1.out) (zRz ho0) hb)
        replace HO1_1 := zMk (zVe (by exact uV HO1_1.out) (zRz ho0) hb)
        replace HO2_1 := zMk (zVe (by exact uV HO2_1.out) (zRz ho0) hb)
        replace O10 := zMk (Kd.N_elder' (by exact uN O10.out) (zRz ho0) hb)
        have O66 := zMk (zRl (zRw (zRw (zRw (zRw (zRw (zRw (zRw (zRw (zRw (zRw (zRw (Kd.R_newM (M := fun k_ => (w.heap.size ≤ k_)) ho0 (zBs (by exact uT HB.out)) (fun k_ h_ => h_)) (zRt (by exact uR O16.out))) (zRt (by exact uR O20.out))) (zRt (by exact uR O25.out))) (zRt (by exact uR O29.out))) (zRt (by exact uR O34.out))) (zRt (by exact uR O38.out))) (zRt (by exact uR O42.out))) (zRt (by exact uR O48.out))) (zRt (by exact uR O52.out))) (zRt (by exact uR O57.out))) (zRt (by exact uR O61.out))) (zBs (by exact uT HB.out)))
        replace O16 := zMk (zRe (by exact uR O16.out) (zRz ho0) hb)
        replace O20 := zMk (zRe (by exact uR O20.out) (zRz ho0) hb)
        replace O25 := zMk (zRe (by exact uR O25.out) (zRz ho0) hb)
        replace O29 := zMk (zRe (by exact uR O29.out) (zRz ho0) hb)
        replace O34 := zMk (zRe (by exact uR O34.out) (zRz ho0) hb)
        replace O38 := zMk (zRe (by exact uR O38.out) (zRz ho0) hb)
        replace O42 := zMk (zRe (by exact uR O42.out) (zRz ho0) hb)
        replace O48 := zMk (zRe (by exact uR O48.out) (zRz ho0) hb)
        replace O52 := zMk (zRe (by exact uR O52.out) (zRz ho0) hb)
        replace O57 := zMk (zRe (by exact uR O57.out) (zRz ho0) hb)
        replace O61 := zMk (zRe (by exact uR O61.out) (zRz ho0) hb)
        replace K05 := zMk (zKb K05.out hb)
        replace K06 := zMk (zKb K06.out hb)
        replace K07 := zMk (zKb K07.out hb)
        replace K21 := zMk (zKb K21.out hb)
        replace K30 := zMk (zKb K30.out hb)
        replace K43 := zMk (zKb K43.out hb)
        replace HB := zMk (zBt (by exact uT HB.out) hb)
        obtain ⟨Ao133, co133, eo133⟩ := zRs O66.out
        (first |  subst eo133|  (injection eo133 with f1_ f2_ f3_; have f4_ := f1_.symm; have f5_ := f3_.symm; clear f1_ f2_ f3_; subst f4_; subst f5_))
        refine hK.out _ _ ⟨(zKc K21.out 0).trans rfl, (zKc K21.out 1).trans rfl, (zKc K30.out 0).trans rfl, (zKc K30.out 1).trans rfl, (zKc K43.out 0).trans rfl, (zKc K43.out 1).trans rfl, (zKc K05.out 0).trans rfl, (zKc K05.out 1).trans rfl, (zKc K06.out 0).trans rfl, (zKc K06.out 1).trans rfl⟩ (fun hHeld => ?_)
        clear hK K
        refine norm_ (a' := ?_) ?_ ?_
        rotate_left
        ·show Act.put _ (some 71) _ = _
         simp only [Act.put, zSa, zSb, zSc, i64_w, i32_w]
         rfl
        refine one_ (i := 37) (N := some 73) #[true, true, true, true, true, true, true, true, true, true, true, true, true, true, true, true, true, true, true, true, true, true, true, true, true, true, true, true, true, true, true, true, true, true, true, true, true, true, true, false, false, false, false, false, false, false] rfl rfl (one_of HT_.out (by kernel_rfl)) (by decide) (fun K hK => ?_)
        refine goes_ Tryd.func19 (by kernel_rfl) rfl #[.agg #[.bool t563, .slice Ao133 t564.length co133], .agg #[.bool a1_0, .slice A1_1 l1_1.length c1_1]] (by rfl) rfl rfl (by (try simp only [zMa, zMc, zMn]); first | done | rfl | (simp only [zLd, zLt]; rfl)) ?_
        with_reducible refine (integer_Sub.calls k t563 _ _ t564 a1_0 _ _ l1_1 t567 t568 _ ?side1 ?side2 ?side3 ?side4 A71.out).mono ?_
        (case side1 => exact uC (zRr O66.out).2.2)
        (case side2 => exact (zRr O66.out).2.1)
        (case side3 => exact uC (zVr HO1_1.out).2.2)
        (case side4 => exact (zVr HO1_1.out).2.1)
        rintro e w134 ⟨v569, rfl, ho0, hb⟩
        refine ⟨_, rfl, ?_⟩
        replace HO0_1 := zMk (zVe (by exact uV HO0_1.out) (zRz ho0) hb)
        replace HO1_1 := zMk (zVe (by exact uV HO1_1.out) (zRz ho0) hb)
        replace HO2_1 := zMk (zVe (by exact uV HO2_1.out) (zRz ho0) hb)
        replace O10 := zMk (Kd.N_elder' (by exact uN O10.out) (zRz ho0) hb)
        have O70 := zMk (zRl (zRw (zRw (zRw (zRw (zRw (zRw (zRw (zRw (zRw (zRw (zRw (zRw (Kd.R_newM (M := fun k_ => (w.heap.size ≤ k_)) ho0 (zBs (by exact uT HB.out)) (fun k_ h_ => h_)) (zRt (by exact uR O16.out))) (zRt (by exact uR O20.out))) (zRt (by exact uR O25.out))) (zRt (by exact uR O29.out))) (zRt (by exact uR O34.out))) (zRt (by exact uR O38.out))) (zRt (by exact uR O42.out))) (zRt (by exact uR O48.out))) (zRt (by exact uR O52.out))) (zRt (by exact uR O57.out))) (zRt (by exact uR O61.out))) (zRt (by exact uR O66.out))) (zBs (by exact uT HB.out)))
        replace O16 := zMk (zRe (by exact uR O16.out) (zRz ho0) hb)
        replace O20 := zMk (zRe (by exact uR O20.out) (zRz ho0) hb)
        replace O25 := zMk (zRe (by exact uR O25.out) (zRz ho0) hb)
        replace O29 := zMk (zRe (by exact uR O29.out) (zRz ho0) hb)
        replace O34 := zMk (zRe (by exact uR O34.out) (zRz ho0) hb)
        replace O38 := zMk (zRe (by exact uR O38.out) (zRz ho0) hb)
        replace O42 := zMk (zRe (by exact uR O42.out) (zRz ho0) hb)
        replace O48 := zMk (zRe (by exact uR O48.out) (zRz ho0) hb)
        replace O52 := zMk (zRe (by exact uR O52.out) (zRz ho0) hb)
        replace O57 := zMk (zRe (by exact uR O57.out) (zRz ho0) hb)
        replace O61 := zMk (zRe (by exact uR O61.out) (zRz ho0) hb)
        replace O66 := zMk (zRe (by exact uR O66.out) (zRz ho0) hb)
        replace K05 := zMk (zKb K05.out hb)
        replace K06 := zMk (zKb K06.out hb)
        replace K07 := zMk (zKb K07.out hb)
        replace K21 := zMk (zKb K21.out hb)
        replace K30 := zMk (zKb K30.out hb)
        replace K43 := zMk (zKb K43.out hb)
        replace HB := zMk (zBt (by exact uT HB.out) hb)
        refine hK.out _ _ ⟨(zKc K21.out 0).trans rfl, (zKc K21.out 1).trans rfl, (zKc K30.out 0).trans rfl, (zKc K30.out 1).trans rfl, (zKc K43.out 0).trans rfl, (zKc K43.out 1).trans rfl, (zKc K05.out 0).trans rfl, (zKc K05.out 1).trans rfl, (zKc K06.out 0).trans rfl, (zKc K06.out 1).trans rfl⟩ (fun hHeld => ?_)
        clear hK K
        refine norm_ (a' := ?_) ?_ ?_
        rotate_left
        ·show Act.put _ (some 73) _ = _
         simp only [Act.put, zSa, zSb, zSc, i64_w, i32_w]
         rfl
        refine one_ (i := 39) (N := some 75) #[true, true, true, true, true, true, true, true, true, true, true, true, true, true, true, true, true, true, true, true, true, true, true, true, true, true, true, true, true, true, true, true, true, true, true, true, true, true, true, true, false, false, false, false, false, false] rfl rfl (one_of HT_.out (by kernel_rfl)) (by decide) (fun K hK => ?_)
        refine goes_ Tryd.func24 (by kernel_rfl) rfl #[.agg #[.bool a0_0, .slice A0_1 l0_1.length c0_1]] (by rfl) rfl rfl (by (try simp only [zMa, zMc, zMn]); first | done | rfl | (simp only [zLd, zLt]; rfl)) ?_
        with_reducible refine (filigreeref02_Norm.calls k a0_0 _ _ l0_1 t571 t572 _ ?side1 ?side2 A72.out).mono ?_
        (case side1 => exact uC (zVr HO0_1.out).2.2)
        (case side2 => exact (zVr HO0_1.out).2.1)
        rintro e w135 ⟨v573, rfl, ho0, hb⟩
        refine ⟨_, rfl, ?_⟩
        replace HO0_1 := zMk (zVe (by exact uV HO0_1.out) (zRz ho0) hb)
        replace HO1_1 := zMk (zVe (by exact uV HO1_1.out) (zRz ho0) hb)
        replace HO2_1 := zMk (zVe (by exact uV HO2_1.out) (zRz ho0) hb)
        replace O10 := zMk (Kd.N_elder' (by exact uN O10.out) (zRz ho0) hb)
        have O74 := zMk (zRl (zRw (zRw (zRw (zRw (zRw (zRw (zRw (zRw (zRw (zRw (zRw (zRw (zRw (Kd.R_newM (M := fun k_ => (w.heap.size ≤ k_)) ho0 (zBs (by exact uT HB.out)) (fun k_ h_ => h_)) (zRt (by exact uR O16.out))) (zRt (by exact uR O20.out))) (zRt (by exact uR O25.out))) (zRt (by exact uR O29.out))) (zRt (by exact uR O34.out))) (zRt (by exact uR O38.out))) (zRt (by exact uR O42.out))) (zRt (by exact uR O48.out))) (zRt (by exact uR O52.out))) (zRt (by exact uR O57.out))) (zRt (by exact uR O61.out))) (zRt (by exact uR O66.out))) (zRt (by exact uR O70.out))) (zBs (by exact uT HB.out)))
        replace O16 := zMk (zRe (by exact uR O16.out) (zRz ho0) hb)
        replace O20 := zMk (zRe (by exact uR O20.out) (zRz ho0) hb)
        replace O25 := zMk (zRe (by exact uR O25.out) (zRz ho0) hb)
        replace O29 := zMk (zRe (by exact uR O29.out) (zRz ho0) hb)
        replace O34 := zMk (zRe (by exact uR O34.out) (zRz ho0) hb)
        replace O38 := zMk (zRe (by exact uR O38.out) (zRz ho0) hb)
        replace O42 := zMk (zRe (by exact uR O42.out) (zRz ho0) hb)
        replace O48 := zMk (zRe (by exact uR O48.out) (zRz ho0) hb)
        replace O52 := zMk (zRe (by exact uR O52.out) (zRz ho0) hb)
        replace O57 := zMk (zRe (by exact uR O57.out) (zRz ho0) hb)
        replace O61 := zMk (zRe (by exact uR O61.out) (zRz ho0) hb)
        replace O66 := zMk (zRe (by exact uR O66.out) (zRz ho0) hb)
        replace O70 := zMk (zRe (by exact uR O70.out) (zRz ho0) hb)
        replace K05 := zMk (zKb K05.out hb)
        replace K06 := zMk (zKb K06.out hb)
        replace K07 := zMk (zKb K07.out hb)
        replace K21 := zMk (zKb K21.out hb)
        replace K30 := zMk (zKb K30.out hb)
        replace K43 := zMk (zKb K43.out hb)
        replace HB := zMk (zBt (by exact uT HB.out) hb)
        obtain ⟨Ao136, co136, eo136⟩ := zRs O70.out
        (first |  subst eo136|  (injection eo136 with f1_ f2_ f3_; have f4_ := f1_.symm; have f5_ := f3_.symm; clear f1_ f2_ f3_; subst f4_; subst f5_))
        obtain ⟨Ao137, co137, eo137⟩ := zRs O74.out
        (first |  subst eo137|  (injection eo137 with f1_ f2_ f3_; have f4_ := f1_.symm; have f5_ := f3_.symm; clear f1_ f2_ f3_; subst f4_; subst f5_))
        refine hK.out _ _ ⟨(zKc K21.out 0).trans rfl, (zKc K21.out 1).trans rfl, (zKc K30.out 0).trans rfl, (zKc K30.out 1).trans rfl, (zKc K43.out 0).trans rfl, (zKc K43.out 1).trans rfl, (zKc K05.out 0).trans rfl, (zKc K05.out 1).trans rfl, (zKc K06.out 0).trans rfl, (zKc K06.out 1).trans rfl⟩ (fun hHeld => ?_)
        clear hK K
        refine norm_ (a' := ?_) ?_ ?_
        rotate_left
        ·show Act.put _ (some 75) _ = _
         simp only [Act.put, zSa, zSb, zSc, i64_w, i32_w]
         rfl
        refine one_ (i := 40) (N := some 76) #[true, true, true, true, true, true, true, true, true, true, true, true, true, true, true, true, true, true, true, true, true, true, true, true, true, true, true, true, true, true, true, true, true, true, true, true, true, true, true, true, true, false, false, false, false, false] rfl rfl (one_of HT_.out (by kernel_rfl)) (by decide) (fun K hK => ?_)
        refine goes_ Tryd.func16 (by kernel_rfl) rfl #[.agg #[.bool t567, .slice Ao136 t568.length co136], .agg #[.bool t571, .slice Ao137 t572.length co137]] (by rfl) rfl rfl (by (try simp only [zMa, zMc, zMn]); first | done | rfl | (simp only [zLd, zLt]; rfl)) ?_
        with_reducible refine (filigreeref02_Same.calls k t567 _ _ t568 t571 _ _ t572 true _ ?side1 ?side2 ?side3 ?side4 A73.out).mono ?_
        (case side1 => exact uC (zRr O70.out).2.2)
        (case side2 => exact (zRr O70.out).2.1)
        (case side3 => exact uC (zRr O74.out).2.2)
        (case side4 => exact (zRr O74.out).2.1)
        rintro e w138 ⟨rfl, hb⟩
        refine ⟨_, rfl, ?_⟩
        replace HO0_1 := zMk (zVb (by exact uV HO0_1.out) hb)
        replace HO1_1 := zMk (zVb (by exact uV HO1_1.out) hb)
        replace HO2_1 := zMk (zVb (by exact uV HO2_1.out) hb)
        replace O10 := zMk (Kd.N_below (by exact uN O10.out) hb)
        replace O16 := zMk (zRb (by exact uR O16.out) hb)
        replace O20 := zMk (zRb (by exact uR O20.out) hb)
        replace O25 := zMk (zRb (by exact uR O25.out) hb)
        replace O29 := zMk (zRb (by exact uR O29.out) hb)
        replace O34 := zMk (zRb (by exact uR O34.out) hb)
        replace O38 := zMk (zRb (by exact uR O38.out) hb)
        replace O42 := zMk (zRb (by exact uR O42.out) hb)
        replace O48 := zMk (zRb (by exact uR O48.out) hb)
        replace O52 := zMk (zRb (by exact uR O52.out) hb)
        replace O57 := zMk (zRb (by exact uR O57.out) hb)
        replace O61 := zMk (zRb (by exact uR O61.out) hb)
        replace O66 := zMk (zRb (by exact uR O66.out) hb)
        replace O70 := zMk (zRb (by exact uR O70.out) hb)
        replace O74 := zMk (zRb (by exact uR O74.out) hb)
        replace K05 := zMk (zKb K05.out hb)
        replace K06 := zMk (zKb K06.out hb)
        replace K07 := zMk (zKb K07.out hb)
        replace K21 := zMk (zKb K21.out hb)
        replace K30 := zMk (zKb K30.out hb)
        replace K43 := zMk (zKb K43.out hb)
        replace HB := zMk (zBt (by exact uT HB.out) hb)
        refine hK.out _ _ ⟨(zKc K21.out 0).trans rfl, (zKc K21.out 1).trans rfl, (zKc K30.out 0).trans rfl, (zKc K30.out 1).trans rfl, (zKc K43.out 0).trans rfl, (zKc K43.out 1).trans rfl, (zKc K05.out 0).trans rfl, (zKc K05.out 1).trans rfl, (zKc K06.out 0).trans rfl, (zKc K06.out 1).trans rfl⟩ (fun hHeld => ?_)
        clear hK K
        refine norm_ (a' := ?_) ?_ ?_
        rotate_left
        ·show Act.put _ (some 76) _ = _
         simp only [Act.put, zSa, zSb, zSc, i64_w, i32_w]
         rfl
        refine pure_ (i := 41) (N := some 77) (v := ?_) (a' := ?_) #[true, true, true, true, true, true, true, true, true, true, true, true, true, true, true, true, true, true, true, true, true, true, true, true, true, true, true, true, true, true, true, true, true, true, true, true, true, true, true, true, true, true, false, false, false, false] rfl rfl (any_of HT_.out (by kernel_rfl)) (fun _ _ _ h => h) (Or.inl ⟨by rfl, ?_⟩) ?_ ?_
        rotate_left
        ·intro w'
         go_simp
         with_reducible rfl
        rotate_left
        ·simp only [Act.put, zSa, zSb, zSc, i64_w, i32_w]
         rfl
        refine pure_ (i := 42) (N := some 78) (v := ?_) (a' := ?_) #[true, true, true, true, true, true, true, true, true, true, true, true, true, true, true, true, true, true, true, true, true, true, true, true, true, true, true, true, true, true, true, true, true, true, true, true, true, true, true, true, true, true, true, false, false, false] rfl rfl (any_of HT_.out (by kernel_rfl)) (fun _ _ _ h => h) (Or.inl ⟨by rfl, ?_⟩) ?_ ?_
        rotate_left
        ·intro w'
         go_simp
         with_reducible rfl
        rotate_left
        ·simp only [Act.put, zSa, zSb, zSc, i64_w, i32_w]
         rfl
        refine one_ (i := 43) (N := some 79) #[true, true, true, true, true, true, true, true, true, true, true, true, true, true, true, true, true, true, true, true, true, true, true, true, true, true, true, true, true, true, true, true, true, true, true, true, true, true, true, true, true, true, true, true, false, false] rfl rfl (one_of HT_.out (by kernel_rfl)) (by decide) (fun K hK => ?_)
        refine goes_ Tryd.func11 (by kernel_rfl) rfl #[] (by rfl) rfl rfl (by (try simp only [zMa, zMc, zMn]); first | done | rfl | (simp only [zLd, zLt]; rfl)) ?_
        with_reducible refine (filigreelaw02_alive.calls k  t576 _ A75.out HRT.out).mono ?_
        rintro e w139 ⟨rfl, hb⟩
        refine ⟨_, rfl, ?_⟩
        replace HO0_1 := zMk (zVb (by exact uV HO0_1.out) hb)
        replace HO1_1 := zMk (zVb (by exact uV HO1_1.out) hb)
        replace HO2_1 := zMk (zVb (by exact uV HO2_1.out) hb)
        replace O10 := zMk (Kd.N_below (by exact uN O10.out) hb)
        replace O16 := zMk (zRb (by exact uR O16.out) hb)
        replace O20 := zMk (zRb (by exact uR O20.out) hb)
        replace O25 := zMk (zRb (by exact uR O25.out) hb)
        replace O29 := zMk (zRb (by exact uR O29.out) hb)
        replace O34 := zMk (zRb (by exact uR O34.out) hb)
        replace O38 := zMk (zRb (by exact uR O38.out) hb)
        replace O42 := zMk (zRb (by exact uR O42.out) hb)
        replace O48 := zMk (zRb (by exact uR O48.out) hb)
        replace O52 := zMk (zRb (by exact uR O52.out) hb)
        replace O57 := zMk (zRb (by exact uR O57.out) hb)
        replace O61 := zMk (zRb (by exact uR O61.out) hb)
        replace O66 := zMk (zRb (by exact uR O66.out) hb)
        replace O70 := zMk (zRb (by exact uR O70.out) hb)
        replace O74 := zMk (zRb (by exact uR O74.out) hb)
        replace K05 := zMk (zKb K05.out hb)
        replace K06 := zMk (zKb K06.out hb)
        replace K07 := zMk (zKb K07.out hb)
        replace K21 := zMk (zKb K21.out hb)
        replace K30 := zMk (zKb K30.out hb)
        replace K43 := zMk (zKb K43.out hb)
        replace HB := zMk (zBt (by exact uT HB.out) hb)
        refine hK.out _ _ ⟨(zKc K21.out 0).trans rfl, (zKc K21.out 1).trans rfl, (zKc K30.out 0).trans rfl, (zKc K30.out 1).trans rfl, (zKc K43.out 0).trans rfl, (zKc K43.out 1).trans rfl, (zKc K05.out 0).trans rfl, (zKc K05.out 1).trans rfl, (zKc K06.out 0).trans rfl, (zKc K06.out 1).trans rfl⟩ (fun hHeld => ?_)
        clear hK K
        refine norm_ (a' := ?_) ?_ ?_
        rotate_left
        ·show Act.put _ (some 79) _ = _
         simp only [Act.put, zSa, zSb, zSc, i64_w, i32_w]
         rfl
        refine pure_ (i := 44) (N := some 80) (v := ?_) (a' := ?_) #[true, true, true, true, true, true, true, true, true, true, true, true, true, true, true, true, true, true, true, true, true, true, true, true, true, true, true, true, true, true, true, true, true, true, true, true, true, true, true, true, true, true, true, true, true, false] rfl rfl (any_of HT_.out (by kernel_rfl)) (fun _ _ _ h => h) (Or.inl ⟨by rfl, ?_⟩) ?_ ?_
        rotate_left
        ·intro w'
         go_simp
         with_reducible rfl
        rotate_left
        ·simp only [Act.put, zSa, zSb, zSc, i64_w, i32_w]
         rfl
        refine pure_ (i := 45) (N := some 6) (v := ?_) (a' := ?_) #[true, true, true, true, true, true, true, true, true, true, true, true, true, true, true, true, true, true, true, true, true, true, true, true, true, true, true, true, true, true, true, true, true, true, true, true, true, true, true, true, true, true, true, true, true, true] rfl rfl (any_of HT_.out (by kernel_rfl)) (fun _ _ _ h => h) (Or.inl ⟨by rfl, ?_⟩) ?_ ?_
        rotate_left
        ·intro w'
         go_simp
         with_reducible rfl
        rotate_left
        ·simp only [Act.put, zSa, zSb, zSc, i64_w, i32_w]
         rfl
        refine done_ (done_of HT_.out (by kernel_rfl)) ?_
        try go_wp2
        go_ret
        exact ⟨by first | rfl | (simp [errW_none, errW_some] <;> rfl) | (simp [*, errW_none, errW_some] <;> rfl), by exact uT HB.out⟩
       ·replace c74 := Bool.eq_false_iff.mpr c74
        subst c74
        replace H : (some false) = some r := by rw [if_neg (show ¬ (false = true) by decide)] at H; exact H
        exact absurd ((zOi H).trans HRT.out) (by decide)
      ·replace c69 := Bool.eq_false_iff.mpr c69
       subst c69
       replace H : (some false) = some r := by rw [if_neg (show ¬ (false = true) by decide)] at H; exact H
       exact absurd ((zOi H).trans HRT.out) (by decide)
     ·replace c65 := Bool.eq_false_iff.mpr c65
      subst c65
      replace H : (some false) = some r := by rw [if_neg (show ¬ (false = true) by decide)] at H; exact H
      exact absurd ((zOi H).trans HRT.out) (by decide)
    ·replace c61 := Bool.eq_false_iff.mpr c61
     subst c61
     replace H : (some false) = some r := by rw [if_neg (show ¬ (false = true) by decide)] at H; exact H
     exact absurd ((zOi H).trans HRT.out) (by decide)
  ·rw [if_neg c13] at H
   have c13b0 : ((t518.length : Int) == 0) = false := beq_eq_false_iff_ne.mpr c13
   have c13b1 : ((t518.length : Int) != 0) = true := bne_iff_ne.mpr c13
   have c13b2 : ¬ (t518 = []) := fun h_ => c13 (by rw [h_]; rfl)
   exact absurd ((zOi H).trans HRT.out) (by decide)
 ·replace c5 := Bool.eq_false_iff.mpr c5
  subst c5
  replace H : ((filigreelaw02_alive.f k).bind fun t512 => (some t512)) = some r := by rw [if_neg (show ¬ (false = true) by decide)] at H; exact H
  replace H := bnd H
  obtain ⟨t512, A4010, H⟩ := H
  have A401 := zMk A4010
  clear A4010
  obtain rfl := zOi H
  go_enter Tryd.func5, Tryd.ntmps5
  go_wp2_with (first | ((with_reducible refine gate_dst (N := 3) rfl ?_); refine box_event ?hg (N := 3) ?hd (cs := #[.bool a0_0, .slice A0_1 l0_1.length c0_1]) (t := 24) ?hr ?_; (case hd => rfl); (case hg => rfl); (case hr => first | (go_simp; done)|(go_simp; rfl)|(go_simp; rw [show ∀ x : Int, IntKind.u32.wrap (IntKind.u8.wrap x) = x % 256 from fun x => (by show (x % 256) % 4294967296 = x % 256; omega)])); intro g05 hg w402 hbox hb; replace HO0_1 := zMk (zVb (Kd.V_elderB (by exact uV HO0_1.out) g05 (Nat.le_of_eq hg.symm)) hb); replace HO1_1 := zMk (zVb (Kd.V_elderB (by exact uV HO1_1.out) g05 (Nat.le_of_eq hg.symm)) hb); replace HO2_1 := zMk (zVb (Kd.V_elderB (by exact uV HO2_1.out) g05 (Nat.le_of_eq hg.symm)) hb); have K05 := zMk (hbox); have W05 := zMk ((by rw [hg]; exact (zBs (by exact uT HB.out)) : w.heap.size ≤ g05)); have E05 := zMk ((by rw [hg]; exact (zBs (by exact uT HB.out)) : w.heap.size ≤ g05)); have IGE505 := ownGe E05.out; replace HB := zMk (zBt (by exact uT HB.out) hb); clear hb hbox hg)|((with_reducible refine gate_dst (N := 4) rfl ?_); refine box_event ?hg (N := 4) ?hd (cs := #[.bool a1_0, .slice A1_1 l1_1.length c1_1]) (t := 24) ?hr ?_; (case hd => rfl); (case hg => rfl); (case hr => first | (go_simp; done)|(go_simp; rfl)|(go_simp; rw [show ∀ x : Int, IntKind.u32.wrap (IntKind.u8.wrap x) = x % 256 from fun x => (by show (x % 256) % 4294967296 = x % 256; omega)])); intro g06 hg w403 hbox hb; replace HO0_1 := zMk (zVb (Kd.V_elderB (by exact uV HO0_1.out) g06 (Nat.le_of_eq hg.symm)) hb); replace HO1_1 := zMk (zVb (Kd.V_elderB (by exact uV HO1_1.out) g06 (Nat.le_of_eq hg.symm)) hb); replace HO2_1 := zMk (zVb (Kd.V_elderB (by exact uV HO2_1.out) g06 (Nat.le_of_eq hg.symm)) hb); have K06 := zMk (hbox); have W06 := zMk ((by rw [hg]; exact (zBs (by exact uT HB.out)) : w.heap.size ≤ g06)); have E06 := zMk ((by rw [hg]; exact (zBs (by exact uT HB.out)) : w.heap.size ≤ g06)); have IGE506 := ownGe E06.out; replace HB := zMk (zBt (by exact uT HB.out) hb); have N05_06 := zMk ((by rw [hg]; exact Nat.ne_of_lt (blk_lt (g := g05) (o := .cells #[.bool a0_0, .slice A0_1 l0_1.length c0_1] 24 (0, 0)) (by (with_reducible repeat (first |  refine zKn ?_ _|  refine zKd ?_|  refine zKa ?_ _)); exact K05.out)) : g05 ≠ g06)); have N06_05 := zMk ((by rw [hg]; exact Nat.ne_of_gt (blk_lt (g := g05) (o := .cells #[.bool a0_0, .slice A0_1 l0_1.length c0_1] 24 (0, 0)) (by (with_reducible repeat (first |  refine zKn ?_ _|  refine zKd ?_|  refine zKa ?_ _)); exact K05.out)) : g06 ≠ g05)); replace K05 := zMk (zKb (g := g05) (o := .cells #[.bool a0_0, .slice A0_1 l0_1.length c0_1] 24 (0, 0)) (by (with_reducible repeat (first |  refine zKn ?_ _|  refine zKd ?_|  refine zKa ?_ _)); exact K05.out) hb); clear hb hbox hg)|((with_reducible refine gate_dst (N := 5) rfl ?_); refine box_event ?hg (N := 5) ?hd (cs := #[.bool a2_0, .slice A2_1 l2_1.length c2_1]) (t := 24) ?hr ?_; (case hd => rfl); (case hg => rfl); (case hr => first | (go_simp; done)|(go_simp; rfl)|(go_simp; rw [show ∀ x : Int, IntKind.u32.wrap (IntKind.u8.wrap x) = x % 256 from fun x => (by show (x % 256) % 4294967296 = x % 256; omega)])); intro g07 hg w404 hbox hb; replace HO0_1 := zMk (zVb (Kd.V_elderB (by exact uV HO0_1.out) g07 (Nat.le_of_eq hg.symm)) hb); replace HO1_1 := zMk (zVb (Kd.V_elderB (by exact uV HO1_1.out) g07 (Nat.le_of_eq hg.symm)) hb); replace HO2_1 := zMk (zVb (Kd.V_elderB (by exact uV HO2_1.out) g07 (Nat.le_of_eq hg.symm)) hb); have K07 := zMk (hbox); have W07 := zMk ((by rw [hg]; exact (zBs (by exact uT HB.out)) : w.heap.size ≤ g07)); have E07 := zMk ((by rw [hg]; exact (zBs (by exact uT HB.out)) : w.heap.size ≤ g07)); have IGE507 := ownGe E07.out; replace HB := zMk (zBt (by exact uT HB.out) hb); have N05_07 := zMk ((by rw [hg]; exact Nat.ne_of_lt (blk_lt (g := g05) (o := .cells #[.bool a0_0, .slice A0_1 l0_1.length c0_1] 24 (0, 0)) (by (with_reducible repeat (first |  refine zKn ?_ _|  refine zKd ?_|  refine zKa ?_ _)); exact K05.out)) : g05 ≠ g07)); have N07_05 := zMk ((by rw [hg]; exact Nat.ne_of_gt (blk_lt (g := g05) (o := .cells #[.bool a0_0, .slice A0_1 l0_1.length c0_1] 24 (0, 0)) (by (with_reducible repeat (first |  refine zKn ?_ _|  refine zKd ?_|  refine zKa ?_ _)); exact K05.out)) : g07 ≠ g05)); replace K05 := zMk (zKb (g := g05) (o := .cells #[.bool a0_0, .slice A0_1 l0_1.length c0_1] 24 (0, 0)) (by (with_reducible repeat (first |  refine zKn ?_ _|  refine zKd ?_|  refine zKa ?_ _)); exact K05.out) hb); have N06_07 := zMk ((by rw [hg]; exact Nat.ne_of_lt (blk_lt (g := g06) (o := .cells #[.bool a1_0, .slice A1_1 l1_1.length c1_1] 24 (0, 0)) (by (with_reducible repeat (first |  refine zKn ?_ _|  refine zKd ?_|  refine zKa ?_ _)); exact K06.out)) : g06 ≠ g07)); have N07_06 := zMk ((by rw [hg]; exact Nat.ne_of_gt (blk_lt (g := g06) (o := .cells #[.bool a1_0, .slice A1_1 l1_1.length c1_1] 24 (0, 0)) (by (with_reducible repeat (first |  refine zKn ?_ _|  refine zKd ?_|  refine zKa ?_ _)); exact K06.out)) : g07 ≠ g06)); replace K06 := zMk (zKb (g := g06) (o := .cells #[.bool a1_0, .slice A1_1 l1_1.length c1_1] 24 (0, 0)) (by (with_reducible repeat (first |  refine zKn ?_ _|  refine zKd ?_|  refine zKa ?_ _)); exact K06.out) hb); clear hb hbox hg; have hnb405 := N05_06.out; have hnc405 := N06_05.out; have hnb406 := N05_07.out; have hnc406 := N07_05.out; have hcz407_0 : w404.cell? ⟨g05, 0, none⟩ = some (.bool a0_0) := (zKc K05.out 0).trans rfl; have hcz407_1 : w404.cell? ⟨g05, 1, none⟩ = some (.slice A0_1 l0_1.length c0_1) := (zKc K05.out 1).trans rfl; have hfz407_0 := zKf K05.out 0; have hfz407_1 := zKf K05.out 1; have hnb408 := N06_07.out; have hnc408 := N07_06.out; have hcz409_0 : w404.cell? ⟨g06, 0, none⟩ = some (.bool a1_0) := (zKc K06.out 0).trans rfl; have hcz409_1 : w404.cell? ⟨g06, 1, none⟩ = some (.slice A1_1 l1_1.length c1_1) := (zKc K06.out 1).trans rfl; have hfz409_0 := zKf K06.out 0; have hfz409_1 := zKf K06.out 1; have hcz410_0 : w404.cell? ⟨g07, 0, none⟩ = some (.bool a2_0) := (zKc K07.out 0).trans rfl; have hcz410_1 : w404.cell? ⟨g07, 1, none⟩ = some (.slice A2_1 l2_1.length c2_1) := (zKc K07.out 1).trans rfl; have hfz410_0 := zKf K07.out 0; have hfz410_1 := zKf K07.out 1)|((with_reducible refine gate_dst (N := 16) rfl ?_); refine Kd.N_lit (Kd.slice 58 (Kd.int .u32)) _ 22 ?hg (N' := 16) ?hd (xs := ([l0_1, l1_1, l2_1] : List (List Int))) (inner := [.slice A0_1 l0_1.length c0_1, .slice A1_1 l1_1.length c1_1, .slice A2_1 l2_1.length c2_1]) (ok := (fun k_ => ((P0_1_ k_ ∨ P1_1_ k_ ∨ P2_1_ k_) ∨ w.heap.size ≤ k_) ∧ k_ ≠ g05 ∧ k_ ≠ g06 ∧ k_ ≠ g07)) (okp := (fun k_ => ((P0_1_ k_ ∨ P1_1_ k_ ∨ P2_1_ k_) ∨ w.heap.size ≤ k_) ∧ k_ ≠ g05 ∧ k_ ≠ g06 ∧ k_ ≠ g07)) ?hr ?hp (fun _ hk => hk) ((show ∀ k_, w404.heap.size ≤ k_ → (fun k_ => ((P0_1_ k_ ∨ P1_1_ k_ ∨ P2_1_ k_) ∨ w.heap.size ≤ k_) ∧ k_ ≠ g05 ∧ k_ ≠ g06 ∧ k_ ≠ g07) k_ from fun k_ hk => ⟨(.inr (Nat.le_trans (zBs (by exact uT HB.out)) hk)), Kd.freshB (g := g05) (o := .cells #[.bool a0_0, .slice A0_1 l0_1.length c0_1] 24 (0, 0)) (by (with_reducible repeat (first |  refine zKn ?_ _|  refine zKd ?_|  refine zKa ?_ _)); exact K05.out) k_ hk, Kd.freshB (g := g06) (o := .cells #[.bool a1_0, .slice A1_1 l1_1.length c1_1] 24 (0, 0)) (by (with_reducible repeat (first |  refine zKn ?_ _|  refine zKd ?_|  refine zKa ?_ _)); exact K06.out) k_ hk, Kd.freshB (g := g07) (o := .cells #[.bool a2_0, .slice A2_1 l2_1.length c2_1] 24 (0, 0)) (by (with_reducible repeat (first |  refine zKn ?_ _|  refine zKd ?_|  refine zKa ?_ _)); exact K07.out) k_ hk⟩) _ (Nat.le_refl _)) (Below.refl _ _) (Nat.le_refl _) (by simp) ?_; (case hd => rfl); (case hg => rfl); (case hr => first | (go_simp; done)|(go_simp; rfl)|(go_simp; rw [show ∀ x : Int, IntKind.u32.wrap (IntKind.u8.wrap x) = x % 256 from fun x => (by show (x % 256) % 4294967296 = x % 256; omega)])); (case hp => exact (Reps.one (show Kd.FK (Kd.slice 58 (Kd.int .u32)) _ _ l0_1 [.slice A0_1 l0_1.length c0_1] from (Kd.FK_slice_mk (zVr (zVm (ok' := (fun k_ => ((P0_1_ k_ ∨ P1_1_ k_ ∨ P2_1_ k_) ∨ w.heap.size ≤ k_) ∧ k_ ≠ g05 ∧ k_ ≠ g06 ∧ k_ ≠ g07)) (HO0_1.out) (fun k_ hk => ⟨hk.1.1.1, ⟨hk.1.1.2, ⟨hk.1.2, hk.2⟩⟩⟩))).2.1 (Kd.V_F (zVm (ok' := (fun k_ => ((P0_1_ k_ ∨ P1_1_ k_ ∨ P2_1_ k_) ∨ w.heap.size ≤ k_) ∧ k_ ≠ g05 ∧ k_ ≠ g06 ∧ k_ ≠ g07)) (HO0_1.out) (fun k_ hk => ⟨hk.1.1.1, ⟨hk.1.1.2, ⟨hk.1.2, hk.2⟩⟩⟩))))) (Reps.one (show Kd.FK (Kd.slice 58 (Kd.int .u32)) _ _ l1_1 [.slice A1_1 l1_1.length c1_1] from (Kd.FK_slice_mk (zVr (zVm (ok' := (fun k_ => ((P0_1_ k_ ∨ P1_1_ k_ ∨ P2_1_ k_) ∨ w.heap.size ≤ k_) ∧ k_ ≠ g05 ∧ k_ ≠ g06 ∧ k_ ≠ g07)) (HO1_1.out) (fun k_ hk => ⟨hk.1.1.1, ⟨hk.1.1.2, ⟨hk.1.2, hk.2⟩⟩⟩))).2.1 (Kd.V_F (zVm (ok' := (fun k_ => ((P0_1_ k_ ∨ P1_1_ k_ ∨ P2_1_ k_) ∨ w.heap.size ≤ k_) ∧ k_ ≠ g05 ∧ k_ ≠ g06 ∧ k_ ≠ g07)) (HO1_1.out) (fun k_ hk => ⟨hk.1.1.1, ⟨hk.1.1.2, ⟨hk.1.2, hk.2⟩⟩⟩))))) (Reps.one (show Kd.FK (Kd.slice 58 (Kd.int .u32)) _ _ l2_1 [.slice A2_1 l2_1.length c2_1] from (Kd.FK_slice_mk (zVr (zVm (ok' := (fun k_ => ((P0_1_ k_ ∨ P1_1_ k_ ∨ P2_1_ k_) ∨ w.heap.size ≤ k_) ∧ k_ ≠ g05 ∧ k_ ≠ g06 ∧ k_ ≠ g07)) (HO2_1.out) (fun k_ hk => ⟨hk.1.1.1, ⟨hk.1.1.2, ⟨hk.1.2, hk.2⟩⟩⟩))).2.1 (Kd.V_F (zVm (ok' := (fun k_ => ((P0_1_ k_ ∨ P1_1_ k_ ∨ P2_1_ k_) ∨ w.heap.size ≤ k_) ∧ k_ ≠ g05 ∧ k_ ≠ g06 ∧ k_ ≠ g07)) (HO2_1.out) (fun k_ hk => ⟨hk.1.1.1, ⟨hk.1.1.2, ⟨hk.1.2, hk.2⟩⟩⟩))))) (Reps.none _ _))))); intro v509 w411 ho412 hb hg_ hnew_; clear hg_ hnew_; (first |  rw [← Ny508.out] at ho412|  (simp only [Int.reduceToNat] at ho412; rw [← Ny508.out] at ho412)); replace HO0_1 := zMk (zVe (by exact uV HO0_1.out) (Kd.N_base ho412) hb); replace HO1_1 := zMk (zVe (by exact uV HO1_1.out) (Kd.N_base ho412) hb); replace HO2_1 := zMk (zVe (by exact uV HO2_1.out) (Kd.N_base ho412) hb); have O10 := zMk (Kd.N_lower ho412 (zBs (by exact uT HB.out))); replace K05 := zMk (zKb (g := g05) (o := .cells #[.bool a0_0, .slice A0_1 l0_1.length c0_1] 24 (0, 0)) (by (with_reducible repeat (first |  refine zKn ?_ _|  refine zKd ?_|  refine zKa ?_ _)); exact K05.out) hb); replace K06 := zMk (zKb (g := g06) (o := .cells #[.bool a1_0, .slice A1_1 l1_1.length c1_1] 24 (0, 0)) (by (with_reducible repeat (first |  refine zKn ?_ _|  refine zKd ?_|  refine zKa ?_ _)); exact K06.out) hb); replace K07 := zMk (zKb (g := g07) (o := .cells #[.bool a2_0, .slice A2_1 l2_1.length c2_1] 24 (0, 0)) (by (with_reducible repeat (first |  refine zKn ?_ _|  refine zKd ?_|  refine zKa ?_ _)); exact K07.out) hb); replace HB := zMk (zBt (by exact uT HB.out) hb); clear hb ho412; obtain ⟨Ao413, co413, eo413⟩ := Kd.N_slice O10.out; subst eo413)|((with_reducible refine gate_callee (f := 10) rfl ?_); refine goesL_ (some 17) rfl rfl Tryd.func10 (by kernel_rfl) rfl #[.slice Ao413 y508.length co413] rfl (by (try simp only [zMa, zMc, zMn]); first |  done|  rfl|  (simp only [zLd, zLt]; rfl)) ?_; (with_reducible refine (w1_Light.calls k _ _ y508 false _ ?side1 ?side2 A4.out).mono ?_); (case side1 => repeat (first |  exact (Kd.N_reads' O10.out).2.2|  (with_reducible refine zCa ?_ _)|(with_reducible refine zCn ?_ _)|(with_reducible refine zCd ?_))); (case side2 => exact (Kd.N_reads' O10.out).2.1); rintro e w' ⟨rfl, ⟨nd, rfl⟩⟩; refine ⟨_, rfl, ?_⟩)|((with_reducible refine gate_callee (f := 11) rfl ?_); refine goesL_ (some 19) rfl rfl Tryd.func11 (by kernel_rfl) rfl #[] rfl (by (try simp only [zMa, zMc, zMn]); first |  done|  rfl|  (simp only [zLd, zLt]; rfl)) ?_; (with_reducible refine (filigreelaw02_alive.calls k  t512 _ A401.out HRT.out).mono ?_); rintro e w414 ⟨rfl, hb⟩; refine ⟨_, rfl, ?_⟩; replace HO0_1 := zMk (zVb (by exact uV HO0_1.out) hb); replace HO1_1 := zMk (zVb (by exact uV HO1_1.out) hb); replace HO2_1 := zMk (zVb (by exact uV HO2_1.out) hb); replace O10 := zMk (Kd.N_below (by exact uN O10.out) hb); replace K05 := zMk (zKb (g := g05) (o := .cells #[.bool a0_0, .slice A0_1 l0_1.length c0_1] 24 (0, 0)) (by (with_reducible repeat (first |  refine zKn ?_ _|  refine zKd ?_|  refine zKa ?_ _)); exact K05.out) hb); replace K06 := zMk (zKb (g := g06) (o := .cells #[.bool a1_0, .slice A1_1 l1_1.length c1_1] 24 (0, 0)) (by (with_reducible repeat (first |  refine zKn ?_ _|  refine zKd ?_|  refine zKa ?_ _)); exact K06.out) hb); replace K07 := zMk (zKb (g := g07) (o := .cells #[.bool a2_0, .slice A2_1 l2_1.length c2_1] 24 (0, 0)) (by (with_reducible repeat (first |  refine zKn ?_ _|  refine zKd ?_|  refine zKa ?_ _)); exact K07.out) hb); replace HB := zMk (zBt (by exact uT HB.out) hb)))
  go_ret
  exact ⟨by first | rfl | (simp [errW_none, errW_some] <;> rfl) | (simp [*, errW_none, errW_some] <;> rfl), by exact uT HB.out⟩

end Go.Proofs.YtnjmnicgknggfaaDoor.G
