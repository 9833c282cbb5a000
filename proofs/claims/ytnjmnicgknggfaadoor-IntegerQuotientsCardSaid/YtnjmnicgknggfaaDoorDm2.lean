/- Lemmas for the statement: the walks of the functions that it reaches, and plain laws. -/
import Derived.Test.YtnjmnicgknggfaaDoorDm1
set_option linter.unusedVariables false
set_option linter.unusedSimpArgs false
set_option maxHeartbeats 8000000
set_option maxRecDepth 100000
namespace Go.Proofs.YtnjmnicgknggfaaDoor.D
open Go Go.RowKit Go.Proofs.YtnjmnicgknggfaaDoorW.PrintWords Go.Proofs.YtnjmnicgknggfaaDoorW.PrintLast Go.Proofs.YtnjmnicgknggfaaDoorW.PrintMore
attribute [local go_sem] max2_int min2_int max_two min_two max_three min_three max_four min_four
open Go.Proofs.YtnjmnicgknggfaaDoorW.PrintWords.Kd renaming R_alloc → zRa, R_drewN → zRn, R_drew → zRd, V_alloc → zVa, V_drewN → zVn, V_drew → zVd, V_below → zVb, C_alloc → zCa, C_drewN → zCn, C_drew → zCd, R_mono → zRm, V_mono → zVm, at_int → zAi, R_elder' → zRe, R_lower → zRl, R_new' → zRw, R_lt → zRt, R_below → zRb, R_base → zRz, R_reads' → zRr, R_slice → zRs, V_elder' → zVe, V_lower → zVl, V_slice → zVs, V_reads' → zVr
open Go.Proofs.YtnjmnicgknggfaaDoorW.PrintWords renaming pw_below_drewN → zBn, below_alloc → zBa, below_drew1 → zBd, below_size → zBs, below_step → zBt, blk_drewN → zKn, blk_drew → zKd, blk_alloc → zKa, blk_below → zKb, blk_cell → zKc, blk_frozen → zKf
open List renaming setIfInBounds_toArray → zSa, set_cons_zero → zSb, set_cons_succ → zSc, length_drop → zLd, length_take → zLt, map_toArray → zMa, map_cons → zMc, map_nil → zMn, length_cons → zLc, length_nil → zLn
open Go.Proofs.YtnjmnicgknggfaaDoorW.PrintWords.Aside0 renaming mk → zMk
open Option renaming bind_eq_some_iff → zBi, bind_some → zOb
open Option.some renaming inj → zOi
open Int renaming toNat_natCast → zTn

mutual
def n_DivMod.l0 : Nat → List Int → Int → List Int → List Int → Int → Int → Option (List Int × List Int × Int)
 | 0, _, _, _, _, _, _ => none
 | k + 1, x4, x9, x10, x11, x12, x13 => if x13 ≥ 0 then (if 0 ≤ (wrap64 (x13 + x12)) then (if (wrap64 (x13 + x12)) < (x10.length : Int) then (if 0 ≤ (wrap64 ((wrap64 (x13 + x12)) - 1)) then (if (wrap64 ((wrap64 (x13 + x12)) - 1)) < (x10.length : Int) then (if 0 ≤ (wrap64 (x12 - 1)) then (if (wrap64 (x12 - 1)) < (x11.length : Int) then (if (IntKind.u64.wrap (rd x11 (wrap64 (x12 - 1)))) = 0 then (none) else (n_DivMod.l1 k x4 x9 x10 x11 x12 x13 (IntKind.u64.wrap (Int.tdiv (Go.bits .or .u64 (IntKind.u64.wrap ((IntKind.u64.wrap (rd x10 (wrap64 (x13 + x12)))) * 4294967296)) (IntKind.u64.wrap (rd x10 (wrap64 ((wrap64 (x13 + x12)) - 1))))) (IntKind.u64.wrap (rd x11 (wrap64 (x12 - 1)))))) (Int.tmod (Go.bits .or .u64 (IntKind.u64.wrap ((IntKind.u64.wrap (rd x10 (wrap64 (x13 + x12)))) * 4294967296)) (IntKind.u64.wrap (rd x10 (wrap64 ((wrap64 (x13 + x12)) - 1))))) (IntKind.u64.wrap (rd x11 (wrap64 (x12 - 1))))))) else (none)) else (none)) else (none)) else (none)) else (none)) else (none)) else (if 0 ≤ x12 then (if (x12 : Int).toNat ≤ 70368744177664 then (n_DivMod.l3 k x4 x9 x10 (List.replicate (x12 : Int).toNat 0) x12 0) else (none)) else (none))
def n_DivMod.j3 : Nat → List Int → Int → List Int → List Int → Int → Int → Int → Option (List Int × List Int × Int)
 | 0, _, _, _, _, _, _, _ => none
 | k + 1, x4, x9, x10, x11, x12, x13, x15 => (n_Of.f x15).bind fun t190 => ((n_Mul.f k x11 t190).bind fun t193 => (if 0 ≤ x13 then (if x13 ≤ (wrap64 ((wrap64 (x13 + x12)) + 1)) then (if (wrap64 ((wrap64 (x13 + x12)) + 1)) ≤ (x10.length : Int) then ((n_less_at.f k x10 x13 (wrap64 ((wrap64 (x13 + x12)) + 1)) t193).bind fun bt200 => (if bt200.1 > 0 then (n_DivMod.l2 k x4 x9 bt200.2 x11 x12 x13 (IntKind.u64.wrap (x15 - 1)) 0 (wrap64 (x12 + 1)) 0) else (if x13 < (x4.length : Int) then (n_DivMod.l0 k (x4.set (x13 : Int).toNat ((x15) % 4294967296)) x9 bt200.2 x11 x12 (wrap64 (x13 - 1))) else (none)))) else (none)) else (none)) else (none)))
def n_DivMod.l2 : Nat → List Int → Int → List Int → List Int → Int → Int → Int → Int → Int → Int → Option (List Int × List Int × Int)
 | 0, _, _, _, _, _, _, _, _, _, _ => none
 | k + 1, x4, x9, x10, x11, x12, x13, x15, x18, x171, x172 => if x172 < x171 then (if x172 < x12 then (if 0 ≤ x172 then (if x172 < (x11.length : Int) then (if 0 ≤ (wrap64 (x13 + x172)) then (if (wrap64 (x13 + x172)) < (x10.length : Int) then ((bits_Add32.f (rd x10 (wrap64 (x13 + x172))) (rd x11 x172) x18).bind fun bt204 => (n_DivMod.l2 k x4 x9 (x10.set ((wrap64 (x13 + x172)) : Int).toNat bt204.1) x11 x12 x13 x15 bt204.2 x171 (wrap64 (x172 + 1)))) else (none)) else (none)) else (none)) else (none)) else (if 0 ≤ (wrap64 (x13 + x172)) then (if (wrap64 (x13 + x172)) < (x10.length : Int) then ((bits_Add32.f (rd x10 (wrap64 (x13 + x172))) 0 x18).bind fun bt208 => (n_DivMod.l2 k x4 x9 (x10.set ((wrap64 (x13 + x172)) : Int).toNat bt208.1) x11 x12 x13 x15 bt208.2 x171 (wrap64 (x172 + 1)))) else (none)) else (none))) else (if 0 ≤ x13 then (if x13 < (x4.length : Int) then (n_DivMod.l0 k (x4.set (x13 : Int).toNat ((x15) % 4294967296)) x9 x10 x11 x12 (wrap64 (x13 - 1))) else (none)) else (none))
def n_DivMod.l1 : Nat → List Int → Int → List Int → List Int → Int → Int → Int → Int → Option (List Int × List Int × Int)
 | 0, _, _, _, _, _, _, _, _ => none
 | k + 1, x4, x9, x10, x11, x12, x13, x15, x16 => if (x15 / 4294967296) > 0 then (n_DivMod.j2 k x4 x9 x10 x11 x12 x13 x15 x16 true) else (if 0 ≤ (wrap64 (x12 - 2)) then (if (wrap64 (x12 - 2)) < (x11.length : Int) then (if 0 ≤ (wrap64 ((wrap64 (x13 + x12)) - 2)) then (if (wrap64 ((wrap64 (x13 + x12)) - 2)) < (x10.length : Int) then (n_DivMod.j2 k x4 x9 x10 x11 x12 x13 x15 x16 (decide ((IntKind.u64.wrap (x15 * (IntKind.u64.wrap (rd x11 (wrap64 (x12 - 2)))))) > (Go.bits .or .u64 (IntKind.u64.wrap (x16 * 4294967296)) (IntKind.u64.wrap (rd x10 (wrap64 ((wrap64 (x13 + x12)) - 2)))))))) else (none)) else (none)) else (none)) else (none))
def n_DivMod.j2 : Nat → List Int → Int → List Int → List Int → Int → Int → Int → Int → Bool → Option (List Int × List Int × Int)
 | 0, _, _, _, _, _, _, _, _, _ => none
 | k + 1, x4, x9, x10, x11, x12, x13, x15, x16, x140 => if x140 = true then (if 0 ≤ (wrap64 (x12 - 1)) then (if (wrap64 (x12 - 1)) < (x11.length : Int) then (if ((IntKind.u64.wrap (x16 + (IntKind.u64.wrap (rd x11 (wrap64 (x12 - 1)))))) / 4294967296) > 0 then (n_DivMod.j3 k x4 x9 x10 x11 x12 x13 (IntKind.u64.wrap (x15 - 1))) else (n_DivMod.l1 k x4 x9 x10 x11 x12 x13 (IntKind.u64.wrap (x15 - 1)) (IntKind.u64.wrap (x16 + (IntKind.u64.wrap (rd x11 (wrap64 (x12 - 1)))))))) else (none)) else (none)) else (n_DivMod.j3 k x4 x9 x10 x11 x12 x13 x15)
def n_DivMod.l3 : Nat → List Int → Int → List Int → List Int → Int → Int → Option (List Int × List Int × Int)
 | 0, _, _, _, _, _, _ => none
 | k + 1, x4, x9, x10, x21, x207, x208 => if x208 < x207 then (if 0 ≤ (wrap64 (x208 + 1)) then (if (wrap64 (x208 + 1)) < (x10.length : Int) then (if 0 ≤ x208 then (if x208 < (x10.length : Int) then (if 0 ≤ x9 then (if x208 < (x21.length : Int) then (n_DivMod.l3 k x4 x9 x10 (x21.set (x208 : Int).toNat ((shr .u64 (Go.bits .or .u64 (IntKind.u64.wrap ((IntKind.u64.wrap (rd x10 (wrap64 (x208 + 1)))) * 4294967296)) (IntKind.u64.wrap (rd x10 x208))) x9) % 4294967296)) x207 (wrap64 (x208 + 1))) else (none)) else (none)) else (none)) else (none)) else (none)) else (none)) else ((n_cut.f x4).bind fun t219 => ((n_cut.f x21).bind fun t222 => (some (t219, t222, 0))))
end
def n_DivMod.f (k : Nat) (l0 : List Int) (l1 : List Int) : Option (List Int × List Int × Int) := (n_cut.f l0).bind fun t151 => ((n_cut.f l1).bind fun t154 => (if (t154.length : Int) = 0 then (some (([] : List Int), ([] : List Int), 15)) else ((n_Cmp.f t151 t154).bind fun t157 => (if t157 < 0 then ((n_Norm.f t151).bind fun t158 => (some (([] : List Int), t158, 0))) else (if (t154.length : Int) = 1 then (if 0 < (t154.length : Int) then ((n_small.f t151 (rd t154 0)).bind fun bt162 => ((n_Of.f (IntKind.u64.wrap (bt162.2))).bind fun t166 => (some (bt162.1, t166, 0)))) else (none)) else (if 0 ≤ (wrap64 ((t154.length : Int) - 1)) then (if (wrap64 ((t154.length : Int) - 1)) < (t154.length : Int) then ((bits_LeadingZeros32.f (rd t154 (wrap64 ((t154.length : Int) - 1)))).bind fun t170 => ((n_shift.f k t151 (IntKind.u64.wrap (t170))).bind fun t171 => ((n_shift.f k t154 (IntKind.u64.wrap (t170))).bind fun t174 => ((n_cut.f t174).bind fun t177 => (if 0 ≤ (wrap64 ((t171.length : Int) - (t177.length : Int))) then (if (wrap64 ((t171.length : Int) - (t177.length : Int)) : Int).toNat ≤ 70368744177664 then ((some (List.replicate (wrap64 ((t171.length : Int) - (t177.length : Int)) : Int).toNat 0 : List Int)).bind fun y180 => (n_DivMod.l0 k y180 (IntKind.u64.wrap (t170)) t171 t177 (t177.length : Int) (wrap64 ((y180.length : Int) - 1)))) else (none)) else (none)))))) else (none)) else (none)))))))
def n_DivMod.T16 : Bool × List (List Nat × List Nat) := (true, [([], []), ([], []), ([], []), ([1, 2], [1, 2]), ([0, 3], [0, 3]), ([4], [4]), ([5], [5]), ([6], [6]), ([], []), ([], []), ([], []), ([9, 10], [9, 10]), ([11], [11]), ([8, 12], [8, 12]), ([13], [13]), ([14], [14]), ([7, 15], [7, 15]), ([16, 0, 1, 2, 3, 4, 5, 6, 7, 8, 9, 10, 11, 12, 13, 14, 15, 16], [16])])
def n_DivMod.B16 : List Nat := [0, 0, 0, 6, 15, 31, 63, 127, 0, 0, 0, 1536, 3584, 7936, 16128, 32512, 65535, 131071]
theorem n_DivMod.tab16 : rtab .any (opsOf Tryd.f32 16) = n_DivMod.T16 := by kernel_rfl
theorem n_DivMod.bits16 : waitsOk n_DivMod.T16.2 n_DivMod.B16 = true := by kernel_rfl
def n_DivMod.T17 : Bool × List (List Nat × List Nat) := (true, [([], []), ([], []), ([], []), ([2], [2]), ([1, 3], [1, 3]), ([4], [4]), ([5], [5]), ([0, 6], [0, 6]), ([], []), ([], []), ([], []), ([10], [10]), ([9, 11], [9, 11]), ([12], [12]), ([13], [13]), ([8, 14], [8, 14]), ([7, 0, 1, 2, 3, 4, 5, 6, 7], [7]), ([15, 16, 0, 1, 2, 3, 4, 5, 6, 7, 8, 9, 10, 11, 12, 13, 14, 15, 16], [15])])
def n_DivMod.B17 : List Nat := [0, 0, 0, 4, 14, 30, 62, 127, 0, 0, 0, 1024, 3584, 7680, 15872, 32512, 255, 131071]
theorem n_DivMod.tab17 : rtab .any (opsOf Tryd.f32 17) = n_DivMod.T17 := by kernel_rfl
theorem n_DivMod.bits17 : waitsOk n_DivMod.T17.2 n_DivMod.B17 = true := by kernel_rfl
def n_DivMod.T18 : Bool × List (List Nat × List Nat) := (true, [([], []), ([0], [0]), ([1], [1]), ([2], [2]), ([3], [3]), ([3], [3]), ([3], [3]), ([6, 3], [3, 6]), ([5, 7, 3], [3, 5, 7]), ([8, 3], [3, 8]), ([9, 3], [3, 9]), ([4, 10, 3], [3, 4, 10]), ([3], [3]), ([12, 3], [3, 12]), ([3], [3]), ([3], [3]), ([3], [3]), ([15, 16, 3], [3, 15, 16]), ([17, 3], [3, 17]), ([14, 18, 3], [3, 14, 18]), ([19, 3], [3, 19]), ([20, 3], [3, 20]), ([13, 21, 3], [3, 13, 21]), ([11, 22, 3], [3, 11, 22]), ([3, 23], [3, 23])])
def n_DivMod.B18 : List Nat := [0, 1, 3, 7, 15, 15, 15, 79, 239, 495, 1007, 2047, 15, 4111, 15, 15, 15, 98319, 229391, 507919, 1032207, 2080783, 4190223, 8388607, 16777215]
theorem n_DivMod.tab18 : rtab .any (opsOf Tryd.f32 18) = n_DivMod.T18 := by kernel_rfl
theorem n_DivMod.bits18 : waitsOk n_DivMod.T18.2 n_DivMod.B18 = true := by kernel_rfl
def n_DivMod.T39 : Bool × List (List Nat × List Nat) := (true, [([], []), ([], []), ([], []), ([], []), ([3], [3]), ([2, 4], [2, 4]), ([5], [5]), ([6], [6]), ([7], [7]), ([], []), ([], []), ([9, 10], [9, 10]), ([11], [11]), ([12], [12]), ([8, 13], [8, 13]), ([], []), ([14, 15], [14, 15]), ([16], [16]), ([0, 1, 0, 1, 2, 3, 4, 5, 6, 7, 8, 9, 10, 11, 12, 13, 14, 15, 16, 17], [0, 1]), ([18, 17, 0, 1, 2, 3, 4, 5, 6, 7, 8, 9, 10, 11, 12, 13, 14, 15, 16, 17], [17, 18])])
def n_DivMod.B39 : List Nat := [0, 0, 0, 0, 8, 28, 60, 124, 252, 0, 0, 1536, 3584, 7680, 16380, 0, 65532, 131068, 262143, 524287]
theorem n_DivMod.tab39 : rtab .any (opsOf Tryd.f32 39) = n_DivMod.T39 := by kernel_rfl
theorem n_DivMod.bits39 : waitsOk n_DivMod.T39.2 n_DivMod.B39 = true := by kernel_rfl
theorem n_DivMod.calls (k : Nat) (P0_ : Nat → Prop) (A0 : Option Addr) (c0 : Nat) (l0 : List Int) (P1_ : Nat → Prop) (A1 : Option Addr) (c1 : Nat) (l1 : List Int) (r1 : List Int) (r2 : List Int) (r3 : Int) (w : World) (hs0 : Kd.V (Kd.int .u32) 58 w w.heap.size (fun k_ => P0_ k_) (.slice A0 l0.length c0) l0) (hs1 : Kd.V (Kd.int .u32) 58 w w.heap.size (fun k_ => P1_ k_) (.slice A1 l1.length c1) l1) (h : n_DivMod.f k l0 l1 = some (r1, r2, r3)) :
  Calls Tryd.prog 32 #[.slice A0 l0.length c0, .slice A1 l1.length c1] w fun e w' => ∃ v0_ v1_ : Value, e = .returned (.tuple #[v0_, v1_, .int .i64 r3]) ∧ Kd.V (Kd.int .u32) 58 w' w.heap.size (fun k_ => ((P0_ k_ ∨ P1_ k_) ∨ w.heap.size ≤ k_)) v0_ r1 ∧ Kd.V (Kd.int .u32) 58 w' w.heap.size (fun k_ => ((P0_ k_ ∨ P1_ k_) ∨ w.heap.size ≤ k_)) v1_ r2 ∧ Below w.heap.size w w' := by
 have HO0 := zMk (show Kd.V (Kd.int .u32) 58 w w.heap.size (fun k_ => ((P0_ k_ ∨ P1_ k_) ∨ w.heap.size ≤ k_)) (.slice A0 l0.length c0) l0 from zVm hs0 (fun k_ hk => .inl (.inl hk)))
 have HO1 := zMk (show Kd.V (Kd.int .u32) 58 w w.heap.size (fun k_ => ((P0_ k_ ∨ P1_ k_) ∨ w.heap.size ≤ k_)) (.slice A1 l1.length c1) l1 from zVm hs1 (fun k_ hk => .inl (.inr hk)))
 have HB := zMk (Below.refl w.heap.size w)
 have H : ((n_cut.f l0).bind fun t151 => ((n_cut.f l1).bind fun t154 => (if (t154.length : Int) = 0 then (some (([] : List Int), ([] : List Int), 15)) else ((n_Cmp.f t151 t154).bind fun t157 => (if t157 < 0 then ((n_Norm.f t151).bind fun t158 => (some (([] : List Int), t158, 0))) else (if (t154.length : Int) = 1 then (if 0 < (t154.length : Int) then ((n_small.f t151 (rd t154 0)).bind fun bt162 => ((n_Of.f (IntKind.u64.wrap (bt162.2))).bind fun t166 => (some (bt162.1, t166, 0)))) else (none)) else (if 0 ≤ (wrap64 ((t154.length : Int) - 1)) then (if (wrap64 ((t154.length : Int) - 1)) < (t154.length : Int) then ((bits_LeadingZeros32.f (rd t154 (wrap64 ((t154.length : Int) - 1)))).bind fun t170 => ((n_shift.f k t151 (IntKind.u64.wrap (t170))).bind fun t171 => ((n_shift.f k t154 (IntKind.u64.wrap (t170))).bind fun t174 => ((n_cut.f t174).bind fun t177 => (if 0 ≤ (wrap64 ((t171.length : Int) - (t177.length : Int))) then (if (wrap64 ((t171.length : Int) - (t177.length : Int)) : Int).toNat ≤ 70368744177664 then ((some (List.replicate (wrap64 ((t171.length : Int) - (t177.length : Int)) : Int).toNat 0 : List Int)).bind fun y180 => (n_DivMod.l0 k y180 (IntKind.u64.wrap (t170)) t171 t177 (t177.length : Int) (wrap64 ((y180.length : Int) - 1)))) else (none)) else (none)))))) else (none)) else (none)))))))) = some (r1, r2, r3) := h
 clear h
 replace H := bnd H
 obtain ⟨t151, A30, H⟩ := H
 have A3 := zMk A30
 clear A30
 replace H := bnd H
 obtain ⟨t154, A40, H⟩ := H
 have A4 := zMk A40
 clear A40
 by_cases c5 : (t154.length : Int) = 0
 ·rw [if_pos c5] at H
  have c5b0 : ((t154.length : Int) == 0) = true := beq_iff_eq.mpr c5
  have c5b1 : ((t154.length : Int) != 0) = false := bne_eq_false_iff_eq.mpr c5
  clear c5
  simp only [Option.some.injEq, Prod.mk.injEq] at H
  obtain ⟨rfl, rfl, rfl⟩ := H
  go_enter Tryd.func32, Tryd.ntmps32
  go_wp2_with (first | ((with_reducible refine gate_callee (f:=56) rfl ?_); refine goesL_ (some 24) rfl rfl Tryd.func56 (by kernel_rfl) rfl #[.slice A0 l0.length c0] rfl (by (try simp only [zMa, zMc, zMn]); first |  done|  rfl|  (simp only [zLd, zLt]; rfl)) ?_; (with_reducible refine (n_cut.calls (fun k_ => ((P0_ k_ ∨ P1_ k_) ∨ w.heap.size ≤ k_)) _ _ l0 t151 _ ?side1 A3.out).mono ?_); (case side1 => exact HO0.out); rintro e w6 ⟨v152, rfl, ho0, hb⟩; refine ⟨_, rfl, ?_⟩; replace HO0 := zMk (zVb (uV HO0.out) hb); replace HO1 := zMk (zVb (uV HO1.out) hb); have HO153 := zMk (zVl (zVm (ok' := fun k_ => ((P0_ k_ ∨ P1_ k_) ∨ w.heap.size ≤ k_)) ho0 (fun k_ hk_ => Or.elim hk_ (fun hs_ => hs_) (fun hn_ => (.inr (Nat.le_trans (zBs (uT HB.out)) hn_))))) (zBs (uT HB.out))); replace HB := zMk (zBt (uT HB.out) hb); (try clear hb); (try clear hb2); (try clear hk); (try clear hi); (try clear ho0))|((with_reducible refine gate_callee (f:=56) rfl ?_); refine goesL_ (some 26) rfl rfl Tryd.func56 (by kernel_rfl) rfl #[.slice A1 l1.length c1] rfl (by (try simp only [zMa, zMc, zMn]); first |  done|  rfl|  (simp only [zLd, zLt]; rfl)) ?_; (with_reducible refine (n_cut.calls (fun k_ => ((P0_ k_ ∨ P1_ k_) ∨ w.heap.size ≤ k_)) _ _ l1 t154 _ ?side1 A4.out).mono ?_); (case side1 => exact HO1.out); rintro e w7 ⟨v155, rfl, ho0, hb⟩; refine ⟨_, rfl, ?_⟩; replace HO0 := zMk (zVb (uV HO0.out) hb); replace HO1 := zMk (zVb (uV HO1.out) hb); replace HO153 := zMk (zVb (uV HO153.out) hb); have HO156 := zMk (zVl (zVm (ok' := fun k_ => ((P0_ k_ ∨ P1_ k_) ∨ w.heap.size ≤ k_)) ho0 (fun k_ hk_ => Or.elim hk_ (fun hs_ => hs_) (fun hn_ => (.inr (Nat.le_trans (zBs (uT HB.out)) hn_))))) (zBs (uT HB.out))); replace HB := zMk (zBt (uT HB.out) hb); (try clear hb); (try clear hb2); (try clear hk); (try clear hi); (try clear ho0); obtain ⟨Ao8, co8, eo8⟩ := zVs HO156.out; subst eo8))
  go_ret3
  exact ⟨_, _, by first | rfl | (simp [errW_none, errW_some] <;> rfl) | (simp [*, errW_none, errW_some] <;> rfl), (by first | exact Kd.V_nil _ _ _ _ _ | exact zVm (Kd.R_V (by first | exact Kd.R_nil _ _ _ _ _ | exact Kd.N_nil _ _ _ _ _ | exact Kd.V_nil _ _ _ _ _ | exact Kd.Q_nil _ _ _ _ _ | exact Kd.S_nil _ _ _ _ _)) (fun k_ hk => by first | exact ⟨(.inr (hk.1)), hk.2⟩ | exact (.inr (hk)))), (by first | exact Kd.V_nil _ _ _ _ _ | exact zVm (Kd.R_V (by first | exact Kd.R_nil _ _ _ _ _ | exact Kd.N_nil _ _ _ _ _ | exact Kd.V_nil _ _ _ _ _ | exact Kd.Q_nil _ _ _ _ _ | exact Kd.S_nil _ _ _ _ _)) (fun k_ hk => by first | exact ⟨(.inr (hk.1)), hk.2⟩ | exact (.inr (hk)))), by exact uT HB.out⟩
 ·rw [if_neg c5] at H
  have c5b0 : ((t154.length : Int) == 0) = false := beq_eq_false_iff_ne.mpr c5
  have c5b1 : ((t154.length : Int) != 0) = true := bne_iff_ne.mpr c5
  have c5b2 : ¬ (t154 = []) := fun h_ => c5 (by rw [h_]; rfl)
  replace H := bnd H
  obtain ⟨t157, A90, H⟩ := H
  have A9 := zMk A90
  clear A90
  by_cases c10 : t157 < 0
  ·rw [if_pos c10] at H
   have c10b0 : decide (t157 < 0) = true := decide_eq_true c10
   clear c10
   replace H := bnd H
   obtain ⟨t158, A110, H⟩ := H
   have A11 := zMk A110
   clear A110
   simp only [Option.some.injEq, Prod.mk.injEq] at H
   obtain ⟨rfl, rfl, rfl⟩ := H
   go_enter Tryd.func32, Tryd.ntmps32
   go_wp2_with (first | ((with_reducible refine gate_callee (f:=56) rfl ?_); refine goesL_ (some 24) rfl rfl Tryd.func56 (by kernel_rfl) rfl #[.slice A0 l0.length c0] rfl (by (try simp only [zMa, zMc, zMn]); first |  done|  rfl|  (simp only [zLd, zLt]; rfl)) ?_; (with_reducible refine (n_cut.calls (fun k_ => ((P0_ k_ ∨ P1_ k_) ∨ w.heap.size ≤ k_)) _ _ l0 t151 _ ?side1 A3.out).mono ?_); (case side1 => exact HO0.out); rintro e w12 ⟨v152, rfl, ho0, hb⟩; refine ⟨_, rfl, ?_⟩; replace HO0 := zMk (zVb (uV HO0.out) hb); replace HO1 := zMk (zVb (uV HO1.out) hb); have HO153 := zMk (zVl (zVm (ok' := fun k_ => ((P0_ k_ ∨ P1_ k_) ∨ w.heap.size ≤ k_)) ho0 (fun k_ hk_ => Or.elim hk_ (fun hs_ => hs_) (fun hn_ => (.inr (Nat.le_trans (zBs (uT HB.out)) hn_))))) (zBs (uT HB.out))); replace HB := zMk (zBt (uT HB.out) hb); (try clear hb); (try clear hb2); (try clear hk); (try clear hi); (try clear ho0))|((with_reducible refine gate_callee (f:=56) rfl ?_); refine goesL_ (some 26) rfl rfl Tryd.func56 (by kernel_rfl) rfl #[.slice A1 l1.length c1] rfl (by (try simp only [zMa, zMc, zMn]); first |  done|  rfl|  (simp only [zLd, zLt]; rfl)) ?_; (with_reducible refine (n_cut.calls (fun k_ => ((P0_ k_ ∨ P1_ k_) ∨ w.heap.size ≤ k_)) _ _ l1 t154 _ ?side1 A4.out).mono ?_); (case side1 => exact HO1.out); rintro e w13 ⟨v155, rfl, ho0, hb⟩; refine ⟨_, rfl, ?_⟩; replace HO0 := zMk (zVb (uV HO0.out) hb); replace HO1 := zMk (zVb (uV HO1.out) hb); replace HO153 := zMk (zVb (uV HO153.out) hb); have HO156 := zMk (zVl (zVm (ok' := fun k_ => ((P0_ k_ ∨ P1_ k_) ∨ w.heap.size ≤ k_)) ho0 (fun k_ hk_ => Or.elim hk_ (fun hs_ => hs_) (fun hn_ => (.inr (Nat.le_trans (zBs (uT HB.out)) hn_))))) (zBs (uT HB.out))); replace HB := zMk (zBt (uT HB.out) hb); (try clear hb); (try clear hb2); (try clear hk); (try clear hi); (try clear ho0); obtain ⟨Ao14, co14, eo14⟩ := zVs HO156.out; subst eo14; obtain ⟨Ao15, co15, eo15⟩ := zVs HO153.out; subst eo15)|((with_reducible refine gate_callee (f:=49) rfl ?_); refine goesL_ (some 34) rfl rfl Tryd.func49 (by kernel_rfl) rfl #[.slice Ao15 t151.length co15, .slice Ao14 t154.length co14] rfl (by (try simp only [zMa, zMc, zMn]); first |  done|  rfl|  (simp only [zLd, zLt]; rfl)) ?_; (with_reducible refine (n_Cmp.calls _ _ t151 _ _ t154 t157 _ ?side1 ?side2 ?side3 ?side4 A9.out).mono ?_); (case side1 => exact uC (zVr HO153.out).2.2); (case side2 => exact (zVr HO153.out).2.1); (case side3 => exact uC (zVr HO156.out).2.2); (case side4 => exact (zVr HO156.out).2.1); rintro e w16 ⟨rfl, hb⟩; refine ⟨_, rfl, ?_⟩; replace HO0 := zMk (zVb (uV HO0.out) hb); replace HO1 := zMk (zVb (uV HO1.out) hb); replace HO153 := zMk (zVb (uV HO153.out) hb); replace HO156 := zMk (zVb (uV HO156.out) hb); replace HB := zMk (zBt (uT HB.out) hb); (try clear hb); (try clear hb2); (try clear hk); (try clear hi))|((with_reducible refine gate_callee (f:=57) rfl ?_); refine goesL_ (some 37) rfl rfl Tryd.func57 (by kernel_rfl) rfl #[.slice Ao15 t151.length co15] rfl (by (try simp only [zMa, zMc, zMn]); first |  done|  rfl|  (simp only [zLd, zLt]; rfl)) ?_; (with_reducible refine (n_Norm.calls _ _ t151 t158 _ ?side1 ?side2 A11.out).mono ?_); (case side1 => exact uC (zVr HO153.out).2.2); (case side2 => exact (zVr HO153.out).2.1); rintro e w17 ⟨v159, rfl, ho0, hb⟩; refine ⟨_, rfl, ?_⟩; replace HO0 := zMk (zVe (uV HO0.out) (zRz ho0) hb); replace HO1 := zMk (zVe (uV HO1.out) (zRz ho0) hb); replace HO153 := zMk (zVe (uV HO153.out) (zRz ho0) hb); replace HO156 := zMk (zVe (uV HO156.out) (zRz ho0) hb); have HO160 := zMk (zRl (Kd.R_newM (M:=fun k_ => (w.heap.size ≤ k_)) ho0 (zBs (uT HB.out)) (fun k_ h_ => h_)) (zBs (uT HB.out))); replace HB := zMk (zBt (uT HB.out) hb); (try clear hb); (try clear hb2); (try clear hk); (try clear hi); (try clear ho0)))
   go_ret3
   exact ⟨_, _, by first | rfl | (simp [errW_none, errW_some] <;> rfl) | (simp [*, errW_none, errW_some] <;> rfl), (by first | exact Kd.V_nil _ _ _ _ _ | exact zVm (Kd.R_V (by first | exact Kd.R_nil _ _ _ _ _ | exact Kd.N_nil _ _ _ _ _ | exact Kd.V_nil _ _ _ _ _ | exact Kd.Q_nil _ _ _ _ _ | exact Kd.S_nil _ _ _ _ _)) (fun k_ hk => by first | exact ⟨(.inr (hk.1)), hk.2⟩ | exact (.inr (hk)))), zVm (Kd.R_V (zRm HO160.out (fun _ hk => hk.1))) (fun k_ hk => by first | exact ⟨(.inr (hk.1)), hk.2⟩ | exact (.inr (hk))), by exact uT HB.out⟩
  ·rw [if_neg c10] at H
   have c10b0 : decide (t157 < 0) = false := decide_eq_false c10
   clear c10
   by_cases c18 : (t154.length : Int) = 1
   ·rw [if_pos c18] at H
    have c18b0 : ((t154.length : Int) == 1) = true := beq_iff_eq.mpr c18
    have c18b1 : ((t154.length : Int) != 1) = false := bne_eq_false_iff_eq.mpr c18
    clear c18
    by_cases c19 : 0 < (t154.length : Int)
    rotate_left
    ·rw [if_neg c19] at H; exact absurd H (by simp)
    rw [if_pos c19] at H
    have c19b0 : decide (0 < (t154.length : Int)) = true := decide_eq_true c19
    have c19b1 : decide (0 < t154.length) = true := decide_eq_true (by omega)
    clear c19
    replace H := bnd H
    obtain ⟨⟨t162, t165⟩, A200, H⟩ := H
    replace H : ((n_Of.f (IntKind.u64.wrap (t165))).bind fun t166 => (some (t162, t166, 0))) = some (r1, r2, r3) := H
    have A20 := zMk A200
    clear A200
    replace H := bnd H
    obtain ⟨t166, A210, H⟩ := H
    have A21 := zMk A210
    clear A210
    simp only [Option.some.injEq, Prod.mk.injEq] at H
    obtain ⟨rfl, rfl, rfl⟩ := H
    go_enter Tryd.func32, Tryd.ntmps32
    go_wp2_with (first | ((with_reducible refine gate_callee (f:=56) rfl ?_); refine goesL_ (some 24) rfl rfl Tryd.func56 (by kernel_rfl) rfl #[.slice A0 l0.length c0] rfl (by (try simp only [zMa, zMc, zMn]); first |  done|  rfl|  (simp only [zLd, zLt]; rfl)) ?_; (with_reducible refine (n_cut.calls (fun k_ => ((P0_ k_ ∨ P1_ k_) ∨ w.heap.size ≤ k_)) _ _ l0 t151 _ ?side1 A3.out).mono ?_); (case side1 => exact HO0.out); rintro e w22 ⟨v152, rfl, ho0, hb⟩; refine ⟨_, rfl, ?_⟩; replace HO0 := zMk (zVb (uV HO0.out) hb); replace HO1 := zMk (zVb (uV HO1.out) hb); have HO153 := zMk (zVl (zVm (ok' := fun k_ => ((P0_ k_ ∨ P1_ k_) ∨ w.heap.size ≤ k_)) ho0 (fun k_ hk_ => Or.elim hk_ (fun hs_ => hs_) (fun hn_ => (.inr (Nat.le_trans (zBs (uT HB.out)) hn_))))) (zBs (uT HB.out))); replace HB := zMk (zBt (uT HB.out) hb); (try clear hb); (try clear hb2); (try clear hk); (try clear hi); (try clear ho0))|((with_reducible refine gate_callee (f:=56) rfl ?_); refine goesL_ (some 26) rfl rfl Tryd.func56 (by kernel_rfl) rfl #[.slice A1 l1.length c1] rfl (by (try simp only [zMa, zMc, zMn]); first |  done|  rfl|  (simp only [zLd, zLt]; rfl)) ?_; (with_reducible refine (n_cut.calls (fun k_ => ((P0_ k_ ∨ P1_ k_) ∨ w.heap.size ≤ k_)) _ _ l1 t154 _ ?side1 A4.out).mono ?_); (case side1 => exact HO1.out); rintro e w23 ⟨v155, rfl, ho0, hb⟩; refine ⟨_, rfl, ?_⟩; replace HO0 := zMk (zVb (uV HO0.out) hb); replace HO1 := zMk (zVb (uV HO1.out) hb); replace HO153 := zMk (zVb (uV HO153.out) hb); have HO156 := zMk (zVl (zVm (ok' := fun k_ => ((P0_ k_ ∨ P1_ k_) ∨ w.heap.size ≤ k_)) ho0 (fun k_ hk_ => Or.elim hk_ (fun hs_ => hs_) (fun hn_ => (.inr (Nat.le_trans (zBs (uT HB.out)) hn_))))) (zBs (uT HB.out))); replace HB := zMk (zBt (uT HB.out) hb); (try clear hb); (try clear hb2); (try clear hk); (try clear hi); (try clear ho0); obtain ⟨Ao24, co24, eo24⟩ := zVs HO156.out; subst eo24; obtain ⟨Ao25, co25, eo25⟩ := zVs HO153.out; subst eo25)|((with_reducible refine gate_callee (f:=49) rfl ?_); refine goesL_ (some 34) rfl rfl Tryd.func49 (by kernel_rfl) rfl #[.slice Ao25 t151.length co25, .slice Ao24 t154.length co24] rfl (by (try simp only [zMa, zMc, zMn]); first |  done|  rfl|  (simp only [zLd, zLt]; rfl)) ?_; (with_reducible refine (n_Cmp.calls _ _ t151 _ _ t154 t157 _ ?side1 ?side2 ?side3 ?side4 A9.out).mono ?_); (case side1 => exact uC (zVr HO153.out).2.2); (case side2 => exact (zVr HO153.out).2.1); (case side3 => exact uC (zVr HO156.out).2.2); (case side4 => exact (zVr HO156.out).2.1); rintro e w26 ⟨rfl, hb⟩; refine ⟨_, rfl, ?_⟩; replace HO0 := zMk (zVb (uV HO0.out) hb); replace HO1 := zMk (zVb (uV HO1.out) hb); replace HO153 := zMk (zVb (uV HO153.out) hb); replace HO156 := zMk (zVb (uV HO156.out) hb); replace HB := zMk (zBt (uT HB.out) hb); (try clear hb); (try clear hb2); (try clear hk); (try clear hi); have p161 : 0 ≤ (0 : Int) := (by omega); have q161 : 0 < (t154.length : Int) := of_decide_eq_true (by first | (with_reducible assumption)|  assumption); obtain ⟨ad161, e161, hx161_0⟩ := zAi (zVr HO156.out).2.2 0 p161 q161; cases e161; have qi161 : (0 < t154.length) = True := eq_true (by omega); (try rw [show ((0 : Int)).toNat = 0 from rfl] at hx161_0); (try rw [Addr.add_zero'] at hx161_0); replace p161 := eq_true p161; replace q161 := eq_true q161)|((with_reducible refine gate_callee (f:=58) rfl ?_); refine goesL_ (some 47) rfl rfl Tryd.func58 (by kernel_rfl) rfl #[.slice Ao25 t151.length co25, .int .u32 (rd t154 0)] rfl (by (try simp only [zMa, zMc, zMn]); first |  done|  rfl|  (simp only [zLd, zLt]; rfl)) ?_; (with_reducible refine (n_small.calls _ _ t151 (rd t154 0) t162 t165 _ ?side1 ?side2 A20.out).mono ?_); (case side1 => exact uC (zVr HO153.out).2.2); (case side2 => exact (zVr HO153.out).2.1); rintro e w27 ⟨v163, rfl, ho0, hb⟩; refine ⟨_, rfl, ?_⟩; replace HO0 := zMk (zVb (uV HO0.out) hb); replace HO1 := zMk (zVb (uV HO1.out) hb); replace HO153 := zMk (zVb (uV HO153.out) hb); replace HO156 := zMk (zVb (uV HO156.out) hb); have HO164 := zMk (zVl (zVm (ok' := fun k_ => ((P0_ k_ ∨ P1_ k_) ∨ w.heap.size ≤ k_)) ho0 (fun k_ hk_ => (.inr (Nat.le_trans (zBs (uT HB.out)) hk_)))) (zBs (uT HB.out))); replace HB := zMk (zBt (uT HB.out) hb); (try clear hb); (try clear hb2); (try clear hk); (try clear hi); (try clear ho0))|((with_reducible refine gate_callee (f:=34) rfl ?_); refine goesL_ (some 53) rfl rfl Tryd.func34 (by kernel_rfl) rfl #[.int .u64 (IntKind.u64.wrap (t165))] rfl (by (try simp only [zMa, zMc, zMn]); first |  done|  rfl|  (simp only [zLd, zLt]; rfl)) ?_; (with_reducible refine (n_Of.calls (IntKind.u64.wrap (t165)) t166 _ A21.out).mono ?_); rintro e w28 ⟨v167, rfl, ho0, hb⟩; refine ⟨_, rfl, ?_⟩; replace HO0 := zMk (zVb (uV HO0.out) hb); replace HO1 := zMk (zVb (uV HO1.out) hb); replace HO153 := zMk (zVb (uV HO153.out) hb); replace HO156 := zMk (zVb (uV HO156.out) hb); replace HO164 := zMk (zVb (uV HO164.out) hb); have HO168 := zMk (zVl (zVm (ok' := fun k_ => ((P0_ k_ ∨ P1_ k_) ∨ w.heap.size ≤ k_)) ho0 (fun k_ hk_ => (.inr (Nat.le_trans (zBs (uT HB.out)) hk_)))) (zBs (uT HB.out))); replace HB := zMk (zBt (uT HB.out) hb); (try clear hb); (try clear hb2); (try clear hk); (try clear hi); (try clear ho0)))
    go_ret3
    exact ⟨_, _, by first | rfl | (simp [errW_none, errW_some] <;> rfl) | (simp [*, errW_none, errW_some] <;> rfl), by exact uV HO164.out, by exact uV HO168.out, by exact uT HB.out⟩
   ·rw [if_neg c18] at H
    have c18b0 : ((t154.length : Int) == 1) = false := beq_eq_false_iff_ne.mpr c18
    have c18b1 : ((t154.length : Int) != 1) = true := bne_iff_ne.mpr c18
    obtain ⟨ji29, hji29⟩ : ∃ j_ : Int, (wrap64 ((t154.length : Int) - 1)) = j_ := ⟨_, rfl⟩
    replace H : (if 0 ≤ (ji29) then (if (ji29) < (t154.length : Int) then ((bits_LeadingZeros32.f (rd t154 (ji29))).bind fun t170 => ((n_shift.f k t151 (IntKind.u64.wrap (t170))).bind fun t171 => ((n_shift.f k t154 (IntKind.u64.wrap (t170))).bind fun t174 => ((n_cut.f t174).bind fun t177 => (if 0 ≤ (wrap64 ((t171.length : Int) - (t177.length : Int))) then (if (wrap64 ((t171.length : Int) - (t177.length : Int)) : Int).toNat ≤ 70368744177664 then ((some (List.replicate (wrap64 ((t171.length : Int) - (t177.length : Int)) : Int).toNat 0 : List Int)).bind fun y180 => (n_DivMod.l0 k y180 (IntKind.u64.wrap (t170)) t171 t177 (t177.length : Int) (wrap64 ((y180.length : Int) - 1)))) else (none)) else (none)))))) else (none)) else (none)) = some (r1, r2, r3) := by first | (rw [hji29] at H; exact H) | (simp only [hji29] at H ⊢; exact H)
    (try rw [hji29] at A3)
    (try rw [hji29] at A4)
    (try rw [hji29] at A9)
    have hji29w : (IntKind.i64.wrap ((t154.length : Int) - 1)) = ji29 := (i64_w _).trans hji29
    by_cases c30 : 0 ≤ (ji29)
    ·rw [if_pos c30] at H
     have c30b0 : decide (0 ≤ (ji29)) = true := decide_eq_true c30
     clear c30
     by_cases c31 : (ji29) < (t154.length : Int)
     rotate_left
     ·rw [if_neg c31] at H; exact absurd H (by simp)
     rw [if_pos c31] at H
     have c31b0 : decide ((ji29) < (t154.length : Int)) = true := decide_eq_true c31
     clear c31
     replace H := bnd H
     obtain ⟨t170, A320, H⟩ := H
     have A32 := zMk A320
     clear A320
     replace H := bnd H
     obtain ⟨t171, A330, H⟩ := H
     have A33 := zMk A330
     clear A330
     replace H := bnd H
     obtain ⟨t174, A340, H⟩ := H
     have A34 := zMk A340
     clear A340
     replace H := bnd H
     obtain ⟨t177, A350, H⟩ := H
     have A35 := zMk A350
     clear A350
     obtain ⟨ji36, hji36⟩ : ∃ j_ : Int, (wrap64 ((t171.length : Int) - (t177.length : Int))) = j_ := ⟨_, rfl⟩
     replace H : (if 0 ≤ (ji36) then (if (ji36 : Int).toNat ≤ 70368744177664 then ((some (List.replicate (ji36 : Int).toNat 0 : List Int)).bind fun y180 => (n_DivMod.l0 k y180 (IntKind.u64.wrap (t170)) t171 t177 (t177.length : Int) (wrap64 ((y180.length : Int) - 1)))) else (none)) else (none)) = some (r1, r2, r3) := by first | (rw [hji36] at H; exact H) | (simp only [hji36] at H ⊢; exact H)
     (try rw [hji36] at A3)
     (try rw [hji36] at A4)
     (try rw [hji36] at A9)
     (try rw [hji36] at A32)
     (try rw [hji36] at A33)
     (try rw [hji36] at A34)
     (try rw [hji36] at A35)
     have hji36w : (IntKind.i64.wrap ((t171.length : Int) - (t177.length : Int))) = ji36 := (i64_w _).trans hji36
     by_cases c37 : 0 ≤ (ji36)
     rotate_left
     ·rw [if_neg c37] at H; exact absurd H (by simp)
     rw [if_pos c37] at H
     have c37b0 := eq_true c37
     have c37b1 : decide (0 ≤ (ji36)) = true := decide_eq_true c37
     clear c37
     by_cases c38 : (ji36 : Int).toNat ≤ 70368744177664
     rotate_left
     ·rw [if_neg c38] at H; exact absurd H (by simp)
     rw [if_pos c38] at H
     have c38b0 := eq_true c38
     have c38b1 : decide ((ji36 : Int).toNat ≤ 70368744177664) = true := decide_eq_true c38
     clear c38
     obtain ⟨y180, hy180⟩ : ∃ y_ : List Int, y_ = (List.replicate (ji36 : Int).toNat 0) := ⟨_, rfl⟩
     replace H : (n_DivMod.l0 k y180 (IntKind.u64.wrap (t170)) t171 t177 (t177.length : Int) (wrap64 ((y180.length : Int) - 1))) = some (r1, r2, r3) := by first | (rw [hy180]; with_reducible exact H) | (have H2_ := bsm H; first | (rw [hy180]; with_reducible exact H2_) | with_reducible exact H2_) | with_reducible exact H | (rw [hy180]; exact H) | exact H
     have Ny180 := zMk hy180
     clear hy180
     have H' := zMk H
     clear H
     go_enter Tryd.func32, Tryd.ntmps32
     go_wp2_with (first | ((with_reducible refine gate_callee (f:=56) rfl ?_); refine goesL_ (some 24) rfl rfl Tryd.func56 (by kernel_rfl) rfl #[.slice A0 l0.length c0] rfl (by (try simp only [zMa, zMc, zMn]); first |  done|  rfl|  (simp only [zLd, zLt]; rfl)) ?_; (with_reducible refine (n_cut.calls (fun k_ => ((P0_ k_ ∨ P1_ k_) ∨ w.heap.size ≤ k_)) _ _ l0 t151 _ ?side1 A3.out).mono ?_); (case side1 => exact HO0.out); rintro e w39 ⟨v152, rfl, ho0, hb⟩; refine ⟨_, rfl, ?_⟩; replace HO0 := zMk (zVb (uV HO0.out) hb); replace HO1 := zMk (zVb (uV HO1.out) hb); have HO153 := zMk (zVl (zVm (ok' := fun k_ => ((P0_ k_ ∨ P1_ k_) ∨ w.heap.size ≤ k_)) ho0 (fun k_ hk_ => Or.elim hk_ (fun hs_ => hs_) (fun hn_ => (.inr (Nat.le_trans (zBs (uT HB.out)) hn_))))) (zBs (uT HB.out))); replace HB := zMk (zBt (uT HB.out) hb); (try clear hb); (try clear hb2); (try clear hk); (try clear hi); (try clear ho0))|((with_reducible refine gate_callee (f:=56) rfl ?_); refine goesL_ (some 26) rfl rfl Tryd.func56 (by kernel_rfl) rfl #[.slice A1 l1.length c1] rfl (by (try simp only [zMa, zMc, zMn]); first |  done|  rfl|  (simp only [zLd, zLt]; rfl)) ?_; (with_reducible refine (n_cut.calls (fun k_ => ((P0_ k_ ∨ P1_ k_) ∨ w.heap.size ≤ k_)) _ _ l1 t154 _ ?side1 A4.out).mono ?_); (case side1 => exact HO1.out); rintro e w40 ⟨v155, rfl, ho0, hb⟩; refine ⟨_, rfl, ?_⟩; replace HO0 := zMk (zVb (uV HO0.out) hb); replace HO1 := zMk (zVb (uV HO1.out) hb); replace HO153 := zMk (zVb (uV HO153.out) hb); have HO156 := zMk (zVl (zVm (ok' := fun k_ => ((P0_ k_ ∨ P1_ k_) ∨ w.heap.size ≤ k_)) ho0 (fun k_ hk_ => Or.elim hk_ (fun hs_ => hs_) (fun hn_ => (.inr (Nat.le_trans (zBs (uT HB.out)) hn_))))) (zBs (uT HB.out))); replace HB := zMk (zBt (uT HB.out) hb); (try clear hb); (try clear hb2); (try clear hk); (try clear hi); (try clear ho0); obtain ⟨Ao41, co41, eo41⟩ := zVs HO156.out; subst eo41; obtain ⟨Ao42, co42, eo42⟩ := zVs HO153.out; subst eo42)|((with_reducible refine gate_callee (f:=49) rfl ?_); refine goesL_ (some 34) rfl rfl Tryd.func49 (by kernel_rfl) rfl #[.slice Ao42 t151.length co42, .slice Ao41 t154.length co41] rfl (by (try simp only [zMa, zMc, zMn]); first |  done|  rfl|  (simp only [zLd, zLt]; rfl)) ?_; (with_reducible refine (n_Cmp.calls _ _ t151 _ _ t154 t157 _ ?side1 ?side2 ?side3 ?side4 A9.out).mono ?_); (case side1 => exact uC (zVr HO153.out).2.2); (case side2 => exact (zVr HO153.out).2.1); (case side3 => exact uC (zVr HO156.out).2.2); (case side4 => exact (zVr HO156.out).2.1); rintro e w43 ⟨rfl, hb⟩; refine ⟨_, rfl, ?_⟩; replace HO0 := zMk (zVb (uV HO0.out) hb); replace HO1 := zMk (zVb (uV HO1.out) hb); replace HO153 := zMk (zVb (uV HO153.out) hb); replace HO156 := zMk (zVb (uV HO156.out) hb); replace HB := zMk (zBt (uT HB.out) hb); (try clear hb); (try clear hb2); (try clear hk); (try clear hi); have p169 : 0 ≤ ((ji29) : Int) := of_decide_eq_true (by first | (with_reducible assumption)|  assumption); have q169 : (ji29) < (t154.length : Int) := of_decide_eq_true (by first | (with_reducible assumption)|  assumption); obtain ⟨ad169, e169, hx169_0⟩ := zAi (zVr HO156.out).2.2 (ji29) p169 q169; cases e169; replace p169 := eq_true p169; replace q169 := eq_true q169)|((with_reducible refine gate_callee (f:=59) rfl ?_); refine goesL_ (some 60) rfl rfl Tryd.func59 (by kernel_rfl) rfl #[.int .u32 (rd t154 (ji29))] rfl (by (try simp only [zMa, zMc, zMn]); first |  done|  (simp only [hji29]; rfl)|  rfl|  (simp only [zLd, zLt]; rfl)) ?_; (with_reducible refine (bits_LeadingZeros32.calls (rd t154 (ji29)) t170 _ A32.out).mono ?_); rintro e w' ⟨rfl, ⟨nd, rfl⟩⟩; refine ⟨_, rfl, ?_⟩)|((with_reducible refine gate_callee (f:=60) rfl ?_); refine goesL_ (some 64) rfl rfl Tryd.func60 (by kernel_rfl) rfl #[.slice Ao42 t151.length co42, .int .u64 (IntKind.u64.wrap (t170))] rfl (by (try simp only [zMa, zMc, zMn]); first |  done|  rfl|  (simp only [zLd, zLt]; rfl)) ?_; (with_reducible refine (n_shift.calls k _ _ t151 (IntKind.u64.wrap (t170)) t171 _ ?side1 ?side2 A33.out).mono ?_); (case side1 => exact uC (zVr HO153.out).2.2); (case side2 => exact (zVr HO153.out).2.1); rintro e w44 ⟨v172, rfl, ho0, hb⟩; refine ⟨_, rfl, ?_⟩; replace HO0 := zMk (zVe (uV HO0.out) (zRz ho0) hb); replace HO1 := zMk (zVe (uV HO1.out) (zRz ho0) hb); replace HO153 := zMk (zVe (uV HO153.out) (zRz ho0) hb); replace HO156 := zMk (zVe (uV HO156.out) (zRz ho0) hb); have HO173 := zMk (zRl (Kd.R_newM (M:=fun k_ => (w.heap.size ≤ k_)) ho0 (zBs (uT HB.out)) (fun k_ h_ => h_)) (zBs (uT HB.out))); replace HB := zMk (zBt (uT HB.out) hb); (try clear hb); (try clear hb2); (try clear hk); (try clear hi); (try clear ho0))|((with_reducible refine gate_callee (f:=60) rfl ?_); refine goesL_ (some 67) rfl rfl Tryd.func60 (by kernel_rfl) rfl #[.slice (some ad169) t154.length co41, .int .u64 (IntKind.u64.wrap (t170))] rfl (by (try simp only [zMa, zMc, zMn]); first |  done|  rfl|  (simp only [zLd, zLt]; rfl)) ?_; (with_reducible refine (n_shift.calls k _ _ t154 (IntKind.u64.wrap (t170)) t174 _ ?side1 ?side2 A34.out).mono ?_); (case side1 => exact uC (zVr HO156.out).2.2); (case side2 => exact (zVr HO156.out).2.1); rintro e w45 ⟨v175, rfl, ho0, hb⟩; refine ⟨_, rfl, ?_⟩; replace HO0 := zMk (zVe (uV HO0.out) (zRz ho0) hb); replace HO1 := zMk (zVe (uV HO1.out) (zRz ho0) hb); replace HO153 := zMk (zVe (uV HO153.out) (zRz ho0) hb); replace HO156 := zMk (zVe (uV HO156.out) (zRz ho0) hb); have HO176 := zMk (zRl (zRw (Kd.R_newM (M:=fun k_ => (w.heap.size ≤ k_)) ho0 (zBs (uT HB.out)) (fun k_ h_ => h_)) (zRt (uR HO173.out))) (zBs (uT HB.out))); replace HO173 := zMk (zRe (uR HO173.out) (zRz ho0) hb); replace HB := zMk (zBt (uT HB.out) hb); (try clear hb); (try clear hb2); (try clear hk); (try clear hi); (try clear ho0); obtain ⟨Ao46, co46, eo46⟩ := zRs HO176.out; subst eo46)|((with_reducible refine gate_callee (f:=56) rfl ?_); refine goesL_ (some 68) rfl rfl Tryd.func56 (by kernel_rfl) rfl #[.slice Ao46 t174.length co46] rfl (by (try simp only [zMa, zMc, zMn]); first |  done|  rfl|  (simp only [zLd, zLt]; rfl)) ?_; (with_reducible refine (n_cut.calls (fun k_ => some k_ = (.slice Ao46 t174.length co46 : Value).ownBlock) _ _ t174 t177 _ ?side1 A35.out).mono ?_); (case side1 => exact Kd.R_V (Kd.R_tight rfl (HO176.out))); rintro e w47 ⟨v178, rfl, ho0, hb⟩; refine ⟨_, rfl, ?_⟩; replace HO0 := zMk (zVb (uV HO0.out) hb); replace HO1 := zMk (zVb (uV HO1.out) hb); replace HO153 := zMk (zVb (uV HO153.out) hb); replace HO156 := zMk (zVb (uV HO156.out) hb); have HO179 := zMk (zVl (zVm (ok' := fun k_ => ((P0_ k_ ∨ P1_ k_) ∨ w.heap.size ≤ k_) ∧ some k_ ≠ (v172 : Value).ownBlock) ho0 (fun k_ hk_ => ⟨Or.elim hk_ (fun hs_ => (.inr (((HO176.out).1 k_ hs_.symm).1.1))) (fun hn_ => (.inr (Nat.le_trans (zBs (uT HB.out)) hn_))), Or.elim hk_ (fun hs_ => ((HO176.out).1 k_ hs_.symm).2) (fun hn_ => (Kd.fresh' (zRt (uR HO173.out)) k_ hn_))⟩)) (zBs (uT HB.out))); replace HO173 := zMk (zRb (uR HO173.out) hb); replace HO176 := zMk (zRb (uR HO176.out) hb); replace HB := zMk (zBt (uT HB.out) hb); (try clear hb); (try clear hb2); (try clear hk); (try clear hi); (try clear ho0); obtain ⟨Ao48, co48, eo48⟩ := zVs HO179.out; subst eo48; obtain ⟨Ao49, co49, eo49⟩ := zRs HO173.out; subst eo49)|((with_reducible refine gate_dst (N:=75) rfl ?_); refine Kd.R_make (Kd.int .u32) _ 58 rfl (N:=75) rfl 22 _ _ rfl ji36 rfl rfl Tryd.underlying22 (.int .u32 0) 4 info58 rfl (by decide) (by omega) 0 (ok:=fun _ => True) (okp:=fun _ => True) rfl (fun _ hk => hk) trivial (of_decide_eq_true (by first | (with_reducible assumption)|  assumption)) (Nat.le_trans (Nat.mul_le_mul_right _ (of_decide_eq_true (by first | (with_reducible assumption)|  assumption) : ji36.toNat ≤ 70368744177664)) (by omega)) (Below.refl _ _) (Nat.le_refl _) ?_; intro v181 w50 ho51 hb hg_ hnew_; clear hg_ hnew_; (first |  rw [← Ny180.out] at ho51|  (simp only [Int.reduceToNat] at ho51; rw [← Ny180.out] at ho51)); replace HO0 := zMk (zVe (uV HO0.out) (zRz ho51) hb); replace HO1 := zMk (zVe (uV HO1.out) (zRz ho51) hb); replace HO153 := zMk (zVe (uV HO153.out) (zRz ho51) hb); replace HO156 := zMk (zVe (uV HO156.out) (zRz ho51) hb); replace HO179 := zMk (zVe (uV HO179.out) (zRz ho51) hb); have HO182 := zMk (zRl (zRw (zRw (Kd.R_newM (M:=fun k_ => (w.heap.size ≤ k_)) ho51 (zBs (uT HB.out)) (fun k_ h_ => h_)) (zRt (uR HO173.out))) (zRt (uR HO176.out))) (zBs (uT HB.out))); replace HO173 := zMk (zRe (uR HO173.out) (zRz ho51) hb); replace HO176 := zMk (zRe (uR HO176.out) (zRz ho51) hb); replace HB := zMk (zBt (uT HB.out) hb); clear hb ho51; obtain ⟨Ao52, co52, eo52⟩ := zRs HO182.out; subst eo52))
     go_loopg [13] k (fun kq v13 w' => ∃ (x4_1 : List Int) (x10_1 : List Int) (x11_1 : List Int) (x13_1 : Int), v13 = .int .i64 x13_1 ∧ Aside0 (n_DivMod.l0 kq x4_1 (IntKind.u64.wrap (t170)) x10_1 x11_1 (t177.length : Int) x13_1 = some (r1, r2, r3)) ∧ Aside0 (kq ≤ k) ∧ Aside0 (Kd.R (Kd.int .u32) 58 w' w.heap.size (fun k_ => (w.heap.size ≤ k_) ∧ some k_ ≠ ((.slice Ao49 t171.length co49) : Value).ownBlock) (.slice Ao52 y180.length co52) x4_1) ∧ Aside0 (Kd.R (Kd.int .u32) 58 w' w.heap.size (fun k_ => (w.heap.size ≤ k_) ∧ some k_ ≠ ((.slice Ao52 y180.length co52) : Value).ownBlock) (.slice Ao49 t171.length co49) x10_1) ∧ Aside0 (Kd.V (Kd.int .u32) 58 w' w.heap.size (fun k_ => ((P0_ k_ ∨ P1_ k_) ∨ w.heap.size ≤ k_) ∧ some k_ ≠ ((.slice Ao52 y180.length co52) : Value).ownBlock ∧ some k_ ≠ ((.slice Ao49 t171.length co49) : Value).ownBlock) (.slice Ao48 t177.length co48) x11_1) ∧ Aside0 (Below w.heap.size w w'))
     case atStart => exact ⟨(y180), (t171), (t177), (wrap64 ((y180.length : Int) - 1)), (by first | rfl | (simp; done) | (simp [*]; done)), H', ⟨Nat.le_refl _⟩, ⟨by (with_reducible repeat (first | apply zRa | apply zRn | apply zRd)); exact zRm HO182.out (fun _ hk => ⟨hk.1.1.1, hk.1.2⟩)⟩, ⟨by (with_reducible repeat (first | apply zRa | apply zRn | apply zRd)); exact zRm HO173.out (fun _ hk => ⟨hk.1.1.1, hk.2⟩)⟩, ⟨by (with_reducible repeat (first | apply zVa | apply zVn | apply zVd)); exact zVm HO179.out (fun _ hk => ⟨hk.1.1, ⟨hk.2, hk.1.2⟩⟩)⟩, ⟨by exact uT HB.out⟩⟩
     clear H'
     obtain ⟨x4_1, x10_1, x11_1, x13_1, rfl, HA, HK1, HO_4, HO_10, HO_11, HB⟩ := hrel
     have hl4_1 := (zRr HO_4.out).1
     rw [hl4_1] at HO_4
     (try simp only [hl4_1])
     (try simp only [hl4_1] at HO_10)
     (try simp only [hl4_1] at HO_11)
     have hl10_1 := (zRr HO_10.out).1
     rw [hl10_1] at HO_10
     (try simp only [hl10_1])
     (try simp only [hl10_1] at HO_4)
     (try simp only [hl10_1] at HO_11)
     have hl11_1 := (zVr HO_11.out).1
     rw [hl11_1] at HO_11
     (try simp only [hl11_1])
     (try simp only [hl11_1] at HO_4)
     (try simp only [hl11_1] at HO_10)
     rcases gk with _ | k1
     ·exact absurd HA.out (by simp [n_DivMod.l0])
     have H := HA.out
     clear HA
     simp only [n_DivMod.l0] at H
     by_cases c53 : x13_1 ≥ 0
     ·rw [if_pos c53] at H
      have c53b0 : decide (0 ≤ x13_1) = true := decide_eq_true c53
      (try (have c53b0l := c53b0; simp only [hl4_1, hl10_1, hl11_1] at c53b0l))
      clear c53
      obtain ⟨ji54, hji54⟩ : ∃ j_ : Int, (wrap64 (x13_1 + (t177.length : Int))) = j_ := ⟨_, rfl⟩
      replace H : (if 0 ≤ (ji54) then (if (ji54) < (x10_1.length : Int) then (if 0 ≤ (wrap64 ((ji54) - 1)) then (if (wrap64 ((ji54) - 1)) < (x10_1.length : Int) then (if 0 ≤ (wrap64 ((t177.length : Int) - 1)) then (if (wrap64 ((t177.length : Int) - 1)) < (x11_1.length : Int) then (if (IntKind.u64.wrap (rd x11_1 (wrap64 ((t177.length : Int) - 1)))) = 0 then (none) else (n_DivMod.l1 k1 x4_1 (IntKind.u64.wrap (t170)) x10_1 x11_1 (t177.length : Int) x13_1 (IntKind.u64.wrap (Int.tdiv (Go.bits .or .u64 (IntKind.u64.wrap ((IntKind.u64.wrap (rd x10_1 (ji54))) * 4294967296)) (IntKind.u64.wrap (rd x10_1 (wrap64 ((ji54) - 1))))) (IntKind.u64.wrap (rd x11_1 (wrap64 ((t177.length : Int) - 1)))))) (Int.tmod (Go.bits .or .u64 (IntKind.u64.wrap ((IntKind.u64.wrap (rd x10_1 (ji54))) * 4294967296)) (IntKind.u64.wrap (rd x10_1 (wrap64 ((ji54) - 1))))) (IntKind.u64.wrap (rd x11_1 (wrap64 ((t177.length : Int) - 1))))))) else (none)) else (none)) else (none)) else (none)) else (none)) else (none)) = some (r1, r2, r3) := by first | (rw [hji54] at H; exact H) | (simp only [hji54] at H ⊢; exact H)
      have hji54w : (IntKind.i64.wrap (x13_1 + (t177.length : Int))) = ji54 := (i64_w _).trans hji54
      (try (have hji54l := hji54; simp only [hl4_1, hl10_1, hl11_1] at hji54l))
      (try (have hji54wl := hji54w; simp only [hl4_1, hl10_1, hl11_1] at hji54wl))
      by_cases c55 : 0 ≤ (ji54)
      rotate_left
      ·rw [if_neg c55] at H; exact absurd H (by simp)
      rw [if_pos c55] at H
      have c55b0 : decide (0 ≤ (ji54)) = true := decide_eq_true c55
      (try (have c55b0l := c55b0; simp only [hl4_1, hl10_1, hl11_1] at c55b0l))
      clear c55
      by_cases c56 : (ji54) < (x10_1.length : Int)
      rotate_left
      ·rw [if_neg c56] at H; exact absurd H (by simp)
      rw [if_pos c56] at H
      have c56b0 : decide ((ji54) < (x10_1.length : Int)) = true := decide_eq_true c56
      (try (have c56b0l := c56b0; simp only [hl4_1, hl10_1, hl11_1] at c56b0l))
      clear c56
      obtain ⟨ji57, hji57⟩ : ∃ j_ : Int, (wrap64 ((ji54) - 1)) = j_ := ⟨_, rfl⟩
      replace H : (if 0 ≤ (ji57) then (if (ji57) < (x10_1.length : Int) then (if 0 ≤ (wrap64 ((t177.length : Int) - 1)) then (if (wrap64 ((t177.length : Int) - 1)) < (x11_1.length : Int) then (if (IntKind.u64.wrap (rd x11_1 (wrap64 ((t177.length : Int) - 1)))) = 0 then (none) else (n_DivMod.l1 k1 x4_1 (IntKind.u64.wrap (t170)) x10_1 x11_1 (t177.length : Int) x13_1 (IntKind.u64.wrap (Int.tdiv (Go.bits .or .u64 (IntKind.u64.wrap ((IntKind.u64.wrap (rd x10_1 (ji54))) * 4294967296)) (IntKind.u64.wrap (rd x10_1 (ji57)))) (IntKind.u64.wrap (rd x11_1 (wrap64 ((t177.length : Int) - 1)))))) (Int.tmod (Go.bits .or .u64 (IntKind.u64.wrap ((IntKind.u64.wrap (rd x10_1 (ji54))) * 4294967296)) (IntKind.u64.wrap (rd x10_1 (ji57)))) (IntKind.u64.wrap (rd x11_1 (wrap64 ((t177.length : Int) - 1))))))) else (none)) else (none)) else (none)) else (none)) = some (r1, r2, r3) := by first | (rw [hji57] at H; exact H) | (simp only [hji57] at H ⊢; exact H)
      have hji57w : (IntKind.i64.wrap ((ji54) - 1)) = ji57 := (i64_w _).trans hji57
      (try (have hji57l := hji57; simp only [hl4_1, hl10_1, hl11_1] at hji57l))
      (try (have hji57wl := hji57w; simp only [hl4_1, hl10_1, hl11_1] at hji57wl))
      by_cases c58 : 0 ≤ (ji57)
      rotate_left
      ·rw [if_neg c58] at H; exact absurd H (by simp)
      rw [if_pos c58] at H
      have c58b0 : decide (0 ≤ (ji57)) = true := decide_eq_true c58
      (try (have c58b0l := c58b0; simp only [hl4_1, hl10_1, hl11_1] at c58b0l))
      clear c58
      by_cases c59 : (ji57) < (x10_1.length : Int)
      rotate_left
      ·rw [if_neg c59] at H; exact absurd H (by simp)
      rw [if_pos c59] at H
      have c59b0 : decide ((ji57) < (x10_1.length : Int)) = true := decide_eq_true c59
      (try (have c59b0l := c59b0; simp only [hl4_1, hl10_1, hl11_1] at c59b0l))
      clear c59
      obtain ⟨ji60, hji60⟩ : ∃ j_ : Int, (wrap64 ((t177.length : Int) - 1)) = j_ := ⟨_, rfl⟩
      replace H : (if 0 ≤ (ji60) then (if (ji60) < (x11_1.length : Int) then (if (IntKind.u64.wrap (rd x11_1 (ji60))) = 0 then (none) else (n_DivMod.l1 k1 x4_1 (IntKind.u64.wrap (t170)) x10_1 x11_1 (t177.length : Int) x13_1 (IntKind.u64.wrap (Int.tdiv (Go.bits .or .u64 (IntKind.u64.wrap ((IntKind.u64.wrap (rd x10_1 (ji54))) * 4294967296)) (IntKind.u64.wrap (rd x10_1 (ji57)))) (IntKind.u64.wrap (rd x11_1 (ji60))))) (Int.tmod (Go.bits .or .u64 (IntKind.u64.wrap ((IntKind.u64.wrap (rd x10_1 (ji54))) * 4294967296)) (IntKind.u64.wrap (rd x10_1 (ji57)))) (IntKind.u64.wrap (rd x11_1 (ji60)))))) else (none)) else (none)) = some (r1, r2, r3) := by first | (rw [hji60] at H; exact H) | (simp only [hji60] at H ⊢; exact H)
      have hji60w : (IntKind.i64.wrap ((t177.length : Int) - 1)) = ji60 := (i64_w _).trans hji60
      (try (have hji60l := hji60; simp only [hl4_1, hl10_1, hl11_1] at hji60l))
      (try (have hji60wl := hji60w; simp only [hl4_1, hl10_1, hl11_1] at hji60wl))
      by_cases c61 : 0 ≤ (ji60)
      rotate_left
      ·rw [if_neg c61] at H; exact absurd H (by simp)
      rw [if_pos c61] at H
      have c61b0 : decide (0 ≤ (ji60)) = true := decide_eq_true c61
      (try (have c61b0l := c61b0; simp only [hl4_1, hl10_1, hl11_1] at c61b0l))
      clear c61
      by_cases c62 : (ji60) < (x11_1.length : Int)
      rotate_left
      ·rw [if_neg c62] at H; exact absurd H (by simp)
      rw [if_pos c62] at H
      have c62b0 : decide ((ji60) < (x11_1.length : Int)) = true := decide_eq_true c62
      (try (have c62b0l := c62b0; simp only [hl4_1, hl10_1, hl11_1] at c62b0l))
      clear c62
      by_cases c63 : (IntKind.u64.wrap (rd x11_1 (ji60))) = 0
      ·rw [if_pos c63] at H
       exact absurd H (by simp)
      ·rw [if_neg c63] at H
       have c63b0 : ((IntKind.u64.wrap (rd x11_1 (ji60))) == 0) = false := beq_eq_false_iff_ne.mpr c63
       (try (have c63b0l := c63b0; simp only [hl4_1, hl10_1, hl11_1] at c63b0l))
       have c63b1 : ((IntKind.u64.wrap (rd x11_1 (ji60))) != 0) = true := bne_iff_ne.mpr c63
       (try (have c63b1l := c63b1; simp only [hl4_1, hl10_1, hl11_1] at c63b1l))
       have HC64 := zMk H
       clear H
       try go_wp2
       replace HO_4 := zMk (zRd HO_4.out)
       replace HO_10 := zMk (zRd HO_10.out)
       replace HO_11 := zMk (zVd HO_11.out)
       replace HB := zMk (zBd HB.out)
       have p183 : 0 ≤ ((ji54) : Int) := of_decide_eq_true (by first | (with_reducible assumption) | assumption)
       have q183 : (ji54) < (x10_1.length : Int) := of_decide_eq_true (by first | (with_reducible assumption) | assumption)
       obtain ⟨ad183, e183, hx183_0⟩ := zAi (zRr HO_10.out).2.2 (ji54) p183 q183
       cases e183
       replace p183 := eq_true p183
       replace q183 := eq_true q183
       have p184 : 0 ≤ ((ji57) : Int) := of_decide_eq_true (by first | (with_reducible assumption) | assumption)
       have q184 : (ji57) < (x10_1.length : Int) := of_decide_eq_true (by first | (with_reducible assumption) | assumption)
       obtain ⟨ad184, e184, hx184_0⟩ := zAi (zRr HO_10.out).2.2 (ji57) p184 q184
       obtain rfl : ad183 = ad184 := (by injection e184)
       replace p184 := eq_true p184
       replace q184 := eq_true q184
       refine start_ (n:=18) (S:=fun w' => w'.cell? (ad183.add ((ji54)).toNat) = some (.int .u32 (rd x10_1 (ji54))) ∧ w'.cell? (ad183.add ((ji57)).toNat) = some (.int .u32 (rd x10_1 (ji57)))) (ds:=[]) #[false,false,false,false,false,false,false,false,false,false,false,false,false,false,false,false,false,false] (by kernel_rfl) rfl rfl ⟨hx183_0, hx184_0⟩ (fun hHeld => ?_); refine with_tabW n_DivMod.tab16 n_DivMod.bits16 (fun HT_ HW_ => ?_)
       generalize wr.drew = w65 at HO_4 HO_10 HO_11 HB hx183_0 hx184_0 hHeld ⊢
       refine pure_ (i:=0) (N:=some 83) (v:=?_) (a' := ?_) #[true,false,false,false,false,false,false,false,false,false,false,false,false,false,false,false,false,false] rfl rfl (any_of HT_.out (by kernel_rfl)) (fun _ _ _ h => h) (Or.inl ⟨by rfl, ?_⟩) ?_ ?_
       rotate_left
       ·intro w'
        go_simp
        with_reducible rfl
       rotate_left
       ·simp only [Act.put, zSa, zSb, zSc, i64_w, i32_w]
        rfl
       refine pure_ (i:=1) (N:=some 84) (v:=?_) (a' := ?_) #[true,true,false,false,false,false,false,false,false,false,false,false,false,false,false,false,false,false] rfl rfl (any_of HT_.out (by kernel_rfl)) (fun _ _ _ h => h) (Or.inl ⟨by rfl, ?_⟩) ?_ ?_
       rotate_left
       ·intro w'
        go_simp
        with_reducible rfl
       rotate_left
       ·simp only [Act.put, zSa, zSb, zSc, i64_w, i32_w]
        rfl
       refine pure_ (i:=2) (N:=some 85) (v:=?_) (a' := ?_) #[true,true,true,false,false,false,false,false,false,false,false,false,false,false,false,false,false,false] rfl rfl (any_of HT_.out (by kernel_rfl)) (fun _ _ _ h => h) (Or.inl ⟨by rfl, ?_⟩) ?_ ?_
       rotate_left
       ·intro w'
        go_simp
        with_reducible rfl
       rotate_left
       ·simp only [Act.put, zSa, zSb, zSc, i64_w, i32_w]
        rfl
       refine pure_ (i:=3) (N:=some 86) (v:=?_) (a' := ?_) #[true,true,true,true,false,false,false,false,false,false,false,false,false,false,false,false,false,false] rfl rfl (any_of HT_.out (by kernel_rfl)) (fun _ _ _ h => h) (Or.inl ⟨by rfl, ?_⟩) ?_ ?_
       rotate_left
       ·intro w'
        go_simp
        with_reducible rfl
       rotate_left
       ·simp only [Act.put, zSa, zSb, zSc, i64_w, i32_w]
        rfl
       refine pure_ (i:=4) (N:=some 87) (v:=?_) (a' := ?_) #[true,true,true,true,true,false,false,false,false,false,false,false,false,false,false,false,false,false] rfl rfl (any_of HT_.out (by kernel_rfl)) (fun _ _ _ h => h) (Or.inl ⟨by rfl, ?_⟩) ?_ ?_
       rotate_left
       ·intro w'
        go_simp
        with_reducible rfl
       rotate_left
       ·simp only [Act.put, zSa, zSb, zSc, i64_w, i32_w]
        rfl
       refine pure_ (i:=8) (N:=some 91) (v:=?_) (a' := ?_) #[true,true,true,true,true,false,false,false,true,false,false,false,false,false,false,false,false,false] rfl rfl (any_of HT_.out (by kernel_rfl)) (fun _ _ _ h => h) (Or.inl ⟨by rfl, ?_⟩) ?_ ?_
       rotate_left
       ·intro w'
        go_simp
        with_reducible rfl
       rotate_left
       ·simp only [Act.put, zSa, zSb, zSc, i64_w, i32_w]
        rfl
       refine pure_ (i:=9) (N:=some 92) (v:=?_) (a' := ?_) #[true,true,true,true,true,false,false,false,true,true,false,false,false,false,false,false,false,false] rfl rfl (any_of HT_.out (by kernel_rfl)) (fun _ _ _ h => h) (Or.inl ⟨by rfl, ?_⟩) ?_ ?_
       rotate_left
       ·intro w'
        go_simp
        with_reducible rfl
       rotate_left
       ·simp only [Act.put, zSa, zSb, zSc, i64_w, i32_w]
        rfl
       refine pure_ (i:=10) (N:=some 93) (v:=?_) (a' := ?_) #[true,true,true,true,true,false,false,false,true,true,true,false,false,false,false,false,false,false] rfl rfl (any_of HT_.out (by kernel_rfl)) (fun _ _ _ h => h) (Or.inl ⟨by rfl, ?_⟩) ?_ ?_
       rotate_left
       ·intro w'
        go_simp
        with_reducible rfl
       rotate_left
       ·simp only [Act.put, zSa, zSb, zSc, i64_w, i32_w]
        rfl
       refine pure_ (i:=11) (N:=some 94) (v:=?_) (a' := ?_) #[true,true,true,true,true,false,false,false,true,true,true,true,false,false,false,false,false,false] rfl rfl (any_of HT_.out (by kernel_rfl)) (fun _ _ _ h => h) (Or.inl ⟨by rfl, ?_⟩) ?_ ?_
       rotate_left
       ·intro w'
        go_simp
        with_reducible rfl
       rotate_left
       ·simp only [Act.put, zSa, zSb, zSc, i64_w, i32_w]
        rfl
       refine pure_ (i:=12) (N:=some 95) (v:=?_) (a' := ?_) #[true,true,true,true,true,false,false,false,true,true,true,true,true,false,false,false,false,false] rfl rfl (any_of HT_.out (by kernel_rfl)) (fun _ _ _ h => h) (Or.inl ⟨by rfl, ?_⟩) ?_ ?_
       rotate_left
       ·intro w'
        go_simp
        with_reducible rfl
       rotate_left
       ·simp only [Act.put, zSa, zSb, zSc, i64_w, i32_w]
        rfl
       refine pure_ (i:=13) (N:=some 96) (v:=?_) (a' := ?_) #[true,true,true,true,true,false,false,false,true,true,true,true,true,true,false,false,false,false] rfl rfl (any_of HT_.out (by kernel_rfl)) (fun _ _ _ h => h) (Or.inl ⟨by rfl, ?_⟩) ?_ ?_
       rotate_left
       ·intro w'
        go_simp
        with_reducible rfl
       rotate_left
       ·simp only [Act.put, zSa, zSb, zSc, i64_w, i32_w]
        rfl
       refine take_ (i:=5) (N:=some 88) (v:=?_) (a' := ?_) #[true,true,true,true,true,true,false,false,true,true,true,true,true,true,false,false,false,false] rfl rfl (take_ofW HT_.out HW_.out (by kernel_rfl)) (fun _ _ _ h => h) (Or.inl ⟨by rfl, ?_⟩) hHeld ?_ ?_
       rotate_left
       ·rintro w' ⟨s0, s1⟩
        go_simp
        with_reducible rfl
       rotate_left
       ·simp only [Act.put, zSa, zSb, zSc, i64_w, i32_w]
        rfl
       refine pure_ (i:=6) (N:=some 89) (v:=?_) (a' := ?_) #[true,true,true,true,true,true,true,false,true,true,true,true,true,true,false,false,false,false] rfl rfl (any_of HT_.out (by kernel_rfl)) (fun _ _ _ h => h) (Or.inl ⟨by rfl, ?_⟩) ?_ ?_
       rotate_left
       ·intro w'
        go_simp
        with_reducible rfl
       rotate_left
       ·simp only [Act.put, zSa, zSb, zSc, i64_w, i32_w]
        rfl
       refine pure_ (i:=7) (N:=some 90) (v:=?_) (a' := ?_) #[true,true,true,true,true,true,true,true,true,true,true,true,true,true,false,false,false,false] rfl rfl (any_of HT_.out (by kernel_rfl)) (fun _ _ _ h => h) (Or.inl ⟨by rfl, ?_⟩) ?_ ?_
       rotate_left
       ·intro w'
        go_simp
        with_reducible rfl
       rotate_left
       ·simp only [Act.put, zSa, zSb, zSc, i64_w, i32_w]
        rfl
       refine take_ (i:=14) (N:=some 97) (v:=?_) (a' := ?_) #[true,true,true,true,true,true,true,true,true,true,true,true,true,true,true,false,false,false] rfl rfl (take_ofW HT_.out HW_.out (by kernel_rfl)) (fun _ _ _ h => h) (Or.inl ⟨by rfl, ?_⟩) hHeld ?_ ?_
       rotate_left
       ·rintro w' ⟨s0, s1⟩
        go_simp
        with_reducible rfl
       rotate_left
       ·simp only [Act.put, zSa, zSb, zSc, i64_w, i32_w]
        rfl
       refine pure_ (i:=15) (N:=some 98) (v:=?_) (a' := ?_) #[true,true,true,true,true,true,true,true,true,true,true,true,true,true,true,true,false,false] rfl rfl (any_of HT_.out (by kernel_rfl)) (fun _ _ _ h => h) (Or.inl ⟨by rfl, ?_⟩) ?_ ?_
       rotate_left
       ·intro w'
        go_simp
        with_reducible rfl
       rotate_left
       ·simp only [Act.put, zSa, zSb, zSc, i64_w, i32_w]
        rfl
       refine pure_ (i:=16) (N:=some 99) (v:=?_) (a' := ?_) #[true,true,true,true,true,true,true,true,true,true,true,true,true,true,true,true,true,false] rfl rfl (any_of HT_.out (by kernel_rfl)) (fun _ _ _ h => h) (Or.inl ⟨by rfl, ?_⟩) ?_ ?_
       rotate_left
       ·intro w'
        go_simp
        with_reducible rfl
       rotate_left
       ·simp only [Act.put, zSa, zSb, zSc, i64_w, i32_w]
        rfl
       refine pure_ (i:=17) (N:=some 14) (v:=?_) (a' := ?_) #[true,true,true,true,true,true,true,true,true,true,true,true,true,true,true,true,true,true] rfl rfl (any_of HT_.out (by kernel_rfl)) (fun _ _ _ h => h) (Or.inl ⟨by rfl, ?_⟩) ?_ ?_
       rotate_left
       ·intro w'
        go_simp
        with_reducible rfl
       rotate_left
       ·simp only [Act.put, zSa, zSb, zSc, i64_w, i32_w]
        rfl
       refine done_ (done_of HT_.out (by kernel_rfl)) ?_
       try go_wp2
       replace HO_4 := zMk (zRd HO_4.out)
       replace HO_10 := zMk (zRd HO_10.out)
       replace HO_11 := zMk (zVd HO_11.out)
       replace HB := zMk (zBd HB.out)
       have p185 : 0 ≤ ((ji60) : Int) := of_decide_eq_true (by first | (with_reducible assumption) | assumption)
       have q185 : (ji60) < (x11_1.length : Int) := of_decide_eq_true (by first | (with_reducible assumption) | assumption)
       obtain ⟨ad185, e185, hx185_0⟩ := zAi (zVr HO_11.out).2.2 (ji60) p185 q185
       cases e185
       replace p185 := eq_true p185
       replace q185 := eq_true q185
       have p186 : 0 ≤ ((ji60) : Int) := of_decide_eq_true (by first | (with_reducible assumption) | assumption)
       have q186 : (ji60) < (x11_1.length : Int) := of_decide_eq_true (by first | (with_reducible assumption) | assumption)
       obtain ⟨ad186, e186, hx186_0⟩ := zAi (zVr HO_11.out).2.2 (ji60) p186 q186
       obtain rfl : ad185 = ad186 := (by injection e186)
       replace p186 := eq_true p186
       replace q186 := eq_true q186
       refine start_ (n:=18) (S:=fun w' => w'.cell? (ad185.add ((ji60)).toNat) = some (.int .u32 (rd x11_1 (ji60))) ∧ w'.cell? (ad185.add ((ji60)).toNat) = some (.int .u32 (rd x11_1 (ji60)))) (ds:=[]) #[false,false,false,false,false,false,false,false,false,false,false,false,false,false,false,false,false,false] (by kernel_rfl) rfl rfl ⟨hx185_0, hx186_0⟩ (fun hHeld => ?_); refine with_tabW n_DivMod.tab17 n_DivMod.bits17 (fun HT_ HW_ => ?_)
       generalize w65.drew = w66 at HO_4 HO_10 HO_11 HB hx185_0 hx186_0 hHeld ⊢
       refine pure_ (i:=0) (N:=some 100) (v:=?_) (a' := ?_) #[true,false,false,false,false,false,false,false,false,false,false,false,false,false,false,false,false,false] rfl rfl (any_of HT_.out (by kernel_rfl)) (fun _ _ _ h => h) (Or.inl ⟨by rfl, ?_⟩) ?_ ?_
       rotate_left
       ·intro w'
        go_simp
        with_reducible rfl
       rotate_left
       ·simp only [Act.put, zSa, zSb, zSc, i64_w, i32_w]
        rfl
       refine pure_ (i:=1) (N:=some 101) (v:=?_) (a' := ?_) #[true,true,false,false,false,false,false,false,false,false,false,false,false,false,false,false,false,false] rfl rfl (any_of HT_.out (by kernel_rfl)) (fun _ _ _ h => h) (Or.inl ⟨by rfl, ?_⟩) ?_ ?_
       rotate_left
       ·intro w'
        go_simp
        with_reducible rfl
       rotate_left
       ·simp only [Act.put, zSa, zSb, zSc, i64_w, i32_w]
        rfl
       refine pure_ (i:=2) (N:=some 102) (v:=?_) (a' := ?_) #[true,true,true,false,false,false,false,false,false,false,false,false,false,false,false,false,false,false] rfl rfl (any_of HT_.out (by kernel_rfl)) (fun _ _ _ h => h) (Or.inl ⟨by rfl, ?_⟩) ?_ ?_
       rotate_left
       ·intro w'
        go_simp
        with_reducible rfl
       rotate_left
       ·simp only [Act.put, zSa, zSb, zSc, i64_w, i32_w]
        rfl
       refine pure_ (i:=3) (N:=some 103) (v:=?_) (a' := ?_) #[true,true,true,true,false,false,false,false,false,false,false,false,false,false,false,false,false,false] rfl rfl (any_of HT_.out (by kernel_rfl)) (fun _ _ _ h => h) (Or.inl ⟨by rfl, ?_⟩) ?_ ?_
       rotate_left
       ·intro w'
        go_simp
        with_reducible rfl
       rotate_left
       ·simp only [Act.put, zSa, zSb, zSc, i64_w, i32_w]
        rfl
       refine pure_ (i:=4) (N:=some 104) (v:=?_) (a' := ?_) #[true,true,true,true,true,false,false,false,false,false,false,false,false,false,false,false,false,false] rfl rfl (any_of HT_.out (by kernel_rfl)) (fun _ _ _ h => h) (Or.inl ⟨by rfl, ?_⟩) ?_ ?_
       rotate_left
       ·intro w'
        go_simp
        with_reducible rfl
       rotate_left
       ·simp only [Act.put, zSa, zSb, zSc, i64_w, i32_w]
        rfl
       refine pure_ (i:=8) (N:=some 108) (v:=?_) (a' := ?_) #[true,true,true,true,true,false,false,false,true,false,false,false,false,false,false,false,false,false] rfl rfl (any_of HT_.out (by kernel_rfl)) (fun _ _ _ h => h) (Or.inl ⟨by rfl, ?_⟩) ?_ ?_
       rotate_left
       ·intro w'
        go_simp
        with_reducible rfl
       rotate_left
       ·simp only [Act.put, zSa, zSb, zSc, i64_w, i32_w]
        rfl
       refine pure_ (i:=9) (N:=some 109) (v:=?_) (a' := ?_) #[true,true,true,true,true,false,false,false,true,true,false,false,false,false,false,false,false,false] rfl rfl (any_of HT_.out (by kernel_rfl)) (fun _ _ _ h => h) (Or.inl ⟨by rfl, ?_⟩) ?_ ?_
       rotate_left
       ·intro w'
        go_simp
        with_reducible rfl
       rotate_left
       ·simp only [Act.put, zSa, zSb, zSc, i64_w, i32_w]
        rfl
       refine pure_ (i:=10) (N:=some 110) (v:=?_) (a' := ?_) #[true,true,true,true,true,false,false,false,true,true,true,false,false,false,false,false,false,false] rfl rfl (any_of HT_.out (by kernel_rfl)) (fun _ _ _ h => h) (Or.inl ⟨by rfl, ?_⟩) ?_ ?_
       rotate_left
       ·intro w'
        go_simp
        with_reducible rfl
       rotate_left
       ·simp only [Act.put, zSa, zSb, zSc, i64_w, i32_w]
        rfl
       refine pure_ (i:=11) (N:=some 111) (v:=?_) (a' := ?_) #[true,true,true,true,true,false,false,false,true,true,true,true,false,false,false,false,false,false] rfl rfl (any_of HT_.out (by kernel_rfl)) (fun _ _ _ h => h) (Or.inl ⟨by rfl, ?_⟩) ?_ ?_
       rotate_left
       ·intro w'
        go_simp
        with_reducible rfl
       rotate_left
       ·simp only [Act.put, zSa, zSb, zSc, i64_w, i32_w]
        rfl
       refine pure_ (i:=12) (N:=some 112) (v:=?_) (a' := ?_) #[true,true,true,true,true,false,false,false,true,true,true,true,true,false,false,false,false,false] rfl rfl (any_of HT_.out (by kernel_rfl)) (fun _ _ _ h => h) (Or.inl ⟨by rfl, ?_⟩) ?_ ?_
       rotate_left
       ·intro w'
        go_simp
        with_reducible rfl
       rotate_left
       ·simp only [Act.put, zSa, zSb, zSc, i64_w, i32_w]
        rfl
       refine take_ (i:=5) (N:=some 105) (v:=?_) (a' := ?_) #[true,true,true,true,true,true,false,false,true,true,true,true,true,false,false,false,false,false] rfl rfl (take_ofW HT_.out HW_.out (by kernel_rfl)) (fun _ _ _ h => h) (Or.inl ⟨by rfl, ?_⟩) hHeld ?_ ?_
       rotate_left
       ·rintro w' ⟨s0, s1⟩
        go_simp
        with_reducible rfl
       rotate_left
       ·simp only [Act.put, zSa, zSb, zSc, i64_w, i32_w]
        rfl
       refine pure_ (i:=6) (N:=some 106) (v:=?_) (a' := ?_) #[true,true,true,true,true,true,true,false,true,true,true,true,true,false,false,false,false,false] rfl rfl (any_of HT_.out (by kernel_rfl)) (fun _ _ _ h => h) (Or.inl ⟨by rfl, ?_⟩) ?_ ?_
       rotate_left
       ·intro w'
        go_simp
        with_reducible rfl
       rotate_left
       ·simp only [Act.put, zSa, zSb, zSc, i64_w, i32_w]
        rfl
       refine pure_ (i:=7) (N:=some 107) (v:=?_) (a' := ?_) #[true,true,true,true,true,true,true,true,true,true,true,true,true,false,false,false,false,false] rfl rfl (any_of HT_.out (by kernel_rfl)) (fun _ _ _ h => h) (Or.inl ⟨by rfl, ?_⟩) ?_ ?_
       rotate_left
       ·intro w'
        go_simp
        with_reducible rfl
       rotate_left
       ·simp only [Act.put, zSa, zSb, zSc, i64_w, i32_w]
        rfl
       refine pure_ (i:=16) (N:=some 15) (v:=?_) (a' := ?_) #[true,true,true,true,true,true,true,true,true,true,true,true,true,false,false,false,true,false] rfl rfl (any_of HT_.out (by kernel_rfl)) (fun _ _ _ h => h) (Or.inl ⟨by rfl, ?_⟩) ?_ ?_
       rotate_left
       ·intro w'
        go_simp
        with_reducible rfl
       rotate_left
       ·simp only [Act.put, zSa, zSb, zSc, i64_w, i32_w]
        rfl
       refine take_ (i:=13) (N:=some 113) (v:=?_) (a' := ?_) #[true,true,true,true,true,true,true,true,true,true,true,true,true,true,false,false,true,false] rfl rfl (take_ofW HT_.out HW_.out (by kernel_rfl)) (fun _ _ _ h => h) (Or.inl ⟨by rfl, ?_⟩) hHeld ?_ ?_
       rotate_left
       ·rintro w' ⟨s0, s1⟩
        go_simp
        with_reducible rfl
       rotate_left
       ·simp only [Act.put, zSa, zSb, zSc, i64_w, i32_w]
        rfl
       refine pure_ (i:=14) (N:=some 114) (v:=?_) (a' := ?_) #[true,true,true,true,true,true,true,true,true,true,true,true,true,true,true,false,true,false] rfl rfl (any_of HT_.out (by kernel_rfl)) (fun _ _ _ h => h) (Or.inl ⟨by rfl, ?_⟩) ?_ ?_
       rotate_left
       ·intro w'
        go_simp
        with_reducible rfl
       rotate_left
       ·simp only [Act.put, zSa, zSb, zSc, i64_w, i32_w]
        rfl
       refine pure_ (i:=15) (N:=some 115) (v:=?_) (a' := ?_) #[true,true,true,true,true,true,true,true,true,true,true,true,true,true,true,true,true,false] rfl rfl (any_of HT_.out (by kernel_rfl)) (fun _ _ _ h => h) (Or.inl ⟨by rfl, ?_⟩) ?_ ?_
       rotate_left
       ·intro w'
        go_simp
        with_reducible rfl
       rotate_left
       ·simp only [Act.put, zSa, zSb, zSc, i64_w, i32_w]
        rfl
       refine pure_ (i:=17) (N:=some 16) (v:=?_) (a' := ?_) #[true,true,true,true,true,true,true,true,true,true,true,true,true,true,true,true,true,true] rfl rfl (any_of HT_.out (by kernel_rfl)) (fun _ _ _ h => h) (Or.inl ⟨by rfl, ?_⟩) ?_ ?_
       rotate_left
       ·intro w'
        go_simp
        with_reducible rfl
       rotate_left
       ·simp only [Act.put, zSa, zSb, zSc, i64_w, i32_w]
        rfl
       refine done_ (done_of HT_.out (by kernel_rfl)) ?_
       go_upto_block 3 with (fail)
       go_cut [15] (fun v15 wc => ∃ (kq : Nat) (x15_63 : Int), v15 = .int .u64 x15_63 ∧ Aside0 (n_DivMod.j3 kq x4_1 (IntKind.u64.wrap (t170)) x10_1 x11_1 (t177.length : Int) x13_1 x15_63 = some (r1, r2, r3)) ∧ Aside0 (kq ≤ k1) ∧ Aside0 (Kd.R (Kd.int .u32) 58 wc w.heap.size (fun k_ => (w.heap.size ≤ k_) ∧ some k_ ≠ ((.slice (some ad183) x10_1.length co49) : Value).ownBlock) (.slice Ao52 x4_1.length co52) x4_1) ∧ Aside0 (Kd.R (Kd.int .u32) 58 wc w.heap.size (fun k_ => (w.heap.size ≤ k_) ∧ some k_ ≠ ((.slice Ao52 x4_1.length co52) : Value).ownBlock) (.slice (some ad183) x10_1.length co49) x10_1) ∧ Aside0 (Kd.V (Kd.int .u32) 58 wc w.heap.size (fun k_ => ((P0_ k_ ∨ P1_ k_) ∨ w.heap.size ≤ k_) ∧ some k_ ≠ ((.slice Ao52 x4_1.length co52) : Value).ownBlock ∧ some k_ ≠ ((.slice (some ad183) x10_1.length co49) : Value).ownBlock) (.slice (some ad185) x11_1.length co48) x11_1) ∧ Aside0 (Below w.heap.size w wc))
       case first =>
        have H := HC64.out
        clear HC64
        have H' := zMk H
        clear H
        go_wp2
        go_loopg [15, 16] k1 (fun kq v15 v16 w' => ∃ (x15_2 : Int) (x16_2 : Int), v15 = .int .u64 x15_2 ∧ v16 = .int .u64 x16_2 ∧ Aside0 (n_DivMod.l1 kq x4_1 (IntKind.u64.wrap (t170)) x10_1 x11_1 (t177.length : Int) x13_1 x15_2 x16_2 = some (r1, r2, r3)) ∧ Aside0 (kq ≤ k1) ∧ Aside0 (Kd.R (Kd.int .u32) 58 w' w.heap.size (fun k_ => (w.heap.size ≤ k_) ∧ some k_ ≠ ((.slice (some ad183) x10_1.length co49) : Value).ownBlock) (.slice Ao52 x4_1.length co52) x4_1) ∧ Aside0 (Kd.R (Kd.int .u32) 58 w' w.heap.size (fun k_ => (w.heap.size ≤ k_) ∧ some k_ ≠ ((.slice Ao52 x4_1.length co52) : Value).ownBlock) (.slice (some ad183) x10_1.length co49) x10_1) ∧ Aside0 (Kd.V (Kd.int .u32) 58 w' w.heap.size (fun k_ => ((P0_ k_ ∨ P1_ k_) ∨ w.heap.size ≤ k_) ∧ some k_ ≠ ((.slice Ao52 x4_1.length co52) : Value).ownBlock ∧ some k_ ≠ ((.slice (some ad183) x10_1.length co49) : Value).ownBlock) (.slice (some ad185) x11_1.length co48) x11_1) ∧ Aside0 (Below w.heap.size w w'))
        case atStart => exact ⟨(IntKind.u64.wrap (Int.tdiv (Go.bits .or .u64 (IntKind.u64.wrap ((IntKind.u64.wrap (rd x10_1 (ji54))) * 4294967296)) (IntKind.u64.wrap (rd x10_1 (ji57)))) (IntKind.u64.wrap (rd x11_1 (ji60))))), (Int.tmod (Go.bits .or .u64 (IntKind.u64.wrap ((IntKind.u64.wrap (rd x10_1 (ji54))) * 4294967296)) (IntKind.u64.wrap (rd x10_1 (ji57)))) (IntKind.u64.wrap (rd x11_1 (ji60)))), (by first | rfl | (simp; done) | (simp only [← hji54, ← hji57, ← hji60] <;> (first | rfl | simp)) | (simp [*]; done)), (by first | rfl | (simp; done) | (simp only [← hji54, ← hji57, ← hji60] <;> (first | rfl | simp)) | (simp [*]; done)), H', ⟨Nat.le_refl _⟩, ⟨by (try simp only [hl4_1]); (try simp only [hl10_1]); (try simp only [hl11_1]); exact uR HO_4.out⟩, ⟨by (try simp only [hl4_1]); (try simp only [hl10_1]); (try simp only [hl11_1]); exact uR HO_10.out⟩, ⟨by (try simp only [hl4_1]); (try simp only [hl10_1]); (try simp only [hl11_1]); exact uV HO_11.out⟩, ⟨by exact uT HB.out⟩⟩
        clear H'
        obtain ⟨x15_2, x16_2, rfl, rfl, HA, HK2, HO_4, HO_10, HO_11, HB⟩ := hrel
        rcases gk with _ | k2
        ·exact absurd HA.out (by simp [n_DivMod.l1])
        have H := HA.out
        clear HA
        simp only [n_DivMod.l1] at H
        have HC67 := zMk H
        clear H
        go_upto_region 18 with (fail)
        go_cut [140] (fun v140 wc => ∃ (kq : Nat) (x140_66 : Bool), v140 = .bool x140_66 ∧ Aside0 (n_DivMod.j2 kq x4_1 (IntKind.u64.wrap (t170)) x10_1 x11_1 (t177.length : Int) x13_1 x15_2 x16_2 x140_66 = some (r1, r2, r3)) ∧ Aside0 (kq ≤ k2) ∧ Aside0 (Kd.R (Kd.int .u32) 58 wc w.heap.size (fun k_ => (w.heap.size ≤ k_) ∧ some k_ ≠ ((.slice (some ad183) x10_1.length co49) : Value).ownBlock) (.slice Ao52 x4_1.length co52) x4_1) ∧ Aside0 (Kd.R (Kd.int .u32) 58 wc w.heap.size (fun k_ => (w.heap.size ≤ k_) ∧ some k_ ≠ ((.slice Ao52 x4_1.length co52) : Value).ownBlock) (.slice (some ad183) x10_1.length co49) x10_1) ∧ Aside0 (Kd.V (Kd.int .u32) 58 wc w.heap.size (fun k_ => ((P0_ k_ ∨ P1_ k_) ∨ w.heap.size ≤ k_) ∧ some k_ ≠ ((.slice Ao52 x4_1.length co52) : Value).ownBlock ∧ some k_ ≠ ((.slice (some ad183) x10_1.length co49) : Value).ownBlock) (.slice (some ad185) x11_1.length co48) x11_1) ∧ Aside0 (Below w.heap.size w wc))
        case first =>
         have H := HC67.out
         clear HC67
         by_cases c68 : (x15_2 / 4294967296) > 0
         ·rw [if_pos c68] at H
          have c68b0 : decide (0 < (x15_2 / 4294967296)) = true := decide_eq_true c68
          (try (have c68b0l := c68b0; simp only [hl4_1, hl10_1, hl11_1] at c68b0l))
          clear c68
          (first | rw [c68b0] | (simp only [i64_w, i32_w]; rw [c68b0]) | rw [c68b1] | skip)
          have H' := zMk H
          clear H
          try go_wp2
          replace HO_4 := zMk (zRd HO_4.out)
          replace HO_10 := zMk (zRd HO_10.out)
          replace HO_11 := zMk (zVd HO_11.out)
          replace HB := zMk (zBd HB.out)
          refine start_ (n:=25) (S:=fun w' => True) (ds:=[]) #[false,false,false,false,false,false,false,false,false,false,false,false,false,false,false,false,false,false,false,false,false,false,false,false,false] (by kernel_rfl) rfl rfl trivial (fun hHeld => ?_); refine with_tabW n_DivMod.tab18 n_DivMod.bits18 (fun HT_ HW_ => ?_)
          generalize wr.drew = w69 at HO_4 HO_10 HO_11 HB hHeld ⊢
          refine pure_ (i:=0) (N:=some 116) (v:=?_) (a' := ?_) #[true,false,false,false,false,false,false,false,false,false,false,false,false,false,false,false,false,false,false,false,false,false,false,false,false] rfl rfl (any_of HT_.out (by kernel_rfl)) (fun _ _ _ h => h) (Or.inl ⟨by rfl, ?_⟩) ?_ ?_
          rotate_left
          ·intro w'
           go_simp
           with_reducible rfl
          rotate_left
          ·simp only [Act.put, zSa, zSb, zSc, i64_w, i32_w]
           rfl
          refine pure_ (i:=1) (N:=some 117) (v:=?_) (a' := ?_) #[true,true,false,false,false,false,false,false,false,false,false,false,false,false,false,false,false,false,false,false,false,false,false,false,false] rfl rfl (any_of HT_.out (by kernel_rfl)) (fun _ _ _ h => h) (Or.inl ⟨by rfl, ?_⟩) ?_ ?_
          rotate_left
          ·intro w'
           go_simp
           with_reducible rfl
          rotate_left
          ·simp only [Act.put, zSa, zSb, zSc, i64_w, i32_w]
           rfl
          refine pure_ (i:=2) (N:=some 118) (v:=?_) (a' := ?_) #[true,true,true,false,false,false,false,false,false,false,false,false,false,false,false,false,false,false,false,false,false,false,false,false,false] rfl rfl (any_of HT_.out (by kernel_rfl)) (fun _ _ _ h => h) (Or.inl ⟨by rfl, ?_⟩) ?_ ?_
          rotate_left
          ·intro w'
           go_simp
           with_reducible rfl
          rotate_left
          ·simp only [Act.put, zSa, zSb, zSc, i64_w, i32_w]
           rfl
          refine pure_ (i:=3) (N:=some 119) (v:=?_) (a' := ?_) #[true,true,true,true,false,false,false,false,false,false,false,false,false,false,false,false,false,false,false,false,false,false,false,false,false] rfl rfl (any_of HT_.out (by kernel_rfl)) (fun _ _ _ h => h) (Or.inl ⟨by rfl, ?_⟩) ?_ ?_
          rotate_left
          ·intro w'
           go_simp
           with_reducible rfl
          rotate_left
          ·simp only [Act.put, zSa, zSb, zSc, i64_w, i32_w]
           rfl
          refine pure_ (i:=4) (N:=some 120) (v:=undef) (a' := ?_) #[true,true,true,true,true,false,false,false,false,false,false,false,false,false,false,false,false,false,false,false,false,false,false,false,false] rfl rfl (any_of HT_.out (by kernel_rfl)) (fun _ _ _ h => h) (Or.inr ⟨by rfl, rfl⟩) ?_ ?_
          rotate_left
          ·simp only [Act.put, zSa, zSb, zSc, i64_w, i32_w]
           rfl
          refine pure_ (i:=5) (N:=some 121) (v:=undef) (a' := ?_) #[true,true,true,true,true,true,false,false,false,false,false,false,false,false,false,false,false,false,false,false,false,false,false,false,false] rfl rfl (any_of HT_.out (by kernel_rfl)) (fun _ _ _ h => h) (Or.inr ⟨by rfl, rfl⟩) ?_ ?_
          rotate_left
          ·simp only [Act.put, zSa, zSb, zSc, i64_w, i32_w]
           rfl
          refine pure_ (i:=6) (N:=some 122) (v:=undef) (a' := ?_) #[true,true,true,true,true,true,true,false,false,false,false,false,false,false,false,false,false,false,false,false,false,false,false,false,false] rfl rfl (any_of HT_.out (by kernel_rfl)) (fun _ _ _ h => h) (Or.inr ⟨by rfl, rfl⟩) ?_ ?_
          rotate_left
          ·simp only [Act.put, zSa, zSb, zSc, i64_w, i32_w]
           rfl
          refine pure_ (i:=7) (N:=some 123) (v:=undef) (a' := ?_) #[true,true,true,true,true,true,true,true,false,false,false,false,false,false,false,false,false,false,false,false,false,false,false,false,false] rfl rfl (any_of HT_.out (by kernel_rfl)) (fun _ _ _ h => h) (Or.inr ⟨by rfl, rfl⟩) ?_ ?_
          rotate_left
          ·simp only [Act.put, zSa, zSb, zSc, i64_w, i32_w]
           rfl
          refine pure_ (i:=8) (N:=some 124) (v:=undef) (a' := ?_) #[true,true,true,true,true,true,true,true,true,false,false,false,false,false,false,false,false,false,false,false,false,false,false,false,false] rfl rfl (any_of HT_.out (by kernel_rfl)) (fun _ _ _ h => h) (Or.inr ⟨by rfl, rfl⟩) ?_ ?_
          rotate_left
          ·simp only [Act.put, zSa, zSb, zSc, i64_w, i32_w]
           rfl
          refine pure_ (i:=9) (N:=some 125) (v:=undef) (a' := ?_) #[true,true,true,true,true,true,true,true,true,true,false,false,false,false,false,false,false,false,false,false,false,false,false,false,false] rfl rfl (any_of HT_.out (by kernel_rfl)) (fun _ _ _ h => h) (Or.inr ⟨by rfl, rfl⟩) ?_ ?_
          rotate_left
          ·simp only [Act.put, zSa, zSb, zSc, i64_w, i32_w]
           rfl
          refine pure_ (i:=10) (N:=some 126) (v:=undef) (a' := ?_) #[true,true,true,true,true,true,true,true,true,true,true,false,false,false,false,false,false,false,false,false,false,false,false,false,false] rfl rfl (any_of HT_.out (by kernel_rfl)) (fun _ _ _ h => h) (Or.inr ⟨by rfl, rfl⟩) ?_ ?_
          rotate_left
          ·simp only [Act.put, zSa, zSb, zSc, i64_w, i32_w]
           rfl
          refine pure_ (i:=11) (N:=some 127) (v:=undef) (a' := ?_) #[true,true,true,true,true,true,true,true,true,true,true,true,false,false,false,false,false,false,false,false,false,false,false,false,false] rfl rfl (any_of HT_.out (by kernel_rfl)) (fun _ _ _ h => h) (Or.inr ⟨by rfl, rfl⟩) ?_ ?_
          rotate_left
          ·simp only [Act.put, zSa, zSb, zSc, i64_w, i32_w]
           rfl
          refine pure_ (i:=12) (N:=some 128) (v:=undef) (a' := ?_) #[true,true,true,true,true,true,true,true,true,true,true,true,true,false,false,false,false,false,false,false,false,false,false,false,false] rfl rfl (any_of HT_.out (by kernel_rfl)) (fun _ _ _ h => h) (Or.inr ⟨by rfl, rfl⟩) ?_ ?_
          rotate_left
          ·simp only [Act.put, zSa, zSb, zSc, i64_w, i32_w]
           rfl
          refine pure_ (i:=13) (N:=some 129) (v:=undef) (a' := ?_) #[true,true,true,true,true,true,true,true,true,true,true,true,true,true,false,false,false,false,false,false,false,false,false,false,false] rfl rfl (any_of HT_.out (by kernel_rfl)) (fun _ _ _ h => h) (Or.inr ⟨by rfl, rfl⟩) ?_ ?_
          rotate_left
          ·simp only [Act.put, zSa, zSb, zSc, i64_w, i32_w]
           rfl
          refine pure_ (i:=14) (N:=some 130) (v:=undef) (a' := ?_) #[true,true,true,true,true,true,true,true,true,true,true,true,true,true,true,false,false,false,false,false,false,false,false,false,false] rfl rfl (any_of HT_.out (by kernel_rfl)) (fun _ _ _ h => h) (Or.inr ⟨by rfl, rfl⟩) ?_ ?_
          rotate_left
          ·simp only [Act.put, zSa, zSb, zSc, i64_w, i32_w]
           rfl
          refine pure_ (i:=15) (N:=some 131) (v:=undef) (a' := ?_) #[true,true,true,true,true,true,true,true,true,true,true,true,true,true,true,true,false,false,false,false,false,false,false,false,false] rfl rfl (any_of HT_.out (by kernel_rfl)) (fun _ _ _ h => h) (Or.inr ⟨by rfl, rfl⟩) ?_ ?_
          rotate_left
          ·simp only [Act.put, zSa, zSb, zSc, i64_w, i32_w]
           rfl
          refine pure_ (i:=16) (N:=some 132) (v:=undef) (a' := ?_) #[true,true,true,true,true,true,true,true,true,true,true,true,true,true,true,true,true,false,false,false,false,false,false,false,false] rfl rfl (any_of HT_.out (by kernel_rfl)) (fun _ _ _ h => h) (Or.inr ⟨by rfl, rfl⟩) ?_ ?_
          rotate_left
          ·simp only [Act.put, zSa, zSb, zSc, i64_w, i32_w]
           rfl
          refine pure_ (i:=17) (N:=some 133) (v:=undef) (a' := ?_) #[true,true,true,true,true,true,true,true,true,true,true,true,true,true,true,true,true,true,false,false,false,false,false,false,false] rfl rfl (any_of HT_.out (by kernel_rfl)) (fun _ _ _ h => h) (Or.inr ⟨by rfl, rfl⟩) ?_ ?_
          rotate_left
          ·simp only [Act.put, zSa, zSb, zSc, i64_w, i32_w]
           rfl
          refine pure_ (i:=18) (N:=some 134) (v:=undef) (a' := ?_) #[true,true,true,true,true,true,true,true,true,true,true,true,true,true,true,true,true,true,true,false,false,false,false,false,false] rfl rfl (any_of HT_.out (by kernel_rfl)) (fun _ _ _ h => h) (Or.inr ⟨by rfl, rfl⟩) ?_ ?_
          rotate_left
          ·simp only [Act.put, zSa, zSb, zSc, i64_w, i32_w]
           rfl
          refine pure_ (i:=19) (N:=some 135) (v:=undef) (a' := ?_) #[true,true,true,true,true,true,true,true,true,true,true,true,true,true,true,true,true,true,true,true,false,false,false,false,false] rfl rfl (any_of HT_.out (by kernel_rfl)) (fun _ _ _ h => h) (Or.inr ⟨by rfl, rfl⟩) ?_ ?_
          rotate_left
          ·simp only [Act.put, zSa, zSb, zSc, i64_w, i32_w]
           rfl
          refine pure_ (i:=20) (N:=some 136) (v:=undef) (a' := ?_) #[true,true,true,true,true,true,true,true,true,true,true,true,true,true,true,true,true,true,true,true,true,false,false,false,false] rfl rfl (any_of HT_.out (by kernel_rfl)) (fun _ _ _ h => h) (Or.inr ⟨by rfl, rfl⟩) ?_ ?_
          rotate_left
          ·simp only [Act.put, zSa, zSb, zSc, i64_w, i32_w]
           rfl
          refine pure_ (i:=21) (N:=some 137) (v:=undef) (a' := ?_) #[true,true,true,true,true,true,true,true,true,true,true,true,true,true,true,true,true,true,true,true,true,true,false,false,false] rfl rfl (any_of HT_.out (by kernel_rfl)) (fun _ _ _ h => h) (Or.inr ⟨by rfl, rfl⟩) ?_ ?_
          rotate_left
          ·simp only [Act.put, zSa, zSb, zSc, i64_w, i32_w]
           rfl
          refine pure_ (i:=22) (N:=some 138) (v:=undef) (a' := ?_) #[true,true,true,true,true,true,true,true,true,true,true,true,true,true,true,true,true,true,true,true,true,true,true,false,false] rfl rfl (any_of HT_.out (by kernel_rfl)) (fun _ _ _ h => h) (Or.inr ⟨by rfl, rfl⟩) ?_ ?_
          rotate_left
          ·simp only [Act.put, zSa, zSb, zSc, i64_w, i32_w]
           rfl
          refine pure_ (i:=23) (N:=some 139) (v:=undef) (a' := ?_) #[true,true,true,true,true,true,true,true,true,true,true,true,true,true,true,true,true,true,true,true,true,true,true,true,false] rfl rfl (any_of HT_.out (by kernel_rfl)) (fun _ _ _ h => h) (Or.inr ⟨by rfl, rfl⟩) ?_ ?_
          rotate_left
          ·simp only [Act.put, zSa, zSb, zSc, i64_w, i32_w]
           rfl
          refine pure_ (i:=24) (N:=some 140) (v:=?_) (a' := ?_) #[true,true,true,true,true,true,true,true,true,true,true,true,true,true,true,true,true,true,true,true,true,true,true,true,true] rfl rfl (any_of HT_.out (by kernel_rfl)) (fun _ _ _ h => h) (Or.inl ⟨by rfl, ?_⟩) ?_ ?_
          rotate_left
          ·intro w'
           go_simp
           with_reducible rfl
          rotate_left
          ·simp only [Act.put, zSa, zSb, zSc, i64_w, i32_w]
           rfl
          refine done_ (done_of HT_.out (by kernel_rfl)) ?_
          try go_wp2
          go_meet
          case rel => exact ⟨_, (true), (by first | rfl | (simp; done) | (simp [*]; done)), H', ⟨by have := HK1.out; have := HK2.out; first | omega | exact Nat.le_refl _⟩, ⟨by (try simp only [hl4_1]); (try simp only [hl10_1]); (try simp only [hl11_1]); exact uR HO_4.out⟩, ⟨by (try simp only [hl4_1]); (try simp only [hl10_1]); (try simp only [hl11_1]); exact uR HO_10.out⟩, ⟨by (try simp only [hl4_1]); (try simp only [hl10_1]); (try simp only [hl11_1]); exact uV HO_11.out⟩, ⟨by exact uT HB.out⟩⟩
         ·rw [if_neg c68] at H
          have c68b0 : decide (0 < (x15_2 / 4294967296)) = false := decide_eq_false c68
          (try (have c68b0l := c68b0; simp only [hl4_1, hl10_1, hl11_1] at c68b0l))
          clear c68
          (first | rw [c68b0] | (simp only [i64_w, i32_w]; rw [c68b0]) | rw [c68b1] | skip)
          obtain ⟨ji70, hji70⟩ : ∃ j_ : Int, (wrap64 ((t177.length : Int) - 2)) = j_ := ⟨_, rfl⟩
          replace H : (if 0 ≤ (ji70) then (if (ji70) < (x11_1.length : Int) then (if 0 ≤ (wrap64 ((wrap64 (x13_1 + (t177.length : Int))) - 2)) then (if (wrap64 ((wrap64 (x13_1 + (t177.length : Int))) - 2)) < (x10_1.length : Int) then (n_DivMod.j2 k2 x4_1 (IntKind.u64.wrap (t170)) x10_1 x11_1 (t177.length : Int) x13_1 x15_2 x16_2 (decide ((IntKind.u64.wrap (x15_2 * (IntKind.u64.wrap (rd x11_1 (ji70))))) > (Go.bits .or .u64 (IntKind.u64.wrap (x16_2 * 4294967296)) (IntKind.u64.wrap (rd x10_1 (wrap64 ((wrap64 (x13_1 + (t177.length : Int))) - 2)))))))) else (none)) else (none)) else (none)) else (none)) = some (r1, r2, r3) := by first | (rw [hji70] at H; exact H) | (simp only [hji70] at H ⊢; exact H)
          have hji70w : (IntKind.i64.wrap ((t177.length : Int) - 2)) = ji70 := (i64_w _).trans hji70
          (try (have hji70l := hji70; simp only [hl4_1, hl10_1, hl11_1] at hji70l))
          (try (have hji70wl := hji70w; simp only [hl4_1, hl10_1, hl11_1] at hji70wl))
          by_cases c71 : 0 ≤ (ji70)
          rotate_left
          ·rw [if_neg c71] at H; exact absurd H (by simp)
          rw [if_pos c71] at H
          have c71b0 : decide (0 ≤ (ji70)) = true := decide_eq_true c71
          (try (have c71b0l := c71b0; simp only [hl4_1, hl10_1, hl11_1] at c71b0l))
          clear c71
          by_cases c72 : (ji70) < (x11_1.length : Int)
          rotate_left
          ·rw [if_neg c72] at H; exact absurd H (by simp)
          rw [if_pos c72] at H
          have c72b0 : decide ((ji70) < (x11_1.length : Int)) = true := decide_eq_true c72
          (try (have c72b0l := c72b0; simp only [hl4_1, hl10_1, hl11_1] at c72b0l))
          clear c72
          obtain ⟨ji73, hji73⟩ : ∃ j_ : Int, (wrap64 ((wrap64 (x13_1 + (t177.length : Int))) - 2)) = j_ := ⟨_, rfl⟩
          replace H : (if 0 ≤ (ji73) then (if (ji73) < (x10_1.length : Int) then (n_DivMod.j2 k2 x4_1 (IntKind.u64.wrap (t170)) x10_1 x11_1 (t177.length : Int) x13_1 x15_2 x16_2 (decide ((IntKind.u64.wrap (x15_2 * (IntKind.u64.wrap (rd x11_1 (ji70))))) > (Go.bits .or .u64 (IntKind.u64.wrap (x16_2 * 4294967296)) (IntKind.u64.wrap (rd x10_1 (ji73))))))) else (none)) else (none)) = some (r1, r2, r3) := by first | (rw [hji73] at H; exact H) | (simp only [hji73] at H ⊢; exact H)
          have hji73w : (IntKind.i64.wrap ((wrap64 (x13_1 + (t177.length : Int))) - 2)) = ji73 := (i64_w _).trans hji73
          (try (have hji73k := hji73; rw [hji54] at hji73k; have hji73kw := (i64_w _).trans hji73k))
          (try (have hji73l := hji73; simp only [hl4_1, hl10_1, hl11_1] at hji73l))
          (try (have hji73wl := hji73w; simp only [hl4_1, hl10_1, hl11_1] at hji73wl))
          by_cases c74 : 0 ≤ (ji73)
          rotate_left
          ·rw [if_neg c74] at H; exact absurd H (by simp)
          rw [if_pos c74] at H
          have c74b0 : decide (0 ≤ (ji73)) = true := decide_eq_true c74
          (try (have c74b0l := c74b0; simp only [hl4_1, hl10_1, hl11_1] at c74b0l))
          clear c74
          by_cases c75 : (ji73) < (x10_1.length : Int)
          rotate_left
          ·rw [if_neg c75] at H; exact absurd H (by simp)
          rw [if_pos c75] at H
          have c75b0 : decide ((ji73) < (x10_1.length : Int)) = true := decide_eq_true c75
          (try (have c75b0l := c75b0; simp only [hl4_1, hl10_1, hl11_1] at c75b0l))
          clear c75
          have H' := zMk H
          clear H
          try go_wp2
          replace HO_4 := zMk (zRd HO_4.out)
          replace HO_10 := zMk (zRd HO_10.out)
          replace HO_11 := zMk (zVd HO_11.out)
          replace HB := zMk (zBd HB.out)
          have p187 : 0 ≤ ((ji70) : Int) := of_decide_eq_true (by first | (with_reducible assumption) | assumption)
          have q187 : (ji70) < (x11_1.length : Int) := of_decide_eq_true (by first | (with_reducible assumption) | assumption)
          obtain ⟨ad187, e187, hx187_0⟩ := zAi (zVr HO_11.out).2.2 (ji70) p187 q187
          obtain rfl : ad185 = ad187 := (by injection e187)
          replace p187 := eq_true p187
          replace q187 := eq_true q187
          have p188 : 0 ≤ ((ji73) : Int) := of_decide_eq_true (by first | (with_reducible assumption) | assumption)
          have q188 : (ji73) < (x10_1.length : Int) := of_decide_eq_true (by first | (with_reducible assumption) | assumption)
          obtain ⟨ad188, e188, hx188_0⟩ := zAi (zRr HO_10.out).2.2 (ji73) p188 q188
          obtain rfl : ad183 = ad188 := (by injection e188)
          replace p188 := eq_true p188
          replace q188 := eq_true q188
          refine start_ (n:=25) (S:=fun w' => w'.cell? (ad185.add ((ji70)).toNat) = some (.int .u32 (rd x11_1 (ji70))) ∧ w'.cell? (ad183.add ((ji73)).toNat) = some (.int .u32 (rd x10_1 (ji73)))) (ds:=[]) #[false,false,false,false,false,false,false,false,false,false,false,false,false,false,false,false,false,false,false,false,false,false,false,false,false] (by kernel_rfl) rfl rfl ⟨hx187_0, hx188_0⟩ (fun hHeld => ?_); refine with_tabW n_DivMod.tab18 n_DivMod.bits18 (fun HT_ HW_ => ?_)
          generalize wr.drew = w76 at HO_4 HO_10 HO_11 HB hx187_0 hx188_0 hHeld ⊢
          refine pure_ (i:=0) (N:=some 116) (v:=?_) (a' := ?_) #[true,false,false,false,false,false,false,false,false,false,false,false,false,false,false,false,false,false,false,false,false,false,false,false,false] rfl rfl (any_of HT_.out (by kernel_rfl)) (fun _ _ _ h => h) (Or.inl ⟨by rfl, ?_⟩) ?_ ?_
          rotate_left
          ·intro w'
           go_simp
           with_reducible rfl
          rotate_left
          ·simp only [Act.put, zSa, zSb, zSc, i64_w, i32_w]
           rfl
          refine pure_ (i:=1) (N:=some 117) (v:=?_) (a' := ?_) #[true,true,false,false,false,false,false,false,false,false,false,false,false,false,false,false,false,false,false,false,false,false,false,false,false] rfl rfl (any_of HT_.out (by kernel_rfl)) (fun _ _ _ h => h) (Or.inl ⟨by rfl, ?_⟩) ?_ ?_
          rotate_left
          ·intro w'
           go_simp
           with_reducible rfl
          rotate_left
          ·simp only [Act.put, zSa, zSb, zSc, i64_w, i32_w]
           rfl
          refine pure_ (i:=2) (N:=some 118) (v:=?_) (a' := ?_) #[true,true,true,false,false,false,false,false,false,false,false,false,false,false,false,false,false,false,false,false,false,false,false,false,false] rfl rfl (any_of HT_.out (by kernel_rfl)) (fun _ _ _ h => h) (Or.inl ⟨by rfl, ?_⟩) ?_ ?_
          rotate_left
          ·intro w'
           go_simp
           with_reducible rfl
          rotate_left
          ·simp only [Act.put, zSa, zSb, zSc, i64_w, i32_w]
           rfl
          refine pure_ (i:=3) (N:=some 119) (v:=?_) (a' := ?_) #[true,true,true,true,false,false,false,false,false,false,false,false,false,false,false,false,false,false,false,false,false,false,false,false,false] rfl rfl (any_of HT_.out (by kernel_rfl)) (fun _ _ _ h => h) (Or.inl ⟨by rfl, ?_⟩) ?_ ?_
          rotate_left
          ·intro w'
           go_simp
           with_reducible rfl
          rotate_left
          ·simp only [Act.put, zSa, zSb, zSc, i64_w, i32_w]
           rfl
          refine pure_ (i:=4) (N:=some 120) (v:=?_) (a' := ?_) #[true,true,true,true,true,false,false,false,false,false,false,false,false,false,false,false,false,false,false,false,false,false,false,false,false] rfl rfl (any_of HT_.out (by kernel_rfl)) (fun _ _ _ h => h) (Or.inl ⟨by rfl, ?_⟩) ?_ ?_
          rotate_left
          ·intro w'
           go_simp
           with_reducible rfl
          rotate_left
          ·simp only [Act.put, zSa, zSb, zSc, i64_w, i32_w]
           rfl
          refine pure_ (i:=5) (N:=some 121) (v:=?_) (a' := ?_) #[true,true,true,true,true,true,false,false,false,false,false,false,false,false,false,false,false,false,false,false,false,false,false,false,false] rfl rfl (any_of HT_.out (by kernel_rfl)) (fun _ _ _ h => h) (Or.inl ⟨by rfl, ?_⟩) ?_ ?_
          rotate_left
          ·intro w'
           go_simp
           with_reducible rfl
          rotate_left
          ·simp only [Act.put, zSa, zSb, zSc, i64_w, i32_w]
           rfl
          refine pure_ (i:=6) (N:=some 122) (v:=?_) (a' := ?_) #[true,true,true,true,true,true,true,false,false,false,false,false,false,false,false,false,false,false,false,false,false,false,false,false,false] rfl rfl (any_of HT_.out (by kernel_rfl)) (fun _ _ _ h => h) (Or.inl ⟨by rfl, ?_⟩) ?_ ?_
          rotate_left
          ·intro w'
           go_simp
           with_reducible rfl
          rotate_left
          ·simp only [Act.put, zSa, zSb, zSc, i64_w, i32_w]
           rfl
          refine pure_ (i:=7) (N:=some 123) (v:=?_) (a' := ?_) #[true,true,true,true,true,true,true,true,false,false,false,false,false,false,false,false,false,false,false,false,false,false,false,false,false] rfl rfl (any_of HT_.out (by kernel_rfl)) (fun _ _ _ h => h) (Or.inl ⟨by rfl, ?_⟩) ?_ ?_
          rotate_left
          ·intro w'
           go_simp
           with_reducible rfl
          rotate_left
          ·simp only [Act.put, zSa, zSb, zSc, i64_w, i32_w]
           rfl
          refine pure_ (i:=8) (N:=some 124) (v:=?_) (a' := ?_) #[true,true,true,true,true,true,true,true,true,false,false,false,false,false,false,false,false,false,false,false,false,false,false,false,false] rfl rfl (any_of HT_.out (by kernel_rfl)) (fun _ _ _ h => h) (Or.inl ⟨by rfl, ?_⟩) ?_ ?_
          rotate_left
          ·intro w'
           go_simp
           with_reducible rfl
          rotate_left
          ·simp only [Act.put, zSa, zSb, zSc, i64_w, i32_w]
           rfl
          refine pure_ (i:=12) (N:=some 128) (v:=?_) (a' := ?_) #[true,true,true,true,true,true,true,true,true,false,false,false,true,false,false,false,false,false,false,false,false,false,false,false,false] rfl rfl (any_of HT_.out (by kernel_rfl)) (fun _ _ _ h => h) (Or.inl ⟨by rfl, ?_⟩) ?_ ?_
          rotate_left
          ·intro w'
           go_simp
           with_reducible rfl
          rotate_left
          ·simp only [Act.put, zSa, zSb, zSc, i64_w, i32_w]
           rfl
          refine pure_ (i:=13) (N:=some 129) (v:=?_) (a' := ?_) #[true,true,true,true,true,true,true,true,true,false,false,false,true,true,false,false,false,false,false,false,false,false,false,false,false] rfl rfl (any_of HT_.out (by kernel_rfl)) (fun _ _ _ h => h) (Or.inl ⟨by rfl, ?_⟩) ?_ ?_
          rotate_left
          ·intro w'
           go_simp
           with_reducible rfl
          rotate_left
          ·simp only [Act.put, zSa, zSb, zSc, i64_w, i32_w]
           rfl
          refine pure_ (i:=14) (N:=some 130) (v:=?_) (a' := ?_) #[true,true,true,true,true,true,true,true,true,false,false,false,true,true,true,false,false,false,false,false,false,false,false,false,false] rfl rfl (any_of HT_.out (by kernel_rfl)) (fun _ _ _ h => h) (Or.inl ⟨by rfl, ?_⟩) ?_ ?_
          rotate_left
          ·intro w'
           go_simp
           with_reducible rfl
          rotate_left
          ·simp only [Act.put, zSa, zSb, zSc, i64_w, i32_w]
           rfl
          refine pure_ (i:=15) (N:=some 131) (v:=?_) (a' := ?_) #[true,true,true,true,true,true,true,true,true,false,false,false,true,true,true,true,false,false,false,false,false,false,false,false,false] rfl rfl (any_of HT_.out (by kernel_rfl)) (fun _ _ _ h => h) (Or.inl ⟨by rfl, ?_⟩) ?_ ?_
          rotate_left
          ·intro w'
           go_simp
           with_reducible rfl
          rotate_left
          ·simp only [Act.put, zSa, zSb, zSc, i64_w, i32_w]
           rfl
          refine pure_ (i:=16) (N:=some 132) (v:=?_) (a' := ?_) #[true,true,true,true,true,true,true,true,true,false,false,false,true,true,true,true,true,false,false,false,false,false,false,false,false] rfl rfl (any_of HT_.out (by kernel_rfl)) (fun _ _ _ h => h) (Or.inl ⟨by rfl, ?_⟩) ?_ ?_
          rotate_left
          ·intro w'
           go_simp
           with_reducible rfl
          rotate_left
          ·simp only [Act.put, zSa, zSb, zSc, i64_w, i32_w]
           rfl
          refine pure_ (i:=17) (N:=some 133) (v:=?_) (a' := ?_) #[true,true,true,true,true,true,true,true,true,false,false,false,true,true,true,true,true,true,false,false,false,false,false,false,false] rfl rfl (any_of HT_.out (by kernel_rfl)) (fun _ _ _ h => h) (Or.inl ⟨by rfl, ?_⟩) ?_ ?_
          rotate_left
          ·intro w'
           go_simp
           with_reducible rfl
          rotate_left
          ·simp only [Act.put, zSa, zSb, zSc, i64_w, i32_w]
           rfl
          refine pure_ (i:=18) (N:=some 134) (v:=?_) (a' := ?_) #[true,true,true,true,true,true,true,true,true,false,false,false,true,true,true,true,true,true,true,false,false,false,false,false,false] rfl rfl (any_of HT_.out (by kernel_rfl)) (fun _ _ _ h => h) (Or.inl ⟨by rfl, ?_⟩) ?_ ?_
          rotate_left
          ·intro w'
           go_simp
           with_reducible rfl
          rotate_left
          ·simp only [Act.put, zSa, zSb, zSc, i64_w, i32_w]
           rfl
          refine pure_ (i:=19) (N:=some 135) (v:=?_) (a' := ?_) #[true,true,true,true,true,true,true,true,true,false,false,false,true,true,true,true,true,true,true,true,false,false,false,false,false] rfl rfl (any_of HT_.out (by kernel_rfl)) (fun _ _ _ h => h) (Or.inl ⟨by rfl, ?_⟩) ?_ ?_
          rotate_left
          ·intro w'
           go_simp
           with_reducible rfl
          rotate_left
          ·simp only [Act.put, zSa, zSb, zSc, i64_w, i32_w]
           rfl
          refine take_ (i:=9) (N:=some 125) (v:=?_) (a' := ?_) #[true,true,true,true,true,true,true,true,true,true,false,false,true,true,true,true,true,true,true,true,false,false,false,false,false] rfl rfl (take_ofW HT_.out HW_.out (by kernel_rfl)) (fun _ _ _ h => h) (Or.inl ⟨by rfl, ?_⟩) hHeld ?_ ?_
          rotate_left
          ·rintro w' ⟨s0, s1⟩
           go_simp
           with_reducible rfl
          rotate_left
          ·simp only [Act.put, zSa, zSb, zSc, i64_w, i32_w]
           rfl
          refine pure_ (i:=10) (N:=some 126) (v:=?_) (a' := ?_) #[true,true,true,true,true,true,true,true,true,true,true,false,true,true,true,true,true,true,true,true,false,false,false,false,false] rfl rfl (any_of HT_.out (by kernel_rfl)) (fun _ _ _ h => h) (Or.inl ⟨by rfl, ?_⟩) ?_ ?_
          rotate_left
          ·intro w'
           go_simp
           with_reducible rfl
          rotate_left
          ·simp only [Act.put, zSa, zSb, zSc, i64_w, i32_w]
           rfl
          refine pure_ (i:=11) (N:=some 127) (v:=?_) (a' := ?_) #[true,true,true,true,true,true,true,true,true,true,true,true,true,true,true,true,true,true,true,true,false,false,false,false,false] rfl rfl (any_of HT_.out (by kernel_rfl)) (fun _ _ _ h => h) (Or.inl ⟨by rfl, ?_⟩) ?_ ?_
          rotate_left
          ·intro w'
           go_simp
           with_reducible rfl
          rotate_left
          ·simp only [Act.put, zSa, zSb, zSc, i64_w, i32_w]
           rfl
          refine take_ (i:=20) (N:=some 136) (v:=?_) (a' := ?_) #[true,true,true,true,true,true,true,true,true,true,true,true,true,true,true,true,true,true,true,true,true,false,false,false,false] rfl rfl (take_ofW HT_.out HW_.out (by kernel_rfl)) (fun _ _ _ h => h) (Or.inl ⟨by rfl, ?_⟩) hHeld ?_ ?_
          rotate_left
          ·rintro w' ⟨s0, s1⟩
           go_simp
           with_reducible rfl
          rotate_left
          ·simp only [Act.put, zSa, zSb, zSc, i64_w, i32_w]
           rfl
          refine pure_ (i:=21) (N:=some 137) (v:=?_) (a' := ?_) #[true,true,true,true,true,true,true,true,true,true,true,true,true,true,true,true,true,true,true,true,true,true,false,false,false] rfl rfl (any_of HT_.out (by kernel_rfl)) (fun _ _ _ h => h) (Or.inl ⟨by rfl, ?_⟩) ?_ ?_
          rotate_left
          ·intro w'
           go_simp
           with_reducible rfl
          rotate_left
          ·simp only [Act.put, zSa, zSb, zSc, i64_w, i32_w]
           rfl
          refine pure_ (i:=22) (N:=some 138) (v:=?_) (a' := ?_) #[true,true,true,true,true,true,true,true,true,true,true,true,true,true,true,true,true,true,true,true,true,true,true,false,false] rfl rfl (any_of HT_.out (by kernel_rfl)) (fun _ _ _ h => h) (Or.inl ⟨by rfl, ?_⟩) ?_ ?_
          rotate_left
          ·intro w'
           go_simp
           with_reducible rfl
          rotate_left
          ·simp only [Act.put, zSa, zSb, zSc, i64_w, i32_w]
           rfl
          refine pure_ (i:=23) (N:=some 139) (v:=?_) (a' := ?_) #[true,true,true,true,true,true,true,true,true,true,true,true,true,true,true,true,true,true,true,true,true,true,true,true,false] rfl rfl (any_of HT_.out (by kernel_rfl)) (fun _ _ _ h => h) (Or.inl ⟨by rfl, ?_⟩) ?_ ?_
          rotate_left
          ·intro w'
           go_simp
           with_reducible rfl
          rotate_left
          ·simp only [Act.put, zSa, zSb, zSc, i64_w, i32_w]
           rfl
          refine pure_ (i:=24) (N:=some 140) (v:=?_) (a' := ?_) #[true,true,true,true,true,true,true,true,true,true,true,true,true,true,true,true,true,true,true,true,true,true,true,true,true] rfl rfl (any_of HT_.out (by kernel_rfl)) (fun _ _ _ h => h) (Or.inl ⟨by rfl, ?_⟩) ?_ ?_
          rotate_left
          ·intro w'
           go_simp
           with_reducible rfl
          rotate_left
          ·simp only [Act.put, zSa, zSb, zSc, i64_w, i32_w]
           rfl
          refine done_ (done_of HT_.out (by kernel_rfl)) ?_
          try go_wp2
          go_meet
          case rel => exact ⟨_, (decide ((IntKind.u64.wrap (x15_2 * (IntKind.u64.wrap (rd x11_1 (ji70))))) > (Go.bits .or .u64 (IntKind.u64.wrap (x16_2 * 4294967296)) (IntKind.u64.wrap (rd x10_1 (ji73)))))), (by first | rfl | (simp; done) | (simp only [← hji70, ← hji73] <;> (first | rfl | simp)) | (simp [*]; done)), H', ⟨by have := HK1.out; have := HK2.out; first | omega | exact Nat.le_refl _⟩, ⟨by (try simp only [hl4_1]); (try simp only [hl10_1]); (try simp only [hl11_1]); exact uR HO_4.out⟩, ⟨by (try simp only [hl4_1]); (try simp only [hl10_1]); (try simp only [hl11_1]); exact uR HO_10.out⟩, ⟨by (try simp only [hl4_1]); (try simp only [hl10_1]); (try simp only [hl11_1]); exact uV HO_11.out⟩, ⟨by exact uT HB.out⟩⟩
        case rest =>
         clear HC67
         obtain ⟨kq, x140_66, rfl, HA, HJ66, HO_4, HO_10, HO_11, HB⟩ := hcut
         rcases kq with _ | kj66
         ·exact absurd HA.out (by simp [n_DivMod.j2])
         have H := HA.out
         clear HA
         simp only [n_DivMod.j2] at H
         by_cases c77 : x140_66 = true
         ·subst c77
          replace H : (if 0 ≤ (wrap64 ((t177.length : Int) - 1)) then (if (wrap64 ((t177.length : Int) - 1)) < (x11_1.length : Int) then (if ((IntKind.u64.wrap (x16_2 + (IntKind.u64.wrap (rd x11_1 (wrap64 ((t177.length : Int) - 1)))))) / 4294967296) > 0 then (n_DivMod.j3 kj66 x4_1 (IntKind.u64.wrap (t170)) x10_1 x11_1 (t177.length : Int) x13_1 (IntKind.u64.wrap (x15_2 - 1))) else (n_DivMod.l1 kj66 x4_1 (IntKind.u64.wrap (t170)) x10_1 x11_1 (t177.length : Int) x13_1 (IntKind.u64.wrap (x15_2 - 1)) (IntKind.u64.wrap (x16_2 + (IntKind.u64.wrap (rd x11_1 (wrap64 ((t177.length : Int) - 1)))))))) else (none)) else (none)) = some (r1, r2, r3) := by rw [if_pos rfl] at H; exact H
          (try clear hji60)
          (try clear hji60w)
          (try clear hji60l)
          (try clear hji60wl)
          (try clear hji60k)
          (try clear hji60kw)
          obtain ⟨ji78, hji78⟩ : ∃ j_ : Int, (wrap64 ((t177.length : Int) - 1)) = j_ := ⟨_, rfl⟩
          replace H : (if 0 ≤ (ji78) then (if (ji78) < (x11_1.length : Int) then (if ((IntKind.u64.wrap (x16_2 + (IntKind.u64.wrap (rd x11_1 (ji78))))) / 4294967296) > 0 then (n_DivMod.j3 kj66 x4_1 (IntKind.u64.wrap (t170)) x10_1 x11_1 (t177.length : Int) x13_1 (IntKind.u64.wrap (x15_2 - 1))) else (n_DivMod.l1 kj66 x4_1 (IntKind.u64.wrap (t170)) x10_1 x11_1 (t177.length : Int) x13_1 (IntKind.u64.wrap (x15_2 - 1)) (IntKind.u64.wrap (x16_2 + (IntKind.u64.wrap (rd x11_1 (ji78))))))) else (none)) else (none)) = some (r1, r2, r3) := by first | (rw [hji78] at H; exact H) | (simp only [hji78] at H ⊢; exact H)
          have hji78w : (IntKind.i64.wrap ((t177.length : Int) - 1)) = ji78 := (i64_w _).trans hji78
          (try (have hji78l := hji78; simp only [hl4_1, hl10_1, hl11_1] at hji78l))
          (try (have hji78wl := hji78w; simp only [hl4_1, hl10_1, hl11_1] at hji78wl))
          by_cases c79 : 0 ≤ (ji78)
          rotate_left
          ·rw [if_neg c79] at H; exact absurd H (by simp)
          rw [if_pos c79] at H
          have c79b0 : decide (0 ≤ (ji78)) = true := decide_eq_true c79
          (try (have c79b0l := c79b0; simp only [hl4_1, hl10_1, hl11_1] at c79b0l))
          clear c79
          by_cases c80 : (ji78) < (x11_1.length : Int)
          rotate_left
          ·rw [if_neg c80] at H; exact absurd H (by simp)
          rw [if_pos c80] at H
          have c80b0 : decide ((ji78) < (x11_1.length : Int)) = true := decide_eq_true c80
          (try (have c80b0l := c80b0; simp only [hl4_1, hl10_1, hl11_1] at c80b0l))
          clear c80
          by_cases c81 : ((IntKind.u64.wrap (x16_2 + (IntKind.u64.wrap (rd x11_1 (ji78))))) / 4294967296) > 0
          ·rw [if_pos c81] at H
           have c81b0 : decide (0 < ((IntKind.u64.wrap (x16_2 + (IntKind.u64.wrap (rd x11_1 (ji78))))) / 4294967296)) = true := decide_eq_true c81
           (try (have c81b0l := c81b0; simp only [hl4_1, hl10_1, hl11_1] at c81b0l))
           clear c81
           have H' := zMk H
           clear H
           have p189 : 0 ≤ ((ji78) : Int) := of_decide_eq_true (by first | (with_reducible assumption) | assumption)
           have q189 : (ji78) < (x11_1.length : Int) := of_decide_eq_true (by first | (with_reducible assumption) | assumption)
           obtain ⟨ad189, e189, hx189_0⟩ := zAi (zVr HO_11.out).2.2 (ji78) p189 q189
           obtain rfl : ad185 = ad189 := (by injection e189)
           replace p189 := eq_true p189
           replace q189 := eq_true q189
           go_wp2
           go_meet
           case rel => exact ⟨_, (IntKind.u64.wrap (x15_2 - 1)), (by first | rfl | (simp; done) | (simp [*]; done)), H', ⟨by have := HK1.out; have := HK2.out; have := HJ66.out; first | omega | exact Nat.le_refl _⟩, ⟨by (try simp only [hl4_1]); (try simp only [hl10_1]); (try simp only [hl11_1]); exact uR HO_4.out⟩, ⟨by (try simp only [hl4_1]); (try simp only [hl10_1]); (try simp only [hl11_1]); exact uR HO_10.out⟩, ⟨by (try simp only [hl4_1]); (try simp only [hl10_1]); (try simp only [hl11_1]); exact uV HO_11.out⟩, ⟨by exact uT HB.out⟩⟩
          ·rw [if_neg c81] at H
           have c81b0 : decide (0 < ((IntKind.u64.wrap (x16_2 + (IntKind.u64.wrap (rd x11_1 (ji78))))) / 4294967296)) = false := decide_eq_false c81
           (try (have c81b0l := c81b0; simp only [hl4_1, hl10_1, hl11_1] at c81b0l))
           clear c81
           have H' := zMk H
           clear H
           have p189 : 0 ≤ ((ji78) : Int) := of_decide_eq_true (by first | (with_reducible assumption) | assumption)
           have q189 : (ji78) < (x11_1.length : Int) := of_decide_eq_true (by first | (with_reducible assumption) | assumption)
           obtain ⟨ad189, e189, hx189_0⟩ := zAi (zVr HO_11.out).2.2 (ji78) p189 q189
           obtain rfl : ad185 = ad189 := (by injection e189)
           replace p189 := eq_true p189
           replace q189 := eq_true q189
           go_wp2
           go_roundg kj66
           case measure => have := HK1.out; have := HK2.out; have := HJ66.out; omega
           case rel => exact ⟨(IntKind.u64.wrap (x15_2 - 1)), (IntKind.u64.wrap (x16_2 + (IntKind.u64.wrap (rd x11_1 (ji78))))), (by first | rfl | (simp; done) | (simp [*]; done)), (by first | rfl | (simp; done) | (simp only [← hji78] <;> (first | rfl | simp)) | (simp [*]; done)), H', ⟨by have := HK1.out; have := HK2.out; have := HJ66.out; omega⟩, ⟨by (try simp only [hl4_1]); (try simp only [hl10_1]); (try simp only [hl11_1]); exact uR HO_4.out⟩, ⟨by (try simp only [hl4_1]); (try simp only [hl10_1]); (try simp only [hl11_1]); exact uR HO_10.out⟩, ⟨by (try simp only [hl4_1]); (try simp only [hl10_1]); (try simp only [hl11_1]); exact uV HO_11.out⟩, ⟨by exact uT HB.out⟩⟩
         ·replace c77 := Bool.eq_false_iff.mpr c77
          subst c77
          replace H : (n_DivMod.j3 kj66 x4_1 (IntKind.u64.wrap (t170)) x10_1 x11_1 (t177.length : Int) x13_1 x15_2) = some (r1, r2, r3) := by rw [if_neg (show ¬ (false = true) by decide)] at H; exact H
          have H' := zMk H
          clear H
          go_wp2
          go_meet
          case rel => exact ⟨_, (x15_2), (by first | rfl | (simp; done) | (simp [*]; done)), H', ⟨by have := HK1.out; have := HK2.out; have := HJ66.out; first | omega | exact Nat.le_refl _⟩, ⟨by (try simp only [hl4_1]); (try simp only [hl10_1]); (try simp only [hl11_1]); exact uR HO_4.out⟩, ⟨by (try simp only [hl4_1]); (try simp only [hl10_1]); (try simp only [hl11_1]); exact uR HO_10.out⟩, ⟨by (try simp only [hl4_1]); (try simp only [hl10_1]); (try simp only [hl11_1]); exact uV HO_11.out⟩, ⟨by exact uT HB.out⟩⟩
       case rest =>
        clear HC64
        obtain ⟨kq, x15_63, rfl, HA, HJ63, HO_4, HO_10, HO_11, HB⟩ := hcut
        rcases kq with _ | kj63
        ·exact absurd HA.out (by simp [n_DivMod.j3])
        have H := HA.out
        clear HA
        simp only [n_DivMod.j3] at H
        replace H := bnd H
        obtain ⟨t190, A820, H⟩ := H
        have A82 := zMk A820
        clear A820
        replace H := bnd H
        obtain ⟨t193, A830, H⟩ := H
        have A83 := zMk A830
        clear A830
        by_cases c84 : 0 ≤ x13_1
        rotate_left
        ·rw [if_neg c84] at H; exact absurd H (by simp)
        rw [if_pos c84] at H
        have c84b0 := eq_true c84
        have c84b1 : decide (0 ≤ x13_1) = true := decide_eq_true c84
        clear c84
        by_cases c85 : x13_1 ≤ (wrap64 ((wrap64 (x13_1 + (t177.length : Int))) + 1))
        rotate_left
        ·rw [if_neg c85] at H; exact absurd H (by simp)
        rw [if_pos c85] at H
        have c85b0 := eq_true c85
        have c85b1 : decide (x13_1 ≤ (wrap64 ((wrap64 (x13_1 + (t177.length : Int))) + 1))) = true := decide_eq_true c85
        by_cases c86 : (wrap64 ((wrap64 (x13_1 + (t177.length : Int))) + 1)) ≤ (x10_1.length : Int)
        rotate_left
        ·rw [if_neg c86] at H; exact absurd H (by simp)
        rw [if_pos c86] at H
        have c86b0 := eq_true c86
        have c86b1 : decide ((wrap64 ((wrap64 (x13_1 + (t177.length : Int))) + 1)) ≤ (x10_1.length : Int)) = true := decide_eq_true c86
        obtain ⟨y196, hy196⟩ : ∃ y_ : List Int, y_ = ((x10_1.take ((wrap64 ((wrap64 (x13_1 + (t177.length : Int))) + 1)) : Int).toNat).drop (x13_1 : Int).toNat) := ⟨_, rfl⟩
        replace H : ((n_less_at.f kj63 x10_1 x13_1 (wrap64 ((wrap64 (x13_1 + (t177.length : Int))) + 1)) t193).bind fun bt200 => (if bt200.1 > 0 then (n_DivMod.l2 kj63 x4_1 (IntKind.u64.wrap (t170)) bt200.2 x11_1 (t177.length : Int) x13_1 (IntKind.u64.wrap (x15_63 - 1)) 0 (wrap64 ((t177.length : Int) + 1)) 0) else (if x13_1 < (x4_1.length : Int) then (n_DivMod.l0 kj63 (x4_1.set (x13_1 : Int).toNat ((x15_63) % 4294967296)) (IntKind.u64.wrap (t170)) bt200.2 x11_1 (t177.length : Int) (wrap64 (x13_1 - 1))) else (none)))) = some (r1, r2, r3) := by first | (rw [hy196]; with_reducible exact H) | (have H2_ := bsm H; first | (rw [hy196]; with_reducible exact H2_) | with_reducible exact H2_) | with_reducible exact H | (rw [hy196]; exact H) | exact H
        have Ny196 := zMk hy196
        clear hy196
        replace H := bnd H
        obtain ⟨⟨t200, t201⟩, A870, H⟩ := H
        replace H : (if t200 > 0 then (n_DivMod.l2 kj63 x4_1 (IntKind.u64.wrap (t170)) t201 x11_1 (t177.length : Int) x13_1 (IntKind.u64.wrap (x15_63 - 1)) 0 (wrap64 ((t177.length : Int) + 1)) 0) else (if x13_1 < (x4_1.length : Int) then (n_DivMod.l0 kj63 (x4_1.set (x13_1 : Int).toNat ((x15_63) % 4294967296)) (IntKind.u64.wrap (t170)) t201 x11_1 (t177.length : Int) (wrap64 (x13_1 - 1))) else (none))) = some (r1, r2, r3) := H
        have A87 := zMk A870
        clear A870
        by_cases c88 : t200 > 0
        ·rw [if_pos c88] at H
         have c88b0 : decide (0 < t200) = true := decide_eq_true c88
         (try (have c88b0l := c88b0; simp only [hl4_1, hl10_1, hl11_1] at c88b0l))
         clear c88
         have H' := zMk H
         clear H
         (try clear hji54)
         (try clear hji54w)
         (try clear hji54l)
         (try clear hji54wl)
         (try clear hji54k)
         (try clear hji54kw)
         (try clear hji57)
         (try clear hji57w)
         (try clear hji57l)
         (try clear hji57wl)
         (try clear hji57k)
         (try clear hji57kw)
         (try clear hji60)
         (try clear hji60w)
         (try clear hji60l)
         (try clear hji60wl)
         (try clear hji60k)
         (try clear hji60kw)
         go_wp2_with (first | ((with_reducible refine gate_callee (f:=34) rfl ?_); refine goesL_ (some 156) rfl rfl Tryd.func34 (by kernel_rfl) rfl #[.int .u64 x15_63] rfl (by (try simp only [zMa, zMc, zMn]); first |  done|  rfl|  (simp only [zLd, zLt]; rfl)) ?_; (with_reducible refine (n_Of.calls x15_63 t190 _ A82.out).mono ?_); rintro e w89 ⟨v191, rfl, ho0, hb⟩; refine ⟨_, rfl, ?_⟩; replace HO_11 := zMk (zVb (uV HO_11.out) hb); have HO192 := zMk (zVl (zVm (ok' := fun k_ => ((P0_ k_ ∨ P1_ k_) ∨ w.heap.size ≤ k_) ∧ some k_ ≠ (.slice Ao52 x4_1.length co52 : Value).ownBlock ∧ some k_ ≠ (.slice (some ad183) x10_1.length co49 : Value).ownBlock) ho0 (fun k_ hk_ => ⟨(.inr (Nat.le_trans (zBs (uT HB.out)) hk_)), (Kd.fresh' (zRt (uR HO_4.out)) k_ hk_), (Kd.fresh' (zRt (uR HO_10.out)) k_ hk_)⟩)) (zBs (uT HB.out))); replace HO_4 := zMk (zRb (uR HO_4.out) hb); replace HO_10 := zMk (zRb (uR HO_10.out) hb); replace HB := zMk (zBt (uT HB.out) hb); (try clear hb); (try clear hb2); (try clear hk); (try clear hi); (try clear ho0); obtain ⟨Ao90, co90, eo90⟩ := zVs HO192.out; subst eo90)|((with_reducible refine gate_callee (f:=45) rfl ?_); refine goesL_ (some 157) rfl rfl Tryd.func45 (by kernel_rfl) rfl #[.slice (some ad185) x11_1.length co48, .slice Ao90 t190.length co90] rfl (by (try simp only [zMa, zMc, zMn]); first |  done|  rfl|  (simp only [zLd, zLt]; rfl)) ?_; (with_reducible refine (n_Mul.calls kj63 (fun k_ => (((P0_ k_ ∨ P1_ k_) ∨ w.heap.size ≤ k_) ∧ (some k_ ≠ (.slice Ao52 x4_1.length co52 : Value).ownBlock ∧ some k_ ≠ (.slice (some ad183) x10_1.length co49 : Value).ownBlock))) _ _ x11_1 (fun k_ => (((P0_ k_ ∨ P1_ k_) ∨ w.heap.size ≤ k_) ∧ (some k_ ≠ (.slice Ao52 x4_1.length co52 : Value).ownBlock ∧ some k_ ≠ (.slice (some ad183) x10_1.length co49 : Value).ownBlock))) _ _ t190 t193 _ ?side1 ?side2 A83.out).mono ?_); (case side1 => exact HO_11.out); (case side2 => exact HO192.out); rintro e w91 ⟨v194, rfl, ho0, hb⟩; refine ⟨_, rfl, ?_⟩; replace HO_11 := zMk (zVb (uV HO_11.out) hb); replace HO192 := zMk (zVb (uV HO192.out) hb); have HO195 := zMk (zVl (zVm (ok' := fun k_ => ((P0_ k_ ∨ P1_ k_) ∨ w.heap.size ≤ k_) ∧ some k_ ≠ (.slice Ao52 x4_1.length co52 : Value).ownBlock ∧ some k_ ≠ (.slice (some ad183) x10_1.length co49 : Value).ownBlock) ho0 (fun k_ hk_ => ⟨Or.elim hk_ (fun hs_ => Or.elim hs_ (fun hs_ => hs_.1) (fun hs_ => hs_.1)) (fun hn_ => (.inr (Nat.le_trans (zBs (uT HB.out)) hn_))), Or.elim hk_ (fun hs_ => Or.elim hs_ (fun hs_ => hs_.2.1) (fun hs_ => hs_.2.1)) (fun hn_ => (Kd.fresh' (zRt (uR HO_4.out)) k_ hn_)), Or.elim hk_ (fun hs_ => Or.elim hs_ (fun hs_ => hs_.2.2) (fun hs_ => hs_.2.2)) (fun hn_ => (Kd.fresh' (zRt (uR HO_10.out)) k_ hn_))⟩)) (zBs (uT HB.out))); replace HO_4 := zMk (zRb (uR HO_4.out) hb); replace HO_10 := zMk (zRb (uR HO_10.out) hb); replace HB := zMk (zBt (uT HB.out) hb); (try clear hb); (try clear hb2); (try clear hk); (try clear hi); (try clear ho0); have q92 : ((wrap64 ((wrap64 (x13_1 + (t177.length : Int))) + 1)) : Int) ≤ ((x10_1.length : Int) : Int) := of_decide_eq_true (by first | (with_reducible assumption)|  assumption); obtain ⟨i092, hi092, _, hsz92, _⟩ := info_parts info58; have hroom92 : x10_1.length ≤ co49 := (zRr HO_10.out).2.1; have hC92 : Kd.C (Kd.int .u32) _ (some ad183) x10_1.length x10_1 := (zRr HO_10.out).2.2; have ql92 : (x13_1 : Int) ≤ ((wrap64 ((wrap64 (x13_1 + (t177.length : Int))) + 1)) : Int) := of_decide_eq_true (by first | (with_reducible assumption)|  assumption); have q092 : (0 : Int) ≤ (x13_1 : Int) := of_decide_eq_true (by first | (with_reducible assumption)|  assumption); have hcut92 := cut_mid (P:=Tryd.prog) 22 58 .i64 .i64 Tryd.underlying22 hi092 1 hsz92 (some ad183) x10_1.length co49 x13_1 (wrap64 ((wrap64 (x13_1 + (t177.length : Int))) + 1)) q092 ql92 q92 hroom92; have hr92 := Kd.C_mid (lo:=(x13_1 : Int).toNat) (hi:=((wrap64 ((wrap64 (x13_1 + (t177.length : Int))) + 1)) : Int).toNat) (c:=co49) hC92 (by omega) (by omega) hroom92; obtain ⟨A92, hA92⟩ : ∃ A1, A1 = (if co49 = (x13_1 : Int).toNat then (some ad183) else ((some ad183) : Option Addr).map (·.add ((x13_1 : Int).toNat * 1))) := ⟨_, rfl⟩; obtain ⟨c92, hc92⟩ : ∃ c1, c1 = co49 - (x13_1 : Int).toNat := ⟨_, rfl⟩; have hy92 : y196.length = ((wrap64 ((wrap64 (x13_1 + (t177.length : Int))) + 1)) : Int).toNat - (x13_1 : Int).toNat := (by rw [Ny196.out, zLd, zLt] <;> omega); rw [show ((x10_1).take ((wrap64 ((wrap64 (x13_1 + (t177.length : Int))) + 1)) : Int).toNat).drop (x13_1 : Int).toNat = y196 from Ny196.out.symm] at hr92; replace hr92 : Kd.C (Kd.int .u32) _ A92 y196.length y196 := (by rw [hA92]; exact hr92); rw [← hy92, ← hA92, ← hc92] at hcut92; (try (have hcut92l := hcut92; simp only [hl4_1, hl10_1, hl11_1] at hcut92l)); have HR199 := zMk hr92; have HC199 := zMk (show y196.length ≤ c92 from by rw [hy92, hc92]; exact Nat.sub_le_sub_right (Nat.le_trans (by omega) hroom92) _); clear hr92 hC92 hroom92 hi092 hsz92 hc92; have KY92 := zMk hy92; have KA92 := zMk hA92; clear hy92 hA92; have KL92 := zMk (show ((wrap64 ((wrap64 (x13_1 + (t177.length : Int))) + 1)) : Int).toNat ≤ x10_1.length from by omega); have KM92 := zMk (show (x13_1 : Int).toNat ≤ ((wrap64 ((wrap64 (x13_1 + (t177.length : Int))) + 1)) : Int).toNat from by omega); replace q92 := eq_true q92; obtain ⟨Ao93, co93, eo93⟩ := zVs HO195.out; subst eo93)|((with_reducible refine gate_callee (f:=61) rfl ?_); refine goesL_ (some 166) rfl rfl Tryd.func61 (by kernel_rfl) rfl #[.slice A92 y196.length c92, .slice Ao93 t193.length co93] rfl (by (try simp only [zMa, zMc, zMn]); first |  done|  rfl|  (simp only [zLd, zLt]; rfl)) ?_; (with_reducible refine (n_less_at.calls kj63 (fun k_ => some k_ = (.slice (some ad183) x10_1.length co49 : Value).ownBlock) (.slice (some ad183) x10_1.length co49) x10_1 x13_1 (wrap64 ((wrap64 (x13_1 + (t177.length : Int))) + 1)) _ _ t193 t200 t201 w _ ?side1 ?side2 ?side3 ?side4 A87.out _ _ _ (CutIs.mk KA92.out KY92.out HC199.out)).mono ?_); (case side1 => exact uT HB.out); (case side2 => exact Kd.R_tight rfl HO_10.out); (case side3 => exact Kd.C_kept_ownV (HO195.out) (fun k_ hk_ hs_ => (hk_.2.2) hs_)); (case side4 => exact (zVr HO195.out).2.1); rintro e w94 ⟨rfl, hy0, hb, hkp⟩; refine ⟨_, rfl, ?_⟩; replace HO_4 := zMk (zRm (ok' := fun k_ => (w.heap.size ≤ k_) ∧ some k_ ≠ (.slice (some ad183) x10_1.length co49 : Value).ownBlock) (Kd.R_keptB (HO_4.out) hkp (fun k_ hk_ hs_ => (hk_.2) hs_)) (fun k_ hk_ => ⟨hk_.1.1, hk_.1.2⟩)); replace HO_10 := zMk (Kd.R_reok rfl hy0 (fun k_ e_ => HO_10.out.1 k_ e_)); replace HO_11 := zMk (zVm (ok' := fun k_ => ((P0_ k_ ∨ P1_ k_) ∨ w.heap.size ≤ k_) ∧ some k_ ≠ (.slice Ao52 x4_1.length co52 : Value).ownBlock ∧ some k_ ≠ (.slice (some ad183) x10_1.length co49 : Value).ownBlock) (Kd.V_keptB (HO_11.out) hkp (fun k_ hk_ hs_ => (hk_.2.2) hs_)) (fun k_ hk_ => ⟨hk_.1.1, hk_.1.2.1, hk_.1.2.2⟩)); replace HO192 := zMk (zVm (ok' := fun k_ => ((P0_ k_ ∨ P1_ k_) ∨ w.heap.size ≤ k_) ∧ some k_ ≠ (.slice Ao52 x4_1.length co52 : Value).ownBlock ∧ some k_ ≠ (.slice (some ad183) x10_1.length co49 : Value).ownBlock) (Kd.V_keptB (HO192.out) hkp (fun k_ hk_ hs_ => (hk_.2.2) hs_)) (fun k_ hk_ => ⟨hk_.1.1, hk_.1.2.1, hk_.1.2.2⟩)); replace HO195 := zMk (zVm (ok' := fun k_ => ((P0_ k_ ∨ P1_ k_) ∨ w.heap.size ≤ k_) ∧ some k_ ≠ (.slice Ao52 x4_1.length co52 : Value).ownBlock ∧ some k_ ≠ (.slice (some ad183) x10_1.length co49 : Value).ownBlock) (Kd.V_keptB (HO195.out) hkp (fun k_ hk_ hs_ => (hk_.2.2) hs_)) (fun k_ hk_ => ⟨hk_.1.1, hk_.1.2.1, hk_.1.2.2⟩)); replace HB := zMk (hb); (try clear hb); (try clear hkp); (try clear hy0)))
         (try generalize ad183.add (ji54).toNat = pz1_)
         (try generalize ad183.add (ji57).toNat = pz2_)
         go_loopg [18, 172] kj63 (fun kq v18 v172 w' => ∃ (x10_3 : List Int) (x18_3 : Int) (x172_3 : Int), v18 = .int .u32 x18_3 ∧ v172 = .int .i64 x172_3 ∧ Aside0 (n_DivMod.l2 kq x4_1 (IntKind.u64.wrap (t170)) x10_3 x11_1 (t177.length : Int) x13_1 (IntKind.u64.wrap (x15_63 - 1)) x18_3 (wrap64 ((t177.length : Int) + 1)) x172_3 = some (r1, r2, r3)) ∧ Aside0 (kq ≤ kj63) ∧ Aside0 (Kd.R (Kd.int .u32) 58 w' w.heap.size (fun k_ => (w.heap.size ≤ k_) ∧ some k_ ≠ ((.slice (some ad183) x10_1.length co49) : Value).ownBlock) (.slice Ao52 x4_1.length co52) x4_1) ∧ Aside0 (Kd.R (Kd.int .u32) 58 w' w.heap.size (fun k_ => (w.heap.size ≤ k_) ∧ some k_ ≠ ((.slice Ao52 x4_1.length co52) : Value).ownBlock) (.slice (some ad183) x10_1.length co49) x10_3) ∧ Aside0 (Kd.V (Kd.int .u32) 58 w' w.heap.size (fun k_ => ((P0_ k_ ∨ P1_ k_) ∨ w.heap.size ≤ k_) ∧ some k_ ≠ ((.slice Ao52 x4_1.length co52) : Value).ownBlock ∧ some k_ ≠ ((.slice (some ad183) x10_1.length co49) : Value).ownBlock) (.slice (some ad185) x11_1.length co48) x11_1) ∧ Aside0 (Below w.heap.size w w'))
         case atStart => exact ⟨(t201), (0), (0), (by first | rfl | (simp; done) | (simp [*]; done)), (by first | rfl | (simp; done) | (simp [*]; done)), H', ⟨Nat.le_refl _⟩, ⟨by (try simp only [hl4_1]); (try simp only [hl10_1]); (try simp only [hl11_1]); exact uR HO_4.out⟩, ⟨by (try simp only [hl4_1]); (try simp only [hl10_1]); (try simp only [hl11_1]); exact uR HO_10.out⟩, ⟨by (try simp only [hl4_1]); (try simp only [hl10_1]); (try simp only [hl11_1]); exact uV HO_11.out⟩, ⟨by exact uT HB.out⟩⟩
         clear H'
         obtain ⟨x10_3, x18_3, x172_3, rfl, rfl, HA, HK3, HO_4, HO_10, HO_11, HB⟩ := hrel
         have hl10_3 := (zRr HO_10.out).1
         rw [hl10_3] at HO_10
         (try simp only [hl10_3])
         (try simp only [hl10_3] at HO_4)
         (try simp only [hl10_3] at HO_11)
         rcases gk with _ | k3
         ·exact absurd HA.out (by simp [n_DivMod.l2])
         have H := HA.out
         clear HA
         simp only [n_DivMod.l2] at H
         by_cases c95 : x172_3 < (wrap64 ((t177.length : Int) + 1))
         ·rw [if_pos c95] at H
          have c95b0 : decide (x172_3 < (wrap64 ((t177.length : Int) + 1))) = true := decide_eq_true c95
          (try (have c95b0l := c95b0; simp only [hl4_1, hl10_1, hl11_1, hl10_3] at c95b0l))
          clear c95
          by_cases c96 : x172_3 < (t177.length : Int)
          ·rw [if_pos c96] at H
           have c96b0 : decide (x172_3 < (t177.length : Int)) = true := decide_eq_true c96
           (try (have c96b0l := c96b0; simp only [hl4_1, hl10_1, hl11_1, hl10_3] at c96b0l))
           clear c96
           by_cases c97 : 0 ≤ x172_3
           rotate_left
           ·rw [if_neg c97] at H; exact absurd H (by simp)
           rw [if_pos c97] at H
           have c97b0 : decide (0 ≤ x172_3) = true := decide_eq_true c97
           (try (have c97b0l := c97b0; simp only [hl4_1, hl10_1, hl11_1, hl10_3] at c97b0l))
           clear c97
           by_cases c98 : x172_3 < (x11_1.length : Int)
           rotate_left
           ·rw [if_neg c98] at H; exact absurd H (by simp)
           rw [if_pos c98] at H
           have c98b0 : decide (x172_3 < (x11_1.length : Int)) = true := decide_eq_true c98
           (try (have c98b0l := c98b0; simp only [hl4_1, hl10_1, hl11_1, hl10_3] at c98b0l))
           clear c98
           obtain ⟨ji99, hji99⟩ : ∃ j_ : Int, (wrap64 (x13_1 + x172_3)) = j_ := ⟨_, rfl⟩
           replace H : (if 0 ≤ (ji99) then (if (ji99) < (x10_3.length : Int) then ((bits_Add32.f (rd x10_3 (ji99)) (rd x11_1 x172_3) x18_3).bind fun bt204 => (n_DivMod.l2 k3 x4_1 (IntKind.u64.wrap (t170)) (x10_3.set ((ji99) : Int).toNat bt204.1) x11_1 (t177.length : Int) x13_1 (IntKind.u64.wrap (x15_63 - 1)) bt204.2 (wrap64 ((t177.length : Int) + 1)) (wrap64 (x172_3 + 1)))) else (none)) else (none)) = some (r1, r2, r3) := by first | (rw [hji99] at H; exact H) | (simp only [hji99] at H ⊢; exact H)
           have hji99w : (IntKind.i64.wrap (x13_1 + x172_3)) = ji99 := (i64_w _).trans hji99
           (try (have hji99l := hji99; simp only [hl4_1, hl10_1, hl11_1, hl10_3] at hji99l))
           (try (have hji99wl := hji99w; simp only [hl4_1, hl10_1, hl11_1, hl10_3] at hji99wl))
           by_cases c100 : 0 ≤ (ji99)
           rotate_left
           ·rw [if_neg c100] at H; exact absurd H (by simp)
           rw [if_pos c100] at H
           have c100b0 : decide (0 ≤ (ji99)) = true := decide_eq_true c100
           (try (have c100b0l := c100b0; simp only [hl4_1, hl10_1, hl11_1, hl10_3] at c100b0l))
           clear c100
           by_cases c101 : (ji99) < (x10_3.length : Int)
           rotate_left
           ·rw [if_neg c101] at H; exact absurd H (by simp)
           rw [if_pos c101] at H
           have c101b0 : decide ((ji99) < (x10_3.length : Int)) = true := decide_eq_true c101
           (try (have c101b0l := c101b0; simp only [hl4_1, hl10_1, hl11_1, hl10_3] at c101b0l))
           clear c101
           replace H := bnd H
           obtain ⟨⟨t204, t205⟩, A1020, H⟩ := H
           replace H : (n_DivMod.l2 k3 x4_1 (IntKind.u64.wrap (t170)) (x10_3.set ((ji99) : Int).toNat t204) x11_1 (t177.length : Int) x13_1 (IntKind.u64.wrap (x15_63 - 1)) t205 (wrap64 ((t177.length : Int) + 1)) (wrap64 (x172_3 + 1))) = some (r1, r2, r3) := H
           have A102 := zMk A1020
           clear A1020
           obtain ⟨y206, hy206⟩ : ∃ y_ : List Int, y_ = (x10_3.set ((ji99) : Int).toNat t204) := ⟨_, rfl⟩
           replace H : (n_DivMod.l2 k3 x4_1 (IntKind.u64.wrap (t170)) y206 x11_1 (t177.length : Int) x13_1 (IntKind.u64.wrap (x15_63 - 1)) t205 (wrap64 ((t177.length : Int) + 1)) (wrap64 (x172_3 + 1))) = some (r1, r2, r3) := by first | (rw [hy206]; with_reducible exact H) | (have H2_ := bsm H; first | (rw [hy206]; with_reducible exact H2_) | with_reducible exact H2_) | with_reducible exact H | (rw [hy206]; exact H) | exact H
           have Ny206 := zMk hy206
           clear hy206
           have H' := zMk H
           clear H
           have p202 : 0 ≤ (x172_3 : Int) := of_decide_eq_true (by first | (with_reducible assumption) | assumption)
           have q202 : x172_3 < (x11_1.length : Int) := of_decide_eq_true (by first | (with_reducible assumption) | assumption)
           obtain ⟨ad202, e202, hx202_0⟩ := zAi (zVr HO_11.out).2.2 x172_3 p202 q202
           obtain rfl : ad185 = ad202 := (by injection e202)
           replace p202 := eq_true p202
           replace q202 := eq_true q202
           have p203 : 0 ≤ ((ji99) : Int) := of_decide_eq_true (by first | (with_reducible assumption) | assumption)
           have q203 : (ji99) < (x10_3.length : Int) := of_decide_eq_true (by first | (with_reducible assumption) | assumption)
           obtain ⟨ad203, e203, hx203_0⟩ := zAi (zRr HO_10.out).2.2 (ji99) p203 q203
           obtain rfl : ad183 = ad203 := (by injection e203)
           replace p203 := eq_true p203
           replace q203 := eq_true q203
           go_wp2_with (first | ((with_reducible refine gate_callee (f:=62) rfl ?_); refine goesL_ (some 195) rfl rfl Tryd.func62 (by kernel_rfl) rfl #[.int .u32 (rd x10_3 (ji99)), .int .u32 (rd x11_1 x172_3), .int .u32 x18_3] rfl (by (try simp only [zMa, zMc, zMn]); first |  done|  (simp only [hji99]; rfl)|  rfl|  (simp only [zLd, zLt]; rfl)) ?_; (with_reducible refine (bits_Add32.calls (rd x10_3 (ji99)) (rd x11_1 x172_3) x18_3 t204 t205 _ A102.out).mono ?_); rintro e w' ⟨rfl, ⟨nd, rfl⟩⟩; refine ⟨_, rfl, ?_⟩; (try (rw [drewN_self wr]; generalize hq_ : World.drewN wr _ = wr; have n0_ : Aside0 (Kd.R (Kd.int .u32) 58 wr w.heap.size (fun k_ => (w.heap.size ≤ k_) ∧ some k_ ≠ (.slice Ao52 x4_1.length co52 : Value).ownBlock) (.slice (some ad183) x10_3.length co49) x10_3) := ⟨by rw [← hq_]; exact (uR HO_10.out)⟩; have n1_ : Aside0 (Kd.V (Kd.int .u32) 58 wr w.heap.size (fun k_ => ((P0_ k_ ∨ P1_ k_) ∨ w.heap.size ≤ k_) ∧ some k_ ≠ (.slice (some ad183) x10_3.length co49 : Value).ownBlock ∧ some k_ ≠ (.slice Ao52 x4_1.length co52 : Value).ownBlock) (.slice (some ad185) x11_1.length co48) x11_1) := ⟨by rw [← hq_]; exact (zVm HO_11.out (fun _ hk => ⟨hk.1, ⟨hk.2.2, hk.2.1⟩⟩))⟩; have n2_ : Aside0 (Kd.R (Kd.int .u32) 58 wr w.heap.size (fun k_ => (w.heap.size ≤ k_) ∧ some k_ ≠ (.slice (some ad183) x10_3.length co49 : Value).ownBlock) (.slice Ao52 x4_1.length co52) x4_1) := ⟨by rw [← hq_]; exact (uR HO_4.out)⟩; have n3_ : Aside0 (Below w.heap.size w wr) := ⟨by rw [← hq_]; exact (uT HB.out)⟩; clear HO_10 HO_11 HO_4 HB hq_; have HO_10 := n0_; have HO_11 := n1_; have HO_4 := n2_; have HB := n3_; clear n0_ n1_ n2_ n3_)); have p103 : 0 ≤ ((ji99) : Int) := of_decide_eq_true (by first | (with_reducible assumption)|  assumption); have q103 : ((ji99) : Int) < ((x10_3.length : Int) : Int) := of_decide_eq_true (by first | (with_reducible assumption)|  assumption); obtain ⟨go103, co103, eo103, gb103, gl103, cl103, HG103⟩ := Kd.R_form HO_10.out (by omega); (first |  cases eo103|  (injection eo103 with ea_ en_ ec_; (first |  subst ea_|  (injection ea_ with ea_; subst ea_)); subst ec_; clear en_)); have GB103 := zMk gb103; have IGB103 := ownGe GB103.out; have GG103 := zMk HG103; clear gb103 gl103 HG103; (first |  simp only [add_plain] at hx183_0|  skip); (first |  simp only [add_plain] at hx184_0|  skip); (first |  simp only [add_plain] at hx188_0|  skip); (first |  simp only [add_plain] at hx203_0|  skip); obtain ⟨hx103_0, hf103_0⟩ := Kd.R_celln 0 HO_10.out ((ji99) : Int) p103 q103; replace p103 := eq_true p103; replace q103 := eq_true q103; obtain ⟨hy104_, hz104_⟩ := Kd.R_celln 0 HO_10.out ((ji99) : Int) (of_decide_eq_true (by first | (with_reducible assumption)|  assumption)) (of_decide_eq_true (by first | (with_reducible assumption)|  assumption)); have HP104 := Kd.R_putg HO_10.out ((ji99) : Int) t204)|((with_reducible refine gate_store (t:=58) (p:=198) rfl ?_); refine store_event (t:=58) (p:=198) (v:=?vo_w105) (w1:=(wr.setCell ⟨go103, ((ji99) : Int).toNat, none⟩ (.int .u32 t204))) ?hg ?ho ?hn ?hr ?_; (case ho => rfl); (case hg => rfl); (case hn => rfl); (case hr => first | (go_simp; done)|(go_simp; rfl)|(go_simp; rw [show ∀ x : Int, IntKind.u32.wrap (IntKind.u8.wrap x) = x % 256 from fun x => (by show (x % 256) % 4294967296 = x % 256; omega)])); intro w105 hw; have hg : wr.grownBy w105 (some go103) := (by rw [hw]; exact HP104.2); have hp_ : Kd.R (Kd.int .u32) 58 w105 w.heap.size (fun k_ => (w.heap.size ≤ k_) ∧ some k_ ≠ (.slice Ao52 x4_1.length co52 : Value).ownBlock) (.slice (some ⟨go103, 0, none⟩) x10_3.length co49) y206 := (by rw [hw, Ny206.out]; exact HP104.1); clear HP104; replace HO_4 := zMk (Kd.R_after (v:=(.slice (some ⟨go103, 0, none⟩) x10_3.length co49)) (v1:=(.slice (some ⟨go103, 0, none⟩) x10_3.length co49)) (ok:=(fun k_ => (w.heap.size ≤ k_))) (uR HO_4.out) hg (.inl rfl)); replace HO_10 := zMk (hp_); replace HO_11 := zMk (Kd.V_afterv (v:=(.slice (some ⟨go103, 0, none⟩) x10_3.length co49)) (v1:=(.slice (some ⟨go103, 0, none⟩) x10_3.length co49)) (ok:=(fun k_ => ((P0_ k_ ∨ P1_ k_) ∨ w.heap.size ≤ k_) ∧ some k_ ≠ (.slice Ao52 x4_1.length co52 : Value).ownBlock)) (by (with_reducible repeat (first |  apply zVa|  apply zVn|  apply zVd)); (first |  exact zVm HO_11.out (fun _ hk => ⟨⟨hk.1, hk.2.1⟩, hk.2.2⟩)|  exact zVm HO_11.out (fun _ hk => ⟨⟨hk.1, hk.2.2⟩, hk.2.1⟩))) hg (.inl rfl)); replace HB := zMk ((by rw [hw]; exact below_set (HB.out) GB103.out : Below w.heap.size w w105)); clear hg hw hp_))
           (try simp only [← hl10_3])
           go_roundg k3
           case measure => have := HK1.out; have := HJ63.out; have := HK3.out; omega
           case rel => exact ⟨(y206), (t205), (wrap64 (x172_3 + 1)), (by first | rfl | (simp; done) | (simp [*]; done)), (by first | rfl | (simp; done) | (simp [*]; done)), H', ⟨by have := HK1.out; have := HJ63.out; have := HK3.out; omega⟩, ⟨by (try simp only [hl4_1]); (try simp only [hl10_1]); (try simp only [hl11_1]); (try simp only [hl10_3]); exact uR HO_4.out⟩, ⟨by (try simp only [hl4_1]); (try simp only [hl10_1]); (try simp only [hl11_1]); (try simp only [hl10_3]); exact uR HO_10.out⟩, ⟨by (try simp only [hl4_1]); (try simp only [hl10_1]); (try simp only [hl11_1]); (try simp only [hl10_3]); (with_reducible repeat (first | apply zVa | apply zVn | apply zVd)); exact zVm HO_11.out (fun _ hk => ⟨hk.1.1, ⟨hk.1.2, hk.2⟩⟩)⟩, ⟨by exact uT HB.out⟩⟩
          ·rw [if_neg c96] at H
           have c96b0 : decide (x172_3 < (t177.length : Int)) = false := decide_eq_false c96
           (try (have c96b0l := c96b0; simp only [hl4_1, hl10_1, hl11_1, hl10_3] at c96b0l))
           clear c96
           obtain ⟨ji106, hji106⟩ : ∃ j_ : Int, (wrap64 (x13_1 + x172_3)) = j_ := ⟨_, rfl⟩
           replace H : (if 0 ≤ (ji106) then (if (ji106) < (x10_3.length : Int) then ((bits_Add32.f (rd x10_3 (ji106)) 0 x18_3).bind fun bt208 => (n_DivMod.l2 k3 x4_1 (IntKind.u64.wrap (t170)) (x10_3.set ((ji106) : Int).toNat bt208.1) x11_1 (t177.length : Int) x13_1 (IntKind.u64.wrap (x15_63 - 1)) bt208.2 (wrap64 ((t177.length : Int) + 1)) (wrap64 (x172_3 + 1)))) else (none)) else (none)) = some (r1, r2, r3) := by first | (rw [hji106] at H; exact H) | (simp only [hji106] at H ⊢; exact H)
           have hji106w : (IntKind.i64.wrap (x13_1 + x172_3)) = ji106 := (i64_w _).trans hji106
           (try (have hji106l := hji106; simp only [hl4_1, hl10_1, hl11_1, hl10_3] at hji106l))
           (try (have hji106wl := hji106w; simp only [hl4_1, hl10_1, hl11_1, hl10_3] at hji106wl))
           by_cases c107 : 0 ≤ (ji106)
           rotate_left
           ·rw [if_neg c107] at H; exact absurd H (by simp)
           rw [if_pos c107] at H
           have c107b0 : decide (0 ≤ (ji106)) = true := decide_eq_true c107
           (try (have c107b0l := c107b0; simp only [hl4_1, hl10_1, hl11_1, hl10_3] at c107b0l))
           clear c107
           by_cases c108 : (ji106) < (x10_3.length : Int)
           rotate_left
           ·rw [if_neg c108] at H; exact absurd H (by simp)
           rw [if_pos c108] at H
           have c108b0 : decide ((ji106) < (x10_3.length : Int)) = true := decide_eq_true c108
           (try (have c108b0l := c108b0; simp only [hl4_1, hl10_1, hl11_1, hl10_3] at c108b0l))
           clear c108
           replace H := bnd H
           obtain ⟨⟨t208, t209⟩, A1090, H⟩ := H
           replace H : (n_DivMod.l2 k3 x4_1 (IntKind.u64.wrap (t170)) (x10_3.set ((ji106) : Int).toNat t208) x11_1 (t177.length : Int) x13_1 (IntKind.u64.wrap (x15_63 - 1)) t209 (wrap64 ((t177.length : Int) + 1)) (wrap64 (x172_3 + 1))) = some (r1, r2, r3) := H
           have A109 := zMk A1090
           clear A1090
           obtain ⟨y210, hy210⟩ : ∃ y_ : List Int, y_ = (x10_3.set ((ji106) : Int).toNat t208) := ⟨_, rfl⟩
           replace H : (n_DivMod.l2 k3 x4_1 (IntKind.u64.wrap (t170)) y210 x11_1 (t177.length : Int) x13_1 (IntKind.u64.wrap (x15_63 - 1)) t209 (wrap64 ((t177.length : Int) + 1)) (wrap64 (x172_3 + 1))) = some (r1, r2, r3) := by first | (rw [hy210]; with_reducible exact H) | (have H2_ := bsm H; first | (rw [hy210]; with_reducible exact H2_) | with_reducible exact H2_) | with_reducible exact H | (rw [hy210]; exact H) | exact H
           have Ny210 := zMk hy210
           clear hy210
           have H' := zMk H
           clear H
           have p207 : 0 ≤ ((ji106) : Int) := of_decide_eq_true (by first | (with_reducible assumption) | assumption)
           have q207 : (ji106) < (x10_3.length : Int) := of_decide_eq_true (by first | (with_reducible assumption) | assumption)
           obtain ⟨ad207, e207, hx207_0⟩ := zAi (zRr HO_10.out).2.2 (ji106) p207 q207
           obtain rfl : ad183 = ad207 := (by injection e207)
           replace p207 := eq_true p207
           replace q207 := eq_true q207
           go_wp2_with (first | ((with_reducible refine gate_callee (f:=62) rfl ?_); refine goesL_ (some 195) rfl rfl Tryd.func62 (by kernel_rfl) rfl #[.int .u32 (rd x10_3 (ji106)), .int .u32 0, .int .u32 x18_3] rfl (by (try simp only [zMa, zMc, zMn]); first |  done|  (simp only [hji106]; rfl)|  rfl|  (simp only [zLd, zLt]; rfl)) ?_; (with_reducible refine (bits_Add32.calls (rd x10_3 (ji106)) 0 x18_3 t208 t209 _ A109.out).mono ?_); rintro e w' ⟨rfl, ⟨nd, rfl⟩⟩; refine ⟨_, rfl, ?_⟩; (try (rw [drewN_self wr]; generalize hq_ : World.drewN wr _ = wr; have n0_ : Aside0 (Kd.R (Kd.int .u32) 58 wr w.heap.size (fun k_ => (w.heap.size ≤ k_) ∧ some k_ ≠ (.slice Ao52 x4_1.length co52 : Value).ownBlock) (.slice (some ad183) x10_3.length co49) x10_3) := ⟨by rw [← hq_]; exact (uR HO_10.out)⟩; have n1_ : Aside0 (Kd.V (Kd.int .u32) 58 wr w.heap.size (fun k_ => ((P0_ k_ ∨ P1_ k_) ∨ w.heap.size ≤ k_) ∧ some k_ ≠ (.slice (some ad183) x10_3.length co49 : Value).ownBlock ∧ some k_ ≠ (.slice Ao52 x4_1.length co52 : Value).ownBlock) (.slice (some ad185) x11_1.length co48) x11_1) := ⟨by rw [← hq_]; exact (zVm HO_11.out (fun _ hk => ⟨hk.1, ⟨hk.2.2, hk.2.1⟩⟩))⟩; have n2_ : Aside0 (Kd.R (Kd.int .u32) 58 wr w.heap.size (fun k_ => (w.heap.size ≤ k_) ∧ some k_ ≠ (.slice (some ad183) x10_3.length co49 : Value).ownBlock) (.slice Ao52 x4_1.length co52) x4_1) := ⟨by rw [← hq_]; exact (uR HO_4.out)⟩; have n3_ : Aside0 (Below w.heap.size w wr) := ⟨by rw [← hq_]; exact (uT HB.out)⟩; clear HO_10 HO_11 HO_4 HB hq_; have HO_10 := n0_; have HO_11 := n1_; have HO_4 := n2_; have HB := n3_; clear n0_ n1_ n2_ n3_)); have p110 : 0 ≤ ((ji106) : Int) := of_decide_eq_true (by first | (with_reducible assumption)|  assumption); have q110 : ((ji106) : Int) < ((x10_3.length : Int) : Int) := of_decide_eq_true (by first | (with_reducible assumption)|  assumption); obtain ⟨go110, co110, eo110, gb110, gl110, cl110, HG110⟩ := Kd.R_form HO_10.out (by omega); (first |  cases eo110|  (injection eo110 with ea_ en_ ec_; (first |  subst ea_|  (injection ea_ with ea_; subst ea_)); subst ec_; clear en_)); have GB110 := zMk gb110; have IGB110 := ownGe GB110.out; have GG110 := zMk HG110; clear gb110 gl110 HG110; (first |  simp only [add_plain] at hx207_0|  skip); obtain ⟨hx110_0, hf110_0⟩ := Kd.R_celln 0 HO_10.out ((ji106) : Int) p110 q110; replace p110 := eq_true p110; replace q110 := eq_true q110; obtain ⟨hy111_, hz111_⟩ := Kd.R_celln 0 HO_10.out ((ji106) : Int) (of_decide_eq_true (by first | (with_reducible assumption)|  assumption)) (of_decide_eq_true (by first | (with_reducible assumption)|  assumption)); have HP111 := Kd.R_putg HO_10.out ((ji106) : Int) t208)|((with_reducible refine gate_store (t:=58) (p:=198) rfl ?_); refine store_event (t:=58) (p:=198) (v:=?vo_w112) (w1:=(wr.setCell ⟨go110, ((ji106) : Int).toNat, none⟩ (.int .u32 t208))) ?hg ?ho ?hn ?hr ?_; (case ho => rfl); (case hg => rfl); (case hn => rfl); (case hr => first | (go_simp; done)|(go_simp; rfl)|(go_simp; rw [show ∀ x : Int, IntKind.u32.wrap (IntKind.u8.wrap x) = x % 256 from fun x => (by show (x % 256) % 4294967296 = x % 256; omega)])); intro w112 hw; have hg : wr.grownBy w112 (some go110) := (by rw [hw]; exact HP111.2); have hp_ : Kd.R (Kd.int .u32) 58 w112 w.heap.size (fun k_ => (w.heap.size ≤ k_) ∧ some k_ ≠ (.slice Ao52 x4_1.length co52 : Value).ownBlock) (.slice (some ⟨go110, 0, none⟩) x10_3.length co49) y210 := (by rw [hw, Ny210.out]; exact HP111.1); clear HP111; replace HO_4 := zMk (Kd.R_after (v:=(.slice (some ⟨go110, 0, none⟩) x10_3.length co49)) (v1:=(.slice (some ⟨go110, 0, none⟩) x10_3.length co49)) (ok:=(fun k_ => (w.heap.size ≤ k_))) (uR HO_4.out) hg (.inl rfl)); replace HO_10 := zMk (hp_); replace HO_11 := zMk (Kd.V_afterv (v:=(.slice (some ⟨go110, 0, none⟩) x10_3.length co49)) (v1:=(.slice (some ⟨go110, 0, none⟩) x10_3.length co49)) (ok:=(fun k_ => ((P0_ k_ ∨ P1_ k_) ∨ w.heap.size ≤ k_) ∧ some k_ ≠ (.slice Ao52 x4_1.length co52 : Value).ownBlock)) (by (with_reducible repeat (first |  apply zVa|  apply zVn|  apply zVd)); (first |  exact zVm HO_11.out (fun _ hk => ⟨⟨hk.1, hk.2.1⟩, hk.2.2⟩)|  exact zVm HO_11.out (fun _ hk => ⟨⟨hk.1, hk.2.2⟩, hk.2.1⟩))) hg (.inl rfl)); replace HB := zMk ((by rw [hw]; exact below_set (HB.out) GB110.out : Below w.heap.size w w112)); clear hg hw hp_))
           (try simp only [← hl10_3])
           go_roundg k3
           case measure => have := HK1.out; have := HJ63.out; have := HK3.out; omega
           case rel => exact ⟨(y210), (t209), (wrap64 (x172_3 + 1)), (by first | rfl | (simp; done) | (simp [*]; done)), (by first | rfl | (simp; done) | (simp [*]; done)), H', ⟨by have := HK1.out; have := HJ63.out; have := HK3.out; omega⟩, ⟨by (try simp only [hl4_1]); (try simp only [hl10_1]); (try simp only [hl11_1]); (try simp only [hl10_3]); exact uR HO_4.out⟩, ⟨by (try simp only [hl4_1]); (try simp only [hl10_1]); (try simp only [hl11_1]); (try simp only [hl10_3]); exact uR HO_10.out⟩, ⟨by (try simp only [hl4_1]); (try simp only [hl10_1]); (try simp only [hl11_1]); (try simp only [hl10_3]); (with_reducible repeat (first | apply zVa | apply zVn | apply zVd)); exact zVm HO_11.out (fun _ hk => ⟨hk.1.1, ⟨hk.1.2, hk.2⟩⟩)⟩, ⟨by exact uT HB.out⟩⟩
         ·rw [if_neg c95] at H
          have c95b0 : decide (x172_3 < (wrap64 ((t177.length : Int) + 1))) = false := decide_eq_false c95
          (try (have c95b0l := c95b0; simp only [hl4_1, hl10_1, hl11_1, hl10_3] at c95b0l))
          clear c95
          by_cases c113 : 0 ≤ x13_1
          rotate_left
          ·rw [if_neg c113] at H; exact absurd H (by simp)
          rw [if_pos c113] at H
          have c113b0 : decide (0 ≤ x13_1) = true := decide_eq_true c113
          (try (have c113b0l := c113b0; simp only [hl4_1, hl10_1, hl11_1, hl10_3] at c113b0l))
          clear c113
          by_cases c114 : x13_1 < (x4_1.length : Int)
          rotate_left
          ·rw [if_neg c114] at H; exact absurd H (by simp)
          rw [if_pos c114] at H
          have c114b0 : decide (x13_1 < (x4_1.length : Int)) = true := decide_eq_true c114
          (try (have c114b0l := c114b0; simp only [hl4_1, hl10_1, hl11_1, hl10_3] at c114b0l))
          clear c114
          obtain ⟨y211, hy211⟩ : ∃ y_ : List Int, y_ = (x4_1.set (x13_1 : Int).toNat (((IntKind.u64.wrap (x15_63 - 1))) % 4294967296)) := ⟨_, rfl⟩
          replace H : (n_DivMod.l0 k3 y211 (IntKind.u64.wrap (t170)) x10_3 x11_1 (t177.length : Int) (wrap64 (x13_1 - 1))) = some (r1, r2, r3) := by first | (rw [hy211]; with_reducible exact H) | (have H2_ := bsm H; first | (rw [hy211]; with_reducible exact H2_) | with_reducible exact H2_) | with_reducible exact H | (rw [hy211]; exact H) | exact H
          have Ny211 := zMk hy211
          clear hy211
          have H' := zMk H
          clear H
          have p115 : 0 ≤ (x13_1 : Int) := of_decide_eq_true (by first | (with_reducible assumption) | assumption)
          have q115 : (x13_1 : Int) < ((x4_1.length : Int) : Int) := of_decide_eq_true (by first | (with_reducible assumption) | assumption)
          obtain ⟨go115, co115, eo115, gb115, gl115, cl115, HG115⟩ := Kd.R_form HO_4.out (by omega)
          (first |  cases eo115|  (injection eo115 with ea_ en_ ec_; (first |  subst ea_|  (injection ea_ with ea_; subst ea_)); subst ec_; clear en_))
          have GB115 := zMk gb115
          have IGB115 := ownGe GB115.out
          have GG115 := zMk HG115
          clear gb115 gl115 HG115
          obtain ⟨hx115_0, hf115_0⟩ := Kd.R_celln 0 HO_4.out (x13_1 : Int) p115 q115
          replace p115 := eq_true p115
          replace q115 := eq_true q115
          have HP116 := Kd.R_putg HO_4.out (x13_1 : Int) (((IntKind.u64.wrap (x15_63 - 1))) % 4294967296)
          go_wp2_with (first | ((with_reducible refine gate_store (t:=58) (p:=204) rfl ?_); refine store_event (t:=58) (p:=204) (v:=?vo_w117) (w1:=(wr.setCell ⟨go115, (x13_1 : Int).toNat, none⟩ (.int .u32 (((IntKind.u64.wrap (x15_63 - 1))) % 4294967296)))) ?hg ?ho ?hn ?hr ?_; (case ho => rfl); (case hg => rfl); (case hn => rfl); (case hr => first | (go_simp; done)|(go_simp; rfl)|(go_simp; rw [show ∀ x : Int, IntKind.u32.wrap (IntKind.u8.wrap x) = x % 256 from fun x => (by show (x % 256) % 4294967296 = x % 256; omega)])); intro w117 hw; have hg : wr.grownBy w117 (some go115) := (by rw [hw]; exact HP116.2); have hp_ : Kd.R (Kd.int .u32) 58 w117 w.heap.size (fun k_ => (w.heap.size ≤ k_) ∧ some k_ ≠ (.slice (some ad183) x10_3.length co49 : Value).ownBlock) (.slice (some ⟨go115, 0, none⟩) x4_1.length co52) y211 := (by rw [hw, Ny211.out]; exact HP116.1); clear HP116; replace HO_4 := zMk (hp_); replace HO_10 := zMk (Kd.R_after (v:=(.slice (some ⟨go115, 0, none⟩) x4_1.length co52)) (v1:=(.slice (some ⟨go115, 0, none⟩) x4_1.length co52)) (ok:=(fun k_ => (w.heap.size ≤ k_))) (uR HO_10.out) hg (.inl rfl)); replace HO_11 := zMk (Kd.V_afterv (v:=(.slice (some ⟨go115, 0, none⟩) x4_1.length co52)) (v1:=(.slice (some ⟨go115, 0, none⟩) x4_1.length co52)) (ok:=(fun k_ => ((P0_ k_ ∨ P1_ k_) ∨ w.heap.size ≤ k_) ∧ some k_ ≠ (.slice (some ad183) x10_3.length co49 : Value).ownBlock)) (zVm HO_11.out (fun _ hk => ⟨⟨hk.1, hk.2.2⟩, hk.2.1⟩)) hg (.inl rfl)); replace HB := zMk ((by rw [hw]; exact below_set (HB.out) GB115.out : Below w.heap.size w w117)); clear hg hw hp_))
          (try simp only [← hl4_1, ← hl10_1, ← hl11_1, ← hl10_3])
          go_roundg k3
          case measure => have := HK1.out; have := HJ63.out; have := HK3.out; omega
          case rel => exact ⟨(y211), (x10_3), (x11_1), (wrap64 (x13_1 - 1)), (by first | rfl | (simp; done) | (simp [*]; done)), H', ⟨by have := HK1.out; have := HJ63.out; have := HK3.out; omega⟩, ⟨by (try simp only [hl4_1]); (try simp only [hl10_1]); (try simp only [hl11_1]); (try simp only [hl10_3]); exact uR HO_4.out⟩, ⟨by (try simp only [hl4_1]); (try simp only [hl10_1]); (try simp only [hl11_1]); (try simp only [hl10_3]); exact uR HO_10.out⟩, ⟨by (try simp only [hl4_1]); (try simp only [hl10_1]); (try simp only [hl11_1]); (try simp only [hl10_3]); (with_reducible repeat (first | apply zVa | apply zVn | apply zVd)); exact zVm HO_11.out (fun _ hk => ⟨hk.1.1, ⟨hk.2, hk.1.2⟩⟩)⟩, ⟨by exact uT HB.out⟩⟩
        ·rw [if_neg c88] at H
         have c88b0 : decide (0 < t200) = false := decide_eq_false c88
         (try (have c88b0l := c88b0; simp only [hl4_1, hl10_1, hl11_1] at c88b0l))
         clear c88
         by_cases c118 : x13_1 < (x4_1.length : Int)
         rotate_left
         ·rw [if_neg c118] at H; exact absurd H (by simp)
         rw [if_pos c118] at H
         have c118b0 : decide (x13_1 < (x4_1.length : Int)) = true := decide_eq_true c118
         (try (have c118b0l := c118b0; simp only [hl4_1, hl10_1, hl11_1] at c118b0l))
         clear c118
         obtain ⟨y212, hy212⟩ : ∃ y_ : List Int, y_ = (x4_1.set (x13_1 : Int).toNat ((x15_63) % 4294967296)) := ⟨_, rfl⟩
         replace H : (n_DivMod.l0 kj63 y212 (IntKind.u64.wrap (t170)) t201 x11_1 (t177.length : Int) (wrap64 (x13_1 - 1))) = some (r1, r2, r3) := by first | (rw [hy212]; with_reducible exact H) | (have H2_ := bsm H; first | (rw [hy212]; with_reducible exact H2_) | with_reducible exact H2_) | with_reducible exact H | (rw [hy212]; exact H) | exact H
         have Ny212 := zMk hy212
         clear hy212
         have H' := zMk H
         clear H
         (try clear hji54)
         (try clear hji54w)
         (try clear hji54l)
         (try clear hji54wl)
         (try clear hji54k)
         (try clear hji54kw)
         (try clear hji57)
         (try clear hji57w)
         (try clear hji57l)
         (try clear hji57wl)
         (try clear hji57k)
         (try clear hji57kw)
         (try clear hji60)
         (try clear hji60w)
         (try clear hji60l)
         (try clear hji60wl)
         (try clear hji60k)
         (try clear hji60kw)
         go_wp2_with (first | ((with_reducible refine gate_callee (f:=34) rfl ?_); refine goesL_ (some 156) rfl rfl Tryd.func34 (by kernel_rfl) rfl #[.int .u64 x15_63] rfl (by (try simp only [zMa, zMc, zMn]); first |  done|  rfl|  (simp only [zLd, zLt]; rfl)) ?_; (with_reducible refine (n_Of.calls x15_63 t190 _ A82.out).mono ?_); rintro e w120 ⟨v191, rfl, ho0, hb⟩; refine ⟨_, rfl, ?_⟩; replace HO_11 := zMk (zVb (uV HO_11.out) hb); have HO192 := zMk (zVl (zVm (ok' := fun k_ => ((P0_ k_ ∨ P1_ k_) ∨ w.heap.size ≤ k_) ∧ some k_ ≠ (.slice Ao52 x4_1.length co52 : Value).ownBlock ∧ some k_ ≠ (.slice (some ad183) x10_1.length co49 : Value).ownBlock) ho0 (fun k_ hk_ => ⟨(.inr (Nat.le_trans (zBs (uT HB.out)) hk_)), (Kd.fresh' (zRt (uR HO_4.out)) k_ hk_), (Kd.fresh' (zRt (uR HO_10.out)) k_ hk_)⟩)) (zBs (uT HB.out))); replace HO_4 := zMk (zRb (uR HO_4.out) hb); replace HO_10 := zMk (zRb (uR HO_10.out) hb); replace HB := zMk (zBt (uT HB.out) hb); (try clear hb); (try clear hb2); (try clear hk); (try clear hi); (try clear ho0); obtain ⟨Ao121, co121, eo121⟩ := zVs HO192.out; subst eo121)|((with_reducible refine gate_callee (f:=45) rfl ?_); refine goesL_ (some 157) rfl rfl Tryd.func45 (by kernel_rfl) rfl #[.slice (some ad185) x11_1.length co48, .slice Ao121 t190.length co121] rfl (by (try simp only [zMa, zMc, zMn]); first |  done|  rfl|  (simp only [zLd, zLt]; rfl)) ?_; (with_reducible refine (n_Mul.calls kj63 (fun k_ => (((P0_ k_ ∨ P1_ k_) ∨ w.heap.size ≤ k_) ∧ (some k_ ≠ (.slice Ao52 x4_1.length co52 : Value).ownBlock ∧ some k_ ≠ (.slice (some ad183) x10_1.length co49 : Value).ownBlock))) _ _ x11_1 (fun k_ => (((P0_ k_ ∨ P1_ k_) ∨ w.heap.size ≤ k_) ∧ (some k_ ≠ (.slice Ao52 x4_1.length co52 : Value).ownBlock ∧ some k_ ≠ (.slice (some ad183) x10_1.length co49 : Value).ownBlock))) _ _ t190 t193 _ ?side1 ?side2 A83.out).mono ?_); (case side1 => exact HO_11.out); (case side2 => exact HO192.out); rintro e w122 ⟨v194, rfl, ho0, hb⟩; refine ⟨_, rfl, ?_⟩; replace HO_11 := zMk (zVb (uV HO_11.out) hb); replace HO192 := zMk (zVb (uV HO192.out) hb); have HO195 := zMk (zVl (zVm (ok' := fun k_ => ((P0_ k_ ∨ P1_ k_) ∨ w.heap.size ≤ k_) ∧ some k_ ≠ (.slice Ao52 x4_1.length co52 : Value).ownBlock ∧ some k_ ≠ (.slice (some ad183) x10_1.length co49 : Value).ownBlock) ho0 (fun k_ hk_ => ⟨Or.elim hk_ (fun hs_ => Or.elim hs_ (fun hs_ => hs_.1) (fun hs_ => hs_.1)) (fun hn_ => (.inr (Nat.le_trans (zBs (uT HB.out)) hn_))), Or.elim hk_ (fun hs_ => Or.elim hs_ (fun hs_ => hs_.2.1) (fun hs_ => hs_.2.1)) (fun hn_ => (Kd.fresh' (zRt (uR HO_4.out)) k_ hn_)), Or.elim hk_ (fun hs_ => Or.elim hs_ (fun hs_ => hs_.2.2) (fun hs_ => hs_.2.2)) (fun hn_ => (Kd.fresh' (zRt (uR HO_10.out)) k_ hn_))⟩)) (zBs (uT HB.out))); replace HO_4 := zMk (zRb (uR HO_4.out) hb); replace HO_10 := zMk (zRb (uR HO_10.out) hb); replace HB := zMk (zBt (uT HB.out) hb); (try clear hb); (try clear hb2); (try clear hk); (try clear hi); (try clear ho0); have q123 : ((wrap64 ((wrap64 (x13_1 + (t177.length : Int))) + 1)) : Int) ≤ ((x10_1.length : Int) : Int) := of_decide_eq_true (by first | (with_reducible assumption)|  assumption); obtain ⟨i0123, hi0123, _, hsz123, _⟩ := info_parts info58; have hroom123 : x10_1.length ≤ co49 := (zRr HO_10.out).2.1; have hC123 : Kd.C (Kd.int .u32) _ (some ad183) x10_1.length x10_1 := (zRr HO_10.out).2.2; have ql123 : (x13_1 : Int) ≤ ((wrap64 ((wrap64 (x13_1 + (t177.length : Int))) + 1)) : Int) := of_decide_eq_true (by first | (with_reducible assumption)|  assumption); have q0123 : (0 : Int) ≤ (x13_1 : Int) := of_decide_eq_true (by first | (with_reducible assumption)|  assumption); have hcut123 := cut_mid (P:=Tryd.prog) 22 58 .i64 .i64 Tryd.underlying22 hi0123 1 hsz123 (some ad183) x10_1.length co49 x13_1 (wrap64 ((wrap64 (x13_1 + (t177.length : Int))) + 1)) q0123 ql123 q123 hroom123; have hr123 := Kd.C_mid (lo:=(x13_1 : Int).toNat) (hi:=((wrap64 ((wrap64 (x13_1 + (t177.length : Int))) + 1)) : Int).toNat) (c:=co49) hC123 (by omega) (by omega) hroom123; obtain ⟨A123, hA123⟩ : ∃ A1, A1 = (if co49 = (x13_1 : Int).toNat then (some ad183) else ((some ad183) : Option Addr).map (·.add ((x13_1 : Int).toNat * 1))) := ⟨_, rfl⟩; obtain ⟨c123, hc123⟩ : ∃ c1, c1 = co49 - (x13_1 : Int).toNat := ⟨_, rfl⟩; have hy123 : y196.length = ((wrap64 ((wrap64 (x13_1 + (t177.length : Int))) + 1)) : Int).toNat - (x13_1 : Int).toNat := (by rw [Ny196.out, zLd, zLt] <;> omega); rw [show ((x10_1).take ((wrap64 ((wrap64 (x13_1 + (t177.length : Int))) + 1)) : Int).toNat).drop (x13_1 : Int).toNat = y196 from Ny196.out.symm] at hr123; replace hr123 : Kd.C (Kd.int .u32) _ A123 y196.length y196 := (by rw [hA123]; exact hr123); rw [← hy123, ← hA123, ← hc123] at hcut123; (try (have hcut123l := hcut123; simp only [hl4_1, hl10_1, hl11_1] at hcut123l)); have HR199 := zMk hr123; have HC199 := zMk (show y196.length ≤ c123 from by rw [hy123, hc123]; exact Nat.sub_le_sub_right (Nat.le_trans (by omega) hroom123) _); clear hr123 hC123 hroom123 hi0123 hsz123 hc123; have KY123 := zMk hy123; have KA123 := zMk hA123; clear hy123 hA123; have KL123 := zMk (show ((wrap64 ((wrap64 (x13_1 + (t177.length : Int))) + 1)) : Int).toNat ≤ x10_1.length from by omega); have KM123 := zMk (show (x13_1 : Int).toNat ≤ ((wrap64 ((wrap64 (x13_1 + (t177.length : Int))) + 1)) : Int).toNat from by omega); replace q123 := eq_true q123; obtain ⟨Ao124, co124, eo124⟩ := zVs HO195.out; subst eo124)|((with_reducible refine gate_callee (f:=61) rfl ?_); refine goesL_ (some 166) rfl rfl Tryd.func61 (by kernel_rfl) rfl #[.slice A123 y196.length c123, .slice Ao124 t193.length co124] rfl (by (try simp only [zMa, zMc, zMn]); first |  done|  rfl|  (simp only [zLd, zLt]; rfl)) ?_; (with_reducible refine (n_less_at.calls kj63 (fun k_ => some k_ = (.slice (some ad183) x10_1.length co49 : Value).ownBlock) (.slice (some ad183) x10_1.length co49) x10_1 x13_1 (wrap64 ((wrap64 (x13_1 + (t177.length : Int))) + 1)) _ _ t193 t200 t201 w _ ?side1 ?side2 ?side3 ?side4 A87.out _ _ _ (CutIs.mk KA123.out KY123.out HC199.out)).mono ?_); (case side1 => exact uT HB.out); (case side2 => exact Kd.R_tight rfl HO_10.out); (case side3 => exact Kd.C_kept_ownV (HO195.out) (fun k_ hk_ hs_ => (hk_.2.2) hs_)); (case side4 => exact (zVr HO195.out).2.1); rintro e w125 ⟨rfl, hy0, hb, hkp⟩; refine ⟨_, rfl, ?_⟩; replace HO_4 := zMk (zRm (ok' := fun k_ => (w.heap.size ≤ k_) ∧ some k_ ≠ (.slice (some ad183) x10_1.length co49 : Value).ownBlock) (Kd.R_keptB (HO_4.out) hkp (fun k_ hk_ hs_ => (hk_.2) hs_)) (fun k_ hk_ => ⟨hk_.1.1, hk_.1.2⟩)); replace HO_10 := zMk (Kd.R_reok rfl hy0 (fun k_ e_ => HO_10.out.1 k_ e_)); replace HO_11 := zMk (zVm (ok' := fun k_ => ((P0_ k_ ∨ P1_ k_) ∨ w.heap.size ≤ k_) ∧ some k_ ≠ (.slice Ao52 x4_1.length co52 : Value).ownBlock ∧ some k_ ≠ (.slice (some ad183) x10_1.length co49 : Value).ownBlock) (Kd.V_keptB (HO_11.out) hkp (fun k_ hk_ hs_ => (hk_.2.2) hs_)) (fun k_ hk_ => ⟨hk_.1.1, hk_.1.2.1, hk_.1.2.2⟩)); replace HO192 := zMk (zVm (ok' := fun k_ => ((P0_ k_ ∨ P1_ k_) ∨ w.heap.size ≤ k_) ∧ some k_ ≠ (.slice Ao52 x4_1.length co52 : Value).ownBlock ∧ some k_ ≠ (.slice (some ad183) x10_1.length co49 : Value).ownBlock) (Kd.V_keptB (HO192.out) hkp (fun k_ hk_ hs_ => (hk_.2.2) hs_)) (fun k_ hk_ => ⟨hk_.1.1, hk_.1.2.1, hk_.1.2.2⟩)); replace HO195 := zMk (zVm (ok' := fun k_ => ((P0_ k_ ∨ P1_ k_) ∨ w.heap.size ≤ k_) ∧ some k_ ≠ (.slice Ao52 x4_1.length co52 : Value).ownBlock ∧ some k_ ≠ (.slice (some ad183) x10_1.length co49 : Value).ownBlock) (Kd.V_keptB (HO195.out) hkp (fun k_ hk_ hs_ => (hk_.2.2) hs_)) (fun k_ hk_ => ⟨hk_.1.1, hk_.1.2.1, hk_.1.2.2⟩)); replace HB := zMk (hb); (try clear hb); (try clear hkp); (try clear hy0); have p119 : 0 ≤ (x13_1 : Int) := of_decide_eq_true (by first | (with_reducible assumption)|  assumption); have q119 : (x13_1 : Int) < ((x4_1.length : Int) : Int) := of_decide_eq_true (by first | (with_reducible assumption)|  assumption); obtain ⟨go119, co119, eo119, gb119, gl119, cl119, HG119⟩ := Kd.R_form HO_4.out (by omega); (first |  cases eo119|  (injection eo119 with ea_ en_ ec_; (first |  subst ea_|  (injection ea_ with ea_; subst ea_)); subst ec_; clear en_)); have GB119 := zMk gb119; have IGB119 := ownGe GB119.out; have GG119 := zMk HG119; clear gb119 gl119 HG119; obtain ⟨hx119_0, hf119_0⟩ := Kd.R_celln 0 HO_4.out (x13_1 : Int) p119 q119; replace p119 := eq_true p119; replace q119 := eq_true q119; obtain ⟨hy126_, hz126_⟩ := Kd.R_celln 0 HO_4.out (x13_1 : Int) (of_decide_eq_true (by first | (with_reducible assumption)|  assumption)) (of_decide_eq_true (by first | (with_reducible assumption)|  assumption)); have HP126 := Kd.R_putg HO_4.out (x13_1 : Int) ((x15_63) % 4294967296))|((with_reducible refine gate_store (t:=58) (p:=204) rfl ?_); refine store_event (t:=58) (p:=204) (v:=?vo_w127) (w1:=(w125.setCell ⟨go119, (x13_1 : Int).toNat, none⟩ (.int .u32 ((x15_63) % 4294967296)))) ?hg ?ho ?hn ?hr ?_; (case ho => rfl); (case hg => rfl); (case hn => rfl); (case hr => first | (go_simp; done)|(go_simp; rfl)|(go_simp; rw [show ∀ x : Int, IntKind.u32.wrap (IntKind.u8.wrap x) = x % 256 from fun x => (by show (x % 256) % 4294967296 = x % 256; omega)])); intro w127 hw; have hg : w125.grownBy w127 (some go119) := (by rw [hw]; exact HP126.2); have hp_ : Kd.R (Kd.int .u32) 58 w127 w.heap.size (fun k_ => (w.heap.size ≤ k_) ∧ some k_ ≠ (.slice (some ad183) x10_1.length co49 : Value).ownBlock) (.slice (some ⟨go119, 0, none⟩) x4_1.length co52) y212 := (by rw [hw, Ny212.out]; exact HP126.1); clear HP126; replace HO_4 := zMk (hp_); replace HO_10 := zMk (Kd.R_after (v:=(.slice (some ⟨go119, 0, none⟩) x4_1.length co52)) (v1:=(.slice (some ⟨go119, 0, none⟩) x4_1.length co52)) (ok:=(fun k_ => (w.heap.size ≤ k_))) (uR HO_10.out) hg (.inl rfl)); replace HO_11 := zMk (Kd.V_afterv (v:=(.slice (some ⟨go119, 0, none⟩) x4_1.length co52)) (v1:=(.slice (some ⟨go119, 0, none⟩) x4_1.length co52)) (ok:=(fun k_ => ((P0_ k_ ∨ P1_ k_) ∨ w.heap.size ≤ k_) ∧ some k_ ≠ (.slice (some ad183) x10_1.length co49 : Value).ownBlock)) (zVm HO_11.out (fun _ hk => ⟨⟨hk.1, hk.2.2⟩, hk.2.1⟩)) hg (.inl rfl)); replace HO192 := zMk (Kd.V_afterv (v:=(.slice (some ⟨go119, 0, none⟩) x4_1.length co52)) (v1:=(.slice (some ⟨go119, 0, none⟩) x4_1.length co52)) (ok:=(fun k_ => ((P0_ k_ ∨ P1_ k_) ∨ w.heap.size ≤ k_) ∧ some k_ ≠ (.slice (some ad183) x10_1.length co49 : Value).ownBlock)) (zVm HO192.out (fun _ hk => ⟨⟨hk.1, hk.2.2⟩, hk.2.1⟩)) hg (.inl rfl)); replace HO195 := zMk (Kd.V_afterv (v:=(.slice (some ⟨go119, 0, none⟩) x4_1.length co52)) (v1:=(.slice (some ⟨go119, 0, none⟩) x4_1.length co52)) (ok:=(fun k_ => ((P0_ k_ ∨ P1_ k_) ∨ w.heap.size ≤ k_) ∧ some k_ ≠ (.slice (some ad183) x10_1.length co49 : Value).ownBlock)) (zVm HO195.out (fun _ hk => ⟨⟨hk.1, hk.2.2⟩, hk.2.1⟩)) hg (.inl rfl)); replace HB := zMk ((by rw [hw]; exact below_set (HB.out) GB119.out : Below w.heap.size w w127)); clear hg hw hp_))
         (try simp only [← hl4_1, ← hl10_1, ← hl11_1])
         go_roundg kj63
         case measure => have := HK1.out; have := HJ63.out; omega
         case rel => exact ⟨(y212), (t201), (x11_1), (wrap64 (x13_1 - 1)), (by first | rfl | (simp; done) | (simp [*]; done)), H', ⟨by have := HK1.out; have := HJ63.out; omega⟩, ⟨by (try simp only [hl4_1]); (try simp only [hl10_1]); (try simp only [hl11_1]); exact uR HO_4.out⟩, ⟨by (try simp only [hl4_1]); (try simp only [hl10_1]); (try simp only [hl11_1]); exact uR HO_10.out⟩, ⟨by (try simp only [hl4_1]); (try simp only [hl10_1]); (try simp only [hl11_1]); (with_reducible repeat (first | apply zVa | apply zVn | apply zVd)); exact zVm HO_11.out (fun _ hk => ⟨hk.1.1, ⟨hk.2, hk.1.2⟩⟩)⟩, ⟨by exact uT HB.out⟩⟩
     ·rw [if_neg c53] at H
      have c53b0 : decide (0 ≤ x13_1) = false := decide_eq_false c53
      (try (have c53b0l := c53b0; simp only [hl4_1, hl10_1, hl11_1] at c53b0l))
      clear c53
      by_cases c128 : 0 ≤ (t177.length : Int)
      rotate_left
      ·rw [if_neg c128] at H; exact absurd H (by simp)
      rw [if_pos c128] at H
      have c128b0 := eq_true c128
      have c128b1 : decide (0 ≤ (t177.length : Int)) = true := decide_eq_true c128
      clear c128
      by_cases c129 : ((t177.length : Int) : Int).toNat ≤ 70368744177664
      rotate_left
      ·rw [if_neg c129] at H; exact absurd H (by simp)
      rw [if_pos c129] at H
      have c129b0 := eq_true c129
      have c129b1 : decide (((t177.length : Int) : Int).toNat ≤ 70368744177664) = true := decide_eq_true c129
      clear c129
      obtain ⟨y213, hy213⟩ : ∃ y_ : List Int, y_ = (List.replicate ((t177.length : Int) : Int).toNat 0) := ⟨_, rfl⟩
      replace H : (n_DivMod.l3 k1 x4_1 (IntKind.u64.wrap (t170)) x10_1 y213 (t177.length : Int) 0) = some (r1, r2, r3) := by first | (rw [hy213]; with_reducible exact H) | (have H2_ := bsm H; first | (rw [hy213]; with_reducible exact H2_) | with_reducible exact H2_) | with_reducible exact H | (rw [hy213]; exact H) | exact H
      have Ny213 := zMk hy213
      clear hy213
      have H' := zMk H
      clear H
      (try simp only [← hl11_1])
      go_wp2_with (first | ((with_reducible refine gate_dst (N:=206) rfl ?_); refine Kd.R_make (Kd.int .u32) _ 58 rfl (N:=206) rfl 22 _ _ rfl (t177.length : Int) rfl rfl Tryd.underlying22 (.int .u32 0) 4 info58 rfl (by decide) (by omega) 0 (ok:=fun _ => True) (okp:=fun _ => True) rfl (fun _ hk => hk) trivial (of_decide_eq_true (by first | (with_reducible assumption)|  assumption)) (Nat.le_trans (Nat.mul_le_mul_right _ (of_decide_eq_true (by first | (with_reducible assumption)|  assumption) : (t177.length : Int).toNat ≤ 70368744177664)) (by omega)) (Below.refl _ _) (Nat.le_refl _) ?_; intro v214 w130 ho131 hb hg_ hnew_; clear hg_ hnew_; (first |  rw [← Ny213.out] at ho131|  (simp only [Int.reduceToNat] at ho131; rw [← Ny213.out] at ho131)); replace HO_11 := zMk (zVe (uV HO_11.out) (zRz ho131) hb); have HO215 := zMk (zRl (zRw (zRw (Kd.R_newM (M:=fun k_ => (w.heap.size ≤ k_)) ho131 (zBs (uT HB.out)) (fun k_ h_ => h_)) (zRt (uR HO_4.out))) (zRt (uR HO_10.out))) (zBs (uT HB.out))); replace HO_4 := zMk (zRe (uR HO_4.out) (zRz ho131) hb); replace HO_10 := zMk (zRe (uR HO_10.out) (zRz ho131) hb); replace HB := zMk (zBt (uT HB.out) hb); clear hb ho131))
      go_loopg [208] k1 (fun kq v208 w' => ∃ (x21_2 : List Int) (x208_2 : Int), v208 = .int .i64 x208_2 ∧ Aside0 (n_DivMod.l3 kq x4_1 (IntKind.u64.wrap (t170)) x10_1 x21_2 (t177.length : Int) x208_2 = some (r1, r2, r3)) ∧ Aside0 (kq ≤ k1) ∧ Aside0 (Kd.R (Kd.int .u32) 58 w' w.heap.size (fun k_ => (w.heap.size ≤ k_) ∧ some k_ ≠ ((.slice Ao49 x10_1.length co49) : Value).ownBlock ∧ some k_ ≠ (v214 : Value).ownBlock) (.slice Ao52 x4_1.length co52) x4_1) ∧ Aside0 (Kd.R (Kd.int .u32) 58 w' w.heap.size (fun k_ => (w.heap.size ≤ k_) ∧ some k_ ≠ ((.slice Ao52 x4_1.length co52) : Value).ownBlock ∧ some k_ ≠ (v214 : Value).ownBlock) (.slice Ao49 x10_1.length co49) x10_1) ∧ Aside0 (Kd.R (Kd.int .u32) 58 w' w.heap.size (fun k_ => (w.heap.size ≤ k_) ∧ some k_ ≠ ((.slice Ao52 x4_1.length co52) : Value).ownBlock ∧ some k_ ≠ ((.slice Ao49 x10_1.length co49) : Value).ownBlock) v214 x21_2) ∧ Aside0 (Below w.heap.size w w'))
      case atStart => exact ⟨(y213), (0), (by first | rfl | (simp; done) | (simp [*]; done)), H', ⟨Nat.le_refl _⟩, ⟨by (try simp only [hl4_1]); (try simp only [hl10_1]); (try simp only [hl11_1]); (with_reducible repeat (first | apply zRa | apply zRn | apply zRd)); exact zRm HO_4.out (fun _ hk => ⟨hk.1.1, ⟨hk.1.2, hk.2⟩⟩)⟩, ⟨by (try simp only [hl4_1]); (try simp only [hl10_1]); (try simp only [hl11_1]); (with_reducible repeat (first | apply zRa | apply zRn | apply zRd)); exact zRm HO_10.out (fun _ hk => ⟨hk.1.1, ⟨hk.1.2, hk.2⟩⟩)⟩, ⟨by (try simp only [hl4_1]); (try simp only [hl10_1]); (try simp only [hl11_1]); (with_reducible repeat (first | apply zRa | apply zRn | apply zRd)); exact zRm HO215.out (fun _ hk => ⟨hk.1.1.1, ⟨hk.1.2, hk.2⟩⟩)⟩, ⟨by exact uT HB.out⟩⟩
      clear H'
      obtain ⟨x21_2, x208_2, rfl, HA, HK2, HO_4, HO_10, HO_21, HB⟩ := hrel
      rcases gk with _ | k2
      ·exact absurd HA.out (by simp [n_DivMod.l3])
      have H := HA.out
      clear HA
      simp only [n_DivMod.l3] at H
      by_cases c132 : x208_2 < (t177.length : Int)
      ·rw [if_pos c132] at H
       have c132b0 : decide (x208_2 < (t177.length : Int)) = true := decide_eq_true c132
       (try (have c132b0l := c132b0; simp only [hl4_1, hl10_1, hl11_1] at c132b0l))
       clear c132
       obtain ⟨ji133, hji133⟩ : ∃ j_ : Int, (wrap64 (x208_2 + 1)) = j_ := ⟨_, rfl⟩
       replace H : (if 0 ≤ (ji133) then (if (ji133) < (x10_1.length : Int) then (if 0 ≤ x208_2 then (if x208_2 < (x10_1.length : Int) then (if 0 ≤ (IntKind.u64.wrap (t170)) then (if x208_2 < (x21_2.length : Int) then (n_DivMod.l3 k2 x4_1 (IntKind.u64.wrap (t170)) x10_1 (x21_2.set (x208_2 : Int).toNat ((shr .u64 (Go.bits .or .u64 (IntKind.u64.wrap ((IntKind.u64.wrap (rd x10_1 (ji133))) * 4294967296)) (IntKind.u64.wrap (rd x10_1 x208_2))) (IntKind.u64.wrap (t170))) % 4294967296)) (t177.length : Int) ji133) else (none)) else (none)) else (none)) else (none)) else (none)) else (none)) = some (r1, r2, r3) := by first | (rw [hji133] at H; exact H) | (simp only [hji133] at H ⊢; exact H)
       have hji133w : (IntKind.i64.wrap (x208_2 + 1)) = ji133 := (i64_w _).trans hji133
       (try (have hji133l := hji133; simp only [hl4_1, hl10_1, hl11_1] at hji133l))
       (try (have hji133wl := hji133w; simp only [hl4_1, hl10_1, hl11_1] at hji133wl))
       by_cases c134 : 0 ≤ (ji133)
       rotate_left
       ·rw [if_neg c134] at H; exact absurd H (by simp)
       rw [if_pos c134] at H
       have c134b0 : decide (0 ≤ (ji133)) = true := decide_eq_true c134
       (try (have c134b0l := c134b0; simp only [hl4_1, hl10_1, hl11_1] at c134b0l))
       clear c134
       by_cases c135 : (ji133) < (x10_1.length : Int)
       rotate_left
       ·rw [if_neg c135] at H; exact absurd H (by simp)
       rw [if_pos c135] at H
       have c135b0 : decide ((ji133) < (x10_1.length : Int)) = true := decide_eq_true c135
       (try (have c135b0l := c135b0; simp only [hl4_1, hl10_1, hl11_1] at c135b0l))
       clear c135
       by_cases c136 : 0 ≤ x208_2
       rotate_left
       ·rw [if_neg c136] at H; exact absurd H (by simp)
       rw [if_pos c136] at H
       have c136b0 : decide (0 ≤ x208_2) = true := decide_eq_true c136
       (try (have c136b0l := c136b0; simp only [hl4_1, hl10_1, hl11_1] at c136b0l))
       clear c136
       by_cases c137 : x208_2 < (x10_1.length : Int)
       rotate_left
       ·rw [if_neg c137] at H; exact absurd H (by simp)
       rw [if_pos c137] at H
       have c137b0 : decide (x208_2 < (x10_1.length : Int)) = true := decide_eq_true c137
       (try (have c137b0l := c137b0; simp only [hl4_1, hl10_1, hl11_1] at c137b0l))
       clear c137
       obtain ⟨ji138, hji138⟩ : ∃ j_ : Int, (IntKind.u64.wrap (t170)) = j_ := ⟨_, rfl⟩
       replace H : (if 0 ≤ (ji138) then (if x208_2 < (x21_2.length : Int) then (n_DivMod.l3 k2 x4_1 (ji138) x10_1 (x21_2.set (x208_2 : Int).toNat ((shr .u64 (Go.bits .or .u64 (IntKind.u64.wrap ((IntKind.u64.wrap (rd x10_1 (ji133))) * 4294967296)) (IntKind.u64.wrap (rd x10_1 x208_2))) (ji138)) % 4294967296)) (t177.length : Int) ji133) else (none)) else (none)) = some (r1, r2, r3) := by first | (rw [hji138] at H; exact H) | (simp only [hji138] at H ⊢; exact H)
       (try (have hji138l := hji138; simp only [hl4_1, hl10_1, hl11_1] at hji138l))
       (try (have hji138wl := hji138w; simp only [hl4_1, hl10_1, hl11_1] at hji138wl))
       by_cases c139 : 0 ≤ (ji138)
       rotate_left
       ·rw [if_neg c139] at H; exact absurd H (by simp)
       rw [if_pos c139] at H
       have c139b0 := eq_true c139
       have c139b1 : decide (0 ≤ (ji138)) = true := decide_eq_true c139
       clear c139
       obtain ⟨ji140, hji140⟩ : ∃ j_ : Int, (shr .u64 (Go.bits .or .u64 (IntKind.u64.wrap ((IntKind.u64.wrap (rd x10_1 (ji133))) * 4294967296)) (IntKind.u64.wrap (rd x10_1 x208_2))) (ji138)) = j_ := ⟨_, rfl⟩
       replace H : (if x208_2 < (x21_2.length : Int) then (n_DivMod.l3 k2 x4_1 (ji138) x10_1 (x21_2.set (x208_2 : Int).toNat ((ji140) % 4294967296)) (t177.length : Int) ji133) else (none)) = some (r1, r2, r3) := by first | (rw [hji140] at H; exact H) | (simp only [hji140] at H ⊢; exact H)
       (try (have hji140l := hji140; simp only [hl4_1, hl10_1, hl11_1] at hji140l))
       (try (have hji140wl := hji140w; simp only [hl4_1, hl10_1, hl11_1] at hji140wl))
       have hji140_ : ((Go.bits .or .u64 (IntKind.u64.wrap ((IntKind.u64.wrap (rd x10_1 (ji133))) * 4294967296)) (IntKind.u64.wrap (rd x10_1 x208_2))) / 2 ^ min (ji138).toNat 64) = ji140 := hji140
       have hji140z : (ji138) ≤ 64 → ((Go.bits .or .u64 (IntKind.u64.wrap ((IntKind.u64.wrap (rd x10_1 (ji133))) * 4294967296)) (IntKind.u64.wrap (rd x10_1 x208_2))) / 2 ^ (ji138).toNat) = ji140 := shr_small hji140
       by_cases c141 : x208_2 < (x21_2.length : Int)
       rotate_left
       ·rw [if_neg c141] at H; exact absurd H (by simp)
       rw [if_pos c141] at H
       have c141b0 : decide (x208_2 < (x21_2.length : Int)) = true := decide_eq_true c141
       (try (have c141b0l := c141b0; simp only [hl4_1, hl10_1, hl11_1] at c141b0l))
       clear c141
       obtain ⟨y218, hy218⟩ : ∃ y_ : List Int, y_ = (x21_2.set (x208_2 : Int).toNat ((ji140) % 4294967296)) := ⟨_, rfl⟩
       replace H : (n_DivMod.l3 k2 x4_1 (ji138) x10_1 y218 (t177.length : Int) ji133) = some (r1, r2, r3) := by first | (rw [hy218]; with_reducible exact H) | (have H2_ := bsm H; first | (rw [hy218]; with_reducible exact H2_) | with_reducible exact H2_) | with_reducible exact H | (rw [hy218]; exact H) | exact H
       have Ny218 := zMk hy218
       clear hy218
       have H' := zMk H
       clear H
       try go_wp2
       replace HO_4 := zMk (zRd HO_4.out)
       replace HO_10 := zMk (zRd HO_10.out)
       replace HO_21 := zMk (zRd HO_21.out)
       replace HB := zMk (zBd HB.out)
       have p216 : 0 ≤ ((ji133) : Int) := of_decide_eq_true (by first | (with_reducible assumption) | assumption)
       have q216 : (ji133) < (x10_1.length : Int) := of_decide_eq_true (by first | (with_reducible assumption) | assumption)
       obtain ⟨ad216, e216, hx216_0⟩ := zAi (zRr HO_10.out).2.2 (ji133) p216 q216
       cases e216
       replace p216 := eq_true p216
       replace q216 := eq_true q216
       have p217 : 0 ≤ (x208_2 : Int) := of_decide_eq_true (by first | (with_reducible assumption) | assumption)
       have q217 : x208_2 < (x10_1.length : Int) := of_decide_eq_true (by first | (with_reducible assumption) | assumption)
       obtain ⟨ad217, e217, hx217_0⟩ := zAi (zRr HO_10.out).2.2 x208_2 p217 q217
       obtain rfl : ad216 = ad217 := (by injection e217)
       replace p217 := eq_true p217
       replace q217 := eq_true q217
       have p142 : 0 ≤ (x208_2 : Int) := of_decide_eq_true (by first | (with_reducible assumption) | assumption)
       have q142 : (x208_2 : Int) < ((x21_2.length : Int) : Int) := of_decide_eq_true (by first | (with_reducible assumption) | assumption)
       obtain ⟨go142, co142, eo142, gb142, gl142, cl142, HG142⟩ := Kd.R_form HO_21.out (by omega)
       (first |  cases eo142|  (injection eo142 with ea_ en_ ec_; (first |  subst ea_|  (injection ea_ with ea_; subst ea_)); subst ec_; clear en_))
       have GB142 := zMk gb142
       have IGB142 := ownGe GB142.out
       have GG142 := zMk HG142
       clear gb142 gl142 HG142
       obtain ⟨hx142_0, hf142_0⟩ := Kd.R_celln 0 HO_21.out (x208_2 : Int) p142 q142
       replace p142 := eq_true p142
       replace q142 := eq_true q142
       have HP144 := Kd.R_putn HO_21.out (x208_2 : Int) ((ji140) % 4294967296)
       rw [← Ny218.out] at HP144
       have HQ144 := zMk HP144
       clear HP144
       refine start_ (n:=20) (S:=fun w' => w'.cell? (ad216.add ((ji133)).toNat) = some (.int .u32 (rd x10_1 (ji133))) ∧ w'.cell? (ad216.add (x208_2).toNat) = some (.int .u32 (rd x10_1 x208_2))) (ds:=[19]) #[false,false,false,false,false,false,false,false,false,false,false,false,false,false,false,false,false,false,false,false] (by kernel_rfl) rfl rfl ⟨hx216_0, hx217_0⟩ (fun hHeld => ?_); refine with_tabW n_DivMod.tab39 n_DivMod.bits39 (fun HT_ HW_ => ?_)
       generalize wr.drew = w143 at HO_4 HO_10 HO_21 HB GG142 HQ144 hf142_0 hx142_0 hx216_0 hx217_0 hHeld ⊢
       refine pure_ (i:=0) (N:=some 211) (v:=?_) (a' := ?_) #[true,false,false,false,false,false,false,false,false,false,false,false,false,false,false,false,false,false,false,false] rfl rfl (any_of HT_.out (by kernel_rfl)) (fun _ _ _ h => h) (Or.inl ⟨by rfl, ?_⟩) ?_ ?_
       rotate_left
       ·intro w'
        go_simp
        with_reducible rfl
       rotate_left
       ·simp only [Act.put, zSa, zSb, zSc, i64_w, i32_w]
        rfl
       refine pure_ (i:=1) (N:=some 212) (v:=?_) (a' := ?_) #[true,true,false,false,false,false,false,false,false,false,false,false,false,false,false,false,false,false,false,false] rfl rfl (any_of HT_.out (by kernel_rfl)) (fun _ _ _ h => h) (Or.inl ⟨by rfl, ?_⟩) ?_ ?_
       rotate_left
       ·intro w'
        go_simp
        with_reducible rfl
       rotate_left
       ·simp only [Act.put, zSa, zSb, zSc, i64_w, i32_w]
        rfl
       refine pure_ (i:=2) (N:=some 213) (v:=?_) (a' := ?_) #[true,true,true,false,false,false,false,false,false,false,false,false,false,false,false,false,false,false,false,false] rfl rfl (any_of HT_.out (by kernel_rfl)) (fun _ _ _ h => h) (Or.inl ⟨by rfl, ?_⟩) ?_ ?_
       rotate_left
       ·intro w'
        go_simp
        with_reducible rfl
       rotate_left
       ·simp only [Act.put, zSa, zSb, zSc, i64_w, i32_w]
        rfl
       refine pure_ (i:=3) (N:=some 214) (v:=?_) (a' := ?_) #[true,true,true,true,false,false,false,false,false,false,false,false,false,false,false,false,false,false,false,false] rfl rfl (any_of HT_.out (by kernel_rfl)) (fun _ _ _ h => h) (Or.inl ⟨by rfl, ?_⟩) ?_ ?_
       rotate_left
       ·intro w'
        go_simp
        with_reducible rfl
       rotate_left
       ·simp only [Act.put, zSa, zSb, zSc, i64_w, i32_w]
        rfl
       refine pure_ (i:=4) (N:=some 215) (v:=?_) (a' := ?_) #[true,true,true,true,true,false,false,false,false,false,false,false,false,false,false,false,false,false,false,false] rfl rfl (any_of HT_.out (by kernel_rfl)) (fun _ _ _ h => h) (Or.inl ⟨by rfl, ?_⟩) ?_ ?_
       rotate_left
       ·intro w'
        go_simp
        with_reducible rfl
       rotate_left
       ·simp only [Act.put, zSa, zSb, zSc, i64_w, i32_w]
        rfl
       refine pure_ (i:=5) (N:=some 216) (v:=?_) (a' := ?_) #[true,true,true,true,true,true,false,false,false,false,false,false,false,false,false,false,false,false,false,false] rfl rfl (any_of HT_.out (by kernel_rfl)) (fun _ _ _ h => h) (Or.inl ⟨by rfl, ?_⟩) ?_ ?_
       rotate_left
       ·intro w'
        go_simp
        with_reducible rfl
       rotate_left
       ·simp only [Act.put, zSa, zSb, zSc, i64_w, i32_w]
        rfl
       refine pure_ (i:=9) (N:=some 220) (v:=?_) (a' := ?_) #[true,true,true,true,true,true,false,false,false,true,false,false,false,false,false,false,false,false,false,false] rfl rfl (any_of HT_.out (by kernel_rfl)) (fun _ _ _ h => h) (Or.inl ⟨by rfl, ?_⟩) ?_ ?_
       rotate_left
       ·intro w'
        go_simp
        with_reducible rfl
       rotate_left
       ·simp only [Act.put, zSa, zSb, zSc, i64_w, i32_w]
        rfl
       refine pure_ (i:=10) (N:=some 221) (v:=?_) (a' := ?_) #[true,true,true,true,true,true,false,false,false,true,true,false,false,false,false,false,false,false,false,false] rfl rfl (any_of HT_.out (by kernel_rfl)) (fun _ _ _ h => h) (Or.inl ⟨by rfl, ?_⟩) ?_ ?_
       rotate_left
       ·intro w'
        go_simp
        with_reducible rfl
       rotate_left
       ·simp only [Act.put, zSa, zSb, zSc, i64_w, i32_w]
        rfl
       refine pure_ (i:=11) (N:=some 222) (v:=?_) (a' := ?_) #[true,true,true,true,true,true,false,false,false,true,true,true,false,false,false,false,false,false,false,false] rfl rfl (any_of HT_.out (by kernel_rfl)) (fun _ _ _ h => h) (Or.inl ⟨by rfl, ?_⟩) ?_ ?_
       rotate_left
       ·intro w'
        go_simp
        with_reducible rfl
       rotate_left
       ·simp only [Act.put, zSa, zSb, zSc, i64_w, i32_w]
        rfl
       refine pure_ (i:=15) (N:=some 226) (v:=?_) (a' := ?_) #[true,true,true,true,true,true,false,false,false,true,true,true,false,false,false,true,false,false,false,false] rfl rfl (any_of HT_.out (by kernel_rfl)) (fun _ _ _ h => h) (Or.inl ⟨by rfl, ?_⟩) ?_ ?_
       rotate_left
       ·intro w'
        go_simp
        with_reducible rfl
       rotate_left
       ·simp only [Act.put, zSa, zSb, zSc, i64_w, i32_w]
        rfl
       refine take_ (i:=6) (N:=some 217) (v:=?_) (a' := ?_) #[true,true,true,true,true,true,true,false,false,true,true,true,false,false,false,true,false,false,false,false] rfl rfl (take_ofW HT_.out HW_.out (by kernel_rfl)) (fun _ _ _ h => h) (Or.inl ⟨by rfl, ?_⟩) hHeld ?_ ?_
       rotate_left
       ·rintro w' ⟨s0, s1⟩
        go_simp
        with_reducible rfl
       rotate_left
       ·simp only [Act.put, zSa, zSb, zSc, i64_w, i32_w]
        rfl
       refine pure_ (i:=7) (N:=some 218) (v:=?_) (a' := ?_) #[true,true,true,true,true,true,true,true,false,true,true,true,false,false,false,true,false,false,false,false] rfl rfl (any_of HT_.out (by kernel_rfl)) (fun _ _ _ h => h) (Or.inl ⟨by rfl, ?_⟩) ?_ ?_
       rotate_left
       ·intro w'
        go_simp
        with_reducible rfl
       rotate_left
       ·simp only [Act.put, zSa, zSb, zSc, i64_w, i32_w]
        rfl
       refine pure_ (i:=8) (N:=some 219) (v:=?_) (a' := ?_) #[true,true,true,true,true,true,true,true,true,true,true,true,false,false,false,true,false,false,false,false] rfl rfl (any_of HT_.out (by kernel_rfl)) (fun _ _ _ h => h) (Or.inl ⟨by rfl, ?_⟩) ?_ ?_
       rotate_left
       ·intro w'
        go_simp
        with_reducible rfl
       rotate_left
       ·simp only [Act.put, zSa, zSb, zSc, i64_w, i32_w]
        rfl
       refine take_ (i:=12) (N:=some 223) (v:=?_) (a' := ?_) #[true,true,true,true,true,true,true,true,true,true,true,true,true,false,false,true,false,false,false,false] rfl rfl (take_ofW HT_.out HW_.out (by kernel_rfl)) (fun _ _ _ h => h) (Or.inl ⟨by rfl, ?_⟩) hHeld ?_ ?_
       rotate_left
       ·rintro w' ⟨s0, s1⟩
        go_simp
        with_reducible rfl
       rotate_left
       ·simp only [Act.put, zSa, zSb, zSc, i64_w, i32_w]
        rfl
       refine pure_ (i:=13) (N:=some 224) (v:=?_) (a' := ?_) #[true,true,true,true,true,true,true,true,true,true,true,true,true,true,false,true,false,false,false,false] rfl rfl (any_of HT_.out (by kernel_rfl)) (fun _ _ _ h => h) (Or.inl ⟨by rfl, ?_⟩) ?_ ?_
       rotate_left
       ·intro w'
        go_simp
        with_reducible rfl
       rotate_left
       ·simp only [Act.put, zSa, zSb, zSc, i64_w, i32_w]
        rfl
       refine pure_ (i:=14) (N:=some 225) (v:=?_) (a' := ?_) #[true,true,true,true,true,true,true,true,true,true,true,true,true,true,true,true,false,false,false,false] rfl rfl (any_of HT_.out (by kernel_rfl)) (fun _ _ _ h => h) (Or.inl ⟨by rfl, ?_⟩) ?_ ?_
       rotate_left
       ·intro w'
        go_simp
        with_reducible rfl
       rotate_left
       ·simp only [Act.put, zSa, zSb, zSc, i64_w, i32_w]
        rfl
       refine pure_ (i:=16) (N:=some 227) (v:=?_) (a' := ?_) #[true,true,true,true,true,true,true,true,true,true,true,true,true,true,true,true,true,false,false,false] rfl rfl (any_of HT_.out (by kernel_rfl)) (fun _ _ _ h => h) (Or.inl ⟨by rfl, ?_⟩) ?_ ?_
       rotate_left
       ·intro w'
        go_simp
        with_reducible rfl
       rotate_left
       ·simp only [Act.put, zSa, zSb, zSc, i64_w, i32_w]
        rfl
       refine pure_ (i:=17) (N:=some 228) (v:=?_) (a' := ?_) #[true,true,true,true,true,true,true,true,true,true,true,true,true,true,true,true,true,true,false,false] rfl rfl (any_of HT_.out (by kernel_rfl)) (fun _ _ _ h => h) (Or.inl ⟨by rfl, ?_⟩) ?_ ?_
       rotate_left
       ·intro w'
        go_simp
        with_reducible rfl
       rotate_left
       ·simp only [Act.put, zSa, zSb, zSc, i64_w, i32_w]
        rfl
       refine pure_ (i:=18) (N:=some 229) (v:=?_) (a' := ?_) #[true,true,true,true,true,true,true,true,true,true,true,true,true,true,true,true,true,true,true,false] rfl rfl (any_of HT_.out (by kernel_rfl)) (fun _ _ _ h => h) (Or.inl ⟨by rfl, ?_⟩) ?_ ?_
       rotate_left
       ·intro w'
        go_simp
        with_reducible rfl
       rotate_left
       ·simp only [Act.put, zSa, zSb, zSc, i64_w, i32_w]
        rfl
       refine last_ (i:=19) (N:=none) #[true,true,true,true,true,true,true,true,true,true,true,true,true,true,true,true,true,true,true,true] rfl rfl (one_of HT_.out (by kernel_rfl)) (by decide) (fun K hK => ?_)
       refine skip_ (w1:=?_) (by rfl) rfl ?_ ?_
       rotate_left
       ·go_simp
        rfl
       refine hK.out _ _ ?_
       clear hK K
       refine done_ (done_of HT_.out (by kernel_rfl)) ?_
       try go_wp2
       subst hji138
       go_roundg k2
       case measure => have := HK1.out; have := HK2.out; omega
       case rel => exact ⟨(y218), (ji133), (by first | rfl | (simp; done) | (simp only [← hji133] <;> (first | rfl | simp)) | (simp [*]; done)), H', ⟨by have := HK1.out; have := HK2.out; omega⟩, ⟨by (try simp only [hl4_1]); (try simp only [hl10_1]); (try simp only [hl11_1]); (with_reducible repeat (first | apply zRa | apply zRn | apply zRd)); exact zRm (Kd.R_far (p:=⟨go142, (x208_2 : Int).toNat, none⟩) (zRm HO_4.out (fun k_ hk => (⟨hk, fun e_ => hk.2.2 (by rw [e_]; rfl)⟩ : _ ∧ k_ ≠ go142))) (fun _ hk => hk.2) (.int .u32 ((ji140) % 4294967296))) (fun _ hk => ⟨hk.1.1, ⟨hk.1.2.1, hk.1.2.2⟩⟩)⟩, ⟨by (try simp only [hl4_1]); (try simp only [hl10_1]); (try simp only [hl11_1]); (with_reducible repeat (first | apply zRa | apply zRn | apply zRd)); exact zRm (Kd.R_far (p:=⟨go142, (x208_2 : Int).toNat, none⟩) (zRm HO_10.out (fun k_ hk => (⟨hk, fun e_ => hk.2.2 (by rw [e_]; rfl)⟩ : _ ∧ k_ ≠ go142))) (fun _ hk => hk.2) (.int .u32 ((ji140) % 4294967296))) (fun _ hk => ⟨hk.1.1, ⟨hk.1.2.1, hk.1.2.2⟩⟩)⟩, ⟨by (try simp only [hl4_1]); (try simp only [hl10_1]); (try simp only [hl11_1]); exact uR HQ144.out⟩, ⟨by exact uT HB.out⟩⟩
      ·rw [if_neg c132] at H
       have c132b0 : decide (x208_2 < (t177.length : Int)) = false := decide_eq_false c132
       (try (have c132b0l := c132b0; simp only [hl4_1, hl10_1, hl11_1] at c132b0l))
       clear c132
       replace H := bnd H
       obtain ⟨t219, A1450, H⟩ := H
       have A145 := zMk A1450
       clear A1450
       replace H := bnd H
       obtain ⟨t222, A1460, H⟩ := H
       have A146 := zMk A1460
       clear A1460
       simp only [Option.some.injEq, Prod.mk.injEq] at H
       obtain ⟨rfl, rfl, rfl⟩ := H
       go_wp2_with (first | ((with_reducible refine gate_callee (f:=56) rfl ?_); refine goesL_ (some 232) rfl rfl Tryd.func56 (by kernel_rfl) rfl #[.slice Ao52 x4_1.length co52] rfl (by (try simp only [zMa, zMc, zMn]); first |  done|  rfl|  (simp only [zLd, zLt]; rfl)) ?_; (with_reducible refine (n_cut.calls (fun k_ => some k_ = (.slice Ao52 x4_1.length co52 : Value).ownBlock) _ _ x4_1 t219 _ ?side1 A145.out).mono ?_); (case side1 => exact Kd.R_V (Kd.R_tight rfl (HO_4.out))); rintro e w147 ⟨v220, rfl, ho0, hb⟩; refine ⟨_, rfl, ?_⟩; have HO221 := zMk (zVl (zVm (ok' := fun k_ => ((P0_ k_ ∨ P1_ k_) ∨ w.heap.size ≤ k_) ∧ some k_ ≠ (.slice Ao49 x10_1.length co49 : Value).ownBlock ∧ some k_ ≠ (v214 : Value).ownBlock) ho0 (fun k_ hk_ => ⟨Or.elim hk_ (fun hs_ => (.inr (((HO_4.out).1 k_ hs_.symm).1))) (fun hn_ => (.inr (Nat.le_trans (zBs (uT HB.out)) hn_))), Or.elim hk_ (fun hs_ => ((HO_4.out).1 k_ hs_.symm).2.1) (fun hn_ => (Kd.fresh' (zRt (uR HO_10.out)) k_ hn_)), Or.elim hk_ (fun hs_ => ((HO_4.out).1 k_ hs_.symm).2.2) (fun hn_ => (Kd.fresh' (zRt (uR HO_21.out)) k_ hn_))⟩)) (zBs (uT HB.out))); replace HO_4 := zMk (zRb (uR HO_4.out) hb); replace HO_10 := zMk (zRb (uR HO_10.out) hb); replace HO_21 := zMk (zRb (uR HO_21.out) hb); replace HB := zMk (zBt (uT HB.out) hb); (try clear hb); (try clear hb2); (try clear hk); (try clear hi); (try clear ho0); obtain ⟨Ao148, co148, eo148⟩ := zRs HO_21.out; subst eo148)|((with_reducible refine gate_callee (f:=56) rfl ?_); refine goesL_ (some 234) rfl rfl Tryd.func56 (by kernel_rfl) rfl #[.slice Ao148 x21_2.length co148] rfl (by (try simp only [zMa, zMc, zMn]); first |  done|  rfl|  (simp only [zLd, zLt]; rfl)) ?_; (with_reducible refine (n_cut.calls (fun k_ => some k_ = (.slice Ao148 x21_2.length co148 : Value).ownBlock) _ _ x21_2 t222 _ ?side1 A146.out).mono ?_); (case side1 => exact Kd.R_V (Kd.R_tight rfl (HO_21.out))); rintro e w149 ⟨v223, rfl, ho0, hb⟩; refine ⟨_, rfl, ?_⟩; replace HO221 := zMk (zVb (uV HO221.out) hb); have HO224 := zMk (zVl (zVm (ok' := fun k_ => ((P0_ k_ ∨ P1_ k_) ∨ w.heap.size ≤ k_) ∧ some k_ ≠ (.slice Ao52 x4_1.length co52 : Value).ownBlock ∧ some k_ ≠ (.slice Ao49 x10_1.length co49 : Value).ownBlock) ho0 (fun k_ hk_ => ⟨Or.elim hk_ (fun hs_ => (.inr (((HO_21.out).1 k_ hs_.symm).1))) (fun hn_ => (.inr (Nat.le_trans (zBs (uT HB.out)) hn_))), Or.elim hk_ (fun hs_ => ((HO_21.out).1 k_ hs_.symm).2.1) (fun hn_ => (Kd.fresh' (zRt (uR HO_4.out)) k_ hn_)), Or.elim hk_ (fun hs_ => ((HO_21.out).1 k_ hs_.symm).2.2) (fun hn_ => (Kd.fresh' (zRt (uR HO_10.out)) k_ hn_))⟩)) (zBs (uT HB.out))); replace HO_4 := zMk (zRb (uR HO_4.out) hb); replace HO_10 := zMk (zRb (uR HO_10.out) hb); replace HO_21 := zMk (zRb (uR HO_21.out) hb); replace HB := zMk (zBt (uT HB.out) hb); (try clear hb); (try clear hb2); (try clear hk); (try clear hi); (try clear ho0)))
       go_ret3
       exact ⟨_, _, by first | rfl | (simp [errW_none, errW_some] <;> rfl) | (simp only [← hji29, ← hji36]; first | rfl | (simp [errW_none, errW_some] <;> rfl)) | (simp [*, errW_none, errW_some] <;> rfl), by (with_reducible repeat (first | apply zVa | apply zVn | apply zVd)); exact zVm HO221.out (fun _ hk => hk.1), by (with_reducible repeat (first | apply zVa | apply zVn | apply zVd)); exact zVm HO224.out (fun _ hk => hk.1), by exact uT HB.out⟩
    ·rw [if_neg c30] at H
     exact absurd H (by simp)

structure IsNum (l : List Int) (n : Int) : Prop where
 limbs : Limbs l
 trim : Trim l
 eq : val l = n
theorem IsNum.unique {a b : List Int} {n : Int} (ha : IsNum a n) (hb : IsNum b n) : a = b := val_inj ha.limbs ha.trim hb.limbs hb.trim (ha.eq.trans hb.eq.symm)
theorem IsNum.cut {l : List Int} (h : Limbs l) : IsNum (cut l) (val l) := ⟨cut_limbs h, cut_trim l, cut_val l⟩
theorem getD_set_ne (l : List Int) {m n : Nat} (v : Int) (h : m ≠ n) : (l.set m v).getD n 0 = l.getD n 0 := by rw [List.getD_eq_getElem?_getD, List.getElem?_set_ne h, ← List.getD_eq_getElem?_getD]
theorem getD_set_eq (l : List Int) {n : Nat} (v : Int) (h : n < l.length) : (l.set n v).getD n 0 = v := by rw [List.getD_eq_getElem?_getD, List.getElem?_set_self h]; rfl
theorem val_set (l : List Int) : ∀ (n : Nat) (v : Int), n < l.length → val (l.set n v) = val l + 4294967296 ^ n * (v - l.getD n 0) := by
 induction l with
 | nil => intro n v h; exact absurd h (by simp)
 | cons x l ih =>
  intro n v h
  rcases n with _ | n
  ·simp only [zSb, val, List.getD_cons_zero, Int.pow_zero]; omega
  ·have := ih n v (by simpa using h)
   simp only [zSc, val, List.getD_cons_succ, this, Int.pow_succ]
   grind
theorem Limbs.set {l : List Int} (h : Limbs l) (n : Nat) {v : Int} (h0 : 0 ≤ v) (h1 : v < 4294967296) : Limbs (l.set n v) := fun x hx => by
 rcases List.mem_or_eq_of_mem_set hx with hx | rfl
 ·exact h x hx
 ·exact ⟨h0, h1⟩
theorem getD_of_lt {l : List Int} : ∀ {m n : Nat}, Limbs l → val l < 4294967296 ^ n → n ≤ m → l.getD m 0 = 0 := by
 induction l with
 | nil => intro m n _ _ _; rfl
 | cons x l ih =>
  intro m n hl h hmn
  have h1 := hl.cons
  have h2 := val_nonneg h1.2
  simp only [val] at h
  rcases n with _ | n
  ·rw [Int.pow_zero] at h
   have hx : x = 0 := by omega
   have hv : val l = 0 := by omega
   rcases m with _ | m
   ·simpa using hx
   ·rw [List.getD_cons_succ]
    exact ih (n:=0) h1.2 (by rw [hv]; decide) (by omega)
  ·rcases m with _ | m
   ·omega
   ·rw [List.getD_cons_succ]
    refine ih (n:=n) h1.2 ?_ (by omega)
    rw [Int.pow_succ] at h
    omega
theorem limbs_replicate (n : Nat) : Limbs (List.replicate n 0) := fun x hx => by rw [List.eq_of_mem_replicate hx]; omega
theorem val_replicate (n : Nat) : val (List.replicate n 0) = 0 := by
 induction n with
 | zero => rfl
 | succ n ih => simp only [List.replicate_succ, val, ih]; rfl

theorem mul_l1 (b : List Int) (hb : Limbs b) (x : Int) (hx : 0 ≤ x ∧ x < 4294967296) (i : Nat) (X : List Int) (n p : Int) (N : Nat) (hN : N < 70368744177665) (hi : i + b.length < N) (T : Int) :
  ∀ (j m k : Nat) (O : List Int) (c : Int), m + j = b.length → O.length = N → Limbs O → 0 ≤ c → c < 4294967296 → O.getD (i + b.length) 0 = 0 →
  val O + c * 4294967296 ^ (i + m) + x * (val b - val (b.take m)) * 4294967296 ^ i = T →
  ∃ O', O'.length = N ∧ Limbs O' ∧ val O' = T ∧ n_Mul.l1 (k + j + 1) b O (i : Int) x c X n p b (b.length : Int) (m : Int) = n_Mul.l0 k b O' X n (wrap64 (p + 1)) := by
 intro j
 induction j with
 | zero =>
  intro m k O c hm hO lO hc0 hc1 hz hT
  obtain rfl : m = b.length := by omega
  refine ⟨O.set (i + b.length) c, by rw [List.length_set]; exact hO, lO.set _ hc0 hc1, ?_, ?_⟩
  ·rw [val_set _ _ _ (by omega), hz]
   rw [List.take_length] at hT
   grind
  ·rw [n_Mul.l1, if_neg (by omega), w64 (by omega) (by omega), if_pos (by omega), if_pos (by omega), show c % 4294967296 = c from by omega]
   rfl
 | succ j ih =>
  intro m k O c hm hO lO hc0 hc1 hz hT
  have hbm := hb.getD m
  have hom := lO.getD (i + m)
  obtain ⟨s, hs⟩ : ∃ s, s = x * b.getD m 0 + O.getD (i + m) 0 + c := ⟨_, rfl⟩
  have hxb : 0 ≤ x * b.getD m 0 := Int.mul_nonneg hx.1 hbm.1
  have hxb2 : x * b.getD m 0 ≤ 4294967295 * 4294967295 := Int.mul_le_mul (by omega) (by omega) hbm.1 (by decide)
  have e1 : IntKind.u64.wrap ((IntKind.u64.wrap ((IntKind.u64.wrap ((IntKind.u64.wrap x) * (IntKind.u64.wrap (rd b (m : Int))))) + (IntKind.u64.wrap (rd O ((i + m : Nat) : Int))))) + c) = s := by
   rw [rd_nat, rd_nat, wraps_u64 x (by omega) (by omega), wraps_u64 (b.getD m 0) (by omega) (by omega), wraps_u64 (O.getD (i + m) 0) (by omega) (by omega), wraps_u64 (x * b.getD m 0) (by omega) (by omega), wraps_u64 (x * b.getD m 0 + O.getD (i + m) 0) (by omega) (by omega), wraps_u64 (x * b.getD m 0 + O.getD (i + m) 0 + c) (by omega) (by omega), hs]
  have hs0 : 0 ≤ s ∧ s < 18446744073709551616 := by omega
  obtain ⟨O', h1, h2, h3, h4⟩ := ih (m + 1) k (O.set (i + m) (s % 4294967296)) (s / 4294967296) (by omega) (by rw [List.length_set]; exact hO) (lO.set _ (by omega) (by omega)) (by omega) (by omega) (by rw [getD_set_ne _ _ (by omega)]; exact hz) (by
   rw [val_set _ _ _ (by omega), val_take_succ b m (by omega), ← hT, show i + (m + 1) = (i + m) + 1 by omega, Int.pow_succ, Int.pow_add]
   have := Int.emod_add_mul_ediv s 4294967296
   grind)
  refine ⟨O', h1, h2, h3, ?_⟩
  rw [show k + (j + 1) + 1 = (k + j + 1) + 1 by omega, n_Mul.l1, if_pos (by omega), if_pos (by omega), if_pos (by omega), w64 (n:=(i : Int) + (m : Int)) (by omega) (by omega), if_pos (by omega), if_pos (by omega), w64 (n:=(m : Int) + 1) (by omega) (by omega), show ((i : Int) + (m : Int)) = ((i + m : Nat) : Int) by omega, e1, zTn, show ((m : Int) + 1) = ((m + 1 : Nat) : Int) by omega]
  exact h4
theorem mul_l0 (a b : List Int) (ha : Limbs a) (hb : Limbs b) (N : Nat) (hN : N < 70368744177665) (hab : a.length + b.length = N) :
  ∀ (j m k : Nat) (O : List Int), m + j = a.length → O.length = N → Limbs O → val O = val (a.take m) * val b →
  ∃ r, n_Mul.l0 (k + (b.length + 2) * j + 1) b O a (a.length : Int) (m : Int) = some r ∧ IsNum r (val a * val b) ∧ r.length ≤ N := by
 intro j
 induction j with
 | zero =>
  intro m k O hm hO lO hv
  refine ⟨cut O, ?_, ?_, by have := cut_length O; omega⟩
  ·rw [n_Mul.l0, if_neg (by omega)]
   rfl
  ·have := IsNum.cut lO
   rw [hv, List.take_of_length_le (by omega)] at this
   exact this
 | succ j ih =>
  intro m k O hm hO lO hv
  have ham := ha.getD m
  have hlt : val O < 4294967296 ^ (m + b.length) := by
   rw [hv, Int.pow_add]
   have h1 := val_lt (ha.take m)
   have h2 := val_lt hb
   have h3 := val_nonneg (ha.take m)
   have h4 := val_nonneg hb
   rw [zLt, Nat.min_eq_left (by omega)] at h1
   exact Int.lt_of_le_of_lt (Int.mul_le_mul_of_nonneg_right (Int.le_of_lt h1) h4) (Int.mul_lt_mul_of_pos_left h2 (Int.pow_pos (by decide)))
  obtain ⟨O', h1, h2, h3, h4⟩ := mul_l1 b hb (a.getD m 0) ham m a (a.length : Int) (m : Int) N hN (by omega) (val (a.take (m + 1)) * val b) b.length 0 (k + (b.length + 2) * j + 1) O 0 (by omega) hO lO (by omega) (by omega) (getD_of_lt lO hlt (Nat.le_refl _)) (by
   rw [hv, val_take_succ a m (by omega)]
   simp only [List.take_zero, val]
   grind)
  obtain ⟨r, h5, h6, h7⟩ := ih (m + 1) k O' (by omega) h1 h2 h3
  refine ⟨r, ?_, h6, h7⟩
  rw [show k + (b.length + 2) * (j + 1) + 1 = ((k + (b.length + 2) * j + 1) + b.length + 1) + 1 by rw [Nat.mul_add]; omega, n_Mul.l0, if_pos (by omega), if_pos (by omega), if_pos (by omega), rd_nat]
  rw [show ((0 : Nat) : Int) = 0 from rfl] at h4
  rw [h4, w64 (by omega) (by omega)]
  exact h5
theorem mul_f (a b : List Int) (ha : Limbs a) (hb : Limbs b) (hN : a.length + b.length < 70368744177665) (k : Nat) (hk : (b.length + 2) * a.length + 1 ≤ k) :
  ∃ r, n_Mul.f k a b = some r ∧ IsNum r (val a * val b) ∧ r.length ≤ a.length + b.length := by
 have ca := cut_length a
 have cb := cut_length b
 have h0 : ((cut b).length + 2) * (cut a).length + 1 ≤ k := Nat.le_trans (Nat.succ_le_succ (Nat.mul_le_mul (by omega) ca)) hk
 obtain ⟨d, rfl⟩ : ∃ d, k = d + ((cut b).length + 2) * (cut a).length + 1 := ⟨k - (((cut b).length + 2) * (cut a).length + 1), by omega⟩
 obtain ⟨r, h1, h2, h3⟩ := mul_l0 (cut a) (cut b) (cut_limbs ha) (cut_limbs hb) ((cut a).length + (cut b).length) (by omega) rfl (cut a).length 0 d (List.replicate ((cut a).length + (cut b).length) 0) (by omega) (by simp) (limbs_replicate _) (by rw [val_replicate]; simp [val])
 refine ⟨r, ?_, by rw [cut_val, cut_val] at h2; exact h2, by omega⟩
 unfold n_Mul.f
 rw [cut_f, zOb, cut_f, zOb, w64 (by omega) (by omega), if_pos (by omega), show ((cut a).length : Int) + ((cut b).length : Int) = (((cut a).length + (cut b).length : Nat) : Int) by omega, zTn, if_pos (by omega)]
 exact h1

mutual
def n_Add.j0 : Nat → List Int → List Int → Option (List Int)
 | 0, _, _ => none
 | k + 1, x0, x1 => if 0 ≤ (wrap64 ((x0.length : Int) + 1)) then (if (wrap64 ((x0.length : Int) + 1) : Int).toNat ≤ 70368744177664 then (n_Add.l0 k x0 x1 (List.replicate (wrap64 ((x0.length : Int) + 1) : Int).toNat 0) 0 x0 (x0.length : Int) 0) else (none)) else (none)
def n_Add.l0 : Nat → List Int → List Int → List Int → Int → List Int → Int → Int → Option (List Int)
 | 0, _, _, _, _, _, _, _ => none
 | k + 1, x0, x1, x5, x6, x25, x26, x27 => if x27 < x26 then (if 0 ≤ x27 then (if x27 < (x25.length : Int) then (if x27 < (x1.length : Int) then ((bits_Add32.f (rd x25 x27) (rd x1 x27) x6).bind fun bt236 => (if x27 < (x5.length : Int) then (n_Add.l0 k x0 x1 (x5.set (x27 : Int).toNat bt236.1) bt236.2 x25 x26 (wrap64 (x27 + 1))) else (none))) else ((bits_Add32.f (rd x25 x27) 0 x6).bind fun bt239 => (if x27 < (x5.length : Int) then (n_Add.l0 k x0 x1 (x5.set (x27 : Int).toNat bt239.1) bt239.2 x25 x26 (wrap64 (x27 + 1))) else (none)))) else (none)) else (none)) else (if 0 ≤ (x0.length : Int) then (if (x0.length : Int) < (x5.length : Int) then ((n_cut.f (x5.set ((x0.length : Int) : Int).toNat x6)).bind fun t243 => (some t243)) else (none)) else (none))
end
def n_Add.f (k : Nat) (l0 : List Int) (l1 : List Int) : Option (List Int) := (n_cut.f l0).bind fun t225 => ((n_cut.f l1).bind fun t228 => (if (t225.length : Int) < (t228.length : Int) then (n_Add.j0 k t228 t225) else (n_Add.j0 k t225 t228)))
theorem n_Add.calls (k : Nat) (P0_ : Nat → Prop) (A0 : Option Addr) (c0 : Nat) (l0 : List Int) (P1_ : Nat → Prop) (A1 : Option Addr) (c1 : Nat) (l1 : List Int) (r : List Int) (w : World) (hs0 : Kd.V (Kd.int .u32) 58 w w.heap.size (fun k_ => P0_ k_) (.slice A0 l0.length c0) l0) (hs1 : Kd.V (Kd.int .u32) 58 w w.heap.size (fun k_ => P1_ k_) (.slice A1 l1.length c1) l1) (h : n_Add.f k l0 l1 = some r) :
  Calls Tryd.prog 33 #[.slice A0 l0.length c0, .slice A1 l1.length c1] w fun e w' => ∃ v0_ : Value, e = .returned (v0_) ∧ Kd.V (Kd.int .u32) 58 w' w.heap.size (fun k_ => ((P0_ k_ ∨ P1_ k_) ∨ w.heap.size ≤ k_)) v0_ r ∧ Below w.heap.size w w' := by
 have HO0 := zMk (show Kd.V (Kd.int .u32) 58 w w.heap.size (fun k_ => ((P0_ k_ ∨ P1_ k_) ∨ w.heap.size ≤ k_)) (.slice A0 l0.length c0) l0 from zVm hs0 (fun k_ hk => .inl (.inl hk)))
 have HO1 := zMk (show Kd.V (Kd.int .u32) 58 w w.heap.size (fun k_ => ((P0_ k_ ∨ P1_ k_) ∨ w.heap.size ≤ k_)) (.slice A1 l1.length c1) l1 from zVm hs1 (fun k_ hk => .inl (.inr hk)))
 have HB := zMk (Below.refl w.heap.size w)
 have H : ((n_cut.f l0).bind fun t225 => ((n_cut.f l1).bind fun t228 => (if (t225.length : Int) < (t228.length : Int) then (n_Add.j0 k t228 t225) else (n_Add.j0 k t225 t228)))) = some r := h
 clear h
 replace H := bnd H
 obtain ⟨t225, A30, H⟩ := H
 have A3 := zMk A30
 clear A30
 replace H := bnd H
 obtain ⟨t228, A40, H⟩ := H
 have A4 := zMk A40
 clear A40
 have HC5 := zMk H
 clear H
 go_enter Tryd.func33, Tryd.ntmps33
 go_upto_if 18 with (first | ((with_reducible refine gate_callee (f:=56) rfl ?_); refine goesL_ (some 11) rfl rfl Tryd.func56 (by kernel_rfl) rfl #[.slice A0 l0.length c0] rfl (by (try simp only [zMa, zMc, zMn]); first |  done|  rfl|  (simp only [zLd, zLt]; rfl)) ?_; (with_reducible refine (n_cut.calls (fun k_ => ((P0_ k_ ∨ P1_ k_) ∨ w.heap.size ≤ k_)) _ _ l0 t225 _ ?side1 A3.out).mono ?_); (case side1 => exact HO0.out); rintro e w6 ⟨v226, rfl, ho0, hb⟩; refine ⟨_, rfl, ?_⟩; replace HO0 := zMk (zVb (uV HO0.out) hb); replace HO1 := zMk (zVb (uV HO1.out) hb); have HO227 := zMk (zVl (zVm (ok' := fun k_ => ((P0_ k_ ∨ P1_ k_) ∨ w.heap.size ≤ k_)) ho0 (fun k_ hk_ => Or.elim hk_ (fun hs_ => hs_) (fun hn_ => (.inr (Nat.le_trans (zBs (uT HB.out)) hn_))))) (zBs (uT HB.out))); replace HB := zMk (zBt (uT HB.out) hb))|((with_reducible refine gate_callee (f:=56) rfl ?_); refine goesL_ (some 13) rfl rfl Tryd.func56 (by kernel_rfl) rfl #[.slice A1 l1.length c1] rfl (by (try simp only [zMa, zMc, zMn]); first |  done|  rfl|  (simp only [zLd, zLt]; rfl)) ?_; (with_reducible refine (n_cut.calls (fun k_ => ((P0_ k_ ∨ P1_ k_) ∨ w.heap.size ≤ k_)) _ _ l1 t228 _ ?side1 A4.out).mono ?_); (case side1 => exact HO1.out); rintro e w7 ⟨v229, rfl, ho0, hb⟩; refine ⟨_, rfl, ?_⟩; replace HO0 := zMk (zVb (uV HO0.out) hb); replace HO1 := zMk (zVb (uV HO1.out) hb); replace HO227 := zMk (zVb (uV HO227.out) hb); have HO230 := zMk (zVl (zVm (ok' := fun k_ => ((P0_ k_ ∨ P1_ k_) ∨ w.heap.size ≤ k_)) ho0 (fun k_ hk_ => Or.elim hk_ (fun hs_ => hs_) (fun hn_ => (.inr (Nat.le_trans (zBs (uT HB.out)) hn_))))) (zBs (uT HB.out))); replace HB := zMk (zBt (uT HB.out) hb); obtain ⟨Ao8, co8, eo8⟩ := zVs HO227.out; subst eo8; obtain ⟨Ao9, co9, eo9⟩ := zVs HO230.out; subst eo9))
 (try simp only [Act.put, zSa, zSb, zSc])
 go_cut [0, 1] (fun v0 v1 wc => ∃ (kq : Nat) (x0_4 : List Int) (x1_4 : List Int), Aside0 (n_Add.j0 kq x0_4 x1_4 = some r) ∧ Aside0 (kq ≤ k) ∧ Aside0 (Kd.V (Kd.int .u32) 58 wc w.heap.size (fun k_ => ((P0_ k_ ∨ P1_ k_) ∨ w.heap.size ≤ k_)) v0 x0_4) ∧ Aside0 (Kd.V (Kd.int .u32) 58 wc w.heap.size (fun k_ => ((P0_ k_ ∨ P1_ k_) ∨ w.heap.size ≤ k_)) v1 x1_4) ∧ Aside0 (Below w.heap.size w wc))
 case first =>
  have H := HC5.out
  clear HC5
  by_cases c10 : (t225.length : Int) < (t228.length : Int)
  ·rw [if_pos c10] at H
   have c10b0 : decide ((t225.length : Int) < (t228.length : Int)) = true := decide_eq_true c10
   have c10b1 : decide (t225.length < t228.length) = true := decide_eq_true (Int.ofNat_lt.mp c10)
   clear c10
   (first | rw [c10b0] | (simp only [i64_w, i32_w]; rw [c10b0]) | rw [c10b1] | skip)
   have H' := zMk H
   clear H
   go_wp2
   go_meet
   case rel => exact ⟨_, (t228), (t225), H', ⟨by first | omega | exact Nat.le_refl _⟩, ⟨by exact uV HO230.out⟩, ⟨by exact uV HO227.out⟩, ⟨by exact uT HB.out⟩⟩
  ·rw [if_neg c10] at H
   have c10b0 : decide ((t225.length : Int) < (t228.length : Int)) = false := decide_eq_false c10
   have c10b1 : decide (t225.length < t228.length) = false := decide_eq_false (fun h => c10 (Int.ofNat_lt.mpr h))
   clear c10
   (first | rw [c10b0] | (simp only [i64_w, i32_w]; rw [c10b0]) | rw [c10b1] | skip)
   have H' := zMk H
   clear H
   go_wp2
   go_meet
   case rel => exact ⟨_, (t225), (t228), H', ⟨by first | omega | exact Nat.le_refl _⟩, ⟨by exact uV HO227.out⟩, ⟨by exact uV HO230.out⟩, ⟨by exact uT HB.out⟩⟩
 case rest =>
  clear HC5
  obtain ⟨kq, x0_4, x1_4, HA, HJ4, HO_0, HO_1, HB⟩ := hcut
  rcases kq with _ | kj4
  ·exact absurd HA.out (by simp [n_Add.j0])
  have H := HA.out
  clear HA
  simp only [n_Add.j0] at H
  obtain ⟨ji11, hji11⟩ : ∃ j_ : Int, (wrap64 ((x0_4.length : Int) + 1)) = j_ := ⟨_, rfl⟩
  replace H : (if 0 ≤ (ji11) then (if (ji11 : Int).toNat ≤ 70368744177664 then (n_Add.l0 kj4 x0_4 x1_4 (List.replicate (ji11 : Int).toNat 0) 0 x0_4 (x0_4.length : Int) 0) else (none)) else (none)) = some r := by first | (rw [hji11] at H; exact H) | (simp only [hji11] at H ⊢; exact H)
  have hji11w : (IntKind.i64.wrap ((x0_4.length : Int) + 1)) = ji11 := (i64_w _).trans hji11
  by_cases c12 : 0 ≤ (ji11)
  ·rw [if_pos c12] at H
   have c12b0 := eq_true c12
   have c12b1 : decide (0 ≤ (ji11)) = true := decide_eq_true c12
   clear c12
   by_cases c13 : (ji11 : Int).toNat ≤ 70368744177664
   rotate_left
   ·rw [if_neg c13] at H; exact absurd H (by simp)
   rw [if_pos c13] at H
   have c13b0 := eq_true c13
   have c13b1 : decide ((ji11 : Int).toNat ≤ 70368744177664) = true := decide_eq_true c13
   clear c13
   obtain ⟨y231, hy231⟩ : ∃ y_ : List Int, y_ = (List.replicate (ji11 : Int).toNat 0) := ⟨_, rfl⟩
   replace H : (n_Add.l0 kj4 x0_4 x1_4 y231 0 x0_4 (x0_4.length : Int) 0) = some r := by first | (rw [hy231]; with_reducible exact H) | (have H2_ := bsm H; first | (rw [hy231]; with_reducible exact H2_) | with_reducible exact H2_) | with_reducible exact H | (rw [hy231]; exact H) | exact H
   have Ny231 := zMk hy231
   clear hy231
   have H' := zMk H
   clear H
   obtain ⟨Ao14, co14, eo14⟩ := zVs HO_0.out
   subst eo14
   go_wp2_with (first | ((with_reducible refine gate_dst (N:=24) rfl ?_); refine Kd.R_make (Kd.int .u32) _ 58 rfl (N:=24) rfl 22 _ _ rfl ji11 rfl rfl Tryd.underlying22 (.int .u32 0) 4 info58 rfl (by decide) (by omega) 0 (ok:=fun _ => True) (okp:=fun _ => True) rfl (fun _ hk => hk) trivial (of_decide_eq_true (by first | (with_reducible assumption)|  assumption)) (Nat.le_trans (Nat.mul_le_mul_right _ (of_decide_eq_true (by first | (with_reducible assumption)|  assumption) : ji11.toNat ≤ 70368744177664)) (by omega)) (Below.refl _ _) (Nat.le_refl _) ?_; intro v232 w15 ho16 hb hg_ hnew_; clear hg_ hnew_; (first |  rw [← Ny231.out] at ho16|  (simp only [Int.reduceToNat] at ho16; rw [← Ny231.out] at ho16)); replace HO_0 := zMk (zVe (uV HO_0.out) (zRz ho16) hb); replace HO_1 := zMk (zVe (uV HO_1.out) (zRz ho16) hb); have HO233 := zMk (zRl (Kd.R_newM (M:=fun k_ => (w.heap.size ≤ k_)) ho16 (zBs (uT HB.out)) (fun k_ h_ => h_)) (zBs (uT HB.out))); replace HB := zMk (zBt (uT HB.out) hb); clear hb ho16))
   go_loopg [6, 27] kj4 (fun kq v6 v27 w' => ∃ (x5_2 : List Int) (x6_2 : Int) (x27_2 : Int), v6 = .int .u32 x6_2 ∧ v27 = .int .i64 x27_2 ∧ Aside0 (n_Add.l0 kq x0_4 x1_4 x5_2 x6_2 x0_4 (x0_4.length : Int) x27_2 = some r) ∧ Aside0 (kq ≤ kj4) ∧ Aside0 (Kd.V (Kd.int .u32) 58 w' w.heap.size (fun k_ => ((P0_ k_ ∨ P1_ k_) ∨ w.heap.size ≤ k_) ∧ some k_ ≠ (v232 : Value).ownBlock) (.slice Ao14 x0_4.length co14) x0_4) ∧ Aside0 (Kd.V (Kd.int .u32) 58 w' w.heap.size (fun k_ => ((P0_ k_ ∨ P1_ k_) ∨ w.heap.size ≤ k_) ∧ some k_ ≠ (v232 : Value).ownBlock) u1 x1_4) ∧ Aside0 (Kd.R (Kd.int .u32) 58 w' w.heap.size (fun k_ => (w.heap.size ≤ k_)) v232 x5_2) ∧ Aside0 (Kd.V (Kd.int .u32) 58 w' w.heap.size (fun k_ => ((P0_ k_ ∨ P1_ k_) ∨ w.heap.size ≤ k_) ∧ some k_ ≠ (v232 : Value).ownBlock) (.slice Ao14 x0_4.length co14) x0_4) ∧ Aside0 (Below w.heap.size w w'))
   case atStart => exact ⟨(y231), (0), (0), (by first | rfl | (simp; done) | (simp [*]; done)), (by first | rfl | (simp; done) | (simp [*]; done)), H', ⟨Nat.le_refl _⟩, ⟨by exact uV HO_0.out⟩, ⟨by exact uV HO_1.out⟩, ⟨by (with_reducible repeat (first | apply zRa | apply zRn | apply zRd)); exact zRm HO233.out (fun _ hk => hk.1)⟩, ⟨by exact uV HO_0.out⟩, ⟨by exact uT HB.out⟩⟩
   clear H'
   obtain ⟨x5_2, x6_2, x27_2, rfl, rfl, HA, HK2, HO_0, HO_1, HO_5, HO_25, HB⟩ := hrel
   rcases gk with _ | k2
   ·exact absurd HA.out (by simp [n_Add.l0])
   have H := HA.out
   clear HA
   simp only [n_Add.l0] at H
   by_cases c17 : x27_2 < (x0_4.length : Int)
   ·rw [if_pos c17] at H
    have c17b0 : decide (x27_2 < (x0_4.length : Int)) = true := decide_eq_true c17
    clear c17
    by_cases c18 : 0 ≤ x27_2
    rotate_left
    ·rw [if_neg c18] at H; exact absurd H (by simp)
    rw [if_pos c18] at H
    have c18b0 : decide (0 ≤ x27_2) = true := decide_eq_true c18
    clear c18
    by_cases c19 : x27_2 < (x0_4.length : Int)
    rotate_left
    ·rw [if_neg c19] at H; exact absurd H (by simp)
    rw [if_pos c19] at H
    have c19b0 : decide (x27_2 < (x0_4.length : Int)) = true := decide_eq_true c19
    clear c19
    by_cases c20 : x27_2 < (x1_4.length : Int)
    ·rw [if_pos c20] at H
     have c20b0 : decide (x27_2 < (x1_4.length : Int)) = true := decide_eq_true c20
     clear c20
     replace H := bnd H
     obtain ⟨⟨t236, t237⟩, A210, H⟩ := H
     replace H : (if x27_2 < (x5_2.length : Int) then (n_Add.l0 k2 x0_4 x1_4 (x5_2.set (x27_2 : Int).toNat t236) t237 x0_4 (x0_4.length : Int) (wrap64 (x27_2 + 1))) else (none)) = some r := H
     have A21 := zMk A210
     clear A210
     by_cases c22 : x27_2 < (x5_2.length : Int)
     rotate_left
     ·rw [if_neg c22] at H; exact absurd H (by simp)
     rw [if_pos c22] at H
     have c22b0 : decide (x27_2 < (x5_2.length : Int)) = true := decide_eq_true c22
     clear c22
     obtain ⟨y238, hy238⟩ : ∃ y_ : List Int, y_ = (x5_2.set (x27_2 : Int).toNat t236) := ⟨_, rfl⟩
     replace H : (n_Add.l0 k2 x0_4 x1_4 y238 t237 x0_4 (x0_4.length : Int) (wrap64 (x27_2 + 1))) = some r := by first | (rw [hy238]; with_reducible exact H) | (have H2_ := bsm H; first | (rw [hy238]; with_reducible exact H2_) | with_reducible exact H2_) | with_reducible exact H | (rw [hy238]; exact H) | exact H
     have Ny238 := zMk hy238
     clear hy238
     have H' := zMk H
     clear H
     have p234 : 0 ≤ (x27_2 : Int) := of_decide_eq_true (by assumption)
     have q234 : x27_2 < (x0_4.length : Int) := of_decide_eq_true (by assumption)
     obtain ⟨ad234, e234, hx234_0⟩ := zAi (zVr HO_25.out).2.2 x27_2 p234 q234
     cases e234
     replace p234 := eq_true p234
     replace q234 := eq_true q234
     obtain ⟨Ao24, co24, eo24⟩ := zVs HO_1.out
     subst eo24
     have p235 : 0 ≤ (x27_2 : Int) := of_decide_eq_true (by assumption)
     have q235 : x27_2 < (x1_4.length : Int) := of_decide_eq_true (by assumption)
     obtain ⟨ad235, e235, hx235_0⟩ := zAi (zVr HO_1.out).2.2 x27_2 p235 q235
     cases e235
     replace p235 := eq_true p235
     replace q235 := eq_true q235
     go_wp2_with (first | ((with_reducible refine gate_callee (f:=62) rfl ?_); refine goesL_ (some 46) rfl rfl Tryd.func62 (by kernel_rfl) rfl #[.int .u32 (rd x0_4 x27_2), .int .u32 (rd x1_4 x27_2), .int .u32 x6_2] rfl (by (try simp only [zMa, zMc, zMn]); first |  done|  rfl|  (simp only [zLd, zLt]; rfl)) ?_; (with_reducible refine (bits_Add32.calls (rd x0_4 x27_2) (rd x1_4 x27_2) x6_2 t236 t237 _ A21.out).mono ?_); rintro e w' ⟨rfl, ⟨nd, rfl⟩⟩; refine ⟨_, rfl, ?_⟩; (try (rw [drewN_self wr]; generalize hq_ : World.drewN wr _ = wr; have n0_ : Aside0 (Kd.V (Kd.int .u32) 58 wr w.heap.size (fun k_ => ((P0_ k_ ∨ P1_ k_) ∨ w.heap.size ≤ k_) ∧ some k_ ≠ (v232 : Value).ownBlock) (.slice (some ad234) x0_4.length co14) x0_4) := ⟨by rw [← hq_]; exact (uV HO_0.out)⟩; have n1_ : Aside0 (Kd.V (Kd.int .u32) 58 wr w.heap.size (fun k_ => ((P0_ k_ ∨ P1_ k_) ∨ w.heap.size ≤ k_) ∧ some k_ ≠ (v232 : Value).ownBlock) (.slice (some ad235) x1_4.length co24) x1_4) := ⟨by rw [← hq_]; exact (uV HO_1.out)⟩; have n2_ : Aside0 (Kd.V (Kd.int .u32) 58 wr w.heap.size (fun k_ => ((P0_ k_ ∨ P1_ k_) ∨ w.heap.size ≤ k_) ∧ some k_ ≠ (v232 : Value).ownBlock) (.slice (some ad234) x0_4.length co14) x0_4) := ⟨by rw [← hq_]; exact (uV HO_25.out)⟩; have n3_ : Aside0 (Kd.R (Kd.int .u32) 58 wr w.heap.size (fun k_ => (w.heap.size ≤ k_)) v232 x5_2) := ⟨by rw [← hq_]; exact (uR HO_5.out)⟩; have n4_ : Aside0 (Below w.heap.size w wr) := ⟨by rw [← hq_]; exact (uT HB.out)⟩; clear HO_0 HO_1 HO_25 HO_5 HB hq_; have HO_0 := n0_; have HO_1 := n1_; have HO_25 := n2_; have HO_5 := n3_; have HB := n4_; clear n0_ n1_ n2_ n3_ n4_)); have p23 : 0 ≤ (x27_2 : Int) := of_decide_eq_true (by first | (with_reducible assumption)|  assumption); have q23 : (x27_2 : Int) < ((x5_2.length : Int) : Int) := of_decide_eq_true (by first | (with_reducible assumption)|  assumption); obtain ⟨go23, co23, eo23, gb23, gl23, cl23, HG23⟩ := Kd.R_form HO_5.out (by omega); (first |  cases eo23|  (injection eo23 with ea_ en_ ec_; (first |  subst ea_|  (injection ea_ with ea_; subst ea_)); subst ec_; clear en_)); have GB23 := zMk gb23; have IGB23 := ownGe GB23.out; have GG23 := zMk HG23; clear gb23 gl23 HG23; obtain ⟨hx23_0, hf23_0⟩ := Kd.R_celln 0 HO_5.out (x27_2 : Int) p23 q23; replace p23 := eq_true p23; replace q23 := eq_true q23; obtain ⟨hy25_, hz25_⟩ := Kd.R_celln 0 HO_5.out (x27_2 : Int) (of_decide_eq_true (by first | (with_reducible assumption)|  assumption)) (of_decide_eq_true (by first | (with_reducible assumption)|  assumption)); have HP25 := Kd.R_putg HO_5.out (x27_2 : Int) t236)|((with_reducible refine gate_store (t:=58) (p:=49) rfl ?_); refine store_event (t:=58) (p:=49) (v:=?vo_w26) (w1:=(wr.setCell ⟨go23, (x27_2 : Int).toNat, none⟩ (.int .u32 t236))) ?hg ?ho ?hn ?hr ?_; (case ho => rfl); (case hg => rfl); (case hn => rfl); (case hr => first | (go_simp; done)|(go_simp; rfl)|(go_simp; rw [show ∀ x : Int, IntKind.u32.wrap (IntKind.u8.wrap x) = x % 256 from fun x => (by show (x % 256) % 4294967296 = x % 256; omega)])); intro w26 hw; have hg : wr.grownBy w26 (some go23) := (by rw [hw]; exact HP25.2); have hp_ : Kd.R (Kd.int .u32) 58 w26 w.heap.size (fun k_ => (w.heap.size ≤ k_)) (.slice (some ⟨go23, 0, none⟩) x5_2.length co23) y238 := (by rw [hw, Ny238.out]; exact HP25.1); clear HP25; replace HO_0 := zMk (Kd.V_afterv (v:=(.slice (some ⟨go23, 0, none⟩) x5_2.length co23)) (v1:=(.slice (some ⟨go23, 0, none⟩) x5_2.length co23)) (ok:=(fun k_ => ((P0_ k_ ∨ P1_ k_) ∨ w.heap.size ≤ k_))) (uV HO_0.out) hg (.inl rfl)); replace HO_1 := zMk (Kd.V_afterv (v:=(.slice (some ⟨go23, 0, none⟩) x5_2.length co23)) (v1:=(.slice (some ⟨go23, 0, none⟩) x5_2.length co23)) (ok:=(fun k_ => ((P0_ k_ ∨ P1_ k_) ∨ w.heap.size ≤ k_))) (uV HO_1.out) hg (.inl rfl)); replace HO_5 := zMk (hp_); replace HO_25 := zMk (Kd.V_afterv (v:=(.slice (some ⟨go23, 0, none⟩) x5_2.length co23)) (v1:=(.slice (some ⟨go23, 0, none⟩) x5_2.length co23)) (ok:=(fun k_ => ((P0_ k_ ∨ P1_ k_) ∨ w.heap.size ≤ k_))) (uV HO_25.out) hg (.inl rfl)); replace HB := zMk ((by rw [hw]; exact below_set (HB.out) GB23.out : Below w.heap.size w w26)); clear hg hw hp_))
     go_roundg k2
     case measure => have := HJ4.out; have := HK2.out; omega
     case rel => exact ⟨(y238), (t237), (wrap64 (x27_2 + 1)), (by first | rfl | (simp; done) | (simp [*]; done)), (by first | rfl | (simp; done) | (simp [*]; done)), H', ⟨by have := HJ4.out; have := HK2.out; omega⟩, ⟨by exact uV HO_0.out⟩, ⟨by exact uV HO_1.out⟩, ⟨by exact uR HO_5.out⟩, ⟨by exact uV HO_25.out⟩, ⟨by exact uT HB.out⟩⟩
    ·rw [if_neg c20] at H
     have c20b0 : decide (x27_2 < (x1_4.length : Int)) = false := decide_eq_false c20
     clear c20
     replace H := bnd H
     obtain ⟨⟨t239, t240⟩, A270, H⟩ := H
     replace H : (if x27_2 < (x5_2.length : Int) then (n_Add.l0 k2 x0_4 x1_4 (x5_2.set (x27_2 : Int).toNat t239) t240 x0_4 (x0_4.length : Int) (wrap64 (x27_2 + 1))) else (none)) = some r := H
     have A27 := zMk A270
     clear A270
     by_cases c28 : x27_2 < (x5_2.length : Int)
     rotate_left
     ·rw [if_neg c28] at H; exact absurd H (by simp)
     rw [if_pos c28] at H
     have c28b0 : decide (x27_2 < (x5_2.length : Int)) = true := decide_eq_true c28
     clear c28
     obtain ⟨y241, hy241⟩ : ∃ y_ : List Int, y_ = (x5_2.set (x27_2 : Int).toNat t239) := ⟨_, rfl⟩
     replace H : (n_Add.l0 k2 x0_4 x1_4 y241 t240 x0_4 (x0_4.length : Int) (wrap64 (x27_2 + 1))) = some r := by first | (rw [hy241]; with_reducible exact H) | (have H2_ := bsm H; first | (rw [hy241]; with_reducible exact H2_) | with_reducible exact H2_) | with_reducible exact H | (rw [hy241]; exact H) | exact H
     have Ny241 := zMk hy241
     clear hy241
     have H' := zMk H
     clear H
     have p234 : 0 ≤ (x27_2 : Int) := of_decide_eq_true (by assumption)
     have q234 : x27_2 < (x0_4.length : Int) := of_decide_eq_true (by assumption)
     obtain ⟨ad234, e234, hx234_0⟩ := zAi (zVr HO_25.out).2.2 x27_2 p234 q234
     cases e234
     replace p234 := eq_true p234
     replace q234 := eq_true q234
     obtain ⟨Ao30, co30, eo30⟩ := zVs HO_1.out
     subst eo30
     go_wp2_with (first | ((with_reducible refine gate_callee (f:=62) rfl ?_); refine goesL_ (some 46) rfl rfl Tryd.func62 (by kernel_rfl) rfl #[.int .u32 (rd x0_4 x27_2), .int .u32 0, .int .u32 x6_2] rfl (by (try simp only [zMa, zMc, zMn]); first |  done|  rfl|  (simp only [zLd, zLt]; rfl)) ?_; (with_reducible refine (bits_Add32.calls (rd x0_4 x27_2) 0 x6_2 t239 t240 _ A27.out).mono ?_); rintro e w' ⟨rfl, ⟨nd, rfl⟩⟩; refine ⟨_, rfl, ?_⟩; (try (rw [drewN_self wr]; generalize hq_ : World.drewN wr _ = wr; have n0_ : Aside0 (Kd.V (Kd.int .u32) 58 wr w.heap.size (fun k_ => ((P0_ k_ ∨ P1_ k_) ∨ w.heap.size ≤ k_) ∧ some k_ ≠ (v232 : Value).ownBlock) (.slice (some ad234) x0_4.length co14) x0_4) := ⟨by rw [← hq_]; exact (uV HO_0.out)⟩; have n1_ : Aside0 (Kd.V (Kd.int .u32) 58 wr w.heap.size (fun k_ => ((P0_ k_ ∨ P1_ k_) ∨ w.heap.size ≤ k_) ∧ some k_ ≠ (v232 : Value).ownBlock) (.slice Ao30 x1_4.length co30) x1_4) := ⟨by rw [← hq_]; exact (uV HO_1.out)⟩; have n2_ : Aside0 (Kd.V (Kd.int .u32) 58 wr w.heap.size (fun k_ => ((P0_ k_ ∨ P1_ k_) ∨ w.heap.size ≤ k_) ∧ some k_ ≠ (v232 : Value).ownBlock) (.slice (some ad234) x0_4.length co14) x0_4) := ⟨by rw [← hq_]; exact (uV HO_25.out)⟩; have n3_ : Aside0 (Kd.R (Kd.int .u32) 58 wr w.heap.size (fun k_ => (w.heap.size ≤ k_)) v232 x5_2) := ⟨by rw [← hq_]; exact (uR HO_5.out)⟩; have n4_ : Aside0 (Below w.heap.size w wr) := ⟨by rw [← hq_]; exact (uT HB.out)⟩; clear HO_0 HO_1 HO_25 HO_5 HB hq_; have HO_0 := n0_; have HO_1 := n1_; have HO_25 := n2_; have HO_5 := n3_; have HB := n4_; clear n0_ n1_ n2_ n3_ n4_)); have p29 : 0 ≤ (x27_2 : Int) := of_decide_eq_true (by first | (with_reducible assumption)|  assumption); have q29 : (x27_2 : Int) < ((x5_2.length : Int) : Int) := of_decide_eq_true (by first | (with_reducible assumption)|  assumption); obtain ⟨go29, co29, eo29, gb29, gl29, cl29, HG29⟩ := Kd.R_form HO_5.out (by omega); (first |  cases eo29|  (injection eo29 with ea_ en_ ec_; (first |  subst ea_|  (injection ea_ with ea_; subst ea_)); subst ec_; clear en_)); have GB29 := zMk gb29; have IGB29 := ownGe GB29.out; have GG29 := zMk HG29; clear gb29 gl29 HG29; obtain ⟨hx29_0, hf29_0⟩ := Kd.R_celln 0 HO_5.out (x27_2 : Int) p29 q29; replace p29 := eq_true p29; replace q29 := eq_true q29; obtain ⟨hy31_, hz31_⟩ := Kd.R_celln 0 HO_5.out (x27_2 : Int) (of_decide_eq_true (by first | (with_reducible assumption)|  assumption)) (of_decide_eq_true (by first | (with_reducible assumption)|  assumption)); have HP31 := Kd.R_putg HO_5.out (x27_2 : Int) t239)|((with_reducible refine gate_store (t:=58) (p:=49) rfl ?_); refine store_event (t:=58) (p:=49) (v:=?vo_w32) (w1:=(wr.setCell ⟨go29, (x27_2 : Int).toNat, none⟩ (.int .u32 t239))) ?hg ?ho ?hn ?hr ?_; (case ho => rfl); (case hg => rfl); (case hn => rfl); (case hr => first | (go_simp; done)|(go_simp; rfl)|(go_simp; rw [show ∀ x : Int, IntKind.u32.wrap (IntKind.u8.wrap x) = x % 256 from fun x => (by show (x % 256) % 4294967296 = x % 256; omega)])); intro w32 hw; have hg : wr.grownBy w32 (some go29) := (by rw [hw]; exact HP31.2); have hp_ : Kd.R (Kd.int .u32) 58 w32 w.heap.size (fun k_ => (w.heap.size ≤ k_)) (.slice (some ⟨go29, 0, none⟩) x5_2.length co29) y241 := (by rw [hw, Ny241.out]; exact HP31.1); clear HP31; replace HO_0 := zMk (Kd.V_afterv (v:=(.slice (some ⟨go29, 0, none⟩) x5_2.length co29)) (v1:=(.slice (some ⟨go29, 0, none⟩) x5_2.length co29)) (ok:=(fun k_ => ((P0_ k_ ∨ P1_ k_) ∨ w.heap.size ≤ k_))) (uV HO_0.out) hg (.inl rfl)); replace HO_1 := zMk (Kd.V_afterv (v:=(.slice (some ⟨go29, 0, none⟩) x5_2.length co29)) (v1:=(.slice (some ⟨go29, 0, none⟩) x5_2.length co29)) (ok:=(fun k_ => ((P0_ k_ ∨ P1_ k_) ∨ w.heap.size ≤ k_))) (uV HO_1.out) hg (.inl rfl)); replace HO_5 := zMk (hp_); replace HO_25 := zMk (Kd.V_afterv (v:=(.slice (some ⟨go29, 0, none⟩) x5_2.length co29)) (v1:=(.slice (some ⟨go29, 0, none⟩) x5_2.length co29)) (ok:=(fun k_ => ((P0_ k_ ∨ P1_ k_) ∨ w.heap.size ≤ k_))) (uV HO_25.out) hg (.inl rfl)); replace HB := zMk ((by rw [hw]; exact below_set (HB.out) GB29.out : Below w.heap.size w w32)); clear hg hw hp_))
     go_roundg k2
     case measure => have := HJ4.out; have := HK2.out; omega
     case rel => exact ⟨(y241), (t240), (wrap64 (x27_2 + 1)), (by first | rfl | (simp; done) | (simp [*]; done)), (by first | rfl | (simp; done) | (simp [*]; done)), H', ⟨by have := HJ4.out; have := HK2.out; omega⟩, ⟨by exact uV HO_0.out⟩, ⟨by exact uV HO_1.out⟩, ⟨by exact uR HO_5.out⟩, ⟨by exact uV HO_25.out⟩, ⟨by exact uT HB.out⟩⟩
   ·rw [if_neg c17] at H
    have c17b0 : decide (x27_2 < (x0_4.length : Int)) = false := decide_eq_false c17
    clear c17
    by_cases c33 : 0 ≤ (x0_4.length : Int)
    rotate_left
    ·rw [if_neg c33] at H; exact absurd H (by simp)
    rw [if_pos c33] at H
    have c33b0 : decide (0 ≤ (x0_4.length : Int)) = true := decide_eq_true c33
    have c33b1 : decide (0 ≤ x0_4.length) = true := decide_eq_true (by omega)
    clear c33
    by_cases c34 : (x0_4.length : Int) < (x5_2.length : Int)
    rotate_left
    ·rw [if_neg c34] at H; exact absurd H (by simp)
    rw [if_pos c34] at H
    have c34b0 : decide ((x0_4.length : Int) < (x5_2.length : Int)) = true := decide_eq_true c34
    have c34b1 : decide (x0_4.length < x5_2.length) = true := decide_eq_true (Int.ofNat_lt.mp c34)
    clear c34
    obtain ⟨y242, hy242⟩ : ∃ y_ : List Int, y_ = (x5_2.set ((x0_4.length : Int) : Int).toNat x6_2) := ⟨_, rfl⟩
    replace H : ((n_cut.f y242).bind fun t243 => (some t243)) = some r := by first | (rw [hy242]; with_reducible exact H) | (have H2_ := bsm H; first | (rw [hy242]; with_reducible exact H2_) | with_reducible exact H2_) | with_reducible exact H | (rw [hy242]; exact H) | exact H
    have Ny242 := zMk hy242
    clear hy242
    replace H := bnd H
    obtain ⟨t243, A360, H⟩ := H
    have A36 := zMk A360
    clear A360
    obtain rfl := zOi H
    have p35 : 0 ≤ ((x0_4.length : Int) : Int) := of_decide_eq_true (by assumption)
    have q35 : ((x0_4.length : Int) : Int) < ((x5_2.length : Int) : Int) := of_decide_eq_true (by assumption)
    obtain ⟨go35, co35, eo35, gb35, gl35, cl35, HG35⟩ := Kd.R_form HO_5.out (by omega)
    (first |  cases eo35|  (injection eo35 with ea_ en_ ec_; (first |  subst ea_|  (injection ea_ with ea_; subst ea_)); subst ec_; clear en_))
    have GB35 := zMk gb35
    have IGB35 := ownGe GB35.out
    have GG35 := zMk HG35
    clear gb35 gl35 HG35
    obtain ⟨hx35_0, hf35_0⟩ := Kd.R_celln 0 HO_5.out ((x0_4.length : Int) : Int) p35 q35
    (try simp only [zTn] at hx35_0 hf35_0)
    replace p35 := eq_true p35
    replace q35 := eq_true q35
    have HP37 := Kd.R_putg HO_5.out ((x0_4.length : Int) : Int) x6_2
    go_wp2_with (first | ((with_reducible refine gate_store (t:=58) (p:=55) rfl ?_); refine store_event (t:=58) (p:=55) (v:=?vo_w38) (w1:=(wr.setCell ⟨go35, x0_4.length, none⟩ (.int .u32 x6_2))) ?hg ?ho ?hn ?hr ?_; (case ho => rfl); (case hg => rfl); (case hn => rfl); (case hr => first | (go_simp; done)|(go_simp; rfl)|(go_simp; rw [show ∀ x : Int, IntKind.u32.wrap (IntKind.u8.wrap x) = x % 256 from fun x => (by show (x % 256) % 4294967296 = x % 256; omega)])); intro w38 hw; have hg : wr.grownBy w38 (some go35) := (by rw [hw]; exact HP37.2); have hp_ : Kd.R (Kd.int .u32) 58 w38 w.heap.size (fun k_ => (w.heap.size ≤ k_)) (.slice (some ⟨go35, 0, none⟩) x5_2.length co35) y242 := (by rw [hw, Ny242.out]; exact HP37.1); clear HP37; replace HO_0 := zMk (Kd.V_afterv (v:=(.slice (some ⟨go35, 0, none⟩) x5_2.length co35)) (v1:=(.slice (some ⟨go35, 0, none⟩) x5_2.length co35)) (ok:=(fun k_ => ((P0_ k_ ∨ P1_ k_) ∨ w.heap.size ≤ k_))) (uV HO_0.out) hg (.inl rfl)); replace HO_1 := zMk (Kd.V_afterv (v:=(.slice (some ⟨go35, 0, none⟩) x5_2.length co35)) (v1:=(.slice (some ⟨go35, 0, none⟩) x5_2.length co35)) (ok:=(fun k_ => ((P0_ k_ ∨ P1_ k_) ∨ w.heap.size ≤ k_))) (uV HO_1.out) hg (.inl rfl)); replace HO_5 := zMk (hp_); replace HO_25 := zMk (Kd.V_afterv (v:=(.slice (some ⟨go35, 0, none⟩) x5_2.length co35)) (v1:=(.slice (some ⟨go35, 0, none⟩) x5_2.length co35)) (ok:=(fun k_ => ((P0_ k_ ∨ P1_ k_) ∨ w.heap.size ≤ k_))) (uV HO_25.out) hg (.inl rfl)); replace HB := zMk ((by rw [hw]; exact below_set (HB.out) GB35.out : Below w.heap.size w w38)); clear hg hw hp_)|((with_reducible refine gate_callee (f:=56) rfl ?_); refine goesL_ (some 57) rfl rfl Tryd.func56 (by kernel_rfl) rfl #[.slice (some ⟨go35, 0, none⟩) y242.length co35] rfl (by (try simp only [zMa, zMc, zMn]); first |  done|  (rw [show y242.length = x5_2.length from (zRr HO_5.out).1.symm] <;> rfl)|  rfl|  (simp only [zLd, zLt]; rfl)) ?_; (with_reducible refine (n_cut.calls (fun k_ => some k_ = (.slice (some ⟨go35, 0, none⟩) x5_2.length co35 : Value).ownBlock) _ _ y242 t243 _ ?side1 A36.out).mono ?_); (case side1 => rw [show y242.length = x5_2.length from (zRr HO_5.out).1.symm]; exact Kd.R_V (Kd.R_tight rfl (HO_5.out))); rintro e w39 ⟨v244, rfl, ho0, hb⟩; refine ⟨_, rfl, ?_⟩; replace HO_0 := zMk (zVb (uV HO_0.out) hb); replace HO_1 := zMk (zVb (uV HO_1.out) hb); replace HO_25 := zMk (zVb (uV HO_25.out) hb); have HO245 := zMk (zVl (zVm (ok' := fun k_ => ((P0_ k_ ∨ P1_ k_) ∨ w.heap.size ≤ k_)) ho0 (fun k_ hk_ => Or.elim hk_ (fun hs_ => (.inr (((HO_5.out).1 k_ hs_.symm)))) (fun hn_ => (.inr (Nat.le_trans (zBs (uT HB.out)) hn_))))) (zBs (uT HB.out))); replace HO_5 := zMk (zRb (uR HO_5.out) hb); replace HB := zMk (zBt (uT HB.out) hb)))
    go_ret
    exact ⟨_, by first | rfl | (simp [errW_none, errW_some] <;> rfl) | (simp only [← hji11]; first | rfl | (simp [errW_none, errW_some] <;> rfl)) | (simp [*, errW_none, errW_some] <;> rfl), by exact uV HO245.out, by exact uT HB.out⟩
  ·rw [if_neg c12] at H
   exact absurd H (by simp)

theorem bits_u32 (a b : Nat) (ha : a < 4294967296) (hb : b < 4294967296) : Go.bits .and .u32 (a : Int) (b : Int) = ((a &&& b : Nat) : Int) ∧ Go.bits .or .u32 (a : Int) (b : Int) = ((a ||| b : Nat) : Int) ∧ Go.bits .xor .u32 (a : Int) (b : Int) = ((a ^^^ b : Nat) : Int) := by
 have h0 := bits_nat .u32 32 (by decide) wraps_u32 a b ha hb
 refine ⟨h0.1, h0.2, ?_⟩
 have h1 : (BitVec.ofInt 32 (a : Int)).toNat = a := by
  rw [BitVec.ofInt_natCast, BitVec.toNat_ofNat]; exact Nat.mod_eq_of_lt (by omega)
 have h2 : (BitVec.ofInt 32 (b : Int)).toNat = b := by
  rw [BitVec.ofInt_natCast, BitVec.toNat_ofNat]; exact Nat.mod_eq_of_lt (by omega)
 show IntKind.u32.wrap ((BitVec.ofInt 32 (a : Int) ^^^ BitVec.ofInt 32 (b : Int)).toNat : Int) = _
 rw [BitVec.toNat_xor, h1, h2]
 have hx : a ^^^ b < 2 ^ 32 := Nat.xor_lt_two_pow (by omega) (by omega)
 exact wraps_u32 _ (by omega) (by omega)
theorem top_bit (n : Nat) (h : n < 4294967296) : n / 2147483648 = (n.testBit 31).toNat := by
 rw [Nat.testBit_eq_decide_div_mod_eq]
 have h1 : n / 2 ^ 31 = n / 2147483648 := rfl
 rw [h1]
 have h2 : n / 2147483648 < 2 := by omega
 generalize n / 2147483648 = q at h2 ⊢
 have : q = 0 ∨ q = 1 := by omega
 rcases this with rfl | rfl <;> rfl
theorem sub32_f (x y c : Int) (hx : 0 ≤ x ∧ x < 4294967296) (hy : 0 ≤ y ∧ y < 4294967296) (hc : c = 0 ∨ c = 1) :
  ∃ d b : Int, bits_Sub32.f x y c = some (d, b) ∧ 0 ≤ d ∧ d < 4294967296 ∧ (b = 0 ∨ b = 1) ∧ x - y - c = d - 4294967296 * b := by
 obtain ⟨d, hd⟩ : ∃ d : Int, (((x - y) % 4294967296) - c) % 4294967296 = d := ⟨_, rfl⟩
 have hd0 : 0 ≤ d ∧ d < 4294967296 := by omega
 obtain ⟨p, rfl⟩ := Int.eq_ofNat_of_zero_le hx.1
 obtain ⟨q, rfl⟩ := Int.eq_ofNat_of_zero_le hy.1
 obtain ⟨e, rfl⟩ := Int.eq_ofNat_of_zero_le hd0.1
 have hp : p < 4294967296 := by omega
 have hq : q < 4294967296 := by omega
 have he : e < 4294967296 := by omega
 have k1 : (4294967295 : Nat) ^^^ p < 4294967296 := Nat.xor_lt_two_pow (n:=32) (by decide) hp
 have k2 : p ^^^ q < 4294967296 := Nat.xor_lt_two_pow (n:=32) hp hq
 have k3 : (4294967295 : Nat) ^^^ (p ^^^ q) < 4294967296 := Nat.xor_lt_two_pow (n:=32) (by decide) k2
 have k4 : (4294967295 ^^^ p) &&& q < 4294967296 := Nat.and_lt_two_pow (n:=32) _ hq
 have k5 : (4294967295 ^^^ (p ^^^ q)) &&& e < 4294967296 := Nat.and_lt_two_pow (n:=32) _ he
 have k6 : ((4294967295 ^^^ p) &&& q) ||| ((4294967295 ^^^ (p ^^^ q)) &&& e) < 4294967296 := Nat.or_lt_two_pow (n:=32) k4 k5
 have hf : bits_Sub32.f (p : Int) (q : Int) c = some ((e : Int), (((((4294967295 ^^^ p) &&& q) ||| ((4294967295 ^^^ (p ^^^ q)) &&& e)) / 2147483648 : Nat) : Int)) := by
  unfold bits_Sub32.f
  rw [hd, show (4294967295 : Int) = ((4294967295 : Nat) : Int) from rfl, (bits_u32 4294967295 p (by decide) hp).2.2, (bits_u32 _ q k1 hq).1, (bits_u32 p q hp hq).2.2, (bits_u32 _ _ (by decide) k2).2.2, (bits_u32 _ e k3 he).1, (bits_u32 _ _ k4 k5).2.1]
  rfl
 refine ⟨e, _, hf, hd0.1, hd0.2, ?_, ?_⟩
 ·omega
 ·rw [top_bit _ k6]
  simp only [Nat.testBit_or, Nat.testBit_and, Nat.testBit_xor, show (4294967295 : Nat).testBit 31 = true from rfl]
  have t1 := top_bit p hp
  have t2 := top_bit q hq
  have t3 := top_bit e he
  generalize p.testBit 31 = tp at t1 ⊢
  generalize q.testBit 31 = tq at t2 ⊢
  generalize e.testBit 31 = te at t3 ⊢
  rcases hc with rfl | rfl <;> cases tp <;> cases tq <;> cases te <;> simp only [Bool.toNat_true, Bool.toNat_false, Bool.xor_true, Bool.xor_false, Bool.true_xor, Bool.false_xor, Bool.not_true, Bool.not_false, Bool.and_true, Bool.and_false, Bool.true_and, Bool.false_and, Bool.or_true, Bool.or_false, Bool.true_or, Bool.false_or] at t1 t2 t3 ⊢ <;> omega
theorem add32_f (x y c : Int) (hx : 0 ≤ x ∧ x < 4294967296) (hy : 0 ≤ y ∧ y < 4294967296) (hc : c = 0 ∨ c = 1) :
  ∃ d b : Int, bits_Add32.f x y c = some (d, b) ∧ 0 ≤ d ∧ d < 4294967296 ∧ (b = 0 ∨ b = 1) ∧ x + y + c = d + 4294967296 * b := by
 have e : IntKind.u64.wrap ((IntKind.u64.wrap ((IntKind.u64.wrap (x)) + (IntKind.u64.wrap (y)))) + (IntKind.u64.wrap (c))) = x + y + c := by
  rw [wraps_u64 x (by omega) (by omega), wraps_u64 y (by omega) (by omega), wraps_u64 (x + y) (by omega) (by omega), wraps_u64 c (by omega) (by omega), wraps_u64 (x + y + c) (by omega) (by omega)]
 refine ⟨(x + y + c) % 4294967296, (x + y + c) / 4294967296, ?_, by omega, by omega, by omega, by omega⟩
 unfold bits_Add32.f
 rw [e, show (x + y + c) / 4294967296 % 4294967296 = (x + y + c) / 4294967296 by omega]
theorem val_take_succ' (l : List Int) (n : Nat) : val (l.take (n + 1)) = val (l.take n) + 4294967296 ^ n * l.getD n 0 := by
 by_cases h : n < l.length
 ·exact val_take_succ l n h
 ·rw [List.take_of_length_le (by omega), List.take_of_length_le (by omega), getD_ge _ (by omega)]
  omega
theorem cut_len_mono {a b : List Int} (ha : Limbs a) (hb : Limbs b) (h : val b ≤ val a) : (cut b).length ≤ (cut a).length := by
 rcases Nat.lt_or_ge (cut a).length (cut b).length with hlt | hge
 ·have h1 := val_lt (cut_limbs ha)
  have h2 := val_ge (cut_limbs hb) (cut_trim b) (by intro h0; rw [h0] at hlt; exact absurd hlt (by simp))
  have h3 : (4294967296 : Int) ^ (cut a).length ≤ 4294967296 ^ ((cut b).length - 1) := pow_up (by omega)
  rw [cut_val] at h1 h2
  omega
 ·exact hge
theorem less_l0 (b : List Int) (hb : Limbs b) (N : Nat) (hN : N < 4611686018427387904) (T : Int) :
  ∀ (j m k : Nat) (X : List Int) (c : Int), m + j = N → X.length = N → Limbs X → (c = 0 ∨ c = 1) → val X - c * 4294967296 ^ m + val (b.take m) = T →
  ∃ X' c', n_less.l0 (k + j + 1) X b c (N : Int) (m : Int) = some (c', X') ∧ X'.length = N ∧ Limbs X' ∧ (c' = 0 ∨ c' = 1) ∧ val X' - c' * 4294967296 ^ N + val (b.take N) = T := by
 intro j
 induction j with
 | zero =>
  intro m k X c hm hX lX hc hT
  obtain rfl : m = N := by omega
  exact ⟨X, c, by rw [n_less.l0, if_neg (by omega)], hX, lX, hc, hT⟩
 | succ j ih =>
  intro m k X c hm hX lX hc hT
  obtain ⟨d, c', e, d0, d1, hc', hd⟩ := sub32_f (X.getD m 0) (b.getD m 0) c (lX.getD m) (hb.getD m) hc
  obtain ⟨X', c'', h1, h2, h3, h4, h5⟩ := ih (m + 1) k (X.set m d) c' (by omega) (by rw [List.length_set]; exact hX) (lX.set _ d0 d1) hc' (by
   rw [val_set _ _ _ (by omega), val_take_succ' b m, ← hT, Int.pow_succ]
   grind)
  refine ⟨X', c'', ?_, h2, h3, h4, h5⟩
  rw [show k + (j + 1) + 1 = (k + j + 1) + 1 by omega, n_less.l0, if_pos (by omega)]
  by_cases hbm : (m : Int) < (b.length : Int)
  ·rw [if_pos hbm, if_pos (by omega), if_pos (by omega), rd_nat, rd_nat, e, zOb, w64 (by omega) (by omega), zTn, show ((m : Int) + 1) = ((m + 1 : Nat) : Int) by omega]
   exact h1
  ·rw [getD_ge b (by omega)] at e
   rw [if_neg hbm, if_pos (by omega), if_pos (by omega), rd_nat, e, zOb, w64 (by omega) (by omega), zTn, show ((m : Int) + 1) = ((m + 1 : Nat) : Int) by omega]
   exact h1
theorem add_l0 (x0 a b : List Int) (ha : Limbs a) (hb : Limbs b) (hx : x0.length = a.length) (hba : b.length ≤ a.length) (hN : a.length < 35184372088832) :
  ∀ (j m k : Nat) (O : List Int) (c : Int), m + j = a.length → O.length = a.length + 1 → Limbs O → (c = 0 ∨ c = 1) → (∀ i, m ≤ i → O.getD i 0 = 0) → val O + c * 4294967296 ^ m = val (a.take m) + val (b.take m) →
  ∃ r, n_Add.l0 (k + j + 1) x0 b O c a (a.length : Int) (m : Int) = some r ∧ IsNum r (val a + val b) ∧ r.length ≤ a.length + 1 := by
 intro j
 induction j with
 | zero =>
  intro m k O c hm hO lO hc hz hT
  obtain rfl : m = a.length := by omega
  refine ⟨cut (O.set a.length c), ?_, ?_, by have := cut_length (O.set a.length c); rw [List.length_set] at this; omega⟩
  ·rw [n_Add.l0, if_neg (by omega), if_pos (by omega), if_pos (by omega), cut_f, hx]
   rfl
  ·have := IsNum.cut (lO.set a.length (v:=c) (by omega) (by omega))
   rw [val_set _ _ _ (by omega), hz _ (Nat.le_refl _)] at this
   rw [List.take_length, List.take_of_length_le hba] at hT
   rw [show val O + 4294967296 ^ a.length * (c - 0) = val a + val b by rw [← hT]; grind] at this
   exact this
 | succ j ih =>
  intro m k O c hm hO lO hc hz hT
  obtain ⟨d, c', e, d0, d1, hc', hd⟩ := add32_f (a.getD m 0) (b.getD m 0) c (ha.getD m) (hb.getD m) hc
  obtain ⟨r, h1, h2, h3⟩ := ih (m + 1) k (O.set m d) c' (by omega) (by rw [List.length_set]; exact hO) (lO.set _ d0 d1) hc' (fun i hi => by rw [getD_set_ne _ _ (by omega)]; exact hz i (by omega)) (by
   rw [val_set _ _ _ (by omega), hz m (Nat.le_refl _), val_take_succ' b m, val_take_succ' a m, Int.pow_succ]
   grind)
  refine ⟨r, ?_, h2, h3⟩
  rw [show k + (j + 1) + 1 = (k + j + 1) + 1 by omega, n_Add.l0, if_pos (by omega), if_pos (by omega), if_pos (by omega)]
  by_cases hbm : (m : Int) < (b.length : Int)
  ·rw [if_pos hbm, rd_nat, rd_nat, e, zOb, if_pos (by omega), w64 (by omega) (by omega), zTn, show ((m : Int) + 1) = ((m + 1 : Nat) : Int) by omega]
   exact h1
  ·rw [getD_ge b (by omega)] at e
   rw [if_neg hbm, rd_nat, e, zOb, if_pos (by omega), w64 (by omega) (by omega), zTn, show ((m : Int) + 1) = ((m + 1 : Nat) : Int) by omega]
   exact h1
theorem add_j0 (a b : List Int) (ha : Limbs a) (hb : Limbs b) (hba : b.length ≤ a.length) (hN : a.length < 35184372088832) (k : Nat) (hk : a.length + 2 ≤ k) :
  ∃ r, n_Add.j0 k a b = some r ∧ IsNum r (val a + val b) ∧ r.length ≤ a.length + 1 := by
 obtain ⟨d, rfl⟩ : ∃ d, k = (d + a.length + 1) + 1 := ⟨k - (a.length + 2), by omega⟩
 obtain ⟨r, h1, h2, h3⟩ := add_l0 a a b ha hb rfl hba hN a.length 0 d (List.replicate (a.length + 1) 0) 0 (by omega) (by simp) (limbs_replicate _) (.inl rfl) (fun i _ => by
  by_cases hi : i < a.length + 1
  ·rw [getD_lt _ (by simpa using hi)]; simp
  ·rw [getD_ge _ (by simp; omega)]) (by rw [val_replicate]; simp [val])
 refine ⟨r, ?_, h2, h3⟩
 rw [n_Add.j0, w64 (by omega) (by omega), if_pos (by omega), show ((a.length : Int) + 1) = ((a.length + 1 : Nat) : Int) by omega, zTn, if_pos (by omega)]
 exact h1
theorem add_f (a b : List Int) (ha : Limbs a) (hb : Limbs b) (la : a.length < 35184372088832) (lb : b.length < 35184372088832) (k : Nat) (hka : a.length + 2 ≤ k) (hkb : b.length + 2 ≤ k) :
  ∃ r, n_Add.f k a b = some r ∧ IsNum r (val a + val b) ∧ r.length ≤ max a.length b.length + 1 := by
 unfold n_Add.f
 have ca := cut_length a
 have cb := cut_length b
 rw [cut_f, zOb, cut_f, zOb]
 by_cases h : ((cut a).length : Int) < ((cut b).length : Int)
 ·obtain ⟨r, h1, h2, h3⟩ := add_j0 (cut b) (cut a) (cut_limbs hb) (cut_limbs ha) (by omega) (by omega) k (by omega)
  rw [cut_val, cut_val, Int.add_comm] at h2
  exact ⟨r, by rw [if_pos h]; exact h1, h2, by omega⟩
 ·obtain ⟨r, h1, h2, h3⟩ := add_j0 (cut a) (cut b) (cut_limbs ha) (cut_limbs hb) (by omega) (by omega) k (by omega)
  rw [cut_val, cut_val] at h2
  exact ⟨r, by rw [if_neg h]; exact h1, h2, by omega⟩
theorem or64 (x y : Int) (hx : 0 ≤ x ∧ x < 4294967296) (hy : 0 ≤ y ∧ y < 4294967296) : Go.bits .or .u64 (IntKind.u64.wrap (x * 4294967296)) (IntKind.u64.wrap y) = x * 4294967296 + y := by
 rw [wraps_u64 _ (by omega) (by omega), wraps_u64 y (by omega) (by omega)]
 exact bits_join .u64 64 (by decide) wraps_u64 32 (x * 4294967296) y (by omega) (by omega) (by omega) hy.1 (by omega) (by omega)
theorem smallN_val (rest x : Int) (hr : 0 ≤ rest ∧ rest < 4294967296) (hx : 0 ≤ x ∧ x < 4294967296) : smallN rest x = rest * 4294967296 + x := or64 rest x hr hx
theorem val_drop_cons (l : List Int) (n : Nat) (h : n < l.length) : val (l.drop n) = l.getD n 0 + 4294967296 * val (l.drop (n + 1)) := by
 rw [List.drop_eq_getElem_cons h, getD_lt _ h]
 rfl
theorem smallIt_val (l : List Int) (hl : Limbs l) (b : Int) (hb : 1 ≤ b) (hb2 : b < 4294967296) : ∀ k, k ≤ l.length →
  ∃ qv, val (smallIt l b k).1 = 4294967296 ^ (l.length - k) * qv ∧ val (l.drop (l.length - k)) = qv * b + (smallIt l b k).2 ∧ 0 ≤ (smallIt l b k).2 ∧ (smallIt l b k).2 < b ∧ Limbs (smallIt l b k).1 ∧ ∀ i, i < l.length - k → (smallIt l b k).1.getD i 0 = 0 := by
 intro k
 induction k with
 | zero =>
  intro _
  refine ⟨0, ?_, ?_, Int.le_refl _, by simp only [smallIt]; omega, limbs_replicate _, ?_⟩
  ·simp only [smallIt]; rw [val_replicate]; simp
  ·simp [smallIt, val]
  ·intro i hi
   simp only [smallIt]
   rw [getD_lt _ (by simp; omega)]
   simp
 | succ k ih =>
  intro hk
  obtain ⟨qv, h1, h2, h3, h4, h5, h6⟩ := ih (by omega)
  have hlen := smallIt_length l b k
  have hstep0 : smallIt l b (k + 1) = smallStep l b (smallIt l b k) (l.length - 1 - k) := rfl
  generalize smallIt l b k = s at h1 h2 h3 h4 h5 h6 hlen hstep0
  obtain ⟨O, rest⟩ := s
  simp only at h1 h2 h3 h4 h5 h6 hlen
  obtain ⟨p, hp⟩ : ∃ p, p = l.length - 1 - k := ⟨_, rfl⟩
  have hx := hl.getD p
  have hn : smallN rest (rd l (p : Int)) = rest * 4294967296 + l.getD p 0 := by rw [rd_nat]; exact smallN_val _ _ ⟨h3, by omega⟩ hx
  obtain ⟨n, hn2⟩ : ∃ n, n = rest * 4294967296 + l.getD p 0 := ⟨_, rfl⟩
  have hstep : smallIt l b (k + 1) = (O.set p (n / b % 4294967296), n % b) := by
   rw [hstep0, ← hp, hn2, ← hn]
   rfl
  have hdm := Int.emod_add_mul_ediv n b
  have hm0 := Int.emod_nonneg n (show b ≠ 0 by omega)
  have hm1 := Int.emod_lt_of_pos n (show 0 < b by omega)
  have hq0 : 0 ≤ n / b := Int.ediv_nonneg (by omega) (by omega)
  have hq1 : n / b < 4294967296 := Int.ediv_lt_of_lt_mul (by omega) (by
   have : (rest + 1) * 4294967296 ≤ b * 4294967296 := Int.mul_le_mul_of_nonneg_right (by omega) (by omega)
   rw [Int.mul_comm 4294967296 b]
   omega)
  rw [hstep]
  simp only
  rw [show n / b % 4294967296 = n / b by omega]
  refine ⟨n / b + 4294967296 * qv, ?_, ?_, hm0, hm1, h5.set _ hq0 hq1, ?_⟩
  ·rw [val_set _ _ _ (by omega), h6 p (by omega), h1, show l.length - k = p + 1 by omega, show l.length - (k + 1) = p by omega, Int.pow_succ]
   grind
  ·rw [show l.length - (k + 1) = p by omega, val_drop_cons l p (by omega), show p + 1 = l.length - k by omega, h2]
   grind
  ·intro i hi
   rw [getD_set_ne _ _ (by omega)]
   exact h6 i (by omega)
theorem small_f (l : List Int) (hl : Limbs l) (hlen : l.length ≤ 35184372088832) (b : Int) (hb : 1 ≤ b) (hb2 : b < 4294967296) :
  ∃ q, n_small.f l b = some (q, val l % b) ∧ IsNum q (val l / b) ∧ q.length ≤ l.length := by
 obtain ⟨qv, h1, h2, h3, h4, h5, h6⟩ := smallIt_val l hl b hb hb2 l.length (Nat.le_refl _)
 have hln := smallIt_length l b l.length
 rw [Nat.sub_self, Int.pow_zero, Int.one_mul] at h1
 rw [Nat.sub_self, List.drop_zero] at h2
 have hdiv : val l / b = qv := by
  rw [h2, Int.add_comm, Int.add_mul_ediv_right _ _ (by omega), Int.ediv_eq_zero_of_lt h3 h4]; omega
 have hmod : val l % b = (smallIt l b l.length).2 := by
  rw [h2, Int.add_comm, Int.add_mul_emod_self_right, Int.emod_eq_of_lt h3 h4]
 refine ⟨cut (smallIt l b l.length).1, ?_, ?_, by have := cut_length (smallIt l b l.length).1; omega⟩
 ·unfold n_small.f
  rw [if_pos hlen, wraps_u64 b (by omega) (by omega), if_neg (by omega), hmod, show (smallIt l b l.length).2 % 4294967296 = (smallIt l b l.length).2 by omega]
  unfold cut
  rw [hln]
 ·rw [hdiv, ← h1]
  exact IsNum.cut h5
def len8 : ByteArray := ⟨#[0, 1, 2, 2, 3, 3, 3, 3, 4, 4, 4, 4, 4, 4, 4, 4, 5, 5, 5, 5, 5, 5, 5, 5, 5, 5, 5, 5, 5, 5, 5, 5, 6, 6, 6, 6, 6, 6, 6, 6, 6, 6, 6, 6, 6, 6, 6, 6, 6, 6, 6, 6, 6, 6, 6, 6, 6, 6, 6, 6, 6, 6, 6, 6, 7, 7, 7, 7, 7, 7, 7, 7, 7, 7, 7, 7, 7, 7, 7, 7, 7, 7, 7, 7, 7, 7, 7, 7, 7, 7, 7, 7, 7, 7, 7, 7, 7, 7, 7, 7, 7, 7, 7, 7, 7, 7, 7, 7, 7, 7, 7, 7, 7, 7, 7, 7, 7, 7, 7, 7, 7, 7, 7, 7, 7, 7, 7, 7, 8, 8, 8, 8, 8, 8, 8, 8, 8, 8, 8, 8, 8, 8, 8, 8, 8, 8, 8, 8, 8, 8, 8, 8, 8, 8, 8, 8, 8, 8, 8, 8, 8, 8, 8, 8, 8, 8, 8, 8, 8, 8, 8, 8, 8, 8, 8, 8, 8, 8, 8, 8, 8, 8, 8, 8, 8, 8, 8, 8, 8, 8, 8, 8, 8, 8, 8, 8, 8, 8, 8, 8, 8, 8, 8, 8, 8, 8, 8, 8, 8, 8, 8, 8, 8, 8, 8, 8, 8, 8, 8, 8, 8, 8, 8, 8, 8, 8, 8, 8, 8, 8, 8, 8, 8, 8, 8, 8, 8, 8, 8, 8, 8, 8, 8, 8, 8, 8, 8, 8, 8, 8, 8, 8, 8, 8, 8, 8]⟩
def len8B (i : Nat) : Bool := i == 0 || (Nat.ble 1 (bt len8 (i : Int)).toNat && Nat.ble (bt len8 (i : Int)).toNat 8 && decide (bt len8 (i : Int) = ((bt len8 (i : Int)).toNat : Int)) && Nat.ble (2 ^ ((bt len8 (i : Int)).toNat - 1)) i && Nat.blt i (2 ^ (bt len8 (i : Int)).toNat))
theorem len8_all : (List.range 256).all len8B = true := by kernel_rfl
theorem len8_ok (i : Nat) (h : i < 256) (h0 : 0 < i) : 1 ≤ bt len8 (i : Int) ∧ bt len8 (i : Int) ≤ 8 ∧ 2 ^ ((bt len8 (i : Int)).toNat - 1) ≤ i ∧ i < 2 ^ (bt len8 (i : Int)).toNat := by
 have h1 := List.all_eq_true.1 len8_all i (List.mem_range.2 h)
 unfold len8B at h1
 generalize bt len8 (i : Int) = v at h1 ⊢
 simp only [Bool.or_eq_true, Bool.and_eq_true, beq_iff_eq, decide_eq_true_eq, Nat.ble_eq, Nat.blt_eq] at h1
 rcases h1 with h1 | ⟨⟨⟨⟨a, b⟩, c⟩, d⟩, e⟩
 ·omega
 ·exact ⟨by omega, by omega, d, e⟩
theorem len8_at (i : Int) (h0 : 0 < i) (h1 : i < 256) : ∃ t : Nat, bt len8 i = (t : Int) + 1 ∧ t < 8 ∧ (2 : Int) ^ t ≤ i ∧ i < 2 ^ (t + 1) := by
 obtain ⟨n, rfl⟩ := Int.eq_ofNat_of_zero_le (Int.le_of_lt h0)
 obtain ⟨a, b, c, d⟩ := len8_ok n (by omega) (by omega)
 obtain ⟨t, ht⟩ := Int.eq_ofNat_of_zero_le (show 0 ≤ bt len8 (n : Int) - 1 by omega)
 have ht2 : bt len8 (n : Int) = (t : Int) + 1 := by omega
 rw [ht2] at c d
 rw [show ((t : Int) + 1).toNat = t + 1 by omega] at c d
 rw [Nat.add_sub_cancel] at c
 exact ⟨t, ht2, by omega, by exact_mod_cast c, by exact_mod_cast d⟩
theorem len32_f (x : Int) (h0 : 0 < x) (h1 : x < 4294967296) : ∃ t : Nat, bits_Len32.f x = some ((t : Int) + 1) ∧ t < 32 ∧ (2 : Int) ^ t ≤ x ∧ x < 2 ^ (t + 1) := by
 have hp : ∀ a b : Nat, (2 : Int) ^ (a + b) = 2 ^ a * 2 ^ b := fun a b => Int.pow_add 2 a b
 by_cases a1 : x ≥ 65536
 ·by_cases a2 : x / 65536 ≥ 256
  ·obtain ⟨t, e, h, l, u⟩ := len8_at (x / 65536 / 256) (by omega) (by omega)
   refine ⟨t + 24, ?_, by omega, ?_, ?_⟩
   ·unfold bits_Len32.f
    rw [if_pos a1, if_pos a2, show x / 65536 / 256 % 256 = x / 65536 / 256 by omega, if_pos (by omega), if_pos (by omega)]
    refine congrArg some ?_
    show wrap64 (16 + 8 + wrap64 (bt len8 (x / 65536 / 256))) = _
    rw [e, w64 (n:=(t : Int) + 1) (by omega) (by omega), w64 (by omega) (by omega)]
    omega
   ·rw [hp]; generalize (2 : Int) ^ t = P at *; omega
   ·rw [show t + 24 + 1 = (t + 1) + 24 by omega, hp]; generalize (2 : Int) ^ (t + 1) = P at *; omega
  ·obtain ⟨t, e, h, l, u⟩ := len8_at (x / 65536) (by omega) (by omega)
   refine ⟨t + 16, ?_, by omega, ?_, ?_⟩
   ·unfold bits_Len32.f
    rw [if_pos a1, if_neg a2, show x / 65536 % 256 = x / 65536 by omega, if_pos (by omega), if_pos (by omega)]
    refine congrArg some ?_
    show wrap64 (16 + wrap64 (bt len8 (x / 65536))) = _
    rw [e, w64 (n:=(t : Int) + 1) (by omega) (by omega), w64 (by omega) (by omega)]
    omega
   ·rw [hp]; generalize (2 : Int) ^ t = P at *; omega
   ·rw [show t + 16 + 1 = (t + 1) + 16 by omega, hp]; generalize (2 : Int) ^ (t + 1) = P at *; omega
 ·by_cases a2 : x ≥ 256
  ·obtain ⟨t, e, h, l, u⟩ := len8_at (x / 256) (by omega) (by omega)
   refine ⟨t + 8, ?_, by omega, ?_, ?_⟩
   ·unfold bits_Len32.f
    rw [if_neg a1, if_pos a2, show x / 256 % 256 = x / 256 by omega, if_pos (by omega), if_pos (by omega)]
    refine congrArg some ?_
    show wrap64 (0 + 8 + wrap64 (bt len8 (x / 256))) = _
    rw [e, w64 (n:=(t : Int) + 1) (by omega) (by omega), w64 (by omega) (by omega)]
    omega
   ·rw [hp]; generalize (2 : Int) ^ t = P at *; omega
   ·rw [show t + 8 + 1 = (t + 1) + 8 by omega, hp]; generalize (2 : Int) ^ (t + 1) = P at *; omega
  ·obtain ⟨t, e, h, l, u⟩ := len8_at x (by omega) (by omega)
   refine ⟨t, ?_, by omega, l, u⟩
   unfold bits_Len32.f
   rw [if_neg a1, if_neg a2, show x % 256 = x by omega, if_pos (by omega), if_pos (by omega)]
   refine congrArg some ?_
   show wrap64 (0 + wrap64 (bt len8 x)) = _
   rw [e, w64 (n:=(t : Int) + 1) (by omega) (by omega), w64 (by omega) (by omega)]
   omega
theorem lz_f (x : Int) (h0 : 0 < x) (h1 : x < 4294967296) : ∃ s : Nat, bits_LeadingZeros32.f x = some (s : Int) ∧ s ≤ 31 ∧ 2147483648 ≤ x * 2 ^ s ∧ x * 2 ^ s < 4294967296 := by
 obtain ⟨t, e, h, l, u⟩ := len32_f x h0 h1
 refine ⟨31 - t, ?_, by omega, ?_, ?_⟩
 ·unfold bits_LeadingZeros32.f
  rw [e, zOb, w64 (by omega) (by omega)]
  refine congrArg some ?_
  omega
 ·have h2 : (2 : Int) ^ t * 2 ^ (31 - t) = 2147483648 := by rw [← Int.pow_add, show t + (31 - t) = 31 by omega]; rfl
  rw [← h2]
  exact Int.mul_le_mul_of_nonneg_right l (Int.le_of_lt (Int.pow_pos (by decide)))
 ·have h2 : (2 : Int) ^ (t + 1) * 2 ^ (31 - t) = 4294967296 := by rw [← Int.pow_add, show t + 1 + (31 - t) = 32 by omega]; rfl
  rw [← h2]
  exact Int.mul_lt_mul_of_pos_right u (Int.pow_pos (by decide))
theorem pow_le31 (s : Nat) (h : s ≤ 31) : (1 : Int) ≤ 2 ^ s ∧ (2 : Int) ^ s ≤ 2147483648 := by
 have h1 : (0 : Int) < 2 ^ s := Int.pow_pos (by decide)
 refine ⟨by omega, ?_⟩
 have := Nat.pow_le_pow_right (show 0 < 2 by decide) h
 rw [show (2147483648 : Int) = 2 ^ 31 from rfl]
 exact_mod_cast this
theorem shl64 (x : Int) (hx : 0 ≤ x ∧ x < 4294967296) (s : Nat) (hs : s ≤ 31) : shl .u64 (IntKind.u64.wrap x) (s : Int) = x * 2 ^ s := by
 have hp := pow_le31 s hs
 rw [wraps_u64 x (by omega) (by omega)]
 unfold shl
 rw [show min ((s : Int)).toNat (IntKind.bits .u64) = s from by rw [zTn]; exact Nat.min_eq_left (Nat.le_trans hs (by decide))]
 have h1 : 0 ≤ x * 2 ^ s := Int.mul_nonneg hx.1 (by omega)
 have h2 : x * 2 ^ s ≤ 4294967296 * 2147483648 := Int.mul_le_mul (by omega) hp.2 (by omega) (by decide)
 exact wraps_u64 _ h1 (by omega)
theorem or32_add (x y : Int) (s : Nat) (hs : s ≤ 31) (hx : 0 ≤ x) (hx2 : x < 2 ^ s) (hy : 0 ≤ y) (hy2 : y < 4294967296) (hm : y % 2 ^ s = 0) : Go.bits .or .u32 x y = x + y := by
 have hp := pow_le31 s hs
 have hc : Go.bits .or .u32 x y = Go.bits .or .u32 y x := by
  obtain ⟨p, rfl⟩ := Int.eq_ofNat_of_zero_le hx
  obtain ⟨q, rfl⟩ := Int.eq_ofNat_of_zero_le hy
  rw [(bits_u32 p q (by omega) (by omega)).2.1, (bits_u32 q p (by omega) (by omega)).2.1, Nat.or_comm]
 rw [hc, bits_join .u32 32 (by decide) wraps_u32 s y x hy hm (by omega) hx hx2 (by omega)]
 omega
theorem mod_low (x : Int) (s : Nat) (hs : s ≤ 31) : (x * 2 ^ s) % 4294967296 % 2 ^ s = 0 := by
 have h1 : (4294967296 : Int) = 2 ^ s * 2 ^ (32 - s) := by rw [← Int.pow_add, show s + (32 - s) = 32 by omega]; rfl
 rw [h1, Int.mul_comm x, Int.mul_emod_mul_of_pos _ _ (Int.pow_pos (by decide)), Int.mul_emod_right]
theorem shift_l0 (l : List Int) (hl : Limbs l) (hL : l.length < 35184372088832) (s : Nat) (hs : s ≤ 31) :
  ∀ (j m k : Nat) (O : List Int), m + j = l.length → O.length = l.length + 1 → Limbs O → val O = val (l.take m) * 2 ^ s → (∀ i, m < i → O.getD i 0 = 0) → O.getD m 0 < 2 ^ s →
  ∃ r, n_shift.l0 (k + j + 1) (s : Int) O l (l.length : Int) (m : Int) = some r ∧ Limbs r ∧ r.length = l.length + 1 ∧ val r = val l * 2 ^ s := by
 intro j
 induction j with
 | zero =>
  intro m k O hm hO lO hv hz ht
  obtain rfl : m = l.length := by omega
  rw [List.take_length] at hv
  exact ⟨O, by rw [n_shift.l0, if_neg (by omega)], lO, hO, hv⟩
 | succ j ih =>
  intro m k O hm hO lO hv hz ht
  have hp := pow_le31 s hs
  have hx := hl.getD m
  have ho := lO.getD m
  have hsh := shl64 (l.getD m 0) hx s hs
  have hml := mod_low (l.getD m 0) s hs
  have hlt : l.getD m 0 * 2 ^ s < 4294967296 * 2 ^ s := Int.mul_lt_mul_of_pos_right hx.2 (by omega)
  have hn0 : 0 ≤ l.getD m 0 * 2 ^ s := Int.mul_nonneg hx.1 (by omega)
  obtain ⟨n, hn⟩ : ∃ n, l.getD m 0 * 2 ^ s = n := ⟨_, rfl⟩
  have hvs := val_take_succ' l m
  rw [hn] at hsh hml hlt hn0
  have hor := or32_add (O.getD m 0) (n % 4294967296) s hs ho.1 ht (by omega) (by omega) hml
  have hb0 : 0 ≤ O.getD m 0 + n % 4294967296 ∧ O.getD m 0 + n % 4294967296 < 4294967296 := by
   have hq : (4294967296 : Int) = 2 ^ s * 2 ^ (32 - s) := by rw [← Int.pow_add, show s + (32 - s) = 32 by omega]; rfl
   obtain ⟨c, hc⟩ := Int.dvd_of_emod_eq_zero hml
   have hc2 : c < 2 ^ (32 - s) := by
    have h9 : 2 ^ s * c < 2 ^ s * 2 ^ (32 - s) := by rw [← hc, ← hq]; omega
    exact Int.lt_of_mul_lt_mul_left h9 (by omega)
   have h8 : (2 : Int) ^ s * (c + 1) ≤ 2 ^ s * 2 ^ (32 - s) := Int.mul_le_mul_of_nonneg_left (by omega) (by omega)
   rw [← hq, Int.mul_add] at h8
   omega
  have hdiv : n / 4294967296 < 2 ^ s := Int.ediv_lt_of_lt_mul (by decide) (by rw [Int.mul_comm (2 ^ s)]; exact hlt)
  have hdiv0 : 0 ≤ n / 4294967296 := Int.ediv_nonneg hn0 (by decide)
  obtain ⟨r, h1, h2, h3, h4⟩ := ih (m + 1) k ((O.set m (O.getD m 0 + n % 4294967296)).set (m + 1) (n / 4294967296)) (by omega) (by rw [List.length_set, List.length_set]; exact hO) ((lO.set _ hb0.1 hb0.2).set _ hdiv0 (by omega)) (by
    rw [val_set _ _ _ (by rw [List.length_set]; omega), val_set _ _ _ (by omega), getD_set_ne _ _ (by omega), hz (m + 1) (by omega), hv, hvs, Int.pow_succ, Int.add_mul, Int.mul_assoc (4294967296 ^ m) _ (2 ^ s), hn]
    have := Int.emod_add_mul_ediv n 4294967296
    grind)
   (fun i hi => by rw [getD_set_ne _ _ (by omega), getD_set_ne _ _ (by omega)]; exact hz i (by omega))
   (by rw [getD_set_eq _ _ (by rw [List.length_set]; omega)]; exact hdiv)
  refine ⟨r, ?_, h2, h3, h4⟩
  rw [show k + (j + 1) + 1 = (k + j + 1) + 1 by omega, n_shift.l0, if_pos (by omega), if_pos (by omega), if_pos (by omega), if_pos (by omega), if_pos (by omega), w64 (n:=(m : Int) + 1) (by omega) (by omega), if_pos (by omega), if_pos (by omega), rd_nat, rd_nat, hsh, hor, zTn, show ((m : Int) + 1) = ((m + 1 : Nat) : Int) by omega, zTn, show n / 4294967296 % 4294967296 = n / 4294967296 by omega]
  exact h1
theorem shift_f (l : List Int) (hl : Limbs l) (hL : l.length < 35184372088832) (s : Nat) (hs : s ≤ 31) (k : Nat) (hk : l.length + 1 ≤ k) :
  ∃ r, n_shift.f k l (s : Int) = some r ∧ Limbs r ∧ r.length = l.length + 1 ∧ val r = val l * 2 ^ s := by
 have hp := pow_le31 s hs
 have hz : ∀ i, (List.replicate (l.length + 1) (0 : Int)).getD i 0 = 0 := fun i => by
  by_cases hi : i < l.length + 1
  ·rw [getD_lt _ (by simpa using hi)]; simp
  ·rw [getD_ge _ (by simp; omega)]
 obtain ⟨d, rfl⟩ : ∃ d, k = d + l.length + 1 := ⟨k - (l.length + 1), by omega⟩
 obtain ⟨r, h1, h2, h3, h4⟩ := shift_l0 l hl hL s hs l.length 0 d (List.replicate (l.length + 1) 0) (by omega) (by simp) (limbs_replicate _) (by rw [val_replicate]; simp [val]) (fun i _ => hz i) (by rw [hz 0]; omega)
 refine ⟨r, ?_, h2, h3, h4⟩
 unfold n_shift.f
 rw [w64 (by omega) (by omega), if_pos (by omega), show ((l.length : Int) + 1) = ((l.length + 1 : Nat) : Int) by omega, zTn, if_pos (by omega)]
 exact h1
theorem knuth_lower (vt v2 T V S head u2 g r : Int) (hT : 0 < T) (hV : (vt * 4294967296 + v2) * T ≤ V) (hS : S < (head * 4294967296 + u2 + 1) * T) (hg : 0 ≤ g) (hh : g * vt + r = head) (hc : g * v2 > r * 4294967296 + u2) : S < g * V := by
 have h1 : head * 4294967296 + u2 + 1 ≤ g * (vt * 4294967296 + v2) := by
  have : g * (vt * 4294967296 + v2) = (g * vt) * 4294967296 + g * v2 := by grind
  rw [this, show g * vt = head - r by omega]
  omega
 have h2 : (head * 4294967296 + u2 + 1) * T ≤ g * (vt * 4294967296 + v2) * T := Int.mul_le_mul_of_nonneg_right h1 (by omega)
 have h3 : g * ((vt * 4294967296 + v2) * T) ≤ g * V := Int.mul_le_mul_of_nonneg_left hV hg
 rw [← Int.mul_assoc] at h3
 omega
theorem knuth_upper (vt v2 T V S head u2 g r : Int) (hT : 0 < T) (hvt : 1 ≤ vt) (hv2 : 0 ≤ v2) (hV : (vt * 4294967296 + v2) * T ≤ V) (hV2 : V ≤ (vt * 4294967296 + v2 + 1) * T) (hS : (head * 4294967296 + u2) * T ≤ S) (hg : 0 ≤ g) (hg2 : g < 4294967296) (hh : g * vt + r = head) (hc : g * v2 ≤ r * 4294967296 + u2) : (g - 1) * V ≤ S := by
 have h1 : g * (vt * 4294967296 + v2 + 1) ≤ head * 4294967296 + u2 + 4294967296 := by
  have : g * (vt * 4294967296 + v2 + 1) = (g * vt) * 4294967296 + g * v2 + g := by grind
  rw [this, show g * vt = head - r by omega]
  omega
 have h2 : g * V ≤ g * ((vt * 4294967296 + v2 + 1) * T) := Int.mul_le_mul_of_nonneg_left hV2 hg
 have h3 : g * (vt * 4294967296 + v2 + 1) * T ≤ (head * 4294967296 + u2 + 4294967296) * T := Int.mul_le_mul_of_nonneg_right h1 (by omega)
 rw [← Int.mul_assoc] at h2
 have h4 : 4294967296 * T ≤ (vt * 4294967296 + v2) * T := Int.mul_le_mul_of_nonneg_right (by omega) (by omega)
 rw [Int.add_mul (head * 4294967296 + u2)] at h3
 rw [Int.sub_mul]
 omega
theorem knuth_break (vt v2 T V S head u2 g r : Int) (hT : 0 < T) (hv2 : v2 < 4294967296) (hu2 : 0 ≤ u2) (hV2 : V ≤ (vt * 4294967296 + v2 + 1) * T) (hS : (head * 4294967296 + u2) * T ≤ S) (hg : 0 ≤ g) (hg2 : g < 4294967296) (hh : g * vt + r = head) (hr : 4294967296 ≤ r) : g * V ≤ S := by
 have h1 : g * (vt * 4294967296 + v2 + 1) ≤ head * 4294967296 + u2 := by
  have h5 : g * (vt * 4294967296 + v2 + 1) ≤ g * (vt * 4294967296 + 4294967296) := Int.mul_le_mul_of_nonneg_left (by omega) hg
  have : g * (vt * 4294967296 + 4294967296) = (g * vt + g) * 4294967296 := by grind
  rw [this, show g * vt = head - r by omega] at h5
  omega
 have h2 : g * V ≤ g * ((vt * 4294967296 + v2 + 1) * T) := Int.mul_le_mul_of_nonneg_left hV2 hg
 have h3 : g * (vt * 4294967296 + v2 + 1) * T ≤ (head * 4294967296 + u2) * T := Int.mul_le_mul_of_nonneg_right h1 (by omega)
 rw [← Int.mul_assoc] at h2
 omega
theorem guess_l1 (Q u v : List Int) (x9 : Int) (n j : Nat) (hv : Limbs v) (hu : Limbs u) (hn : v.length = n) (h2 : 2 ≤ n) (hj : j + n < u.length) (hum : u.length < 35184372088832) (qd head : Int) (hq0 : 0 ≤ qd) (hq1 : qd < 4294967296)
  (hvt : 2147483648 ≤ v.getD (n - 1) 0) (lower : ∀ g r, 0 ≤ g → g * v.getD (n - 1) 0 + r = head → g * v.getD (n - 2) 0 > r * 4294967296 + u.getD (j + n - 2) 0 → qd < g) (hhd : head < 4294967296 * v.getD (n - 1) 0 + 4294967296) :
  ∀ (c k : Nat) (g r : Int), g < 4294967298 → g * v.getD (n - 1) 0 + r = head → qd ≤ g → 0 ≤ r → r < 4294967296 → 4294967296 ≤ r + c * 2147483648 → 2 * c + 2 ≤ k →
  ∃ g' k', n_DivMod.l1 k Q x9 u v (n : Int) (j : Int) g r = n_DivMod.j3 k' Q x9 u v (n : Int) (j : Int) g' ∧ qd ≤ g' ∧ g' < 4294967296 ∧ k ≤ k' + 2 * c + 2 ∧
   ∃ r', g' * v.getD (n - 1) 0 + r' = head ∧ (g' * v.getD (n - 2) 0 ≤ r' * 4294967296 + u.getD (j + n - 2) 0 ∨ 4294967296 ≤ r') := by
 have e1 : wrap64 ((j : Int) + (n : Int)) = ((j + n : Nat) : Int) := by rw [w64 (by omega) (by omega)]; omega
 have e3 : wrap64 ((n : Int) - 1) = ((n - 1 : Nat) : Int) := by rw [w64 (by omega) (by omega)]; omega
 have e4 : wrap64 ((n : Int) - 2) = ((n - 2 : Nat) : Int) := by rw [w64 (by omega) (by omega)]; omega
 have e5 : wrap64 (((j + n : Nat) : Int) - 2) = ((j + n - 2 : Nat) : Int) := by rw [w64 (by omega) (by omega)]; omega
 have bvt := hv.getD (n - 1)
 have bv2 := hv.getD (n - 2)
 have bu2 := hu.getD (j + n - 2)
 intro c
 induction c with
 | zero => intro k g r _ _ _ _ h5 h6 _; omega
 | succ c ih =>
  intro k g r h1 h3 h4 h5 h6 h7 hk
  obtain ⟨k, rfl⟩ : ∃ d, k = d + 2 := ⟨k - 2, by omega⟩
  have key : qd < g → ∃ g' k', n_DivMod.j2 (k + 1) Q x9 u v (n : Int) (j : Int) g r true = n_DivMod.j3 k' Q x9 u v (n : Int) (j : Int) g' ∧ qd ≤ g' ∧ g' < 4294967296 ∧ k ≤ k' + 2 * c + 2 ∧
    ∃ r', g' * v.getD (n - 1) 0 + r' = head ∧ (g' * v.getD (n - 2) 0 ≤ r' * 4294967296 + u.getD (j + n - 2) 0 ∨ 4294967296 ≤ r') := by
   intro hlt
   have hh : (g - 1) * v.getD (n - 1) 0 + (r + v.getD (n - 1) 0) = head := by rw [Int.sub_mul]; omega
   rw [n_DivMod.j2, if_pos rfl, e3, if_pos (by omega), if_pos (by omega), rd_nat, wraps_u64 (v.getD (n - 1) 0) (by omega) (by omega), wraps_u64 (r + v.getD (n - 1) 0) (by omega) (by omega), wraps_u64 (g - 1) (by omega) (by omega)]
   by_cases hb : (r + v.getD (n - 1) 0) / 4294967296 > 0
   ·rw [if_pos hb]
    have hgB : g - 1 < 4294967296 := by
     have h9 : (g - 1) * v.getD (n - 1) 0 < 4294967296 * v.getD (n - 1) 0 := by omega
     exact Int.lt_of_mul_lt_mul_right h9 (by omega)
    exact ⟨g - 1, k, rfl, by omega, hgB, by omega, _, hh, .inr (by omega)⟩
   ·rw [if_neg hb]
    exact ih k (g - 1) (r + v.getD (n - 1) 0) (by omega) hh (by omega) (by omega) (by omega) (by omega) (by omega)
  by_cases hg : g / 4294967296 > 0
  ·obtain ⟨g', k', a1, a2, a3, a4, a5⟩ := key (by omega)
   exact ⟨g', k', by rw [n_DivMod.l1, if_pos hg]; exact a1, a2, a3, by omega, a5⟩
  ·have hgn : 0 ≤ g := by omega
   have hp : 0 ≤ g * v.getD (n - 2) 0 := Int.mul_nonneg hgn bv2.1
   have hp2 : g * v.getD (n - 2) 0 ≤ 4294967295 * 4294967295 := Int.mul_le_mul (by omega) (by omega) bv2.1 (by decide)
   have hor := or64 r (u.getD (j + n - 2) 0) ⟨h5, h6⟩ bu2
   have hl1 : n_DivMod.l1 (k + 2) Q x9 u v (n : Int) (j : Int) g r = n_DivMod.j2 (k + 1) Q x9 u v (n : Int) (j : Int) g r (decide (g * v.getD (n - 2) 0 > r * 4294967296 + u.getD (j + n - 2) 0)) := by
    rw [show k + 2 = (k + 1) + 1 from rfl, n_DivMod.l1, if_neg hg, e4, if_pos (by omega), if_pos (by omega), e1, e5, if_pos (by omega), if_pos (by omega), rd_nat, rd_nat, wraps_u64 (v.getD (n - 2) 0) (by omega) (by omega), wraps_u64 (g * v.getD (n - 2) 0) hp (by omega), hor]
   by_cases ht : g * v.getD (n - 2) 0 > r * 4294967296 + u.getD (j + n - 2) 0
   ·obtain ⟨g', k', a1, a2, a3, a4, a5⟩ := key (lower g r hgn h3 ht)
    rw [decide_eq_true ht] at hl1
    exact ⟨g', k', hl1.trans a1, a2, a3, by omega, a5⟩
   ·rw [decide_eq_false ht] at hl1
    refine ⟨g, k, hl1.trans ?_, h4, by omega, by omega, r, h3, .inl (by omega)⟩
    rw [n_DivMod.j2, if_neg (by decide)]
@[irreducible] def Bp (n : Nat) : Int := (4294967296 : Int) ^ n
theorem Bp_zero : Bp 0 = 1 := by unfold Bp; rfl
theorem Bp_succ (n : Nat) : Bp (n + 1) = Bp n * 4294967296 := by unfold Bp; exact Int.pow_succ 4294967296 n
theorem Bp_add (m n : Nat) : Bp (m + n) = Bp m * Bp n := by unfold Bp; exact Int.pow_add 4294967296 m n
theorem Bp_pos (n : Nat) : 0 < Bp n := by unfold Bp; exact Int.pow_pos (by decide)
theorem pow_upB {m n : Nat} (h : m ≤ n) : Bp m ≤ Bp n := by unfold Bp; exact pow_up h
theorem val_appendB (a b : List Int) : val (a ++ b) = val a + Bp a.length * val b := by unfold Bp; exact val_append a b
theorem val_setB (l : List Int) (n : Nat) (v : Int) (h : n < l.length) : val (l.set n v) = val l + Bp n * (v - l.getD n 0) := by unfold Bp; exact val_set l n v h
theorem val_take_succB (l : List Int) (n : Nat) : val (l.take (n + 1)) = val (l.take n) + Bp n * l.getD n 0 := by unfold Bp; exact val_take_succ' l n
theorem val_ltB {l : List Int} (h : Limbs l) : val l < Bp l.length := by unfold Bp; exact val_lt h
theorem val_geB {l : List Int} (h : Limbs l) (ht : Trim l) (hn : l ≠ []) : Bp (l.length - 1) ≤ val l := by unfold Bp; exact val_ge h ht hn
theorem val_splitB (l : List Int) (n : Nat) (h : n ≤ l.length) : val l = val (l.take n) + Bp n * val (l.drop n) := by
  have h0 := val_appendB (l.take n) (l.drop n)
  rw [List.take_append_drop, zLt, Nat.min_eq_left h] at h0
  exact h0
theorem less_l0B (b : List Int) (hb : Limbs b) (N : Nat) (hN : N < 4611686018427387904) (k : Nat) (X : List Int) (hX : X.length = N) (lX : Limbs X) :
    ∃ X' c', n_less.l0 (k + N + 1) X b 0 (N : Int) 0 = some (c', X') ∧ X'.length = N ∧ Limbs X' ∧ (c' = 0 ∨ c' = 1) ∧ val X' - c' * Bp N + val (b.take N) = val X := by unfold Bp; exact less_l0 b hb N hN (val X) N 0 k X 0 (by omega) hX lX (.inl rfl) (by simp [val])
theorem w64e {x : Int} {m : Nat} (h : x = (m : Int)) (hm : m < 4611686018427387904) : wrap64 x = (m : Int) := by rw [h]; exact w64 (by omega) (by omega)
theorem Limbs.drop {l : List Int} (h : Limbs l) (n : Nat) : Limbs (l.drop n) := fun x hx => h x (List.mem_of_mem_drop hx)
theorem Limbs.append {a b : List Int} (ha : Limbs a) (hb : Limbs b) : Limbs (a ++ b) := fun x hx => by
  rcases List.mem_append.1 hx with h | h
  · exact ha x h
  · exact hb x h
theorem len_of_lt {l : List Int} {v : Int} {m : Nat} (h : IsNum l v) (hv : v < Bp m) : l.length ≤ m := by
  rcases Nat.lt_or_ge m l.length with hlt | hge
  · have h1 := val_geB h.limbs h.trim (by intro h0; rw [h0] at hlt; exact absurd hlt (by simp))
    have h2 : Bp m ≤ Bp (l.length - 1) := pow_upB (by omega)
    rw [h.eq] at h1
    omega
  · exact hge
theorem of2_num (a : Int) (h0 : 0 ≤ a) (h1 : a < 18446744073709551616) : IsNum (of2 a) a := by
  have hl : Limbs [a % 4294967296, a / 4294967296] := Limbs.mk (by omega) (by omega) (Limbs.mk (by omega) (by omega) Limbs.nil)
  have := IsNum.cut hl
  rw [show val [a % 4294967296, a / 4294967296] = a by simp only [val]; omega] at this
  exact this
theorem IsNum.nil : IsNum [] 0 := ⟨Limbs.nil, .inl rfl, rfl⟩
theorem zeros_getD (n i : Nat) : (List.replicate n (0 : Int)).getD i 0 = 0 := by
  by_cases hi : i < n
  · rw [getD_lt _ (by simpa using hi)]; simp
  · rw [getD_ge _ (by simp; omega)]
end Go.Proofs.YtnjmnicgknggfaaDoor.D
