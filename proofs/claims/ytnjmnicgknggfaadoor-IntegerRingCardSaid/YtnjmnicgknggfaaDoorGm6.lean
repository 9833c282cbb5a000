/- Lemmas for the statement: the walks of the functions that it reaches, and plain laws. -/
import Derived.Test.YtnjmnicgknggfaaDoorGm5
import Derived.Test.YtnjmnicgknggfaaDoorGm1
import Derived.Test.YtnjmnicgknggfaaDoorGm3
import Derived.Test.YtnjmnicgknggfaaDoorGm4
set_option linter.unusedVariables false
set_option linter.unusedSimpArgs false
set_option maxHeartbeats 8000000
set_option maxRecDepth 100000
namespace Go.Proofs.YtnjmnicgknggfaaDoor.G
open Go Go.RowKit Go.Proofs.YtnjmnicgknggfaaDoorW.PrintWords Go.Proofs.YtnjmnicgknggfaaDoorW.PrintLast Go.Proofs.YtnjmnicgknggfaaDoorW.PrintMore
attribute [local go_sem] max2_int min2_int max_two min_two max_three min_three max_four min_four
open Go.Proofs.YtnjmnicgknggfaaDoorW.PrintWords.Kd renaming R_alloc → zRa, R_drewN → zRn, R_drew → zRd, V_alloc → zVa, V_drewN → zVn, V_drew → zVd, V_below → zVb, C_alloc → zCa, C_drewN → zCn, C_drew → zCd, R_mono → zRm, V_mono → zVm, at_int → zAi, R_elder' → zRe, R_lower → zRl, R_new' → zRw, R_lt → zRt, R_below → zRb, R_base → zRz, R_reads' → zRr, R_slice → zRs, V_elder' → zVe, V_lower → zVl, V_slice → zVs, V_reads' → zVr
open Go.Proofs.YtnjmnicgknggfaaDoorW.PrintWords renaming pw_below_drewN → zBn, below_alloc → zBa, below_drew1 → zBd, below_size → zBs, below_step → zBt, blk_drewN → zKn, blk_drew → zKd, blk_alloc → zKa, blk_below → zKb, blk_cell → zKc, blk_frozen → zKf
open List renaming setIfInBounds_toArray → zSa, set_cons_zero → zSb, set_cons_succ → zSc, length_drop → zLd, length_take → zLt, map_toArray → zMa, map_cons → zMc, map_nil → zMn, length_cons → zLc, length_nil → zLn
open Go.Proofs.YtnjmnicgknggfaaDoorW.PrintWords.Aside0 renaming mk → zMk
open Option renaming bind_eq_some_iff → zBi, bind_some → zOb
open Option.some renaming inj → zOi
open Int renaming toNat_natCast → zTn
def filigreelaw02_IntegerRing.Pure : Prop := ∀ (a0_0 : Bool) (l0_1 : List Int) (a1_0 : Bool) (l1_1 : List Int) (a2_0 : Bool) (l2_1 : List Int), l0_1.length ≤ maxLen → (∀ x ∈ l0_1, (Lit.int .u32 x).wf = true) → l1_1.length ≤ maxLen → (∀ x ∈ l1_1, (Lit.int .u32 x).wf = true) → l2_1.length ≤ maxLen → (∀ x ∈ l2_1, (Lit.int .u32 x).wf = true) → ∃ k, filigreelaw02_IntegerRing.f k a0_0 l0_1 a1_0 l1_1 a2_0 l2_1 = some true
theorem int_zero {p : Bool} {q : List Int} {z : Int} (h : IsInt p q z) (hz : z = 0) : p = false ∧ q = [] := by
  subst hz
  have h0 : IsInt false [] 0 := ⟨⟨fun x hx => by simp at hx, by simp [Trim], rfl⟩, by decide⟩
  exact h.unique h0
theorem pure_IntegerRing : filigreelaw02_IntegerRing.Pure := by
  intro a x b y c v m1 h1 m2 h2 m3 h3
  have X := limbs_of_wf h1
  have Y := limbs_of_wf h2
  have V := limbs_of_wf h3
  obtain ⟨k, hk⟩ : ∃ k : Nat, k = 1000000 := ⟨_, rfl⟩
  refine ⟨k, ?_⟩
  unfold filigreelaw02_IntegerRing.f
  rw [light3 x y v m1 m2 k (by omega), zOb]
  by_cases hL : x.length ≤ 12 ∧ y.length ≤ 12 ∧ v.length ≤ 12
  · rw [decide_eq_true hL, if_pos rfl]
    obtain ⟨p1, q1, e1, i1, l1⟩ := neg_int a x X (by omega)
    obtain ⟨p2, q2, e2, i2, l2⟩ := iadd_f a p1 x q1 X i1.num.limbs (by omega) (by omega) k (by omega)
    obtain ⟨p3, q3, e3, i3, l3⟩ := iadd_f b c y v Y V (by omega) (by omega) k (by omega)
    obtain ⟨p4, q4, e4, i4, l4⟩ := imul_f a p3 x q3 X i3.num.limbs (by omega) (by omega) k (by omega)
    obtain ⟨p5, q5, e5, i5, l5⟩ := imul_f a b x y X Y (by omega) (by omega) k (by omega)
    obtain ⟨p6, q6, e6, i6, l6⟩ := imul_f a c x v X V (by omega) (by omega) k (by omega)
    obtain ⟨p7, q7, e7, i7, l7⟩ := iadd_f p5 p6 q5 q6 i5.num.limbs i6.num.limbs (by omega) (by omega) k (by omega)
    obtain ⟨p8, q8, e8, i8, l8⟩ := iadd_f a b x y X Y (by omega) (by omega) k (by omega)
    obtain ⟨p9, q9, e9, i9, l9⟩ := iadd_f b a y x Y X (by omega) (by omega) k (by omega)
    obtain ⟨p10, q10, e10, i10, l10⟩ := imul_f b a y x Y X (by omega) (by omega) k (by omega)
    obtain ⟨p11, q11, e11, i11, l11⟩ := isub_f p8 b q8 y i8.num.limbs Y (by omega) (by omega) k (by omega)
    obtain ⟨p12, q12, e12, i12, l12⟩ := rnorm_int a x X (by omega) k (by omega)
    rw [i1.sg] at i2
    rw [i3.sg] at i4
    rw [i5.sg, i6.sg] at i7
    rw [i8.sg] at i11
    obtain ⟨rfl, rfl⟩ := int_zero i2 (by omega)
    rw [Int.mul_add] at i4
    obtain ⟨rfl, rfl⟩ := i4.unique i7
    rw [Int.add_comm] at i9
    obtain ⟨rfl, rfl⟩ := i8.unique i9
    rw [Int.mul_comm] at i10
    obtain ⟨rfl, rfl⟩ := i5.unique i10
    rw [Int.add_sub_cancel] at i11
    obtain ⟨rfl, rfl⟩ := i11.unique i12
    have s4 := isame_f p4 q4 (by omega) k (by omega)
    have s8 := isame_f p8 q8 (by omega) k (by omega)
    have s5 := isame_f p5 q5 (by omega) k (by omega)
    have s11 := isame_f p11 q11 (by omega) k (by omega)
    have ha := alive_f k (by omega)
    clear hk
    rw [e1, zOb, e2, zOb, e3, zOb, e4, zOb, e5, zOb, e6, zOb, e7, zOb, if_pos (show (([] : List Int).length : Int) = 0 from rfl), if_neg (show ¬ (false = true) by decide)]
    rw [s4, zOb, if_pos rfl, e8, zOb, e9, zOb]
    rw [s8, zOb, if_pos rfl]
    rw [zOb, e10, zOb, s5, zOb, if_pos rfl]
    rw [zOb, e11, zOb, e12, zOb, s11, zOb, if_pos rfl, ha]
    rfl
  · rw [decide_eq_false hL, if_neg (by simp), alive_f k (by omega)]
    rfl
end Go.Proofs.YtnjmnicgknggfaaDoor.G
