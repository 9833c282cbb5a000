/- Lemmas for the statement: the walks of the functions that it reaches, and plain laws. -/
import Derived.Test.YtnjmnicgknggfaaDoorDm2
import Derived.Test.YtnjmnicgknggfaaDoorDm1
set_option linter.unusedVariables false
set_option linter.unusedSimpArgs false
set_option maxHeartbeats 8000000
set_option maxRecDepth 100000
namespace Go.Proofs.YtnjmnicgknggfaaDoor.D
open Go Go.RowKit Go.Proofs.YtnjmnicgknggfaaDoorW.PrintWords Go.Proofs.YtnjmnicgknggfaaDoorW.PrintLast Go.Proofs.YtnjmnicgknggfaaDoorW.PrintMore
attribute [local go_sem] max2_int min2_int max_two min_two max_three min_three max_four min_four
open Go.Proofs.YtnjmnicgknggfaaDoorW.PrintWords.Kd renaming R_alloc → zRa, R_drewN → zRn, R_drew → zRd, V_alloc → zVa, V_drewN → zVn, V_drew → zVd, V_below → zVb, C_alloc → zCa, C_drewN → zCn, C_drew → zCd, R_mono → zRm, V_mono → zVm, at_int → zAi, R_elder' → zRe, R_lower → zRl, R_new' → zRw, R_lt → zRt, R_below → zRb, R_base → zRz, R_reads' → zRr, R_slice → zRs, V_elder' → zVe, V_lower → zVl, V_slice → zVs, V_reads' → zVr
open Go.Proofs.YtnjmnicgknggfaaDoorW.PrintWords renaming pw_below_drewN → zBn, below_alloc → zBa, below_drew1 → zBd, below_size → zBs, below_step → zBt, blk_drewN → zKn, blk_drew → zKd, blk_alloc → zKa, blk_below → zKb, blk_cell → zKc, blk_frozen → zKf
open List renaming setIfInBounds_toArray → zSa, set_cons_zero → zSb, set_cons_succ → zSc, length_drop → zLd, length_take → zLt, map_toArray → zMa, map_cons → zMc, map_nil → zMn, length_cons → zLc, length_nil → zLn
open Go.Proofs.YtnjmnicgknggfaaDoorW.PrintWords.Aside0 renaming mk → zMk
open Option renaming bind_eq_some_iff → zBi, bind_some → zOb
open Option.some renaming inj → zOi
open Int renaming toNat_natCast → zTn
theorem less_at_f (u p : List Int) (hu : Limbs u) (hp : Limbs p) (j n : Nat) (hj : j + n + 1 ≤ u.length) (hum : u.length < 35184372088832) (hpl : p.length ≤ n + 1) (hz : val (u.drop (j + n + 1)) = 0) (k : Nat) (hk : n + 2 ≤ k) :
  ∃ c u', n_less_at.f k u (j : Int) ((j + n + 1 : Nat) : Int) p = some (c, u') ∧ u'.length = u.length ∧ Limbs u' ∧ (c = 0 ∨ c = 1) ∧ val u' - c * Bp (j + n + 1) + Bp j * val p = val u ∧ val (u'.drop (j + n + 1)) = 0 := by
 obtain ⟨s, hs⟩ : ∃ s, s = (u.take (j + n + 1)).drop j := ⟨_, rfl⟩
 have hsl : s.length = n + 1 := by rw [hs, zLd, zLt]; omega
 have hsL : Limbs s := by rw [hs]; exact (hu.take _).drop _
 obtain ⟨d, rfl⟩ : ∃ d, k = d + (n + 1) + 1 := ⟨k - (n + 2), by omega⟩
 obtain ⟨s', c, h1, h2, h3, h4, h5⟩ := less_l0B p hp (n + 1) (by omega) d s hsl hsL
 rw [List.take_of_length_le hpl] at h5
 have hv1 : val u = val (u.take j) + Bp j * val s := by
  have g1 := val_splitB u (j + n + 1) hj
  rw [hz, Int.mul_zero, Int.add_zero] at g1
  have g2 := val_splitB (u.take (j + n + 1)) j (by rw [zLt]; omega)
  rw [List.take_take, Nat.min_eq_left (by omega), ← hs] at g2
  rw [g1, g2]
 have htl : (u.take j).length = j := by rw [zLt]; omega
 refine ⟨c, u.take j ++ (s' ++ u.drop (j + n + 1)), ?_, ?_, ?_, h4, ?_, ?_⟩
 ·unfold n_less_at.f
  rw [zTn, zTn, if_pos (by omega), if_pos hj, ← hs]
  unfold n_less.f
  rw [hsl, h1]
  rfl
 ·rw [List.length_append, List.length_append, htl, h2, zLd]; omega
 ·exact (hu.take _).append (h3.append (hu.drop _))
 ·rw [val_appendB, val_appendB, htl, hz, Int.mul_zero, Int.add_zero, hv1, show j + n + 1 = j + (n + 1) by omega, Bp_add]
  rw [← h5]
  grind
 ·rw [← List.append_assoc, List.drop_append_of_le_length (by rw [List.length_append, htl, h2]; omega), List.drop_of_length_le (by rw [List.length_append, htl, h2]; omega), List.nil_append, hz]
theorem back_l2 (Q v : List Int) (x9 g : Int) (n j L : Nat) (hv : Limbs v) (hn : v.length = n) (hj : j + n + 1 ≤ L) (hL : L < 35184372088832) (hQ : j < Q.length) (hQm : Q.length < 35184372088832) (W : Int) :
  ∀ (d i k : Nat) (X : List Int) (c : Int), i + d = n + 1 → X.length = L → Limbs X → (c = 0 ∨ c = 1) → Aside0 (val X + c * Bp (j + i) = W + Bp j * val (v.take i)) → Aside0 (val (X.drop (j + n + 1)) = 0) →
  ∃ X' c', n_DivMod.l2 (k + d + 1) Q x9 X v (n : Int) (j : Int) g c ((n + 1 : Nat) : Int) (i : Int) = n_DivMod.l0 k (Q.set j (g % 4294967296)) x9 X' v (n : Int) ((j : Int) - 1) ∧ X'.length = L ∧ Limbs X' ∧ (c' = 0 ∨ c' = 1) ∧ val X' + c' * Bp (j + n + 1) = W + Bp j * val v ∧ val (X'.drop (j + n + 1)) = 0 := by
 intro d
 induction d with
 | zero =>
  intro i k X c hi hX lX hc hT hz
  obtain rfl : i = n + 1 := by omega
  refine ⟨X, c, ?_, hX, lX, hc, ?_, hz.out⟩
  ·rw [n_DivMod.l2, if_neg (by omega), if_pos (by omega), if_pos (by omega), zTn, w64 (by omega) (by omega)]
  ·have h_ := hT.out
   rw [List.take_of_length_le (by omega)] at h_
   exact h_
 | succ d ih =>
  intro i k X c hi hX lX hc hT hz
  have e1 : Aside0 (wrap64 ((j : Int) + (i : Int)) = ((j + i : Nat) : Int)) := ⟨w64e (by omega) (by omega)⟩
  have e2 : Aside0 (wrap64 ((i : Int) + 1) = ((i + 1 : Nat) : Int)) := ⟨w64e (by omega) (by omega)⟩
  obtain ⟨s, c', e, d0, d1, hc', hd⟩ := add32_f (X.getD (j + i) 0) (v.getD i 0) c (lX.getD _) (hv.getD i) hc
  obtain ⟨X', c'', h1, h2, h3, h4, h5, h6⟩ := ih (i + 1) k (X.set (j + i) s) c' (by omega) (by rw [List.length_set]; exact hX) (lX.set _ d0 d1) hc' (by
    refine ⟨?_⟩
    rw [val_setB _ _ _ (by omega), val_take_succB v i, show j + (i + 1) = (j + i) + 1 by omega, Bp_succ, Bp_add]
    have h_ := hT.out
    rw [Bp_add] at h_
    generalize Bp j = P at *
    generalize Bp i = R at *
    generalize val (v.take i) = Z at *
    clear ih hT hz
    grind) ⟨by rw [List.drop_set, if_pos (by omega)]; exact hz.out⟩
  refine ⟨X', c'', ?_, h2, h3, h4, h5, h6⟩
  rw [show k + (d + 1) + 1 = (k + d + 1) + 1 by omega, n_DivMod.l2, if_pos (by omega)]
  by_cases hin : (i : Int) < (n : Int)
  ·rw [if_pos hin, if_pos (by omega), if_pos (by omega), e1.out, if_pos (by omega), if_pos (by omega), rd_nat, rd_nat, e, zOb, zTn, e2.out]
   exact h1
  ·rw [getD_ge v (by omega)] at e
   rw [if_neg hin, e1.out, if_pos (by omega), if_pos (by omega), rd_nat, e, zOb, zTn, e2.out]
   exact h1
theorem round_j3 (Q u v : List Int) (x9 : Int) (n j : Nat) (hv : Limbs v) (hu : Limbs u) (hn : v.length = n) (hj : j + n + 1 ≤ u.length) (hum : u.length < 35184372088832) (hQ : j < Q.length) (hQm : Q.length < 35184372088832) (hz : Aside0 (val (u.drop (j + n + 1)) = 0)) (hnm : n < 1000000)
  (qd g : Int) (hq0 : 0 ≤ qd) (hqg : qd ≤ g) (hgq : g ≤ qd + 1) (hg : g < 4294967296) (h0_ : 0 ≤ val u - Bp j * (val v * qd)) (h1_ : val u - Bp j * (val v * qd) < Bp j * val v) (k : Nat) (hk : 5 * n + 20 ≤ k) :
  ∃ u' k', n_DivMod.j3 k Q x9 u v (n : Int) (j : Int) g = n_DivMod.l0 k' (Q.set j qd) x9 u' v (n : Int) ((j : Int) - 1) ∧ u'.length = u.length ∧ Limbs u' ∧ val u' = val u - Bp j * (val v * qd) ∧ k ≤ k' + n + 4 := by
 have h01 : Aside0 (0 ≤ val u - Bp j * (val v * qd) ∧ val u - Bp j * (val v * qd) < Bp j * val v) := ⟨h0_, h1_⟩
 clear h0_ h1_
 obtain ⟨k, rfl⟩ : ∃ d, k = d + n + 4 := ⟨k - (n + 4), by omega⟩
 have e1 : Aside0 (wrap64 ((j : Int) + (n : Int)) = ((j + n : Nat) : Int)) := ⟨w64e (by omega) (by omega)⟩
 have e6 : Aside0 (wrap64 (((j + n : Nat) : Int) + 1) = ((j + n + 1 : Nat) : Int)) := ⟨w64e (by omega) (by omega)⟩
 have e7 : Aside0 (wrap64 ((n : Int) + 1) = ((n + 1 : Nat) : Int)) := ⟨w64e (by omega) (by omega)⟩
 obtain ⟨o, og, ogl, hof⟩ : ∃ o, IsNum o g ∧ o.length ≤ 2 ∧ n_Of.f g = some o := ⟨of2 g, of2_num g (by omega) (by omega), cut_length _, of_f g (by omega) (by omega)⟩
 have hmk : (o.length + 2) * v.length + 1 ≤ k + n + 3 := by
  have : (o.length + 2) * v.length ≤ 4 * n := Nat.mul_le_mul (by omega) (by omega)
  omega
 obtain ⟨p, f1, f2, f3⟩ := mul_f v o hv og.limbs (by omega) (k + n + 3) hmk
 clear hmk
 rw [og.eq] at f2
 have hpl : p.length ≤ n + 1 := by
  refine len_of_lt f2 ?_
  have hV0 := val_nonneg hv
  have hV1 := val_ltB hv
  rw [hn] at hV1
  have h5 : val v * g ≤ val v * 4294967296 := Int.mul_le_mul_of_nonneg_left (by omega) hV0
  rw [Bp_succ]
  omega
 obtain ⟨c, u1, a1, a2, a3, a4, a5, a6⟩ := less_at_f u p hu f2.limbs j n hj hum hpl hz.out (k + n + 3) (by omega)
 rw [f2.eq] at a5
 have A5 := zMk a5
 have A6 := zMk a6
 clear a5 a6
 have hj3 : n_DivMod.j3 (k + n + 4) Q x9 u v (n : Int) (j : Int) g = if c > 0 then n_DivMod.l2 (k + n + 3) Q x9 u1 v (n : Int) (j : Int) (IntKind.u64.wrap (g - 1)) 0 ((n + 1 : Nat) : Int) 0 else n_DivMod.l0 (k + n + 3) (Q.set j (g % 4294967296)) x9 u1 v (n : Int) ((j : Int) - 1) := by
  rw [show k + n + 4 = (k + n + 3) + 1 from rfl, n_DivMod.j3, hof, zOb, f1, zOb, if_pos (by omega), e1.out, e6.out, if_pos (by omega), if_pos (by omega), a1, zOb, e7.out, zTn, if_pos (show ((j : Int)) < (Q.length : Int) by omega), w64 (n:=(j : Int) - 1) (by omega) (by omega)]
 have bound : ∀ X : List Int, Limbs X → X.length = u.length → Aside0 (val (X.drop (j + n + 1)) = 0) → val X < Bp (j + n + 1) := by
  intro X hX hXl hXz
  have hmin : (X.take (j + n + 1)).length = j + n + 1 := by rw [zLt]; omega
  have g1 := val_splitB X (j + n + 1) (by omega)
  rw [hXz.out, Int.mul_zero, Int.add_zero] at g1
  have g2 := val_ltB (hX.take (j + n + 1))
  rw [hmin, ← g1] at g2
  exact g2
 have hV0 := val_nonneg hv
 have hu1 := val_nonneg a3
 have hPj := Int.le_of_lt (Bp_pos j)
 have hle : Bp j * (val v * qd) ≤ Bp j * (val v * g) := Int.mul_le_mul_of_nonneg_left (Int.mul_le_mul_of_nonneg_left hqg hV0) hPj
 have hsplit : Bp j * (val v * (qd + 1)) = Bp j * (val v * qd) + Bp j * val v := by rw [Int.mul_add, Int.mul_add, Int.mul_one]
 have hle2 : qd < g → Bp j * (val v * qd) + Bp j * val v ≤ Bp j * (val v * g) := fun hlt => by
  rw [← hsplit]
  exact Int.mul_le_mul_of_nonneg_left (Int.mul_le_mul_of_nonneg_left (by omega) hV0) hPj
 have HS := zMk hsplit
 have HL := zMk hle
 have HL2 := zMk hle2
 clear hsplit hle hle2
 rcases a4 with rfl | rfl
 ·have hgq2 : g = qd := by
   rcases Int.lt_or_le qd g with hlt | _
   ·exfalso
    have h1 := HL2.out hlt
    have h2 := A5.out
    rw [Int.zero_mul, Int.sub_zero] at h2
    obtain ⟨h3, h4⟩ := h01.out
    generalize Bp j * (val v * g) = a at *
    generalize Bp j * (val v * qd) = b at *
    generalize Bp j * val v = c at *
    omega
   ·omega
  refine ⟨u1, k + n + 3, ?_, a2, a3, ?_, by omega⟩
  ·rw [hj3, if_neg (by omega), show g % 4294967296 = g by omega, hgq2]
  ·have h2 := A5.out
   rw [Int.zero_mul, Int.sub_zero, hgq2] at h2
   generalize Bp j * (val v * qd) = b at *
   omega
 ·have hgq2 : g = qd + 1 := by
   rcases Int.lt_or_le qd g with hlt | _
   ·omega
   ·exfalso
    have hgq : g = qd := by omega
    have h2 := A5.out
    have h5 := bound u1 a3 a2 A6
    obtain ⟨h3, h4⟩ := h01.out
    rw [hgq, Int.one_mul] at h2
    generalize Bp j * (val v * qd) = b at *
    generalize Bp (j + n + 1) = d at *
    omega
  obtain ⟨X, c, b1, b2, b3, b4, b5, b6⟩ := back_l2 Q v x9 qd n j u.length hv hn hj hum hQ hQm (val u1) (n + 1) 0 (k + 1) u1 0 (by omega) a2 a3 (.inl rfl) ⟨by simp [val]⟩ A6
  have hX0 := val_nonneg b3
  have hX1 := bound X b3 b2 ⟨b6⟩
  have h2 := A5.out
  rw [hgq2, HS.out, Int.one_mul] at h2
  have h34 := h01.out
  have hres : val X = val u - Bp j * (val v * qd) := by
   obtain ⟨h3, h4⟩ := h34
   rcases b4 with rfl | rfl
   ·exfalso
    rw [Int.zero_mul] at b5
    generalize Bp j * (val v * qd) = b at *
    generalize Bp j * val v = c at *
    generalize Bp (j + n + 1) = d at *
    omega
   ·rw [Int.one_mul] at b5
    generalize Bp j * (val v * qd) = b at *
    generalize Bp j * val v = c at *
    generalize Bp (j + n + 1) = d at *
    omega
  clear h34 h2 hX1 b5 b6
  refine ⟨X, k + 1, ?_, b2, b3, hres, by omega⟩
  clear hres
  rw [hj3, if_pos (by omega), wraps_u64 (g - 1) (by omega) (by omega), show g - 1 = qd by omega]
  rw [show k + 1 + (n + 1) + 1 = k + n + 3 by omega, show ((0 : Nat) : Int) = 0 from rfl, show qd % 4294967296 = qd by omega] at b1
  exact b1
theorem lt_pow_drop {u : List Int} (hu : Limbs u) (N : Nat) (h : N ≤ u.length) (hv : val u < Bp N) : val (u.drop N) = 0 := by
 have h1 := val_splitB u N h
 have h2 := val_nonneg (hu.drop N)
 have h3 := val_nonneg (hu.take N)
 have hp := Bp_pos N
 rcases Int.lt_or_le 0 (val (u.drop N)) with h4 | h4
 ·have h5 : Bp N * 1 ≤ Bp N * val (u.drop N) := Int.mul_le_mul_of_nonneg_left (by omega) (Int.le_of_lt hp)
  rw [Int.mul_one] at h5
  rw [h1] at hv
  generalize Bp N * val (u.drop N) = z at *
  omega
 ·omega
theorem top_limbs (v : List Int) (hv : Limbs v) (p : Nat) (hn : v.length = p + 2) : (v.getD (p + 1) 0 * 4294967296 + v.getD p 0) * Bp p ≤ val v ∧ val v ≤ (v.getD (p + 1) 0 * 4294967296 + v.getD p 0 + 1) * Bp p := by
 have h1 := val_take_succB v (p + 1)
 have h2 := val_take_succB v p
 rw [show p + 1 + 1 = v.length by omega, List.take_length, h2, Bp_succ] at h1
 have h3 := val_nonneg (hv.take p)
 have h4 := val_ltB (hv.take p)
 rw [zLt, Nat.min_eq_left (by omega)] at h4
 have e : Bp p * 4294967296 * v.getD (p + 1) 0 = v.getD (p + 1) 0 * 4294967296 * Bp p := by grind
 have e2 : Bp p * v.getD p 0 = v.getD p 0 * Bp p := Int.mul_comm _ _
 rw [e, e2] at h1
 rw [Int.add_mul, Int.add_mul (v.getD (p + 1) 0 * 4294967296 + v.getD p 0), Int.add_mul, Int.one_mul]
 generalize v.getD (p + 1) 0 * 4294967296 * Bp p = x at *
 generalize v.getD p 0 * Bp p = y at *
 omega
theorem top_three (u : List Int) (hu : Limbs u) (q : Nat) (hq : q + 3 ≤ u.length) (hz : val (u.drop (q + 3)) = 0) : ((u.getD (q + 2) 0 * 4294967296 + u.getD (q + 1) 0) * 4294967296 + u.getD q 0) * Bp q ≤ val u ∧ val u < ((u.getD (q + 2) 0 * 4294967296 + u.getD (q + 1) 0) * 4294967296 + u.getD q 0 + 1) * Bp q := by
 have h0 := val_splitB u (q + 3) hq
 rw [hz, Int.mul_zero, Int.add_zero] at h0
 have h1 := val_take_succB u (q + 2)
 have h2 := val_take_succB u (q + 1)
 have h3 := val_take_succB u q
 rw [← h0, h2, h3, show q + 2 = q + 1 + 1 from rfl, Bp_succ (q + 1), Bp_succ q] at h1
 have h4 := val_nonneg (hu.take q)
 have h5 := val_ltB (hu.take q)
 rw [zLt, Nat.min_eq_left (by omega)] at h5
 have e : val (u.take q) + Bp q * u.getD q 0 + Bp q * 4294967296 * u.getD (q + 1) 0 + Bp q * 4294967296 * 4294967296 * u.getD (q + 1 + 1) 0 = val (u.take q) + ((u.getD (q + 1 + 1) 0 * 4294967296 + u.getD (q + 1) 0) * 4294967296 + u.getD q 0) * Bp q := by grind
 rw [e] at h1
 rw [show q + 2 = q + 1 + 1 from rfl, Int.add_mul ((u.getD (q + 1 + 1) 0 * 4294967296 + u.getD (q + 1) 0) * 4294967296 + u.getD q 0) 1, Int.one_mul]
 generalize ((u.getD (q + 1 + 1) 0 * 4294967296 + u.getD (q + 1) 0) * 4294967296 + u.getD q 0) * Bp q = x at *
 omega
theorem guess_facts (vt v2 T V S head u2 : Int) (hT : 0 < T) (hvt : 2147483648 ≤ vt) (hvt2 : vt < 4294967296) (hv2 : 0 ≤ v2) (hv22 : v2 < 4294967296) (hu2 : 0 ≤ u2) (hu22 : u2 < 4294967296) (hh0 : 0 ≤ head)
  (hV : (vt * 4294967296 + v2) * T ≤ V) (hV2 : V ≤ (vt * 4294967296 + v2 + 1) * T) (hS : (head * 4294967296 + u2) * T ≤ S) (hS2 : S < (head * 4294967296 + u2 + 1) * T) (hSV : S < 4294967296 * V) :
  0 < V ∧ 0 ≤ S / V ∧ S / V < 4294967296 ∧ head < 4294967296 * vt + 4294967296 ∧ head / vt < 4294967298 ∧ S / V ≤ head / vt ∧
  (∀ g r, 0 ≤ g → g * vt + r = head → g * v2 > r * 4294967296 + u2 → S / V < g) ∧
  (∀ g r, 0 ≤ g → g < 4294967296 → g * vt + r = head → (g * v2 ≤ r * 4294967296 + u2 ∨ 4294967296 ≤ r) → g ≤ S / V + 1) := by
 have hV0 : 0 < V := by
  have h1 : 1 * T ≤ (vt * 4294967296 + v2) * T := Int.mul_le_mul_of_nonneg_right (by omega) (by omega)
  rw [Int.one_mul] at h1
  omega
 have hS0 : 0 ≤ S := by
  have h1 : 0 ≤ (head * 4294967296 + u2) * T := Int.mul_nonneg (by omega) (by omega)
  omega
 have hhd : head < 4294967296 * vt + 4294967296 := by
  have h1 : 4294967296 * V ≤ 4294967296 * ((vt * 4294967296 + v2 + 1) * T) := Int.mul_le_mul_of_nonneg_left hV2 (by omega)
  rw [← Int.mul_assoc] at h1
  have h2 : (head * 4294967296 + u2) * T < 4294967296 * (vt * 4294967296 + v2 + 1) * T := by omega
  have h3 := Int.lt_of_mul_lt_mul_right h2 (by omega)
  omega
 have hle : S / V * V ≤ S := Int.ediv_mul_le _ (by omega)
 refine ⟨hV0, Int.ediv_nonneg hS0 (by omega), Int.ediv_lt_of_lt_mul hV0 hSV, hhd, Int.ediv_lt_of_lt_mul (by omega) (by omega), ?_, ?_, ?_⟩
 ·refine Int.le_ediv_of_mul_le (by omega) ?_
  have hq : 0 ≤ S / V := Int.ediv_nonneg hS0 (by omega)
  generalize S / V = q at *
  have h1 : q * ((vt * 4294967296 + v2) * T) ≤ q * V := Int.mul_le_mul_of_nonneg_left hV hq
  have h2 : q * (vt * 4294967296 * T) ≤ q * ((vt * 4294967296 + v2) * T) := Int.mul_le_mul_of_nonneg_left (Int.mul_le_mul_of_nonneg_right (by omega) (by omega)) hq
  have h3 : q * (vt * 4294967296 * T) = (q * vt * 4294967296) * T := by grind
  have h4 : (q * vt * 4294967296) * T < (head * 4294967296 + u2 + 1) * T := by omega
  have h5 := Int.lt_of_mul_lt_mul_right h4 (by omega)
  omega
 ·intro g r hg hh hc
  refine Int.ediv_lt_of_lt_mul hV0 ?_
  exact knuth_lower vt v2 T V S head u2 g r hT hV hS2 hg hh hc
 ·intro g r hg hg2 hh hc
  rcases hc with hc | hc
  ·have := Int.le_ediv_of_mul_le hV0 (knuth_upper vt v2 T V S head u2 g r hT (by omega) hv2 hV hV2 hS hg hg2 hh hc)
   omega
  ·have := Int.le_ediv_of_mul_le hV0 (knuth_break vt v2 T V S head u2 g r hT hv22 hu2 hV2 hS hg hg2 hh hc)
   omega
theorem outer_l0 (v : List Int) (hv : Limbs v) (n p : Nat) (hn : v.length = n) (hp : n = p + 2) (hnm : n < 1000000) (x9 : Int) (hvt : 2147483648 ≤ v.getD (n - 1) 0) (A : Int) (L qn : Nat) (hLq : L = qn + n) (hL : L < 10000000) :
  ∀ (m k : Nat) (Q u : List Int), m ≤ qn → Q.length = qn → u.length = L → Limbs Q → Limbs u → Aside0 (val u < Bp m * val v) → (∀ i, i < m → Q.getD i 0 = 0) → Aside0 (val u + val v * val Q = A) → m * (n + 12) + 5 * n + 30 ≤ k →
  ∃ Q' u' k', n_DivMod.l0 k Q x9 u v (n : Int) ((m : Int) - 1) = n_DivMod.l0 k' Q' x9 u' v (n : Int) (-1) ∧ Limbs Q' ∧ Q'.length = qn ∧ Limbs u' ∧ u'.length = L ∧ Aside0 (val u' < val v) ∧ Aside0 (val u' + val v * val Q' = A) ∧ 5 * n + 30 ≤ k' := by
 intro m
 induction m with
 | zero =>
  intro k Q u _ hQ hu lQ lu h1 _ h2 hk
  refine ⟨Q, u, k, rfl, lQ, hQ, lu, hu, ⟨?_⟩, h2, by omega⟩
  have := h1.out
  rw [Bp_zero, Int.one_mul] at this
  exact this
 | succ m ih =>
  intro k Q u hm hQ hu lQ lu h1 hz h2 hk
  rw [Nat.add_mul, Nat.one_mul] at hk
  obtain ⟨k, rfl⟩ : ∃ d, k = d + 1 := ⟨k - 1, by omega⟩
  have e1 : Aside0 (wrap64 ((m : Int) + (n : Int)) = ((m + n : Nat) : Int)) := ⟨w64e (by omega) (by omega)⟩
  have e2 : Aside0 (wrap64 (((m + n : Nat) : Int) - 1) = ((m + n - 1 : Nat) : Int)) := ⟨w64e (by omega) (by omega)⟩
  have e3 : Aside0 (wrap64 ((n : Int) - 1) = ((n - 1 : Nat) : Int)) := ⟨w64e (by omega) (by omega)⟩
  have HZ : Aside0 (val (u.drop (m + n + 1)) = 0) := ⟨lt_pow_drop lu (m + n + 1) (by omega) (by
   have h3 := h1.out
   have h4 := val_ltB hv
   rw [hn] at h4
   have h5 : Bp (m + 1) * val v < Bp (m + 1) * Bp n := Int.mul_lt_mul_of_pos_left h4 (Bp_pos _)
   rw [← Bp_add, show m + 1 + n = m + n + 1 by omega] at h5
   exact Int.lt_trans h3 h5)⟩
  have bvt := hv.getD (n - 1)
  have bv2 := hv.getD (n - 2)
  have bhi := lu.getD (m + n)
  have blo := lu.getD (m + n - 1)
  have bu2 := lu.getD (m + n - 2)
  obtain ⟨head, hhead⟩ : ∃ head, u.getD (m + n) 0 * 4294967296 + u.getD (m + n - 1) 0 = head := ⟨_, rfl⟩
  have hh0 : 0 ≤ head := by omega
  have HV := top_limbs v hv p (by omega)
  have HU := top_three u lu (m + p) (by omega) (by rw [show m + p + 3 = m + n + 1 by omega]; exact HZ.out)
  rw [show p + 1 = n - 1 by omega] at HV
  rw [show m + p + 2 = m + n by omega, show m + p + 1 = m + n - 1 by omega, hhead, Bp_add] at HU
  have HU2 := zMk HU
  have HV2 := zMk HV
  have hpm := Bp_pos m
  have hpp := Bp_pos p
  clear HU HV
  have GF := guess_facts (v.getD (n - 1) 0) (v.getD (n - 2) 0) (Bp m * Bp p) (Bp m * val v) (val u) head (u.getD (m + n - 2) 0) (Int.mul_pos hpm hpp) hvt bvt.2 bv2.1 bv2.2 bu2.1 bu2.2 hh0
   (by
    have h3 := Int.mul_le_mul_of_nonneg_left HV2.out.1 (Int.le_of_lt hpm)
    rw [show p = n - 2 by omega] at h3 ⊢
    rw [show Bp m * ((v.getD (n - 1) 0 * 4294967296 + v.getD (n - 2) 0) * Bp (n - 2)) = (v.getD (n - 1) 0 * 4294967296 + v.getD (n - 2) 0) * (Bp m * Bp (n - 2)) by grind] at h3
    exact h3)
   (by
    have h3 := Int.mul_le_mul_of_nonneg_left HV2.out.2 (Int.le_of_lt hpm)
    rw [show p = n - 2 by omega] at h3 ⊢
    rw [show Bp m * ((v.getD (n - 1) 0 * 4294967296 + v.getD (n - 2) 0 + 1) * Bp (n - 2)) = (v.getD (n - 1) 0 * 4294967296 + v.getD (n - 2) 0 + 1) * (Bp m * Bp (n - 2)) by grind] at h3
    exact h3)
   (by rw [show m + n - 2 = m + p by omega]; exact HU2.out.1)
   (by rw [show m + n - 2 = m + p by omega]; exact HU2.out.2)
   (by
    have h3 := h1.out
    rw [Bp_succ, Int.mul_comm (Bp m), Int.mul_assoc] at h3
    exact h3)
  obtain ⟨g1, g2, g3, g4, g5, g6, g7, g8⟩ := GF
  have hmod := Int.emod_add_mul_ediv (val u) (Bp m * val v)
  have hm0 := Int.emod_nonneg (val u) (show Bp m * val v ≠ 0 from Int.ne_of_gt g1)
  have hm1 := Int.emod_lt_of_pos (val u) g1
  have H01 : Aside0 (0 ≤ val u - Bp m * (val v * (val u / (Bp m * val v))) ∧ val u - Bp m * (val v * (val u / (Bp m * val v))) < Bp m * val v) := ⟨by
   rw [← Int.mul_assoc]
   generalize Bp m * val v * (val u / (Bp m * val v)) = x at *
   generalize Bp m * val v = y at *
   omega⟩
  clear hmod hm0 hm1 g1
  obtain ⟨qd, hqd⟩ : ∃ qd, val u / (Bp m * val v) = qd := ⟨_, rfl⟩
  rw [hqd] at g2 g3 g6 g7 g8 H01
  clear hqd
  have hr0 := Int.emod_nonneg head (show v.getD (n - 1) 0 ≠ 0 by omega)
  have hr1 := Int.emod_lt_of_pos head (show 0 < v.getD (n - 1) 0 by omega)
  have hgr : head / v.getD (n - 1) 0 * v.getD (n - 1) 0 + head % v.getD (n - 1) 0 = head := by have := Int.emod_add_mul_ediv head (v.getD (n - 1) 0); rw [Int.mul_comm] at this; omega
  have hg0 : 0 ≤ head / v.getD (n - 1) 0 := Int.ediv_nonneg hh0 (by omega)
  obtain ⟨g', k2, c1, c2, c3, c4, r', c5, c6⟩ := guess_l1 Q u v x9 n m hv lu hn (by omega) (by omega) (by omega) qd head g2 g3 hvt g7 g4 2 k (head / v.getD (n - 1) 0) (head % v.getD (n - 1) 0) g5 hgr g6 hr0 (by omega) (by omega) (by omega)
  obtain ⟨u', k3, d1, d2, d3, d4, d5⟩ := round_j3 Q u v x9 n m hv lu hn (by omega) (by omega) (by omega) (by omega) HZ hnm qd g' g2 c2 (g8 g' r' (by omega) c3 c5 c6) c3 H01.out.1 H01.out.2 k2 (by omega)
  have hlast : Aside0 (val u' < Bp m * val v) := ⟨by rw [d4]; exact H01.out.2⟩
  have hA : Aside0 (val u' + val v * val (Q.set m qd) = A) := ⟨by
   have h3 := h2.out
   rw [d4, val_setB _ _ _ (by omega), hz m (by omega), ← h3]
   grind⟩
  clear d4 H01 HU2 HV2
  obtain ⟨Q', u'', k', f1, f2, f3, f4, f5, f6, f7, f8⟩ := ih k3 (Q.set m qd) u' (by omega) (by rw [List.length_set]; exact hQ) (by omega) (lQ.set _ g2 g3) d3 hlast (fun i hi => by rw [getD_set_ne _ _ (by omega)]; exact hz i (by omega)) hA (by omega)
  refine ⟨Q', u'', k', ?_, f2, f3, f4, f5, f6, f7, f8⟩
  rw [show ((m + 1 : Nat) : Int) - 1 = (m : Int) by omega, n_DivMod.l0, if_pos (by omega), e1.out, if_pos (by omega), if_pos (by omega), e2.out, if_pos (by omega), if_pos (by omega), e3.out, if_pos (by omega), if_pos (by omega), rd_nat, rd_nat, rd_nat, wraps_u64 (v.getD (n - 1) 0) (by omega) (by omega), if_neg (by omega), wraps_u64 (u.getD (m + n) 0) (by omega) (by omega), or64 _ _ bhi blo, hhead]
  rw [Int.tdiv_eq_ediv_of_nonneg hh0, Int.tmod_eq_emod_of_nonneg hh0, wraps_u64 (head / v.getD (n - 1) 0) (by omega) (by omega), c1, d1]
  exact f1
theorem shr64 (x : Int) (s : Nat) (hs : s ≤ 31) : shr .u64 x (s : Int) = x / 2 ^ s := by
 unfold shr
 rw [show min ((s : Int)).toNat (IntKind.bits .u64) = s from by rw [zTn]; exact Nat.min_eq_left (Nat.le_trans hs (by decide))]
theorem mod_next (x a b : Int) (ha : 0 ≤ a) : x % (a * b) = x % a + a * (x / a % b) := by
 rw [Int.emod_def x (a * b), ← Int.ediv_ediv_of_nonneg ha, Int.emod_def x a, Int.emod_def (x / a) b, Int.mul_sub, Int.mul_assoc]
 generalize a * (b * (x / a / b)) = z
 omega
theorem digit_shift (u : List Int) (hu : Limbs u) (i : Nat) (hi : i + 1 < u.length) (s : Nat) (hs : s ≤ 31) : val u / 2 ^ s / Bp i % 4294967296 = (u.getD (i + 1) 0 * 4294967296 + u.getD i 0) / 2 ^ s % 4294967296 := by
 have hP : (0 : Int) < 2 ^ s := Int.pow_pos (by decide)
 have h1 := val_splitB u i (by omega)
 have h2 : u.drop i = u.getD i 0 :: u.getD (i + 1) 0 :: u.drop (i + 2) := by rw [List.drop_eq_getElem_cons (by omega), List.drop_eq_getElem_cons (by omega), getD_lt _ (by omega), getD_lt _ (by omega)]
 rw [h2] at h1
 simp only [val] at h1
 have h3 := val_nonneg (hu.take i)
 have h4 := val_ltB (hu.take i)
 rw [zLt, Nat.min_eq_left (by omega)] at h4
 rw [Int.ediv_ediv_of_nonneg (Int.le_of_lt hP), Int.mul_comm (2 ^ s) (Bp i), ← Int.ediv_ediv_of_nonneg (Int.le_of_lt (Bp_pos i))]
 have h5 : val u / Bp i = u.getD i 0 + 4294967296 * (u.getD (i + 1) 0 + 4294967296 * val (u.drop (i + 2))) := by
  rw [h1, Int.add_mul_ediv_left _ _ (Int.ne_of_gt (Bp_pos i)), Int.ediv_eq_zero_of_lt h3 h4, Int.zero_add]
 rw [h5]
 have hB : (4294967296 : Int) = 2 ^ s * 2 ^ (32 - s) := by rw [← Int.pow_add, show s + (32 - s) = 32 by omega]; rfl
 have h6 : u.getD i 0 + 4294967296 * (u.getD (i + 1) 0 + 4294967296 * val (u.drop (i + 2))) = (u.getD (i + 1) 0 * 4294967296 + u.getD i 0) + 2 ^ s * (2 ^ (32 - s) * 4294967296 * val (u.drop (i + 2))) := by
  rw [← Int.mul_assoc (2 ^ s), ← Int.mul_assoc (2 ^ s), ← hB]
  generalize val (u.drop (i + 2)) = z
  omega
 rw [h6, Int.add_mul_ediv_left _ _ (Int.ne_of_gt hP), Int.mul_comm (2 ^ (32 - s)) 4294967296, Int.mul_assoc, Int.add_mul_emod_self_left]
theorem l3_f (Q u : List Int) (hu : Limbs u) (n s : Nat) (hs : s ≤ 31) (hun : n < u.length) (hum : u.length < 35184372088832) :
  ∀ (d i k : Nat) (O : List Int), i + d = n → O.length = n → Limbs O → Aside0 (val O = val u / 2 ^ s % Bp i) → (∀ t, i ≤ t → O.getD t 0 = 0) → d + 1 ≤ k →
  ∃ r, n_DivMod.l3 k Q (s : Int) u O (n : Int) (i : Int) = some (cut Q, r, 0) ∧ IsNum r (val u / 2 ^ s % Bp n) := by
 intro d
 induction d with
 | zero =>
  intro i k O hi hO lO hv hz hk
  obtain ⟨k, rfl⟩ : ∃ e, k = e + 1 := ⟨k - 1, by omega⟩
  obtain rfl : i = n := by omega
  refine ⟨cut O, ?_, ?_⟩
  ·rw [n_DivMod.l3, if_neg (by omega), cut_f, zOb, cut_f, zOb]
  ·have := IsNum.cut lO
   rw [hv.out] at this
   exact this
 | succ d ih =>
  intro i k O hi hO lO hv hz hk
  obtain ⟨k, rfl⟩ : ∃ e, k = e + 1 := ⟨k - 1, by omega⟩
  have e1 : Aside0 (wrap64 ((i : Int) + 1) = ((i + 1 : Nat) : Int)) := ⟨w64e (by omega) (by omega)⟩
  have bhi := hu.getD (i + 1)
  have blo := hu.getD i
  obtain ⟨dg, hdg⟩ : ∃ dg, (u.getD (i + 1) 0 * 4294967296 + u.getD i 0) / 2 ^ s % 4294967296 = dg := ⟨_, rfl⟩
  have hds := digit_shift u hu i (by omega) s hs
  rw [hdg] at hds
  have hdg0 : 0 ≤ dg ∧ dg < 4294967296 := by
   rw [← hdg]
   generalize (u.getD (i + 1) 0 * 4294967296 + u.getD i 0) / 2 ^ s = z
   omega
  obtain ⟨r, h1, h2⟩ := ih (i + 1) k (O.set i dg) (by omega) (by rw [List.length_set]; exact hO) (lO.set _ hdg0.1 hdg0.2) ⟨by
    rw [val_setB _ _ _ (by omega), hz i (Nat.le_refl _), hv.out, Bp_succ, mod_next _ _ _ (Int.le_of_lt (Bp_pos i)), hds, Int.sub_zero]⟩ (fun t ht => by rw [getD_set_ne _ _ (by omega)]; exact hz t (by omega)) (by omega)
  refine ⟨r, ?_, h2⟩
  clear hds hv
  rw [n_DivMod.l3, if_pos (by omega), e1.out, if_pos (by omega), if_pos (by omega), if_pos (by omega), if_pos (by omega), if_pos (by omega), if_pos (by omega), rd_nat, rd_nat, wraps_u64 (u.getD (i + 1) 0) (by omega) (by omega), or64 _ _ bhi blo, shr64 _ s hs, hdg, zTn]
  exact h1
theorem knuth_f (a b : List Int) (ha : Limbs a) (hb : Limbs b) (tb : Trim b) (n p : Nat) (hn : b.length = n) (hp : n = p + 2) (hab : val b ≤ val a) (la : a.length ≤ 600) (hlen : n ≤ a.length) (k : Nat) (hk : 500000 ≤ k) :
  ∃ t172 t173 t176, bits_LeadingZeros32.f (b.getD (n - 1) 0) = some t172 ∧ n_shift.f k a (IntKind.u64.wrap t172) = some t173 ∧ n_shift.f k b (IntKind.u64.wrap t172) = some t176 ∧ t173.length = a.length + 1 ∧ (cut t176).length = n ∧
  ∃ q r, n_DivMod.l0 k (List.replicate (a.length + 1 - n) 0) (IntKind.u64.wrap t172) t173 (cut t176) (n : Int) (((a.length + 1 - n : Nat) : Int) - 1) = some (q, r, 0) ∧ IsNum q (val a / val b) ∧ IsNum r (val a % val b) := by
 have htop : b.getD (n - 1) 0 ≠ 0 := by
  rcases tb with h | h
  ·rw [h] at hn; simp at hn; omega
  ·rw [hn] at h; exact h
 have bt := hb.getD (n - 1)
 obtain ⟨s, s1, s2, s3, s4⟩ := lz_f (b.getD (n - 1) 0) (by omega) bt.2
 have hsw : IntKind.u64.wrap (s : Int) = (s : Int) := wraps_u64 _ (by omega) (by omega)
 have hP : (0 : Int) < 2 ^ s := Int.pow_pos (by decide)
 have hP31 := (pow_le31 s s2).2
 obtain ⟨u, u1, u2, u3, u4⟩ := shift_f a ha (by omega) s s2 k (by omega)
 obtain ⟨w, w1, w2, w3, w4⟩ := shift_f b hb (by omega) s s2 k (by omega)
 have hv := IsNum.cut w2
 rw [w4] at hv
 obtain ⟨v, hvd⟩ : ∃ v, cut w = v := ⟨_, rfl⟩
 rw [hvd] at hv
 -- the top limb of b, shifted
 have hb1 := val_take_succB b (n - 1)
 rw [show n - 1 + 1 = b.length by omega, List.take_length] at hb1
 have hb2 := val_nonneg (hb.take (n - 1))
 have hb3 := val_ltB (hb.take (n - 1))
 rw [zLt, Nat.min_eq_left (by omega)] at hb3
 have hBp := Bp_pos (n - 1)
 have hvlo : 2147483648 * Bp (n - 1) ≤ val v := by
  rw [hv.eq, hb1, Int.add_mul, Int.mul_assoc]
  have h1 : 2147483648 * Bp (n - 1) ≤ b.getD (n - 1) 0 * 2 ^ s * Bp (n - 1) := Int.mul_le_mul_of_nonneg_right s3 (Int.le_of_lt hBp)
  have h2 : 0 ≤ val (b.take (n - 1)) * 2 ^ s := Int.mul_nonneg hb2 (Int.le_of_lt hP)
  rw [Int.mul_comm (b.getD (n - 1) 0 * 2 ^ s)] at h1
  generalize Bp (n - 1) * (b.getD (n - 1) 0 * 2 ^ s) = x at *
  omega
 have hvhi : val v < Bp n := by
  rw [hv.eq, show Bp n = Bp (n - 1) * 4294967296 from by rw [← Bp_succ, show n - 1 + 1 = n by omega]]
  have h1 : val b < Bp (n - 1) * (b.getD (n - 1) 0 + 1) := by rw [Int.mul_add, Int.mul_one]; omega
  have h2 : val b * 2 ^ s < Bp (n - 1) * (b.getD (n - 1) 0 + 1) * 2 ^ s := Int.mul_lt_mul_of_pos_right h1 hP
  have h3 : (b.getD (n - 1) 0 + 1) * 2 ^ s ≤ 4294967296 := by
   have hB : (4294967296 : Int) = 2 ^ s * 2 ^ (32 - s) := by rw [← Int.pow_add, show s + (32 - s) = 32 by omega]; rfl
   have h9 : 2 ^ s * b.getD (n - 1) 0 < 2 ^ s * 2 ^ (32 - s) := by rw [← hB, Int.mul_comm]; exact s4
   have h8 := Int.lt_of_mul_lt_mul_left h9 (Int.le_of_lt hP)
   have h7 : 2 ^ s * (b.getD (n - 1) 0 + 1) ≤ 2 ^ s * 2 ^ (32 - s) := Int.mul_le_mul_of_nonneg_left (by omega) (Int.le_of_lt hP)
   rw [← hB, Int.mul_comm] at h7
   exact h7
  have h4 : Bp (n - 1) * ((b.getD (n - 1) 0 + 1) * 2 ^ s) ≤ Bp (n - 1) * 4294967296 := Int.mul_le_mul_of_nonneg_left h3 (Int.le_of_lt hBp)
  rw [Int.mul_assoc] at h2
  exact Int.lt_of_lt_of_le h2 h4
 have hvl : v.length = n := by
  have h1 := len_of_lt hv (m:=n) (by rw [← hv.eq]; exact hvhi)
  rcases Nat.lt_or_ge v.length n with h2 | h2
  ·have h3 := val_ltB hv.limbs
   have h4 : Bp v.length ≤ Bp (n - 1) := pow_upB (by omega)
   omega
  ·omega
 have hvt : 2147483648 ≤ v.getD (n - 1) 0 := by
  have g1 := val_take_succB v (n - 1)
  rw [show n - 1 + 1 = v.length by omega, List.take_length] at g1
  have g3 := val_ltB (hv.limbs.take (n - 1))
  rw [zLt, Nat.min_eq_left (by omega)] at g3
  rcases Int.lt_or_le (v.getD (n - 1) 0) 2147483648 with h | h
  ·have h1 : Bp (n - 1) * (v.getD (n - 1) 0 + 1) ≤ Bp (n - 1) * 2147483648 := Int.mul_le_mul_of_nonneg_left (by omega) (Int.le_of_lt hBp)
   rw [Int.mul_add, Int.mul_one, Int.mul_comm _ 2147483648] at h1
   generalize Bp (n - 1) * v.getD (n - 1) 0 = x at *
   omega
  ·exact h
 -- the dividend lies below the divisor's shifted value
 have hua : Aside0 (val u < Bp (a.length + 1 - n) * val v) := ⟨by
  have h1 : val u < Bp a.length * 2 ^ s := by rw [u4]; exact Int.mul_lt_mul_of_pos_right (val_ltB ha) hP
  have h2 : Bp a.length * 2 ^ s ≤ Bp a.length * 2147483648 := Int.mul_le_mul_of_nonneg_left hP31 (Int.le_of_lt (Bp_pos _))
  have h3 : Bp (a.length + 1 - n) * (2147483648 * Bp (n - 1)) ≤ Bp (a.length + 1 - n) * val v := Int.mul_le_mul_of_nonneg_left hvlo (Int.le_of_lt (Bp_pos _))
  have h4 : Bp (a.length + 1 - n) * (2147483648 * Bp (n - 1)) = Bp a.length * 2147483648 := by
   rw [Int.mul_comm 2147483648, ← Int.mul_assoc, ← Bp_add, show a.length + 1 - n + (n - 1) = a.length by omega]
  omega⟩
 have hfu : (a.length + 1 - n) * (n + 12) + 5 * n + 30 ≤ k := by
  have : (a.length + 1 - n) * (n + 12) ≤ 601 * 612 := Nat.mul_le_mul (by omega) (by omega)
  omega
 obtain ⟨Q', u', k', f1, f2, f3, f4, f5, f6, f7, f8⟩ := outer_l0 v hv.limbs n p hvl hp (by omega) (s : Int) hvt (val a * 2 ^ s) (a.length + 1) (a.length + 1 - n) (by omega) (by omega) (a.length + 1 - n) k (List.replicate (a.length + 1 - n) 0) u (Nat.le_refl _) (by simp) u3 (limbs_replicate _) u2 hua (fun i _ => zeros_getD _ i) ⟨by rw [val_replicate, u4, Int.mul_zero, Int.add_zero]⟩ hfu
 have hu0 := val_nonneg f4
 have h6 := f6.out
 have h7 := f7.out
 rw [hv.eq] at h6 h7
 have hvp : 0 < val b * 2 ^ s := by rw [← hv.eq]; have : 0 < 2147483648 * Bp (n - 1) := Int.mul_pos (by decide) hBp; omega
 have hq : val Q' = val a / val b := by
  have h1 : val a * 2 ^ s / (val b * 2 ^ s) = val Q' := by
   rw [← h7, Int.add_mul_ediv_left _ _ (Int.ne_of_gt hvp), Int.ediv_eq_zero_of_lt hu0 h6, Int.zero_add]
  rw [← h1, Int.mul_comm (val a), Int.mul_comm (val b), Int.mul_ediv_mul_of_pos _ _ hP]
 have hr : val u' = 2 ^ s * (val a % val b) := by
  have h1 : val a * 2 ^ s % (val b * 2 ^ s) = val u' := by
   rw [← h7, Int.add_mul_emod_self_left, Int.emod_eq_of_lt hu0 h6]
  rw [← h1, Int.mul_comm (val a), Int.mul_comm (val b), Int.mul_emod_mul_of_pos _ _ hP]
 obtain ⟨k'', rfl⟩ : ∃ d, k' = d + 1 := ⟨k' - 1, by omega⟩
 obtain ⟨r, r1, r2⟩ := l3_f Q' u' f4 n s s2 (by omega) (by omega) n 0 k'' (List.replicate n 0) (by omega) (by simp) (limbs_replicate _) ⟨by rw [val_replicate, Bp_zero]; omega⟩ (fun t _ => zeros_getD _ t) (by omega)
 have hvb : 0 < val b := val_pos hb tb (fun h => by rw [h] at hn; simp at hn; omega)
 rw [hr, Int.mul_ediv_cancel_left _ (Int.ne_of_gt hP)] at r2
 have hrl : val a % val b < Bp n := by
  have h1 := Int.emod_lt_of_pos (val a) hvb
  have h2 := val_ltB hb
  rw [hn] at h2
  omega
 rw [Int.emod_eq_of_lt (Int.emod_nonneg _ (Int.ne_of_gt hvb)) hrl] at r2
 refine ⟨s, u, w, s1, by rw [hsw]; exact u1, by rw [hsw]; exact w1, u3, by rw [hvd]; exact hvl, cut Q', r, ?_, ?_, r2⟩
 ·rw [hsw, hvd, f1, n_DivMod.l0, if_neg (by omega), if_pos (by omega), zTn, if_pos (by omega)]
  exact r1
 ·rw [← hq]
  exact IsNum.cut f2
theorem divmod_f (a b : List Int) (ha : Limbs a) (hb : Limbs b) (la : a.length ≤ 600) (lb : b.length ≤ 600) (k : Nat) (hk : 500000 ≤ k) :
  (val b = 0 ∧ n_DivMod.f k a b = some ([], [], 15)) ∨ (0 < val b ∧ ∃ q r, n_DivMod.f k a b = some (q, r, 0) ∧ IsNum q (val a / val b) ∧ IsNum r (val a % val b)) := by
 have ca := cut_length a
 have cb := cut_length b
 have va := val_nonneg ha
 have vb := val_nonneg hb
 unfold n_DivMod.f
 rw [cut_f, zOb, cut_f, zOb]
 by_cases h0 : ((cut b).length : Int) = 0
 ·refine .inl ⟨?_, by rw [if_pos h0]⟩
  have h1 : cut b = [] := List.eq_nil_of_length_eq_zero (by omega)
  rw [← cut_val b, h1]
  rfl
 ·have hne : cut b ≠ [] := fun h => h0 (by rw [h]; rfl)
  have hbp : 0 < val b := by have := val_pos (cut_limbs hb) (cut_trim b) hne; rw [cut_val] at this; exact this
  refine .inr ⟨hbp, ?_⟩
  rw [if_neg h0, cmp_f _ _ (cut_limbs ha) (cut_limbs hb), zOb, cut_val, cut_val]
  by_cases hlt : val a < val b
  ·have hc : cmpI (val a) (val b) < 0 := by unfold cmpI; rw [if_pos hlt]; decide
   rw [if_pos hc, nnorm_f (cut a) (by omega), zOb]
   refine ⟨[], cut (cut a), rfl, ?_, ?_⟩
   ·rw [Int.ediv_eq_zero_of_lt va hlt]
    exact IsNum.nil
   ·rw [Int.emod_eq_of_lt va hlt]
    have := IsNum.cut (cut_limbs ha)
    rw [cut_val] at this
    exact this
  ·have hc : ¬ cmpI (val a) (val b) < 0 := by unfold cmpI; rw [if_neg hlt]; split <;> omega
   rw [if_neg hc]
   by_cases h1 : ((cut b).length : Int) = 1
   ·obtain ⟨x, hx⟩ : ∃ x, cut b = [x] := by
     rcases hcb : cut b with _ | ⟨x, _ | ⟨y, l⟩⟩
     ·exact absurd hcb hne
     ·exact ⟨x, rfl⟩
     ·rw [hcb] at h1; simp at h1; omega
    have hxv : x = val b := by rw [← cut_val b, hx]; simp [val]
    have hxl := cut_limbs hb
    rw [hx] at hxl
    have hxb := hxl.cons.1
    obtain ⟨q, q1, q2, q3⟩ := small_f (cut a) (cut_limbs ha) (by omega) x (by omega) (by omega)
    rw [if_pos h1, if_pos (by omega), hx, show rd [x] 0 = x from rfl, q1, zOb]
    rw [cut_val] at q2
    have hm0 := Int.emod_nonneg (val a) (show x ≠ 0 by omega)
    have hm1 := Int.emod_lt_of_pos (val a) (show 0 < x by omega)
    simp only [cut_val]
    rw [wraps_u64 _ hm0 (by omega), of_f _ hm0 (by omega), zOb]
    exact ⟨q, _, rfl, by rw [← hxv]; exact q2, by rw [← hxv]; exact of2_num _ hm0 (by omega)⟩
   ·have hlm := cut_len_mono ha hb (by omega)
    obtain ⟨p, hp⟩ : ∃ p, (cut b).length = p + 2 := ⟨(cut b).length - 2, by omega⟩
    obtain ⟨t1, t2, t3, x1, x2, x3, x4, x5, q, r, x6, x7, x8⟩ := knuth_f (cut a) (cut b) (cut_limbs ha) (cut_limbs hb) (cut_trim b) (cut b).length p rfl hp (by rw [cut_val, cut_val]; omega) (by omega) hlm k hk
    rw [cut_val, cut_val] at x7 x8
    have e1 : wrap64 (((cut b).length : Int) - 1) = (((cut b).length - 1 : Nat) : Int) := w64e (by omega) (by omega)
    rw [if_neg h1, e1, if_pos (by omega), if_pos (by omega), rd_nat, x1, zOb, x2, zOb, x3, zOb, cut_f, zOb]
    clear e1
    have e2 : wrap64 ((t2.length : Int) - ((cut t3).length : Int)) = (((cut a).length + 1 - (cut b).length : Nat) : Int) := w64e (by omega) (by omega)
    rw [e2, if_pos (by omega), zTn, if_pos (by omega), zOb]
    clear e2
    have e3 : wrap64 (((List.replicate ((cut a).length + 1 - (cut b).length) (0 : Int)).length : Int) - 1) = (((cut a).length + 1 - (cut b).length : Nat) : Int) - 1 := by rw [List.length_replicate]; exact w64 (by omega) (by omega)
    rw [e3, x5, x6]
    exact ⟨q, r, rfl, x7, x8⟩

mutual
def r1_bits.l0 : Nat → List Int → List Int → Int → Option (List Int)
 | 0, _, _, _ => none
 | k + 1, x0, x3, x4 => if x4 < (x0.length : Int) then (r1_bits.l1 k x0 x3 x4 0) else (some x3)
def r1_bits.l1 : Nat → List Int → List Int → Int → Int → Option (List Int)
 | 0, _, _, _, _ => none
 | k + 1, x0, x3, x4, x5 => if x5 < 32 then (if 0 ≤ x4 then (if x4 < (x0.length : Int) then (if 0 ≤ (IntKind.u64.wrap (x5)) then (if x3.length < 140737488355328 then (r1_bits.l1 k x0 (x3 ++ [(Go.bits .and .u32 (shr .u32 (rd x0 x4) (IntKind.u64.wrap (x5))) 1) % 256]) x4 (wrap64 (x5 + 1))) else (none)) else (none)) else (none)) else (none)) else (r1_bits.l0 k x0 x3 (wrap64 (x4 + 1)))
end
def r1_bits.f (k : Nat) (l0 : List Int) : Option (List Int) := r1_bits.l0 k l0 ([] : List Int) 0
theorem r1_bits.calls (k : Nat) (A0 : Option Addr) (c0 : Nat) (l0 : List Int) (r : List Int) (w : World) (hr0 : Kd.C (Kd.int .u32) w A0 l0.length l0) (hc0 : l0.length ≤ c0) (h : r1_bits.f k l0 = some r) :
  Calls Tryd.prog 64 #[.slice A0 l0.length c0] w fun e w' => ∃ v0_ : Value, e = .returned (v0_) ∧ Kd.R (Kd.int .u8) 5 w' w.heap.size (fun _ => True) v0_ r ∧ Below w.heap.size w w' := by
 have HR0 := zMk hr0
 have HC0 := zMk hc0
 clear hr0 hc0
 have HB := zMk (Below.refl w.heap.size w)
 have H : (r1_bits.l0 k l0 ([] : List Int) 0) = some r := h
 clear h
 have H' := zMk H
 clear H
 go_enter Tryd.func64, Tryd.ntmps64
 go_wp2
 go_loopg [3, 4] k (fun kq v3 v4 w' => ∃ (x3_1 : List Int) (x4_1 : Int), v4 = .int .i64 x4_1 ∧ Aside0 (r1_bits.l0 kq l0 x3_1 x4_1 = some r) ∧ Aside0 (kq ≤ k) ∧ Aside0 (Kd.R (Kd.int .u8) 5 w' w.heap.size (fun _ => True) v3 x3_1) ∧ Aside0 (Below w.heap.size w w'))
 case atStart => exact ⟨(([] : List Int)), (0), (by first | rfl | (simp; done) | (simp [*]; done)), H', ⟨Nat.le_refl _⟩, ⟨by first | exact Kd.R_nil _ _ _ _ _ | exact Kd.N_nil _ _ _ _ _ | exact Kd.V_nil _ _ _ _ _ | exact Kd.Q_nil _ _ _ _ _ | exact Kd.S_nil _ _ _ _ _⟩, ⟨by exact uT HB.out⟩⟩
 clear H'
 obtain ⟨x3_1, x4_1, rfl, HA, HK1, HO_3, HB⟩ := hrel
 rcases gk with _ | k1
 ·exact absurd HA.out (by simp [r1_bits.l0])
 have H := HA.out
 clear HA
 simp only [r1_bits.l0] at H
 by_cases c2 : x4_1 < (l0.length : Int)
 ·rw [if_pos c2] at H
  have c2b0 : decide (x4_1 < (l0.length : Int)) = true := decide_eq_true c2
  clear c2
  have H' := zMk H
  clear H
  go_wp2
  go_loopg [3, 5] k1 (fun kq v3 v5 w' => ∃ (x3_2 : List Int) (x5_2 : Int), v5 = .int .i64 x5_2 ∧ Aside0 (r1_bits.l1 kq l0 x3_2 x4_1 x5_2 = some r) ∧ Aside0 (kq ≤ k1) ∧ Aside0 (Kd.R (Kd.int .u8) 5 w' w.heap.size (fun _ => True) v3 x3_2) ∧ Aside0 (Below w.heap.size w w'))
  case atStart => exact ⟨(x3_1), (0), (by first | rfl | (simp; done) | (simp [*]; done)), H', ⟨Nat.le_refl _⟩, ⟨by exact uR HO_3.out⟩, ⟨by exact uT HB.out⟩⟩
  clear H'
  obtain ⟨x3_2, x5_2, rfl, HA, HK2, HO_3, HB⟩ := hrel
  rcases gk with _ | k2
  ·exact absurd HA.out (by simp [r1_bits.l1])
  have H := HA.out
  clear HA
  simp only [r1_bits.l1] at H
  by_cases c3 : x5_2 < 32
  ·rw [if_pos c3] at H
   have c3b0 : decide (x5_2 < 32) = true := decide_eq_true c3
   clear c3
   by_cases c4 : 0 ≤ x4_1
   rotate_left
   ·rw [if_neg c4] at H; exact absurd H (by simp)
   rw [if_pos c4] at H
   have c4b0 : decide (0 ≤ x4_1) = true := decide_eq_true c4
   clear c4
   by_cases c5 : x4_1 < (l0.length : Int)
   rotate_left
   ·rw [if_neg c5] at H; exact absurd H (by simp)
   rw [if_pos c5] at H
   have c5b0 : decide (x4_1 < (l0.length : Int)) = true := decide_eq_true c5
   clear c5
   obtain ⟨ji6, hji6⟩ : ∃ j_ : Int, (IntKind.u64.wrap (x5_2)) = j_ := ⟨_, rfl⟩
   replace H : (if 0 ≤ (ji6) then (if x3_2.length < 140737488355328 then (r1_bits.l1 k2 l0 (x3_2 ++ [(Go.bits .and .u32 (shr .u32 (rd l0 x4_1) (ji6)) 1) % 256]) x4_1 (wrap64 (x5_2 + 1))) else (none)) else (none)) = some r := by first | (rw [hji6] at H; exact H) | (simp only [hji6] at H ⊢; exact H)
   by_cases c7 : 0 ≤ (ji6)
   rotate_left
   ·rw [if_neg c7] at H; exact absurd H (by simp)
   rw [if_pos c7] at H
   have c7b0 := eq_true c7
   have c7b1 : decide (0 ≤ (ji6)) = true := decide_eq_true c7
   clear c7
   obtain ⟨ji8, hji8⟩ : ∃ j_ : Int, (shr .u32 (rd l0 x4_1) (ji6)) = j_ := ⟨_, rfl⟩
   replace H : (if x3_2.length < 140737488355328 then (r1_bits.l1 k2 l0 (x3_2 ++ [(Go.bits .and .u32 (ji8) 1) % 256]) x4_1 (wrap64 (x5_2 + 1))) else (none)) = some r := by first | (rw [hji8] at H; exact H) | (simp only [hji8] at H ⊢; exact H)
   have hji8_ : ((rd l0 x4_1) / 2 ^ min (ji6).toNat 32) = ji8 := hji8
   have hji8z : (ji6) ≤ 32 → ((rd l0 x4_1) / 2 ^ (ji6).toNat) = ji8 := shr_small hji8
   by_cases c9 : x3_2.length < 140737488355328
   rotate_left
   ·rw [if_neg c9] at H; exact absurd H (by simp)
   rw [if_pos c9] at H
   have LMc9 := zMk c9
   clear c9
   obtain ⟨y592, hy592⟩ : ∃ y_ : List Int, y_ = (x3_2 ++ [(Go.bits .and .u32 (ji8) 1) % 256]) := ⟨_, rfl⟩
   replace H : (r1_bits.l1 k2 l0 y592 x4_1 (wrap64 (x5_2 + 1))) = some r := by first | (rw [hy592]; with_reducible exact H) | (have H2_ := bsm H; first | (rw [hy592]; with_reducible exact H2_) | with_reducible exact H2_) | with_reducible exact H | (rw [hy592]; exact H) | exact H
   have Ny592 := zMk hy592
   clear hy592
   have H' := zMk H
   clear H
   have p591 : 0 ≤ (x4_1 : Int) := of_decide_eq_true (by assumption)
   have q591 : x4_1 < (l0.length : Int) := of_decide_eq_true (by assumption)
   obtain ⟨ad591, e591, hx591_0⟩ := zAi HR0.out x4_1 p591 q591
   cases e591
   replace hx591_0 := (HB.out.cell (World.block_lt_of_cell? w _ hx591_0)).trans hx591_0
   replace p591 := eq_true p591
   replace q591 := eq_true q591
   go_wp2_with (first | ((with_reducible refine gate_builtin (b:=.append) (xs:=#[.tmp 16, .tmp 26]) rfl ?_); at_builtin; refine Kd.R_append (Kd.int .u8) (w0:=w) w.heap.size rfl (.tmp 16) (.tmp 26) 67 5 (.int .u8 0) 1 rfl Tryd.underlying67 info5 rfl (by decide) (by omega) u3 x3_2 ((Go.bits .and .u32 (ji8) 1) % 256) [.int .u8 ((Go.bits .and .u32 (ji8) 1) % 256)] (fun _ => True) (fun _ => False) rfl rfl ?aP (fun _ hk => hk.elim) ?aF ?aO ?aB ?aS ?aL ?_; (case aP => exact rfl); (case aB => exact (uT HB.out)); (case aF => exact (fun _ _ => trivial)); (case aO => exact (uR HO_3.out)); (case aS => exact (zBs (uT HB.out))); (case aL => have := LMc9.out; omega); intro v593 w10 ho hb hg hat; rw [← Ny592.out] at ho; replace HB := zMk (hb); have HO594 := zMk (ho); clear HO_3 ho hb hg hat))
   go_roundg k2
   case measure => have := HK1.out; have := HK2.out; omega
   case rel => exact ⟨(y592), (wrap64 (x5_2 + 1)), (by first | rfl | (simp; done) | (simp [*]; done)), H', ⟨by have := HK1.out; have := HK2.out; omega⟩, ⟨by exact uR HO594.out⟩, ⟨by exact uT HB.out⟩⟩
  ·rw [if_neg c3] at H
   have c3b0 : decide (x5_2 < 32) = false := decide_eq_false c3
   clear c3
   have H' := zMk H
   clear H
   go_wp2
   go_roundg k2
   case measure => have := HK1.out; have := HK2.out; omega
   case rel => exact ⟨(x3_2), (wrap64 (x4_1 + 1)), (by first | rfl | (simp; done) | (simp [*]; done)), H', ⟨by have := HK1.out; have := HK2.out; omega⟩, ⟨by exact uR HO_3.out⟩, ⟨by exact uT HB.out⟩⟩
 ·rw [if_neg c2] at H
  have c2b0 : decide (x4_1 < (l0.length : Int)) = false := decide_eq_false c2
  clear c2
  obtain rfl := zOi H
  go_wp2
  go_ret
  exact ⟨_, by first | rfl | (simp [errW_none, errW_some] <;> rfl) | (simp [*, errW_none, errW_some] <;> rfl), by exact uR HO_3.out, by exact uT HB.out⟩


def r1_limbs.l0 : Nat → List Int → List Int → Int → Option (List Int)
 | 0, _, _, _ => none
 | k + 1, x0, x3, x4 => if x4 < (x0.length : Int) then (if 0 ≤ (wrap64 (Int.tdiv x4 32)) then (if (wrap64 (Int.tdiv x4 32)) < (x3.length : Int) then (if 0 ≤ x4 then (if 0 ≤ (IntKind.u64.wrap (Int.tmod x4 32)) then (r1_limbs.l0 k x0 (x3.set ((wrap64 (Int.tdiv x4 32)) : Int).toNat (Go.bits .or .u32 (rd x3 (wrap64 (Int.tdiv x4 32))) (shl .u32 ((rd x0 x4) % 4294967296) (IntKind.u64.wrap (Int.tmod x4 32))))) (wrap64 (x4 + 1))) else (none)) else (none)) else (none)) else (none)) else ((r1_Norm.f k x3).bind fun t601 => (some t601))
def r1_limbs.f (k : Nat) (l0 : List Int) : Option (List Int) := if 0 ≤ (wrap64 (Int.tdiv (wrap64 ((l0.length : Int) + 31)) 32)) then (if (wrap64 (Int.tdiv (wrap64 ((l0.length : Int) + 31)) 32) : Int).toNat ≤ 70368744177664 then (r1_limbs.l0 k l0 (List.replicate (wrap64 (Int.tdiv (wrap64 ((l0.length : Int) + 31)) 32) : Int).toNat 0) 0) else (none)) else (none)
def r1_limbs.T5 : Bool × List (List Nat × List Nat) := (true, [([], []), ([], []), ([1], [1]), ([], []), ([], []), ([4], [4]), ([3, 5], [3, 5]), ([6], [6]), ([], []), ([], []), ([8, 9], [8, 9]), ([10], [10]), ([11], [11]), ([], []), ([13], [13]), ([14], [14]), ([12, 15], [12, 15]), ([7, 16], [7, 16]), ([0, 2, 0, 1, 2, 3, 4, 5, 6, 7, 8, 9, 10, 11, 12, 13, 14, 15, 16, 17], [0, 2]), ([18, 17, 0, 1, 2, 3, 4, 5, 6, 7, 8, 9, 10, 11, 12, 13, 14, 15, 16, 17], [17, 18])])
def r1_limbs.B5 : List Nat := [0, 0, 2, 0, 0, 16, 56, 120, 0, 0, 768, 1792, 3840, 0, 8192, 24576, 65280, 131064, 262143, 524287]
theorem r1_limbs.tab5 : rtab .any (opsOf Tryd.f65 5) = r1_limbs.T5 := by kernel_rfl
theorem r1_limbs.bits5 : waitsOk r1_limbs.T5.2 r1_limbs.B5 = true := by kernel_rfl
theorem r1_limbs.calls (k : Nat) (A0 : Option Addr) (c0 : Nat) (l0 : List Int) (r : List Int) (w : World) (hr0 : Kd.C (Kd.int .u8) w A0 l0.length l0) (hc0 : l0.length ≤ c0) (h : r1_limbs.f k l0 = some r) :
  Calls Tryd.prog 65 #[.slice A0 l0.length c0] w fun e w' => ∃ v0_ : Value, e = .returned (v0_) ∧ Kd.R (Kd.int .u32) 58 w' w.heap.size (fun _ => True) v0_ r ∧ Below w.heap.size w w' := by
 have HR0 := zMk hr0
 have HC0 := zMk hc0
 clear hr0 hc0
 have HB := zMk (Below.refl w.heap.size w)
 have H : (if 0 ≤ (wrap64 (Int.tdiv (wrap64 ((l0.length : Int) + 31)) 32)) then (if (wrap64 (Int.tdiv (wrap64 ((l0.length : Int) + 31)) 32) : Int).toNat ≤ 70368744177664 then (r1_limbs.l0 k l0 (List.replicate (wrap64 (Int.tdiv (wrap64 ((l0.length : Int) + 31)) 32) : Int).toNat 0) 0) else (none)) else (none)) = some r := h
 clear h
 obtain ⟨ji2, hji2⟩ : ∃ j_ : Int, (wrap64 (Int.tdiv (wrap64 ((l0.length : Int) + 31)) 32)) = j_ := ⟨_, rfl⟩
 replace H : (if 0 ≤ (ji2) then (if (ji2 : Int).toNat ≤ 70368744177664 then (r1_limbs.l0 k l0 (List.replicate (ji2 : Int).toNat 0) 0) else (none)) else (none)) = some r := by first | (rw [hji2] at H; exact H) | (simp only [hji2] at H ⊢; exact H)
 have hji2w : (IntKind.i64.wrap (Int.tdiv (wrap64 ((l0.length : Int) + 31)) 32)) = ji2 := (i64_w _).trans hji2
 by_cases c3 : 0 ≤ (ji2)
 ·rw [if_pos c3] at H
  have c3b0 := eq_true c3
  have c3b1 : decide (0 ≤ (ji2)) = true := decide_eq_true c3
  clear c3
  by_cases c4 : (ji2 : Int).toNat ≤ 70368744177664
  rotate_left
  ·rw [if_neg c4] at H; exact absurd H (by simp)
  rw [if_pos c4] at H
  have c4b0 := eq_true c4
  have c4b1 : decide ((ji2 : Int).toNat ≤ 70368744177664) = true := decide_eq_true c4
  clear c4
  obtain ⟨y595, hy595⟩ : ∃ y_ : List Int, y_ = (List.replicate (ji2 : Int).toNat 0) := ⟨_, rfl⟩
  replace H : (r1_limbs.l0 k l0 y595 0) = some r := by first | (rw [hy595]; with_reducible exact H) | (have H2_ := bsm H; first | (rw [hy595]; with_reducible exact H2_) | with_reducible exact H2_) | with_reducible exact H | (rw [hy595]; exact H) | exact H
  have Ny595 := zMk hy595
  clear hy595
  have H' := zMk H
  clear H
  go_enter Tryd.func65, Tryd.ntmps65
  go_wp2_with (first | ((with_reducible refine gate_dst (N:=9) rfl ?_); refine Kd.R_make (Kd.int .u32) _ 58 rfl (N:=9) rfl 22 _ _ rfl ji2 rfl rfl Tryd.underlying22 (.int .u32 0) 4 info58 rfl (by decide) (by omega) 0 (ok:=fun _ => True) (okp:=fun _ => True) rfl (fun _ hk => hk) trivial (of_decide_eq_true (by first | (with_reducible assumption)|  assumption)) (Nat.le_trans (Nat.mul_le_mul_right _ (of_decide_eq_true (by first | (with_reducible assumption)|  assumption) : ji2.toNat ≤ 70368744177664)) (by omega)) (Below.refl _ _) (Nat.le_refl _) ?_; intro v596 w5 ho6 hb hg_ hnew_; clear hg_ hnew_; (first |  rw [← Ny595.out] at ho6|  (simp only [Int.reduceToNat] at ho6; rw [← Ny595.out] at ho6)); have HO597 := zMk (zRl ho6 (zBs (uT HB.out))); replace HB := zMk (zBt (uT HB.out) hb); clear hb ho6))
  go_loopg [4] k (fun kq v4 w' => ∃ (x3_1 : List Int) (x4_1 : Int), v4 = .int .i64 x4_1 ∧ Aside0 (r1_limbs.l0 kq l0 x3_1 x4_1 = some r) ∧ Aside0 (kq ≤ k) ∧ Aside0 (Kd.R (Kd.int .u32) 58 w' w.heap.size (fun _ => True) v596 x3_1) ∧ Aside0 (Below w.heap.size w w'))
  case atStart => exact ⟨(y595), (0), (by first | rfl | (simp; done) | (simp [*]; done)), H', ⟨Nat.le_refl _⟩, ⟨by exact uR HO597.out⟩, ⟨by exact uT HB.out⟩⟩
  clear H'
  obtain ⟨x3_1, x4_1, rfl, HA, HK1, HO_3, HB⟩ := hrel
  rcases gk with _ | k1
  ·exact absurd HA.out (by simp [r1_limbs.l0])
  have H := HA.out
  clear HA
  simp only [r1_limbs.l0] at H
  by_cases c7 : x4_1 < (l0.length : Int)
  ·rw [if_pos c7] at H
   have c7b0 : decide (x4_1 < (l0.length : Int)) = true := decide_eq_true c7
   clear c7
   obtain ⟨ji8, hji8⟩ : ∃ j_ : Int, (wrap64 (Int.tdiv x4_1 32)) = j_ := ⟨_, rfl⟩
   replace H : (if 0 ≤ (ji8) then (if (ji8) < (x3_1.length : Int) then (if 0 ≤ x4_1 then (if 0 ≤ (IntKind.u64.wrap (Int.tmod x4_1 32)) then (r1_limbs.l0 k1 l0 (x3_1.set ((ji8) : Int).toNat (Go.bits .or .u32 (rd x3_1 (ji8)) (shl .u32 ((rd l0 x4_1) % 4294967296) (IntKind.u64.wrap (Int.tmod x4_1 32))))) (wrap64 (x4_1 + 1))) else (none)) else (none)) else (none)) else (none)) = some r := by first | (rw [hji8] at H; exact H) | (simp only [hji8] at H ⊢; exact H)
   have hji8w : (IntKind.i64.wrap (Int.tdiv x4_1 32)) = ji8 := (i64_w _).trans hji8
   by_cases c9 : 0 ≤ (ji8)
   rotate_left
   ·rw [if_neg c9] at H; exact absurd H (by simp)
   rw [if_pos c9] at H
   have c9b0 : decide (0 ≤ (ji8)) = true := decide_eq_true c9
   clear c9
   by_cases c10 : (ji8) < (x3_1.length : Int)
   rotate_left
   ·rw [if_neg c10] at H; exact absurd H (by simp)
   rw [if_pos c10] at H
   have c10b0 : decide ((ji8) < (x3_1.length : Int)) = true := decide_eq_true c10
   clear c10
   by_cases c11 : 0 ≤ x4_1
   rotate_left
   ·rw [if_neg c11] at H; exact absurd H (by simp)
   rw [if_pos c11] at H
   have c11b0 : decide (0 ≤ x4_1) = true := decide_eq_true c11
   clear c11
   obtain ⟨ji12, hji12⟩ : ∃ j_ : Int, (IntKind.u64.wrap (Int.tmod x4_1 32)) = j_ := ⟨_, rfl⟩
   replace H : (if 0 ≤ (ji12) then (r1_limbs.l0 k1 l0 (x3_1.set ((ji8) : Int).toNat (Go.bits .or .u32 (rd x3_1 (ji8)) (shl .u32 ((rd l0 x4_1) % 4294967296) (ji12)))) (wrap64 (x4_1 + 1))) else (none)) = some r := by first | (rw [hji12] at H; exact H) | (simp only [hji12] at H ⊢; exact H)
   by_cases c13 : 0 ≤ (ji12)
   rotate_left
   ·rw [if_neg c13] at H; exact absurd H (by simp)
   rw [if_pos c13] at H
   have c13b0 := eq_true c13
   have c13b1 : decide (0 ≤ (ji12)) = true := decide_eq_true c13
   clear c13
   obtain ⟨ji14, hji14⟩ : ∃ j_ : Int, (shl .u32 ((rd l0 x4_1) % 4294967296) (ji12)) = j_ := ⟨_, rfl⟩
   replace H : (r1_limbs.l0 k1 l0 (x3_1.set ((ji8) : Int).toNat (Go.bits .or .u32 (rd x3_1 (ji8)) (ji14))) (wrap64 (x4_1 + 1))) = some r := by first | (rw [hji14] at H; exact H) | (simp only [hji14] at H ⊢; exact H)
   have hji14_ : (IntKind.u32.wrap (((rd l0 x4_1) % 4294967296) * 2 ^ min (ji12).toNat 32)) = ji14 := hji14
   have hji14m : ((((rd l0 x4_1) % 4294967296) * 2 ^ min (ji12).toNat 32) % 4294967296) = ji14 := hji14_
   have hji14z : (ji12) ≤ 32 → (IntKind.u32.wrap (((rd l0 x4_1) % 4294967296) * 2 ^ (ji12).toNat)) = ji14 := shl_small hji14
   obtain ⟨y600, hy600⟩ : ∃ y_ : List Int, y_ = (x3_1.set ((ji8) : Int).toNat (Go.bits .or .u32 (rd x3_1 (ji8)) (ji14))) := ⟨_, rfl⟩
   replace H : (r1_limbs.l0 k1 l0 y600 (wrap64 (x4_1 + 1))) = some r := by first | (rw [hy600]; with_reducible exact H) | (have H2_ := bsm H; first | (rw [hy600]; with_reducible exact H2_) | with_reducible exact H2_) | with_reducible exact H | (rw [hy600]; exact H) | exact H
   have Ny600 := zMk hy600
   clear hy600
   have H' := zMk H
   clear H
   try go_wp2
   replace HO_3 := zMk (zRd HO_3.out)
   replace HB := zMk (zBd HB.out)
   obtain ⟨Ao17, co17, eo17⟩ := zRs HO_3.out
   (first |  subst eo17|  (injection eo17 with f1_ f2_ f3_; have f4_ := f1_.symm; have f5_ := f3_.symm; clear f1_ f2_ f3_; subst f4_; subst f5_))
   have p598 : 0 ≤ ((ji8) : Int) := of_decide_eq_true (by assumption)
   have q598 : (ji8) < (x3_1.length : Int) := of_decide_eq_true (by assumption)
   obtain ⟨ad598, e598, hx598_0⟩ := zAi (zRr HO_3.out).2.2 (ji8) p598 q598
   cases e598
   replace p598 := eq_true p598
   replace q598 := eq_true q598
   have p599 : 0 ≤ (x4_1 : Int) := of_decide_eq_true (by assumption)
   have q599 : x4_1 < (l0.length : Int) := of_decide_eq_true (by assumption)
   obtain ⟨ad599, e599, hx599_0⟩ := zAi HR0.out x4_1 p599 q599
   have hw599_0 := hx599_0
   cases e599
   replace hx599_0 := (HB.out.cell (World.block_lt_of_cell? w _ hx599_0)).trans hx599_0
   replace p599 := eq_true p599
   replace q599 := eq_true q599
   have p15 : 0 ≤ ((ji8) : Int) := of_decide_eq_true (by assumption)
   have q15 : ((ji8) : Int) < ((x3_1.length : Int) : Int) := of_decide_eq_true (by assumption)
   obtain ⟨go15, co15, eo15, gb15, gl15, cl15, HG15⟩ := Kd.R_form HO_3.out (by omega)
   (first |  cases eo15|  (injection eo15 with ea_ en_ ec_; (first |  subst ea_|  (injection ea_ with ea_; subst ea_)); subst ec_; clear en_))
   have GB15 := zMk gb15
   have IGB15 := ownGe GB15.out
   have GG15 := zMk HG15
   clear gb15 gl15 HG15
   (first | simp only [add_plain] at hx598_0 | skip)
   obtain ⟨hx15_0, hf15_0⟩ := Kd.R_celln 0 HO_3.out ((ji8) : Int) p15 q15
   replace p15 := eq_true p15
   replace q15 := eq_true q15
   have HP18 := Kd.R_putn HO_3.out ((ji8) : Int) (Go.bits .or .u32 (rd x3_1 (ji8)) (ji14))
   rw [← Ny600.out] at HP18
   have HQ18 := zMk HP18
   clear HP18
   refine start_ (n:=20) (S:=fun w' => w'.cell? ⟨go15, ((ji8)).toNat, none⟩ = some (.int .u32 (rd x3_1 (ji8))) ∧ w'.cell? (ad599.add (x4_1).toNat) = some (.int .u8 (rd l0 x4_1))) (ds:=[19]) #[false,false,false,false,false,false,false,false,false,false,false,false,false,false,false,false,false,false,false,false] (by kernel_rfl) rfl rfl ⟨hx598_0, ((HB.out.cell (World.block_lt_of_cell? w _ hw599_0)).trans hw599_0)⟩ (fun hHeld => ?_); refine with_tabW r1_limbs.tab5 r1_limbs.bits5 (fun HT_ HW_ => ?_)
   generalize wr.drew = w16 at HO_3 HB GG15 HQ18 hf15_0 hx15_0 hx598_0 hx599_0 hHeld ⊢
   refine pure_ (i:=0) (N:=some 16) (v:=?_) (a' := ?_) #[true,false,false,false,false,false,false,false,false,false,false,false,false,false,false,false,false,false,false,false] rfl rfl (any_of HT_.out (by kernel_rfl)) (fun _ _ _ h => h) (Or.inl ⟨by rfl, ?_⟩) ?_ ?_
   rotate_left
   ·intro w'
    go_simp
    with_reducible rfl
   rotate_left
   ·simp only [Act.put, zSa, zSb, zSc, i64_w, i32_w]
    rfl
   refine pure_ (i:=1) (N:=some 17) (v:=?_) (a' := ?_) #[true,true,false,false,false,false,false,false,false,false,false,false,false,false,false,false,false,false,false,false] rfl rfl (any_of HT_.out (by kernel_rfl)) (fun _ _ _ h => h) (Or.inl ⟨by rfl, ?_⟩) ?_ ?_
   rotate_left
   ·intro w'
    go_simp
    with_reducible rfl
   rotate_left
   ·simp only [Act.put, zSa, zSb, zSc, i64_w, i32_w]
    rfl
   refine pure_ (i:=2) (N:=some 18) (v:=?_) (a' := ?_) #[true,true,true,false,false,false,false,false,false,false,false,false,false,false,false,false,false,false,false,false] rfl rfl (any_of HT_.out (by kernel_rfl)) (fun _ _ _ h => h) (Or.inl ⟨by rfl, ?_⟩) ?_ ?_
   rotate_left
   ·intro w'
    go_simp
    with_reducible rfl
   rotate_left
   ·simp only [Act.put, zSa, zSb, zSc, i64_w, i32_w]
    rfl
   refine pure_ (i:=3) (N:=some 19) (v:=?_) (a' := ?_) #[true,true,true,true,false,false,false,false,false,false,false,false,false,false,false,false,false,false,false,false] rfl rfl (any_of HT_.out (by kernel_rfl)) (fun _ _ _ h => h) (Or.inl ⟨by rfl, ?_⟩) ?_ ?_
   rotate_left
   ·intro w'
    go_simp
    with_reducible rfl
   rotate_left
   ·simp only [Act.put, zSa, zSb, zSc, i64_w, i32_w]
    rfl
   refine pure_ (i:=4) (N:=some 20) (v:=?_) (a' := ?_) #[true,true,true,true,true,false,false,false,false,false,false,false,false,false,false,false,false,false,false,false] rfl rfl (any_of HT_.out (by kernel_rfl)) (fun _ _ _ h => h) (Or.inl ⟨by rfl, ?_⟩) ?_ ?_
   rotate_left
   ·intro w'
    go_simp
    with_reducible rfl
   rotate_left
   ·simp only [Act.put, zSa, zSb, zSc, i64_w, i32_w]
    rfl
   refine pure_ (i:=5) (N:=some 21) (v:=?_) (a' := ?_) #[true,true,true,true,true,true,false,false,false,false,false,false,false,false,false,false,false,false,false,false] rfl rfl (any_of HT_.out (by kernel_rfl)) (fun _ _ _ h => h) (Or.inl ⟨by rfl, ?_⟩) ?_ ?_
   rotate_left
   ·intro w'
    go_simp
    with_reducible rfl
   rotate_left
   ·simp only [Act.put, zSa, zSb, zSc, i64_w, i32_w]
    rfl
   refine pure_ (i:=6) (N:=some 22) (v:=?_) (a' := ?_) #[true,true,true,true,true,true,true,false,false,false,false,false,false,false,false,false,false,false,false,false] rfl rfl (any_of HT_.out (by kernel_rfl)) (fun _ _ _ h => h) (Or.inl ⟨by rfl, ?_⟩) ?_ ?_
   rotate_left
   ·intro w'
    go_simp
    with_reducible rfl
   rotate_left
   ·simp only [Act.put, zSa, zSb, zSc, i64_w, i32_w]
    rfl
   refine pure_ (i:=8) (N:=some 24) (v:=?_) (a' := ?_) #[true,true,true,true,true,true,true,false,true,false,false,false,false,false,false,false,false,false,false,false] rfl rfl (any_of HT_.out (by kernel_rfl)) (fun _ _ _ h => h) (Or.inl ⟨by rfl, ?_⟩) ?_ ?_
   rotate_left
   ·intro w'
    go_simp
    with_reducible rfl
   rotate_left
   ·simp only [Act.put, zSa, zSb, zSc, i64_w, i32_w]
    rfl
   refine pure_ (i:=9) (N:=some 25) (v:=?_) (a' := ?_) #[true,true,true,true,true,true,true,false,true,true,false,false,false,false,false,false,false,false,false,false] rfl rfl (any_of HT_.out (by kernel_rfl)) (fun _ _ _ h => h) (Or.inl ⟨by rfl, ?_⟩) ?_ ?_
   rotate_left
   ·intro w'
    go_simp
    with_reducible rfl
   rotate_left
   ·simp only [Act.put, zSa, zSb, zSc, i64_w, i32_w]
    rfl
   refine pure_ (i:=10) (N:=some 26) (v:=?_) (a' := ?_) #[true,true,true,true,true,true,true,false,true,true,true,false,false,false,false,false,false,false,false,false] rfl rfl (any_of HT_.out (by kernel_rfl)) (fun _ _ _ h => h) (Or.inl ⟨by rfl, ?_⟩) ?_ ?_
   rotate_left
   ·intro w'
    go_simp
    with_reducible rfl
   rotate_left
   ·simp only [Act.put, zSa, zSb, zSc, i64_w, i32_w]
    rfl
   refine pure_ (i:=13) (N:=some 29) (v:=?_) (a' := ?_) #[true,true,true,true,true,true,true,false,true,true,true,false,false,true,false,false,false,false,false,false] rfl rfl (any_of HT_.out (by kernel_rfl)) (fun _ _ _ h => h) (Or.inl ⟨by rfl, ?_⟩) ?_ ?_
   rotate_left
   ·intro w'
    go_simp
    with_reducible rfl
   rotate_left
   ·simp only [Act.put, zSa, zSb, zSc, i64_w, i32_w]
    rfl
   refine pure_ (i:=14) (N:=some 30) (v:=?_) (a' := ?_) #[true,true,true,true,true,true,true,false,true,true,true,false,false,true,true,false,false,false,false,false] rfl rfl (any_of HT_.out (by kernel_rfl)) (fun _ _ _ h => h) (Or.inl ⟨by rfl, ?_⟩) ?_ ?_
   rotate_left
   ·intro w'
    go_simp
    with_reducible rfl
   rotate_left
   ·simp only [Act.put, zSa, zSb, zSc, i64_w, i32_w]
    rfl
   refine pure_ (i:=15) (N:=some 31) (v:=?_) (a' := ?_) #[true,true,true,true,true,true,true,false,true,true,true,false,false,true,true,true,false,false,false,false] rfl rfl (any_of HT_.out (by kernel_rfl)) (fun _ _ _ h => h) (Or.inl ⟨by rfl, ?_⟩) ?_ ?_
   rotate_left
   ·intro w'
    go_simp
    with_reducible rfl
   rotate_left
   ·simp only [Act.put, zSa, zSb, zSc, i64_w, i32_w]
    rfl
   refine take_ (i:=7) (N:=some 23) (v:=?_) (a' := ?_) #[true,true,true,true,true,true,true,true,true,true,true,false,false,true,true,true,false,false,false,false] rfl rfl (take_ofW HT_.out HW_.out (by kernel_rfl)) (fun _ _ _ h => h) (Or.inl ⟨by rfl, ?_⟩) hHeld ?_ ?_
   rotate_left
   ·rintro w' ⟨s0, s1⟩
    go_simp
    with_reducible rfl
   rotate_left
   ·simp only [Act.put, zSa, zSb, zSc, i64_w, i32_w]
    rfl
   refine take_ (i:=11) (N:=some 27) (v:=?_) (a' := ?_) #[true,true,true,true,true,true,true,true,true,true,true,true,false,true,true,true,false,false,false,false] rfl rfl (take_ofW HT_.out HW_.out (by kernel_rfl)) (fun _ _ _ h => h) (Or.inl ⟨by rfl, ?_⟩) hHeld ?_ ?_
   rotate_left
   ·rintro w' ⟨s0, s1⟩
    go_simp
    with_reducible rfl
   rotate_left
   ·simp only [Act.put, zSa, zSb, zSc, i64_w, i32_w]
    rfl
   refine pure_ (i:=12) (N:=some 28) (v:=?_) (a' := ?_) #[true,true,true,true,true,true,true,true,true,true,true,true,true,true,true,true,false,false,false,false] rfl rfl (any_of HT_.out (by kernel_rfl)) (fun _ _ _ h => h) (Or.inl ⟨by rfl, ?_⟩) ?_ ?_
   rotate_left
   ·intro w'
    go_simp
    with_reducible rfl
   rotate_left
   ·simp only [Act.put, zSa, zSb, zSc, i64_w, i32_w]
    rfl
   refine pure_ (i:=16) (N:=some 32) (v:=?_) (a' := ?_) #[true,true,true,true,true,true,true,true,true,true,true,true,true,true,true,true,true,false,false,false] rfl rfl (any_of HT_.out (by kernel_rfl)) (fun _ _ _ h => h) (Or.inl ⟨by rfl, ?_⟩) ?_ ?_
   rotate_left
   ·intro w'
    go_simp
    with_reducible rfl
   rotate_left
   ·simp only [Act.put, zSa, zSb, zSc, i64_w, i32_w]
    rfl
   refine pure_ (i:=17) (N:=some 33) (v:=?_) (a' := ?_) #[true,true,true,true,true,true,true,true,true,true,true,true,true,true,true,true,true,true,false,false] rfl rfl (any_of HT_.out (by kernel_rfl)) (fun _ _ _ h => h) (Or.inl ⟨by rfl, ?_⟩) ?_ ?_
   rotate_left
   ·intro w'
    go_simp
    with_reducible rfl
   rotate_left
   ·simp only [Act.put, zSa, zSb, zSc, i64_w, i32_w]
    rfl
   refine pure_ (i:=18) (N:=some 34) (v:=?_) (a' := ?_) #[true,true,true,true,true,true,true,true,true,true,true,true,true,true,true,true,true,true,true,false] rfl rfl (any_of HT_.out (by kernel_rfl)) (fun _ _ _ h => h) (Or.inl ⟨by rfl, ?_⟩) ?_ ?_
   rotate_left
   ·intro w'
    go_simp
    with_reducible rfl
   rotate_left
   ·simp only [Act.put, zSa, zSb, zSc, i64_w, i32_w]
    rfl
   refine last_ (i:=19) (N:=none) #[true,true,true,true,true,true,true,true,true,true,true,true,true,true,true,true,true,true,true,true] rfl rfl (one_of HT_.out (by kernel_rfl)) (by decide) (fun K hK => ?_)
   refine skip_ (w1:=?_) (by rfl) rfl ?_ ?_
   rotate_left
   ·go_simp
    rfl
   refine hK.out _ _ ?_
   clear hK K
   refine done_ (done_of HT_.out (by kernel_rfl)) ?_
   try go_wp2
   go_roundg k1
   case measure => have := HK1.out; omega
   case rel => exact ⟨(y600), (wrap64 (x4_1 + 1)), (by first | rfl | (simp; done) | (simp [*]; done)), H', ⟨by have := HK1.out; omega⟩, ⟨by (with_reducible repeat (first | apply zRa | apply zRn | apply zRd)); (first | exact HQ18.out | (rw [hji14m]; exact HQ18.out))⟩, ⟨by exact uT HB.out⟩⟩
  ·rw [if_neg c7] at H
   have c7b0 : decide (x4_1 < (l0.length : Int)) = false := decide_eq_false c7
   clear c7
   replace H := bnd H
   obtain ⟨t601, A190, H⟩ := H
   have A19 := zMk A190
   clear A190
   obtain rfl := zOi H
   obtain ⟨Ao20, co20, eo20⟩ := zRs HO_3.out
   subst eo20
   go_wp2_with (first | ((with_reducible refine gate_callee (f:=63) rfl ?_); refine goesL_ (some 36) rfl rfl Tryd.func63 (by kernel_rfl) rfl #[.slice Ao20 x3_1.length co20] rfl (by (try simp only [zMa, zMc, zMn]); first |  done|  rfl|  (simp only [zLd, zLt]; rfl)) ?_; (with_reducible refine (r1_Norm.calls k1 _ _ x3_1 t601 _ ?side1 ?side2 A19.out).mono ?_); (case side1 => exact uC (zRr HO_3.out).2.2); (case side2 => exact (zRr HO_3.out).2.1); rintro e w21 ⟨v602, rfl, ho0, hb⟩; refine ⟨_, rfl, ?_⟩; have HO603 := zMk (zRl (zRw ho0 (zRt (uR HO_3.out))) (zBs (uT HB.out))); replace HO_3 := zMk (zRe (uR HO_3.out) (zRz ho0) hb); replace HB := zMk (zBt (uT HB.out) hb)))
   go_ret
   exact ⟨_, by first | rfl | (simp [errW_none, errW_some] <;> rfl) | (simp only [← hji2]; first | rfl | (simp [errW_none, errW_some] <;> rfl)) | (simp [*, errW_none, errW_some] <;> rfl), by (with_reducible repeat (first | apply zRa | apply zRn | apply zRd)); exact zRm HO603.out (fun _ hk => trivial), by exact uT HB.out⟩
 ·rw [if_neg c3] at H
  exact absurd H (by simp)


def r1_at.f (l0 : List Int) (a1 : Int) : Option (Int) := if a1 < (l0.length : Int) then (if 0 ≤ a1 then (some (rd l0 a1)) else (none)) else (some 0)
theorem r1_at.calls (A0 : Option Addr) (c0 : Nat) (l0 : List Int) (a1 : Int) (r : Int) (w : World) (hr0 : Kd.C (Kd.int .u8) w A0 l0.length l0) (hc0 : l0.length ≤ c0) (h : r1_at.f l0 a1 = some r) :
    Calls Tryd.prog 68 #[.slice A0 l0.length c0, .int .i64 a1] w fun e w' => e = .returned (.int .u8 r) ∧ Drawn0 w w' := by
  have HR0 := zMk hr0
  have HC0 := zMk hc0
  clear hr0 hc0
  have H : (if a1 < (l0.length : Int) then (if 0 ≤ a1 then (some (rd l0 a1)) else (none)) else (some 0)) = some r := h
  clear h
  by_cases c3 : a1 < (l0.length : Int)
  · rw [if_pos c3] at H
    have c3b0 : decide (a1 < (l0.length : Int)) = true := decide_eq_true c3
    clear c3
    by_cases c4 : 0 ≤ a1
    rotate_left
    · rw [if_neg c4] at H; exact absurd H (by simp)
    rw [if_pos c4] at H
    have c4b0 : decide (0 ≤ a1) = true := decide_eq_true c4
    clear c4
    obtain rfl := zOi H
    have p604 : 0 ≤ (a1 : Int) := of_decide_eq_true (by assumption)
    have q604 : a1 < (l0.length : Int) := of_decide_eq_true (by assumption)
    obtain ⟨ad604, e604, hx604_0⟩ := zAi HR0.out a1 p604 q604
    cases e604
    replace p604 := eq_true p604
    replace q604 := eq_true q604
    go_enter Tryd.func68, Tryd.ntmps68
    go_wp2
    go_ret
    exact ⟨by first | rfl | (simp; done) | (simp [*]; done), by repeat (first | exact Drawn0.refl _ | apply Drawn0.step)⟩
  · rw [if_neg c3] at H
    have c3b0 : decide (a1 < (l0.length : Int)) = false := decide_eq_false c3
    clear c3
    obtain rfl := zOi H
    go_enter Tryd.func68, Tryd.ntmps68
    go_wp2
    go_ret
    exact ⟨by first | rfl | (simp; done) | (simp [*]; done), by repeat (first | exact Drawn0.refl _ | apply Drawn0.step)⟩


def r1_Cmp.l0 : Nat → List Int → List Int → Int → Option (Int)
 | 0, _, _, _ => none
 | k + 1, x5, x6, x7 => if x7 ≥ 0 then ((r1_at.f x5 x7).bind fun t628 => ((r1_at.f x6 x7).bind fun t629 => (if t628 < t629 then (some (-1)) else ((r1_at.f x5 x7).bind fun t630 => ((r1_at.f x6 x7).bind fun t631 => (if t630 > t631 then (some 1) else (r1_Cmp.l0 k x5 x6 (wrap64 (x7 - 1))))))))) else (some 0)
def r1_Cmp.f (k : Nat) (l0 : List Int) (l1 : List Int) : Option (Int) := (r1_bits.f k l0).bind fun t622 => ((r1_bits.f k l1).bind fun t625 => (r1_Cmp.l0 k t622 t625 (wrap64 ((mx (t622.length : Int) (t625.length : Int)) - 1))))
theorem r1_Cmp.calls (k : Nat) (A0 : Option Addr) (c0 : Nat) (l0 : List Int) (A1 : Option Addr) (c1 : Nat) (l1 : List Int) (r : Int) (w : World) (hr0 : Kd.C (Kd.int .u32) w A0 l0.length l0) (hc0 : l0.length ≤ c0) (hr1 : Kd.C (Kd.int .u32) w A1 l1.length l1) (hc1 : l1.length ≤ c1) (h : r1_Cmp.f k l0 l1 = some r) :
  Calls Tryd.prog 42 #[.slice A0 l0.length c0, .slice A1 l1.length c1] w fun e w' => e = .returned (.int .i64 r) ∧ Below w.heap.size w w' := by
 have HR0 := zMk hr0
 have HC0 := zMk hc0
 clear hr0 hc0
 have HR1 := zMk hr1
 have HC1 := zMk hc1
 clear hr1 hc1
 have HB := zMk (Below.refl w.heap.size w)
 have H : ((r1_bits.f k l0).bind fun t622 => ((r1_bits.f k l1).bind fun t625 => (r1_Cmp.l0 k t622 t625 (wrap64 ((mx (t622.length : Int) (t625.length : Int)) - 1))))) = some r := h
 clear h
 replace H := bnd H
 obtain ⟨t622, A30, H⟩ := H
 have A3 := zMk A30
 clear A30
 replace H := bnd H
 obtain ⟨t625, A40, H⟩ := H
 have A4 := zMk A40
 clear A40
 obtain ⟨ji5, hji5⟩ : ∃ j_ : Int, (mx (t622.length : Int) (t625.length : Int)) = j_ := ⟨_, rfl⟩
 replace H : (r1_Cmp.l0 k t622 t625 (wrap64 ((ji5) - 1))) = some r := by first | (rw [hji5] at H; exact H) | (simp only [hji5] at H ⊢; exact H)
 (try rw [hji5] at A3)
 (try rw [hji5] at A4)
 (try (have hji5l : 0 ≤ ji5 := by (rw [← hji5]; unfold mx; (repeat' split) <;> omega)))
 (try (have hji5m : 0 ≤ ji5 := by omega))
 have hji5_ : (if (t622.length : Int) < (t625.length : Int) then (t625.length : Int) else (t622.length : Int)) = ji5 := hji5
 have hji5_n : (if t622.length < t625.length then (t625.length : Int) else (t622.length : Int)) = ji5 := by rw [← hji5]; simp only [mx, mn, Int.ofNat_lt]
 have H' := zMk H
 clear H
 go_enter Tryd.func42, Tryd.ntmps42
 go_wp2_with (first | ((with_reducible refine gate_callee (f:=64) rfl ?_); refine goesL_ (some 9) rfl rfl Tryd.func64 (by kernel_rfl) rfl #[.slice A0 l0.length c0] rfl (by (try simp only [zMa, zMc, zMn]); first |  done|  rfl|  (simp only [zLd, zLt]; rfl)) ?_; (with_reducible refine (r1_bits.calls k _ _ l0 t622 _ ?side1 ?side2 A3.out).mono ?_); (case side1 => repeat (first |  exact HR0.out|  (with_reducible refine zCa ?_ _)|(with_reducible refine zCn ?_ _)|(with_reducible refine zCd ?_))); (case side2 => exact HC0.out); rintro e w6 ⟨v623, rfl, ho0, hb⟩; refine ⟨_, rfl, ?_⟩; have HO624 := zMk (zRl ho0 (zBs (uT HB.out))); replace HB := zMk (zBt (uT HB.out) hb))|((with_reducible refine gate_callee (f:=64) rfl ?_); refine goesL_ (some 11) rfl rfl Tryd.func64 (by kernel_rfl) rfl #[.slice A1 l1.length c1] rfl (by (try simp only [zMa, zMc, zMn]); first |  done|  rfl|  (simp only [zLd, zLt]; rfl)) ?_; (with_reducible refine (r1_bits.calls k _ _ l1 t625 _ ?side1 ?side2 A4.out).mono ?_); (case side1 => repeat (first |  exact (Kd.C_below HR1.out HB.out)|(with_reducible refine zCa ?_ _)|(with_reducible refine zCn ?_ _)|(with_reducible refine zCd ?_))); (case side2 => exact HC1.out); rintro e w7 ⟨v626, rfl, ho0, hb⟩; refine ⟨_, rfl, ?_⟩; have HO627 := zMk (zRl (zRw ho0 (zRt (uR HO624.out))) (zBs (uT HB.out))); replace HO624 := zMk (zRe (uR HO624.out) (zRz ho0) hb); replace HB := zMk (zBt (uT HB.out) hb); obtain ⟨Ao8, co8, eo8⟩ := zRs HO624.out; subst eo8; obtain ⟨Ao9, co9, eo9⟩ := zRs HO627.out; subst eo9))
 go_loopg [7] k (fun kq v7 w' => ∃ (x7_1 : Int), v7 = .int .i64 x7_1 ∧ Aside0 (r1_Cmp.l0 kq t622 t625 x7_1 = some r) ∧ Aside0 (kq ≤ k) ∧ Aside0 (Kd.R (Kd.int .u8) 5 w' w.heap.size (fun k_ => some k_ ≠ ((.slice Ao9 t625.length co9) : Value).ownBlock) (.slice Ao8 t622.length co8) t622) ∧ Aside0 (Kd.R (Kd.int .u8) 5 w' w.heap.size (fun k_ => some k_ ≠ ((.slice Ao8 t622.length co8) : Value).ownBlock) (.slice Ao9 t625.length co9) t625) ∧ Aside0 (Below w.heap.size w w'))
 case atStart => exact ⟨(wrap64 ((ji5) - 1)), (by first | rfl | (simp; done) | (simp only [← hji5] <;> (first | rfl | simp)) | (simp [*]; done)), H', ⟨Nat.le_refl _⟩, ⟨by (with_reducible repeat (first | apply zRa | apply zRn | apply zRd)); exact zRm HO624.out (fun _ hk => hk.2)⟩, ⟨by (with_reducible repeat (first | apply zRa | apply zRn | apply zRd)); exact zRm HO627.out (fun _ hk => hk.2)⟩, ⟨by exact uT HB.out⟩⟩
 clear H'
 obtain ⟨x7_1, rfl, HA, HK1, HO_5, HO_6, HB⟩ := hrel
 rcases gk with _ | k1
 ·exact absurd HA.out (by simp [r1_Cmp.l0])
 have H := HA.out
 clear HA
 simp only [r1_Cmp.l0] at H
 by_cases c10 : x7_1 ≥ 0
 ·rw [if_pos c10] at H
  have c10b0 : decide (0 ≤ x7_1) = true := decide_eq_true c10
  clear c10
  replace H := bnd H
  obtain ⟨t628, A110, H⟩ := H
  have A11 := zMk A110
  clear A110
  replace H := bnd H
  obtain ⟨t629, A120, H⟩ := H
  have A12 := zMk A120
  clear A120
  by_cases c13 : t628 < t629
  ·rw [if_pos c13] at H
   have c13b0 : decide (t628 < t629) = true := decide_eq_true c13
   clear c13
   obtain rfl := zOi H
   go_wp2_with (first | ((with_reducible refine gate_callee (f:=68) rfl ?_); refine goesL_ (some 24) rfl rfl Tryd.func68 (by kernel_rfl) rfl #[.slice Ao8 t622.length co8, .int .i64 x7_1] rfl (by (try simp only [zMa, zMc, zMn]); first | done | rfl | (simp only [zLd, zLt]; rfl)) ?_; (with_reducible refine (r1_at.calls _ _ t622 x7_1 t628 _ ?side1 ?side2 A11.out).mono ?_); (case side1 => exact uC (zRr HO_5.out).2.2); (case side2 => exact (zRr HO_5.out).2.1); rintro e w' ⟨rfl, ⟨nd, rfl⟩⟩; refine ⟨_, rfl, ?_⟩) | ((with_reducible refine gate_callee (f:=68) rfl ?_); refine goesL_ (some 27) rfl rfl Tryd.func68 (by kernel_rfl) rfl #[.slice Ao9 t625.length co9, .int .i64 x7_1] rfl (by (try simp only [zMa, zMc, zMn]); first | done | rfl | (simp only [zLd, zLt]; rfl)) ?_; (with_reducible refine (r1_at.calls _ _ t625 x7_1 t629 _ ?side1 ?side2 A12.out).mono ?_); (case side1 => exact uC (zRr HO_6.out).2.2); (case side2 => exact (zRr HO_6.out).2.1); rintro e w' ⟨rfl, ⟨nd, rfl⟩⟩; refine ⟨_, rfl, ?_⟩))
   go_ret
   exact ⟨by first | rfl | (simp [errW_none, errW_some] <;> rfl) | (simp only [← hji5]; first | rfl | (simp [errW_none, errW_some] <;> rfl)) | (simp [*, errW_none, errW_some] <;> rfl), by exact uT HB.out⟩
  ·rw [if_neg c13] at H
   have c13b0 : decide (t628 < t629) = false := decide_eq_false c13
   clear c13
   replace H := bnd H
   obtain ⟨t630, A140, H⟩ := H
   have A14 := zMk A140
   clear A140
   replace H := bnd H
   obtain ⟨t631, A150, H⟩ := H
   have A15 := zMk A150
   clear A150
   by_cases c16 : t630 > t631
   ·rw [if_pos c16] at H
    have c16b0 : decide (t631 < t630) = true := decide_eq_true c16
    clear c16
    obtain rfl := zOi H
    go_wp2_with (first | ((with_reducible refine gate_callee (f:=68) rfl ?_); refine goesL_ (some 24) rfl rfl Tryd.func68 (by kernel_rfl) rfl #[.slice Ao8 t622.length co8, .int .i64 x7_1] rfl (by (try simp only [zMa, zMc, zMn]); first | done | rfl | (simp only [zLd, zLt]; rfl)) ?_; (with_reducible refine (r1_at.calls _ _ t622 x7_1 t628 _ ?side1 ?side2 A11.out).mono ?_); (case side1 => exact uC (zRr HO_5.out).2.2); (case side2 => exact (zRr HO_5.out).2.1); rintro e w' ⟨rfl, ⟨nd, rfl⟩⟩; refine ⟨_, rfl, ?_⟩) | ((with_reducible refine gate_callee (f:=68) rfl ?_); refine goesL_ (some 27) rfl rfl Tryd.func68 (by kernel_rfl) rfl #[.slice Ao9 t625.length co9, .int .i64 x7_1] rfl (by (try simp only [zMa, zMc, zMn]); first | done | rfl | (simp only [zLd, zLt]; rfl)) ?_; (with_reducible refine (r1_at.calls _ _ t625 x7_1 t629 _ ?side1 ?side2 A12.out).mono ?_); (case side1 => exact uC (zRr HO_6.out).2.2); (case side2 => exact (zRr HO_6.out).2.1); rintro e w' ⟨rfl, ⟨nd, rfl⟩⟩; refine ⟨_, rfl, ?_⟩) | ((with_reducible refine gate_callee (f:=68) rfl ?_); refine goesL_ (some 31) rfl rfl Tryd.func68 (by kernel_rfl) rfl #[.slice Ao8 t622.length co8, .int .i64 x7_1] rfl (by (try simp only [zMa, zMc, zMn]); first | done | rfl | (simp only [zLd, zLt]; rfl)) ?_; (with_reducible refine (r1_at.calls _ _ t622 x7_1 t630 _ ?side1 ?side2 A14.out).mono ?_); (case side1 => exact uC (zRr HO_5.out).2.2); (case side2 => exact (zRr HO_5.out).2.1); rintro e w' ⟨rfl, ⟨nd, rfl⟩⟩; refine ⟨_, rfl, ?_⟩) | ((with_reducible refine gate_callee (f:=68) rfl ?_); refine goesL_ (some 34) rfl rfl Tryd.func68 (by kernel_rfl) rfl #[.slice Ao9 t625.length co9, .int .i64 x7_1] rfl (by (try simp only [zMa, zMc, zMn]); first | done | rfl | (simp only [zLd, zLt]; rfl)) ?_; (with_reducible refine (r1_at.calls _ _ t625 x7_1 t631 _ ?side1 ?side2 A15.out).mono ?_); (case side1 => exact uC (zRr HO_6.out).2.2); (case side2 => exact (zRr HO_6.out).2.1); rintro e w' ⟨rfl, ⟨nd, rfl⟩⟩; refine ⟨_, rfl, ?_⟩))
    go_ret
    exact ⟨by first | rfl | (simp [errW_none, errW_some] <;> rfl) | (simp only [← hji5]; first | rfl | (simp [errW_none, errW_some] <;> rfl)) | (simp [*, errW_none, errW_some] <;> rfl), by exact uT HB.out⟩
   ·rw [if_neg c16] at H
    have c16b0 : decide (t631 < t630) = false := decide_eq_false c16
    clear c16
    have H' := zMk H
    clear H
    go_wp2_with (first | ((with_reducible refine gate_callee (f:=68) rfl ?_); refine goesL_ (some 24) rfl rfl Tryd.func68 (by kernel_rfl) rfl #[.slice Ao8 t622.length co8, .int .i64 x7_1] rfl (by (try simp only [zMa, zMc, zMn]); first | done | rfl | (simp only [zLd, zLt]; rfl)) ?_; (with_reducible refine (r1_at.calls _ _ t622 x7_1 t628 _ ?side1 ?side2 A11.out).mono ?_); (case side1 => exact uC (zRr HO_5.out).2.2); (case side2 => exact (zRr HO_5.out).2.1); rintro e w' ⟨rfl, ⟨nd, rfl⟩⟩; refine ⟨_, rfl, ?_⟩) | ((with_reducible refine gate_callee (f:=68) rfl ?_); refine goesL_ (some 27) rfl rfl Tryd.func68 (by kernel_rfl) rfl #[.slice Ao9 t625.length co9, .int .i64 x7_1] rfl (by (try simp only [zMa, zMc, zMn]); first | done | rfl | (simp only [zLd, zLt]; rfl)) ?_; (with_reducible refine (r1_at.calls _ _ t625 x7_1 t629 _ ?side1 ?side2 A12.out).mono ?_); (case side1 => exact uC (zRr HO_6.out).2.2); (case side2 => exact (zRr HO_6.out).2.1); rintro e w' ⟨rfl, ⟨nd, rfl⟩⟩; refine ⟨_, rfl, ?_⟩) | ((with_reducible refine gate_callee (f:=68) rfl ?_); refine goesL_ (some 31) rfl rfl Tryd.func68 (by kernel_rfl) rfl #[.slice Ao8 t622.length co8, .int .i64 x7_1] rfl (by (try simp only [zMa, zMc, zMn]); first | done | rfl | (simp only [zLd, zLt]; rfl)) ?_; (with_reducible refine (r1_at.calls _ _ t622 x7_1 t630 _ ?side1 ?side2 A14.out).mono ?_); (case side1 => exact uC (zRr HO_5.out).2.2); (case side2 => exact (zRr HO_5.out).2.1); rintro e w' ⟨rfl, ⟨nd, rfl⟩⟩; refine ⟨_, rfl, ?_⟩) | ((with_reducible refine gate_callee (f:=68) rfl ?_); refine goesL_ (some 34) rfl rfl Tryd.func68 (by kernel_rfl) rfl #[.slice Ao9 t625.length co9, .int .i64 x7_1] rfl (by (try simp only [zMa, zMc, zMn]); first | done | rfl | (simp only [zLd, zLt]; rfl)) ?_; (with_reducible refine (r1_at.calls _ _ t625 x7_1 t631 _ ?side1 ?side2 A15.out).mono ?_); (case side1 => exact uC (zRr HO_6.out).2.2); (case side2 => exact (zRr HO_6.out).2.1); rintro e w' ⟨rfl, ⟨nd, rfl⟩⟩; refine ⟨_, rfl, ?_⟩))
    go_roundg k1
    case measure => have := HK1.out; omega
    case rel => exact ⟨(wrap64 (x7_1 - 1)), (by first | rfl | (simp; done) | (simp [*]; done)), H', ⟨by have := HK1.out; omega⟩, ⟨by exact uR HO_5.out⟩, ⟨by exact uR HO_6.out⟩, ⟨by exact uT HB.out⟩⟩
 ·rw [if_neg c10] at H
  have c10b0 : decide (0 ≤ x7_1) = false := decide_eq_false c10
  clear c10
  obtain rfl := zOi H
  go_wp2
  go_ret
  exact ⟨by first | rfl | (simp [errW_none, errW_some] <;> rfl) | (simp only [← hji5]; first | rfl | (simp [errW_none, errW_some] <;> rfl)) | (simp [*, errW_none, errW_some] <;> rfl), by exact uT HB.out⟩


def r1_less.l0 : Nat → List Int → List Int → List Int → Int → Int → Option (List Int)
 | 0, _, _, _, _, _ => none
 | k + 1, x0, x1, x5, x6, x7 => if x7 < (mx (x0.length : Int) (x1.length : Int)) then ((r1_at.f x0 x7).bind fun t632 => ((r1_at.f x1 x7).bind fun t633 => (if x5.length < 140737488355328 then (r1_less.l0 k x0 x1 (x5 ++ [Go.bits .and .u8 ((((((2 + t632) % 256) - t633) % 256) - x6) % 256) 1]) ((1 - (((((((2 + t632) % 256) - t633) % 256) - x6) % 256) / 2)) % 256) (wrap64 (x7 + 1))) else (none)))) else (some x5)
def r1_less.f (k : Nat) (l0 : List Int) (l1 : List Int) : Option (List Int) := r1_less.l0 k l0 l1 ([] : List Int) 0 0
theorem r1_less.calls (k : Nat) (A0 : Option Addr) (c0 : Nat) (l0 : List Int) (A1 : Option Addr) (c1 : Nat) (l1 : List Int) (r : List Int) (w : World) (hr0 : Kd.C (Kd.int .u8) w A0 l0.length l0) (hc0 : l0.length ≤ c0) (hr1 : Kd.C (Kd.int .u8) w A1 l1.length l1) (hc1 : l1.length ≤ c1) (h : r1_less.f k l0 l1 = some r) :
  Calls Tryd.prog 69 #[.slice A0 l0.length c0, .slice A1 l1.length c1] w fun e w' => ∃ v0_ : Value, e = .returned (v0_) ∧ Kd.R (Kd.int .u8) 5 w' w.heap.size (fun _ => True) v0_ r ∧ Below w.heap.size w w' := by
 have HR0 := zMk hr0
 have HC0 := zMk hc0
 clear hr0 hc0
 have HR1 := zMk hr1
 have HC1 := zMk hc1
 clear hr1 hc1
 have HB := zMk (Below.refl w.heap.size w)
 have H : (r1_less.l0 k l0 l1 ([] : List Int) 0 0) = some r := h
 clear h
 have H' := zMk H
 clear H
 go_enter Tryd.func69, Tryd.ntmps69
 go_wp2
 go_loopg [5, 6, 7] k (fun kq v5 v6 v7 w' => ∃ (x5_1 : List Int) (x6_1 : Int) (x7_1 : Int), v6 = .int .u8 x6_1 ∧ v7 = .int .i64 x7_1 ∧ Aside0 (r1_less.l0 kq l0 l1 x5_1 x6_1 x7_1 = some r) ∧ Aside0 (kq ≤ k) ∧ Aside0 (Kd.R (Kd.int .u8) 5 w' w.heap.size (fun _ => True) v5 x5_1) ∧ Aside0 (Below w.heap.size w w'))
 case atStart => exact ⟨(([] : List Int)), (0), (0), (by first | rfl | (simp; done) | (simp [*]; done)), (by first | rfl | (simp; done) | (simp [*]; done)), H', ⟨Nat.le_refl _⟩, ⟨by first | exact Kd.R_nil _ _ _ _ _ | exact Kd.N_nil _ _ _ _ _ | exact Kd.V_nil _ _ _ _ _ | exact Kd.Q_nil _ _ _ _ _ | exact Kd.S_nil _ _ _ _ _⟩, ⟨by exact uT HB.out⟩⟩
 clear H'
 obtain ⟨x5_1, x6_1, x7_1, rfl, rfl, HA, HK1, HO_5, HB⟩ := hrel
 rcases gk with _ | k1
 ·exact absurd HA.out (by simp [r1_less.l0])
 have H := HA.out
 clear HA
 simp only [r1_less.l0] at H
 obtain ⟨ji3, hji3⟩ : ∃ j_ : Int, (mx (l0.length : Int) (l1.length : Int)) = j_ := ⟨_, rfl⟩
 replace H : (if x7_1 < (ji3) then ((r1_at.f l0 x7_1).bind fun t632 => ((r1_at.f l1 x7_1).bind fun t633 => (if x5_1.length < 140737488355328 then (r1_less.l0 k1 l0 l1 (x5_1 ++ [Go.bits .and .u8 ((((((2 + t632) % 256) - t633) % 256) - x6_1) % 256) 1]) ((1 - (((((((2 + t632) % 256) - t633) % 256) - x6_1) % 256) / 2)) % 256) (wrap64 (x7_1 + 1))) else (none)))) else (some x5_1)) = some r := by first | (rw [hji3] at H; exact H) | (simp only [hji3] at H ⊢; exact H)
 have hji3_ : (if (l0.length : Int) < (l1.length : Int) then (l1.length : Int) else (l0.length : Int)) = ji3 := hji3
 have hji3_n : (if l0.length < l1.length then (l1.length : Int) else (l0.length : Int)) = ji3 := by rw [← hji3]; simp only [mx, mn, Int.ofNat_lt]
 by_cases c4 : x7_1 < (ji3)
 ·rw [if_pos c4] at H
  have c4b0 : decide (x7_1 < (ji3)) = true := decide_eq_true c4
  clear c4
  replace H := bnd H
  obtain ⟨t632, A50, H⟩ := H
  have A5 := zMk A50
  clear A50
  replace H := bnd H
  obtain ⟨t633, A60, H⟩ := H
  have A6 := zMk A60
  clear A60
  by_cases c7 : x5_1.length < 140737488355328
  rotate_left
  ·rw [if_neg c7] at H; exact absurd H (by simp)
  rw [if_pos c7] at H
  have LMc7 := zMk c7
  clear c7
  obtain ⟨y634, hy634⟩ : ∃ y_ : List Int, y_ = (x5_1 ++ [Go.bits .and .u8 ((((((2 + t632) % 256) - t633) % 256) - x6_1) % 256) 1]) := ⟨_, rfl⟩
  replace H : (r1_less.l0 k1 l0 l1 y634 ((1 - (((((((2 + t632) % 256) - t633) % 256) - x6_1) % 256) / 2)) % 256) (wrap64 (x7_1 + 1))) = some r := by first | (rw [hy634]; with_reducible exact H) | (have H2_ := bsm H; first | (rw [hy634]; with_reducible exact H2_) | with_reducible exact H2_) | with_reducible exact H | (rw [hy634]; exact H) | exact H
  have Ny634 := zMk hy634
  clear hy634
  have H' := zMk H
  clear H
  go_wp2_with (first | ((with_reducible refine gate_callee (f:=68) rfl ?_); refine goesL_ (some 20) rfl rfl Tryd.func68 (by kernel_rfl) rfl #[.slice A0 l0.length c0, .int .i64 x7_1] rfl (by (try simp only [zMa, zMc, zMn]); first |  done|  rfl|  (simp only [zLd, zLt]; rfl)) ?_; (with_reducible refine (r1_at.calls _ _ l0 x7_1 t632 _ ?side1 ?side2 A5.out).mono ?_); (case side1 => repeat (first |  exact (Kd.C_below HR0.out HB.out)|(with_reducible refine zCa ?_ _)|(with_reducible refine zCn ?_ _)|(with_reducible refine zCd ?_))); (case side2 => exact HC0.out); rintro e w' ⟨rfl, ⟨nd, rfl⟩⟩; refine ⟨_, rfl, ?_⟩)|((with_reducible refine gate_callee (f:=68) rfl ?_); refine goesL_ (some 24) rfl rfl Tryd.func68 (by kernel_rfl) rfl #[.slice A1 l1.length c1, .int .i64 x7_1] rfl (by (try simp only [zMa, zMc, zMn]); first |  done|  rfl|  (simp only [zLd, zLt]; rfl)) ?_; (with_reducible refine (r1_at.calls _ _ l1 x7_1 t633 _ ?side1 ?side2 A6.out).mono ?_); (case side1 => repeat (first |  exact (Kd.C_below HR1.out (uT HB.out))|(with_reducible refine zCa ?_ _)|(with_reducible refine zCn ?_ _)|(with_reducible refine zCd ?_))); (case side2 => exact HC1.out); rintro e w' ⟨rfl, ⟨nd, rfl⟩⟩; refine ⟨_, rfl, ?_⟩)|((with_reducible refine gate_builtin (b:=.append) (xs:=#[.tmp 28, .tmp 31]) rfl ?_); at_builtin; refine Kd.R_append (Kd.int .u8) (w0:=w) w.heap.size rfl (.tmp 28) (.tmp 31) 67 5 (.int .u8 0) 1 rfl Tryd.underlying67 info5 rfl (by decide) (by omega) u5 x5_1 (Go.bits .and .u8 ((2 + t632 - t633 - x6_1) % 256) 1) [.int .u8 (Go.bits .and .u8 ((2 + t632 - t633 - x6_1) % 256) 1)] (fun _ => True) (fun _ => False) rfl rfl ?aP (fun _ hk => hk.elim) ?aF ?aO ?aB ?aS ?aL ?_; (case aP => exact rfl); (case aB => exact (uT HB.out)); (case aF => exact (fun _ _ => trivial)); (case aO => exact (uR HO_5.out)); (case aS => exact (zBs (uT HB.out))); (case aL => have := LMc7.out; omega); intro v635 w8 ho hb hg hat; rw [show ((2 + t632 - t633 - x6_1) % 256) = ((((((2 + t632) % 256) - t633) % 256) - x6_1) % 256) from by omega] at ho; rw [← Ny634.out] at ho; replace HB := zMk (hb); have HO636 := zMk (ho); clear HO_5 ho hb hg hat))
  go_roundg k1
  case measure => have := HK1.out; omega
  case rel => exact ⟨(y634), ((1 - (((((((2 + t632) % 256) - t633) % 256) - x6_1) % 256) / 2)) % 256), (wrap64 (x7_1 + 1)), (by first | rfl | (simp; done) | (simp [*]; done)), (by first | rfl | (simp; done) | (simp [*]; done)), H', ⟨by have := HK1.out; omega⟩, ⟨by exact uR HO636.out⟩, ⟨by exact uT HB.out⟩⟩
 ·rw [if_neg c4] at H
  have c4b0 : decide (x7_1 < (ji3)) = false := decide_eq_false c4
  clear c4
  obtain rfl := zOi H
  go_wp2
  go_ret
  exact ⟨_, by first | rfl | (simp [errW_none, errW_some] <;> rfl) | (simp only [← hji3]; first | rfl | (simp [errW_none, errW_some] <;> rfl)) | (simp [*, errW_none, errW_some] <;> rfl), by exact uR HO_5.out, by exact uT HB.out⟩


def r1_Sub.f (k : Nat) (l0 : List Int) (l1 : List Int) : Option (List Int × Int) := (r1_Cmp.f k l0 l1).bind fun t637 => (if t637 < 0 then (some (([] : List Int), 17)) else ((r1_bits.f k l0).bind fun t638 => ((r1_bits.f k l1).bind fun t641 => ((r1_less.f k t638 t641).bind fun t644 => ((r1_limbs.f k t644).bind fun t647 => (some (t647, 0)))))))
theorem r1_Sub.calls (k : Nat) (A0 : Option Addr) (c0 : Nat) (l0 : List Int) (A1 : Option Addr) (c1 : Nat) (l1 : List Int) (r1 : List Int) (r2 : Int) (w : World) (hr0 : Kd.C (Kd.int .u32) w A0 l0.length l0) (hc0 : l0.length ≤ c0) (hr1 : Kd.C (Kd.int .u32) w A1 l1.length l1) (hc1 : l1.length ≤ c1) (h : r1_Sub.f k l0 l1 = some (r1, r2)) :
  Calls Tryd.prog 43 #[.slice A0 l0.length c0, .slice A1 l1.length c1] w fun e w' => ∃ v0_ : Value, e = .returned (.tuple #[v0_, .int .i64 r2]) ∧ Kd.R (Kd.int .u32) 58 w' w.heap.size (fun _ => True) v0_ r1 ∧ Below w.heap.size w w' := by
 have HR0 := zMk hr0
 have HC0 := zMk hc0
 clear hr0 hc0
 have HR1 := zMk hr1
 have HC1 := zMk hc1
 clear hr1 hc1
 have HB := zMk (Below.refl w.heap.size w)
 have H : ((r1_Cmp.f k l0 l1).bind fun t637 => (if t637 < 0 then (some (([] : List Int), 17)) else ((r1_bits.f k l0).bind fun t638 => ((r1_bits.f k l1).bind fun t641 => ((r1_less.f k t638 t641).bind fun t644 => ((r1_limbs.f k t644).bind fun t647 => (some (t647, 0)))))))) = some (r1, r2) := h
 clear h
 replace H := bnd H
 obtain ⟨t637, A30, H⟩ := H
 have A3 := zMk A30
 clear A30
 by_cases c4 : t637 < 0
 ·rw [if_pos c4] at H
  have c4b0 : decide (t637 < 0) = true := decide_eq_true c4
  clear c4
  simp only [Option.some.injEq, Prod.mk.injEq] at H
  obtain ⟨rfl, rfl⟩ := H
  go_enter Tryd.func43, Tryd.ntmps43
  go_wp2_with (first | ((with_reducible refine gate_callee (f:=42) rfl ?_); refine goesL_ (some 8) rfl rfl Tryd.func42 (by kernel_rfl) rfl #[.slice A0 l0.length c0, .slice A1 l1.length c1] rfl (by (try simp only [zMa, zMc, zMn]); first |  done|  rfl|  (simp only [zLd, zLt]; rfl)) ?_; (with_reducible refine (r1_Cmp.calls k _ _ l0 _ _ l1 t637 _ ?side1 ?side2 ?side3 ?side4 A3.out).mono ?_); (case side1 => repeat (first |  exact HR0.out|  (with_reducible refine zCa ?_ _)|(with_reducible refine zCn ?_ _)|(with_reducible refine zCd ?_))); (case side2 => exact HC0.out); (case side3 => repeat (first |  exact HR1.out|  (with_reducible refine zCa ?_ _)|(with_reducible refine zCn ?_ _)|(with_reducible refine zCd ?_))); (case side4 => exact HC1.out); rintro e w5 ⟨rfl, hb⟩; refine ⟨_, rfl, ?_⟩; replace HB := zMk (zBt (uT HB.out) hb)))
  go_ret2
  exact ⟨_, by first | rfl | (simp [errW_none, errW_some] <;> rfl) | (simp [*, errW_none, errW_some] <;> rfl), by first | exact Kd.R_nil _ _ _ _ _ | exact Kd.N_nil _ _ _ _ _ | exact Kd.V_nil _ _ _ _ _ | exact Kd.Q_nil _ _ _ _ _ | exact Kd.S_nil _ _ _ _ _, by exact uT HB.out⟩
 ·rw [if_neg c4] at H
  have c4b0 : decide (t637 < 0) = false := decide_eq_false c4
  clear c4
  replace H := bnd H
  obtain ⟨t638, A60, H⟩ := H
  have A6 := zMk A60
  clear A60
  replace H := bnd H
  obtain ⟨t641, A70, H⟩ := H
  have A7 := zMk A70
  clear A70
  replace H := bnd H
  obtain ⟨t644, A80, H⟩ := H
  have A8 := zMk A80
  clear A80
  replace H := bnd H
  obtain ⟨t647, A90, H⟩ := H
  have A9 := zMk A90
  clear A90
  simp only [Option.some.injEq, Prod.mk.injEq] at H
  obtain ⟨rfl, rfl⟩ := H
  go_enter Tryd.func43, Tryd.ntmps43
  go_wp2_with (first | ((with_reducible refine gate_callee (f:=42) rfl ?_); refine goesL_ (some 8) rfl rfl Tryd.func42 (by kernel_rfl) rfl #[.slice A0 l0.length c0, .slice A1 l1.length c1] rfl (by (try simp only [zMa, zMc, zMn]); first |  done|  rfl|  (simp only [zLd, zLt]; rfl)) ?_; (with_reducible refine (r1_Cmp.calls k _ _ l0 _ _ l1 t637 _ ?side1 ?side2 ?side3 ?side4 A3.out).mono ?_); (case side1 => repeat (first |  exact HR0.out|  (with_reducible refine zCa ?_ _)|(with_reducible refine zCn ?_ _)|(with_reducible refine zCd ?_))); (case side2 => exact HC0.out); (case side3 => repeat (first |  exact HR1.out|  (with_reducible refine zCa ?_ _)|(with_reducible refine zCn ?_ _)|(with_reducible refine zCd ?_))); (case side4 => exact HC1.out); rintro e w10 ⟨rfl, hb⟩; refine ⟨_, rfl, ?_⟩; replace HB := zMk (zBt (uT HB.out) hb))|((with_reducible refine gate_callee (f:=64) rfl ?_); refine goesL_ (some 11) rfl rfl Tryd.func64 (by kernel_rfl) rfl #[.slice A0 l0.length c0] rfl (by (try simp only [zMa, zMc, zMn]); first |  done|  rfl|  (simp only [zLd, zLt]; rfl)) ?_; (with_reducible refine (r1_bits.calls k _ _ l0 t638 _ ?side1 ?side2 A6.out).mono ?_); (case side1 => repeat (first |  exact (Kd.C_below HR0.out HB.out)|(with_reducible refine zCa ?_ _)|(with_reducible refine zCn ?_ _)|(with_reducible refine zCd ?_))); (case side2 => exact HC0.out); rintro e w11 ⟨v639, rfl, ho0, hb⟩; refine ⟨_, rfl, ?_⟩; have HO640 := zMk (zRl ho0 (zBs (uT HB.out))); replace HB := zMk (zBt (uT HB.out) hb))|((with_reducible refine gate_callee (f:=64) rfl ?_); refine goesL_ (some 13) rfl rfl Tryd.func64 (by kernel_rfl) rfl #[.slice A1 l1.length c1] rfl (by (try simp only [zMa, zMc, zMn]); first |  done|  rfl|  (simp only [zLd, zLt]; rfl)) ?_; (with_reducible refine (r1_bits.calls k _ _ l1 t641 _ ?side1 ?side2 A7.out).mono ?_); (case side1 => repeat (first |  exact (Kd.C_below HR1.out HB.out)|(with_reducible refine zCa ?_ _)|(with_reducible refine zCn ?_ _)|(with_reducible refine zCd ?_))); (case side2 => exact HC1.out); rintro e w12 ⟨v642, rfl, ho0, hb⟩; refine ⟨_, rfl, ?_⟩; have HO643 := zMk (zRl (zRw ho0 (zRt (uR HO640.out))) (zBs (uT HB.out))); replace HO640 := zMk (zRe (uR HO640.out) (zRz ho0) hb); replace HB := zMk (zBt (uT HB.out) hb); obtain ⟨Ao13, co13, eo13⟩ := zRs HO640.out; subst eo13; obtain ⟨Ao14, co14, eo14⟩ := zRs HO643.out; subst eo14)|((with_reducible refine gate_callee (f:=69) rfl ?_); refine goesL_ (some 14) rfl rfl Tryd.func69 (by kernel_rfl) rfl #[.slice Ao13 t638.length co13, .slice Ao14 t641.length co14] rfl (by (try simp only [zMa, zMc, zMn]); first |  done|  rfl|  (simp only [zLd, zLt]; rfl)) ?_; (with_reducible refine (r1_less.calls k _ _ t638 _ _ t641 t644 _ ?side1 ?side2 ?side3 ?side4 A8.out).mono ?_); (case side1 => exact uC (zRr HO640.out).2.2); (case side2 => exact (zRr HO640.out).2.1); (case side3 => exact uC (zRr HO643.out).2.2); (case side4 => exact (zRr HO643.out).2.1); rintro e w15 ⟨v645, rfl, ho0, hb⟩; refine ⟨_, rfl, ?_⟩; have HO646 := zMk (zRl (zRw (zRw ho0 (zRt (uR HO640.out))) (zRt (uR HO643.out))) (zBs (uT HB.out))); replace HO640 := zMk (zRe (uR HO640.out) (zRz ho0) hb); replace HO643 := zMk (zRe (uR HO643.out) (zRz ho0) hb); replace HB := zMk (zBt (uT HB.out) hb); obtain ⟨Ao16, co16, eo16⟩ := zRs HO646.out; subst eo16)|((with_reducible refine gate_callee (f:=65) rfl ?_); refine goesL_ (some 15) rfl rfl Tryd.func65 (by kernel_rfl) rfl #[.slice Ao16 t644.length co16] rfl (by (try simp only [zMa, zMc, zMn]); first |  done|  rfl|  (simp only [zLd, zLt]; rfl)) ?_; (with_reducible refine (r1_limbs.calls k _ _ t644 t647 _ ?side1 ?side2 A9.out).mono ?_); (case side1 => exact uC (zRr HO646.out).2.2); (case side2 => exact (zRr HO646.out).2.1); rintro e w17 ⟨v648, rfl, ho0, hb⟩; refine ⟨_, rfl, ?_⟩; replace HO640 := zMk (zRb (uR HO640.out) hb); replace HO643 := zMk (zRb (uR HO643.out) hb); replace HO646 := zMk (zRb (uR HO646.out) hb); have HO649 := zMk (zRl ho0 (zBs (uT HB.out))); replace HB := zMk (zBt (uT HB.out) hb)))
  go_ret2
  exact ⟨_, by first | rfl | (simp [errW_none, errW_some] <;> rfl) | (simp [*, errW_none, errW_some] <;> rfl), by exact uR HO649.out, by exact uT HB.out⟩

def bval : List Int → Int
 | [] => 0
 | x :: r => x + 2 * bval r
def Bits (l : List Int) : Prop := ∀ x ∈ l, x = 0 ∨ x = 1
theorem bval_append (a b : List Int) : bval (a ++ b) = bval a + 2 ^ a.length * bval b := by
 induction a with
 | nil => simp [bval]
 | cons x a ih => simp only [List.cons_append, bval, ih, zLc, Int.pow_succ]; rw [Int.mul_add, ← Int.mul_assoc, Int.mul_comm 2 (2 ^ a.length)]; omega
theorem Bits.tail {x : Int} {l : List Int} (h : Bits (x :: l)) : (x = 0 ∨ x = 1) ∧ Bits l := ⟨h x (List.mem_cons_self ..), fun y hy => h y (List.mem_cons_of_mem _ hy)⟩
theorem Bits.nil : Bits [] := fun _ h => by cases h
theorem Bits.append {a b : List Int} (ha : Bits a) (hb : Bits b) : Bits (a ++ b) := fun x hx => by
 rcases List.mem_append.1 hx with h | h
 ·exact ha x h
 ·exact hb x h
theorem Bits.one {x : Int} (h : x = 0 ∨ x = 1) : Bits [x] := fun y hy => by rw [List.mem_singleton] at hy; rw [hy]; exact h
theorem Bits.take {l : List Int} (h : Bits l) (n : Nat) : Bits (l.take n) := fun x hx => h x (List.mem_of_mem_take hx)
theorem Bits.getD {l : List Int} (h : Bits l) (n : Nat) : l.getD n 0 = 0 ∨ l.getD n 0 = 1 := by
 by_cases hn : n < l.length
 ·rw [getD_lt _ hn]; exact h _ (List.getElem_mem hn)
 ·rw [getD_ge _ (by omega)]; exact .inl rfl
theorem bval_bounds {l : List Int} (h : Bits l) : 0 ≤ bval l ∧ bval l < 2 ^ l.length := by
 induction l with
 | nil => simp [bval]
 | cons x l ih =>
  have h1 := h.tail
  have h2 := ih h1.2
  simp only [bval, zLc, Int.pow_succ]
  omega
theorem bval_take_succ (l : List Int) (n : Nat) : bval (l.take (n + 1)) = bval (l.take n) + 2 ^ n * l.getD n 0 := by
 by_cases h : n < l.length
 ·rw [List.take_succ_eq_append_getElem h, bval_append, zLt, Nat.min_eq_left (by omega), getD_lt _ h]
  simp [bval]
 ·rw [List.take_of_length_le (by omega), List.take_of_length_le (by omega), getD_ge _ (by omega)]
  simp
theorem bval_take_lt {l : List Int} (h : Bits l) (n : Nat) : 0 ≤ bval (l.take n) ∧ bval (l.take n) < 2 ^ n := by
 have h1 := bval_bounds (h.take n)
 refine ⟨h1.1, Int.lt_of_lt_of_le h1.2 ?_⟩
 have := Nat.pow_le_pow_right (show 0 < 2 by decide) (show (l.take n).length ≤ n by rw [zLt]; omega)
 exact_mod_cast this
def bitsW (x : Int) : Nat → List Int
 | 0 => []
 | n + 1 => bitsW x n ++ [x / 2 ^ n % 2]
theorem bitsW_zero (x : Int) : bitsW x 0 = [] := rfl
theorem bitsW_succ (x : Int) (n : Nat) : bitsW x (n + 1) = bitsW x n ++ [x / 2 ^ n % 2] := rfl
theorem bitsW_length (x : Int) (n : Nat) : (bitsW x n).length = n := by
 induction n with
 | zero => rfl
 | succ n ih => simp [bitsW, ih]
theorem bitsW_bits (x : Int) (n : Nat) : Bits (bitsW x n) := by
 induction n with
 | zero => exact Bits.nil
 | succ n ih => exact ih.append (Bits.one (by omega))
theorem bval_bitsW (x : Int) (n : Nat) (h : 0 ≤ x) : bval (bitsW x n) = x % 2 ^ n := by
 induction n with
 | zero => simp only [bitsW, bval, Int.pow_zero]; omega
 | succ n ih =>
  simp only [bitsW]
  rw [bval_append, ih, bitsW_length]
  simp only [bval]
  rw [Int.pow_succ, Int.emod_def x (2 ^ n * 2), ← Int.ediv_ediv_of_nonneg (Int.le_of_lt (Int.pow_pos (by decide)))]
  have h1 := Int.emod_def x (2 ^ n)
  have h2 := Int.emod_def (x / 2 ^ n) 2
  rw [h1, h2, Int.mul_add, Int.mul_sub, Int.mul_assoc]
  simp only [Int.mul_zero, Int.add_zero]
  omega
def bitsOf : List Int → List Int
 | [] => []
 | x :: r => bitsW x 32 ++ bitsOf r
theorem bitsOf_length (l : List Int) : (bitsOf l).length = 32 * l.length := by
 induction l with
 | nil => rfl
 | cons x l ih => simp [bitsOf, ih, bitsW_length]; omega
theorem bitsOf_bits (l : List Int) : Bits (bitsOf l) := by
 induction l with
 | nil => exact Bits.nil
 | cons x l ih => exact (bitsW_bits x 32).append ih
theorem bval_bitsOf {l : List Int} (h : Limbs l) : bval (bitsOf l) = val l := by
 induction l with
 | nil => rfl
 | cons x l ih =>
  have h1 := h.cons
  simp only [bitsOf, val]
  rw [bval_append, ih h1.2, bval_bitsW x 32 h1.1.1, bitsW_length]
  have : x % 2 ^ 32 = x := by omega
  rw [this]; omega
theorem u32_and1 (x : Int) (h₀ : 0 ≤ x) (h₁ : x < 4294967296) : Go.bits .and .u32 x 1 = x % 2 := bits_mask .u32 32 (by decide) wraps_u32 1 (by decide) x h₀ h₁
theorem u8_and1 (x : Int) (h₀ : 0 ≤ x) (h₁ : x < 256) : Go.bits .and .u8 x 1 = x % 2 := bits_mask .u8 8 (by decide) wraps_u8 1 (by decide) x h₀ h₁
theorem shr_u32 (x : Int) (i : Nat) (h : i ≤ 32) : shr .u32 x (IntKind.u64.wrap (i : Int)) = x / 2 ^ i := by
 rw [wraps_u64 _ (by omega) (by omega)]
 unfold shr
 rw [show min ((i : Int)).toNat (IntKind.bits .u32) = i from by rw [zTn]; exact Nat.min_eq_left h]
theorem bits_l1 (x0 : List Int) (hl : Limbs x0) (m : Nat) (hm : m < x0.length) (pre : List Int) (hp : pre.length + 32 < 140737488355328) (hm2 : x0.length < 4611686018427387904) : ∀ (j i k : Nat), i + j = 32 →
  r1_bits.l1 (k + j + 1) x0 (pre ++ bitsW (x0.getD m 0) i) (m : Int) (i : Int) = r1_bits.l0 k x0 (pre ++ bitsW (x0.getD m 0) 32) ((m + 1 : Nat) : Int) := by
 intro j
 induction j with
 | zero =>
  intro i k h
  obtain rfl : i = 32 := by omega
  rw [r1_bits.l1, if_neg (by omega), w64 (by omega) (by omega)]
  rfl
 | succ j ih =>
  intro i k h
  have hx := hl.getD m
  have hdiv : 0 ≤ x0.getD m 0 / 2 ^ i ∧ x0.getD m 0 / 2 ^ i < 4294967296 := by
   refine ⟨Int.ediv_nonneg hx.1 (Int.le_of_lt (Int.pow_pos (by decide))), ?_⟩
   have := Int.ediv_le_self (2 ^ i) hx.1
   omega
  rw [show k + (j + 1) + 1 = (k + j + 1) + 1 by omega, r1_bits.l1, if_pos (by omega), if_pos (by omega), if_pos (by omega), if_pos (by rw [wraps_u64 _ (by omega) (by omega)]; omega), if_pos (by rw [List.length_append, bitsW_length]; omega), rd_nat, shr_u32 _ i (by omega), u32_and1 _ hdiv.1 hdiv.2, w64 (by omega) (by omega), show x0.getD m 0 / 2 ^ i % 2 % 256 = x0.getD m 0 / 2 ^ i % 2 by omega]
  have := ih (i + 1) k (by omega)
  rw [show ((i + 1 : Nat) : Int) = (i : Int) + 1 by omega] at this
  rw [← this, bitsW_succ, List.append_assoc]
theorem bits_l0 (x0 : List Int) (hl : Limbs x0) (hm2 : x0.length < 4000000000000) : ∀ (j m k : Nat), m + j = x0.length →
  r1_bits.l0 (k + 34 * j + 1) x0 (bitsOf (x0.take m)) (m : Int) = some (bitsOf x0) := by
 intro j
 induction j with
 | zero =>
  intro m k h
  rw [r1_bits.l0, if_neg (by omega), List.take_of_length_le (by omega)]
 | succ j ih =>
  intro m k h
  rw [show k + 34 * (j + 1) + 1 = ((k + 34 * j + 1) + 32 + 1) + 1 by omega]
  rw [r1_bits.l0, if_pos (by omega)]
  have h1 := bits_l1 x0 hl m (by omega) (bitsOf (x0.take m)) (by rw [bitsOf_length, zLt]; omega) (by omega) 32 0 (k + 34 * j + 1) (by omega)
  rw [bitsW_zero, List.append_nil] at h1
  rw [show ((0 : Nat) : Int) = 0 from rfl] at h1
  rw [h1]
  have h2 : bitsOf (x0.take (m + 1)) = bitsOf (x0.take m) ++ bitsW (x0.getD m 0) 32 := by
   rw [List.take_succ_eq_append_getElem (by omega), getD_lt _ (by omega)]
   have : ∀ a b : List Int, bitsOf (a ++ b) = bitsOf a ++ bitsOf b := by
    intro a b
    induction a with
    | nil => rfl
    | cons x a ih => simp [bitsOf, ih]
   rw [this]
   simp [bitsOf]
  have h3 := ih (m + 1) k (by omega)
  rw [h2] at h3
  exact h3
theorem bits_f (l : List Int) (hl : Limbs l) (hm : l.length < 4000000000000) (k : Nat) (hk : 34 * l.length + 1 ≤ k) : r1_bits.f k l = some (bitsOf l) := by
 unfold r1_bits.f
 obtain ⟨d, rfl⟩ : ∃ d, k = d + 34 * l.length + 1 := ⟨k - (34 * l.length + 1), by omega⟩
 exact bits_l0 l hl hm l.length 0 d (by omega)
theorem at_f (l : List Int) (i : Nat) : r1_at.f l (i : Int) = some (l.getD i 0) := by
 unfold r1_at.f
 by_cases h : (i : Int) < (l.length : Int)
 ·rw [if_pos h, if_pos (by omega), rd_nat]
 ·rw [if_neg h, getD_ge _ (by omega)]
theorem rcmp_l0 (x y : List Int) (hx : Bits x) (hy : Bits y) : ∀ (n k : Nat), n < 4611686018427387904 → n < k → r1_Cmp.l0 k x y ((n : Int) - 1) = some (cmpI (bval (x.take n)) (bval (y.take n))) := by
 intro n
 induction n with
 | zero =>
  intro k _ hk
  obtain ⟨k, rfl⟩ : ∃ d, k = d + 1 := ⟨k - 1, by omega⟩
  simp only [r1_Cmp.l0]
  rw [if_neg (by omega)]
  simp [bval, cmpI]
 | succ n ih =>
  intro k hn hk
  obtain ⟨k, rfl⟩ : ∃ d, k = d + 1 := ⟨k - 1, by omega⟩
  simp only [r1_Cmp.l0]
  rw [if_pos (by omega), show ((n + 1 : Nat) : Int) - 1 = (n : Int) by omega]
  simp only [at_f, zOb]
  rw [w64 (by omega) (by omega), ih k (by omega) (by omega)]
  have h1 := bval_take_lt hx n
  have h2 := bval_take_lt hy n
  rw [bval_take_succ, bval_take_succ, cmpI_step h1.1 h1.2 h2.1 h2.2]
  by_cases h3 : x.getD n 0 < y.getD n 0
  ·rw [if_pos h3, if_neg (by omega)]
   unfold cmpI
   rw [if_pos h3]
  ·rw [if_neg h3]
   by_cases h4 : x.getD n 0 > y.getD n 0
   ·rw [if_pos h4, if_neg (by omega)]
    unfold cmpI
    rw [if_neg h3, if_pos h4]
   ·rw [if_neg h4, if_pos (by omega)]
theorem mx_nat (a b : Nat) : mx (a : Int) (b : Int) = ((max a b : Nat) : Int) := by unfold mx; split <;> omega
theorem rcmp_f (a b : List Int) (ha : Limbs a) (hb : Limbs b) (la : a.length < 4000000000000) (lb : b.length < 4000000000000) (k : Nat) (hk : 34 * a.length + 34 * b.length + 2 ≤ k) : r1_Cmp.f k a b = some (cmpI (val a) (val b)) := by
 unfold r1_Cmp.f
 rw [bits_f a ha la k (by omega), zOb, bits_f b hb lb k (by omega), zOb, mx_nat, bitsOf_length, bitsOf_length, w64 (by omega) (by omega), rcmp_l0 _ _ (bitsOf_bits a) (bitsOf_bits b) _ k (by omega) (by omega)]
 rw [List.take_of_length_le (by rw [bitsOf_length]; omega), List.take_of_length_le (by rw [bitsOf_length]; omega), bval_bitsOf ha, bval_bitsOf hb]
@[irreducible] def Tp (n : Nat) : Int := (2 : Int) ^ n
theorem Tp_zero : Tp 0 = 1 := by unfold Tp; rfl
theorem Tp_succ (n : Nat) : Tp (n + 1) = Tp n * 2 := by unfold Tp; exact Int.pow_succ 2 n
theorem bval_set (l : List Int) : ∀ (n : Nat) (v : Int), n < l.length → bval (l.set n v) = bval l + Tp n * (v - l.getD n 0) := by
  induction l with
  | nil => intro n v h; exact absurd h (by simp)
  | cons x l ih =>
    intro n v h
    rcases n with _ | n
    · simp only [zSb, bval, List.getD_cons_zero, Tp_zero]; omega
    · have := ih n v (by simpa using h)
      simp only [zSc, bval, List.getD_cons_succ, this, Tp_succ]
      grind
theorem bval_drop (l : List Int) (n : Nat) (h : n < l.length) : bval (l.drop n) = l.getD n 0 + 2 * bval (l.drop (n + 1)) := by
  rw [List.drop_eq_getElem_cons h, getD_lt _ h]
  rfl
theorem Bits.set {l : List Int} (h : Bits l) (n : Nat) {v : Int} (hv : v = 0 ∨ v = 1) : Bits (l.set n v) := fun x hx => by
  rcases List.mem_or_eq_of_mem_set hx with hx | rfl
  · exact h x hx
  · exact hv
theorem bits_zero (n : Nat) : Bits (List.replicate n 0) := fun x hx => .inl (List.eq_of_mem_replicate hx)
theorem bval_zero (n : Nat) : bval (List.replicate n 0) = 0 := by
  induction n with
  | zero => rfl
  | succ n ih => simp only [List.replicate_succ, bval, ih]; rfl
theorem bval_one (x : Int) : bval [x] = x := by simp [bval]
theorem shl_u32 (b : Int) (hb : b = 0 ∨ b = 1) (i : Nat) (h : i < 32) : shl .u32 (b % 4294967296) (i : Int) = b * 2 ^ i := by
 unfold shl
 rw [show min ((i : Int)).toNat (IntKind.bits .u32) = i from by rw [zTn]; exact Nat.min_eq_left (Nat.le_of_lt h)]
 have hp : (0 : Int) < 2 ^ i := Int.pow_pos (by decide)
 have hp2 : (2 : Int) ^ i ≤ 2 ^ 31 := by
  have := Nat.pow_le_pow_right (show 0 < 2 by decide) (show i ≤ 31 by omega)
  exact_mod_cast this
 rcases hb with rfl | rfl
 ·simp; rfl
 ·rw [show (1 : Int) % 4294967296 = 1 from rfl, Int.one_mul, wraps_u32 _ (by omega) (by omega)]
theorem or_low (x b : Int) (i : Nat) (hi : i < 32) (hx : 0 ≤ x) (hx2 : x < 2 ^ i) (hb : b = 0 ∨ b = 1) : Go.bits .or .u32 x (b * 2 ^ i) = x + b * 2 ^ i := by
 have hp : (0 : Int) < 2 ^ i := Int.pow_pos (by decide)
 have hp2 : (2 : Int) ^ i ≤ 2 ^ 31 := by
  have := Nat.pow_le_pow_right (show 0 < 2 by decide) (show i ≤ 31 by omega)
  exact_mod_cast this
 have hc : Go.bits .or .u32 x (b * 2 ^ i) = Go.bits .or .u32 (b * 2 ^ i) x := by
  obtain ⟨p, rfl⟩ := Int.eq_ofNat_of_zero_le hx
  obtain ⟨q, hq⟩ := Int.eq_ofNat_of_zero_le (show 0 ≤ b * 2 ^ i by rcases hb with rfl | rfl <;> omega)
  have hq2 : q < 2 ^ 32 := by rcases hb with rfl | rfl <;> omega
  have hp3 : p < 2 ^ 32 := by omega
  rw [hq, (bits_nat .u32 32 (by decide) wraps_u32 p q hp3 hq2).2, (bits_nat .u32 32 (by decide) wraps_u32 q p hq2 hp3).2, Nat.or_comm]
 rw [hc, bits_join .u32 32 (by decide) wraps_u32 i (b * 2 ^ i) x (by rcases hb with rfl | rfl <;> omega) (by rw [Int.mul_emod_left]) (by rcases hb with rfl | rfl <;> omega) hx hx2 (by omega)]
 omega
theorem pow_split (m : Nat) : (2 : Int) ^ m = 4294967296 ^ (m / 32) * 2 ^ (m % 32) := by
 rw [show (4294967296 : Int) = 2 ^ 32 from rfl, ← Int.pow_mul, ← Int.pow_add]
 congr 1
 omega
theorem limb_top (O : List Int) (lO : Limbs O) (m : Nat) (h : val O < 2 ^ m) : O.getD (m / 32) 0 < 2 ^ (m % 32) := by
 by_cases hm : m / 32 < O.length
 ·have h1 : val O = val (O.take (m / 32)) + 4294967296 ^ (m / 32) * val (O.drop (m / 32)) := by
   have h0 := val_append (O.take (m / 32)) (O.drop (m / 32))
   rw [List.take_append_drop, zLt, Nat.min_eq_left (by omega)] at h0
   exact h0
  have h2 := val_nonneg (lO.take (m / 32))
  have h3 : O.drop (m / 32) = O.getD (m / 32) 0 :: O.drop (m / 32 + 1) := by rw [List.drop_eq_getElem_cons hm, getD_lt _ hm]
  have h4 : 0 ≤ val (O.drop (m / 32 + 1)) := val_nonneg (fun x hx => lO x (List.mem_of_mem_drop hx))
  rw [h3, val] at h1
  rw [h1, pow_split] at h
  have hp : (0 : Int) < 4294967296 ^ (m / 32) := Int.pow_pos (by decide)
  have h5 : (4294967296 : Int) ^ (m / 32) * O.getD (m / 32) 0 < 4294967296 ^ (m / 32) * 2 ^ (m % 32) := by
   have : 0 ≤ 4294967296 ^ (m / 32) * (4294967296 * val (O.drop (m / 32 + 1))) := Int.mul_nonneg (Int.le_of_lt hp) (by omega)
   rw [Int.mul_add] at h
   omega
  exact Int.lt_of_mul_lt_mul_left h5 (Int.le_of_lt hp)
 ·rw [getD_ge _ (by omega)]
  exact Int.pow_pos (by decide)
theorem add_bit (x b P : Int) (hx : 0 ≤ x) (hx2 : x < P) (hb : b = 0 ∨ b = 1) (hP : P ≤ 2 ^ 31) (hp : 0 < P) : 0 ≤ x + b * P ∧ x + b * P < 4294967296 := by
 rcases hb with rfl | rfl
 ·rw [Int.zero_mul]; omega
 ·rw [Int.one_mul]; omega
theorem tdiv32 (m : Nat) (h : m < 4611686018427387904) : wrap64 (Int.tdiv (m : Int) 32) = ((m / 32 : Nat) : Int) := by
 have h0 : Int.tdiv (m : Int) 32 = ((m / 32 : Nat) : Int) := rfl
 rw [h0]
 exact w64 (by omega) (by omega)
theorem tmod32 (m : Nat) : IntKind.u64.wrap (Int.tmod (m : Int) 32) = ((m % 32 : Nat) : Int) := by
 have h0 : Int.tmod (m : Int) 32 = ((m % 32 : Nat) : Int) := rfl
 rw [h0]
 have h1 : m % 32 < 32 := Nat.mod_lt _ (by decide)
 generalize m % 32 = r at h1 ⊢
 show (r : Int) % 18446744073709551616 = r
 omega
theorem limbs_l0 (b : List Int) (hb : Bits b) (N : Nat) (hN : N < 35184372088832) (hbN : b.length ≤ 32 * N) :
  ∀ (j m k : Nat) (O : List Int), m + j = b.length → O.length = N → Limbs O → val O = bval (b.take m) →
  ∃ r, r1_limbs.l0 (k + N + 1 + j + 1) b O (m : Int) = some r ∧ IsNum r (bval b) ∧ r.length ≤ N := by
 intro j
 induction j with
 | zero =>
  intro m k O hm hO lO hv
  refine ⟨cut O, ?_, ?_, by have := cut_length O; omega⟩
  ·rw [r1_limbs.l0, if_neg (by omega), norm_f O (by omega) _ (by omega)]
   rfl
  ·have := IsNum.cut lO
   rw [hv, List.take_of_length_le (by omega)] at this
   exact this
 | succ j ih =>
  intro m k O hm hO lO hv
  have e1 := tdiv32 m (by omega)
  have e2 := tmod32 m
  have hlt : m / 32 < O.length := by omega
  have h31 : m % 32 ≤ 31 := by omega
  have hbm := hb.getD m
  have htop := limb_top O lO m (by rw [hv]; exact (bval_take_lt hb m).2)
  have hol := lO.getD (m / 32)
  have hmod : m % 32 < 32 := Nat.mod_lt _ (by decide)
  have hp : (0 : Int) < 2 ^ (m % 32) := Int.pow_pos (by decide)
  have hp2 : (2 : Int) ^ (m % 32) ≤ 2 ^ 31 := by
   have := Nat.pow_le_pow_right (show 0 < 2 by decide) h31
   exact_mod_cast this
  have hset := add_bit (O.getD (m / 32) 0) (b.getD m 0) (2 ^ (m % 32)) hol.1 htop hbm hp2 hp
  have hsh := shl_u32 (b.getD m 0) hbm (m % 32) hmod
  have hor := or_low (O.getD (m / 32) 0) (b.getD m 0) (m % 32) hmod hol.1 htop hbm
  have hps := pow_split m
  clear htop hp hp2
  generalize (2 : Int) ^ (m % 32) = Q at hset hsh hor hps
  have hv2 : val (O.set (m / 32) (O.getD (m / 32) 0 + b.getD m 0 * Q)) = bval (b.take (m + 1)) := by
   rw [val_set O (m / 32) _ hlt, hv, bval_take_succ, hps]
   have h9 : O.getD (m / 32) 0 + b.getD m 0 * Q - O.getD (m / 32) 0 = b.getD m 0 * Q := by rw [Int.add_comm (O.getD (m / 32) 0)]; exact Int.add_sub_cancel _ _
   rw [h9, Int.mul_assoc, Int.mul_comm Q]
  clear hps
  obtain ⟨r, h1, h2, h3⟩ := ih (m + 1) k (O.set (m / 32) (O.getD (m / 32) 0 + b.getD m 0 * Q)) (by omega) (by rw [List.length_set]; exact hO) (lO.set _ hset.1 hset.2) hv2
  refine ⟨r, ?_, h2, h3⟩
  rw [show k + N + 1 + (j + 1) + 1 = (k + N + 1 + j + 1) + 1 by omega, r1_limbs.l0, if_pos (by omega), e1, e2, if_pos (by omega), if_pos (by omega), if_pos (by omega), if_pos (by omega), rd_nat, rd_nat, hsh, hor, w64 (by omega) (by omega), zTn, show ((m : Int) + 1) = ((m + 1 : Nat) : Int) by omega]
  exact h1
theorem limbs_f (b : List Int) (hb : Bits b) (hl : b.length < 140737488355328) (k : Nat) (hk : 2 * b.length + 4 ≤ k) :
  ∃ r, r1_limbs.f k b = some r ∧ IsNum r (bval b) ∧ 32 * r.length ≤ b.length + 31 := by
 obtain ⟨N, hN⟩ : ∃ N, N = (b.length + 31) / 32 := ⟨_, rfl⟩
 have e1 : wrap64 (Int.tdiv (wrap64 ((b.length : Int) + 31)) 32) = (N : Int) := by
  rw [w64 (n:=(b.length : Int) + 31) (by omega) (by omega), show (b.length : Int) + 31 = ((b.length + 31 : Nat) : Int) by omega, show Int.tdiv ((b.length + 31 : Nat) : Int) 32 = (((b.length + 31) / 32 : Nat) : Int) from rfl, ← hN, w64 (by omega) (by omega)]
 obtain ⟨d, rfl⟩ : ∃ d, k = d + N + 1 + b.length + 1 := ⟨k - (N + 1 + b.length + 1), by omega⟩
 obtain ⟨r, h1, h2, h3⟩ := limbs_l0 b hb N (by omega) (by omega) b.length 0 d (List.replicate N 0) (by omega) (by simp) (limbs_replicate _) (by rw [val_replicate]; rfl)
 refine ⟨r, ?_, h2, by omega⟩
 unfold r1_limbs.f
 rw [e1, if_pos (by omega), zTn, if_pos (by omega)]
 exact h1
theorem rless_l0 (x y : List Int) (hx : Bits x) (hy : Bits y) (M : Nat) (hM : M = max x.length y.length) (hM2 : M < 140737488355000) :
  ∀ (j m k : Nat) (O : List Int) (c : Int), m + j = M → O.length = m → Bits O → (c = 0 ∨ c = 1) → bval O - 2 ^ m * c = bval (x.take m) - bval (y.take m) →
  ∃ r c', r1_less.l0 (k + j + 1) x y O c (m : Int) = some r ∧ Bits r ∧ r.length = M ∧ (c' = 0 ∨ c' = 1) ∧ bval r - 2 ^ M * c' = bval x - bval y := by
 intro j
 induction j with
 | zero =>
  intro m k O c hm hO hB hc hv
  obtain rfl : m = M := by omega
  rw [List.take_of_length_le (by omega), List.take_of_length_le (by omega)] at hv
  exact ⟨O, c, by rw [r1_less.l0, mx_nat, if_neg (by omega)], hB, hO, hc, hv⟩
 | succ j ih =>
  intro m k O c hm hO hB hc hv
  have hxm := hx.getD m
  have hym := hy.getD m
  obtain ⟨s, hs⟩ : ∃ s, s = 2 + x.getD m 0 - y.getD m 0 - c := ⟨_, rfl⟩
  have hs0 : 0 ≤ s ∧ s ≤ 3 := by omega
  obtain ⟨r, c', h1, h2, h3, h4, h5⟩ := ih (m + 1) k (O ++ [s % 2]) (1 - s / 2) (by omega) (by simp [hO]) (hB.append (Bits.one (by omega))) (by omega) (by
   rw [bval_append, bval_one, bval_take_succ, bval_take_succ, hO, Int.pow_succ]
   have := Int.emod_add_mul_ediv s 2
   grind)
  refine ⟨r, c', ?_, h2, h3, h4, h5⟩
  rw [show k + (j + 1) + 1 = (k + j + 1) + 1 by omega, r1_less.l0, mx_nat, if_pos (by omega), at_f, zOb, at_f, zOb, if_pos (by omega), w64 (by omega) (by omega)]
  rw [show (((2 + x.getD m 0) % 256 - y.getD m 0) % 256 - c) % 256 = s by omega, u8_and1 s (by omega) (by omega), show ((m : Int) + 1) = ((m + 1 : Nat) : Int) by omega, show (1 - s / 2) % 256 = 1 - s / 2 by omega]
  exact h1
theorem rless_f (x y : List Int) (hx : Bits x) (hy : Bits y) (h : bval y ≤ bval x) (hM : max x.length y.length < 140737488355000) (k : Nat) (hk : max x.length y.length + 1 ≤ k) :
  ∃ r, r1_less.f k x y = some r ∧ Bits r ∧ r.length = max x.length y.length ∧ bval r = bval x - bval y := by
 obtain ⟨d, rfl⟩ : ∃ d, k = d + max x.length y.length + 1 := ⟨k - (max x.length y.length + 1), by omega⟩
 obtain ⟨r, c, h1, h2, h3, h4, h5⟩ := rless_l0 x y hx hy _ rfl hM (max x.length y.length) 0 d [] 0 (by omega) rfl Bits.nil (.inl rfl) (by simp [bval])
 refine ⟨r, h1, h2, h3, ?_⟩
 have hb := bval_bounds h2
 rw [h3] at hb
 rcases h4 with rfl | rfl
 ·rw [Int.mul_zero] at h5; omega
 ·rw [Int.mul_one] at h5; omega
theorem rsub_f (a b : List Int) (ha : Limbs a) (hb : Limbs b) (la : a.length < 1000000) (lb : b.length < 1000000) (k : Nat) (hk : 200 * a.length + 200 * b.length + 100 ≤ k) :
  (val a < val b ∧ r1_Sub.f k a b = some ([], 17)) ∨ (val b ≤ val a ∧ ∃ r, r1_Sub.f k a b = some (r, 0) ∧ IsNum r (val a - val b)) := by
 unfold r1_Sub.f
 rw [rcmp_f a b ha hb (by omega) (by omega) k (by omega), zOb]
 by_cases h : val a < val b
 ·refine .inl ⟨h, ?_⟩
  unfold cmpI
  rw [if_pos h, if_pos (by omega)]
 ·refine .inr ⟨by omega, ?_⟩
  have hc : ¬ cmpI (val a) (val b) < 0 := by
   unfold cmpI
   rw [if_neg h]
   split <;> omega
  have la2 := bitsOf_length a
  have lb2 := bitsOf_length b
  obtain ⟨t, h1, h2, h3, h4⟩ := rless_f (bitsOf a) (bitsOf b) (bitsOf_bits a) (bitsOf_bits b) (by rw [bval_bitsOf ha, bval_bitsOf hb]; omega) (by omega) k (by omega)
  obtain ⟨r, h5, h6, _⟩ := limbs_f t h2 (by omega) k (by omega)
  refine ⟨r, ?_, by rw [h4, bval_bitsOf ha, bval_bitsOf hb] at h6; exact h6⟩
  rw [if_neg hc, bits_f a ha (by omega) k (by omega), zOb, bits_f b hb (by omega) k (by omega), zOb, h1, zOb, h5]
  rfl

def r1_DivMod.l0 : Nat → List Int → List Int → List Int → List Int → Int → Option (List Int × List Int × Int)
 | 0, _, _, _, _, _ => none
 | k + 1, x1, x7, x8, x9, x10 => if x10 ≥ 0 then (if 0 ≤ x10 then (if x10 < (x7.length : Int) then ((some (([rd x7 x10] : List Int) : List Int)).bind fun y707 => ((r1_bits.f k x9).bind fun t710 => (if y707.length + t710.length < 140737488355328 then ((r1_limbs.f k (y707 ++ t710)).bind fun t716 => ((r1_Cmp.f k t716 x1).bind fun t719 => (if t719 ≥ 0 then ((r1_Sub.f k t716 x1).bind fun bt720 => (if x10 < (x8.length : Int) then (r1_DivMod.l0 k x1 x7 (x8.set (x10 : Int).toNat 1) bt720.1 (wrap64 (x10 - 1))) else (none))) else (r1_DivMod.l0 k x1 x7 x8 t716 (wrap64 (x10 - 1)))))) else (none)))) else (none)) else (none)) else ((r1_limbs.f k x8).bind fun t703 => (some (t703, x9, 0)))
def r1_DivMod.f (k : Nat) (l0 : List Int) (l1 : List Int) : Option (List Int × List Int × Int) := (r1_Norm.f k l1).bind fun t694 => (if (t694.length : Int) = 0 then (some (([] : List Int), ([] : List Int), 15)) else ((r1_bits.f k l0).bind fun t697 => (if 0 ≤ (t697.length : Int) then (if ((t697.length : Int) : Int).toNat ≤ 281474976710656 then (r1_DivMod.l0 k t694 t697 (List.replicate ((t697.length : Int) : Int).toNat 0) ([] : List Int) (wrap64 ((t697.length : Int) - 1))) else (none)) else (none))))
def r1_DivMod.T10 : Bool × List (List Nat × List Nat) := (true, [([], []), ([], []), ([0, 1], [0, 1]), ([2], [2]), ([3], [3]), ([], []), ([5], [5]), ([4, 6, 6], [4, 6]), ([7, 7], [7]), ([8, 8, 0, 1, 2, 3, 4, 5, 6, 7, 8], [5, 8])])
def r1_DivMod.B10 : List Nat := [0, 0, 3, 7, 15, 0, 32, 127, 255, 511]
theorem r1_DivMod.tab10 : rtab .any (opsOf Tryd.f37 10) = r1_DivMod.T10 := by kernel_rfl
theorem r1_DivMod.bits10 : waitsOk r1_DivMod.T10.2 r1_DivMod.B10 = true := by kernel_rfl
theorem r1_DivMod.calls (k : Nat) (A0 : Option Addr) (c0 : Nat) (l0 : List Int) (A1 : Option Addr) (c1 : Nat) (l1 : List Int) (r1 : List Int) (r2 : List Int) (r3 : Int) (w : World) (hr0 : Kd.C (Kd.int .u32) w A0 l0.length l0) (hc0 : l0.length ≤ c0) (hr1 : Kd.C (Kd.int .u32) w A1 l1.length l1) (hc1 : l1.length ≤ c1) (h : r1_DivMod.f k l0 l1 = some (r1, r2, r3)) :
  Calls Tryd.prog 37 #[.slice A0 l0.length c0, .slice A1 l1.length c1] w fun e w' => ∃ v0_ v1_ : Value, e = .returned (.tuple #[v0_, v1_, .int .i64 r3]) ∧ Kd.R (Kd.int .u32) 58 w' w.heap.size (fun k_ => some k_ ≠ (v1_ : Value).ownBlock) v0_ r1 ∧ Kd.R (Kd.int .u32) 58 w' w.heap.size (fun k_ => some k_ ≠ (v0_ : Value).ownBlock) v1_ r2 ∧ Below w.heap.size w w' := by
 have HR0 := zMk hr0
 have HC0 := zMk hc0
 clear hr0 hc0
 have HR1 := zMk hr1
 have HC1 := zMk hc1
 clear hr1 hc1
 have HB := zMk (Below.refl w.heap.size w)
 have H : ((r1_Norm.f k l1).bind fun t694 => (if (t694.length : Int) = 0 then (some (([] : List Int), ([] : List Int), 15)) else ((r1_bits.f k l0).bind fun t697 => (if 0 ≤ (t697.length : Int) then (if ((t697.length : Int) : Int).toNat ≤ 281474976710656 then (r1_DivMod.l0 k t694 t697 (List.replicate ((t697.length : Int) : Int).toNat 0) ([] : List Int) (wrap64 ((t697.length : Int) - 1))) else (none)) else (none))))) = some (r1, r2, r3) := h
 clear h
 replace H := bnd H
 obtain ⟨t694, A30, H⟩ := H
 have A3 := zMk A30
 clear A30
 by_cases c4 : (t694.length : Int) = 0
 ·rw [if_pos c4] at H
  have c4b0 : ((t694.length : Int) == 0) = true := beq_iff_eq.mpr c4
  have c4b1 : ((t694.length : Int) != 0) = false := bne_eq_false_iff_eq.mpr c4
  clear c4
  simp only [Option.some.injEq, Prod.mk.injEq] at H
  obtain ⟨rfl, rfl, rfl⟩ := H
  go_enter Tryd.func37, Tryd.ntmps37
  go_wp2_with (first | ((with_reducible refine gate_callee (f:=63) rfl ?_); refine goesL_ (some 12) rfl rfl Tryd.func63 (by kernel_rfl) rfl #[.slice A1 l1.length c1] rfl (by (try simp only [zMa, zMc, zMn]); first |  done|  rfl|  (simp only [zLd, zLt]; rfl)) ?_; (with_reducible refine (r1_Norm.calls k _ _ l1 t694 _ ?side1 ?side2 A3.out).mono ?_); (case side1 => repeat (first |  exact HR1.out|  (with_reducible refine zCa ?_ _)|(with_reducible refine zCn ?_ _)|(with_reducible refine zCd ?_))); (case side2 => exact HC1.out); rintro e w5 ⟨v695, rfl, ho0, hb⟩; refine ⟨_, rfl, ?_⟩; have HO696 := zMk (zRl ho0 (zBs (uT HB.out))); replace HB := zMk (zBt (uT HB.out) hb); obtain ⟨Ao6, co6, eo6⟩ := zRs HO696.out; subst eo6))
  go_ret3
  exact ⟨_, _, by first | rfl | (simp [errW_none, errW_some] <;> rfl) | (simp [*, errW_none, errW_some] <;> rfl), by first | exact Kd.R_nil _ _ _ _ _ | exact Kd.N_nil _ _ _ _ _ | exact Kd.V_nil _ _ _ _ _ | exact Kd.Q_nil _ _ _ _ _ | exact Kd.S_nil _ _ _ _ _, by first | exact Kd.R_nil _ _ _ _ _ | exact Kd.N_nil _ _ _ _ _ | exact Kd.V_nil _ _ _ _ _ | exact Kd.Q_nil _ _ _ _ _ | exact Kd.S_nil _ _ _ _ _, by exact uT HB.out⟩
 ·rw [if_neg c4] at H
  have c4b0 : ((t694.length : Int) == 0) = false := beq_eq_false_iff_ne.mpr c4
  have c4b1 : ((t694.length : Int) != 0) = true := bne_iff_ne.mpr c4
  have c4b2 : ¬ (t694 = []) := fun h_ => c4 (by rw [h_]; rfl)
  replace H := bnd H
  obtain ⟨t697, A70, H⟩ := H
  have A7 := zMk A70
  clear A70
  by_cases c8 : 0 ≤ (t697.length : Int)
  ·rw [if_pos c8] at H
   have c8b0 := eq_true c8
   have c8b1 : decide (0 ≤ (t697.length : Int)) = true := decide_eq_true c8
   clear c8
   by_cases c9 : ((t697.length : Int) : Int).toNat ≤ 281474976710656
   rotate_left
   ·rw [if_neg c9] at H; exact absurd H (by simp)
   rw [if_pos c9] at H
   have c9b0 := eq_true c9
   have c9b1 : decide (((t697.length : Int) : Int).toNat ≤ 281474976710656) = true := decide_eq_true c9
   clear c9
   obtain ⟨y700, hy700⟩ : ∃ y_ : List Int, y_ = (List.replicate ((t697.length : Int) : Int).toNat 0) := ⟨_, rfl⟩
   replace H : (r1_DivMod.l0 k t694 t697 y700 ([] : List Int) (wrap64 ((t697.length : Int) - 1))) = some (r1, r2, r3) := by first | (rw [hy700]; with_reducible exact H) | (have H2_ := bsm H; first | (rw [hy700]; with_reducible exact H2_) | with_reducible exact H2_) | with_reducible exact H | (rw [hy700]; exact H) | exact H
   have Ny700 := zMk hy700
   clear hy700
   have H' := zMk H
   clear H
   go_enter Tryd.func37, Tryd.ntmps37
   go_wp2_with (first | ((with_reducible refine gate_callee (f:=63) rfl ?_); refine goesL_ (some 12) rfl rfl Tryd.func63 (by kernel_rfl) rfl #[.slice A1 l1.length c1] rfl (by (try simp only [zMa, zMc, zMn]); first |  done|  rfl|  (simp only [zLd, zLt]; rfl)) ?_; (with_reducible refine (r1_Norm.calls k _ _ l1 t694 _ ?side1 ?side2 A3.out).mono ?_); (case side1 => repeat (first |  exact HR1.out|  (with_reducible refine zCa ?_ _)|(with_reducible refine zCn ?_ _)|(with_reducible refine zCd ?_))); (case side2 => exact HC1.out); rintro e w10 ⟨v695, rfl, ho0, hb⟩; refine ⟨_, rfl, ?_⟩; have HO696 := zMk (zRl ho0 (zBs (uT HB.out))); replace HB := zMk (zBt (uT HB.out) hb); obtain ⟨Ao11, co11, eo11⟩ := zRs HO696.out; subst eo11)|((with_reducible refine gate_callee (f:=64) rfl ?_); refine goesL_ (some 17) rfl rfl Tryd.func64 (by kernel_rfl) rfl #[.slice A0 l0.length c0] rfl (by (try simp only [zMa, zMc, zMn]); first |  done|  rfl|  (simp only [zLd, zLt]; rfl)) ?_; (with_reducible refine (r1_bits.calls k _ _ l0 t697 _ ?side1 ?side2 A7.out).mono ?_); (case side1 => repeat (first |  exact (Kd.C_below HR0.out HB.out)|(with_reducible refine zCa ?_ _)|(with_reducible refine zCn ?_ _)|(with_reducible refine zCd ?_))); (case side2 => exact HC0.out); rintro e w12 ⟨v698, rfl, ho0, hb⟩; refine ⟨_, rfl, ?_⟩; replace HO696 := zMk (zRb (uR HO696.out) hb); have HO699 := zMk (zRl ho0 (zBs (uT HB.out))); replace HB := zMk (zBt (uT HB.out) hb); obtain ⟨Ao13, co13, eo13⟩ := zRs HO699.out; subst eo13)|((with_reducible refine gate_dst (N:=20) rfl ?_); refine Kd.R_make (Kd.int .u8) _ 5 rfl (N:=20) rfl 67 _ _ rfl (t697.length : Int) rfl rfl Tryd.underlying67 (.int .u8 0) 1 info5 rfl (by decide) (by omega) 0 (ok:=fun _ => True) (okp:=fun _ => True) rfl (fun _ hk => hk) trivial (of_decide_eq_true (by first | (with_reducible assumption)|  assumption)) (Nat.le_trans (Nat.mul_le_mul_right _ (of_decide_eq_true (by first | (with_reducible assumption)|  assumption) : (t697.length : Int).toNat ≤ 281474976710656)) (by omega)) (Below.refl _ _) (Nat.le_refl _) ?_; intro v701 w14 ho15 hb hg_ hnew_; clear hg_ hnew_; (first |  rw [← Ny700.out] at ho15|  (simp only [Int.reduceToNat] at ho15; rw [← Ny700.out] at ho15)); replace HO696 := zMk (zRb (uR HO696.out) hb); have HO702 := zMk (zRl (zRw ho15 (zRt (uR HO699.out))) (zBs (uT HB.out))); replace HO699 := zMk (zRe (uR HO699.out) (zRz ho15) hb); replace HB := zMk (zBt (uT HB.out) hb); clear hb ho15))
   go_loopg [9, 10] k (fun kq v9 v10 w' => ∃ (x8_1 : List Int) (x9_1 : List Int) (x10_1 : Int), v10 = .int .i64 x10_1 ∧ Aside0 (r1_DivMod.l0 kq t694 t697 x8_1 x9_1 x10_1 = some (r1, r2, r3)) ∧ Aside0 (kq ≤ k) ∧ Aside0 (Kd.R (Kd.int .u32) 58 w' w.heap.size (fun k_ => some k_ ≠ (v9 : Value).ownBlock) (.slice Ao11 t694.length co11) t694) ∧ Aside0 (Kd.R (Kd.int .u8) 5 w' w.heap.size (fun k_ => some k_ ≠ (v701 : Value).ownBlock) (.slice Ao13 t697.length co13) t697) ∧ Aside0 (Kd.R (Kd.int .u8) 5 w' w.heap.size (fun k_ => some k_ ≠ ((.slice Ao13 t697.length co13) : Value).ownBlock) v701 x8_1) ∧ Aside0 (Kd.R (Kd.int .u32) 58 w' w.heap.size (fun k_ => some k_ ≠ ((.slice Ao11 t694.length co11) : Value).ownBlock) v9 x9_1) ∧ Aside0 (Below w.heap.size w w'))
   case atStart => exact ⟨(y700), (([] : List Int)), (wrap64 ((t697.length : Int) - 1)), (by first | rfl | (simp; done) | (simp [*]; done)), H', ⟨Nat.le_refl _⟩, ⟨by (with_reducible repeat (first | apply zRa | apply zRn | apply zRd)); exact zRm HO696.out (fun _ hk => (by simp [Value.ownBlock]))⟩, ⟨by (with_reducible repeat (first | apply zRa | apply zRn | apply zRd)); exact zRm HO699.out (fun _ hk => hk.2)⟩, ⟨by (with_reducible repeat (first | apply zRa | apply zRn | apply zRd)); exact zRm HO702.out (fun _ hk => hk.2)⟩, ⟨by first | exact Kd.R_nil _ _ _ _ _ | exact Kd.N_nil _ _ _ _ _ | exact Kd.V_nil _ _ _ _ _ | exact Kd.Q_nil _ _ _ _ _ | exact Kd.S_nil _ _ _ _ _⟩, ⟨by exact uT HB.out⟩⟩
   clear H'
   obtain ⟨x8_1, x9_1, x10_1, rfl, HA, HK1, HO_1, HO_7, HO_8, HO_9, HB⟩ := hrel
   rcases gk with _ | k1
   ·exact absurd HA.out (by simp [r1_DivMod.l0])
   have H := HA.out
   clear HA
   simp only [r1_DivMod.l0] at H
   by_cases c16 : x10_1 ≥ 0
   ·rw [if_pos c16] at H
    have c16b0 : decide (0 ≤ x10_1) = true := decide_eq_true c16
    clear c16
    by_cases c17 : 0 ≤ x10_1
    rotate_left
    ·rw [if_neg c17] at H; exact absurd H (by simp)
    rw [if_pos c17] at H
    have c17b0 : decide (0 ≤ x10_1) = true := decide_eq_true c17
    clear c17
    by_cases c18 : x10_1 < (t697.length : Int)
    rotate_left
    ·rw [if_neg c18] at H; exact absurd H (by simp)
    rw [if_pos c18] at H
    have c18b0 : decide (x10_1 < (t697.length : Int)) = true := decide_eq_true c18
    clear c18
    obtain ⟨y707, hy707⟩ : ∃ y_ : List Int, y_ = (([rd t697 x10_1] : List Int)) := ⟨_, rfl⟩
    replace H : ((r1_bits.f k1 x9_1).bind fun t710 => (if y707.length + t710.length < 140737488355328 then ((r1_limbs.f k1 (y707 ++ t710)).bind fun t716 => ((r1_Cmp.f k1 t716 t694).bind fun t719 => (if t719 ≥ 0 then ((r1_Sub.f k1 t716 t694).bind fun bt720 => (if x10_1 < (x8_1.length : Int) then (r1_DivMod.l0 k1 t694 t697 (x8_1.set (x10_1 : Int).toNat 1) bt720.1 (wrap64 (x10_1 - 1))) else (none))) else (r1_DivMod.l0 k1 t694 t697 x8_1 t716 (wrap64 (x10_1 - 1)))))) else (none))) = some (r1, r2, r3) := by first | (rw [hy707]; with_reducible exact H) | (have H2_ := bsm H; first | (rw [hy707]; with_reducible exact H2_) | with_reducible exact H2_) | with_reducible exact H | (rw [hy707]; exact H) | exact H
    have Ny707 := zMk hy707
    clear hy707
    replace H := bnd H
    obtain ⟨t710, A190, H⟩ := H
    have A19 := zMk A190
    clear A190
    by_cases c20 : y707.length + t710.length < 140737488355328
    rotate_left
    ·rw [if_neg c20] at H; exact absurd H (by simp)
    rw [if_pos c20] at H
    have LMc20 := zMk c20
    clear c20
    obtain ⟨y713, hy713⟩ : ∃ y_ : List Int, y_ = (y707 ++ t710) := ⟨_, rfl⟩
    replace H : ((r1_limbs.f k1 y713).bind fun t716 => ((r1_Cmp.f k1 t716 t694).bind fun t719 => (if t719 ≥ 0 then ((r1_Sub.f k1 t716 t694).bind fun bt720 => (if x10_1 < (x8_1.length : Int) then (r1_DivMod.l0 k1 t694 t697 (x8_1.set (x10_1 : Int).toNat 1) bt720.1 (wrap64 (x10_1 - 1))) else (none))) else (r1_DivMod.l0 k1 t694 t697 x8_1 t716 (wrap64 (x10_1 - 1)))))) = some (r1, r2, r3) := by first | (rw [hy713]; with_reducible exact H) | (have H2_ := bsm H; first | (rw [hy713]; with_reducible exact H2_) | with_reducible exact H2_) | with_reducible exact H | (rw [hy713]; exact H) | exact H
    have Ny713 := zMk hy713
    clear hy713
    replace H := bnd H
    obtain ⟨t716, A210, H⟩ := H
    have A21 := zMk A210
    clear A210
    replace H := bnd H
    obtain ⟨t719, A220, H⟩ := H
    have A22 := zMk A220
    clear A220
    by_cases c23 : t719 ≥ 0
    ·rw [if_pos c23] at H
     have c23b0 : decide (0 ≤ t719) = true := decide_eq_true c23
     clear c23
     replace H := bnd H
     obtain ⟨⟨t720, t721⟩, A240, H⟩ := H
     replace H : (if x10_1 < (x8_1.length : Int) then (r1_DivMod.l0 k1 t694 t697 (x8_1.set (x10_1 : Int).toNat 1) t720 (wrap64 (x10_1 - 1))) else (none)) = some (r1, r2, r3) := H
     have A24 := zMk A240
     clear A240
     by_cases c25 : x10_1 < (x8_1.length : Int)
     rotate_left
     ·rw [if_neg c25] at H; exact absurd H (by simp)
     rw [if_pos c25] at H
     have c25b0 : decide (x10_1 < (x8_1.length : Int)) = true := decide_eq_true c25
     clear c25
     obtain ⟨y724, hy724⟩ : ∃ y_ : List Int, y_ = (x8_1.set (x10_1 : Int).toNat 1) := ⟨_, rfl⟩
     replace H : (r1_DivMod.l0 k1 t694 t697 y724 t720 (wrap64 (x10_1 - 1))) = some (r1, r2, r3) := by first | (rw [hy724]; with_reducible exact H) | (have H2_ := bsm H; first | (rw [hy724]; with_reducible exact H2_) | with_reducible exact H2_) | with_reducible exact H | (rw [hy724]; exact H) | exact H
     have Ny724 := zMk hy724
     clear hy724
     have H' := zMk H
     clear H
     obtain ⟨Ao27, co27, eo27⟩ := zRs HO_9.out
     subst eo27
     try go_wp2
     replace HO_1 := zMk (zRd HO_1.out)
     replace HO_7 := zMk (zRd HO_7.out)
     replace HO_8 := zMk (zRd HO_8.out)
     replace HO_9 := zMk (zRd HO_9.out)
     replace HB := zMk (zBd HB.out)
     have p706 : 0 ≤ (x10_1 : Int) := of_decide_eq_true (by assumption)
     have q706 : x10_1 < (t697.length : Int) := of_decide_eq_true (by assumption)
     obtain ⟨ad706, e706, hx706_0⟩ := zAi (zRr HO_7.out).2.2 x10_1 p706 q706
     cases e706
     replace p706 := eq_true p706
     replace q706 := eq_true q706
     refine start_ (n:=10) (S:=fun w' => w'.cell? (ad706.add (x10_1).toNat) = some (.int .u8 (rd t697 x10_1))) (ds:=[7]) #[false,false,false,false,false,false,false,false,false,false] (by kernel_rfl) rfl rfl (hx706_0) (fun hHeld => ?_); refine with_tabW r1_DivMod.tab10 r1_DivMod.bits10 (fun HT_ HW_ => ?_)
     generalize wr.drew = w28 at HO_1 HO_7 HO_8 HO_9 HB hx706_0 hHeld ⊢
     refine pure_ (i:=0) (N:=some 28) (v:=?_) (a' := ?_) #[true,false,false,false,false,false,false,false,false,false] rfl rfl (any_of HT_.out (by kernel_rfl)) (fun _ _ _ h => h) (Or.inl ⟨by rfl, ?_⟩) ?_ ?_
     rotate_left
     ·intro w'
      go_simp
      with_reducible rfl
     rotate_left
     ·simp only [Act.put, zSa, zSb, zSc, i64_w, i32_w]
      rfl
     refine pure_ (i:=1) (N:=some 29) (v:=?_) (a' := ?_) #[true,true,false,false,false,false,false,false,false,false] rfl rfl (any_of HT_.out (by kernel_rfl)) (fun _ _ _ h => h) (Or.inl ⟨by rfl, ?_⟩) ?_ ?_
     rotate_left
     ·intro w'
      go_simp
      with_reducible rfl
     rotate_left
     ·simp only [Act.put, zSa, zSb, zSc, i64_w, i32_w]
      rfl
     refine pure_ (i:=2) (N:=some 30) (v:=?_) (a' := ?_) #[true,true,true,false,false,false,false,false,false,false] rfl rfl (any_of HT_.out (by kernel_rfl)) (fun _ _ _ h => h) (Or.inl ⟨by rfl, ?_⟩) ?_ ?_
     rotate_left
     ·intro w'
      go_simp
      with_reducible rfl
     rotate_left
     ·simp only [Act.put, zSa, zSb, zSc, i64_w, i32_w]
      rfl
     refine pure_ (i:=5) (N:=some 33) (v:=?_) (a' := ?_) #[true,true,true,false,false,true,false,false,false,false] rfl rfl (any_of HT_.out (by kernel_rfl)) (fun _ _ _ h => h) (Or.inl ⟨by rfl, ?_⟩) ?_ ?_
     rotate_left
     ·intro w'
      go_simp
      with_reducible rfl
     rotate_left
     ·simp only [Act.put, zSa, zSb, zSc, i64_w, i32_w]
      rfl
     refine take_ (i:=3) (N:=some 31) (v:=?_) (a' := ?_) #[true,true,true,true,false,true,false,false,false,false] rfl rfl (take_ofW HT_.out HW_.out (by kernel_rfl)) (fun _ _ _ h => h) (Or.inl ⟨by rfl, ?_⟩) hHeld ?_ ?_
     rotate_left
     ·intro w' s0
      go_simp
      with_reducible rfl
     rotate_left
     ·simp only [Act.put, zSa, zSb, zSc, i64_w, i32_w]
      rfl
     refine join_ (σ:=Value × Value) 3 #[true,true,true,true,true,true,true,false,false,false] (fun s_ => [(32, s_.1), (34, s_.2)]) (fun s_ w' => (w'.cell? (ad706.add (x10_1).toNat) = some (.int .u8 (rd t697 x10_1))) ∧ (Kd.R (Kd.int .u8) 5 w' w.heap.size (fun k_ => some k_ ≠ (s_.2 : Value).ownBlock ∧ some k_ ≠ (.slice (some ad706) t697.length co13 : Value).ownBlock ∧ some k_ ≠ (v701 : Value).ownBlock) s_.1 y707) ∧ (Kd.R (Kd.int .u8) 5 w' w.heap.size (fun k_ => some k_ ≠ (s_.1 : Value).ownBlock ∧ some k_ ≠ (.slice (some ad706) t697.length co13 : Value).ownBlock ∧ some k_ ≠ (v701 : Value).ownBlock) s_.2 t710) ∧ (Kd.R (Kd.int .u32) 58 w' w.heap.size (fun k_ => some k_ ≠ (.slice Ao27 x9_1.length co27 : Value).ownBlock) (.slice Ao11 t694.length co11) t694) ∧ (Kd.R (Kd.int .u8) 5 w' w.heap.size (fun k_ => some k_ ≠ (s_.1 : Value).ownBlock ∧ some k_ ≠ (s_.2 : Value).ownBlock ∧ some k_ ≠ (v701 : Value).ownBlock) (.slice (some ad706) t697.length co13) t697) ∧ (Kd.R (Kd.int .u8) 5 w' w.heap.size (fun k_ => some k_ ≠ (s_.1 : Value).ownBlock ∧ some k_ ≠ (s_.2 : Value).ownBlock ∧ some k_ ≠ (.slice (some ad706) t697.length co13 : Value).ownBlock) v701 x8_1) ∧ (Kd.R (Kd.int .u32) 58 w' w.heap.size (fun k_ => some k_ ≠ (.slice Ao11 t694.length co11 : Value).ownBlock) (.slice Ao27 x9_1.length co27) x9_1) ∧ (Below w.heap.size w w')) ?_ ?_
     rotate_left
     ·intro hCont
      refine two_ (i:=4) (j:=6) (Ni:=some 32) (Nj:=some 34) #[true,true,true,true,true,true,false,false,false,false] #[true,true,true,true,false,true,true,false,false,false] rfl rfl rfl rfl (two_of HT_.out (by kernel_rfl)) (by decide) (by decide) (fun K hK => ?_) (fun K hK => ?_)
      ·skip
       refine Kd.R_lit_step (Kd.int .u8) _ 5 ?hg (N:=32) ?hd (xs:=([rd t697 x10_1] : List Int)) (inner:=[.int .u8 (rd t697 x10_1)]) (ok:=fun _ => True) (okp:=fun _ => True) ?hr ?hp (fun _ hk => hk) trivial (Below.refl _ _) (Nat.le_refl _) (by simp) ?_; (case hd => rfl); (case hg => rfl); (case hr => first | (go_simp; done) | (go_simp; rfl) | (go_simp; rw [show ∀ x : Int, IntKind.u32.wrap (IntKind.u8.wrap x) = x % 256 from fun x => (by show (x % 256) % 4294967296 = x % 256; omega)])); (case hp => exact (Reps.one (show Kd.M (Kd.int .u8) _ _ _ (rd t697 x10_1) [.int .u8 (rd t697 x10_1)] from rfl) (Reps.none _ _)))
       intro v708 w29 ho30 hb hg_ hnew_
       have HS0_ := (hb.cell (World.block_lt_of_cell? _ _ (hHeld))).trans (hHeld)
       clear hg_ hnew_
       (first | rw [← Ny707.out] at ho30 | (simp only [Int.reduceToNat] at ho30; rw [← Ny707.out] at ho30))
       replace HO_1 := zMk (zRb (uR HO_1.out) hb)
       replace HO_9 := zMk (zRb (uR HO_9.out) hb)
       have HO709 := zMk (zRl (zRw (zRw ho30 (zRt (uR HO_7.out))) (zRt (uR HO_8.out))) (zBs (uT HB.out)))
       replace HO_7 := zMk (zRe (uR HO_7.out) (zRz ho30) hb)
       replace HO_8 := zMk (zRe (uR HO_8.out) (zRz ho30) hb)
       replace HB := zMk (zBt (uT HB.out) hb)
       clear hb ho30
       refine hK.out _ _ (HS0_) (fun hHeld => ?_)
       clear hK K
       refine norm_ (a' := ?_) ?_ ?_
       rotate_left
       ·show Act.put _ (some 32) _ = _
        simp only [Act.put, zSa, zSb, zSc, i64_w, i32_w]
        rfl
       refine one_ (i:=6) (N:=some 34) #[true,true,true,true,true,true,true,false,false,false] rfl rfl (one_of HT_.out (by kernel_rfl)) (by decide) (fun K hK => ?_)
       refine goes_ Tryd.func64 (by kernel_rfl) rfl #[.slice Ao27 x9_1.length co27] (by rfl) rfl rfl (by (try simp only [zMa, zMc, zMn]); first | done | rfl | (simp only [zLd, zLt]; rfl)) ?_
       with_reducible refine (r1_bits.calls k1 _ _ x9_1 t710 _ ?side1 ?side2 A19.out).mono ?_
       (case side1 => exact uC (zRr HO_9.out).2.2)
       (case side2 => exact (zRr HO_9.out).2.1)
       rintro e w31 ⟨v711, rfl, ho0, hb⟩
       have HS0_ := (hb.cell (World.block_lt_of_cell? _ _ (hHeld))).trans (hHeld)
       refine ⟨_, rfl, ?_⟩
       replace HO_1 := zMk (zRb (uR HO_1.out) hb)
       replace HO_9 := zMk (zRb (uR HO_9.out) hb)
       have HO712 := zMk (zRl (zRw (zRw (zRw ho0 (zRt (uR HO_7.out))) (zRt (uR HO_8.out))) (zRt (uR HO709.out))) (zBs (uT HB.out)))
       replace HO_7 := zMk (zRe (uR HO_7.out) (zRz ho0) hb)
       replace HO_8 := zMk (zRe (uR HO_8.out) (zRz ho0) hb)
       replace HO709 := zMk (zRe (uR HO709.out) (zRz ho0) hb)
       replace HB := zMk (zBt (uT HB.out) hb)
       refine hK.out _ _ (HS0_) (fun hHeld => ?_)
       clear hK K
       refine norm_ (a' := ?_) ?_ ?_
       rotate_left
       ·show Act.put _ (some 34) _ = _
        simp only [Act.put, zSa, zSb, zSc, i64_w, i32_w]
        rfl
       exact norm_ (by simp only [putAll, Act.put, zSa, zSb, zSc]) (hCont (v708, v711) _ ⟨hHeld, (zRm HO709.out (fun _ hk => ⟨hk.2, ⟨hk.1.1.2, hk.1.2⟩⟩)), (zRm HO712.out (fun _ hk => ⟨hk.2, ⟨hk.1.1.2, hk.1.2⟩⟩)), (uR HO_1.out), (zRm HO_7.out (fun _ hk => ⟨hk.1.2, ⟨hk.2, hk.1.1⟩⟩)), (zRm HO_8.out (fun _ hk => ⟨hk.1.2, ⟨hk.2, hk.1.1⟩⟩)), (uR HO_9.out), (uT HB.out)⟩)
      ·skip
       refine goes_ Tryd.func64 (by kernel_rfl) rfl #[.slice Ao27 x9_1.length co27] (by rfl) rfl rfl (by (try simp only [zMa, zMc, zMn]); first | done | rfl | (simp only [zLd, zLt]; rfl)) ?_
       with_reducible refine (r1_bits.calls k1 _ _ x9_1 t710 _ ?side1 ?side2 A19.out).mono ?_
       (case side1 => exact uC (zRr HO_9.out).2.2)
       (case side2 => exact (zRr HO_9.out).2.1)
       rintro e w29 ⟨v711, rfl, ho0, hb⟩
       have HS0_ := (hb.cell (World.block_lt_of_cell? _ _ (hHeld))).trans (hHeld)
       refine ⟨_, rfl, ?_⟩
       replace HO_1 := zMk (zRb (uR HO_1.out) hb)
       replace HO_9 := zMk (zRb (uR HO_9.out) hb)
       have HO712 := zMk (zRl (zRw (zRw ho0 (zRt (uR HO_7.out))) (zRt (uR HO_8.out))) (zBs (uT HB.out)))
       replace HO_7 := zMk (zRe (uR HO_7.out) (zRz ho0) hb)
       replace HO_8 := zMk (zRe (uR HO_8.out) (zRz ho0) hb)
       replace HB := zMk (zBt (uT HB.out) hb)
       refine hK.out _ _ (HS0_) (fun hHeld => ?_)
       clear hK K
       refine norm_ (a' := ?_) ?_ ?_
       rotate_left
       ·show Act.put _ (some 34) _ = _
        simp only [Act.put, zSa, zSb, zSc, i64_w, i32_w]
        rfl
       refine one_ (i:=4) (N:=some 32) #[true,true,true,true,true,true,true,false,false,false] rfl rfl (one_of HT_.out (by kernel_rfl)) (by decide) (fun K hK => ?_)
       refine Kd.R_lit_step (Kd.int .u8) _ 5 ?hg (N:=32) ?hd (xs:=([rd t697 x10_1] : List Int)) (inner:=[.int .u8 (rd t697 x10_1)]) (ok:=fun _ => True) (okp:=fun _ => True) ?hr ?hp (fun _ hk => hk) trivial (Below.refl _ _) (Nat.le_refl _) (by simp) ?_; (case hd => rfl); (case hg => rfl); (case hr => first | (go_simp; done) | (go_simp; rfl) | (go_simp; rw [show ∀ x : Int, IntKind.u32.wrap (IntKind.u8.wrap x) = x % 256 from fun x => (by show (x % 256) % 4294967296 = x % 256; omega)])); (case hp => exact (Reps.one (show Kd.M (Kd.int .u8) _ _ _ (rd t697 x10_1) [.int .u8 (rd t697 x10_1)] from rfl) (Reps.none _ _)))
       intro v708 w30 ho31 hb hg_ hnew_
       have HS0_ := (hb.cell (World.block_lt_of_cell? _ _ (hHeld))).trans (hHeld)
       clear hg_ hnew_
       (first | rw [← Ny707.out] at ho31 | (simp only [Int.reduceToNat] at ho31; rw [← Ny707.out] at ho31))
       replace HO_1 := zMk (zRb (uR HO_1.out) hb)
       replace HO_9 := zMk (zRb (uR HO_9.out) hb)
       have HO709 := zMk (zRl (zRw (zRw (zRw ho31 (zRt (uR HO_7.out))) (zRt (uR HO_8.out))) (zRt (uR HO712.out))) (zBs (uT HB.out)))
       replace HO_7 := zMk (zRe (uR HO_7.out) (zRz ho31) hb)
       replace HO_8 := zMk (zRe (uR HO_8.out) (zRz ho31) hb)
       replace HO712 := zMk (zRe (uR HO712.out) (zRz ho31) hb)
       replace HB := zMk (zBt (uT HB.out) hb)
       clear hb ho31
       refine hK.out _ _ (HS0_) (fun hHeld => ?_)
       clear hK K
       refine norm_ (a' := ?_) ?_ ?_
       rotate_left
       ·show Act.put _ (some 32) _ = _
        simp only [Act.put, zSa, zSb, zSc, i64_w, i32_w]
        rfl
       exact norm_ (by simp only [putAll, Act.put, zSa, zSb, zSc]) (hCont (v708, v711) _ ⟨hHeld, (zRm HO709.out (fun _ hk => ⟨hk.2, ⟨hk.1.1.2, hk.1.2⟩⟩)), (zRm HO712.out (fun _ hk => ⟨hk.2, ⟨hk.1.1.2, hk.1.2⟩⟩)), (uR HO_1.out), (zRm HO_7.out (fun _ hk => ⟨hk.2, ⟨hk.1.2, hk.1.1⟩⟩)), (zRm HO_8.out (fun _ hk => ⟨hk.2, ⟨hk.1.2, hk.1.1⟩⟩)), (uR HO_9.out), (uT HB.out)⟩)
     rintro ⟨v708, v711⟩ w32 ⟨hS_, h0_, h1_, h2_, h3_, h4_, h5_, h6_⟩
     have n0_ : Aside0 (Kd.R (Kd.int .u8) 5 w32 w.heap.size (fun k_ => some k_ ≠ (v711 : Value).ownBlock ∧ some k_ ≠ (.slice (some ad706) t697.length co13 : Value).ownBlock ∧ some k_ ≠ (v701 : Value).ownBlock) v708 y707) := ⟨h0_⟩
     have n1_ : Aside0 (Kd.R (Kd.int .u8) 5 w32 w.heap.size (fun k_ => some k_ ≠ (v708 : Value).ownBlock ∧ some k_ ≠ (.slice (some ad706) t697.length co13 : Value).ownBlock ∧ some k_ ≠ (v701 : Value).ownBlock) v711 t710) := ⟨h1_⟩
     have n2_ : Aside0 (Kd.R (Kd.int .u32) 58 w32 w.heap.size (fun k_ => some k_ ≠ (.slice Ao27 x9_1.length co27 : Value).ownBlock) (.slice Ao11 t694.length co11) t694) := ⟨h2_⟩
     have n3_ : Aside0 (Kd.R (Kd.int .u8) 5 w32 w.heap.size (fun k_ => some k_ ≠ (v708 : Value).ownBlock ∧ some k_ ≠ (v711 : Value).ownBlock ∧ some k_ ≠ (v701 : Value).ownBlock) (.slice (some ad706) t697.length co13) t697) := ⟨h3_⟩
     have n4_ : Aside0 (Kd.R (Kd.int .u8) 5 w32 w.heap.size (fun k_ => some k_ ≠ (v708 : Value).ownBlock ∧ some k_ ≠ (v711 : Value).ownBlock ∧ some k_ ≠ (.slice (some ad706) t697.length co13 : Value).ownBlock) v701 x8_1) := ⟨h4_⟩
     have n5_ : Aside0 (Kd.R (Kd.int .u32) 58 w32 w.heap.size (fun k_ => some k_ ≠ (.slice Ao11 t694.length co11 : Value).ownBlock) (.slice Ao27 x9_1.length co27) x9_1) := ⟨h5_⟩
     have n6_ : Aside0 (Below w.heap.size w w32) := ⟨h6_⟩
     clear HO_1 HO_7 HO_8 HO_9 HB h0_ h1_ h2_ h3_ h4_ h5_ h6_
     have HO709 := n0_
     have HO712 := n1_
     have HO_1 := n2_
     have HO_7 := n3_
     have HO_8 := n4_
     have HO_9 := n5_
     have HB := n6_
     clear n0_ n1_ n2_ n3_ n4_ n5_ n6_
     have hHeld : w32.cell? (ad706.add (x10_1).toNat) = some (.int .u8 (rd t697 x10_1)) := hS_
     obtain ⟨Ao34, co34, eo34⟩ := zRs HO712.out
     (first |  subst eo34|  (injection eo34 with f1_ f2_ f3_; have f4_ := f1_.symm; have f5_ := f3_.symm; clear f1_ f2_ f3_; subst f4_; subst f5_))
     refine norm_ (a' := ?_) ?_ ?_
     rotate_left
     ·simp only [putAll, Act.put, zSa, zSb, zSc]
      rfl
     refine last_ (i:=7) (N:=some 35) #[true,true,true,true,true,true,true,true,false,false] rfl rfl (one_of HT_.out (by kernel_rfl)) (by decide) (fun K hK => ?_)
     refine Kd.R_append_rows_step (Kd.int .u8) (w0:=w) w.heap.size (by rfl) (.tmp 32) (.tmp 34) 67 5 (.int .u8 0) 1 rfl Tryd.underlying67 info5 rfl (by decide) (by omega) v708 y707 t710 _ _ _ (fun k_ => some k_ ≠ (.slice (some ad706) t697.length co13 : Value).ownBlock ∧ some k_ ≠ (v701 : Value).ownBlock ∧ some k_ ≠ (.slice Ao34 t710.length co34 : Value).ownBlock) (fun _ => False) rfl rfl ?aO ?aR (fun _ _ h => h) (fun _ h => h.elim) ?aF ?aB ?aS ?aL ?_
     (case aR => exact uC (zRr HO712.out).2.2)
     (case aB => exact (uT HB.out))
     (case aF => exact (fun k_ hk => ⟨Kd.fresh' (zRt (uR HO_7.out)) k_ hk, Kd.fresh' (zRt (uR HO_8.out)) k_ hk, Kd.fresh' (zRt (uR HO712.out)) k_ hk⟩))
     (case aO => exact (zRm HO709.out (fun _ hk => ⟨hk.2.1, ⟨hk.2.2, hk.1⟩⟩)))
     (case aS => exact (zBs (uT HB.out)))
     (case aL => have := LMc20.out; omega)
     intro v714 w33 ho hb hg hat
     rw [← Ny713.out] at ho
     replace HO_1 := zMk (Kd.R_over' (uR HO_1.out) (Kd.R_typed (uR HO709.out)) (by decide) hg)
     replace HO_7 := zMk (Kd.R_after (ok:=(fun k_ => some k_ ≠ (v701 : Value).ownBlock ∧ some k_ ≠ (.slice Ao34 t710.length co34 : Value).ownBlock)) (zRm HO_7.out (fun _ hk => ⟨⟨hk.2.2, hk.2.1⟩, hk.1⟩)) hg hat)
     replace HO_8 := zMk (Kd.R_after (ok:=(fun k_ => some k_ ≠ (.slice (some ad706) t697.length co13 : Value).ownBlock ∧ some k_ ≠ (.slice Ao34 t710.length co34 : Value).ownBlock)) (zRm HO_8.out (fun _ hk => ⟨⟨hk.2.2, hk.2.1⟩, hk.1⟩)) hg hat)
     replace HO_9 := zMk (Kd.R_over' (uR HO_9.out) (Kd.R_typed (uR HO709.out)) (by decide) hg)
     replace HO712 := zMk (Kd.R_after (ok:=(fun k_ => some k_ ≠ (.slice (some ad706) t697.length co13 : Value).ownBlock ∧ some k_ ≠ (v701 : Value).ownBlock)) (zRm HO712.out (fun _ hk => ⟨⟨hk.2.1, hk.2.2⟩, hk.1⟩)) hg hat)
     replace HB := zMk (hb)
     have HO715 := zMk (ho)
     clear HO709 ho hb hg hat
     obtain ⟨adx_, ex_, hH2_⟩ := zAi (zRr HO_7.out).2.2 x10_1 (by first | assumption | exact of_eq_true (by assumption) | exact of_decide_eq_true (by assumption)) (by first | assumption | exact of_eq_true (by assumption) | exact of_decide_eq_true (by assumption))
     cases ex_
     clear hHeld
     have hHeld := hH2_
     clear hH2_
     obtain ⟨Ao35, co35, eo35⟩ := zRs HO715.out
     (first |  subst eo35|  (injection eo35 with f1_ f2_ f3_; have f4_ := f1_.symm; have f5_ := f3_.symm; clear f1_ f2_ f3_; subst f4_; subst f5_))
     refine hK.out _ _ ?_
     clear hK K
     refine norm_ (a' := ?_) ?_ ?_
     rotate_left
     ·show Act.put _ (some 35) _ = _
      simp only [Act.put, zSa, zSb, zSc, i64_w, i32_w]
      rfl
     refine one_ (i:=8) (N:=some 36) #[true,true,true,true,true,true,true,true,true,false] rfl rfl (one_of HT_.out (by kernel_rfl)) (by decide) (fun K hK => ?_)
     refine goes_ Tryd.func65 (by kernel_rfl) rfl #[.slice Ao35 y713.length co35] (by rfl) rfl rfl (by (try simp only [zMa, zMc, zMn]); first | done | rfl | (simp only [zLd, zLt]; rfl)) ?_
     with_reducible refine (r1_limbs.calls k1 _ _ y713 t716 _ ?side1 ?side2 A21.out).mono ?_
     (case side1 => exact uC (zRr HO715.out).2.2)
     (case side2 => exact (zRr HO715.out).2.1)
     rintro e w36 ⟨v717, rfl, ho0, hb⟩
     have HS0_ := (hb.cell (World.block_lt_of_cell? _ _ (hHeld))).trans (hHeld)
     refine ⟨_, rfl, ?_⟩
     replace HO_7 := zMk (zRb (uR HO_7.out) hb)
     replace HO_8 := zMk (zRb (uR HO_8.out) hb)
     replace HO712 := zMk (zRb (uR HO712.out) hb)
     replace HO715 := zMk (zRb (uR HO715.out) hb)
     have HO718 := zMk (zRl (zRw (zRw ho0 (zRt (uR HO_1.out))) (zRt (uR HO_9.out))) (zBs (uT HB.out)))
     replace HO_1 := zMk (zRe (uR HO_1.out) (zRz ho0) hb)
     replace HO_9 := zMk (zRe (uR HO_9.out) (zRz ho0) hb)
     replace HB := zMk (zBt (uT HB.out) hb)
     refine hK.out _ _ (HS0_) (fun hHeld => ?_)
     clear hK K
     refine norm_ (a' := ?_) ?_ ?_
     rotate_left
     ·show Act.put _ (some 36) _ = _
      simp only [Act.put, zSa, zSb, zSc, i64_w, i32_w]
      rfl
     refine pure_ (i:=9) (N:=some 9) (v:=?_) (a' := ?_) #[true,true,true,true,true,true,true,true,true,true] rfl rfl (any_of HT_.out (by kernel_rfl)) (fun _ _ _ h => h) (Or.inl ⟨by rfl, ?_⟩) ?_ ?_
     rotate_left
     ·intro w'
      go_simp
      with_reducible rfl
     rotate_left
     ·simp only [Act.put, zSa, zSb, zSc, i64_w, i32_w]
      rfl
     refine done_ (done_of HT_.out (by kernel_rfl)) ?_
     obtain ⟨Ao37, co37, eo37⟩ := zRs HO718.out
     subst eo37
     try go_wp2_with (first | ((with_reducible refine gate_callee (f:=42) rfl ?_); refine goesL_ (some 39) rfl rfl Tryd.func42 (by kernel_rfl) rfl #[.slice Ao37 t716.length co37, .slice Ao11 t694.length co11] rfl (by (try simp only [zMa, zMc, zMn]); first |  done|  rfl|  (simp only [zLd, zLt]; rfl)) ?_; (with_reducible refine (r1_Cmp.calls k1 _ _ t716 _ _ t694 t719 _ ?side1 ?side2 ?side3 ?side4 A22.out).mono ?_); (case side1 => exact uC (zRr HO718.out).2.2); (case side2 => exact (zRr HO718.out).2.1); (case side3 => exact uC (zRr HO_1.out).2.2); (case side4 => exact (zRr HO_1.out).2.1); rintro e w38 ⟨rfl, hb⟩; refine ⟨_, rfl, ?_⟩; replace HO_1 := zMk (zRb (uR HO_1.out) hb); replace HO_7 := zMk (zRb (uR HO_7.out) hb); replace HO_8 := zMk (zRb (uR HO_8.out) hb); replace HO_9 := zMk (zRb (uR HO_9.out) hb); replace HO712 := zMk (zRb (uR HO712.out) hb); replace HO715 := zMk (zRb (uR HO715.out) hb); replace HO718 := zMk (zRb (uR HO718.out) hb); replace HB := zMk (zBt (uT HB.out) hb))|((with_reducible refine gate_callee (f:=43) rfl ?_); refine goesL_ (some 44) rfl rfl Tryd.func43 (by kernel_rfl) rfl #[.slice Ao37 t716.length co37, .slice Ao11 t694.length co11] rfl (by (try simp only [zMa, zMc, zMn]); first |  done|  rfl|  (simp only [zLd, zLt]; rfl)) ?_; (with_reducible refine (r1_Sub.calls k1 _ _ t716 _ _ t694 t720 t721 _ ?side1 ?side2 ?side3 ?side4 A24.out).mono ?_); (case side1 => exact uC (zRr HO718.out).2.2); (case side2 => exact (zRr HO718.out).2.1); (case side3 => exact uC (zRr HO_1.out).2.2); (case side4 => exact (zRr HO_1.out).2.1); rintro e w39 ⟨v722, rfl, ho0, hb⟩; refine ⟨_, rfl, ?_⟩; replace HO_7 := zMk (zRb (uR HO_7.out) hb); replace HO_8 := zMk (zRb (uR HO_8.out) hb); replace HO712 := zMk (zRb (uR HO712.out) hb); replace HO715 := zMk (zRb (uR HO715.out) hb); have HO723 := zMk (zRl (zRw (zRw (zRw ho0 (zRt (uR HO_1.out))) (zRt (uR HO_9.out))) (zRt (uR HO718.out))) (zBs (uT HB.out))); replace HO_1 := zMk (zRe (uR HO_1.out) (zRz ho0) hb); replace HO_9 := zMk (zRe (uR HO_9.out) (zRz ho0) hb); replace HO718 := zMk (zRe (uR HO718.out) (zRz ho0) hb); replace HB := zMk (zBt (uT HB.out) hb); have p26 : 0 ≤ (x10_1 : Int) := of_decide_eq_true (by first | (with_reducible assumption)|  assumption); have q26 : (x10_1 : Int) < ((x8_1.length : Int) : Int) := of_decide_eq_true (by first | (with_reducible assumption)|  assumption); obtain ⟨go26, co26, eo26, gb26, gl26, cl26, HG26⟩ := Kd.R_form HO_8.out (by omega); (first |  cases eo26|  (injection eo26 with ea_ en_ ec_; (first |  subst ea_|  (injection ea_ with ea_; subst ea_)); subst ec_; clear en_)); have GB26 := zMk gb26; have IGB26 := ownGe GB26.out; have GG26 := zMk HG26; clear gb26 gl26 HG26; obtain ⟨hx26_0, hf26_0⟩ := Kd.R_celln 0 HO_8.out (x10_1 : Int) p26 q26; replace p26 := eq_true p26; replace q26 := eq_true q26; have n_ := zMk (zRm (ok' := (fun k_ => some k_ ≠ (.slice (some ad706) t697.length co13 : Value).ownBlock ∧ some k_ ≠ (.slice Ao34 t710.length co34 : Value).ownBlock ∧ some k_ ≠ (.slice Ao35 y713.length co35 : Value).ownBlock)) HO_8.out (fun k_ hk => ⟨hk.1.1, ⟨hk.1.2, hk.2⟩⟩)); clear HO_8; have HO_8 := n_; clear n_; obtain ⟨hy40_, hz40_⟩ := Kd.R_celln 0 HO_8.out (x10_1 : Int) (of_decide_eq_true (by first | (with_reducible assumption)|  assumption)) (of_decide_eq_true (by first | (with_reducible assumption)|  assumption)); have HP40 := Kd.R_putg HO_8.out (x10_1 : Int) 1)|((with_reducible refine gate_store (t:=5) (p:=49) rfl ?_); refine store_event (t:=5) (p:=49) (v:=?vo_w41) (w1:=(w39.setCell ⟨go26, (x10_1 : Int).toNat, none⟩ (.int .u8 1))) ?hg ?ho ?hn ?hr ?_; (case ho => rfl); (case hg => rfl); (case hn => rfl); (case hr => first | (go_simp; done)|(go_simp; rfl)|(go_simp; rw [show ∀ x : Int, IntKind.u32.wrap (IntKind.u8.wrap x) = x % 256 from fun x => (by show (x % 256) % 4294967296 = x % 256; omega)])); intro w41 hw; have hg : w39.grownBy w41 (some go26) := (by rw [hw]; exact HP40.2); have hp_ : Kd.R (Kd.int .u8) 5 w41 w.heap.size (fun k_ => some k_ ≠ (.slice (some ad706) t697.length co13 : Value).ownBlock ∧ some k_ ≠ (.slice Ao34 t710.length co34 : Value).ownBlock ∧ some k_ ≠ (.slice Ao35 y713.length co35 : Value).ownBlock) (.slice (some ⟨go26, 0, none⟩) x8_1.length co26) y724 := (by rw [hw, Ny724.out]; exact HP40.1); clear HP40; replace HO_1 := zMk (Kd.R_over' (v:=(.slice (some ⟨go26, 0, none⟩) x8_1.length co26)) (uR HO_1.out) (Kd.R_typed HO_8.out) (by decide) hg); replace HO_7 := zMk (Kd.R_after (v:=(.slice (some ⟨go26, 0, none⟩) x8_1.length co26)) (v1:=(.slice (some ⟨go26, 0, none⟩) x8_1.length co26)) (ok:=(fun k_ => some k_ ≠ (.slice Ao34 t710.length co34 : Value).ownBlock ∧ some k_ ≠ (.slice Ao35 y713.length co35 : Value).ownBlock)) (zRm HO_7.out (fun _ hk => ⟨⟨hk.1.2, hk.2⟩, hk.1.1⟩)) hg (.inl rfl)); replace HO_9 := zMk (Kd.R_over' (v:=(.slice (some ⟨go26, 0, none⟩) x8_1.length co26)) (uR HO_9.out) (Kd.R_typed HO_8.out) (by decide) hg); replace HO712 := zMk (Kd.R_after (v:=(.slice (some ⟨go26, 0, none⟩) x8_1.length co26)) (v1:=(.slice (some ⟨go26, 0, none⟩) x8_1.length co26)) (ok:=(fun k_ => some k_ ≠ (.slice (some ad706) t697.length co13 : Value).ownBlock ∧ some k_ ≠ (.slice Ao35 y713.length co35 : Value).ownBlock)) (zRm HO712.out (fun _ hk => ⟨⟨hk.1.1, hk.2⟩, hk.1.2⟩)) hg (.inl rfl)); replace HO715 := zMk (Kd.R_after (v:=(.slice (some ⟨go26, 0, none⟩) x8_1.length co26)) (v1:=(.slice (some ⟨go26, 0, none⟩) x8_1.length co26)) (ok:=(fun k_ => some k_ ≠ (.slice (some ad706) t697.length co13 : Value).ownBlock ∧ some k_ ≠ (.slice Ao34 t710.length co34 : Value).ownBlock)) (zRm HO715.out (fun _ hk => ⟨⟨hk.1, hk.2.2⟩, hk.2.1⟩)) hg (.inl rfl)); replace HO718 := zMk (Kd.R_over' (v:=(.slice (some ⟨go26, 0, none⟩) x8_1.length co26)) (uR HO718.out) (Kd.R_typed HO_8.out) (by decide) hg); replace HO723 := zMk (Kd.R_over' (v:=(.slice (some ⟨go26, 0, none⟩) x8_1.length co26)) (uR HO723.out) (Kd.R_typed HO_8.out) (by decide) hg); replace HO_8 := zMk (hp_); replace HB := zMk ((by rw [hw]; exact below_set (HB.out) GB26.out : Below w.heap.size w w41)); clear hg hw hp_))
     go_roundg k1
     case measure => have := HK1.out; omega
     case rel => exact ⟨(y724), (t720), (wrap64 (x10_1 - 1)), (by first | rfl | (simp; done) | (simp [*]; done)), H', ⟨by have := HK1.out; omega⟩, ⟨by (with_reducible repeat (first | apply zRa | apply zRn | apply zRd)); exact zRm HO_1.out (fun _ hk => hk.2)⟩, ⟨by (with_reducible repeat (first | apply zRa | apply zRn | apply zRd)); exact zRm HO_7.out (fun _ hk => hk.2)⟩, ⟨by (with_reducible repeat (first | apply zRa | apply zRn | apply zRd)); exact zRm HO_8.out (fun _ hk => hk.1)⟩, ⟨by (with_reducible repeat (first | apply zRa | apply zRn | apply zRd)); exact zRm HO723.out (fun _ hk => hk.1.1.2)⟩, ⟨by exact uT HB.out⟩⟩
    ·rw [if_neg c23] at H
     have c23b0 : decide (0 ≤ t719) = false := decide_eq_false c23
     clear c23
     have H' := zMk H
     clear H
     obtain ⟨Ao42, co42, eo42⟩ := zRs HO_9.out
     subst eo42
     try go_wp2
     replace HO_1 := zMk (zRd HO_1.out)
     replace HO_7 := zMk (zRd HO_7.out)
     replace HO_8 := zMk (zRd HO_8.out)
     replace HO_9 := zMk (zRd HO_9.out)
     replace HB := zMk (zBd HB.out)
     have p706 : 0 ≤ (x10_1 : Int) := of_decide_eq_true (by assumption)
     have q706 : x10_1 < (t697.length : Int) := of_decide_eq_true (by assumption)
     obtain ⟨ad706, e706, hx706_0⟩ := zAi (zRr HO_7.out).2.2 x10_1 p706 q706
     cases e706
     replace p706 := eq_true p706
     replace q706 := eq_true q706
     refine start_ (n:=10) (S:=fun w' => w'.cell? (ad706.add (x10_1).toNat) = some (.int .u8 (rd t697 x10_1))) (ds:=[7]) #[false,false,false,false,false,false,false,false,false,false] (by kernel_rfl) rfl rfl (hx706_0) (fun hHeld => ?_); refine with_tabW r1_DivMod.tab10 r1_DivMod.bits10 (fun HT_ HW_ => ?_)
     generalize wr.drew = w43 at HO_1 HO_7 HO_8 HO_9 HB hx706_0 hHeld ⊢
     refine pure_ (i:=0) (N:=some 28) (v:=?_) (a' := ?_) #[true,false,false,false,false,false,false,false,false,false] rfl rfl (any_of HT_.out (by kernel_rfl)) (fun _ _ _ h => h) (Or.inl ⟨by rfl, ?_⟩) ?_ ?_
     rotate_left
     ·intro w'
      go_simp
      with_reducible rfl
     rotate_left
     ·simp only [Act.put, zSa, zSb, zSc, i64_w, i32_w]
      rfl
     refine pure_ (i:=1) (N:=some 29) (v:=?_) (a' := ?_) #[true,true,false,false,false,false,false,false,false,false] rfl rfl (any_of HT_.out (by kernel_rfl)) (fun _ _ _ h => h) (Or.inl ⟨by rfl, ?_⟩) ?_ ?_
     rotate_left
     ·intro w'
      go_simp
      with_reducible rfl
     rotate_left
     ·simp only [Act.put, zSa, zSb, zSc, i64_w, i32_w]
      rfl
     refine pure_ (i:=2) (N:=some 30) (v:=?_) (a' := ?_) #[true,true,true,false,false,false,false,false,false,false] rfl rfl (any_of HT_.out (by kernel_rfl)) (fun _ _ _ h => h) (Or.inl ⟨by rfl, ?_⟩) ?_ ?_
     rotate_left
     ·intro w'
      go_simp
      with_reducible rfl
     rotate_left
     ·simp only [Act.put, zSa, zSb, zSc, i64_w, i32_w]
      rfl
     refine pure_ (i:=5) (N:=some 33) (v:=?_) (a' := ?_) #[true,true,true,false,false,true,false,false,false,false] rfl rfl (any_of HT_.out (by kernel_rfl)) (fun _ _ _ h => h) (Or.inl ⟨by rfl, ?_⟩) ?_ ?_
     rotate_left
     ·intro w'
      go_simp
      with_reducible rfl
     rotate_left
     ·simp only [Act.put, zSa, zSb, zSc, i64_w, i32_w]
      rfl
     refine take_ (i:=3) (N:=some 31) (v:=?_) (a' := ?_) #[true,true,true,true,false,true,false,false,false,false] rfl rfl (take_ofW HT_.out HW_.out (by kernel_rfl)) (fun _ _ _ h => h) (Or.inl ⟨by rfl, ?_⟩) hHeld ?_ ?_
     rotate_left
     ·intro w' s0
      go_simp
      with_reducible rfl
     rotate_left
     ·simp only [Act.put, zSa, zSb, zSc, i64_w, i32_w]
      rfl
     refine join_ (σ:=Value × Value) 3 #[true,true,true,true,true,true,true,false,false,false] (fun s_ => [(32, s_.1), (34, s_.2)]) (fun s_ w' => (w'.cell? (ad706.add (x10_1).toNat) = some (.int .u8 (rd t697 x10_1))) ∧ (Kd.R (Kd.int .u8) 5 w' w.heap.size (fun k_ => some k_ ≠ (s_.2 : Value).ownBlock ∧ some k_ ≠ (.slice (some ad706) t697.length co13 : Value).ownBlock ∧ some k_ ≠ (v701 : Value).ownBlock) s_.1 y707) ∧ (Kd.R (Kd.int .u8) 5 w' w.heap.size (fun k_ => some k_ ≠ (s_.1 : Value).ownBlock ∧ some k_ ≠ (.slice (some ad706) t697.length co13 : Value).ownBlock ∧ some k_ ≠ (v701 : Value).ownBlock) s_.2 t710) ∧ (Kd.R (Kd.int .u32) 58 w' w.heap.size (fun k_ => some k_ ≠ (.slice Ao42 x9_1.length co42 : Value).ownBlock) (.slice Ao11 t694.length co11) t694) ∧ (Kd.R (Kd.int .u8) 5 w' w.heap.size (fun k_ => some k_ ≠ (s_.1 : Value).ownBlock ∧ some k_ ≠ (s_.2 : Value).ownBlock ∧ some k_ ≠ (v701 : Value).ownBlock) (.slice (some ad706) t697.length co13) t697) ∧ (Kd.R (Kd.int .u8) 5 w' w.heap.size (fun k_ => some k_ ≠ (s_.1 : Value).ownBlock ∧ some k_ ≠ (s_.2 : Value).ownBlock ∧ some k_ ≠ (.slice (some ad706) t697.length co13 : Value).ownBlock) v701 x8_1) ∧ (Kd.R (Kd.int .u32) 58 w' w.heap.size (fun k_ => some k_ ≠ (.slice Ao11 t694.length co11 : Value).ownBlock) (.slice Ao42 x9_1.length co42) x9_1) ∧ (Below w.heap.size w w')) ?_ ?_
     rotate_left
     ·intro hCont
      refine two_ (i:=4) (j:=6) (Ni:=some 32) (Nj:=some 34) #[true,true,true,true,true,true,false,false,false,false] #[true,true,true,true,false,true,true,false,false,false] rfl rfl rfl rfl (two_of HT_.out (by kernel_rfl)) (by decide) (by decide) (fun K hK => ?_) (fun K hK => ?_)
      ·skip
       refine Kd.R_lit_step (Kd.int .u8) _ 5 ?hg (N:=32) ?hd (xs:=([rd t697 x10_1] : List Int)) (inner:=[.int .u8 (rd t697 x10_1)]) (ok:=fun _ => True) (okp:=fun _ => True) ?hr ?hp (fun _ hk => hk) trivial (Below.refl _ _) (Nat.le_refl _) (by simp) ?_; (case hd => rfl); (case hg => rfl); (case hr => first | (go_simp; done) | (go_simp; rfl) | (go_simp; rw [show ∀ x : Int, IntKind.u32.wrap (IntKind.u8.wrap x) = x % 256 from fun x => (by show (x % 256) % 4294967296 = x % 256; omega)])); (case hp => exact (Reps.one (show Kd.M (Kd.int .u8) _ _ _ (rd t697 x10_1) [.int .u8 (rd t697 x10_1)] from rfl) (Reps.none _ _)))
       intro v708 w44 ho45 hb hg_ hnew_
       have HS0_ := (hb.cell (World.block_lt_of_cell? _ _ (hHeld))).trans (hHeld)
       clear hg_ hnew_
       (first | rw [← Ny707.out] at ho45 | (simp only [Int.reduceToNat] at ho45; rw [← Ny707.out] at ho45))
       replace HO_1 := zMk (zRb (uR HO_1.out) hb)
       replace HO_9 := zMk (zRb (uR HO_9.out) hb)
       have HO709 := zMk (zRl (zRw (zRw ho45 (zRt (uR HO_7.out))) (zRt (uR HO_8.out))) (zBs (uT HB.out)))
       replace HO_7 := zMk (zRe (uR HO_7.out) (zRz ho45) hb)
       replace HO_8 := zMk (zRe (uR HO_8.out) (zRz ho45) hb)
       replace HB := zMk (zBt (uT HB.out) hb)
       clear hb ho45
       refine hK.out _ _ (HS0_) (fun hHeld => ?_)
       clear hK K
       refine norm_ (a' := ?_) ?_ ?_
       rotate_left
       ·show Act.put _ (some 32) _ = _
        simp only [Act.put, zSa, zSb, zSc, i64_w, i32_w]
        rfl
       refine one_ (i:=6) (N:=some 34) #[true,true,true,true,true,true,true,false,false,false] rfl rfl (one_of HT_.out (by kernel_rfl)) (by decide) (fun K hK => ?_)
       refine goes_ Tryd.func64 (by kernel_rfl) rfl #[.slice Ao42 x9_1.length co42] (by rfl) rfl rfl (by (try simp only [zMa, zMc, zMn]); first | done | rfl | (simp only [zLd, zLt]; rfl)) ?_
       with_reducible refine (r1_bits.calls k1 _ _ x9_1 t710 _ ?side1 ?side2 A19.out).mono ?_
       (case side1 => exact uC (zRr HO_9.out).2.2)
       (case side2 => exact (zRr HO_9.out).2.1)
       rintro e w46 ⟨v711, rfl, ho0, hb⟩
       have HS0_ := (hb.cell (World.block_lt_of_cell? _ _ (hHeld))).trans (hHeld)
       refine ⟨_, rfl, ?_⟩
       replace HO_1 := zMk (zRb (uR HO_1.out) hb)
       replace HO_9 := zMk (zRb (uR HO_9.out) hb)
       have HO712 := zMk (zRl (zRw (zRw (zRw ho0 (zRt (uR HO_7.out))) (zRt (uR HO_8.out))) (zRt (uR HO709.out))) (zBs (uT HB.out)))
       replace HO_7 := zMk (zRe (uR HO_7.out) (zRz ho0) hb)
       replace HO_8 := zMk (zRe (uR HO_8.out) (zRz ho0) hb)
       replace HO709 := zMk (zRe (uR HO709.out) (zRz ho0) hb)
       replace HB := zMk (zBt (uT HB.out) hb)
       refine hK.out _ _ (HS0_) (fun hHeld => ?_)
       clear hK K
       refine norm_ (a' := ?_) ?_ ?_
       rotate_left
       ·show Act.put _ (some 34) _ = _
        simp only [Act.put, zSa, zSb, zSc, i64_w, i32_w]
        rfl
       exact norm_ (by simp only [putAll, Act.put, zSa, zSb, zSc]) (hCont (v708, v711) _ ⟨hHeld, (zRm HO709.out (fun _ hk => ⟨hk.2, ⟨hk.1.1.2, hk.1.2⟩⟩)), (zRm HO712.out (fun _ hk => ⟨hk.2, ⟨hk.1.1.2, hk.1.2⟩⟩)), (uR HO_1.out), (zRm HO_7.out (fun _ hk => ⟨hk.1.2, ⟨hk.2, hk.1.1⟩⟩)), (zRm HO_8.out (fun _ hk => ⟨hk.1.2, ⟨hk.2, hk.1.1⟩⟩)), (uR HO_9.out), (uT HB.out)⟩)
      ·skip
       refine goes_ Tryd.func64 (by kernel_rfl) rfl #[.slice Ao42 x9_1.length co42] (by rfl) rfl rfl (by (try simp only [zMa, zMc, zMn]); first | done | rfl | (simp only [zLd, zLt]; rfl)) ?_
       with_reducible refine (r1_bits.calls k1 _ _ x9_1 t710 _ ?side1 ?side2 A19.out).mono ?_
       (case side1 => exact uC (zRr HO_9.out).2.2)
       (case side2 => exact (zRr HO_9.out).2.1)
       rintro e w44 ⟨v711, rfl, ho0, hb⟩
       have HS0_ := (hb.cell (World.block_lt_of_cell? _ _ (hHeld))).trans (hHeld)
       refine ⟨_, rfl, ?_⟩
       replace HO_1 := zMk (zRb (uR HO_1.out) hb)
       replace HO_9 := zMk (zRb (uR HO_9.out) hb)
       have HO712 := zMk (zRl (zRw (zRw ho0 (zRt (uR HO_7.out))) (zRt (uR HO_8.out))) (zBs (uT HB.out)))
       replace HO_7 := zMk (zRe (uR HO_7.out) (zRz ho0) hb)
       replace HO_8 := zMk (zRe (uR HO_8.out) (zRz ho0) hb)
       replace HB := zMk (zBt (uT HB.out) hb)
       refine hK.out _ _ (HS0_) (fun hHeld => ?_)
       clear hK K
       refine norm_ (a' := ?_) ?_ ?_
       rotate_left
       ·show Act.put _ (some 34) _ = _
        simp only [Act.put, zSa, zSb, zSc, i64_w, i32_w]
        rfl
       refine one_ (i:=4) (N:=some 32) #[true,true,true,true,true,true,true,false,false,false] rfl rfl (one_of HT_.out (by kernel_rfl)) (by decide) (fun K hK => ?_)
       refine Kd.R_lit_step (Kd.int .u8) _ 5 ?hg (N:=32) ?hd (xs:=([rd t697 x10_1] : List Int)) (inner:=[.int .u8 (rd t697 x10_1)]) (ok:=fun _ => True) (okp:=fun _ => True) ?hr ?hp (fun _ hk => hk) trivial (Below.refl _ _) (Nat.le_refl _) (by simp) ?_; (case hd => rfl); (case hg => rfl); (case hr => first | (go_simp; done) | (go_simp; rfl) | (go_simp; rw [show ∀ x : Int, IntKind.u32.wrap (IntKind.u8.wrap x) = x % 256 from fun x => (by show (x % 256) % 4294967296 = x % 256; omega)])); (case hp => exact (Reps.one (show Kd.M (Kd.int .u8) _ _ _ (rd t697 x10_1) [.int .u8 (rd t697 x10_1)] from rfl) (Reps.none _ _)))
       intro v708 w45 ho46 hb hg_ hnew_
       have HS0_ := (hb.cell (World.block_lt_of_cell? _ _ (hHeld))).trans (hHeld)
       clear hg_ hnew_
       (first | rw [← Ny707.out] at ho46 | (simp only [Int.reduceToNat] at ho46; rw [← Ny707.out] at ho46))
       replace HO_1 := zMk (zRb (uR HO_1.out) hb)
       replace HO_9 := zMk (zRb (uR HO_9.out) hb)
       have HO709 := zMk (zRl (zRw (zRw (zRw ho46 (zRt (uR HO_7.out))) (zRt (uR HO_8.out))) (zRt (uR HO712.out))) (zBs (uT HB.out)))
       replace HO_7 := zMk (zRe (uR HO_7.out) (zRz ho46) hb)
       replace HO_8 := zMk (zRe (uR HO_8.out) (zRz ho46) hb)
       replace HO712 := zMk (zRe (uR HO712.out) (zRz ho46) hb)
       replace HB := zMk (zBt (uT HB.out) hb)
       clear hb ho46
       refine hK.out _ _ (HS0_) (fun hHeld => ?_)
       clear hK K
       refine norm_ (a' := ?_) ?_ ?_
       rotate_left
       ·show Act.put _ (some 32) _ = _
        simp only [Act.put, zSa, zSb, zSc, i64_w, i32_w]
        rfl
       exact norm_ (by simp only [putAll, Act.put, zSa, zSb, zSc]) (hCont (v708, v711) _ ⟨hHeld, (zRm HO709.out (fun _ hk => ⟨hk.2, ⟨hk.1.1.2, hk.1.2⟩⟩)), (zRm HO712.out (fun _ hk => ⟨hk.2, ⟨hk.1.1.2, hk.1.2⟩⟩)), (uR HO_1.out), (zRm HO_7.out (fun _ hk => ⟨hk.2, ⟨hk.1.2, hk.1.1⟩⟩)), (zRm HO_8.out (fun _ hk => ⟨hk.2, ⟨hk.1.2, hk.1.1⟩⟩)), (uR HO_9.out), (uT HB.out)⟩)
     rintro ⟨v708, v711⟩ w47 ⟨hS_, h0_, h1_, h2_, h3_, h4_, h5_, h6_⟩
     have n0_ : Aside0 (Kd.R (Kd.int .u8) 5 w47 w.heap.size (fun k_ => some k_ ≠ (v711 : Value).ownBlock ∧ some k_ ≠ (.slice (some ad706) t697.length co13 : Value).ownBlock ∧ some k_ ≠ (v701 : Value).ownBlock) v708 y707) := ⟨h0_⟩
     have n1_ : Aside0 (Kd.R (Kd.int .u8) 5 w47 w.heap.size (fun k_ => some k_ ≠ (v708 : Value).ownBlock ∧ some k_ ≠ (.slice (some ad706) t697.length co13 : Value).ownBlock ∧ some k_ ≠ (v701 : Value).ownBlock) v711 t710) := ⟨h1_⟩
     have n2_ : Aside0 (Kd.R (Kd.int .u32) 58 w47 w.heap.size (fun k_ => some k_ ≠ (.slice Ao42 x9_1.length co42 : Value).ownBlock) (.slice Ao11 t694.length co11) t694) := ⟨h2_⟩
     have n3_ : Aside0 (Kd.R (Kd.int .u8) 5 w47 w.heap.size (fun k_ => some k_ ≠ (v708 : Value).ownBlock ∧ some k_ ≠ (v711 : Value).ownBlock ∧ some k_ ≠ (v701 : Value).ownBlock) (.slice (some ad706) t697.length co13) t697) := ⟨h3_⟩
     have n4_ : Aside0 (Kd.R (Kd.int .u8) 5 w47 w.heap.size (fun k_ => some k_ ≠ (v708 : Value).ownBlock ∧ some k_ ≠ (v711 : Value).ownBlock ∧ some k_ ≠ (.slice (some ad706) t697.length co13 : Value).ownBlock) v701 x8_1) := ⟨h4_⟩
     have n5_ : Aside0 (Kd.R (Kd.int .u32) 58 w47 w.heap.size (fun k_ => some k_ ≠ (.slice Ao11 t694.length co11 : Value).ownBlock) (.slice Ao42 x9_1.length co42) x9_1) := ⟨h5_⟩
     have n6_ : Aside0 (Below w.heap.size w w47) := ⟨h6_⟩
     clear HO_1 HO_7 HO_8 HO_9 HB h0_ h1_ h2_ h3_ h4_ h5_ h6_
     have HO709 := n0_
     have HO712 := n1_
     have HO_1 := n2_
     have HO_7 := n3_
     have HO_8 := n4_
     have HO_9 := n5_
     have HB := n6_
     clear n0_ n1_ n2_ n3_ n4_ n5_ n6_
     have hHeld : w47.cell? (ad706.add (x10_1).toNat) = some (.int .u8 (rd t697 x10_1)) := hS_
     obtain ⟨Ao49, co49, eo49⟩ := zRs HO712.out
     (first |  subst eo49|  (injection eo49 with f1_ f2_ f3_; have f4_ := f1_.symm; have f5_ := f3_.symm; clear f1_ f2_ f3_; subst f4_; subst f5_))
     refine norm_ (a' := ?_) ?_ ?_
     rotate_left
     ·simp only [putAll, Act.put, zSa, zSb, zSc]
      rfl
     refine last_ (i:=7) (N:=some 35) #[true,true,true,true,true,true,true,true,false,false] rfl rfl (one_of HT_.out (by kernel_rfl)) (by decide) (fun K hK => ?_)
     refine Kd.R_append_rows_step (Kd.int .u8) (w0:=w) w.heap.size (by rfl) (.tmp 32) (.tmp 34) 67 5 (.int .u8 0) 1 rfl Tryd.underlying67 info5 rfl (by decide) (by omega) v708 y707 t710 _ _ _ (fun k_ => some k_ ≠ (.slice (some ad706) t697.length co13 : Value).ownBlock ∧ some k_ ≠ (v701 : Value).ownBlock ∧ some k_ ≠ (.slice Ao49 t710.length co49 : Value).ownBlock) (fun _ => False) rfl rfl ?aO ?aR (fun _ _ h => h) (fun _ h => h.elim) ?aF ?aB ?aS ?aL ?_
     (case aR => exact uC (zRr HO712.out).2.2)
     (case aB => exact (uT HB.out))
     (case aF => exact (fun k_ hk => ⟨Kd.fresh' (zRt (uR HO_7.out)) k_ hk, Kd.fresh' (zRt (uR HO_8.out)) k_ hk, Kd.fresh' (zRt (uR HO712.out)) k_ hk⟩))
     (case aO => exact (zRm HO709.out (fun _ hk => ⟨hk.2.1, ⟨hk.2.2, hk.1⟩⟩)))
     (case aS => exact (zBs (uT HB.out)))
     (case aL => have := LMc20.out; omega)
     intro v714 w48 ho hb hg hat
     rw [← Ny713.out] at ho
     replace HO_1 := zMk (Kd.R_over' (uR HO_1.out) (Kd.R_typed (uR HO709.out)) (by decide) hg)
     replace HO_7 := zMk (Kd.R_after (ok:=(fun k_ => some k_ ≠ (v701 : Value).ownBlock ∧ some k_ ≠ (.slice Ao49 t710.length co49 : Value).ownBlock)) (zRm HO_7.out (fun _ hk => ⟨⟨hk.2.2, hk.2.1⟩, hk.1⟩)) hg hat)
     replace HO_8 := zMk (Kd.R_after (ok:=(fun k_ => some k_ ≠ (.slice (some ad706) t697.length co13 : Value).ownBlock ∧ some k_ ≠ (.slice Ao49 t710.length co49 : Value).ownBlock)) (zRm HO_8.out (fun _ hk => ⟨⟨hk.2.2, hk.2.1⟩, hk.1⟩)) hg hat)
     replace HO_9 := zMk (Kd.R_over' (uR HO_9.out) (Kd.R_typed (uR HO709.out)) (by decide) hg)
     replace HO712 := zMk (Kd.R_after (ok:=(fun k_ => some k_ ≠ (.slice (some ad706) t697.length co13 : Value).ownBlock ∧ some k_ ≠ (v701 : Value).ownBlock)) (zRm HO712.out (fun _ hk => ⟨⟨hk.2.1, hk.2.2⟩, hk.1⟩)) hg hat)
     replace HB := zMk (hb)
     have HO715 := zMk (ho)
     clear HO709 ho hb hg hat
     obtain ⟨adx_, ex_, hH2_⟩ := zAi (zRr HO_7.out).2.2 x10_1 (by first | assumption | exact of_eq_true (by assumption) | exact of_decide_eq_true (by assumption)) (by first | assumption | exact of_eq_true (by assumption) | exact of_decide_eq_true (by assumption))
     cases ex_
     clear hHeld
     have hHeld := hH2_
     clear hH2_
     obtain ⟨Ao50, co50, eo50⟩ := zRs HO715.out
     (first |  subst eo50|  (injection eo50 with f1_ f2_ f3_; have f4_ := f1_.symm; have f5_ := f3_.symm; clear f1_ f2_ f3_; subst f4_; subst f5_))
     refine hK.out _ _ ?_
     clear hK K
     refine norm_ (a' := ?_) ?_ ?_
     rotate_left
     ·show Act.put _ (some 35) _ = _
      simp only [Act.put, zSa, zSb, zSc, i64_w, i32_w]
      rfl
     refine one_ (i:=8) (N:=some 36) #[true,true,true,true,true,true,true,true,true,false] rfl rfl (one_of HT_.out (by kernel_rfl)) (by decide) (fun K hK => ?_)
     refine goes_ Tryd.func65 (by kernel_rfl) rfl #[.slice Ao50 y713.length co50] (by rfl) rfl rfl (by (try simp only [zMa, zMc, zMn]); first | done | rfl | (simp only [zLd, zLt]; rfl)) ?_
     with_reducible refine (r1_limbs.calls k1 _ _ y713 t716 _ ?side1 ?side2 A21.out).mono ?_
     (case side1 => exact uC (zRr HO715.out).2.2)
     (case side2 => exact (zRr HO715.out).2.1)
     rintro e w51 ⟨v717, rfl, ho0, hb⟩
     have HS0_ := (hb.cell (World.block_lt_of_cell? _ _ (hHeld))).trans (hHeld)
     refine ⟨_, rfl, ?_⟩
     replace HO_7 := zMk (zRb (uR HO_7.out) hb)
     replace HO_8 := zMk (zRb (uR HO_8.out) hb)
     replace HO712 := zMk (zRb (uR HO712.out) hb)
     replace HO715 := zMk (zRb (uR HO715.out) hb)
     have HO718 := zMk (zRl (zRw (zRw ho0 (zRt (uR HO_1.out))) (zRt (uR HO_9.out))) (zBs (uT HB.out)))
     replace HO_1 := zMk (zRe (uR HO_1.out) (zRz ho0) hb)
     replace HO_9 := zMk (zRe (uR HO_9.out) (zRz ho0) hb)
     replace HB := zMk (zBt (uT HB.out) hb)
     refine hK.out _ _ (HS0_) (fun hHeld => ?_)
     clear hK K
     refine norm_ (a' := ?_) ?_ ?_
     rotate_left
     ·show Act.put _ (some 36) _ = _
      simp only [Act.put, zSa, zSb, zSc, i64_w, i32_w]
      rfl
     refine pure_ (i:=9) (N:=some 9) (v:=?_) (a' := ?_) #[true,true,true,true,true,true,true,true,true,true] rfl rfl (any_of HT_.out (by kernel_rfl)) (fun _ _ _ h => h) (Or.inl ⟨by rfl, ?_⟩) ?_ ?_
     rotate_left
     ·intro w'
      go_simp
      with_reducible rfl
     rotate_left
     ·simp only [Act.put, zSa, zSb, zSc, i64_w, i32_w]
      rfl
     refine done_ (done_of HT_.out (by kernel_rfl)) ?_
     obtain ⟨Ao52, co52, eo52⟩ := zRs HO718.out
     subst eo52
     try go_wp2_with (first | ((with_reducible refine gate_callee (f:=42) rfl ?_); refine goesL_ (some 39) rfl rfl Tryd.func42 (by kernel_rfl) rfl #[.slice Ao52 t716.length co52, .slice Ao11 t694.length co11] rfl (by (try simp only [zMa, zMc, zMn]); first |  done|  rfl|  (simp only [zLd, zLt]; rfl)) ?_; (with_reducible refine (r1_Cmp.calls k1 _ _ t716 _ _ t694 t719 _ ?side1 ?side2 ?side3 ?side4 A22.out).mono ?_); (case side1 => exact uC (zRr HO718.out).2.2); (case side2 => exact (zRr HO718.out).2.1); (case side3 => exact uC (zRr HO_1.out).2.2); (case side4 => exact (zRr HO_1.out).2.1); rintro e w53 ⟨rfl, hb⟩; refine ⟨_, rfl, ?_⟩; replace HO_1 := zMk (zRb (uR HO_1.out) hb); replace HO_7 := zMk (zRb (uR HO_7.out) hb); replace HO_8 := zMk (zRb (uR HO_8.out) hb); replace HO_9 := zMk (zRb (uR HO_9.out) hb); replace HO712 := zMk (zRb (uR HO712.out) hb); replace HO715 := zMk (zRb (uR HO715.out) hb); replace HO718 := zMk (zRb (uR HO718.out) hb); replace HB := zMk (zBt (uT HB.out) hb)))
     go_roundg k1
     case measure => have := HK1.out; omega
     case rel => exact ⟨(x8_1), (t716), (wrap64 (x10_1 - 1)), (by first | rfl | (simp; done) | (simp [*]; done)), H', ⟨by have := HK1.out; omega⟩, ⟨by (with_reducible repeat (first | apply zRa | apply zRn | apply zRd)); exact zRm HO_1.out (fun _ hk => hk.2)⟩, ⟨by (with_reducible repeat (first | apply zRa | apply zRn | apply zRd)); exact zRm HO_7.out (fun _ hk => hk.1.1)⟩, ⟨by (with_reducible repeat (first | apply zRa | apply zRn | apply zRd)); exact zRm HO_8.out (fun _ hk => hk.1.1)⟩, ⟨by (with_reducible repeat (first | apply zRa | apply zRn | apply zRd)); exact zRm HO718.out (fun _ hk => hk.1.2)⟩, ⟨by exact uT HB.out⟩⟩
   ·rw [if_neg c16] at H
    have c16b0 : decide (0 ≤ x10_1) = false := decide_eq_false c16
    clear c16
    replace H := bnd H
    obtain ⟨t703, A540, H⟩ := H
    have A54 := zMk A540
    clear A540
    simp only [Option.some.injEq, Prod.mk.injEq] at H
    obtain ⟨rfl, rfl, rfl⟩ := H
    obtain ⟨Ao55, co55, eo55⟩ := zRs HO_8.out
    subst eo55
    go_wp2_with (first | ((with_reducible refine gate_callee (f:=65) rfl ?_); refine goesL_ (some 51) rfl rfl Tryd.func65 (by kernel_rfl) rfl #[.slice Ao55 x8_1.length co55] rfl (by (try simp only [zMa, zMc, zMn]); first |  done|  rfl|  (simp only [zLd, zLt]; rfl)) ?_; (with_reducible refine (r1_limbs.calls k1 _ _ x8_1 t703 _ ?side1 ?side2 A54.out).mono ?_); (case side1 => exact uC (zRr HO_8.out).2.2); (case side2 => exact (zRr HO_8.out).2.1); rintro e w56 ⟨v704, rfl, ho0, hb⟩; refine ⟨_, rfl, ?_⟩; replace HO_7 := zMk (zRb (uR HO_7.out) hb); replace HO_8 := zMk (zRb (uR HO_8.out) hb); have HO705 := zMk (zRl (zRw (zRw ho0 (zRt (uR HO_1.out))) (zRt (uR HO_9.out))) (zBs (uT HB.out))); replace HO_1 := zMk (zRe (uR HO_1.out) (zRz ho0) hb); replace HO_9 := zMk (zRe (uR HO_9.out) (zRz ho0) hb); replace HB := zMk (zBt (uT HB.out) hb)))
    go_ret3
    exact ⟨_, _, by first | rfl | (simp [errW_none, errW_some] <;> rfl) | (simp [*, errW_none, errW_some] <;> rfl), by (with_reducible repeat (first | apply zRa | apply zRn | apply zRd)); exact zRm HO705.out (fun _ hk => hk.2), by (with_reducible repeat (first | apply zRa | apply zRn | apply zRd)); exact zRm HO_9.out (fun _ hk => hk.2), by exact uT HB.out⟩
  ·rw [if_neg c8] at H
   exact absurd H (by simp)

theorem rdiv_l0 (b x : List Int) (hb : Limbs b) (hx : Bits x) (lb : b.length ≤ 20) (lx : x.length ≤ 1000) (hbp : 0 < val b) :
  ∀ (m k : Nat) (Q r : List Int) (qv : Int), m ≤ x.length → Q.length = x.length → Bits Q → (∀ i, i < m → Q.getD i 0 = 0) → Aside0 (bval Q = Tp m * qv) → IsNum r (val r) → val r < val b → Aside0 (bval (x.drop m) = qv * val b + val r) → 10000 + m ≤ k →
  ∃ q r', r1_DivMod.l0 k b x Q r ((m : Int) - 1) = some (q, r', 0) ∧ IsNum q (bval x / val b) ∧ IsNum r' (bval x % val b) := by
 intro m
 induction m with
 | zero =>
  intro k Q r qv _ hQ bQ _ h1 nr hr h2 hk
  obtain ⟨k, rfl⟩ : ∃ d, k = d + 1 := ⟨k - 1, by omega⟩
  have h3 := h1.out
  have h4 := h2.out
  rw [Tp_zero, Int.one_mul] at h3
  rw [List.drop_zero] at h4
  obtain ⟨q, e1, n1, _⟩ := limbs_f Q bQ (by omega) k (by omega)
  have hr0 := val_nonneg nr.limbs
  refine ⟨q, r, ?_, ?_, ?_⟩
  ·rw [r1_DivMod.l0, if_neg (by omega), e1]
   rfl
  ·rw [h4, Int.add_comm, Int.add_mul_ediv_right _ _ (Int.ne_of_gt hbp), Int.ediv_eq_zero_of_lt hr0 hr, Int.zero_add, ← h3]
   exact n1
  ·rw [h4, Int.add_comm, Int.add_mul_emod_self_right, Int.emod_eq_of_lt hr0 hr]
   exact nr
 | succ m ih =>
  intro k Q r qv hm hQ bQ hz h1 nr hr h2 hk
  obtain ⟨k, rfl⟩ : ∃ d, k = d + 1 := ⟨k - 1, by omega⟩
  have hxm := hx.getD m
  have hrl : r.length ≤ b.length := len_of_lt nr (Int.lt_trans hr (val_ltB hb))
  have hbl := bitsOf_length r
  have hr0 := val_nonneg nr.limbs
  obtain ⟨t, e1, n1, _⟩ := limbs_f ([x.getD m 0] ++ bitsOf r) ((Bits.one hxm).append (bitsOf_bits r)) (by rw [List.length_append]; simp only [zLc, zLn]; omega) k (by rw [List.length_append]; simp only [zLc, zLn]; omega)
  have hbv : bval ([x.getD m 0] ++ bitsOf r) = x.getD m 0 + 2 * val r := by
   show x.getD m 0 + 2 * bval (bitsOf r) = _
   rw [bval_bitsOf nr.limbs]
  rw [hbv] at n1
  have htl : t.length ≤ b.length + 1 := len_of_lt n1 (by
   have := val_ltB hb
   rw [Bp_succ]
   omega)
  have hd : Aside0 (bval (x.drop m) = (2 * qv) * val b + (x.getD m 0 + 2 * val r)) := ⟨by
   rw [bval_drop x m (by omega), h2.out]
   grind⟩
  have hl0 : r1_DivMod.l0 (k + 1) b x Q r (((m + 1 : Nat) : Int) - 1) = (if cmpI (val t) (val b) ≥ 0 then ((r1_Sub.f k t b).bind fun bt579 => r1_DivMod.l0 k b x (Q.set m 1) bt579.1 ((m : Int) - 1)) else r1_DivMod.l0 k b x Q t ((m : Int) - 1)) := by
   rw [show ((m + 1 : Nat) : Int) - 1 = (m : Int) by omega, r1_DivMod.l0, if_pos (by omega), if_pos (by omega), if_pos (by omega), zOb, bits_f r nr.limbs (by omega) k (by omega), zOb, if_pos (by simp only [zLc, zLn]; omega), rd_nat, e1, zOb, rcmp_f t b n1.limbs hb (by omega) (by omega) k (by omega), zOb, w64 (n:=(m : Int) - 1) (by omega) (by omega), zTn]
   congr 1
   refine congrArg _ (funext fun p => ?_)
   rw [if_pos (by omega)]
  rw [hl0]
  by_cases hc : val b ≤ val t
  ·have hcm : cmpI (val t) (val b) ≥ 0 := by
    unfold cmpI
    rw [if_neg (by omega)]
    split <;> omega
   rw [if_pos hcm]
   rcases rsub_f t b n1.limbs hb (by omega) (by omega) k (by omega) with ⟨h, _⟩ | ⟨_, y, e2, n2⟩
   ·omega
   ·rw [e2, zOb]
    have hy : val y = val t - val b := n2.eq
    rw [n1.eq] at hy
    refine ih k (Q.set m 1) y (2 * qv + 1) (by omega) (by rw [List.length_set]; exact hQ) (bQ.set m (.inr rfl)) (fun i hi => by rw [getD_set_ne _ _ (by omega)]; exact hz i (by omega)) ⟨?_⟩ ⟨n2.limbs, n2.trim, rfl⟩ (by omega) ⟨?_⟩ (by omega)
    ·rw [bval_set _ _ _ (by omega), h1.out, hz m (by omega), Tp_succ]
     grind
    ·rw [hd.out, hy]
     grind
  ·have hcm : ¬ cmpI (val t) (val b) ≥ 0 := by
    unfold cmpI
    rw [if_pos (by omega)]
    decide
   rw [if_neg hcm]
   have ht : val t = x.getD m 0 + 2 * val r := n1.eq
   refine ih k Q t (2 * qv) (by omega) hQ bQ (fun i hi => hz i (by omega)) ⟨?_⟩ ⟨n1.limbs, n1.trim, rfl⟩ (by omega) ⟨?_⟩ (by omega)
   ·rw [h1.out, Tp_succ]
    grind
   ·rw [hd.out, ht]
theorem rdivmod_f (a b : List Int) (ha : Limbs a) (hb : Limbs b) (la : a.length ≤ 20) (lb : b.length ≤ 20) (k : Nat) (hk : 20000 ≤ k) :
  (val b = 0 ∧ r1_DivMod.f k a b = some ([], [], 15)) ∨ (0 < val b ∧ ∃ q r, r1_DivMod.f k a b = some (q, r, 0) ∧ IsNum q (val a / val b) ∧ IsNum r (val a % val b)) := by
 have cb := cut_length b
 unfold r1_DivMod.f
 rw [norm_f b (by omega) k (by omega), zOb]
 by_cases h0 : ((cut b).length : Int) = 0
 ·refine .inl ⟨?_, by rw [if_pos h0]⟩
  rw [← cut_val b, List.eq_nil_of_length_eq_zero (by omega : (cut b).length = 0)]
  rfl
 ·have hne : cut b ≠ [] := fun h => h0 (by rw [h]; rfl)
  have hbp := val_pos (cut_limbs hb) (cut_trim b) hne
  have hbl := bitsOf_length a
  obtain ⟨q, r, e, nq, nr⟩ := rdiv_l0 (cut b) (bitsOf a) (cut_limbs hb) (bitsOf_bits a) (by omega) (by omega) hbp (bitsOf a).length k (List.replicate (bitsOf a).length 0) [] 0 (Nat.le_refl _) (by simp) (bits_zero _) (fun i _ => zeros_getD _ i) ⟨by rw [bval_zero, Int.mul_zero]⟩ IsNum.nil hbp ⟨by rw [List.drop_length]; simp [bval, val]⟩ (by omega)
  rw [bval_bitsOf ha, cut_val] at nq nr
  rw [cut_val] at hbp
  refine .inr ⟨hbp, q, r, ?_, nq, nr⟩
  rw [if_neg h0, bits_f a ha (by omega) k (by omega), zOb, if_pos (by omega), zTn, if_pos (by omega), w64 (by omega) (by omega)]
  exact e

def filigreeref02_make2.f (k : Nat) (a0 : Bool) (l1 : List Int) : Option (Bool × List Int) := (r1_Norm.f k l1).bind fun t442 => (if a0 = true then (some (decide ((t442.length : Int) > 0), t442)) else (some (false, t442)))
theorem filigreeref02_make2.calls (k : Nat) (a0 : Bool) (A1 : Option Addr) (c1 : Nat) (l1 : List Int) (r1 : Bool) (r2 : List Int) (w : World) (hr1 : Kd.C (Kd.int .u32) w A1 l1.length l1) (hc1 : l1.length ≤ c1) (h : filigreeref02_make2.f k a0 l1 = some (r1, r2)) :
  Calls Tryd.prog 38 #[.bool a0, .slice A1 l1.length c1] w fun e w' => ∃ v1_ : Value, e = .returned (.agg #[.bool r1, v1_]) ∧ Kd.R (Kd.int .u32) 58 w' w.heap.size (fun _ => True) v1_ r2 ∧ Below w.heap.size w w' := by
 have hu24 := Tryd.underlying24
 have HR1 := zMk hr1
 have HC1 := zMk hc1
 clear hr1 hc1
 have HB := zMk (Below.refl w.heap.size w)
 have H : ((r1_Norm.f k l1).bind fun t442 => (if a0 = true then (some (decide ((t442.length : Int) > 0), t442)) else (some (false, t442)))) = some (r1, r2) := h
 clear h
 replace H := bnd H
 obtain ⟨t442, A30, H⟩ := H
 have A3 := zMk A30
 clear A30
 by_cases c4 : a0 = true
 ·subst c4
  replace H : (some (decide ((t442.length : Int) > 0), t442)) = some (r1, r2) := by rw [if_pos rfl] at H; exact H
  simp only [Option.some.injEq, Prod.mk.injEq] at H
  obtain ⟨rfl, rfl⟩ := H
  have hdl_ : decide ((t442.length : Int) > 0) = decide (0 < t442.length) := decide_eq_decide.2 (by omega)
  rw [hdl_]
  go_enter Tryd.func38, Tryd.ntmps38
  go_wp2_with (first | ((with_reducible refine gate_dst (N:=4) rfl ?_); (try (refine gate_guard (by rfl) ?_; dsimp only)); refine box_event ?hg (N:=4) ?hd (cs:=#[.bool false, .slice none 0 0]) (t:=24) ?hr ?_; (case hd => rfl); (case hg => rfl); (case hr => first | (go_simp; done)|(go_simp; rfl)|(go_simp; rw [show ∀ x : Int, IntKind.u32.wrap (IntKind.u8.wrap x) = x % 256 from fun x => (by show (x % 256) % 4294967296 = x % 256; omega)])); intro gb441 hg w5 hbox hb; have BK441 := zMk (hbox); have GW441 := zMk ((by rw [hg]; exact (zBs (uT HB.out)) : w.heap.size ≤ gb441)); have GE441 := zMk ((by rw [hg]; exact (zBs (uT HB.out)) : w.heap.size ≤ gb441)); have IGE441 := ownGe GE441.out; replace HB := zMk (zBt (uT HB.out) hb); clear hb hbox hg)|((with_reducible refine gate_callee (f:=63) rfl ?_); refine goesL_ (some 7) rfl rfl Tryd.func63 (by kernel_rfl) rfl #[.slice A1 l1.length c1] rfl (by (try simp only [zMa, zMc, zMn]); first |  done|  rfl|  (simp only [zLd, zLt]; rfl)) ?_; (with_reducible refine (r1_Norm.calls k _ _ l1 t442 _ ?side1 ?side2 A3.out).mono ?_); (case side1 => repeat (first |  exact (Kd.C_below HR1.out HB.out)|(with_reducible refine zCa ?_ _)|(with_reducible refine zCn ?_ _)|(with_reducible refine zCd ?_))); (case side2 => exact HC1.out); rintro e w6 ⟨v443, rfl, ho0, hb⟩; refine ⟨_, rfl, ?_⟩; have HO444 := zMk (zRl ho0 (zBs (uT HB.out))); replace BK441 := zMk (zKb BK441.out hb); replace HB := zMk (zBt (uT HB.out) hb); obtain ⟨Ao7, co7, eo7⟩ := zRs HO444.out; subst eo7; have hcz8_0 : w6.cell? ⟨gb441, 0, none⟩ = some (.bool false) := (zKc BK441.out 0).trans rfl; have hcz8_1 : w6.cell? ⟨gb441, 1, none⟩ = some (.slice none 0 0) := (zKc BK441.out 1).trans rfl; have hfz8_0 := zKf BK441.out 0; have hfz8_1 := zKf BK441.out 1))
  refine bodyPost_ret (results_cell_row rfl _ _ gb441 24 #[.bool (decide (0 < t442.length)), .slice Ao7 t442.length co7] (0, 0) _ rfl (by (with_reducible repeat (first | refine zKn ?_ _ | refine zKd ?_ | refine zKa ?_ _)); refine blk_put (cs:=#[.bool (decide (0 < t442.length)), .slice none 0 0]) ?_ 1 _ rfl; (with_reducible repeat (first | refine zKn ?_ _ | refine zKd ?_ | refine zKa ?_ _)); refine blk_put (cs:=#[.bool false, .slice none 0 0]) ?_ 0 _ rfl; (with_reducible repeat (first | refine zKn ?_ _ | refine zKd ?_ | refine zKa ?_ _)); exact BK441.out) Tryd.underlying24 rfl (by kernel_rfl)) rfl ?_
  exact ⟨_, by first | rfl | (simp [errW_none, errW_some] <;> rfl) | (simp [*, errW_none, errW_some] <;> rfl), by (with_reducible repeat (first | apply zRa | apply zRn | apply zRd)); exact zRm (Kd.R_far (p:=⟨gb441, 1, none⟩) (Kd.R_far (p:=⟨gb441, 0, none⟩) (Kd.R_types HO444.out BK441.out (by decide)) (fun _ hk => hk.2) (.bool (decide (0 < t442.length)))) (fun _ hk => hk.2) (.slice Ao7 t442.length co7)) (fun _ hk => trivial), by exact uT HB.out⟩
 ·replace c4 := Bool.eq_false_iff.mpr c4
  subst c4
  replace H : (some (false, t442)) = some (r1, r2) := by rw [if_neg (show ¬ (false = true) by decide)] at H; exact H
  simp only [Option.some.injEq, Prod.mk.injEq] at H
  obtain ⟨rfl, rfl⟩ := H
  go_enter Tryd.func38, Tryd.ntmps38
  go_wp2_with (first | ((with_reducible refine gate_dst (N:=4) rfl ?_); (try (refine gate_guard (by rfl) ?_; dsimp only)); refine box_event ?hg (N:=4) ?hd (cs:=#[.bool false, .slice none 0 0]) (t:=24) ?hr ?_; (case hd => rfl); (case hg => rfl); (case hr => first | (go_simp; done)|(go_simp; rfl)|(go_simp; rw [show ∀ x : Int, IntKind.u32.wrap (IntKind.u8.wrap x) = x % 256 from fun x => (by show (x % 256) % 4294967296 = x % 256; omega)])); intro gb441 hg w9 hbox hb; have BK441 := zMk (hbox); have GW441 := zMk ((by rw [hg]; exact (zBs (uT HB.out)) : w.heap.size ≤ gb441)); have GE441 := zMk ((by rw [hg]; exact (zBs (uT HB.out)) : w.heap.size ≤ gb441)); have IGE441 := ownGe GE441.out; replace HB := zMk (zBt (uT HB.out) hb); clear hb hbox hg)|((with_reducible refine gate_callee (f:=63) rfl ?_); refine goesL_ (some 7) rfl rfl Tryd.func63 (by kernel_rfl) rfl #[.slice A1 l1.length c1] rfl (by (try simp only [zMa, zMc, zMn]); first |  done|  rfl|  (simp only [zLd, zLt]; rfl)) ?_; (with_reducible refine (r1_Norm.calls k _ _ l1 t442 _ ?side1 ?side2 A3.out).mono ?_); (case side1 => repeat (first |  exact (Kd.C_below HR1.out HB.out)|(with_reducible refine zCa ?_ _)|(with_reducible refine zCn ?_ _)|(with_reducible refine zCd ?_))); (case side2 => exact HC1.out); rintro e w10 ⟨v443, rfl, ho0, hb⟩; refine ⟨_, rfl, ?_⟩; have HO444 := zMk (zRl ho0 (zBs (uT HB.out))); replace BK441 := zMk (zKb BK441.out hb); replace HB := zMk (zBt (uT HB.out) hb); obtain ⟨Ao11, co11, eo11⟩ := zRs HO444.out; subst eo11; have hcz12_0 : w10.cell? ⟨gb441, 0, none⟩ = some (.bool false) := (zKc BK441.out 0).trans rfl; have hcz12_1 : w10.cell? ⟨gb441, 1, none⟩ = some (.slice none 0 0) := (zKc BK441.out 1).trans rfl; have hfz12_0 := zKf BK441.out 0; have hfz12_1 := zKf BK441.out 1))
  refine bodyPost_ret (results_cell_row rfl _ _ gb441 24 #[.bool false, .slice Ao11 t442.length co11] (0, 0) _ rfl (by (with_reducible repeat (first | refine zKn ?_ _ | refine zKd ?_ | refine zKa ?_ _)); refine blk_put (cs:=#[.bool false, .slice none 0 0]) ?_ 1 _ rfl; (with_reducible repeat (first | refine zKn ?_ _ | refine zKd ?_ | refine zKa ?_ _)); refine blk_put (cs:=#[.bool false, .slice none 0 0]) ?_ 0 _ rfl; (with_reducible repeat (first | refine zKn ?_ _ | refine zKd ?_ | refine zKa ?_ _)); exact BK441.out) Tryd.underlying24 rfl (by kernel_rfl)) rfl ?_
  exact ⟨_, by first | rfl | (simp [errW_none, errW_some] <;> rfl) | (simp [*, errW_none, errW_some] <;> rfl), by (with_reducible repeat (first | apply zRa | apply zRn | apply zRd)); exact zRm (Kd.R_far (p:=⟨gb441, 1, none⟩) (Kd.R_far (p:=⟨gb441, 0, none⟩) (Kd.R_types HO444.out BK441.out (by decide)) (fun _ hk => hk.2) (.bool false)) (fun _ hk => hk.2) (.slice Ao11 t442.length co11)) (fun _ hk => trivial), by exact uT HB.out⟩


def r1_sum.l0 : Nat → List Int → List Int → List Int → Int → Int → Option (List Int)
 | 0, _, _, _, _, _ => none
 | k + 1, x0, x1, x5, x6, x7 => if x7 ≤ (mx (x0.length : Int) (x1.length : Int)) then ((r1_at.f x0 x7).bind fun t605 => ((r1_at.f x1 x7).bind fun t606 => (if x5.length < 140737488355328 then (r1_sum.l0 k x0 x1 (x5 ++ [Go.bits .and .u8 ((((t605 + t606) % 256) + x6) % 256) 1]) (((((t605 + t606) % 256) + x6) % 256) / 2) (wrap64 (x7 + 1))) else (none)))) else (some x5)
def r1_sum.f (k : Nat) (l0 : List Int) (l1 : List Int) : Option (List Int) := r1_sum.l0 k l0 l1 ([] : List Int) 0 0
theorem r1_sum.calls (k : Nat) (A0 : Option Addr) (c0 : Nat) (l0 : List Int) (A1 : Option Addr) (c1 : Nat) (l1 : List Int) (r : List Int) (w : World) (hr0 : Kd.C (Kd.int .u8) w A0 l0.length l0) (hc0 : l0.length ≤ c0) (hr1 : Kd.C (Kd.int .u8) w A1 l1.length l1) (hc1 : l1.length ≤ c1) (h : r1_sum.f k l0 l1 = some r) :
  Calls Tryd.prog 67 #[.slice A0 l0.length c0, .slice A1 l1.length c1] w fun e w' => ∃ v0_ : Value, e = .returned (v0_) ∧ Kd.R (Kd.int .u8) 5 w' w.heap.size (fun _ => True) v0_ r ∧ Below w.heap.size w w' := by
 have HR0 := zMk hr0
 have HC0 := zMk hc0
 clear hr0 hc0
 have HR1 := zMk hr1
 have HC1 := zMk hc1
 clear hr1 hc1
 have HB := zMk (Below.refl w.heap.size w)
 have H : (r1_sum.l0 k l0 l1 ([] : List Int) 0 0) = some r := h
 clear h
 have H' := zMk H
 clear H
 go_enter Tryd.func67, Tryd.ntmps67
 go_wp2
 go_loopg [5, 6, 7] k (fun kq v5 v6 v7 w' => ∃ (x5_1 : List Int) (x6_1 : Int) (x7_1 : Int), v6 = .int .u8 x6_1 ∧ v7 = .int .i64 x7_1 ∧ Aside0 (r1_sum.l0 kq l0 l1 x5_1 x6_1 x7_1 = some r) ∧ Aside0 (kq ≤ k) ∧ Aside0 (Kd.R (Kd.int .u8) 5 w' w.heap.size (fun _ => True) v5 x5_1) ∧ Aside0 (Below w.heap.size w w'))
 case atStart => exact ⟨(([] : List Int)), (0), (0), (by first | rfl | (simp; done) | (simp [*]; done)), (by first | rfl | (simp; done) | (simp [*]; done)), H', ⟨Nat.le_refl _⟩, ⟨by first | exact Kd.R_nil _ _ _ _ _ | exact Kd.N_nil _ _ _ _ _ | exact Kd.V_nil _ _ _ _ _ | exact Kd.Q_nil _ _ _ _ _ | exact Kd.S_nil _ _ _ _ _⟩, ⟨by exact uT HB.out⟩⟩
 clear H'
 obtain ⟨x5_1, x6_1, x7_1, rfl, rfl, HA, HK1, HO_5, HB⟩ := hrel
 rcases gk with _ | k1
 ·exact absurd HA.out (by simp [r1_sum.l0])
 have H := HA.out
 clear HA
 simp only [r1_sum.l0] at H
 obtain ⟨ji3, hji3⟩ : ∃ j_ : Int, (mx (l0.length : Int) (l1.length : Int)) = j_ := ⟨_, rfl⟩
 replace H : (if x7_1 ≤ (ji3) then ((r1_at.f l0 x7_1).bind fun t605 => ((r1_at.f l1 x7_1).bind fun t606 => (if x5_1.length < 140737488355328 then (r1_sum.l0 k1 l0 l1 (x5_1 ++ [Go.bits .and .u8 ((((t605 + t606) % 256) + x6_1) % 256) 1]) (((((t605 + t606) % 256) + x6_1) % 256) / 2) (wrap64 (x7_1 + 1))) else (none)))) else (some x5_1)) = some r := by first | (rw [hji3] at H; exact H) | (simp only [hji3] at H ⊢; exact H)
 have hji3_ : (if (l0.length : Int) < (l1.length : Int) then (l1.length : Int) else (l0.length : Int)) = ji3 := hji3
 have hji3_n : (if l0.length < l1.length then (l1.length : Int) else (l0.length : Int)) = ji3 := by rw [← hji3]; simp only [mx, mn, Int.ofNat_lt]
 by_cases c4 : x7_1 ≤ (ji3)
 ·rw [if_pos c4] at H
  have c4b0 : decide (x7_1 ≤ (ji3)) = true := decide_eq_true c4
  clear c4
  replace H := bnd H
  obtain ⟨t605, A50, H⟩ := H
  have A5 := zMk A50
  clear A50
  replace H := bnd H
  obtain ⟨t606, A60, H⟩ := H
  have A6 := zMk A60
  clear A60
  by_cases c7 : x5_1.length < 140737488355328
  rotate_left
  ·rw [if_neg c7] at H; exact absurd H (by simp)
  rw [if_pos c7] at H
  have LMc7 := zMk c7
  clear c7
  obtain ⟨y607, hy607⟩ : ∃ y_ : List Int, y_ = (x5_1 ++ [Go.bits .and .u8 ((((t605 + t606) % 256) + x6_1) % 256) 1]) := ⟨_, rfl⟩
  replace H : (r1_sum.l0 k1 l0 l1 y607 (((((t605 + t606) % 256) + x6_1) % 256) / 2) (wrap64 (x7_1 + 1))) = some r := by first | (rw [hy607]; with_reducible exact H) | (have H2_ := bsm H; first | (rw [hy607]; with_reducible exact H2_) | with_reducible exact H2_) | with_reducible exact H | (rw [hy607]; exact H) | exact H
  have Ny607 := zMk hy607
  clear hy607
  have H' := zMk H
  clear H
  go_wp2_with (first | ((with_reducible refine gate_callee (f:=68) rfl ?_); refine goesL_ (some 20) rfl rfl Tryd.func68 (by kernel_rfl) rfl #[.slice A0 l0.length c0, .int .i64 x7_1] rfl (by (try simp only [zMa, zMc, zMn]); first |  done|  rfl|  (simp only [zLd, zLt]; rfl)) ?_; (with_reducible refine (r1_at.calls _ _ l0 x7_1 t605 _ ?side1 ?side2 A5.out).mono ?_); (case side1 => repeat (first |  exact (Kd.C_below HR0.out HB.out)|(with_reducible refine zCa ?_ _)|(with_reducible refine zCn ?_ _)|(with_reducible refine zCd ?_))); (case side2 => exact HC0.out); rintro e w' ⟨rfl, ⟨nd, rfl⟩⟩; refine ⟨_, rfl, ?_⟩)|((with_reducible refine gate_callee (f:=68) rfl ?_); refine goesL_ (some 23) rfl rfl Tryd.func68 (by kernel_rfl) rfl #[.slice A1 l1.length c1, .int .i64 x7_1] rfl (by (try simp only [zMa, zMc, zMn]); first |  done|  rfl|  (simp only [zLd, zLt]; rfl)) ?_; (with_reducible refine (r1_at.calls _ _ l1 x7_1 t606 _ ?side1 ?side2 A6.out).mono ?_); (case side1 => repeat (first |  exact (Kd.C_below HR1.out (uT HB.out))|(with_reducible refine zCa ?_ _)|(with_reducible refine zCn ?_ _)|(with_reducible refine zCd ?_))); (case side2 => exact HC1.out); rintro e w' ⟨rfl, ⟨nd, rfl⟩⟩; refine ⟨_, rfl, ?_⟩)|((with_reducible refine gate_builtin (b:=.append) (xs:=#[.tmp 27, .tmp 30]) rfl ?_); at_builtin; refine Kd.R_append (Kd.int .u8) (w0:=w) w.heap.size rfl (.tmp 27) (.tmp 30) 67 5 (.int .u8 0) 1 rfl Tryd.underlying67 info5 rfl (by decide) (by omega) u5 x5_1 (Go.bits .and .u8 ((t605 + t606 + x6_1) % 256) 1) [.int .u8 (Go.bits .and .u8 ((t605 + t606 + x6_1) % 256) 1)] (fun _ => True) (fun _ => False) rfl rfl ?aP (fun _ hk => hk.elim) ?aF ?aO ?aB ?aS ?aL ?_; (case aP => exact rfl); (case aB => exact (uT HB.out)); (case aF => exact (fun _ _ => trivial)); (case aO => exact (uR HO_5.out)); (case aS => exact (zBs (uT HB.out))); (case aL => have := LMc7.out; omega); intro v608 w8 ho hb hg hat; rw [show ((t605 + t606 + x6_1) % 256) = ((((t605 + t606) % 256) + x6_1) % 256) from by omega] at ho; rw [← Ny607.out] at ho; replace HB := zMk (hb); have HO609 := zMk (ho); clear HO_5 ho hb hg hat))
  go_roundg k1
  case measure => have := HK1.out; omega
  case rel => exact ⟨(y607), (((((t605 + t606) % 256) + x6_1) % 256) / 2), (wrap64 (x7_1 + 1)), (by first | rfl | (simp; done) | (simp [*]; done)), (by first | rfl | (simp; done) | (simp [*]; done)), H', ⟨by have := HK1.out; omega⟩, ⟨by exact uR HO609.out⟩, ⟨by exact uT HB.out⟩⟩
 ·rw [if_neg c4] at H
  have c4b0 : decide (x7_1 ≤ (ji3)) = false := decide_eq_false c4
  clear c4
  obtain rfl := zOi H
  go_wp2
  go_ret
  exact ⟨_, by first | rfl | (simp [errW_none, errW_some] <;> rfl) | (simp only [← hji3]; first | rfl | (simp [errW_none, errW_some] <;> rfl)) | (simp [*, errW_none, errW_some] <;> rfl), by exact uR HO_5.out, by exact uT HB.out⟩


def r1_Add.f (k : Nat) (l0 : List Int) (l1 : List Int) : Option (List Int) := (r1_bits.f k l0).bind fun t610 => ((r1_bits.f k l1).bind fun t613 => ((r1_sum.f k t610 t613).bind fun t616 => ((r1_limbs.f k t616).bind fun t619 => (some t619))))
theorem r1_Add.calls (k : Nat) (A0 : Option Addr) (c0 : Nat) (l0 : List Int) (A1 : Option Addr) (c1 : Nat) (l1 : List Int) (r : List Int) (w : World) (hr0 : Kd.C (Kd.int .u32) w A0 l0.length l0) (hc0 : l0.length ≤ c0) (hr1 : Kd.C (Kd.int .u32) w A1 l1.length l1) (hc1 : l1.length ≤ c1) (h : r1_Add.f k l0 l1 = some r) :
  Calls Tryd.prog 41 #[.slice A0 l0.length c0, .slice A1 l1.length c1] w fun e w' => ∃ v0_ : Value, e = .returned (v0_) ∧ Kd.R (Kd.int .u32) 58 w' w.heap.size (fun _ => True) v0_ r ∧ Below w.heap.size w w' := by
 have HR0 := zMk hr0
 have HC0 := zMk hc0
 clear hr0 hc0
 have HR1 := zMk hr1
 have HC1 := zMk hc1
 clear hr1 hc1
 have HB := zMk (Below.refl w.heap.size w)
 have H : ((r1_bits.f k l0).bind fun t610 => ((r1_bits.f k l1).bind fun t613 => ((r1_sum.f k t610 t613).bind fun t616 => ((r1_limbs.f k t616).bind fun t619 => (some t619))))) = some r := h
 clear h
 replace H := bnd H
 obtain ⟨t610, A30, H⟩ := H
 have A3 := zMk A30
 clear A30
 replace H := bnd H
 obtain ⟨t613, A40, H⟩ := H
 have A4 := zMk A40
 clear A40
 replace H := bnd H
 obtain ⟨t616, A50, H⟩ := H
 have A5 := zMk A50
 clear A50
 replace H := bnd H
 obtain ⟨t619, A60, H⟩ := H
 have A6 := zMk A60
 clear A60
 obtain rfl := zOi H
 go_enter Tryd.func41, Tryd.ntmps41
 go_wp2_with (first | ((with_reducible refine gate_callee (f:=64) rfl ?_); refine goesL_ (some 6) rfl rfl Tryd.func64 (by kernel_rfl) rfl #[.slice A0 l0.length c0] rfl (by (try simp only [zMa, zMc, zMn]); first |  done|  rfl|  (simp only [zLd, zLt]; rfl)) ?_; (with_reducible refine (r1_bits.calls k _ _ l0 t610 _ ?side1 ?side2 A3.out).mono ?_); (case side1 => repeat (first |  exact HR0.out|  (with_reducible refine zCa ?_ _)|(with_reducible refine zCn ?_ _)|(with_reducible refine zCd ?_))); (case side2 => exact HC0.out); rintro e w7 ⟨v611, rfl, ho0, hb⟩; refine ⟨_, rfl, ?_⟩; have HO612 := zMk (zRl ho0 (zBs (by exact uT HB.out))); replace HB := zMk (zBt (by exact uT HB.out) hb))|((with_reducible refine gate_callee (f:=64) rfl ?_); refine goesL_ (some 8) rfl rfl Tryd.func64 (by kernel_rfl) rfl #[.slice A1 l1.length c1] rfl (by (try simp only [zMa, zMc, zMn]); first |  done|  rfl|  (simp only [zLd, zLt]; rfl)) ?_; (with_reducible refine (r1_bits.calls k _ _ l1 t613 _ ?side1 ?side2 A4.out).mono ?_); (case side1 => repeat (first |  exact (Kd.C_below HR1.out HB.out)|(with_reducible refine zCa ?_ _)|(with_reducible refine zCn ?_ _)|(with_reducible refine zCd ?_))); (case side2 => exact HC1.out); rintro e w8 ⟨v614, rfl, ho0, hb⟩; refine ⟨_, rfl, ?_⟩; have HO615 := zMk (zRl (zRw ho0 (zRt (by exact uR HO612.out))) (zBs (by exact uT HB.out))); replace HO612 := zMk (zRe (by exact uR HO612.out) (zRz ho0) hb); replace HB := zMk (zBt (by exact uT HB.out) hb); obtain ⟨Ao9, co9, eo9⟩ := zRs HO612.out; subst eo9; obtain ⟨Ao10, co10, eo10⟩ := zRs HO615.out; subst eo10)|((with_reducible refine gate_callee (f:=67) rfl ?_); refine goesL_ (some 9) rfl rfl Tryd.func67 (by kernel_rfl) rfl #[.slice Ao9 t610.length co9, .slice Ao10 t613.length co10] rfl (by (try simp only [zMa, zMc, zMn]); first |  done|  rfl|  (simp only [zLd, zLt]; rfl)) ?_; (with_reducible refine (r1_sum.calls k _ _ t610 _ _ t613 t616 _ ?side1 ?side2 ?side3 ?side4 A5.out).mono ?_); (case side1 => exact uC (zRr HO612.out).2.2); (case side2 => exact (zRr HO612.out).2.1); (case side3 => exact uC (zRr HO615.out).2.2); (case side4 => exact (zRr HO615.out).2.1); rintro e w11 ⟨v617, rfl, ho0, hb⟩; refine ⟨_, rfl, ?_⟩; have HO618 := zMk (zRl (zRw (zRw ho0 (zRt (by exact uR HO612.out))) (zRt (by exact uR HO615.out))) (zBs (by exact uT HB.out))); replace HO612 := zMk (zRe (by exact uR HO612.out) (zRz ho0) hb); replace HO615 := zMk (zRe (by exact uR HO615.out) (zRz ho0) hb); replace HB := zMk (zBt (by exact uT HB.out) hb); obtain ⟨Ao12, co12, eo12⟩ := zRs HO618.out; subst eo12)|((with_reducible refine gate_callee (f:=65) rfl ?_); refine goesL_ (some 10) rfl rfl Tryd.func65 (by kernel_rfl) rfl #[.slice Ao12 t616.length co12] rfl (by (try simp only [zMa, zMc, zMn]); first |  done|  rfl|  (simp only [zLd, zLt]; rfl)) ?_; (with_reducible refine (r1_limbs.calls k _ _ t616 t619 _ ?side1 ?side2 A6.out).mono ?_); (case side1 => exact uC (zRr HO618.out).2.2); (case side2 => exact (zRr HO618.out).2.1); rintro e w13 ⟨v620, rfl, ho0, hb⟩; refine ⟨_, rfl, ?_⟩; replace HO612 := zMk (zRb (by exact uR HO612.out) hb); replace HO615 := zMk (zRb (by exact uR HO615.out) hb); replace HO618 := zMk (zRb (by exact uR HO618.out) hb); have HO621 := zMk (zRl ho0 (zBs (by exact uT HB.out))); replace HB := zMk (zBt (by exact uT HB.out) hb)))
 go_ret
 exact ⟨_, by first | rfl | (simp [errW_none, errW_some] <;> rfl) | (simp [*, errW_none, errW_some] <;> rfl), by exact uR HO621.out, by exact uT HB.out⟩


def filigreeref02_Add.f (k : Nat) (a0_0 : Bool) (l0_1 : List Int) (a1_0 : Bool) (l1_1 : List Int) : Option (Bool × List Int) := if (a0_0 == a1_0) = true then ((r1_Add.f k l0_1 l1_1).bind fun t653 => ((filigreeref02_make2.f k a0_0 t653).bind fun bt656 => (some (bt656.1, bt656.2)))) else ((r1_Cmp.f k l0_1 l1_1).bind fun t660 => (if t660 ≥ 0 then ((r1_Sub.f k l0_1 l1_1).bind fun bt661 => ((filigreeref02_make2.f k a0_0 bt661.1).bind fun bt665 => (some (bt665.1, bt665.2)))) else ((r1_Sub.f k l1_1 l0_1).bind fun bt669 => ((filigreeref02_make2.f k a1_0 bt669.1).bind fun bt673 => (some (bt673.1, bt673.2))))))
def filigreeref02_Add.T2 : Bool × List (List Nat × List Nat) := (true, [([], []), ([0], [0]), ([], []), ([2], [2]), ([], []), ([4], [4]), ([3, 5], [3, 5]), ([1, 6, 6], [1, 6]), ([7, 7, 0, 1, 2, 3, 4, 5, 6, 7], [7])])
def filigreeref02_Add.B2 : List Nat := [0, 1, 0, 4, 0, 16, 60, 127, 255]
theorem filigreeref02_Add.tab2 : rtab .any (opsOf Tryd.f18 2) = filigreeref02_Add.T2 := by kernel_rfl
theorem filigreeref02_Add.bits2 : waitsOk filigreeref02_Add.T2.2 filigreeref02_Add.B2 = true := by kernel_rfl
theorem filigreeref02_Add.calls (k : Nat) (a0_0 : Bool) (A0_1 : Option Addr) (c0_1 : Nat) (l0_1 : List Int) (a1_0 : Bool) (A1_1 : Option Addr) (c1_1 : Nat) (l1_1 : List Int) (r1 : Bool) (r2 : List Int) (w : World) (hr0_1 : Kd.C (Kd.int .u32) w A0_1 l0_1.length l0_1) (hc0_1 : l0_1.length ≤ c0_1) (hr1_1 : Kd.C (Kd.int .u32) w A1_1 l1_1.length l1_1) (hc1_1 : l1_1.length ≤ c1_1) (h : filigreeref02_Add.f k a0_0 l0_1 a1_0 l1_1 = some (r1, r2)) :
  Calls Tryd.prog 18 #[.agg #[.bool a0_0, .slice A0_1 l0_1.length c0_1], .agg #[.bool a1_0, .slice A1_1 l1_1.length c1_1]] w fun e w' => ∃ v1_ : Value, e = .returned (.agg #[.bool r1, v1_]) ∧ Kd.R (Kd.int .u32) 58 w' w.heap.size (fun _ => True) v1_ r2 ∧ Below w.heap.size w w' := by
 have hu24 := Tryd.underlying24
 have HR0_1 := zMk hr0_1
 have HC0_1 := zMk hc0_1
 clear hr0_1 hc0_1
 have HR1_1 := zMk hr1_1
 have HC1_1 := zMk hc1_1
 clear hr1_1 hc1_1
 have HB := zMk (Below.refl w.heap.size w)
 have H : (if (a0_0 == a1_0) = true then ((r1_Add.f k l0_1 l1_1).bind fun t653 => ((filigreeref02_make2.f k a0_0 t653).bind fun bt656 => (some (bt656.1, bt656.2)))) else ((r1_Cmp.f k l0_1 l1_1).bind fun t660 => (if t660 ≥ 0 then ((r1_Sub.f k l0_1 l1_1).bind fun bt661 => ((filigreeref02_make2.f k a0_0 bt661.1).bind fun bt665 => (some (bt665.1, bt665.2)))) else ((r1_Sub.f k l1_1 l0_1).bind fun bt669 => ((filigreeref02_make2.f k a1_0 bt669.1).bind fun bt673 => (some (bt673.1, bt673.2))))))) = some (r1, r2) := h
 clear h
 by_cases c3 : (a0_0 == a1_0) = true
 ·rw [if_pos c3] at H
  have c3b0 : (a0_0 == a1_0) = true := c3
  (try (have c3b1 : decide (a0_0 = a1_0) = true := by simpa using c3))
  (try (have c3b2 : (a0_0 == a1_0) = true := by simpa using c3))
  clear c3
  replace H := bnd H
  obtain ⟨t653, A40, H⟩ := H
  have A4 := zMk A40
  clear A40
  replace H := bnd H
  obtain ⟨⟨t656, t657⟩, A50, H⟩ := H
  replace H : (some (t656, t657)) = some (r1, r2) := H
  have A5 := zMk A50
  clear A50
  simp only [Option.some.injEq, Prod.mk.injEq] at H
  obtain ⟨rfl, rfl⟩ := H
  go_enter Tryd.func18, Tryd.ntmps18
  try go_wp2_with (first | ((with_reducible refine gate_dst (N:=2) rfl ?_); refine box_event ?hg (N:=2) ?hd (cs:=#[.bool a0_0, .slice A0_1 l0_1.length c0_1]) (t:=24) ?hr ?_; (case hd => rfl); (case hg => rfl); (case hr => first | (go_simp; done)|(go_simp; rfl)|(go_simp; rw [show ∀ x : Int, IntKind.u32.wrap (IntKind.u8.wrap x) = x % 256 from fun x => (by show (x % 256) % 4294967296 = x % 256; omega)])); intro gb650 hg w6 hbox hb; have BK650 := zMk (hbox); have GW650 := zMk ((by rw [hg]; exact (zBs (uT HB.out)) : w.heap.size ≤ gb650)); have GE650 := zMk ((by rw [hg]; exact (zBs (uT HB.out)) : w.heap.size ≤ gb650)); have IGE650 := ownGe GE650.out; replace HB := zMk (zBt (uT HB.out) hb); clear hb hbox hg)|((with_reducible refine gate_dst (N:=3) rfl ?_); refine box_event ?hg (N:=3) ?hd (cs:=#[.bool a1_0, .slice A1_1 l1_1.length c1_1]) (t:=24) ?hr ?_; (case hd => rfl); (case hg => rfl); (case hr => first | (go_simp; done)|(go_simp; rfl)|(go_simp; rw [show ∀ x : Int, IntKind.u32.wrap (IntKind.u8.wrap x) = x % 256 from fun x => (by show (x % 256) % 4294967296 = x % 256; omega)])); intro gb651 hg w7 hbox hb; have BK651 := zMk (hbox); have GW651 := zMk ((by rw [hg]; exact (zBs (uT HB.out)) : w.heap.size ≤ gb651)); have GE651 := zMk ((by rw [hg]; exact (zBs (uT HB.out)) : w.heap.size ≤ gb651)); have IGE651 := ownGe GE651.out; replace HB := zMk (zBt (uT HB.out) hb); have NB650_651 := zMk ((by rw [hg]; exact Nat.ne_of_lt (blk_lt BK650.out) : gb650 ≠ gb651)); have NB651_650 := zMk ((by rw [hg]; exact Nat.ne_of_gt (blk_lt BK650.out) : gb651 ≠ gb650)); replace BK650 := zMk (zKb BK650.out hb); clear hb hbox hg)|((with_reducible refine gate_dst (N:=4) rfl ?_); refine box_event ?hg (N:=4) ?hd (cs:=#[.bool false, .slice none 0 0]) (t:=24) ?hr ?_; (case hd => rfl); (case hg => rfl); (case hr => first | (go_simp; done)|(go_simp; rfl)|(go_simp; rw [show ∀ x : Int, IntKind.u32.wrap (IntKind.u8.wrap x) = x % 256 from fun x => (by show (x % 256) % 4294967296 = x % 256; omega)])); intro gb652 hg w8 hbox hb; have BK652 := zMk (hbox); have GW652 := zMk ((by rw [hg]; exact (zBs (uT HB.out)) : w.heap.size ≤ gb652)); have GE652 := zMk ((by rw [hg]; exact (zBs (uT HB.out)) : w.heap.size ≤ gb652)); have IGE652 := ownGe GE652.out; replace HB := zMk (zBt (uT HB.out) hb); have NB650_652 := zMk ((by rw [hg]; exact Nat.ne_of_lt (blk_lt BK650.out) : gb650 ≠ gb652)); have NB652_650 := zMk ((by rw [hg]; exact Nat.ne_of_gt (blk_lt BK650.out) : gb652 ≠ gb650)); replace BK650 := zMk (zKb BK650.out hb); have NB651_652 := zMk ((by rw [hg]; exact Nat.ne_of_lt (blk_lt BK651.out) : gb651 ≠ gb652)); have NB652_651 := zMk ((by rw [hg]; exact Nat.ne_of_gt (blk_lt BK651.out) : gb652 ≠ gb651)); replace BK651 := zMk (zKb BK651.out hb); clear hb hbox hg; have hnb9 := NB650_651.out; have hnc9 := NB651_650.out; have hnb10 := NB650_652.out; have hnc10 := NB652_650.out; have hcz11_0 : w8.cell? ⟨gb650, 0, none⟩ = some (.bool a0_0) := (zKc BK650.out 0).trans rfl; have hcz11_1 : w8.cell? ⟨gb650, 1, none⟩ = some (.slice A0_1 l0_1.length c0_1) := (zKc BK650.out 1).trans rfl; have hfz11_0 := zKf BK650.out 0; have hfz11_1 := zKf BK650.out 1; have hnb12 := NB651_652.out; have hnc12 := NB652_651.out; have hcz13_0 : w8.cell? ⟨gb651, 0, none⟩ = some (.bool a1_0) := (zKc BK651.out 0).trans rfl; have hcz13_1 : w8.cell? ⟨gb651, 1, none⟩ = some (.slice A1_1 l1_1.length c1_1) := (zKc BK651.out 1).trans rfl; have hfz13_0 := zKf BK651.out 0; have hfz13_1 := zKf BK651.out 1))
  replace BK650 := zMk (zKd BK650.out)
  replace BK651 := zMk (zKd BK651.out)
  replace BK652 := zMk (zKd BK652.out)
  replace HB := zMk (zBd HB.out)
  refine start_ (n:=9) (S:=fun w' => w'.cell? ⟨gb650, 0, none⟩ = some (.bool a0_0) ∧ w'.cell? ⟨gb650, 1, none⟩ = some (.slice A0_1 l0_1.length c0_1) ∧ w'.cell? ⟨gb651, 0, none⟩ = some (.bool a1_0) ∧ w'.cell? ⟨gb651, 1, none⟩ = some (.slice A1_1 l1_1.length c1_1)) (ds:=[]) #[false,false,false,false,false,false,false,false,false] (by kernel_rfl) rfl rfl ⟨(zKc BK650.out 0).trans rfl, (zKc BK650.out 1).trans rfl, (zKc BK651.out 0).trans rfl, (zKc BK651.out 1).trans rfl⟩ (fun hHeld => ?_); refine with_tabW filigreeref02_Add.tab2 filigreeref02_Add.bits2 (fun HT_ HW_ => ?_)
  generalize w8.drew = w14 at BK650 BK651 BK652 HB hHeld ⊢
  refine pure_ (i:=0) (N:=some 14) (v:=?_) (a' := ?_) #[true,false,false,false,false,false,false,false,false] rfl rfl (any_of HT_.out (by kernel_rfl)) (fun _ _ _ h => h) (Or.inl ⟨by rfl, ?_⟩) ?_ ?_
  rotate_left
  ·intro w'
   go_simp
   with_reducible rfl
  rotate_left
  ·simp only [Act.put, zSa, zSb, zSc, i64_w, i32_w]
   rfl
  refine pure_ (i:=2) (N:=some 16) (v:=?_) (a' := ?_) #[true,false,true,false,false,false,false,false,false] rfl rfl (any_of HT_.out (by kernel_rfl)) (fun _ _ _ h => h) (Or.inl ⟨by rfl, ?_⟩) ?_ ?_
  rotate_left
  ·intro w'
   go_simp
   with_reducible rfl
  rotate_left
  ·simp only [Act.put, zSa, zSb, zSc, i64_w, i32_w]
   rfl
  refine pure_ (i:=4) (N:=some 18) (v:=?_) (a' := ?_) #[true,false,true,false,true,false,false,false,false] rfl rfl (any_of HT_.out (by kernel_rfl)) (fun _ _ _ h => h) (Or.inl ⟨by rfl, ?_⟩) ?_ ?_
  rotate_left
  ·intro w'
   go_simp
   with_reducible rfl
  rotate_left
  ·simp only [Act.put, zSa, zSb, zSc, i64_w, i32_w]
   rfl
  refine take_ (i:=1) (N:=some 15) (v:=?_) (a' := ?_) #[true,true,true,false,true,false,false,false,false] rfl rfl (take_ofW HT_.out HW_.out (by kernel_rfl)) (fun _ _ _ h => h) (Or.inl ⟨by rfl, ?_⟩) hHeld ?_ ?_
  rotate_left
  ·rintro w' ⟨s0, s1, s2, s3⟩
   go_simp
   with_reducible rfl
  rotate_left
  ·simp only [Act.put, zSa, zSb, zSc, i64_w, i32_w]
   rfl
  refine take_ (i:=3) (N:=some 17) (v:=?_) (a' := ?_) #[true,true,true,true,true,false,false,false,false] rfl rfl (take_ofW HT_.out HW_.out (by kernel_rfl)) (fun _ _ _ h => h) (Or.inl ⟨by rfl, ?_⟩) hHeld ?_ ?_
  rotate_left
  ·rintro w' ⟨s0, s1, s2, s3⟩
   go_simp
   with_reducible rfl
  rotate_left
  ·simp only [Act.put, zSa, zSb, zSc, i64_w, i32_w]
   rfl
  refine take_ (i:=5) (N:=some 19) (v:=?_) (a' := ?_) #[true,true,true,true,true,true,false,false,false] rfl rfl (take_ofW HT_.out HW_.out (by kernel_rfl)) (fun _ _ _ h => h) (Or.inl ⟨by rfl, ?_⟩) hHeld ?_ ?_
  rotate_left
  ·rintro w' ⟨s0, s1, s2, s3⟩
   go_simp
   with_reducible rfl
  rotate_left
  ·simp only [Act.put, zSa, zSb, zSc, i64_w, i32_w]
   rfl
  refine one_ (i:=6) (N:=some 20) #[true,true,true,true,true,true,true,false,false] rfl rfl (one_of HT_.out (by kernel_rfl)) (by decide) (fun K hK => ?_)
  refine goes_ Tryd.func41 (by kernel_rfl) rfl #[.slice A0_1 l0_1.length c0_1, .slice A1_1 l1_1.length c1_1] (by rfl) rfl rfl (by (try simp only [zMa, zMc, zMn]); first | done | rfl | (simp only [zLd, zLt]; rfl)) ?_
  with_reducible refine (r1_Add.calls k _ _ l0_1 _ _ l1_1 t653 _ ?side1 ?side2 ?side3 ?side4 A4.out).mono ?_
  (case side1 => repeat (first | exact (Kd.C_below HR0_1.out HB.out) | (with_reducible refine zCa ?_ _) | (with_reducible refine zCn ?_ _) | (with_reducible refine zCd ?_)))
  (case side2 => exact HC0_1.out)
  (case side3 => repeat (first | exact (Kd.C_below HR1_1.out HB.out) | (with_reducible refine zCa ?_ _) | (with_reducible refine zCn ?_ _) | (with_reducible refine zCd ?_)))
  (case side4 => exact HC1_1.out)
  rintro e w15 ⟨v654, rfl, ho0, hb⟩
  refine ⟨_, rfl, ?_⟩
  have HO655 := zMk (zRl ho0 (zBs (uT HB.out)))
  replace BK650 := zMk (zKb BK650.out hb)
  replace BK651 := zMk (zKb BK651.out hb)
  replace BK652 := zMk (zKb BK652.out hb)
  replace HB := zMk (zBt (uT HB.out) hb)
  obtain ⟨Ao16, co16, eo16⟩ := zRs HO655.out
  (first |  subst eo16|  (injection eo16 with f1_ f2_ f3_; have f4_ := f1_.symm; have f5_ := f3_.symm; clear f1_ f2_ f3_; subst f4_; subst f5_))
  refine hK.out _ _ ⟨(zKc BK650.out 0).trans rfl, (zKc BK650.out 1).trans rfl, (zKc BK651.out 0).trans rfl, (zKc BK651.out 1).trans rfl⟩ (fun hHeld => ?_)
  clear hK K
  refine norm_ (a' := ?_) ?_ ?_
  rotate_left
  ·show Act.put _ (some 20) _ = _
   simp only [Act.put, zSa, zSb, zSc, i64_w, i32_w]
   rfl
  refine one_ (i:=7) (N:=some 21) #[true,true,true,true,true,true,true,true,false] rfl rfl (one_of HT_.out (by kernel_rfl)) (by decide) (fun K hK => ?_)
  refine goes_ Tryd.func38 (by kernel_rfl) rfl #[.bool a0_0, .slice Ao16 t653.length co16] (by rfl) rfl rfl (by (try simp only [zMa, zMc, zMn]); first | done | rfl | (simp only [zLd, zLt]; rfl)) ?_
  with_reducible refine (filigreeref02_make2.calls k a0_0 _ _ t653 t656 t657 _ ?side1 ?side2 A5.out).mono ?_
  (case side1 => exact uC (zRr HO655.out).2.2)
  (case side2 => exact (zRr HO655.out).2.1)
  rintro e w17 ⟨v658, rfl, ho0, hb⟩
  refine ⟨_, rfl, ?_⟩
  have HO659 := zMk (zRl (zRw ho0 (zRt (uR HO655.out))) (zBs (uT HB.out)))
  replace HO655 := zMk (zRe (uR HO655.out) (zRz ho0) hb)
  replace BK650 := zMk (zKb BK650.out hb)
  replace BK651 := zMk (zKb BK651.out hb)
  replace BK652 := zMk (zKb BK652.out hb)
  replace HB := zMk (zBt (uT HB.out) hb)
  obtain ⟨Ao19, co19, eo19⟩ := zRs HO659.out
  (first |  subst eo19|  (injection eo19 with f1_ f2_ f3_; have f4_ := f1_.symm; have f5_ := f3_.symm; clear f1_ f2_ f3_; subst f4_; subst f5_))
  refine hK.out _ _ ⟨(zKc BK650.out 0).trans rfl, (zKc BK650.out 1).trans rfl, (zKc BK651.out 0).trans rfl, (zKc BK651.out 1).trans rfl⟩ (fun hHeld => ?_)
  clear hK K
  refine norm_ (a' := ?_) ?_ ?_
  rotate_left
  ·show Act.put _ (some 21) _ = _
   simp only [Act.put, zSa, zSb, zSc, i64_w, i32_w]
   rfl
  refine one_ (i:=8) (N:=none) #[true,true,true,true,true,true,true,true,true] rfl rfl (one_of HT_.out (by kernel_rfl)) (by decide) (fun K hK => ?_)
  have hs18 : w17.cell? ⟨gb652, 0, none⟩ = some (.bool false) := (zKc BK652.out 0).trans rfl
  have hfs18 := zKf BK652.out 0
  have hns18_0 := NB650_652.out
  have hns18_1 := NB651_652.out
  have hms18_0 := NB652_650.out
  have hms18_1 := NB652_651.out
  have hs20 : w17.cell? ⟨gb652, 1, none⟩ = some (.slice none 0 0) := (zKc BK652.out 1).trans rfl
  have hfs20 := zKf BK652.out 1
  have hns20_0 := NB650_652.out
  have hns20_1 := NB651_652.out
  have hms20_0 := NB652_650.out
  have hms20_1 := NB652_651.out
  refine skip_ (w1:=?_) (by rfl) rfl ?_ ?_
  rotate_left
  ·go_simp
   rfl
  refine hK.out _ _ ⟨((cell_far (p:=⟨gb652, _, none⟩) NB650_652.out _).trans (((cell_far (p:=⟨gb652, _, none⟩) NB650_652.out _).trans (hHeld.1)))), ((cell_far (p:=⟨gb652, _, none⟩) NB650_652.out _).trans (((cell_far (p:=⟨gb652, _, none⟩) NB650_652.out _).trans (hHeld.2.1)))), ((cell_far (p:=⟨gb652, _, none⟩) NB651_652.out _).trans (((cell_far (p:=⟨gb652, _, none⟩) NB651_652.out _).trans (hHeld.2.2.1)))), ((cell_far (p:=⟨gb652, _, none⟩) NB651_652.out _).trans (((cell_far (p:=⟨gb652, _, none⟩) NB651_652.out _).trans (hHeld.2.2.2))))⟩ (fun hHeld => ?_)
  clear hK K
  refine done_ (done_of HT_.out (by kernel_rfl)) ?_
  try go_wp2
  refine bodyPost_ret (results_cell_row rfl _ _ gb652 24 #[.bool t656, .slice Ao19 t657.length co19] (0, 0) _ rfl (by (with_reducible repeat (first | refine zKn ?_ _ | refine zKd ?_ | refine zKa ?_ _)); refine blk_put (cs:=#[.bool t656, .slice none 0 0]) ?_ 1 _ rfl; (with_reducible repeat (first | refine zKn ?_ _ | refine zKd ?_ | refine zKa ?_ _)); refine blk_put (cs:=#[.bool false, .slice none 0 0]) ?_ 0 _ rfl; (with_reducible repeat (first | refine zKn ?_ _ | refine zKd ?_ | refine zKa ?_ _)); exact BK652.out) Tryd.underlying24 rfl (by kernel_rfl)) rfl ?_
  exact ⟨_, by first | rfl | (simp [errW_none, errW_some] <;> rfl) | (simp [*, errW_none, errW_some] <;> rfl), by (with_reducible repeat (first | apply zRa | apply zRn | apply zRd)); exact zRm (Kd.R_far (p:=⟨gb652, 1, none⟩) (Kd.R_far (p:=⟨gb652, 0, none⟩) (Kd.R_types HO659.out BK652.out (by decide)) (fun _ hk => hk.2) (.bool t656)) (fun _ hk => hk.2) (.slice Ao19 t657.length co19)) (fun _ hk => trivial), by exact uT HB.out⟩
 ·rw [if_neg c3] at H
  have c3b0 : (a0_0 == a1_0) = false := by simpa using c3
  (try (have c3b1 : decide (a0_0 = a1_0) = false := by simpa using c3))
  (try (have c3b2 : (a0_0 == a1_0) = false := by simpa using c3))
  (try (have c3b3 : ¬ (a0_0 = a1_0) := by simpa using c3))
  clear c3
  replace H := bnd H
  obtain ⟨t660, A210, H⟩ := H
  have A21 := zMk A210
  clear A210
  by_cases c22 : t660 ≥ 0
  ·rw [if_pos c22] at H
   have c22b0 : decide (0 ≤ t660) = true := decide_eq_true c22
   clear c22
   replace H := bnd H
   obtain ⟨⟨t661, t662⟩, A230, H⟩ := H
   replace H : ((filigreeref02_make2.f k a0_0 t661).bind fun bt665 => (some (bt665.1, bt665.2))) = some (r1, r2) := H
   have A23 := zMk A230
   clear A230
   replace H := bnd H
   obtain ⟨⟨t665, t666⟩, A240, H⟩ := H
   replace H : (some (t665, t666)) = some (r1, r2) := H
   have A24 := zMk A240
   clear A240
   simp only [Option.some.injEq, Prod.mk.injEq] at H
   obtain ⟨rfl, rfl⟩ := H
   go_enter Tryd.func18, Tryd.ntmps18
   go_wp2_with (first | ((with_reducible refine gate_dst (N:=2) rfl ?_); refine box_event ?hg (N:=2) ?hd (cs:=#[.bool a0_0, .slice A0_1 l0_1.length c0_1]) (t:=24) ?hr ?_; (case hd => rfl); (case hg => rfl); (case hr => first | (go_simp; done)|(go_simp; rfl)|(go_simp; rw [show ∀ x : Int, IntKind.u32.wrap (IntKind.u8.wrap x) = x % 256 from fun x => (by show (x % 256) % 4294967296 = x % 256; omega)])); intro gb650 hg w25 hbox hb; have BK650 := zMk (hbox); have GW650 := zMk ((by rw [hg]; exact (zBs (uT HB.out)) : w.heap.size ≤ gb650)); have GE650 := zMk ((by rw [hg]; exact (zBs (uT HB.out)) : w.heap.size ≤ gb650)); have IGE650 := ownGe GE650.out; replace HB := zMk (zBt (uT HB.out) hb); clear hb hbox hg)|((with_reducible refine gate_dst (N:=3) rfl ?_); refine box_event ?hg (N:=3) ?hd (cs:=#[.bool a1_0, .slice A1_1 l1_1.length c1_1]) (t:=24) ?hr ?_; (case hd => rfl); (case hg => rfl); (case hr => first | (go_simp; done)|(go_simp; rfl)|(go_simp; rw [show ∀ x : Int, IntKind.u32.wrap (IntKind.u8.wrap x) = x % 256 from fun x => (by show (x % 256) % 4294967296 = x % 256; omega)])); intro gb651 hg w26 hbox hb; have BK651 := zMk (hbox); have GW651 := zMk ((by rw [hg]; exact (zBs (uT HB.out)) : w.heap.size ≤ gb651)); have GE651 := zMk ((by rw [hg]; exact (zBs (uT HB.out)) : w.heap.size ≤ gb651)); have IGE651 := ownGe GE651.out; replace HB := zMk (zBt (uT HB.out) hb); have NB650_651 := zMk ((by rw [hg]; exact Nat.ne_of_lt (blk_lt BK650.out) : gb650 ≠ gb651)); have NB651_650 := zMk ((by rw [hg]; exact Nat.ne_of_gt (blk_lt BK650.out) : gb651 ≠ gb650)); replace BK650 := zMk (zKb BK650.out hb); clear hb hbox hg)|((with_reducible refine gate_dst (N:=4) rfl ?_); refine box_event ?hg (N:=4) ?hd (cs:=#[.bool false, .slice none 0 0]) (t:=24) ?hr ?_; (case hd => rfl); (case hg => rfl); (case hr => first | (go_simp; done)|(go_simp; rfl)|(go_simp; rw [show ∀ x : Int, IntKind.u32.wrap (IntKind.u8.wrap x) = x % 256 from fun x => (by show (x % 256) % 4294967296 = x % 256; omega)])); intro gb652 hg w27 hbox hb; have BK652 := zMk (hbox); have GW652 := zMk ((by rw [hg]; exact (zBs (uT HB.out)) : w.heap.size ≤ gb652)); have GE652 := zMk ((by rw [hg]; exact (zBs (uT HB.out)) : w.heap.size ≤ gb652)); have IGE652 := ownGe GE652.out; replace HB := zMk (zBt (uT HB.out) hb); have NB650_652 := zMk ((by rw [hg]; exact Nat.ne_of_lt (blk_lt BK650.out) : gb650 ≠ gb652)); have NB652_650 := zMk ((by rw [hg]; exact Nat.ne_of_gt (blk_lt BK650.out) : gb652 ≠ gb650)); replace BK650 := zMk (zKb BK650.out hb); have NB651_652 := zMk ((by rw [hg]; exact Nat.ne_of_lt (blk_lt BK651.out) : gb651 ≠ gb652)); have NB652_651 := zMk ((by rw [hg]; exact Nat.ne_of_gt (blk_lt BK651.out) : gb652 ≠ gb651)); replace BK651 := zMk (zKb BK651.out hb); clear hb hbox hg; have hnb28 := NB650_651.out; have hnc28 := NB651_650.out; have hnb29 := NB650_652.out; have hnc29 := NB652_650.out; have hcz30_0 : w27.cell? ⟨gb650, 0, none⟩ = some (.bool a0_0) := (zKc BK650.out 0).trans rfl; have hcz30_1 : w27.cell? ⟨gb650, 1, none⟩ = some (.slice A0_1 l0_1.length c0_1) := (zKc BK650.out 1).trans rfl; have hfz30_0 := zKf BK650.out 0; have hfz30_1 := zKf BK650.out 1; have hnb31 := NB651_652.out; have hnc31 := NB652_651.out; have hcz32_0 : w27.cell? ⟨gb651, 0, none⟩ = some (.bool a1_0) := (zKc BK651.out 0).trans rfl; have hcz32_1 : w27.cell? ⟨gb651, 1, none⟩ = some (.slice A1_1 l1_1.length c1_1) := (zKc BK651.out 1).trans rfl; have hfz32_0 := zKf BK651.out 0; have hfz32_1 := zKf BK651.out 1)|((with_reducible refine gate_callee (f:=42) rfl ?_); refine goesL_ (some 26) rfl rfl Tryd.func42 (by kernel_rfl) rfl #[.slice A0_1 l0_1.length c0_1, .slice A1_1 l1_1.length c1_1] rfl (by (try simp only [zMa, zMc, zMn]); first |  done|  rfl|  (simp only [zLd, zLt]; rfl)) ?_; (with_reducible refine (r1_Cmp.calls k _ _ l0_1 _ _ l1_1 t660 _ ?side1 ?side2 ?side3 ?side4 A21.out).mono ?_); (case side1 => repeat (first |  exact (Kd.C_below HR0_1.out HB.out)|(with_reducible refine zCa ?_ _)|(with_reducible refine zCn ?_ _)|(with_reducible refine zCd ?_))); (case side2 => exact HC0_1.out); (case side3 => repeat (first |  exact (Kd.C_below HR1_1.out HB.out)|(with_reducible refine zCa ?_ _)|(with_reducible refine zCn ?_ _)|(with_reducible refine zCd ?_))); (case side4 => exact HC1_1.out); rintro e w33 ⟨rfl, hb⟩; refine ⟨_, rfl, ?_⟩; replace BK650 := zMk (zKb BK650.out hb); replace BK651 := zMk (zKb BK651.out hb); replace BK652 := zMk (zKb BK652.out hb); replace HB := zMk (zBt (uT HB.out) hb); have hcz34_0 : w33.cell? ⟨gb650, 0, none⟩ = some (.bool a0_0) := (zKc BK650.out 0).trans rfl; have hcz34_1 : w33.cell? ⟨gb650, 1, none⟩ = some (.slice A0_1 l0_1.length c0_1) := (zKc BK650.out 1).trans rfl; have hfz34_0 := zKf BK650.out 0; have hfz34_1 := zKf BK650.out 1; have hcz35_0 : w33.cell? ⟨gb651, 0, none⟩ = some (.bool a1_0) := (zKc BK651.out 0).trans rfl; have hcz35_1 : w33.cell? ⟨gb651, 1, none⟩ = some (.slice A1_1 l1_1.length c1_1) := (zKc BK651.out 1).trans rfl; have hfz35_0 := zKf BK651.out 0; have hfz35_1 := zKf BK651.out 1)|((with_reducible refine gate_callee (f:=43) rfl ?_); refine goesL_ (some 33) rfl rfl Tryd.func43 (by kernel_rfl) rfl #[.slice A0_1 l0_1.length c0_1, .slice A1_1 l1_1.length c1_1] rfl (by (try simp only [zMa, zMc, zMn]); first |  done|  rfl|  (simp only [zLd, zLt]; rfl)) ?_; (with_reducible refine (r1_Sub.calls k _ _ l0_1 _ _ l1_1 t661 t662 _ ?side1 ?side2 ?side3 ?side4 A23.out).mono ?_); (case side1 => repeat (first |  exact (Kd.C_below HR0_1.out HB.out)|(with_reducible refine zCa ?_ _)|(with_reducible refine zCn ?_ _)|(with_reducible refine zCd ?_))); (case side2 => exact HC0_1.out); (case side3 => repeat (first |  exact (Kd.C_below HR1_1.out HB.out)|(with_reducible refine zCa ?_ _)|(with_reducible refine zCn ?_ _)|(with_reducible refine zCd ?_))); (case side4 => exact HC1_1.out); rintro e w36 ⟨v663, rfl, ho0, hb⟩; refine ⟨_, rfl, ?_⟩; have HO664 := zMk (zRl ho0 (zBs (uT HB.out))); replace BK650 := zMk (zKb BK650.out hb); replace BK651 := zMk (zKb BK651.out hb); replace BK652 := zMk (zKb BK652.out hb); replace HB := zMk (zBt (uT HB.out) hb); have hcz37_0 : w36.cell? ⟨gb650, 0, none⟩ = some (.bool a0_0) := (zKc BK650.out 0).trans rfl; have hcz37_1 : w36.cell? ⟨gb650, 1, none⟩ = some (.slice A0_1 l0_1.length c0_1) := (zKc BK650.out 1).trans rfl; have hfz37_0 := zKf BK650.out 0; have hfz37_1 := zKf BK650.out 1; obtain ⟨Ao38, co38, eo38⟩ := zRs HO664.out; subst eo38)|((with_reducible refine gate_callee (f:=38) rfl ?_); refine goesL_ (some 39) rfl rfl Tryd.func38 (by kernel_rfl) rfl #[.bool a0_0, .slice Ao38 t661.length co38] rfl (by (try simp only [zMa, zMc, zMn]); first |  done|  rfl|  (simp only [zLd, zLt]; rfl)) ?_; (with_reducible refine (filigreeref02_make2.calls k a0_0 _ _ t661 t665 t666 _ ?side1 ?side2 A24.out).mono ?_); (case side1 => exact uC (zRr HO664.out).2.2); (case side2 => exact (zRr HO664.out).2.1); rintro e w39 ⟨v667, rfl, ho0, hb⟩; refine ⟨_, rfl, ?_⟩; have HO668 := zMk (zRl (zRw ho0 (zRt (uR HO664.out))) (zBs (uT HB.out))); replace HO664 := zMk (zRe (uR HO664.out) (zRz ho0) hb); replace BK650 := zMk (zKb BK650.out hb); replace BK651 := zMk (zKb BK651.out hb); replace BK652 := zMk (zKb BK652.out hb); replace HB := zMk (zBt (uT HB.out) hb); have hcz40_0 : w39.cell? ⟨gb652, 0, none⟩ = some (.bool false) := (zKc BK652.out 0).trans rfl; have hcz40_1 : w39.cell? ⟨gb652, 1, none⟩ = some (.slice none 0 0) := (zKc BK652.out 1).trans rfl; have hfz40_0 := zKf BK652.out 0; have hfz40_1 := zKf BK652.out 1; obtain ⟨Ao41, co41, eo41⟩ := zRs HO668.out; subst eo41))
   refine bodyPost_ret (results_cell_row rfl _ _ gb652 24 #[.bool t665, .slice Ao41 t666.length co41] (0, 0) _ rfl (by (with_reducible repeat (first | refine zKn ?_ _ | refine zKd ?_ | refine zKa ?_ _)); refine blk_put (cs:=#[.bool t665, .slice none 0 0]) ?_ 1 _ rfl; (with_reducible repeat (first | refine zKn ?_ _ | refine zKd ?_ | refine zKa ?_ _)); refine blk_put (cs:=#[.bool false, .slice none 0 0]) ?_ 0 _ rfl; (with_reducible repeat (first | refine zKn ?_ _ | refine zKd ?_ | refine zKa ?_ _)); exact BK652.out) Tryd.underlying24 rfl (by kernel_rfl)) rfl ?_
   exact ⟨_, by first | rfl | (simp [errW_none, errW_some] <;> rfl) | (simp [*, errW_none, errW_some] <;> rfl), by (with_reducible repeat (first | apply zRa | apply zRn | apply zRd)); exact zRm (Kd.R_far (p:=⟨gb652, 1, none⟩) (Kd.R_far (p:=⟨gb652, 0, none⟩) (Kd.R_types HO668.out BK652.out (by decide)) (fun _ hk => hk.2) (.bool t665)) (fun _ hk => hk.2) (.slice Ao41 t666.length co41)) (fun _ hk => trivial), by exact uT HB.out⟩
  ·rw [if_neg c22] at H
   have c22b0 : decide (0 ≤ t660) = false := decide_eq_false c22
   clear c22
   replace H := bnd H
   obtain ⟨⟨t669, t670⟩, A420, H⟩ := H
   replace H : ((filigreeref02_make2.f k a1_0 t669).bind fun bt673 => (some (bt673.1, bt673.2))) = some (r1, r2) := H
   have A42 := zMk A420
   clear A420
   replace H := bnd H
   obtain ⟨⟨t673, t674⟩, A430, H⟩ := H
   replace H : (some (t673, t674)) = some (r1, r2) := H
   have A43 := zMk A430
   clear A430
   simp only [Option.some.injEq, Prod.mk.injEq] at H
   obtain ⟨rfl, rfl⟩ := H
   go_enter Tryd.func18, Tryd.ntmps18
   go_wp2_with (first | ((with_reducible refine gate_dst (N:=2) rfl ?_); refine box_event ?hg (N:=2) ?hd (cs:=#[.bool a0_0, .slice A0_1 l0_1.length c0_1]) (t:=24) ?hr ?_; (case hd => rfl); (case hg => rfl); (case hr => first | (go_simp; done)|(go_simp; rfl)|(go_simp; rw [show ∀ x : Int, IntKind.u32.wrap (IntKind.u8.wrap x) = x % 256 from fun x => (by show (x % 256) % 4294967296 = x % 256; omega)])); intro gb650 hg w44 hbox hb; have BK650 := zMk (hbox); have GW650 := zMk ((by rw [hg]; exact (zBs (uT HB.out)) : w.heap.size ≤ gb650)); have GE650 := zMk ((by rw [hg]; exact (zBs (uT HB.out)) : w.heap.size ≤ gb650)); have IGE650 := ownGe GE650.out; replace HB := zMk (zBt (uT HB.out) hb); clear hb hbox hg)|((with_reducible refine gate_dst (N:=3) rfl ?_); refine box_event ?hg (N:=3) ?hd (cs:=#[.bool a1_0, .slice A1_1 l1_1.length c1_1]) (t:=24) ?hr ?_; (case hd => rfl); (case hg => rfl); (case hr => first | (go_simp; done)|(go_simp; rfl)|(go_simp; rw [show ∀ x : Int, IntKind.u32.wrap (IntKind.u8.wrap x) = x % 256 from fun x => (by show (x % 256) % 4294967296 = x % 256; omega)])); intro gb651 hg w45 hbox hb; have BK651 := zMk (hbox); have GW651 := zMk ((by rw [hg]; exact (zBs (uT HB.out)) : w.heap.size ≤ gb651)); have GE651 := zMk ((by rw [hg]; exact (zBs (uT HB.out)) : w.heap.size ≤ gb651)); have IGE651 := ownGe GE651.out; replace HB := zMk (zBt (uT HB.out) hb); have NB650_651 := zMk ((by rw [hg]; exact Nat.ne_of_lt (blk_lt BK650.out) : gb650 ≠ gb651)); have NB651_650 := zMk ((by rw [hg]; exact Nat.ne_of_gt (blk_lt BK650.out) : gb651 ≠ gb650)); replace BK650 := zMk (zKb BK650.out hb); clear hb hbox hg)|((with_reducible refine gate_dst (N:=4) rfl ?_); refine box_event ?hg (N:=4) ?hd (cs:=#[.bool false, .slice none 0 0]) (t:=24) ?hr ?_; (case hd => rfl); (case hg => rfl); (case hr => first | (go_simp; done)|(go_simp; rfl)|(go_simp; rw [show ∀ x : Int, IntKind.u32.wrap (IntKind.u8.wrap x) = x % 256 from fun x => (by show (x % 256) % 4294967296 = x % 256; omega)])); intro gb652 hg w46 hbox hb; have BK652 := zMk (hbox); have GW652 := zMk ((by rw [hg]; exact (zBs (uT HB.out)) : w.heap.size ≤ gb652)); have GE652 := zMk ((by rw [hg]; exact (zBs (uT HB.out)) : w.heap.size ≤ gb652)); have IGE652 := ownGe GE652.out; replace HB := zMk (zBt (uT HB.out) hb); have NB650_652 := zMk ((by rw [hg]; exact Nat.ne_of_lt (blk_lt BK650.out) : gb650 ≠ gb652)); have NB652_650 := zMk ((by rw [hg]; exact Nat.ne_of_gt (blk_lt BK650.out) : gb652 ≠ gb650)); replace BK650 := zMk (zKb BK650.out hb); have NB651_652 := zMk ((by rw [hg]; exact Nat.ne_of_lt (blk_lt BK651.out) : gb651 ≠ gb652)); have NB652_651 := zMk ((by rw [hg]; exact Nat.ne_of_gt (blk_lt BK651.out) : gb652 ≠ gb651)); replace BK651 := zMk (zKb BK651.out hb); clear hb hbox hg; have hnb47 := NB650_651.out; have hnc47 := NB651_650.out; have hnb48 := NB650_652.out; have hnc48 := NB652_650.out; have hcz49_0 : w46.cell? ⟨gb650, 0, none⟩ = some (.bool a0_0) := (zKc BK650.out 0).trans rfl; have hcz49_1 : w46.cell? ⟨gb650, 1, none⟩ = some (.slice A0_1 l0_1.length c0_1) := (zKc BK650.out 1).trans rfl; have hfz49_0 := zKf BK650.out 0; have hfz49_1 := zKf BK650.out 1; have hnb50 := NB651_652.out; have hnc50 := NB652_651.out; have hcz51_0 : w46.cell? ⟨gb651, 0, none⟩ = some (.bool a1_0) := (zKc BK651.out 0).trans rfl; have hcz51_1 : w46.cell? ⟨gb651, 1, none⟩ = some (.slice A1_1 l1_1.length c1_1) := (zKc BK651.out 1).trans rfl; have hfz51_0 := zKf BK651.out 0; have hfz51_1 := zKf BK651.out 1)|((with_reducible refine gate_callee (f:=42) rfl ?_); refine goesL_ (some 26) rfl rfl Tryd.func42 (by kernel_rfl) rfl #[.slice A0_1 l0_1.length c0_1, .slice A1_1 l1_1.length c1_1] rfl (by (try simp only [zMa, zMc, zMn]); first |  done|  rfl|  (simp only [zLd, zLt]; rfl)) ?_; (with_reducible refine (r1_Cmp.calls k _ _ l0_1 _ _ l1_1 t660 _ ?side1 ?side2 ?side3 ?side4 A21.out).mono ?_); (case side1 => repeat (first |  exact (Kd.C_below HR0_1.out HB.out)|(with_reducible refine zCa ?_ _)|(with_reducible refine zCn ?_ _)|(with_reducible refine zCd ?_))); (case side2 => exact HC0_1.out); (case side3 => repeat (first |  exact (Kd.C_below HR1_1.out HB.out)|(with_reducible refine zCa ?_ _)|(with_reducible refine zCn ?_ _)|(with_reducible refine zCd ?_))); (case side4 => exact HC1_1.out); rintro e w52 ⟨rfl, hb⟩; refine ⟨_, rfl, ?_⟩; replace BK650 := zMk (zKb BK650.out hb); replace BK651 := zMk (zKb BK651.out hb); replace BK652 := zMk (zKb BK652.out hb); replace HB := zMk (zBt (uT HB.out) hb); have hcz53_0 : w52.cell? ⟨gb651, 0, none⟩ = some (.bool a1_0) := (zKc BK651.out 0).trans rfl; have hcz53_1 : w52.cell? ⟨gb651, 1, none⟩ = some (.slice A1_1 l1_1.length c1_1) := (zKc BK651.out 1).trans rfl; have hfz53_0 := zKf BK651.out 0; have hfz53_1 := zKf BK651.out 1; have hcz54_0 : w52.cell? ⟨gb650, 0, none⟩ = some (.bool a0_0) := (zKc BK650.out 0).trans rfl; have hcz54_1 : w52.cell? ⟨gb650, 1, none⟩ = some (.slice A0_1 l0_1.length c0_1) := (zKc BK650.out 1).trans rfl; have hfz54_0 := zKf BK650.out 0; have hfz54_1 := zKf BK650.out 1)|((with_reducible refine gate_callee (f:=43) rfl ?_); refine goesL_ (some 45) rfl rfl Tryd.func43 (by kernel_rfl) rfl #[.slice A1_1 l1_1.length c1_1, .slice A0_1 l0_1.length c0_1] rfl (by (try simp only [zMa, zMc, zMn]); first |  done|  rfl|  (simp only [zLd, zLt]; rfl)) ?_; (with_reducible refine (r1_Sub.calls k _ _ l1_1 _ _ l0_1 t669 t670 _ ?side1 ?side2 ?side3 ?side4 A42.out).mono ?_); (case side1 => repeat (first |  exact (Kd.C_below HR1_1.out HB.out)|(with_reducible refine zCa ?_ _)|(with_reducible refine zCn ?_ _)|(with_reducible refine zCd ?_))); (case side2 => exact HC1_1.out); (case side3 => repeat (first |  exact (Kd.C_below HR0_1.out HB.out)|(with_reducible refine zCa ?_ _)|(with_reducible refine zCn ?_ _)|(with_reducible refine zCd ?_))); (case side4 => exact HC0_1.out); rintro e w55 ⟨v671, rfl, ho0, hb⟩; refine ⟨_, rfl, ?_⟩; have HO672 := zMk (zRl ho0 (zBs (uT HB.out))); replace BK650 := zMk (zKb BK650.out hb); replace BK651 := zMk (zKb BK651.out hb); replace BK652 := zMk (zKb BK652.out hb); replace HB := zMk (zBt (uT HB.out) hb); have hcz56_0 : w55.cell? ⟨gb651, 0, none⟩ = some (.bool a1_0) := (zKc BK651.out 0).trans rfl; have hcz56_1 : w55.cell? ⟨gb651, 1, none⟩ = some (.slice A1_1 l1_1.length c1_1) := (zKc BK651.out 1).trans rfl; have hfz56_0 := zKf BK651.out 0; have hfz56_1 := zKf BK651.out 1; obtain ⟨Ao57, co57, eo57⟩ := zRs HO672.out; subst eo57)|((with_reducible refine gate_callee (f:=38) rfl ?_); refine goesL_ (some 51) rfl rfl Tryd.func38 (by kernel_rfl) rfl #[.bool a1_0, .slice Ao57 t669.length co57] rfl (by (try simp only [zMa, zMc, zMn]); first |  done|  rfl|  (simp only [zLd, zLt]; rfl)) ?_; (with_reducible refine (filigreeref02_make2.calls k a1_0 _ _ t669 t673 t674 _ ?side1 ?side2 A43.out).mono ?_); (case side1 => exact uC (zRr HO672.out).2.2); (case side2 => exact (zRr HO672.out).2.1); rintro e w58 ⟨v675, rfl, ho0, hb⟩; refine ⟨_, rfl, ?_⟩; have HO676 := zMk (zRl (zRw ho0 (zRt (uR HO672.out))) (zBs (uT HB.out))); replace HO672 := zMk (zRe (uR HO672.out) (zRz ho0) hb); replace BK650 := zMk (zKb BK650.out hb); replace BK651 := zMk (zKb BK651.out hb); replace BK652 := zMk (zKb BK652.out hb); replace HB := zMk (zBt (uT HB.out) hb); have hcz59_0 : w58.cell? ⟨gb652, 0, none⟩ = some (.bool false) := (zKc BK652.out 0).trans rfl; have hcz59_1 : w58.cell? ⟨gb652, 1, none⟩ = some (.slice none 0 0) := (zKc BK652.out 1).trans rfl; have hfz59_0 := zKf BK652.out 0; have hfz59_1 := zKf BK652.out 1; obtain ⟨Ao60, co60, eo60⟩ := zRs HO676.out; subst eo60))
   refine bodyPost_ret (results_cell_row rfl _ _ gb652 24 #[.bool t673, .slice Ao60 t674.length co60] (0, 0) _ rfl (by (with_reducible repeat (first | refine zKn ?_ _ | refine zKd ?_ | refine zKa ?_ _)); refine blk_put (cs:=#[.bool t673, .slice none 0 0]) ?_ 1 _ rfl; (with_reducible repeat (first | refine zKn ?_ _ | refine zKd ?_ | refine zKa ?_ _)); refine blk_put (cs:=#[.bool false, .slice none 0 0]) ?_ 0 _ rfl; (with_reducible repeat (first | refine zKn ?_ _ | refine zKd ?_ | refine zKa ?_ _)); exact BK652.out) Tryd.underlying24 rfl (by kernel_rfl)) rfl ?_
   exact ⟨_, by first | rfl | (simp [errW_none, errW_some] <;> rfl) | (simp [*, errW_none, errW_some] <;> rfl), by (with_reducible repeat (first | apply zRa | apply zRn | apply zRd)); exact zRm (Kd.R_far (p:=⟨gb652, 1, none⟩) (Kd.R_far (p:=⟨gb652, 0, none⟩) (Kd.R_types HO676.out BK652.out (by decide)) (fun _ hk => hk.2) (.bool t673)) (fun _ hk => hk.2) (.slice Ao60 t674.length co60)) (fun _ hk => trivial), by exact uT HB.out⟩


def filigreeref02_Neg.f (k : Nat) (a0_0 : Bool) (l0_1 : List Int) : Option (Bool × List Int) := (filigreeref02_make2.f k (!a0_0) l0_1).bind fun bt679 => (some (bt679.1, bt679.2))
theorem filigreeref02_Neg.calls (k : Nat) (a0_0 : Bool) (A0_1 : Option Addr) (c0_1 : Nat) (l0_1 : List Int) (r1 : Bool) (r2 : List Int) (w : World) (hr0_1 : Kd.C (Kd.int .u32) w A0_1 l0_1.length l0_1) (hc0_1 : l0_1.length ≤ c0_1) (h : filigreeref02_Neg.f k a0_0 l0_1 = some (r1, r2)) :
  Calls Tryd.prog 44 #[.agg #[.bool a0_0, .slice A0_1 l0_1.length c0_1]] w fun e w' => ∃ v1_ : Value, e = .returned (.agg #[.bool r1, v1_]) ∧ Kd.R (Kd.int .u32) 58 w' w.heap.size (fun _ => True) v1_ r2 ∧ Below w.heap.size w w' := by
 have hu24 := Tryd.underlying24
 have HR0_1 := zMk hr0_1
 have HC0_1 := zMk hc0_1
 clear hr0_1 hc0_1
 have HB := zMk (Below.refl w.heap.size w)
 have H : ((filigreeref02_make2.f k (!a0_0) l0_1).bind fun bt679 => (some (bt679.1, bt679.2))) = some (r1, r2) := h
 clear h
 replace H := bnd H
 obtain ⟨⟨t679, t680⟩, A20, H⟩ := H
 replace H : (some (t679, t680)) = some (r1, r2) := H
 have A2 := zMk A20
 clear A20
 simp only [Option.some.injEq, Prod.mk.injEq] at H
 obtain ⟨rfl, rfl⟩ := H
 go_enter Tryd.func44, Tryd.ntmps44
 go_wp2_with (first | ((with_reducible refine gate_dst (N:=1) rfl ?_); refine box_event ?hg (N:=1) ?hd (cs:=#[.bool a0_0, .slice A0_1 l0_1.length c0_1]) (t:=24) ?hr ?_; (case hd => rfl); (case hg => rfl); (case hr => first | (go_simp; done)|(go_simp; rfl)|(go_simp; rw [show ∀ x : Int, IntKind.u32.wrap (IntKind.u8.wrap x) = x % 256 from fun x => (by show (x % 256) % 4294967296 = x % 256; omega)])); intro gb677 hg w3 hbox hb; have BK677 := zMk (hbox); have GW677 := zMk ((by rw [hg]; exact (zBs (by exact uT HB.out)) : w.heap.size ≤ gb677)); have GE677 := zMk ((by rw [hg]; exact (zBs (by exact uT HB.out)) : w.heap.size ≤ gb677)); have IGE677 := ownGe GE677.out; replace HB := zMk (zBt (by exact uT HB.out) hb); clear hb hbox hg)|((with_reducible refine gate_dst (N:=2) rfl ?_); refine box_event ?hg (N:=2) ?hd (cs:=#[.bool false, .slice none 0 0]) (t:=24) ?hr ?_; (case hd => rfl); (case hg => rfl); (case hr => first | (go_simp; done)|(go_simp; rfl)|(go_simp; rw [show ∀ x : Int, IntKind.u32.wrap (IntKind.u8.wrap x) = x % 256 from fun x => (by show (x % 256) % 4294967296 = x % 256; omega)])); intro gb678 hg w4 hbox hb; have BK678 := zMk (hbox); have GW678 := zMk ((by rw [hg]; exact (zBs (by exact uT HB.out)) : w.heap.size ≤ gb678)); have GE678 := zMk ((by rw [hg]; exact (zBs (by exact uT HB.out)) : w.heap.size ≤ gb678)); have IGE678 := ownGe GE678.out; replace HB := zMk (zBt (by exact uT HB.out) hb); have NB677_678 := zMk ((by rw [hg]; exact Nat.ne_of_lt (blk_lt (g:=gb677) (o:=.cells #[.bool a0_0, .slice A0_1 l0_1.length c0_1] 24 (0, 0)) (by (with_reducible repeat (first |  refine zKn ?_ _|  refine zKd ?_|  refine zKa ?_ _)); exact BK677.out)) : gb677 ≠ gb678)); have NB678_677 := zMk ((by rw [hg]; exact Nat.ne_of_gt (blk_lt (g:=gb677) (o:=.cells #[.bool a0_0, .slice A0_1 l0_1.length c0_1] 24 (0, 0)) (by (with_reducible repeat (first |  refine zKn ?_ _|  refine zKd ?_|  refine zKa ?_ _)); exact BK677.out)) : gb678 ≠ gb677)); replace BK677 := zMk (zKb (g:=gb677) (o:=.cells #[.bool a0_0, .slice A0_1 l0_1.length c0_1] 24 (0, 0)) (by (with_reducible repeat (first |  refine zKn ?_ _|  refine zKd ?_|  refine zKa ?_ _)); exact BK677.out) hb); clear hb hbox hg; have hnb5 := NB677_678.out; have hnc5 := NB678_677.out; have hcz6_0 : w4.cell? ⟨gb677, 0, none⟩ = some (.bool a0_0) := (zKc BK677.out 0).trans rfl; have hcz6_1 : w4.cell? ⟨gb677, 1, none⟩ = some (.slice A0_1 l0_1.length c0_1) := (zKc BK677.out 1).trans rfl; have hfz6_0 := zKf BK677.out 0; have hfz6_1 := zKf BK677.out 1)|((with_reducible refine gate_callee (f:=38) rfl ?_); refine goesL_ (some 8) rfl rfl Tryd.func38 (by kernel_rfl) rfl #[.bool (!a0_0), .slice A0_1 l0_1.length c0_1] rfl (by (try simp only [zMa, zMc, zMn]); first |  done|  rfl|  (simp only [zLd, zLt]; rfl)) ?_; (with_reducible refine (filigreeref02_make2.calls k (!a0_0) _ _ l0_1 t679 t680 _ ?side1 ?side2 A2.out).mono ?_); (case side1 => repeat (first |  exact (Kd.C_below HR0_1.out HB.out)|(with_reducible refine zCa ?_ _)|(with_reducible refine zCn ?_ _)|(with_reducible refine zCd ?_))); (case side2 => exact HC0_1.out); rintro e w7 ⟨v681, rfl, ho0, hb⟩; refine ⟨_, rfl, ?_⟩; have HO682 := zMk (zRl ho0 (zBs (by exact uT HB.out))); replace BK677 := zMk (zKb (g:=gb677) (o:=.cells #[.bool a0_0, .slice A0_1 l0_1.length c0_1] 24 (0, 0)) (by (with_reducible repeat (first |  refine zKn ?_ _|  refine zKd ?_|  refine zKa ?_ _)); exact BK677.out) hb); replace BK678 := zMk (zKb (g:=gb678) (o:=.cells #[.bool false, .slice none 0 0] 24 (0, 0)) (by (with_reducible repeat (first |  refine zKn ?_ _|  refine zKd ?_|  refine zKa ?_ _)); exact BK678.out) hb); replace HB := zMk (zBt (by exact uT HB.out) hb); have hcz8_0 : w7.cell? ⟨gb678, 0, none⟩ = some (.bool false) := (zKc BK678.out 0).trans rfl; have hcz8_1 : w7.cell? ⟨gb678, 1, none⟩ = some (.slice none 0 0) := (zKc BK678.out 1).trans rfl; have hfz8_0 := zKf BK678.out 0; have hfz8_1 := zKf BK678.out 1; obtain ⟨Ao9, co9, eo9⟩ := zRs HO682.out; subst eo9))
 refine bodyPost_ret (results_cell_row rfl _ _ gb678 24 #[.bool t679, .slice Ao9 t680.length co9] (0, 0) _ rfl (by (with_reducible repeat (first | refine zKn ?_ _ | refine zKd ?_ | refine zKa ?_ _)); refine blk_put (cs:=#[.bool t679, .slice none 0 0]) ?_ 1 _ rfl; (with_reducible repeat (first | refine zKn ?_ _ | refine zKd ?_ | refine zKa ?_ _)); refine blk_put (cs:=#[.bool false, .slice none 0 0]) ?_ 0 _ rfl; (with_reducible repeat (first | refine zKn ?_ _ | refine zKd ?_ | refine zKa ?_ _)); exact BK678.out) Tryd.underlying24 rfl (by kernel_rfl)) rfl ?_
 exact ⟨_, by first | rfl | (simp [errW_none, errW_some] <;> rfl) | (simp [*, errW_none, errW_some] <;> rfl), by (with_reducible repeat (first | apply zRa | apply zRn | apply zRd)); exact zRm (Kd.R_far (p:=⟨gb678, 1, none⟩) (Kd.R_far (p:=⟨gb678, 0, none⟩) (Kd.R_types HO682.out BK678.out (by decide)) (fun _ hk => hk.2) (.bool t679)) (fun _ hk => hk.2) (.slice Ao9 t680.length co9)) (fun _ hk => trivial), by exact uT HB.out⟩



def n_Sub.f (k : Nat) (l0 : List Int) (l1 : List Int) : Option (List Int × Int) := (n_Cmp.f l0 l1).bind fun t246 => (if t246 < 0 then (some (([] : List Int), 17)) else ((n_Norm.f l0).bind fun t247 => ((n_cut.f l1).bind fun t250 => ((n_less.f k t247 t250).bind fun bt253 => ((n_cut.f bt253.2).bind fun t255 => (some (t255, 0)))))))
theorem n_Sub.calls (k : Nat) (A0 : Option Addr) (c0 : Nat) (l0 : List Int) (P1_ : Nat → Prop) (A1 : Option Addr) (c1 : Nat) (l1 : List Int) (r1 : List Int) (r2 : Int) (w : World) (hr0 : Kd.C (Kd.int .u32) w A0 l0.length l0) (hc0 : l0.length ≤ c0) (hs1 : Kd.V (Kd.int .u32) 58 w w.heap.size (fun k_ => P1_ k_) (.slice A1 l1.length c1) l1) (h : n_Sub.f k l0 l1 = some (r1, r2)) :
  Calls Tryd.prog 35 #[.slice A0 l0.length c0, .slice A1 l1.length c1] w fun e w' => ∃ v0_ : Value, e = .returned (.tuple #[v0_, .int .i64 r2]) ∧ Kd.V (Kd.int .u32) 58 w' w.heap.size (fun k_ => (P1_ k_ ∨ w.heap.size ≤ k_)) v0_ r1 ∧ Below w.heap.size w w' := by
 have HR0 := zMk hr0
 have HC0 := zMk hc0
 clear hr0 hc0
 have HO1 := zMk (show Kd.V (Kd.int .u32) 58 w w.heap.size (fun k_ => (P1_ k_ ∨ w.heap.size ≤ k_)) (.slice A1 l1.length c1) l1 from zVm hs1 (fun k_ hk => .inl hk))
 have HB := zMk (Below.refl w.heap.size w)
 have H : ((n_Cmp.f l0 l1).bind fun t246 => (if t246 < 0 then (some (([] : List Int), 17)) else ((n_Norm.f l0).bind fun t247 => ((n_cut.f l1).bind fun t250 => ((n_less.f k t247 t250).bind fun bt253 => ((n_cut.f bt253.2).bind fun t255 => (some (t255, 0)))))))) = some (r1, r2) := h
 clear h
 replace H := bnd H
 obtain ⟨t246, A30, H⟩ := H
 have A3 := zMk A30
 clear A30
 by_cases c4 : t246 < 0
 ·rw [if_pos c4] at H
  have c4b0 : decide (t246 < 0) = true := decide_eq_true c4
  clear c4
  simp only [Option.some.injEq, Prod.mk.injEq] at H
  obtain ⟨rfl, rfl⟩ := H
  go_enter Tryd.func35, Tryd.ntmps35
  go_wp2_with (first | ((with_reducible refine gate_callee (f:=49) rfl ?_); refine goesL_ (some 9) rfl rfl Tryd.func49 (by kernel_rfl) rfl #[.slice A0 l0.length c0, .slice A1 l1.length c1] rfl (by (try simp only [zMa, zMc, zMn]); first |  done|  rfl|  (simp only [zLd, zLt]; rfl)) ?_; (with_reducible refine (n_Cmp.calls _ _ l0 _ _ l1 t246 _ ?side1 ?side2 ?side3 ?side4 A3.out).mono ?_); (case side1 => repeat (first |  exact HR0.out|  (with_reducible refine zCa ?_ _)|(with_reducible refine zCn ?_ _)|(with_reducible refine zCd ?_))); (case side2 => exact HC0.out); (case side3 => exact uC (zVr HO1.out).2.2); (case side4 => exact (zVr HO1.out).2.1); rintro e w5 ⟨rfl, hb⟩; refine ⟨_, rfl, ?_⟩; replace HO1 := zMk (zVb (uV HO1.out) hb); replace HB := zMk (zBt (uT HB.out) hb)))
  go_ret2
  exact ⟨_, by first | rfl | (simp [errW_none, errW_some] <;> rfl) | (simp [*, errW_none, errW_some] <;> rfl), (by first | exact Kd.V_nil _ _ _ _ _ | exact zVm (Kd.R_V (by first | exact Kd.R_nil _ _ _ _ _ | exact Kd.N_nil _ _ _ _ _ | exact Kd.V_nil _ _ _ _ _ | exact Kd.Q_nil _ _ _ _ _ | exact Kd.S_nil _ _ _ _ _)) (fun k_ hk => by first | exact ⟨(.inr (hk.1)), hk.2⟩ | exact (.inr (hk)))), by exact uT HB.out⟩
 ·rw [if_neg c4] at H
  have c4b0 : decide (t246 < 0) = false := decide_eq_false c4
  clear c4
  replace H := bnd H
  obtain ⟨t247, A60, H⟩ := H
  have A6 := zMk A60
  clear A60
  replace H := bnd H
  obtain ⟨t250, A70, H⟩ := H
  have A7 := zMk A70
  clear A70
  replace H := bnd H
  obtain ⟨⟨t253, t254⟩, A80, H⟩ := H
  replace H : ((n_cut.f t254).bind fun t255 => (some (t255, 0))) = some (r1, r2) := H
  have A8 := zMk A80
  clear A80
  replace H := bnd H
  obtain ⟨t255, A90, H⟩ := H
  have A9 := zMk A90
  clear A90
  simp only [Option.some.injEq, Prod.mk.injEq] at H
  obtain ⟨rfl, rfl⟩ := H
  go_enter Tryd.func35, Tryd.ntmps35
  go_wp2_with (first | ((with_reducible refine gate_callee (f:=49) rfl ?_); refine goesL_ (some 9) rfl rfl Tryd.func49 (by kernel_rfl) rfl #[.slice A0 l0.length c0, .slice A1 l1.length c1] rfl (by (try simp only [zMa, zMc, zMn]); first |  done|  rfl|  (simp only [zLd, zLt]; rfl)) ?_; (with_reducible refine (n_Cmp.calls _ _ l0 _ _ l1 t246 _ ?side1 ?side2 ?side3 ?side4 A3.out).mono ?_); (case side1 => repeat (first |  exact HR0.out|  (with_reducible refine zCa ?_ _)|(with_reducible refine zCn ?_ _)|(with_reducible refine zCd ?_))); (case side2 => exact HC0.out); (case side3 => exact uC (zVr HO1.out).2.2); (case side4 => exact (zVr HO1.out).2.1); rintro e w10 ⟨rfl, hb⟩; refine ⟨_, rfl, ?_⟩; replace HO1 := zMk (zVb (uV HO1.out) hb); replace HB := zMk (zBt (uT HB.out) hb))|((with_reducible refine gate_callee (f:=57) rfl ?_); refine goesL_ (some 12) rfl rfl Tryd.func57 (by kernel_rfl) rfl #[.slice A0 l0.length c0] rfl (by (try simp only [zMa, zMc, zMn]); first |  done|  rfl|  (simp only [zLd, zLt]; rfl)) ?_; (with_reducible refine (n_Norm.calls _ _ l0 t247 _ ?side1 ?side2 A6.out).mono ?_); (case side1 => repeat (first |  exact (Kd.C_below HR0.out HB.out)|(with_reducible refine zCa ?_ _)|(with_reducible refine zCn ?_ _)|(with_reducible refine zCd ?_))); (case side2 => exact HC0.out); rintro e w11 ⟨v248, rfl, ho0, hb⟩; refine ⟨_, rfl, ?_⟩; replace HO1 := zMk (zVe (uV HO1.out) (zRz ho0) hb); have HO249 := zMk (zRl (Kd.R_newM (M:=fun k_ => (w.heap.size ≤ k_)) ho0 (zBs (uT HB.out)) (fun k_ h_ => h_)) (zBs (uT HB.out))); replace HB := zMk (zBt (uT HB.out) hb))|((with_reducible refine gate_callee (f:=56) rfl ?_); refine goesL_ (some 15) rfl rfl Tryd.func56 (by kernel_rfl) rfl #[.slice A1 l1.length c1] rfl (by (try simp only [zMa, zMc, zMn]); first |  done|  rfl|  (simp only [zLd, zLt]; rfl)) ?_; (with_reducible refine (n_cut.calls (fun k_ => ((P1_ k_ ∨ w.heap.size ≤ k_) ∧ some k_ ≠ (v248 : Value).ownBlock)) _ _ l1 t250 _ ?side1 A7.out).mono ?_); (case side1 => exact HO1.out); rintro e w12 ⟨v251, rfl, ho0, hb⟩; refine ⟨_, rfl, ?_⟩; replace HO1 := zMk (zVb (uV HO1.out) hb); have HO252 := zMk (zVl (zVm (ok' := fun k_ => (P1_ k_ ∨ w.heap.size ≤ k_) ∧ some k_ ≠ (v248 : Value).ownBlock) ho0 (fun k_ hk_ => ⟨Or.elim hk_ (fun hs_ => hs_.1) (fun hn_ => (.inr (Nat.le_trans (zBs (uT HB.out)) hn_))), Or.elim hk_ (fun hs_ => hs_.2) (fun hn_ => (Kd.fresh' (zRt (uR HO249.out)) k_ hn_))⟩)) (zBs (uT HB.out))); replace HO249 := zMk (zRb (uR HO249.out) hb); replace HB := zMk (zBt (uT HB.out) hb); obtain ⟨Ao13, co13, eo13⟩ := zRs HO249.out; subst eo13; obtain ⟨Ao14, co14, eo14⟩ := zVs HO252.out; subst eo14)|((with_reducible refine gate_callee (f:=61) rfl ?_); refine goesL_ (some 16) rfl rfl Tryd.func61 (by kernel_rfl) rfl #[.slice Ao13 t247.length co13, .slice Ao14 t250.length co14] rfl (by (try simp only [zMa, zMc, zMn]); first |  done|  rfl|  (simp only [zLd, zLt]; rfl)) ?_; (with_reducible refine (n_less.calls k (fun k_ => some k_ = (.slice Ao13 t247.length co13 : Value).ownBlock) (.slice Ao13 t247.length co13) t247 _ _ t250 t253 t254 w _ ?side1 ?side2 ?side3 ?side4 A8.out).mono ?_); (case side1 => exact uT HB.out); (case side2 => exact Kd.R_tight rfl HO249.out); (case side3 => exact Kd.C_kept_ownV (HO252.out) (fun k_ hk_ hs_ => (hk_.2) hs_)); (case side4 => exact (zVr HO252.out).2.1); rintro e w15 ⟨rfl, hy0, hb, hkp⟩; refine ⟨_, rfl, ?_⟩; replace HO1 := zMk (zVm (ok' := fun k_ => (P1_ k_ ∨ w.heap.size ≤ k_) ∧ some k_ ≠ (.slice Ao13 t247.length co13 : Value).ownBlock) (Kd.V_keptB (HO1.out) hkp (fun k_ hk_ hs_ => (hk_.2) hs_)) (fun k_ hk_ => ⟨hk_.1.1, hk_.1.2⟩)); replace HO249 := zMk (Kd.R_reok rfl hy0 (fun k_ e_ => HO249.out.1 k_ e_)); replace HO252 := zMk (zVm (ok' := fun k_ => (P1_ k_ ∨ w.heap.size ≤ k_) ∧ some k_ ≠ (.slice Ao13 t247.length co13 : Value).ownBlock) (Kd.V_keptB (HO252.out) hkp (fun k_ hk_ hs_ => (hk_.2) hs_)) (fun k_ hk_ => ⟨hk_.1.1, hk_.1.2⟩)); replace HB := zMk (hb))|((with_reducible refine gate_callee (f:=56) rfl ?_); refine goesL_ (some 18) rfl rfl Tryd.func56 (by kernel_rfl) rfl #[.slice Ao13 t254.length co13] rfl (by (try simp only [zMa, zMc, zMn]); first |  done|  (rw [show t254.length = t247.length from (zRr HO249.out).1.symm] <;> rfl)|  rfl|  (simp only [zLd, zLt]; rfl)) ?_; (with_reducible refine (n_cut.calls (fun k_ => some k_ = (.slice Ao13 t247.length co13 : Value).ownBlock) _ _ t254 t255 _ ?side1 A9.out).mono ?_); (case side1 => rw [show t254.length = t247.length from (zRr HO249.out).1.symm]; exact Kd.R_V (Kd.R_tight rfl (HO249.out))); rintro e w16 ⟨v256, rfl, ho0, hb⟩; refine ⟨_, rfl, ?_⟩; replace HO1 := zMk (zVb (uV HO1.out) hb); replace HO252 := zMk (zVb (uV HO252.out) hb); have HO257 := zMk (zVl (zVm (ok' := fun k_ => (P1_ k_ ∨ w.heap.size ≤ k_)) ho0 (fun k_ hk_ => Or.elim hk_ (fun hs_ => (.inr (((HO249.out).1 k_ hs_.symm).1))) (fun hn_ => (.inr (Nat.le_trans (zBs (uT HB.out)) hn_))))) (zBs (uT HB.out))); replace HO249 := zMk (zRb (uR HO249.out) hb); replace HB := zMk (zBt (uT HB.out) hb)))
  go_ret2
  exact ⟨_, by first | rfl | (simp [errW_none, errW_some] <;> rfl) | (simp [*, errW_none, errW_some] <;> rfl), by exact uV HO257.out, by exact uT HB.out⟩


def integer_signed.f (a0 : Bool) (l1 : List Int) : Option (Bool × List Int) := (n_Norm.f l1).bind fun t259 => (if a0 = true then (some (decide ((t259.length : Int) > 0), t259)) else (some (false, t259)))
theorem integer_signed.calls (a0 : Bool) (A1 : Option Addr) (c1 : Nat) (l1 : List Int) (r1 : Bool) (r2 : List Int) (w : World) (hr1 : Kd.C (Kd.int .u32) w A1 l1.length l1) (hc1 : l1.length ≤ c1) (h : integer_signed.f a0 l1 = some (r1, r2)) :
  Calls Tryd.prog 36 #[.bool a0, .slice A1 l1.length c1] w fun e w' => ∃ v1_ : Value, e = .returned (.agg #[.bool r1, v1_]) ∧ Kd.R (Kd.int .u32) 58 w' w.heap.size (fun _ => True) v1_ r2 ∧ Below w.heap.size w w' := by
 have hu24 := Tryd.underlying24
 have HR1 := zMk hr1
 have HC1 := zMk hc1
 clear hr1 hc1
 have HB := zMk (Below.refl w.heap.size w)
 have H : ((n_Norm.f l1).bind fun t259 => (if a0 = true then (some (decide ((t259.length : Int) > 0), t259)) else (some (false, t259)))) = some (r1, r2) := h
 clear h
 replace H := bnd H
 obtain ⟨t259, A30, H⟩ := H
 have A3 := zMk A30
 clear A30
 by_cases c4 : a0 = true
 ·subst c4
  replace H : (some (decide ((t259.length : Int) > 0), t259)) = some (r1, r2) := by rw [if_pos rfl] at H; exact H
  simp only [Option.some.injEq, Prod.mk.injEq] at H
  obtain ⟨rfl, rfl⟩ := H
  have hdl_ : decide ((t259.length : Int) > 0) = decide (0 < t259.length) := decide_eq_decide.2 (by omega)
  rw [hdl_]
  go_enter Tryd.func36, Tryd.ntmps36
  go_wp2_with (first | ((with_reducible refine gate_dst (N:=4) rfl ?_); (try (refine gate_guard (by rfl) ?_; dsimp only)); refine box_event ?hg (N:=4) ?hd (cs:=#[.bool false, .slice none 0 0]) (t:=24) ?hr ?_; (case hd => rfl); (case hg => rfl); (case hr => first | (go_simp; done)|(go_simp; rfl)|(go_simp; rw [show ∀ x : Int, IntKind.u32.wrap (IntKind.u8.wrap x) = x % 256 from fun x => (by show (x % 256) % 4294967296 = x % 256; omega)])); intro gb258 hg w5 hbox hb; have BK258 := zMk (hbox); have GW258 := zMk ((by rw [hg]; exact (zBs (uT HB.out)) : w.heap.size ≤ gb258)); have GE258 := zMk ((by rw [hg]; exact (zBs (uT HB.out)) : w.heap.size ≤ gb258)); have IGE258 := ownGe GE258.out; replace HB := zMk (zBt (uT HB.out) hb); clear hb hbox hg)|((with_reducible refine gate_callee (f:=57) rfl ?_); refine goesL_ (some 6) rfl rfl Tryd.func57 (by kernel_rfl) rfl #[.slice A1 l1.length c1] rfl (by (try simp only [zMa, zMc, zMn]); first |  done|  rfl|  (simp only [zLd, zLt]; rfl)) ?_; (with_reducible refine (n_Norm.calls _ _ l1 t259 _ ?side1 ?side2 A3.out).mono ?_); (case side1 => repeat (first |  exact (Kd.C_below HR1.out HB.out)|(with_reducible refine zCa ?_ _)|(with_reducible refine zCn ?_ _)|(with_reducible refine zCd ?_))); (case side2 => exact HC1.out); rintro e w6 ⟨v260, rfl, ho0, hb⟩; refine ⟨_, rfl, ?_⟩; have HO261 := zMk (zRl ho0 (zBs (uT HB.out))); replace BK258 := zMk (zKb BK258.out hb); replace HB := zMk (zBt (uT HB.out) hb); obtain ⟨Ao7, co7, eo7⟩ := zRs HO261.out; subst eo7; have hcz8_0 : w6.cell? ⟨gb258, 0, none⟩ = some (.bool false) := (zKc BK258.out 0).trans rfl; have hcz8_1 : w6.cell? ⟨gb258, 1, none⟩ = some (.slice none 0 0) := (zKc BK258.out 1).trans rfl; have hfz8_0 := zKf BK258.out 0; have hfz8_1 := zKf BK258.out 1))
  refine bodyPost_ret (results_cell_row rfl _ _ gb258 24 #[.bool (decide (0 < t259.length)), .slice Ao7 t259.length co7] (0, 0) _ rfl (by (with_reducible repeat (first | refine zKn ?_ _ | refine zKd ?_ | refine zKa ?_ _)); refine blk_put (cs:=#[.bool (decide (0 < t259.length)), .slice none 0 0]) ?_ 1 _ rfl; (with_reducible repeat (first | refine zKn ?_ _ | refine zKd ?_ | refine zKa ?_ _)); refine blk_put (cs:=#[.bool false, .slice none 0 0]) ?_ 0 _ rfl; (with_reducible repeat (first | refine zKn ?_ _ | refine zKd ?_ | refine zKa ?_ _)); exact BK258.out) Tryd.underlying24 rfl (by kernel_rfl)) rfl ?_
  exact ⟨_, by first | rfl | (simp [errW_none, errW_some] <;> rfl) | (simp [*, errW_none, errW_some] <;> rfl), by (with_reducible repeat (first | apply zRa | apply zRn | apply zRd)); exact zRm (Kd.R_far (p:=⟨gb258, 1, none⟩) (Kd.R_far (p:=⟨gb258, 0, none⟩) (Kd.R_types HO261.out BK258.out (by decide)) (fun _ hk => hk.2) (.bool (decide (0 < t259.length)))) (fun _ hk => hk.2) (.slice Ao7 t259.length co7)) (fun _ hk => trivial), by exact uT HB.out⟩
 ·replace c4 := Bool.eq_false_iff.mpr c4
  subst c4
  replace H : (some (false, t259)) = some (r1, r2) := by rw [if_neg (show ¬ (false = true) by decide)] at H; exact H
  simp only [Option.some.injEq, Prod.mk.injEq] at H
  obtain ⟨rfl, rfl⟩ := H
  go_enter Tryd.func36, Tryd.ntmps36
  go_wp2_with (first | ((with_reducible refine gate_dst (N:=4) rfl ?_); (try (refine gate_guard (by rfl) ?_; dsimp only)); refine box_event ?hg (N:=4) ?hd (cs:=#[.bool false, .slice none 0 0]) (t:=24) ?hr ?_; (case hd => rfl); (case hg => rfl); (case hr => first | (go_simp; done)|(go_simp; rfl)|(go_simp; rw [show ∀ x : Int, IntKind.u32.wrap (IntKind.u8.wrap x) = x % 256 from fun x => (by show (x % 256) % 4294967296 = x % 256; omega)])); intro gb258 hg w9 hbox hb; have BK258 := zMk (hbox); have GW258 := zMk ((by rw [hg]; exact (zBs (uT HB.out)) : w.heap.size ≤ gb258)); have GE258 := zMk ((by rw [hg]; exact (zBs (uT HB.out)) : w.heap.size ≤ gb258)); have IGE258 := ownGe GE258.out; replace HB := zMk (zBt (uT HB.out) hb); clear hb hbox hg)|((with_reducible refine gate_callee (f:=57) rfl ?_); refine goesL_ (some 6) rfl rfl Tryd.func57 (by kernel_rfl) rfl #[.slice A1 l1.length c1] rfl (by (try simp only [zMa, zMc, zMn]); first |  done|  rfl|  (simp only [zLd, zLt]; rfl)) ?_; (with_reducible refine (n_Norm.calls _ _ l1 t259 _ ?side1 ?side2 A3.out).mono ?_); (case side1 => repeat (first |  exact (Kd.C_below HR1.out HB.out)|(with_reducible refine zCa ?_ _)|(with_reducible refine zCn ?_ _)|(with_reducible refine zCd ?_))); (case side2 => exact HC1.out); rintro e w10 ⟨v260, rfl, ho0, hb⟩; refine ⟨_, rfl, ?_⟩; have HO261 := zMk (zRl ho0 (zBs (uT HB.out))); replace BK258 := zMk (zKb BK258.out hb); replace HB := zMk (zBt (uT HB.out) hb); obtain ⟨Ao11, co11, eo11⟩ := zRs HO261.out; subst eo11; have hcz12_0 : w10.cell? ⟨gb258, 0, none⟩ = some (.bool false) := (zKc BK258.out 0).trans rfl; have hcz12_1 : w10.cell? ⟨gb258, 1, none⟩ = some (.slice none 0 0) := (zKc BK258.out 1).trans rfl; have hfz12_0 := zKf BK258.out 0; have hfz12_1 := zKf BK258.out 1))
  refine bodyPost_ret (results_cell_row rfl _ _ gb258 24 #[.bool false, .slice Ao11 t259.length co11] (0, 0) _ rfl (by (with_reducible repeat (first | refine zKn ?_ _ | refine zKd ?_ | refine zKa ?_ _)); refine blk_put (cs:=#[.bool false, .slice none 0 0]) ?_ 1 _ rfl; (with_reducible repeat (first | refine zKn ?_ _ | refine zKd ?_ | refine zKa ?_ _)); refine blk_put (cs:=#[.bool false, .slice none 0 0]) ?_ 0 _ rfl; (with_reducible repeat (first | refine zKn ?_ _ | refine zKd ?_ | refine zKa ?_ _)); exact BK258.out) Tryd.underlying24 rfl (by kernel_rfl)) rfl ?_
  exact ⟨_, by first | rfl | (simp [errW_none, errW_some] <;> rfl) | (simp [*, errW_none, errW_some] <;> rfl), by (with_reducible repeat (first | apply zRa | apply zRn | apply zRd)); exact zRm (Kd.R_far (p:=⟨gb258, 1, none⟩) (Kd.R_far (p:=⟨gb258, 0, none⟩) (Kd.R_types HO261.out BK258.out (by decide)) (fun _ hk => hk.2) (.bool false)) (fun _ hk => hk.2) (.slice Ao11 t259.length co11)) (fun _ hk => trivial), by exact uT HB.out⟩



end Go.Proofs.YtnjmnicgknggfaaDoor.D
