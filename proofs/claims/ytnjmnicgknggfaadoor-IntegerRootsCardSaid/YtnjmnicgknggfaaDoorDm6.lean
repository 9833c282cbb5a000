/- Lemmas for the statement: the walks of the functions that it reaches, and plain laws. -/
import Derived.Test.YtnjmnicgknggfaaDoorDm4
import Derived.Test.YtnjmnicgknggfaaDoorDm2
import Derived.Test.YtnjmnicgknggfaaDoorDm5
import Derived.Test.YtnjmnicgknggfaaDoorDm3
import Derived.Test.YtnjmnicgknggfaaDoorDm1
set_option linter.unusedVariables false
set_option linter.unusedSimpArgs false
set_option maxHeartbeats 8000000
set_option maxRecDepth 100000
namespace Go.Proofs.YtnjmnicgknggfaaDoor.D
open Go Go.RowKit Go.Proofs.YtnjmnicgknggfaaDoorW.PrintWords Go.Proofs.YtnjmnicgknggfaaDoorW.PrintLast Go.Proofs.YtnjmnicgknggfaaDoorW.PrintMore
attribute [local go_sem] max2_int min2_int max_two min_two max_three min_three max_four min_four
open Go.Proofs.YtnjmnicgknggfaaDoorW.PrintWords.Kd renaming R_alloc → zRa, R_drewN → zRn, R_drew → zRd, V_alloc → zVa, V_drewN → zVn, V_drew → zVd, V_below → zVb, C_alloc → zCa, C_drewN → zCn, C_drew → zCd, R_mono → zRm, V_mono → zVm, at_int → zAi, R_elder' → zRe, R_lower → zRl, R_new' → zRw, R_lt → zRt, R_below → zRb, R_base → zRz, R_reads' → zRr, R_slice → zRs, V_elder' → zVe, V_lower → zVl, V_slice → zVs, V_reads' → zVr
open Go.Proofs.YtnjmnicgknggfaaDoorW.PrintWords renaming pw_below_drewN → zBn, below_alloc → zBa, below_drew1 → zBd, below_size → zBs, below_step → zBt, blk_drewN → zKn, blk_drew → zKd, blk_alloc → zKa, blk_below → zKb, blk_cell → zKc, blk_frozen → zKf
open List renaming setIfInBounds_toArray → zSa, set_cons_zero → zSb, set_cons_succ → zSc, length_drop → zLd, length_take → zLt, map_toArray → zMa, map_cons → zMc, map_nil → zMn, length_cons → zLc, length_nil → zLn
open Go.Proofs.YtnjmnicgknggfaaDoorW.PrintWords.Aside0 renaming mk → zMk
open Option renaming bind_eq_some_iff → zBi, bind_some → zOb
open Option.some renaming inj → zOi
open Int renaming toNat_natCast → zTn
theorem less_at_f (u p : List Int) (hu : Limbs u) (hp : Limbs p) (j n : Nat) (hj : j + n + 1 ≤ u.length) (hum : u.length < 35184372088832) (hpl : p.length ≤ n + 1) (hz : val (u.drop (j + n + 1)) = 0) (k : Nat) (hk : n + 2 ≤ k) :
    ∃ c u', n_less_at.f k u (j : Int) ((j + n + 1 : Nat) : Int) p = some (c, u') ∧ u'.length = u.length ∧ Limbs u' ∧ (c = 0 ∨ c = 1) ∧ val u' - c * Bp (j + n + 1) + Bp j * val p = val u ∧ val (u'.drop (j + n + 1)) = 0 := by
  obtain ⟨s, hs⟩ : ∃ s, s = (u.take (j + n + 1)).drop j := ⟨_, rfl⟩
  have hsl : s.length = n + 1 := by rw [hs, zLd, zLt]; omega
  have hsL : Limbs s := by rw [hs]; exact (hu.take _).drop _
  obtain ⟨d, rfl⟩ : ∃ d, k = d + (n + 1) + 1 := ⟨k - (n + 2), by omega⟩
  obtain ⟨s', c, h1, h2, h3, h4, h5⟩ := less_l0B p hp (n + 1) (by omega) d s hsl hsL
  rw [List.take_of_length_le hpl] at h5
  have hv1 : val u = val (u.take j) + Bp j * val s := by
    have g1 := val_splitB u (j + n + 1) hj
    rw [hz, Int.mul_zero, Int.add_zero] at g1
    have g2 := val_splitB (u.take (j + n + 1)) j (by rw [zLt]; omega)
    rw [List.take_take, Nat.min_eq_left (by omega), ← hs] at g2
    rw [g1, g2]
  have htl : (u.take j).length = j := by rw [zLt]; omega
  refine ⟨c, u.take j ++ (s' ++ u.drop (j + n + 1)), ?_, ?_, ?_, h4, ?_, ?_⟩
  · unfold n_less_at.f
    rw [zTn, zTn, if_pos (by omega), if_pos hj, ← hs]
    unfold n_less.f
    rw [hsl, h1]
    rfl
  · rw [List.length_append, List.length_append, htl, h2, zLd]; omega
  · exact (hu.take _).append (h3.append (hu.drop _))
  · rw [val_appendB, val_appendB, htl, hz, Int.mul_zero, Int.add_zero, hv1, show j + n + 1 = j + (n + 1) by omega, Bp_add]
    rw [← h5]
    grind
  · rw [← List.append_assoc, List.drop_append_of_le_length (by rw [List.length_append, htl, h2]; omega), List.drop_of_length_le (by rw [List.length_append, htl, h2]; omega), List.nil_append, hz]
theorem back_l2 (Q v : List Int) (x9 g : Int) (n j L : Nat) (hv : Limbs v) (hn : v.length = n) (hj : j + n + 1 ≤ L) (hL : L < 35184372088832) (hQ : j < Q.length) (hQm : Q.length < 35184372088832) (W : Int) :
    ∀ (d i k : Nat) (X : List Int) (c : Int), i + d = n + 1 → X.length = L → Limbs X → (c = 0 ∨ c = 1) → Aside0 (val X + c * Bp (j + i) = W + Bp j * val (v.take i)) → Aside0 (val (X.drop (j + n + 1)) = 0) →
    ∃ X' c', n_DivMod.l2 (k + d + 1) Q x9 X v (n : Int) (j : Int) g c ((n + 1 : Nat) : Int) (i : Int) = n_DivMod.l0 k (Q.set j (g % 4294967296)) x9 X' v (n : Int) ((j : Int) - 1) ∧ X'.length = L ∧ Limbs X' ∧ (c' = 0 ∨ c' = 1) ∧ val X' + c' * Bp (j + n + 1) = W + Bp j * val v ∧ val (X'.drop (j + n + 1)) = 0 := by
  intro d
  induction d with
  | zero =>
    intro i k X c hi hX lX hc hT hz
    obtain rfl : i = n + 1 := by omega
    refine ⟨X, c, ?_, hX, lX, hc, ?_, hz.out⟩
    · rw [n_DivMod.l2, if_neg (by omega), if_pos (by omega), if_pos (by omega), zTn, w64 (by omega) (by omega)]
    · have h_ := hT.out
      rw [List.take_of_length_le (by omega)] at h_
      exact h_
  | succ d ih =>
    intro i k X c hi hX lX hc hT hz
    have e1 : Aside0 (wrap64 ((j : Int) + (i : Int)) = ((j + i : Nat) : Int)) := ⟨w64e (by omega) (by omega)⟩
    have e2 : Aside0 (wrap64 ((i : Int) + 1) = ((i + 1 : Nat) : Int)) := ⟨w64e (by omega) (by omega)⟩
    obtain ⟨s, c', e, d0, d1, hc', hd⟩ := add32_f (X.getD (j + i) 0) (v.getD i 0) c (lX.getD _) (hv.getD i) hc
    obtain ⟨X', c'', h1, h2, h3, h4, h5, h6⟩ := ih (i + 1) k (X.set (j + i) s) c' (by omega) (by rw [List.length_set]; exact hX) (lX.set _ d0 d1) hc' (by
        refine ⟨?_⟩
        rw [val_setB _ _ _ (by omega), val_take_succB v i, show j + (i + 1) = (j + i) + 1 by omega, Bp_succ, Bp_add]
        have h_ := hT.out
        rw [Bp_add] at h_
        generalize Bp j = P at *
        generalize Bp i = R at *
        generalize val (v.take i) = Z at *
        clear ih hT hz
        grind) ⟨by rw [List.drop_set, if_pos (by omega)]; exact hz.out⟩
    refine ⟨X', c'', ?_, h2, h3, h4, h5, h6⟩
    rw [show k + (d + 1) + 1 = (k + d + 1) + 1 by omega, n_DivMod.l2, if_pos (by omega)]
    by_cases hin : (i : Int) < (n : Int)
    · rw [if_pos hin, if_pos (by omega), if_pos (by omega), e1.out, if_pos (by omega), if_pos (by omega), rd_nat, rd_nat, e, zOb, zTn, e2.out]
      exact h1
    · rw [getD_ge v (by omega)] at e
      rw [if_neg hin, e1.out, if_pos (by omega), if_pos (by omega), rd_nat, e, zOb, zTn, e2.out]
      exact h1
theorem round_j3 (Q u v : List Int) (x9 : Int) (n j : Nat) (hv : Limbs v) (hu : Limbs u) (hn : v.length = n) (hj : j + n + 1 ≤ u.length) (hum : u.length < 35184372088832) (hQ : j < Q.length) (hQm : Q.length < 35184372088832) (hz : Aside0 (val (u.drop (j + n + 1)) = 0)) (hnm : n < 1000000)
    (qd g : Int) (hq0 : 0 ≤ qd) (hqg : qd ≤ g) (hgq : g ≤ qd + 1) (hg : g < 4294967296) (h0_ : 0 ≤ val u - Bp j * (val v * qd)) (h1_ : val u - Bp j * (val v * qd) < Bp j * val v) (k : Nat) (hk : 5 * n + 20 ≤ k) :
    ∃ u' k', n_DivMod.j3 k Q x9 u v (n : Int) (j : Int) g = n_DivMod.l0 k' (Q.set j qd) x9 u' v (n : Int) ((j : Int) - 1) ∧ u'.length = u.length ∧ Limbs u' ∧ val u' = val u - Bp j * (val v * qd) ∧ k ≤ k' + n + 4 := by
  have h01 : Aside0 (0 ≤ val u - Bp j * (val v * qd) ∧ val u - Bp j * (val v * qd) < Bp j * val v) := ⟨h0_, h1_⟩
  clear h0_ h1_
  obtain ⟨k, rfl⟩ : ∃ d, k = d + n + 4 := ⟨k - (n + 4), by omega⟩
  have e1 : Aside0 (wrap64 ((j : Int) + (n : Int)) = ((j + n : Nat) : Int)) := ⟨w64e (by omega) (by omega)⟩
  have e6 : Aside0 (wrap64 (((j + n : Nat) : Int) + 1) = ((j + n + 1 : Nat) : Int)) := ⟨w64e (by omega) (by omega)⟩
  have e7 : Aside0 (wrap64 ((n : Int) + 1) = ((n + 1 : Nat) : Int)) := ⟨w64e (by omega) (by omega)⟩
  obtain ⟨o, og, ogl, hof⟩ : ∃ o, IsNum o g ∧ o.length ≤ 2 ∧ n_Of.f g = some o := ⟨of2 g, of2_num g (by omega) (by omega), cut_length _, of_f g (by omega) (by omega)⟩
  have hmk : (o.length + 2) * v.length + 1 ≤ k + n + 3 := by
    have : (o.length + 2) * v.length ≤ 4 * n := Nat.mul_le_mul (by omega) (by omega)
    omega
  obtain ⟨p, f1, f2, f3⟩ := mul_f v o hv og.limbs (by omega) (k + n + 3) hmk
  clear hmk
  rw [og.eq] at f2
  have hpl : p.length ≤ n + 1 := by
    refine len_of_lt f2 ?_
    have hV0 := val_nonneg hv
    have hV1 := val_ltB hv
    rw [hn] at hV1
    have h5 : val v * g ≤ val v * 4294967296 := Int.mul_le_mul_of_nonneg_left (by omega) hV0
    rw [Bp_succ]
    omega
  obtain ⟨c, u1, a1, a2, a3, a4, a5, a6⟩ := less_at_f u p hu f2.limbs j n hj hum hpl hz.out (k + n + 3) (by omega)
  rw [f2.eq] at a5
  have A5 := zMk a5
  have A6 := zMk a6
  clear a5 a6
  have hj3 : n_DivMod.j3 (k + n + 4) Q x9 u v (n : Int) (j : Int) g = if c > 0 then n_DivMod.l2 (k + n + 3) Q x9 u1 v (n : Int) (j : Int) (IntKind.u64.wrap (g - 1)) 0 ((n + 1 : Nat) : Int) 0 else n_DivMod.l0 (k + n + 3) (Q.set j (g % 4294967296)) x9 u1 v (n : Int) ((j : Int) - 1) := by
    rw [show k + n + 4 = (k + n + 3) + 1 from rfl, n_DivMod.j3, hof, zOb, f1, zOb, if_pos (by omega), e1.out, e6.out, if_pos (by omega), if_pos (by omega), a1, zOb, e7.out, zTn, if_pos (show ((j : Int)) < (Q.length : Int) by omega), w64 (n := (j : Int) - 1) (by omega) (by omega)]
  have bound : ∀ X : List Int, Limbs X → X.length = u.length → Aside0 (val (X.drop (j + n + 1)) = 0) → val X < Bp (j + n + 1) := by
    intro X hX hXl hXz
    have hmin : (X.take (j + n + 1)).length = j + n + 1 := by rw [zLt]; omega
    have g1 := val_splitB X (j + n + 1) (by omega)
    rw [hXz.out, Int.mul_zero, Int.add_zero] at g1
    have g2 := val_ltB (hX.take (j + n + 1))
    rw [hmin, ← g1] at g2
    exact g2
  have hV0 := val_nonneg hv
  have hu1 := val_nonneg a3
  have hPj := Int.le_of_lt (Bp_pos j)
  have hle : Bp j * (val v * qd) ≤ Bp j * (val v * g) := Int.mul_le_mul_of_nonneg_left (Int.mul_le_mul_of_nonneg_left hqg hV0) hPj
  have hsplit : Bp j * (val v * (qd + 1)) = Bp j * (val v * qd) + Bp j * val v := by rw [Int.mul_add, Int.mul_add, Int.mul_one]
  have hle2 : qd < g → Bp j * (val v * qd) + Bp j * val v ≤ Bp j * (val v * g) := fun hlt => by
    rw [← hsplit]
    exact Int.mul_le_mul_of_nonneg_left (Int.mul_le_mul_of_nonneg_left (by omega) hV0) hPj
  have HS := zMk hsplit
  have HL := zMk hle
  have HL2 := zMk hle2
  clear hsplit hle hle2
  rcases a4 with rfl | rfl
  · have hgq2 : g = qd := by
      rcases Int.lt_or_le qd g with hlt | _
      · exfalso
        have h1 := HL2.out hlt
        have h2 := A5.out
        rw [Int.zero_mul, Int.sub_zero] at h2
        obtain ⟨h3, h4⟩ := h01.out
        generalize Bp j * (val v * g) = a at *
        generalize Bp j * (val v * qd) = b at *
        generalize Bp j * val v = c at *
        omega
      · omega
    refine ⟨u1, k + n + 3, ?_, a2, a3, ?_, by omega⟩
    · rw [hj3, if_neg (by omega), show g % 4294967296 = g by omega, hgq2]
    · have h2 := A5.out
      rw [Int.zero_mul, Int.sub_zero, hgq2] at h2
      generalize Bp j * (val v * qd) = b at *
      omega
  · have hgq2 : g = qd + 1 := by
      rcases Int.lt_or_le qd g with hlt | _
      · omega
      · exfalso
        have hgq : g = qd := by omega
        have h2 := A5.out
        have h5 := bound u1 a3 a2 A6
        obtain ⟨h3, h4⟩ := h01.out
        rw [hgq, Int.one_mul] at h2
        generalize Bp j * (val v * qd) = b at *
        generalize Bp (j + n + 1) = d at *
        omega
    obtain ⟨X, c, b1, b2, b3, b4, b5, b6⟩ := back_l2 Q v x9 qd n j u.length hv hn hj hum hQ hQm (val u1) (n + 1) 0 (k + 1) u1 0 (by omega) a2 a3 (.inl rfl) ⟨by simp [val]⟩ A6
    have hX0 := val_nonneg b3
    have hX1 := bound X b3 b2 ⟨b6⟩
    have h2 := A5.out
    rw [hgq2, HS.out, Int.one_mul] at h2
    have h34 := h01.out
    have hres : val X = val u - Bp j * (val v * qd) := by
      obtain ⟨h3, h4⟩ := h34
      rcases b4 with rfl | rfl
      · exfalso
        rw [Int.zero_mul] at b5
        generalize Bp j * (val v * qd) = b at *
        generalize Bp j * val v = c at *
        generalize Bp (j + n + 1) = d at *
        omega
      · rw [Int.one_mul] at b5
        generalize Bp j * (val v * qd) = b at *
        generalize Bp j * val v = c at *
        generalize Bp (j + n + 1) = d at *
        omega
    clear h34 h2 hX1 b5 b6
    refine ⟨X, k + 1, ?_, b2, b3, hres, by omega⟩
    clear hres
    rw [hj3, if_pos (by omega), wraps_u64 (g - 1) (by omega) (by omega), show g - 1 = qd by omega]
    rw [show k + 1 + (n + 1) + 1 = k + n + 3 by omega, show ((0 : Nat) : Int) = 0 from rfl, show qd % 4294967296 = qd by omega] at b1
    exact b1
theorem lt_pow_drop {u : List Int} (hu : Limbs u) (N : Nat) (h : N ≤ u.length) (hv : val u < Bp N) : val (u.drop N) = 0 := by
  have h1 := val_splitB u N h
  have h2 := val_nonneg (hu.drop N)
  have h3 := val_nonneg (hu.take N)
  have hp := Bp_pos N
  rcases Int.lt_or_le 0 (val (u.drop N)) with h4 | h4
  · have h5 : Bp N * 1 ≤ Bp N * val (u.drop N) := Int.mul_le_mul_of_nonneg_left (by omega) (Int.le_of_lt hp)
    rw [Int.mul_one] at h5
    rw [h1] at hv
    generalize Bp N * val (u.drop N) = z at *
    omega
  · omega
theorem top_limbs (v : List Int) (hv : Limbs v) (p : Nat) (hn : v.length = p + 2) : (v.getD (p + 1) 0 * 4294967296 + v.getD p 0) * Bp p ≤ val v ∧ val v ≤ (v.getD (p + 1) 0 * 4294967296 + v.getD p 0 + 1) * Bp p := by
  have h1 := val_take_succB v (p + 1)
  have h2 := val_take_succB v p
  rw [show p + 1 + 1 = v.length by omega, List.take_length, h2, Bp_succ] at h1
  have h3 := val_nonneg (hv.take p)
  have h4 := val_ltB (hv.take p)
  rw [zLt, Nat.min_eq_left (by omega)] at h4
  have e : Bp p * 4294967296 * v.getD (p + 1) 0 = v.getD (p + 1) 0 * 4294967296 * Bp p := by grind
  have e2 : Bp p * v.getD p 0 = v.getD p 0 * Bp p := Int.mul_comm _ _
  rw [e, e2] at h1
  rw [Int.add_mul, Int.add_mul (v.getD (p + 1) 0 * 4294967296 + v.getD p 0), Int.add_mul, Int.one_mul]
  generalize v.getD (p + 1) 0 * 4294967296 * Bp p = x at *
  generalize v.getD p 0 * Bp p = y at *
  omega
theorem top_three (u : List Int) (hu : Limbs u) (q : Nat) (hq : q + 3 ≤ u.length) (hz : val (u.drop (q + 3)) = 0) : ((u.getD (q + 2) 0 * 4294967296 + u.getD (q + 1) 0) * 4294967296 + u.getD q 0) * Bp q ≤ val u ∧ val u < ((u.getD (q + 2) 0 * 4294967296 + u.getD (q + 1) 0) * 4294967296 + u.getD q 0 + 1) * Bp q := by
  have h0 := val_splitB u (q + 3) hq
  rw [hz, Int.mul_zero, Int.add_zero] at h0
  have h1 := val_take_succB u (q + 2)
  have h2 := val_take_succB u (q + 1)
  have h3 := val_take_succB u q
  rw [← h0, h2, h3, show q + 2 = q + 1 + 1 from rfl, Bp_succ (q + 1), Bp_succ q] at h1
  have h4 := val_nonneg (hu.take q)
  have h5 := val_ltB (hu.take q)
  rw [zLt, Nat.min_eq_left (by omega)] at h5
  have e : val (u.take q) + Bp q * u.getD q 0 + Bp q * 4294967296 * u.getD (q + 1) 0 + Bp q * 4294967296 * 4294967296 * u.getD (q + 1 + 1) 0 = val (u.take q) + ((u.getD (q + 1 + 1) 0 * 4294967296 + u.getD (q + 1) 0) * 4294967296 + u.getD q 0) * Bp q := by grind
  rw [e] at h1
  rw [show q + 2 = q + 1 + 1 from rfl, Int.add_mul ((u.getD (q + 1 + 1) 0 * 4294967296 + u.getD (q + 1) 0) * 4294967296 + u.getD q 0) 1, Int.one_mul]
  generalize ((u.getD (q + 1 + 1) 0 * 4294967296 + u.getD (q + 1) 0) * 4294967296 + u.getD q 0) * Bp q = x at *
  omega
theorem guess_facts (vt v2 T V S head u2 : Int) (hT : 0 < T) (hvt : 2147483648 ≤ vt) (hvt2 : vt < 4294967296) (hv2 : 0 ≤ v2) (hv22 : v2 < 4294967296) (hu2 : 0 ≤ u2) (hu22 : u2 < 4294967296) (hh0 : 0 ≤ head)
    (hV : (vt * 4294967296 + v2) * T ≤ V) (hV2 : V ≤ (vt * 4294967296 + v2 + 1) * T) (hS : (head * 4294967296 + u2) * T ≤ S) (hS2 : S < (head * 4294967296 + u2 + 1) * T) (hSV : S < 4294967296 * V) :
    0 < V ∧ 0 ≤ S / V ∧ S / V < 4294967296 ∧ head < 4294967296 * vt + 4294967296 ∧ head / vt < 4294967298 ∧ S / V ≤ head / vt ∧
    (∀ g r, 0 ≤ g → g * vt + r = head → g * v2 > r * 4294967296 + u2 → S / V < g) ∧
    (∀ g r, 0 ≤ g → g < 4294967296 → g * vt + r = head → (g * v2 ≤ r * 4294967296 + u2 ∨ 4294967296 ≤ r) → g ≤ S / V + 1) := by
  have hV0 : 0 < V := by
    have h1 : 1 * T ≤ (vt * 4294967296 + v2) * T := Int.mul_le_mul_of_nonneg_right (by omega) (by omega)
    rw [Int.one_mul] at h1
    omega
  have hS0 : 0 ≤ S := by
    have h1 : 0 ≤ (head * 4294967296 + u2) * T := Int.mul_nonneg (by omega) (by omega)
    omega
  have hhd : head < 4294967296 * vt + 4294967296 := by
    have h1 : 4294967296 * V ≤ 4294967296 * ((vt * 4294967296 + v2 + 1) * T) := Int.mul_le_mul_of_nonneg_left hV2 (by omega)
    rw [← Int.mul_assoc] at h1
    have h2 : (head * 4294967296 + u2) * T < 4294967296 * (vt * 4294967296 + v2 + 1) * T := by omega
    have h3 := Int.lt_of_mul_lt_mul_right h2 (by omega)
    omega
  have hle : S / V * V ≤ S := Int.ediv_mul_le _ (by omega)
  refine ⟨hV0, Int.ediv_nonneg hS0 (by omega), Int.ediv_lt_of_lt_mul hV0 hSV, hhd, Int.ediv_lt_of_lt_mul (by omega) (by omega), ?_, ?_, ?_⟩
  · refine Int.le_ediv_of_mul_le (by omega) ?_
    have hq : 0 ≤ S / V := Int.ediv_nonneg hS0 (by omega)
    generalize S / V = q at *
    have h1 : q * ((vt * 4294967296 + v2) * T) ≤ q * V := Int.mul_le_mul_of_nonneg_left hV hq
    have h2 : q * (vt * 4294967296 * T) ≤ q * ((vt * 4294967296 + v2) * T) := Int.mul_le_mul_of_nonneg_left (Int.mul_le_mul_of_nonneg_right (by omega) (by omega)) hq
    have h3 : q * (vt * 4294967296 * T) = (q * vt * 4294967296) * T := by grind
    have h4 : (q * vt * 4294967296) * T < (head * 4294967296 + u2 + 1) * T := by omega
    have h5 := Int.lt_of_mul_lt_mul_right h4 (by omega)
    omega
  · intro g r hg hh hc
    refine Int.ediv_lt_of_lt_mul hV0 ?_
    exact knuth_lower vt v2 T V S head u2 g r hT hV hS2 hg hh hc
  · intro g r hg hg2 hh hc
    rcases hc with hc | hc
    · have := Int.le_ediv_of_mul_le hV0 (knuth_upper vt v2 T V S head u2 g r hT (by omega) hv2 hV hV2 hS hg hg2 hh hc)
      omega
    · have := Int.le_ediv_of_mul_le hV0 (knuth_break vt v2 T V S head u2 g r hT hv22 hu2 hV2 hS hg hg2 hh hc)
      omega
theorem outer_l0 (v : List Int) (hv : Limbs v) (n p : Nat) (hn : v.length = n) (hp : n = p + 2) (hnm : n < 1000000) (x9 : Int) (hvt : 2147483648 ≤ v.getD (n - 1) 0) (A : Int) (L qn : Nat) (hLq : L = qn + n) (hL : L < 10000000) :
    ∀ (m k : Nat) (Q u : List Int), m ≤ qn → Q.length = qn → u.length = L → Limbs Q → Limbs u → Aside0 (val u < Bp m * val v) → (∀ i, i < m → Q.getD i 0 = 0) → Aside0 (val u + val v * val Q = A) → m * (n + 12) + 5 * n + 30 ≤ k →
    ∃ Q' u' k', n_DivMod.l0 k Q x9 u v (n : Int) ((m : Int) - 1) = n_DivMod.l0 k' Q' x9 u' v (n : Int) (-1) ∧ Limbs Q' ∧ Q'.length = qn ∧ Limbs u' ∧ u'.length = L ∧ Aside0 (val u' < val v) ∧ Aside0 (val u' + val v * val Q' = A) ∧ 5 * n + 30 ≤ k' := by
  intro m
  induction m with
  | zero =>
    intro k Q u _ hQ hu lQ lu h1 _ h2 hk
    refine ⟨Q, u, k, rfl, lQ, hQ, lu, hu, ⟨?_⟩, h2, by omega⟩
    have := h1.out
    rw [Bp_zero, Int.one_mul] at this
    exact this
  | succ m ih =>
    intro k Q u hm hQ hu lQ lu h1 hz h2 hk
    rw [Nat.add_mul, Nat.one_mul] at hk
    obtain ⟨k, rfl⟩ : ∃ d, k = d + 1 := ⟨k - 1, by omega⟩
    have e1 : Aside0 (wrap64 ((m : Int) + (n : Int)) = ((m + n : Nat) : Int)) := ⟨w64e (by omega) (by omega)⟩
    have e2 : Aside0 (wrap64 (((m + n : Nat) : Int) - 1) = ((m + n - 1 : Nat) : Int)) := ⟨w64e (by omega) (by omega)⟩
    have e3 : Aside0 (wrap64 ((n : Int) - 1) = ((n - 1 : Nat) : Int)) := ⟨w64e (by omega) (by omega)⟩
    have HZ : Aside0 (val (u.drop (m + n + 1)) = 0) := ⟨lt_pow_drop lu (m + n + 1) (by omega) (by
      have h3 := h1.out
      have h4 := val_ltB hv
      rw [hn] at h4
      have h5 : Bp (m + 1) * val v < Bp (m + 1) * Bp n := Int.mul_lt_mul_of_pos_left h4 (Bp_pos _)
      rw [← Bp_add, show m + 1 + n = m + n + 1 by omega] at h5
      exact Int.lt_trans h3 h5)⟩
    have bvt := hv.getD (n - 1)
    have bv2 := hv.getD (n - 2)
    have bhi := lu.getD (m + n)
    have blo := lu.getD (m + n - 1)
    have bu2 := lu.getD (m + n - 2)
    obtain ⟨head, hhead⟩ : ∃ head, u.getD (m + n) 0 * 4294967296 + u.getD (m + n - 1) 0 = head := ⟨_, rfl⟩
    have hh0 : 0 ≤ head := by omega
    have HV := top_limbs v hv p (by omega)
    have HU := top_three u lu (m + p) (by omega) (by rw [show m + p + 3 = m + n + 1 by omega]; exact HZ.out)
    rw [show p + 1 = n - 1 by omega] at HV
    rw [show m + p + 2 = m + n by omega, show m + p + 1 = m + n - 1 by omega, hhead, Bp_add] at HU
    have HU2 := zMk HU
    have HV2 := zMk HV
    have hpm := Bp_pos m
    have hpp := Bp_pos p
    clear HU HV
    have GF := guess_facts (v.getD (n - 1) 0) (v.getD (n - 2) 0) (Bp m * Bp p) (Bp m * val v) (val u) head (u.getD (m + n - 2) 0) (Int.mul_pos hpm hpp) hvt bvt.2 bv2.1 bv2.2 bu2.1 bu2.2 hh0
      (by
        have h3 := Int.mul_le_mul_of_nonneg_left HV2.out.1 (Int.le_of_lt hpm)
        rw [show p = n - 2 by omega] at h3 ⊢
        rw [show Bp m * ((v.getD (n - 1) 0 * 4294967296 + v.getD (n - 2) 0) * Bp (n - 2)) = (v.getD (n - 1) 0 * 4294967296 + v.getD (n - 2) 0) * (Bp m * Bp (n - 2)) by grind] at h3
        exact h3)
      (by
        have h3 := Int.mul_le_mul_of_nonneg_left HV2.out.2 (Int.le_of_lt hpm)
        rw [show p = n - 2 by omega] at h3 ⊢
        rw [show Bp m * ((v.getD (n - 1) 0 * 4294967296 + v.getD (n - 2) 0 + 1) * Bp (n - 2)) = (v.getD (n - 1) 0 * 4294967296 + v.getD (n - 2) 0 + 1) * (Bp m * Bp (n - 2)) by grind] at h3
        exact h3)
      (by rw [show m + n - 2 = m + p by omega]; exact HU2.out.1)
      (by rw [show m + n - 2 = m + p by omega]; exact HU2.out.2)
      (by
        have h3 := h1.out
        rw [Bp_succ, Int.mul_comm (Bp m), Int.mul_assoc] at h3
        exact h3)
    obtain ⟨g1, g2, g3, g4, g5, g6, g7, g8⟩ := GF
    have hmod := Int.emod_add_mul_ediv (val u) (Bp m * val v)
    have hm0 := Int.emod_nonneg (val u) (show Bp m * val v ≠ 0 from Int.ne_of_gt g1)
    have hm1 := Int.emod_lt_of_pos (val u) g1
    have H01 : Aside0 (0 ≤ val u - Bp m * (val v * (val u / (Bp m * val v))) ∧ val u - Bp m * (val v * (val u / (Bp m * val v))) < Bp m * val v) := ⟨by
      rw [← Int.mul_assoc]
      generalize Bp m * val v * (val u / (Bp m * val v)) = x at *
      generalize Bp m * val v = y at *
      omega⟩
    clear hmod hm0 hm1 g1
    obtain ⟨qd, hqd⟩ : ∃ qd, val u / (Bp m * val v) = qd := ⟨_, rfl⟩
    rw [hqd] at g2 g3 g6 g7 g8 H01
    clear hqd
    have hr0 := Int.emod_nonneg head (show v.getD (n - 1) 0 ≠ 0 by omega)
    have hr1 := Int.emod_lt_of_pos head (show 0 < v.getD (n - 1) 0 by omega)
    have hgr : head / v.getD (n - 1) 0 * v.getD (n - 1) 0 + head % v.getD (n - 1) 0 = head := by have := Int.emod_add_mul_ediv head (v.getD (n - 1) 0); rw [Int.mul_comm] at this; omega
    have hg0 : 0 ≤ head / v.getD (n - 1) 0 := Int.ediv_nonneg hh0 (by omega)
    obtain ⟨g', k2, c1, c2, c3, c4, r', c5, c6⟩ := guess_l1 Q u v x9 n m hv lu hn (by omega) (by omega) (by omega) qd head g2 g3 hvt g7 g4 2 k (head / v.getD (n - 1) 0) (head % v.getD (n - 1) 0) g5 hgr g6 hr0 (by omega) (by omega) (by omega)
    obtain ⟨u', k3, d1, d2, d3, d4, d5⟩ := round_j3 Q u v x9 n m hv lu hn (by omega) (by omega) (by omega) (by omega) HZ hnm qd g' g2 c2 (g8 g' r' (by omega) c3 c5 c6) c3 H01.out.1 H01.out.2 k2 (by omega)
    have hlast : Aside0 (val u' < Bp m * val v) := ⟨by rw [d4]; exact H01.out.2⟩
    have hA : Aside0 (val u' + val v * val (Q.set m qd) = A) := ⟨by
      have h3 := h2.out
      rw [d4, val_setB _ _ _ (by omega), hz m (by omega), ← h3]
      grind⟩
    clear d4 H01 HU2 HV2
    obtain ⟨Q', u'', k', f1, f2, f3, f4, f5, f6, f7, f8⟩ := ih k3 (Q.set m qd) u' (by omega) (by rw [List.length_set]; exact hQ) (by omega) (lQ.set _ g2 g3) d3 hlast (fun i hi => by rw [getD_set_ne _ _ (by omega)]; exact hz i (by omega)) hA (by omega)
    refine ⟨Q', u'', k', ?_, f2, f3, f4, f5, f6, f7, f8⟩
    rw [show ((m + 1 : Nat) : Int) - 1 = (m : Int) by omega, n_DivMod.l0, if_pos (by omega), e1.out, if_pos (by omega), if_pos (by omega), e2.out, if_pos (by omega), if_pos (by omega), e3.out, if_pos (by omega), if_pos (by omega), rd_nat, rd_nat, rd_nat, wraps_u64 (v.getD (n - 1) 0) (by omega) (by omega), if_neg (by omega), wraps_u64 (u.getD (m + n) 0) (by omega) (by omega), or64 _ _ bhi blo, hhead]
    rw [Int.tdiv_eq_ediv_of_nonneg hh0, Int.tmod_eq_emod_of_nonneg hh0, wraps_u64 (head / v.getD (n - 1) 0) (by omega) (by omega), c1, d1]
    exact f1
theorem shr64 (x : Int) (s : Nat) (hs : s ≤ 31) : shr .u64 x (s : Int) = x / 2 ^ s := by
  unfold shr
  rw [show min ((s : Int)).toNat (IntKind.bits .u64) = s from by rw [zTn]; exact Nat.min_eq_left (Nat.le_trans hs (by decide))]
theorem mod_next (x a b : Int) (ha : 0 ≤ a) : x % (a * b) = x % a + a * (x / a % b) := by
  rw [Int.emod_def x (a * b), ← Int.ediv_ediv_of_nonneg ha, Int.emod_def x a, Int.emod_def (x / a) b, Int.mul_sub, Int.mul_assoc]
  generalize a * (b * (x / a / b)) = z
  omega
theorem digit_shift (u : List Int) (hu : Limbs u) (i : Nat) (hi : i + 1 < u.length) (s : Nat) (hs : s ≤ 31) : val u / 2 ^ s / Bp i % 4294967296 = (u.getD (i + 1) 0 * 4294967296 + u.getD i 0) / 2 ^ s % 4294967296 := by
  have hP : (0 : Int) < 2 ^ s := Int.pow_pos (by decide)
  have h1 := val_splitB u i (by omega)
  have h2 : u.drop i = u.getD i 0 :: u.getD (i + 1) 0 :: u.drop (i + 2) := by rw [List.drop_eq_getElem_cons (by omega), List.drop_eq_getElem_cons (by omega), getD_lt _ (by omega), getD_lt _ (by omega)]
  rw [h2] at h1
  simp only [val] at h1
  have h3 := val_nonneg (hu.take i)
  have h4 := val_ltB (hu.take i)
  rw [zLt, Nat.min_eq_left (by omega)] at h4
  rw [Int.ediv_ediv_of_nonneg (Int.le_of_lt hP), Int.mul_comm (2 ^ s) (Bp i), ← Int.ediv_ediv_of_nonneg (Int.le_of_lt (Bp_pos i))]
  have h5 : val u / Bp i = u.getD i 0 + 4294967296 * (u.getD (i + 1) 0 + 4294967296 * val (u.drop (i + 2))) := by
    rw [h1, Int.add_mul_ediv_left _ _ (Int.ne_of_gt (Bp_pos i)), Int.ediv_eq_zero_of_lt h3 h4, Int.zero_add]
  rw [h5]
  have hB : (4294967296 : Int) = 2 ^ s * 2 ^ (32 - s) := by rw [← Int.pow_add, show s + (32 - s) = 32 by omega]; rfl
  have h6 : u.getD i 0 + 4294967296 * (u.getD (i + 1) 0 + 4294967296 * val (u.drop (i + 2))) = (u.getD (i + 1) 0 * 4294967296 + u.getD i 0) + 2 ^ s * (2 ^ (32 - s) * 4294967296 * val (u.drop (i + 2))) := by
    rw [← Int.mul_assoc (2 ^ s), ← Int.mul_assoc (2 ^ s), ← hB]
    generalize val (u.drop (i + 2)) = z
    omega
  rw [h6, Int.add_mul_ediv_left _ _ (Int.ne_of_gt hP), Int.mul_comm (2 ^ (32 - s)) 4294967296, Int.mul_assoc, Int.add_mul_emod_self_left]
theorem l3_f (Q u : List Int) (hu : Limbs u) (n s : Nat) (hs : s ≤ 31) (hun : n < u.length) (hum : u.length < 35184372088832) :
    ∀ (d i k : Nat) (O : List Int), i + d = n → O.length = n → Limbs O → Aside0 (val O = val u / 2 ^ s % Bp i) → (∀ t, i ≤ t → O.getD t 0 = 0) → d + 1 ≤ k →
    ∃ r, n_DivMod.l3 k Q (s : Int) u O (n : Int) (i : Int) = some (cut Q, r, 0) ∧ IsNum r (val u / 2 ^ s % Bp n) := by
  intro d
  induction d with
  | zero =>
    intro i k O hi hO lO hv hz hk
    obtain ⟨k, rfl⟩ : ∃ e, k = e + 1 := ⟨k - 1, by omega⟩
    obtain rfl : i = n := by omega
    refine ⟨cut O, ?_, ?_⟩
    · rw [n_DivMod.l3, if_neg (by omega), cut_f, zOb, cut_f, zOb]
    · have := IsNum.cut lO
      rw [hv.out] at this
      exact this
  | succ d ih =>
    intro i k O hi hO lO hv hz hk
    obtain ⟨k, rfl⟩ : ∃ e, k = e + 1 := ⟨k - 1, by omega⟩
    have e1 : Aside0 (wrap64 ((i : Int) + 1) = ((i + 1 : Nat) : Int)) := ⟨w64e (by omega) (by omega)⟩
    have bhi := hu.getD (i + 1)
    have blo := hu.getD i
    obtain ⟨dg, hdg⟩ : ∃ dg, (u.getD (i + 1) 0 * 4294967296 + u.getD i 0) / 2 ^ s % 4294967296 = dg := ⟨_, rfl⟩
    have hds := digit_shift u hu i (by omega) s hs
    rw [hdg] at hds
    have hdg0 : 0 ≤ dg ∧ dg < 4294967296 := by
      rw [← hdg]
      generalize (u.getD (i + 1) 0 * 4294967296 + u.getD i 0) / 2 ^ s = z
      omega
    obtain ⟨r, h1, h2⟩ := ih (i + 1) k (O.set i dg) (by omega) (by rw [List.length_set]; exact hO) (lO.set _ hdg0.1 hdg0.2) ⟨by
        rw [val_setB _ _ _ (by omega), hz i (Nat.le_refl _), hv.out, Bp_succ, mod_next _ _ _ (Int.le_of_lt (Bp_pos i)), hds, Int.sub_zero]⟩ (fun t ht => by rw [getD_set_ne _ _ (by omega)]; exact hz t (by omega)) (by omega)
    refine ⟨r, ?_, h2⟩
    clear hds hv
    rw [n_DivMod.l3, if_pos (by omega), e1.out, if_pos (by omega), if_pos (by omega), if_pos (by omega), if_pos (by omega), if_pos (by omega), if_pos (by omega), rd_nat, rd_nat, wraps_u64 (u.getD (i + 1) 0) (by omega) (by omega), or64 _ _ bhi blo, shr64 _ s hs, hdg, zTn]
    exact h1
theorem knuth_f (a b : List Int) (ha : Limbs a) (hb : Limbs b) (tb : Trim b) (n p : Nat) (hn : b.length = n) (hp : n = p + 2) (hab : val b ≤ val a) (la : a.length ≤ 600) (hlen : n ≤ a.length) (k : Nat) (hk : 500000 ≤ k) :
    ∃ t172 t173 t176, bits_LeadingZeros32.f (b.getD (n - 1) 0) = some t172 ∧ n_shift.f k a (IntKind.u64.wrap t172) = some t173 ∧ n_shift.f k b (IntKind.u64.wrap t172) = some t176 ∧ t173.length = a.length + 1 ∧ (cut t176).length = n ∧
    ∃ q r, n_DivMod.l0 k (List.replicate (a.length + 1 - n) 0) (IntKind.u64.wrap t172) t173 (cut t176) (n : Int) (((a.length + 1 - n : Nat) : Int) - 1) = some (q, r, 0) ∧ IsNum q (val a / val b) ∧ IsNum r (val a % val b) := by
  have htop : b.getD (n - 1) 0 ≠ 0 := by
    rcases tb with h | h
    · rw [h] at hn; simp at hn; omega
    · rw [hn] at h; exact h
  have bt := hb.getD (n - 1)
  obtain ⟨s, s1, s2, s3, s4⟩ := lz_f (b.getD (n - 1) 0) (by omega) bt.2
  have hsw : IntKind.u64.wrap (s : Int) = (s : Int) := wraps_u64 _ (by omega) (by omega)
  have hP : (0 : Int) < 2 ^ s := Int.pow_pos (by decide)
  have hP31 := (pow_le31 s s2).2
  obtain ⟨u, u1, u2, u3, u4⟩ := shift_f a ha (by omega) s s2 k (by omega)
  obtain ⟨w, w1, w2, w3, w4⟩ := shift_f b hb (by omega) s s2 k (by omega)
  have hv := IsNum.cut w2
  rw [w4] at hv
  obtain ⟨v, hvd⟩ : ∃ v, cut w = v := ⟨_, rfl⟩
  rw [hvd] at hv
  -- the top limb of b, shifted
  have hb1 := val_take_succB b (n - 1)
  rw [show n - 1 + 1 = b.length by omega, List.take_length] at hb1
  have hb2 := val_nonneg (hb.take (n - 1))
  have hb3 := val_ltB (hb.take (n - 1))
  rw [zLt, Nat.min_eq_left (by omega)] at hb3
  have hBp := Bp_pos (n - 1)
  have hvlo : 2147483648 * Bp (n - 1) ≤ val v := by
    rw [hv.eq, hb1, Int.add_mul, Int.mul_assoc]
    have h1 : 2147483648 * Bp (n - 1) ≤ b.getD (n - 1) 0 * 2 ^ s * Bp (n - 1) := Int.mul_le_mul_of_nonneg_right s3 (Int.le_of_lt hBp)
    have h2 : 0 ≤ val (b.take (n - 1)) * 2 ^ s := Int.mul_nonneg hb2 (Int.le_of_lt hP)
    rw [Int.mul_comm (b.getD (n - 1) 0 * 2 ^ s)] at h1
    generalize Bp (n - 1) * (b.getD (n - 1) 0 * 2 ^ s) = x at *
    omega
  have hvhi : val v < Bp n := by
    rw [hv.eq, show Bp n = Bp (n - 1) * 4294967296 from by rw [← Bp_succ, show n - 1 + 1 = n by omega]]
    have h1 : val b < Bp (n - 1) * (b.getD (n - 1) 0 + 1) := by rw [Int.mul_add, Int.mul_one]; omega
    have h2 : val b * 2 ^ s < Bp (n - 1) * (b.getD (n - 1) 0 + 1) * 2 ^ s := Int.mul_lt_mul_of_pos_right h1 hP
    have h3 : (b.getD (n - 1) 0 + 1) * 2 ^ s ≤ 4294967296 := by
      have hB : (4294967296 : Int) = 2 ^ s * 2 ^ (32 - s) := by rw [← Int.pow_add, show s + (32 - s) = 32 by omega]; rfl
      have h9 : 2 ^ s * b.getD (n - 1) 0 < 2 ^ s * 2 ^ (32 - s) := by rw [← hB, Int.mul_comm]; exact s4
      have h8 := Int.lt_of_mul_lt_mul_left h9 (Int.le_of_lt hP)
      have h7 : 2 ^ s * (b.getD (n - 1) 0 + 1) ≤ 2 ^ s * 2 ^ (32 - s) := Int.mul_le_mul_of_nonneg_left (by omega) (Int.le_of_lt hP)
      rw [← hB, Int.mul_comm] at h7
      exact h7
    have h4 : Bp (n - 1) * ((b.getD (n - 1) 0 + 1) * 2 ^ s) ≤ Bp (n - 1) * 4294967296 := Int.mul_le_mul_of_nonneg_left h3 (Int.le_of_lt hBp)
    rw [Int.mul_assoc] at h2
    exact Int.lt_of_lt_of_le h2 h4
  have hvl : v.length = n := by
    have h1 := len_of_lt hv (m := n) (by rw [← hv.eq]; exact hvhi)
    rcases Nat.lt_or_ge v.length n with h2 | h2
    · have h3 := val_ltB hv.limbs
      have h4 : Bp v.length ≤ Bp (n - 1) := pow_upB (by omega)
      omega
    · omega
  have hvt : 2147483648 ≤ v.getD (n - 1) 0 := by
    have g1 := val_take_succB v (n - 1)
    rw [show n - 1 + 1 = v.length by omega, List.take_length] at g1
    have g3 := val_ltB (hv.limbs.take (n - 1))
    rw [zLt, Nat.min_eq_left (by omega)] at g3
    rcases Int.lt_or_le (v.getD (n - 1) 0) 2147483648 with h | h
    · have h1 : Bp (n - 1) * (v.getD (n - 1) 0 + 1) ≤ Bp (n - 1) * 2147483648 := Int.mul_le_mul_of_nonneg_left (by omega) (Int.le_of_lt hBp)
      rw [Int.mul_add, Int.mul_one, Int.mul_comm _ 2147483648] at h1
      generalize Bp (n - 1) * v.getD (n - 1) 0 = x at *
      omega
    · exact h
  -- the dividend lies below the divisor's shifted value
  have hua : Aside0 (val u < Bp (a.length + 1 - n) * val v) := ⟨by
    have h1 : val u < Bp a.length * 2 ^ s := by rw [u4]; exact Int.mul_lt_mul_of_pos_right (val_ltB ha) hP
    have h2 : Bp a.length * 2 ^ s ≤ Bp a.length * 2147483648 := Int.mul_le_mul_of_nonneg_left hP31 (Int.le_of_lt (Bp_pos _))
    have h3 : Bp (a.length + 1 - n) * (2147483648 * Bp (n - 1)) ≤ Bp (a.length + 1 - n) * val v := Int.mul_le_mul_of_nonneg_left hvlo (Int.le_of_lt (Bp_pos _))
    have h4 : Bp (a.length + 1 - n) * (2147483648 * Bp (n - 1)) = Bp a.length * 2147483648 := by
      rw [Int.mul_comm 2147483648, ← Int.mul_assoc, ← Bp_add, show a.length + 1 - n + (n - 1) = a.length by omega]
    omega⟩
  have hfu : (a.length + 1 - n) * (n + 12) + 5 * n + 30 ≤ k := by
    have : (a.length + 1 - n) * (n + 12) ≤ 601 * 612 := Nat.mul_le_mul (by omega) (by omega)
    omega
  obtain ⟨Q', u', k', f1, f2, f3, f4, f5, f6, f7, f8⟩ := outer_l0 v hv.limbs n p hvl hp (by omega) (s : Int) hvt (val a * 2 ^ s) (a.length + 1) (a.length + 1 - n) (by omega) (by omega) (a.length + 1 - n) k (List.replicate (a.length + 1 - n) 0) u (Nat.le_refl _) (by simp) u3 (limbs_replicate _) u2 hua (fun i _ => zeros_getD _ i) ⟨by rw [val_replicate, u4, Int.mul_zero, Int.add_zero]⟩ hfu
  have hu0 := val_nonneg f4
  have h6 := f6.out
  have h7 := f7.out
  rw [hv.eq] at h6 h7
  have hvp : 0 < val b * 2 ^ s := by rw [← hv.eq]; have : 0 < 2147483648 * Bp (n - 1) := Int.mul_pos (by decide) hBp; omega
  have hq : val Q' = val a / val b := by
    have h1 : val a * 2 ^ s / (val b * 2 ^ s) = val Q' := by
      rw [← h7, Int.add_mul_ediv_left _ _ (Int.ne_of_gt hvp), Int.ediv_eq_zero_of_lt hu0 h6, Int.zero_add]
    rw [← h1, Int.mul_comm (val a), Int.mul_comm (val b), Int.mul_ediv_mul_of_pos _ _ hP]
  have hr : val u' = 2 ^ s * (val a % val b) := by
    have h1 : val a * 2 ^ s % (val b * 2 ^ s) = val u' := by
      rw [← h7, Int.add_mul_emod_self_left, Int.emod_eq_of_lt hu0 h6]
    rw [← h1, Int.mul_comm (val a), Int.mul_comm (val b), Int.mul_emod_mul_of_pos _ _ hP]
  obtain ⟨k'', rfl⟩ : ∃ d, k' = d + 1 := ⟨k' - 1, by omega⟩
  obtain ⟨r, r1, r2⟩ := l3_f Q' u' f4 n s s2 (by omega) (by omega) n 0 k'' (List.replicate n 0) (by omega) (by simp) (limbs_replicate _) ⟨by rw [val_replicate, Bp_zero]; omega⟩ (fun t _ => zeros_getD _ t) (by omega)
  have hvb : 0 < val b := val_pos hb tb (fun h => by rw [h] at hn; simp at hn; omega)
  rw [hr, Int.mul_ediv_cancel_left _ (Int.ne_of_gt hP)] at r2
  have hrl : val a % val b < Bp n := by
    have h1 := Int.emod_lt_of_pos (val a) hvb
    have h2 := val_ltB hb
    rw [hn] at h2
    omega
  rw [Int.emod_eq_of_lt (Int.emod_nonneg _ (Int.ne_of_gt hvb)) hrl] at r2
  refine ⟨s, u, w, s1, by rw [hsw]; exact u1, by rw [hsw]; exact w1, u3, by rw [hvd]; exact hvl, cut Q', r, ?_, ?_, r2⟩
  · rw [hsw, hvd, f1, n_DivMod.l0, if_neg (by omega), if_pos (by omega), zTn, if_pos (by omega)]
    exact r1
  · rw [← hq]
    exact IsNum.cut f2
theorem divmod_f (a b : List Int) (ha : Limbs a) (hb : Limbs b) (la : a.length ≤ 600) (lb : b.length ≤ 600) (k : Nat) (hk : 500000 ≤ k) :
    (val b = 0 ∧ n_DivMod.f k a b = some ([], [], 15)) ∨ (0 < val b ∧ ∃ q r, n_DivMod.f k a b = some (q, r, 0) ∧ IsNum q (val a / val b) ∧ IsNum r (val a % val b)) := by
  have ca := cut_length a
  have cb := cut_length b
  have va := val_nonneg ha
  have vb := val_nonneg hb
  unfold n_DivMod.f
  rw [cut_f, zOb, cut_f, zOb]
  by_cases h0 : ((cut b).length : Int) = 0
  · refine .inl ⟨?_, by rw [if_pos h0]⟩
    have h1 : cut b = [] := List.eq_nil_of_length_eq_zero (by omega)
    rw [← cut_val b, h1]
    rfl
  · have hne : cut b ≠ [] := fun h => h0 (by rw [h]; rfl)
    have hbp : 0 < val b := by have := val_pos (cut_limbs hb) (cut_trim b) hne; rw [cut_val] at this; exact this
    refine .inr ⟨hbp, ?_⟩
    rw [if_neg h0, cmp_f _ _ (cut_limbs ha) (cut_limbs hb), zOb, cut_val, cut_val]
    by_cases hlt : val a < val b
    · have hc : cmpI (val a) (val b) < 0 := by unfold cmpI; rw [if_pos hlt]; decide
      rw [if_pos hc, nnorm_f (cut a) (by omega), zOb]
      refine ⟨[], cut (cut a), rfl, ?_, ?_⟩
      · rw [Int.ediv_eq_zero_of_lt va hlt]
        exact IsNum.nil
      · rw [Int.emod_eq_of_lt va hlt]
        have := IsNum.cut (cut_limbs ha)
        rw [cut_val] at this
        exact this
    · have hc : ¬ cmpI (val a) (val b) < 0 := by unfold cmpI; rw [if_neg hlt]; split <;> omega
      rw [if_neg hc]
      by_cases h1 : ((cut b).length : Int) = 1
      · obtain ⟨x, hx⟩ : ∃ x, cut b = [x] := by
          rcases hcb : cut b with _ | ⟨x, _ | ⟨y, l⟩⟩
          · exact absurd hcb hne
          · exact ⟨x, rfl⟩
          · rw [hcb] at h1; simp at h1; omega
        have hxv : x = val b := by rw [← cut_val b, hx]; simp [val]
        have hxl := cut_limbs hb
        rw [hx] at hxl
        have hxb := hxl.cons.1
        obtain ⟨q, q1, q2, q3⟩ := small_f (cut a) (cut_limbs ha) (by omega) x (by omega) (by omega)
        rw [if_pos h1, if_pos (by omega), hx, show rd [x] 0 = x from rfl, q1, zOb]
        rw [cut_val] at q2
        have hm0 := Int.emod_nonneg (val a) (show x ≠ 0 by omega)
        have hm1 := Int.emod_lt_of_pos (val a) (show 0 < x by omega)
        simp only [cut_val]
        rw [wraps_u64 _ hm0 (by omega), of_f _ hm0 (by omega), zOb]
        exact ⟨q, _, rfl, by rw [← hxv]; exact q2, by rw [← hxv]; exact of2_num _ hm0 (by omega)⟩
      · have hlm := cut_len_mono ha hb (by omega)
        obtain ⟨p, hp⟩ : ∃ p, (cut b).length = p + 2 := ⟨(cut b).length - 2, by omega⟩
        obtain ⟨t1, t2, t3, x1, x2, x3, x4, x5, q, r, x6, x7, x8⟩ := knuth_f (cut a) (cut b) (cut_limbs ha) (cut_limbs hb) (cut_trim b) (cut b).length p rfl hp (by rw [cut_val, cut_val]; omega) (by omega) hlm k hk
        rw [cut_val, cut_val] at x7 x8
        have e1 : wrap64 (((cut b).length : Int) - 1) = (((cut b).length - 1 : Nat) : Int) := w64e (by omega) (by omega)
        rw [if_neg h1, e1, if_pos (by omega), if_pos (by omega), rd_nat, x1, zOb, x2, zOb, x3, zOb, cut_f, zOb]
        clear e1
        have e2 : wrap64 ((t2.length : Int) - ((cut t3).length : Int)) = (((cut a).length + 1 - (cut b).length : Nat) : Int) := w64e (by omega) (by omega)
        rw [e2, if_pos (by omega), zTn, if_pos (by omega), zOb]
        clear e2
        have e3 : wrap64 (((List.replicate ((cut a).length + 1 - (cut b).length) (0 : Int)).length : Int) - 1) = (((cut a).length + 1 - (cut b).length : Nat) : Int) - 1 := by rw [List.length_replicate]; exact w64 (by omega) (by omega)
        rw [e3, x5, x6]
        exact ⟨q, r, rfl, x7, x8⟩

def n_Sqrt.l0 : Nat → List Int → List Int → Option (List Int)
  | 0, _, _ => none
  | k + 1, x0, x3 => (n_DivMod.f k x0 x3).bind fun bt510 => ((n_Add.f k x3 bt510.1).bind fun t517 => ((n_small.f t517 2).bind fun bt520 => ((n_Cmp.f bt520.1 x3).bind fun t524 => (if t524 ≥ 0 then ((n_cut.f x3).bind fun t525 => (some t525)) else (n_Sqrt.l0 k x0 bt520.1)))))
def n_Sqrt.f (k : Nat) (l0 : List Int) : Option (List Int) := (n_cut.f l0).bind fun t503 => (if (t503.length : Int) = 0 then (some ([] : List Int)) else (if 0 ≤ (wrap64 ((wrap64 ((t503.length : Int) / 2)) + 2)) then (if (wrap64 ((wrap64 ((t503.length : Int) / 2)) + 2) : Int).toNat ≤ 70368744177664 then ((some (List.replicate (wrap64 ((wrap64 ((t503.length : Int) / 2)) + 2) : Int).toNat 0 : List Int)).bind fun y506 => (if 0 ≤ (wrap64 ((y506.length : Int) - 1)) then (if (wrap64 ((y506.length : Int) - 1)) < (y506.length : Int) then (n_Sqrt.l0 k t503 (y506.set ((wrap64 ((y506.length : Int) - 1)) : Int).toNat 1)) else (none)) else (none))) else (none)) else (none)))
theorem n_Sqrt.calls (k : Nat) (P0_ : Nat → Prop) (A0 : Option Addr) (c0 : Nat) (l0 : List Int) (r : List Int) (w : World) (hs0 : Kd.V (Kd.int .u32) 58 w w.heap.size (fun k_ => P0_ k_) (.slice A0 l0.length c0) l0) (h : n_Sqrt.f k l0 = some r) :
    Calls Tryd.prog 48 #[.slice A0 l0.length c0] w fun e w' => ∃ v0_ : Value, e = .returned (v0_) ∧ Kd.V (Kd.int .u32) 58 w' w.heap.size (fun k_ => (P0_ k_ ∨ w.heap.size ≤ k_)) v0_ r ∧ Below w.heap.size w w' := by
  have HO0 := zMk (show Kd.V (Kd.int .u32) 58 w w.heap.size (fun k_ => (P0_ k_ ∨ w.heap.size ≤ k_)) (.slice A0 l0.length c0) l0 from zVm hs0 (fun k_ hk => .inl hk))
  have HB := zMk (Below.refl w.heap.size w)
  have H : ((n_cut.f l0).bind fun t503 => (if (t503.length : Int) = 0 then (some ([] : List Int)) else (if 0 ≤ (wrap64 ((wrap64 ((t503.length : Int) / 2)) + 2)) then (if (wrap64 ((wrap64 ((t503.length : Int) / 2)) + 2) : Int).toNat ≤ 70368744177664 then ((some (List.replicate (wrap64 ((wrap64 ((t503.length : Int) / 2)) + 2) : Int).toNat 0 : List Int)).bind fun y506 => (if 0 ≤ (wrap64 ((y506.length : Int) - 1)) then (if (wrap64 ((y506.length : Int) - 1)) < (y506.length : Int) then (n_Sqrt.l0 k t503 (y506.set ((wrap64 ((y506.length : Int) - 1)) : Int).toNat 1)) else (none)) else (none))) else (none)) else (none)))) = some r := h
  clear h
  replace H := bnd H
  obtain ⟨t503, A20, H⟩ := H
  have A2 := zMk A20
  clear A20
  by_cases c3 : (t503.length : Int) = 0
  · rw [if_pos c3] at H
    have c3b0 : ((t503.length : Int) == 0) = true := beq_iff_eq.mpr c3
    have c3b1 : ((t503.length : Int) != 0) = false := bne_eq_false_iff_eq.mpr c3
    clear c3
    obtain rfl := zOi H
    go_enter Tryd.func48, Tryd.ntmps48
    go_wp2_with (first | ((with_reducible refine gate_callee (f := 56) rfl ?_); refine goesL_ (some 10) rfl rfl Tryd.func56 (by kernel_rfl) rfl #[.slice A0 l0.length c0] rfl (by (try simp only [zMa, zMc, zMn]); first |  done|  rfl|  (simp only [zLd, zLt]; rfl)) ?_; (with_reducible refine (n_cut.calls (fun k_ => (P0_ k_ ∨ w.heap.size ≤ k_)) _ _ l0 t503 _ ?side1 A2.out).mono ?_); (case side1 => exact HO0.out); rintro e w4 ⟨v504, rfl, ho0, hb⟩; refine ⟨_, rfl, ?_⟩; replace HO0 := zMk (zVb (by exact uV HO0.out) hb); have HO505 := zMk (zVl (zVm (ok' := fun k_ => (P0_ k_ ∨ w.heap.size ≤ k_)) ho0 (fun k_ hk_ => Or.elim hk_ (fun hs_ => hs_) (fun hn_ => (.inr (Nat.le_trans (zBs (by exact uT HB.out)) hn_))))) (zBs (by exact uT HB.out))); replace HB := zMk (zBt (by exact uT HB.out) hb); obtain ⟨Ao5, co5, eo5⟩ := zVs HO505.out; subst eo5))
    go_ret
    exact ⟨_, by first | rfl | (simp [errW_none, errW_some] <;> rfl) | (simp [*, errW_none, errW_some] <;> rfl), (by first | exact Kd.V_nil _ _ _ _ _ | exact zVm (Kd.R_V (by first | exact Kd.R_nil _ _ _ _ _ | exact Kd.N_nil _ _ _ _ _ | exact Kd.V_nil _ _ _ _ _ | exact Kd.Q_nil _ _ _ _ _ | exact Kd.S_nil _ _ _ _ _)) (fun k_ hk => by first | exact ⟨(.inr (hk.1)), hk.2⟩ | exact (.inr (hk)))), by exact uT HB.out⟩
  · rw [if_neg c3] at H
    have c3b0 : ((t503.length : Int) == 0) = false := beq_eq_false_iff_ne.mpr c3
    have c3b1 : ((t503.length : Int) != 0) = true := bne_iff_ne.mpr c3
    have c3b2 : ¬ (t503 = []) := fun h_ => c3 (by rw [h_]; rfl)
    obtain ⟨ji6, hji6⟩ : ∃ j_ : Int, (wrap64 ((wrap64 ((t503.length : Int) / 2)) + 2)) = j_ := ⟨_, rfl⟩
    replace H : (if 0 ≤ (ji6) then (if (ji6 : Int).toNat ≤ 70368744177664 then ((some (List.replicate (ji6 : Int).toNat 0 : List Int)).bind fun y506 => (if 0 ≤ (wrap64 ((y506.length : Int) - 1)) then (if (wrap64 ((y506.length : Int) - 1)) < (y506.length : Int) then (n_Sqrt.l0 k t503 (y506.set ((wrap64 ((y506.length : Int) - 1)) : Int).toNat 1)) else (none)) else (none))) else (none)) else (none)) = some r := by first | (rw [hji6] at H; exact H) | (simp only [hji6] at H ⊢; exact H)
    (try rw [hji6] at A2)
    have hji6w : (IntKind.i64.wrap ((wrap64 ((t503.length : Int) / 2)) + 2)) = ji6 := (i64_w _).trans hji6
    by_cases c7 : 0 ≤ (ji6)
    · rw [if_pos c7] at H
      have c7b0 := eq_true c7
      have c7b1 : decide (0 ≤ (ji6)) = true := decide_eq_true c7
      clear c7
      by_cases c8 : (ji6 : Int).toNat ≤ 70368744177664
      rotate_left
      · rw [if_neg c8] at H; exact absurd H (by simp)
      rw [if_pos c8] at H
      have c8b0 := eq_true c8
      have c8b1 : decide ((ji6 : Int).toNat ≤ 70368744177664) = true := decide_eq_true c8
      clear c8
      obtain ⟨y506, hy506⟩ : ∃ y_ : List Int, y_ = (List.replicate (ji6 : Int).toNat 0) := ⟨_, rfl⟩
      replace H : (if 0 ≤ (wrap64 ((y506.length : Int) - 1)) then (if (wrap64 ((y506.length : Int) - 1)) < (y506.length : Int) then (n_Sqrt.l0 k t503 (y506.set ((wrap64 ((y506.length : Int) - 1)) : Int).toNat 1)) else (none)) else (none)) = some r := by first | (rw [hy506]; with_reducible exact H) | (have H2_ := bsm H; first | (rw [hy506]; with_reducible exact H2_) | with_reducible exact H2_) | with_reducible exact H | (rw [hy506]; exact H) | exact H
      have Ny506 := zMk hy506
      clear hy506
      obtain ⟨ji9, hji9⟩ : ∃ j_ : Int, (wrap64 ((y506.length : Int) - 1)) = j_ := ⟨_, rfl⟩
      replace H : (if 0 ≤ (ji9) then (if (ji9) < (y506.length : Int) then (n_Sqrt.l0 k t503 (y506.set ((ji9) : Int).toNat 1)) else (none)) else (none)) = some r := by first | (rw [hji9] at H; exact H) | (simp only [hji9] at H ⊢; exact H)
      (try rw [hji9] at A2)
      have hji9w : (IntKind.i64.wrap ((y506.length : Int) - 1)) = ji9 := (i64_w _).trans hji9
      by_cases c10 : 0 ≤ (ji9)
      rotate_left
      · rw [if_neg c10] at H; exact absurd H (by simp)
      rw [if_pos c10] at H
      have c10b0 : decide (0 ≤ (ji9)) = true := decide_eq_true c10
      clear c10
      by_cases c11 : (ji9) < (y506.length : Int)
      rotate_left
      · rw [if_neg c11] at H; exact absurd H (by simp)
      rw [if_pos c11] at H
      have c11b0 : decide ((ji9) < (y506.length : Int)) = true := decide_eq_true c11
      clear c11
      obtain ⟨y509, hy509⟩ : ∃ y_ : List Int, y_ = (y506.set ((ji9) : Int).toNat 1) := ⟨_, rfl⟩
      replace H : (n_Sqrt.l0 k t503 y509) = some r := by first | (rw [hy509]; with_reducible exact H) | (have H2_ := bsm H; first | (rw [hy509]; with_reducible exact H2_) | with_reducible exact H2_) | with_reducible exact H | (rw [hy509]; exact H) | exact H
      have Ny509 := zMk hy509
      clear hy509
      have H' := zMk H
      clear H
      go_enter Tryd.func48, Tryd.ntmps48
      go_wp2_with (first | ((with_reducible refine gate_callee (f := 56) rfl ?_); refine goesL_ (some 10) rfl rfl Tryd.func56 (by kernel_rfl) rfl #[.slice A0 l0.length c0] rfl (by (try simp only [zMa, zMc, zMn]); first |  done|  rfl|  (simp only [zLd, zLt]; rfl)) ?_; (with_reducible refine (n_cut.calls (fun k_ => (P0_ k_ ∨ w.heap.size ≤ k_)) _ _ l0 t503 _ ?side1 A2.out).mono ?_); (case side1 => exact HO0.out); rintro e w13 ⟨v504, rfl, ho0, hb⟩; refine ⟨_, rfl, ?_⟩; replace HO0 := zMk (zVb (by exact uV HO0.out) hb); have HO505 := zMk (zVl (zVm (ok' := fun k_ => (P0_ k_ ∨ w.heap.size ≤ k_)) ho0 (fun k_ hk_ => Or.elim hk_ (fun hs_ => hs_) (fun hn_ => (.inr (Nat.le_trans (zBs (by exact uT HB.out)) hn_))))) (zBs (by exact uT HB.out))); replace HB := zMk (zBt (by exact uT HB.out) hb); obtain ⟨Ao14, co14, eo14⟩ := zVs HO505.out; subst eo14)|((with_reducible refine gate_dst (N := 18) rfl ?_); refine Kd.R_make (Kd.int .u32) _ 58 rfl (N := 18) rfl 22 _ _ rfl ji6 rfl rfl Tryd.underlying22 (.int .u32 0) 4 info58 rfl (by decide) (by omega) 0 (ok := fun _ => True) (okp := fun _ => True) rfl (fun _ hk => hk) trivial (of_decide_eq_true (by first | (with_reducible assumption)|  assumption)) (Nat.le_trans (Nat.mul_le_mul_right _ (of_decide_eq_true (by first | (with_reducible assumption)|  assumption) : ji6.toNat ≤ 70368744177664)) (by omega)) (Below.refl _ _) (Nat.le_refl _) ?_; intro v507 w15 ho16 hb hg_ hnew_; clear hg_ hnew_; (first |  rw [← Ny506.out] at ho16|  (simp only [Int.reduceToNat] at ho16; rw [← Ny506.out] at ho16)); replace HO0 := zMk (zVe (by exact uV HO0.out) (zRz ho16) hb); replace HO505 := zMk (zVe (by exact uV HO505.out) (zRz ho16) hb); have HO508 := zMk (zRl (Kd.R_newM (M := fun k_ => (w.heap.size ≤ k_)) ho16 (zBs (by exact uT HB.out)) (fun k_ h_ => h_)) (zBs (by exact uT HB.out))); replace HB := zMk (zBt (by exact uT HB.out) hb); clear hb ho16; obtain ⟨Ao17, co17, eo17⟩ := zRs HO508.out; subst eo17; have p12 : 0 ≤ ((ji9) : Int) := of_decide_eq_true (by first | (with_reducible assumption)|  assumption); have q12 : ((ji9) : Int) < ((y506.length : Int) : Int) := of_decide_eq_true (by first | (with_reducible assumption)|  assumption); obtain ⟨go12, co12, eo12, gb12, gl12, cl12, HG12⟩ := Kd.R_form HO508.out (by omega); (first |  cases eo12|  (injection eo12 with ea_ en_ ec_; (first |  subst ea_|  (injection ea_ with ea_; subst ea_)); subst ec_; clear en_)); have GB12 := zMk gb12; have IGB12 := ownGe GB12.out; have GG12 := zMk HG12; clear gb12 gl12 HG12; obtain ⟨hx12_0, hf12_0⟩ := Kd.R_celln 0 HO508.out ((ji9) : Int) p12 q12; replace p12 := eq_true p12; replace q12 := eq_true q12; have n_ := zMk (zRm (ok' := (fun k_ => (w.heap.size ≤ k_))) HO508.out (fun k_ hk => hk.1)); clear HO508; have HO508 := n_; clear n_; obtain ⟨hy18_, hz18_⟩ := Kd.R_celln 0 HO508.out ((ji9) : Int) (of_decide_eq_true (by first | (with_reducible assumption)|  assumption)) (of_decide_eq_true (by first | (with_reducible assumption)|  assumption)); have HP18 := Kd.R_putg HO508.out ((ji9) : Int) 1)|((with_reducible refine gate_store (t := 58) (p := 23) rfl ?_); refine store_event (t := 58) (p := 23) (v := ?vo_w19) (w1 := (w15.setCell ⟨go12, ((ji9) : Int).toNat, none⟩ (.int .u32 1))) ?hg ?ho ?hn ?hr ?_; (case ho => rfl); (case hg => rfl); (case hn => rfl); (case hr => first | (go_simp; done)|(go_simp; rfl)|(go_simp; rw [show ∀ x : Int, IntKind.u32.wrap (IntKind.u8.wrap x) = x % 256 from fun x => (by show (x % 256) % 4294967296 = x % 256; omega)])); intro w19 hw; have hg : w15.grownBy w19 (some go12) := (by rw [hw]; exact HP18.2); have hp_ : Kd.R (Kd.int .u32) 58 w19 w.heap.size (fun k_ => (w.heap.size ≤ k_)) (.slice (some ⟨go12, 0, none⟩) y506.length co17) y509 := (by rw [hw, Ny509.out]; exact HP18.1); clear HP18; replace HO0 := zMk (Kd.V_afterv (v := (.slice (some ⟨go12, 0, none⟩) y506.length co17)) (v1 := (.slice (some ⟨go12, 0, none⟩) y506.length co17)) (ok := (fun k_ => (P0_ k_ ∨ w.heap.size ≤ k_))) (by exact uV HO0.out) hg (.inl rfl)); replace HO505 := zMk (Kd.V_afterv (v := (.slice (some ⟨go12, 0, none⟩) y506.length co17)) (v1 := (.slice (some ⟨go12, 0, none⟩) y506.length co17)) (ok := (fun k_ => (P0_ k_ ∨ w.heap.size ≤ k_))) (by exact uV HO505.out) hg (.inl rfl)); replace HO508 := zMk (hp_); replace HB := zMk ((by rw [hw]; exact below_set (HB.out) GB12.out : Below w.heap.size w w19)); clear hg hw hp_))
      go_loopg [3] k (fun kq v3 w' => ∃ (x3_1 : List Int), Aside0 (n_Sqrt.l0 kq t503 x3_1 = some r) ∧ Aside0 (kq ≤ k) ∧ Aside0 (Kd.V (Kd.int .u32) 58 w' w.heap.size (fun k_ => (P0_ k_ ∨ w.heap.size ≤ k_)) (.slice Ao14 t503.length co14) t503) ∧ Aside0 (Kd.V (Kd.int .u32) 58 w' w.heap.size (fun k_ => (P0_ k_ ∨ w.heap.size ≤ k_)) v3 x3_1) ∧ Aside0 (Below w.heap.size w w'))
      case atStart => exact ⟨(y509), H', ⟨Nat.le_refl _⟩, ⟨by (with_reducible repeat (first | apply zVa | apply zVn | apply zVd)); exact zVm HO505.out (fun _ hk => hk.1)⟩, ⟨zVm (Kd.R_V (by exact uR HO508.out)) (fun k_ hk => by first | exact ⟨(.inr (hk.1)), hk.2⟩ | exact (.inr (hk)))⟩, ⟨by exact uT HB.out⟩⟩
      clear H'
      obtain ⟨x3_1, HA, HK1, HO_0, HO_3, HB⟩ := hrel
      rcases gk with _ | k1
      · exact absurd HA.out (by simp [n_Sqrt.l0])
      have H := HA.out
      clear HA
      simp only [n_Sqrt.l0] at H
      replace H := bnd H
      obtain ⟨⟨t510, t513, t516⟩, A200, H⟩ := H
      replace H : ((n_Add.f k1 x3_1 t510).bind fun t517 => ((n_small.f t517 2).bind fun bt520 => ((n_Cmp.f bt520.1 x3_1).bind fun t524 => (if t524 ≥ 0 then ((n_cut.f x3_1).bind fun t525 => (some t525)) else (n_Sqrt.l0 k1 t503 bt520.1))))) = some r := H
      have A20 := zMk A200
      clear A200
      replace H := bnd H
      obtain ⟨t517, A210, H⟩ := H
      have A21 := zMk A210
      clear A210
      replace H := bnd H
      obtain ⟨⟨t520, t523⟩, A220, H⟩ := H
      replace H : ((n_Cmp.f t520 x3_1).bind fun t524 => (if t524 ≥ 0 then ((n_cut.f x3_1).bind fun t525 => (some t525)) else (n_Sqrt.l0 k1 t503 t520))) = some r := H
      have A22 := zMk A220
      clear A220
      replace H := bnd H
      obtain ⟨t524, A230, H⟩ := H
      have A23 := zMk A230
      clear A230
      by_cases c24 : t524 ≥ 0
      · rw [if_pos c24] at H
        have c24b0 : decide (0 ≤ t524) = true := decide_eq_true c24
        clear c24
        replace H := bnd H
        obtain ⟨t525, A250, H⟩ := H
        have A25 := zMk A250
        clear A250
        obtain rfl := zOi H
        obtain ⟨Ao26, co26, eo26⟩ := zVs HO_3.out
        subst eo26
        go_wp2_with (first | ((with_reducible refine gate_callee (f := 32) rfl ?_); refine goesL_ (some 27) rfl rfl Tryd.func32 (by kernel_rfl) rfl #[.slice Ao14 t503.length co14, .slice Ao26 x3_1.length co26] rfl (by (try simp only [zMa, zMc, zMn]); first |  done|  rfl|  (simp only [zLd, zLt]; rfl)) ?_; (with_reducible refine (n_DivMod.calls k1 (fun k_ => (P0_ k_ ∨ w.heap.size ≤ k_)) _ _ t503 (fun k_ => (P0_ k_ ∨ w.heap.size ≤ k_)) _ _ x3_1 t510 t513 t516 _ ?side1 ?side2 A20.out).mono ?_); (case side1 => exact HO_0.out); (case side2 => exact HO_3.out); rintro e w27 ⟨v511, v514, rfl, ho0, ho1, hb⟩; refine ⟨_, rfl, ?_⟩; replace HO_0 := zMk (zVb (by exact uV HO_0.out) hb); replace HO_3 := zMk (zVb (by exact uV HO_3.out) hb); have HO512 := zMk (zVl (zVm (ok' := fun k_ => (P0_ k_ ∨ w.heap.size ≤ k_)) ho0 (fun k_ hk_ => Or.elim hk_ (fun hs_ => Or.elim hs_ (fun hs_ => hs_) (fun hs_ => hs_)) (fun hn_ => (.inr (Nat.le_trans (zBs (by exact uT HB.out)) hn_))))) (zBs (by exact uT HB.out))); have HO515 := zMk (zVl (zVm (ok' := fun k_ => (P0_ k_ ∨ w.heap.size ≤ k_)) ho1 (fun k_ hk_ => Or.elim hk_ (fun hs_ => Or.elim hs_ (fun hs_ => hs_) (fun hs_ => hs_)) (fun hn_ => (.inr (Nat.le_trans (zBs (by exact uT HB.out)) hn_))))) (zBs (by exact uT HB.out))); replace HB := zMk (zBt (by exact uT HB.out) hb); obtain ⟨Ao28, co28, eo28⟩ := zVs HO512.out; subst eo28)|((with_reducible refine gate_callee (f := 33) rfl ?_); refine goesL_ (some 34) rfl rfl Tryd.func33 (by kernel_rfl) rfl #[.slice Ao26 x3_1.length co26, .slice Ao28 t510.length co28] rfl (by (try simp only [zMa, zMc, zMn]); first |  done|  rfl|  (simp only [zLd, zLt]; rfl)) ?_; (with_reducible refine (n_Add.calls k1 (fun k_ => (P0_ k_ ∨ w.heap.size ≤ k_)) _ _ x3_1 (fun k_ => (P0_ k_ ∨ w.heap.size ≤ k_)) _ _ t510 t517 _ ?side1 ?side2 A21.out).mono ?_); (case side1 => exact HO_3.out); (case side2 => exact HO512.out); rintro e w29 ⟨v518, rfl, ho0, hb⟩; refine ⟨_, rfl, ?_⟩; replace HO_0 := zMk (zVb (by exact uV HO_0.out) hb); replace HO_3 := zMk (zVb (by exact uV HO_3.out) hb); replace HO512 := zMk (zVb (by exact uV HO512.out) hb); replace HO515 := zMk (zVb (by exact uV HO515.out) hb); have HO519 := zMk (zVl (zVm (ok' := fun k_ => (P0_ k_ ∨ w.heap.size ≤ k_)) ho0 (fun k_ hk_ => Or.elim hk_ (fun hs_ => Or.elim hs_ (fun hs_ => hs_) (fun hs_ => hs_)) (fun hn_ => (.inr (Nat.le_trans (zBs (by exact uT HB.out)) hn_))))) (zBs (by exact uT HB.out))); replace HB := zMk (zBt (by exact uT HB.out) hb); obtain ⟨Ao30, co30, eo30⟩ := zVs HO519.out; subst eo30)|((with_reducible refine gate_callee (f := 58) rfl ?_); refine goesL_ (some 35) rfl rfl Tryd.func58 (by kernel_rfl) rfl #[.slice Ao30 t517.length co30, .int .u32 2] rfl (by (try simp only [zMa, zMc, zMn]); first |  done|  rfl|  (simp only [zLd, zLt]; rfl)) ?_; (with_reducible refine (n_small.calls _ _ t517 2 t520 t523 _ ?side1 ?side2 A22.out).mono ?_); (case side1 => exact uC (zVr HO519.out).2.2); (case side2 => exact (zVr HO519.out).2.1); rintro e w31 ⟨v521, rfl, ho0, hb⟩; refine ⟨_, rfl, ?_⟩; replace HO_0 := zMk (zVb (by exact uV HO_0.out) hb); replace HO_3 := zMk (zVb (by exact uV HO_3.out) hb); replace HO512 := zMk (zVb (by exact uV HO512.out) hb); replace HO515 := zMk (zVb (by exact uV HO515.out) hb); replace HO519 := zMk (zVb (by exact uV HO519.out) hb); have HO522 := zMk (zVl (zVm (ok' := fun k_ => (P0_ k_ ∨ w.heap.size ≤ k_)) ho0 (fun k_ hk_ => (.inr (Nat.le_trans (zBs (by exact uT HB.out)) hk_)))) (zBs (by exact uT HB.out))); replace HB := zMk (zBt (by exact uT HB.out) hb); obtain ⟨Ao32, co32, eo32⟩ := zVs HO522.out; subst eo32)|((with_reducible refine gate_callee (f := 49) rfl ?_); refine goesL_ (some 40) rfl rfl Tryd.func49 (by kernel_rfl) rfl #[.slice Ao32 t520.length co32, .slice Ao26 x3_1.length co26] rfl (by (try simp only [zMa, zMc, zMn]); first |  done|  rfl|  (simp only [zLd, zLt]; rfl)) ?_; (with_reducible refine (n_Cmp.calls _ _ t520 _ _ x3_1 t524 _ ?side1 ?side2 ?side3 ?side4 A23.out).mono ?_); (case side1 => exact uC (zVr HO522.out).2.2); (case side2 => exact (zVr HO522.out).2.1); (case side3 => exact uC (zVr HO_3.out).2.2); (case side4 => exact (zVr HO_3.out).2.1); rintro e w33 ⟨rfl, hb⟩; refine ⟨_, rfl, ?_⟩; replace HO_0 := zMk (zVb (by exact uV HO_0.out) hb); replace HO_3 := zMk (zVb (by exact uV HO_3.out) hb); replace HO512 := zMk (zVb (by exact uV HO512.out) hb); replace HO515 := zMk (zVb (by exact uV HO515.out) hb); replace HO519 := zMk (zVb (by exact uV HO519.out) hb); replace HO522 := zMk (zVb (by exact uV HO522.out) hb); replace HB := zMk (zBt (by exact uT HB.out) hb))|((with_reducible refine gate_callee (f := 56) rfl ?_); refine goesL_ (some 43) rfl rfl Tryd.func56 (by kernel_rfl) rfl #[.slice Ao26 x3_1.length co26] rfl (by (try simp only [zMa, zMc, zMn]); first |  done|  rfl|  (simp only [zLd, zLt]; rfl)) ?_; (with_reducible refine (n_cut.calls (fun k_ => (P0_ k_ ∨ w.heap.size ≤ k_)) _ _ x3_1 t525 _ ?side1 A25.out).mono ?_); (case side1 => exact HO_3.out); rintro e w34 ⟨v526, rfl, ho0, hb⟩; refine ⟨_, rfl, ?_⟩; replace HO_0 := zMk (zVb (by exact uV HO_0.out) hb); replace HO_3 := zMk (zVb (by exact uV HO_3.out) hb); replace HO512 := zMk (zVb (by exact uV HO512.out) hb); replace HO515 := zMk (zVb (by exact uV HO515.out) hb); replace HO519 := zMk (zVb (by exact uV HO519.out) hb); replace HO522 := zMk (zVb (by exact uV HO522.out) hb); have HO527 := zMk (zVl (zVm (ok' := fun k_ => (P0_ k_ ∨ w.heap.size ≤ k_)) ho0 (fun k_ hk_ => Or.elim hk_ (fun hs_ => hs_) (fun hn_ => (.inr (Nat.le_trans (zBs (by exact uT HB.out)) hn_))))) (zBs (by exact uT HB.out))); replace HB := zMk (zBt (by exact uT HB.out) hb)))
        go_ret
        exact ⟨_, by first | rfl | (simp [errW_none, errW_some] <;> rfl) | (simp only [← hji6, ← hji9]; first | rfl | (simp [errW_none, errW_some] <;> rfl)) | (simp [*, errW_none, errW_some] <;> rfl), by exact uV HO527.out, by exact uT HB.out⟩
      · rw [if_neg c24] at H
        have c24b0 : decide (0 ≤ t524) = false := decide_eq_false c24
        clear c24
        have H' := zMk H
        clear H
        obtain ⟨Ao35, co35, eo35⟩ := zVs HO_3.out
        subst eo35
        go_wp2_with (first | ((with_reducible refine gate_callee (f := 32) rfl ?_); refine goesL_ (some 27) rfl rfl Tryd.func32 (by kernel_rfl) rfl #[.slice Ao14 t503.length co14, .slice Ao35 x3_1.length co35] rfl (by (try simp only [zMa, zMc, zMn]); first |  done|  rfl|  (simp only [zLd, zLt]; rfl)) ?_; (with_reducible refine (n_DivMod.calls k1 (fun k_ => (P0_ k_ ∨ w.heap.size ≤ k_)) _ _ t503 (fun k_ => (P0_ k_ ∨ w.heap.size ≤ k_)) _ _ x3_1 t510 t513 t516 _ ?side1 ?side2 A20.out).mono ?_); (case side1 => exact HO_0.out); (case side2 => exact HO_3.out); rintro e w36 ⟨v511, v514, rfl, ho0, ho1, hb⟩; refine ⟨_, rfl, ?_⟩; replace HO_0 := zMk (zVb (by exact uV HO_0.out) hb); replace HO_3 := zMk (zVb (by exact uV HO_3.out) hb); have HO512 := zMk (zVl (zVm (ok' := fun k_ => (P0_ k_ ∨ w.heap.size ≤ k_)) ho0 (fun k_ hk_ => Or.elim hk_ (fun hs_ => Or.elim hs_ (fun hs_ => hs_) (fun hs_ => hs_)) (fun hn_ => (.inr (Nat.le_trans (zBs (by exact uT HB.out)) hn_))))) (zBs (by exact uT HB.out))); have HO515 := zMk (zVl (zVm (ok' := fun k_ => (P0_ k_ ∨ w.heap.size ≤ k_)) ho1 (fun k_ hk_ => Or.elim hk_ (fun hs_ => Or.elim hs_ (fun hs_ => hs_) (fun hs_ => hs_)) (fun hn_ => (.inr (Nat.le_trans (zBs (by exact uT HB.out)) hn_))))) (zBs (by exact uT HB.out))); replace HB := zMk (zBt (by exact uT HB.out) hb); obtain ⟨Ao37, co37, eo37⟩ := zVs HO512.out; subst eo37)|((with_reducible refine gate_callee (f := 33) rfl ?_); refine goesL_ (some 34) rfl rfl Tryd.func33 (by kernel_rfl) rfl #[.slice Ao35 x3_1.length co35, .slice Ao37 t510.length co37] rfl (by (try simp only [zMa, zMc, zMn]); first |  done|  rfl|  (simp only [zLd, zLt]; rfl)) ?_; (with_reducible refine (n_Add.calls k1 (fun k_ => (P0_ k_ ∨ w.heap.size ≤ k_)) _ _ x3_1 (fun k_ => (P0_ k_ ∨ w.heap.size ≤ k_)) _ _ t510 t517 _ ?side1 ?side2 A21.out).mono ?_); (case side1 => exact HO_3.out); (case side2 => exact HO512.out); rintro e w38 ⟨v518, rfl, ho0, hb⟩; refine ⟨_, rfl, ?_⟩; replace HO_0 := zMk (zVb (by exact uV HO_0.out) hb); replace HO_3 := zMk (zVb (by exact uV HO_3.out) hb); replace HO512 := zMk (zVb (by exact uV HO512.out) hb); replace HO515 := zMk (zVb (by exact uV HO515.out) hb); have HO519 := zMk (zVl (zVm (ok' := fun k_ => (P0_ k_ ∨ w.heap.size ≤ k_)) ho0 (fun k_ hk_ => Or.elim hk_ (fun hs_ => Or.elim hs_ (fun hs_ => hs_) (fun hs_ => hs_)) (fun hn_ => (.inr (Nat.le_trans (zBs (by exact uT HB.out)) hn_))))) (zBs (by exact uT HB.out))); replace HB := zMk (zBt (by exact uT HB.out) hb); obtain ⟨Ao39, co39, eo39⟩ := zVs HO519.out; subst eo39)|((with_reducible refine gate_callee (f := 58) rfl ?_); refine goesL_ (some 35) rfl rfl Tryd.func58 (by kernel_rfl) rfl #[.slice Ao39 t517.length co39, .int .u32 2] rfl (by (try simp only [zMa, zMc, zMn]); first |  done|  rfl|  (simp only [zLd, zLt]; rfl)) ?_; (with_reducible refine (n_small.calls _ _ t517 2 t520 t523 _ ?side1 ?side2 A22.out).mono ?_); (case side1 => exact uC (zVr HO519.out).2.2); (case side2 => exact (zVr HO519.out).2.1); rintro e w40 ⟨v521, rfl, ho0, hb⟩; refine ⟨_, rfl, ?_⟩; replace HO_0 := zMk (zVb (by exact uV HO_0.out) hb); replace HO_3 := zMk (zVb (by exact uV HO_3.out) hb); replace HO512 := zMk (zVb (by exact uV HO512.out) hb); replace HO515 := zMk (zVb (by exact uV HO515.out) hb); replace HO519 := zMk (zVb (by exact uV HO519.out) hb); have HO522 := zMk (zVl (zVm (ok' := fun k_ => (P0_ k_ ∨ w.heap.size ≤ k_)) ho0 (fun k_ hk_ => (.inr (Nat.le_trans (zBs (by exact uT HB.out)) hk_)))) (zBs (by exact uT HB.out))); replace HB := zMk (zBt (by exact uT HB.out) hb); obtain ⟨Ao41, co41, eo41⟩ := zVs HO522.out; subst eo41)|((with_reducible refine gate_callee (f := 49) rfl ?_); refine goesL_ (some 40) rfl rfl Tryd.func49 (by kernel_rfl) rfl #[.slice Ao41 t520.length co41, .slice Ao35 x3_1.length co35] rfl (by (try simp only [zMa, zMc, zMn]); first |  done|  rfl|  (simp only [zLd, zLt]; rfl)) ?_; (with_reducible refine (n_Cmp.calls _ _ t520 _ _ x3_1 t524 _ ?side1 ?side2 ?side3 ?side4 A23.out).mono ?_); (case side1 => exact uC (zVr HO522.out).2.2); (case side2 => exact (zVr HO522.out).2.1); (case side3 => exact uC (zVr HO_3.out).2.2); (case side4 => exact (zVr HO_3.out).2.1); rintro e w42 ⟨rfl, hb⟩; refine ⟨_, rfl, ?_⟩; replace HO_0 := zMk (zVb (by exact uV HO_0.out) hb); replace HO_3 := zMk (zVb (by exact uV HO_3.out) hb); replace HO512 := zMk (zVb (by exact uV HO512.out) hb); replace HO515 := zMk (zVb (by exact uV HO515.out) hb); replace HO519 := zMk (zVb (by exact uV HO519.out) hb); replace HO522 := zMk (zVb (by exact uV HO522.out) hb); replace HB := zMk (zBt (by exact uT HB.out) hb)))
        go_roundg k1
        case measure => have := HK1.out; omega
        case rel => exact ⟨(t520), H', ⟨by have := HK1.out; omega⟩, ⟨by exact uV HO_0.out⟩, ⟨by exact uV HO522.out⟩, ⟨by exact uT HB.out⟩⟩
    · rw [if_neg c7] at H
      exact absurd H (by simp)

theorem root_exists : ∀ n : Nat, ∃ s : Nat, s * s ≤ n ∧ n < (s + 1) * (s + 1)
  | 0 => ⟨0, by decide, by decide⟩
  | n + 1 => by
    obtain ⟨s, h1, h2⟩ := root_exists n
    rcases Nat.lt_or_ge (n + 1) ((s + 1) * (s + 1)) with h | h
    · exact ⟨s, by omega, h⟩
    · refine ⟨s + 1, h, ?_⟩
      have : (s + 1 + 1) * (s + 1 + 1) = (s + 1) * (s + 1) + 2 * s + 3 := by grind
      omega
def IsRoot (s n : Int) : Prop := 0 ≤ s ∧ s * s ≤ n ∧ n < (s + 1) * (s + 1)
theorem IsRoot.exists {n : Int} (h : 0 ≤ n) : ∃ s, IsRoot s n := by
  obtain ⟨m, rfl⟩ := Int.eq_ofNat_of_zero_le h
  obtain ⟨s, h1, h2⟩ := root_exists m
  exact ⟨s, by omega, by exact_mod_cast h1, by exact_mod_cast h2⟩
theorem sq_lt {a b : Int} (ha : 0 ≤ a) (h : a < b) : a * a < b * b := Int.lt_of_le_of_lt (Int.mul_le_mul_of_nonneg_left (Int.le_of_lt h) ha) (Int.mul_lt_mul_of_pos_right h (by omega))
theorem sq_le {a b : Int} (ha : 0 ≤ a) (h : a ≤ b) : a * a ≤ b * b := Int.mul_le_mul h h ha (by omega)
theorem IsRoot.unique {s t n : Int} (h1 : IsRoot s n) (h2 : IsRoot t n) : s = t := by
  obtain ⟨a1, a2, a3⟩ := h1
  obtain ⟨b1, b2, b3⟩ := h2
  rcases Int.lt_trichotomy s t with h | h | h
  · have := sq_le (a := s + 1) (b := t) (by omega) (by omega); omega
  · exact h
  · have := sq_le (a := t + 1) (b := s) (by omega) (by omega); omega
theorem newton_ge {s A x : Int} (hs : IsRoot s A) (hx : 0 < x) : s ≤ (x + A / x) / 2 := by
  obtain ⟨h0, h1, _⟩ := hs
  rcases Int.lt_or_le ((x + A / x) / 2) s with h | h
  · exfalso
    have h2 : x + A / x ≤ 2 * s - 1 := by omega
    have h3 := Int.emod_add_mul_ediv A x
    have h4 := Int.emod_lt_of_pos A hx
    have h5 : x * (A / x + 1) ≤ x * (2 * s - x) := Int.mul_le_mul_of_nonneg_left (by omega) (Int.le_of_lt hx)
    have h6 : x * (2 * s - x) = s * s - (s - x) * (s - x) := by grind
    have h7 : 0 ≤ (s - x) * (s - x) := by
      rcases Int.le_total 0 (s - x) with h | h
      · exact Int.mul_nonneg h h
      · have := Int.mul_nonneg (show 0 ≤ -(s - x) by omega) (show 0 ≤ -(s - x) by omega)
        rw [Int.neg_mul_neg] at this
        exact this
    rw [Int.mul_add, Int.mul_one, h6] at h5
    generalize x * (A / x) = z at *
    generalize s * s = y at *
    generalize (s - x) * (s - x) = w at *
    omega
  · exact h
theorem newton_quot {s A x : Int} (hs : IsRoot s A) (hx : s < x) : A / x ≤ s := by
  obtain ⟨h0, _, h2⟩ := hs
  have h3 : A < (s + 1) * x := Int.lt_of_lt_of_le h2 (Int.mul_le_mul_of_nonneg_left (by omega) (by omega))
  have := Int.ediv_lt_of_lt_mul (show 0 < x by omega) h3
  omega
theorem newton_root {s A : Int} (hs : IsRoot s A) (h1 : 1 ≤ s) : s ≤ A / s := Int.le_ediv_of_mul_le (by omega) hs.2.1
theorem sqrt_l0 (a : List Int) (ha : Limbs a) (la : a.length ≤ 300) (s : Int) (hs : IsRoot s (val a)) (h1 : 1 ≤ s) (N : Nat) (hN : N ≤ 400) :
    ∀ (t k : Nat) (X : List Int), Limbs X → X.length ≤ N → Aside0 (val X < Bp N) → s ≤ val X → Aside0 (val X - s < 2 ^ t) → 500000 + t + 1 ≤ k →
    ∃ r, n_Sqrt.l0 k a X = some r ∧ IsNum r s := by
  intro t
  induction t with
  | zero =>
    intro k X lX hX hXB hsX hE hk
    obtain ⟨k, rfl⟩ : ∃ d, k = d + 1 := ⟨k - 1, by omega⟩
    have hx : val X = s := by have := hE.out; simp at this; omega
    rcases divmod_f a X ha lX (by omega) (by omega) k (by omega) with ⟨h, _⟩ | ⟨_, q, r, e1, q1, _⟩
    · omega
    · have hql : q.length ≤ 400 := by
        have h3 := len_of_lt q1 (m := a.length) (by
          have h4 := val_ltB ha
          have h5 := Int.ediv_le_self (val X) (val_nonneg ha)
          omega)
        omega
      obtain ⟨z, e2, z1, z2⟩ := add_f X q lX q1.limbs (by omega) (by omega) k (by omega) (by omega)
      obtain ⟨y, e3, y1, y2⟩ := small_f z z1.limbs (by omega) 2 (by decide) (by decide)
      rw [q1.eq, hx] at z1
      have hy := newton_root hs h1
      refine ⟨cut X, ?_, by rw [← hx]; exact IsNum.cut lX⟩
      rw [n_Sqrt.l0, e1, zOb, e2, zOb, e3, zOb]
      simp only
      rw [cmp_f y X y1.limbs lX, zOb, y1.eq, z1.eq, hx, if_pos, cut_f]
      · rfl
      · unfold cmpI
        rw [if_neg (by omega)]
        split <;> omega
  | succ t ih =>
    intro k X lX hX hXB hsX hE hk
    obtain ⟨k, rfl⟩ : ∃ d, k = d + 1 := ⟨k - 1, by omega⟩
    rcases divmod_f a X ha lX (by omega) (by omega) k (by omega) with ⟨h, _⟩ | ⟨hpos, q, r, e1, q1, _⟩
    · omega
    · have hql : q.length ≤ 400 := by
        have h3 := len_of_lt q1 (m := a.length) (by
          have h4 := val_ltB ha
          have h5 := Int.ediv_le_self (val X) (val_nonneg ha)
          omega)
        omega
      obtain ⟨z, e2, z1, z2⟩ := add_f X q lX q1.limbs (by omega) (by omega) k (by omega) (by omega)
      obtain ⟨y, e3, y1, y2⟩ := small_f z z1.limbs (by omega) 2 (by decide) (by decide)
      rw [q1.eq] at z1
      rw [z1.eq] at y1
      have hge := newton_ge hs hpos
      have hl0 : n_Sqrt.l0 (k + 1) a X = if cmpI ((val X + val a / val X) / 2) (val X) ≥ 0 then some (cut X) else n_Sqrt.l0 k a y := by
        rw [n_Sqrt.l0, e1, zOb, e2, zOb, e3, zOb]
        simp only
        rw [cmp_f y X y1.limbs lX, zOb, y1.eq, cut_f]
        rfl
      rw [hl0]
      rcases Int.lt_or_le s (val X) with hlt | hle
      · have hq := newton_quot hs hlt
        generalize val a / val X = u at *
        have hyx : (val X + u) / 2 < val X := by omega
        have hc : ¬ cmpI ((val X + u) / 2) (val X) ≥ 0 := by
          unfold cmpI
          rw [if_pos hyx]
          decide
        rw [if_neg hc]
        have hyB : (val X + u) / 2 < Bp N := Int.lt_trans hyx hXB.out
        refine ih k y y1.limbs (len_of_lt y1 hyB) ⟨by rw [y1.eq]; exact hyB⟩ (by rw [y1.eq]; exact hge) ⟨?_⟩ (by omega)
        rw [y1.eq]
        have h9 := hE.out
        rw [Int.pow_succ] at h9
        generalize (2 : Int) ^ t = p at *
        omega
      · have hx : val X = s := by omega
        have hy := newton_root hs h1
        rw [← hx] at hy
        have hc : cmpI ((val X + val a / val X) / 2) (val X) ≥ 0 := by
          unfold cmpI
          rw [if_neg (by omega)]
          split <;> omega
        rw [if_pos hc]
        exact ⟨cut X, rfl, by rw [← hx]; exact IsNum.cut lX⟩
theorem Bp_two (n : Nat) : Bp n = 2 ^ (32 * n) := by unfold Bp; rw [Int.pow_mul]; rfl
theorem sqrt_f (a : List Int) (ha : Limbs a) (la : a.length ≤ 300) (k : Nat) (hk : 600000 ≤ k) : ∃ r s, n_Sqrt.f k a = some r ∧ IsNum r s ∧ IsRoot s (val a) := by
  have ca := cut_length a
  unfold n_Sqrt.f
  rw [cut_f, zOb]
  by_cases h0 : ((cut a).length : Int) = 0
  · have h1 : cut a = [] := List.eq_nil_of_length_eq_zero (by omega)
    have hv : val a = 0 := by rw [← cut_val a, h1]; rfl
    exact ⟨[], 0, by rw [if_pos h0], IsNum.nil, by rw [hv]; exact ⟨by decide, by decide, by decide⟩⟩
  · have hne : cut a ≠ [] := fun h => h0 (by rw [h]; rfl)
    have hap := val_pos (cut_limbs ha) (cut_trim a) hne
    obtain ⟨s, hs⟩ := IsRoot.exists (val_nonneg (cut_limbs ha))
    have hs1 : 1 ≤ s := by
      rcases Int.lt_or_le 0 s with h | h
      · omega
      · exfalso
        obtain ⟨b1, b2, b3⟩ := hs
        have : s = 0 := by omega
        subst this
        omega
    obtain ⟨m, hm⟩ : ∃ m, m = (cut a).length / 2 + 1 := ⟨_, rfl⟩
    have hm2 : Aside0 (wrap64 ((wrap64 (((cut a).length : Int) / 2)) + 2) = ((m + 1 : Nat) : Int)) := ⟨by
      have h2 : wrap64 (((cut a).length : Int) / 2) = (((cut a).length / 2 : Nat) : Int) := w64e (by omega) (by omega)
      rw [h2]
      exact w64e (by omega) (by omega)⟩
    have hm3 : Aside0 (wrap64 (((List.replicate (m + 1) (0 : Int)).length : Int) - 1) = ((m : Nat) : Int)) := ⟨by rw [List.length_replicate]; exact w64e (by omega) (by omega)⟩
    rw [if_neg h0, hm2.out, if_pos (by omega), zTn, if_pos (by omega), zOb, hm3.out, if_pos (by omega), if_pos (by rw [List.length_replicate]; omega), zTn]
    clear hm2 hm3
    have lX : Limbs ((List.replicate (m + 1) (0 : Int)).set m 1) := (limbs_replicate _).set _ (by decide) (by decide)
    have vX : val ((List.replicate (m + 1) (0 : Int)).set m 1) = Bp m := by
      rw [val_setB _ _ _ (by rw [List.length_replicate]; omega), val_replicate, zeros_getD]
      omega
    have hsq : val (cut a) < Bp m * Bp m := by
      have h1 := val_ltB (cut_limbs ha)
      have h2 : Bp (cut a).length ≤ Bp (m + m) := pow_upB (by omega)
      rw [Bp_add] at h2
      exact Int.lt_of_lt_of_le h1 h2
    have hsB : s < Bp m := by
      rcases Int.lt_or_le s (Bp m) with h | h
      · exact h
      · have h1 := sq_le (Int.le_of_lt (Bp_pos m)) h
        have h2 := hs.2.1
        omega
    obtain ⟨r, r1, r2⟩ := sqrt_l0 (cut a) (cut_limbs ha) (by omega) s hs hs1 (m + 1) (by omega) (32 * m) k ((List.replicate (m + 1) (0 : Int)).set m 1) lX (by rw [List.length_set, List.length_replicate]; omega) ⟨by
        rw [vX, Bp_succ]
        have := Bp_pos m
        omega⟩ (by rw [vX]; omega) ⟨by rw [vX, Bp_two]; omega⟩ (by omega)
    rw [cut_val] at hs
    exact ⟨r, s, r1, r2, hs⟩
@[irreducible] def Tp (n : Nat) : Int := (2 : Int) ^ n
theorem Tp_zero : Tp 0 = 1 := by unfold Tp; rfl
theorem Tp_succ (n : Nat) : Tp (n + 1) = Tp n * 2 := by unfold Tp; exact Int.pow_succ 2 n
theorem Tp_add (m n : Nat) : Tp (m + n) = Tp m * Tp n := by unfold Tp; exact Int.pow_add 2 m n
theorem Tp_pos (n : Nat) : 0 < Tp n := by unfold Tp; exact Int.pow_pos (by decide)
theorem bval_set (l : List Int) : ∀ (n : Nat) (v : Int), n < l.length → bval (l.set n v) = bval l + Tp n * (v - l.getD n 0) := by
  induction l with
  | nil => intro n v h; exact absurd h (by simp)
  | cons x l ih =>
    intro n v h
    rcases n with _ | n
    · simp only [zSb, bval, List.getD_cons_zero, Tp_zero]; omega
    · have := ih n v (by simpa using h)
      simp only [zSc, bval, List.getD_cons_succ, this, Tp_succ]
      grind
theorem Bits.set {l : List Int} (h : Bits l) (n : Nat) {v : Int} (hv : v = 0 ∨ v = 1) : Bits (l.set n v) := fun x hx => by
  rcases List.mem_or_eq_of_mem_set hx with hx | rfl
  · exact h x hx
  · exact hv
theorem bits_zero (n : Nat) : Bits (List.replicate n 0) := fun x hx => .inl (List.eq_of_mem_replicate hx)
theorem bval_zero (n : Nat) : bval (List.replicate n 0) = 0 := by
  induction n with
  | zero => rfl
  | succ n ih => simp only [List.replicate_succ, bval, ih]; rfl
theorem bval_lt {l : List Int} (h : Bits l) : bval l < Tp l.length := by unfold Tp; exact (bval_bounds h).2

def r1_Sqrt.l0 : Nat → List Int → List Int → Int → Option (List Int)
  | 0, _, _, _ => none
  | k + 1, x0, x3, x4 => if x4 ≥ 0 then (if 0 ≤ x4 then (if x4 < (x3.length : Int) then ((some (x3.set (x4 : Int).toNat 1 : List Int)).bind fun y1008 => ((r1_limbs.f k y1008).bind fun t1009 => ((r1_Mul.f k t1009 t1009).bind fun t1012 => ((r1_Cmp.f k t1012 x0).bind fun t1015 => (if t1015 > 0 then (r1_Sqrt.l0 k x0 (y1008.set (x4 : Int).toNat 0) (wrap64 (x4 - 1))) else (r1_Sqrt.l0 k x0 y1008 (wrap64 (x4 - 1)))))))) else (none)) else (none)) else ((r1_limbs.f k x3).bind fun t1005 => (some t1005))
def r1_Sqrt.f (k : Nat) (l0 : List Int) : Option (List Int) := (r1_bits.f k l0).bind fun t999 => (if 0 ≤ (wrap64 ((wrap64 ((t999.length : Int) / 2)) + 1)) then (if (wrap64 ((wrap64 ((t999.length : Int) / 2)) + 1) : Int).toNat ≤ 281474976710656 then ((some (List.replicate (wrap64 ((wrap64 ((t999.length : Int) / 2)) + 1) : Int).toNat 0 : List Int)).bind fun y1002 => (r1_Sqrt.l0 k l0 y1002 (wrap64 ((y1002.length : Int) - 1)))) else (none)) else (none))
theorem r1_Sqrt.calls (k : Nat) (A0 : Option Addr) (c0 : Nat) (l0 : List Int) (r : List Int) (w : World) (hr0 : Kd.C (Kd.int .u32) w A0 l0.length l0) (hc0 : l0.length ≤ c0) (h : r1_Sqrt.f k l0 = some r) :
    Calls Tryd.prog 50 #[.slice A0 l0.length c0] w fun e w' => ∃ v0_ : Value, e = .returned (v0_) ∧ Kd.R (Kd.int .u32) 58 w' w.heap.size (fun _ => True) v0_ r ∧ Below w.heap.size w w' := by
  have HR0 := zMk hr0
  have HC0 := zMk hc0
  clear hr0 hc0
  have HB := zMk (Below.refl w.heap.size w)
  have H : ((r1_bits.f k l0).bind fun t999 => (if 0 ≤ (wrap64 ((wrap64 ((t999.length : Int) / 2)) + 1)) then (if (wrap64 ((wrap64 ((t999.length : Int) / 2)) + 1) : Int).toNat ≤ 281474976710656 then ((some (List.replicate (wrap64 ((wrap64 ((t999.length : Int) / 2)) + 1) : Int).toNat 0 : List Int)).bind fun y1002 => (r1_Sqrt.l0 k l0 y1002 (wrap64 ((y1002.length : Int) - 1)))) else (none)) else (none))) = some r := h
  clear h
  replace H := bnd H
  obtain ⟨t999, A20, H⟩ := H
  have A2 := zMk A20
  clear A20
  obtain ⟨ji3, hji3⟩ : ∃ j_ : Int, (wrap64 ((wrap64 ((t999.length : Int) / 2)) + 1)) = j_ := ⟨_, rfl⟩
  replace H : (if 0 ≤ (ji3) then (if (ji3 : Int).toNat ≤ 281474976710656 then ((some (List.replicate (ji3 : Int).toNat 0 : List Int)).bind fun y1002 => (r1_Sqrt.l0 k l0 y1002 (wrap64 ((y1002.length : Int) - 1)))) else (none)) else (none)) = some r := by first | (rw [hji3] at H; exact H) | (simp only [hji3] at H ⊢; exact H)
  (try rw [hji3] at A2)
  have hji3w : (IntKind.i64.wrap ((wrap64 ((t999.length : Int) / 2)) + 1)) = ji3 := (i64_w _).trans hji3
  by_cases c4 : 0 ≤ (ji3)
  · rw [if_pos c4] at H
    have c4b0 := eq_true c4
    have c4b1 : decide (0 ≤ (ji3)) = true := decide_eq_true c4
    clear c4
    by_cases c5 : (ji3 : Int).toNat ≤ 281474976710656
    rotate_left
    · rw [if_neg c5] at H; exact absurd H (by simp)
    rw [if_pos c5] at H
    have c5b0 := eq_true c5
    have c5b1 : decide ((ji3 : Int).toNat ≤ 281474976710656) = true := decide_eq_true c5
    clear c5
    obtain ⟨y1002, hy1002⟩ : ∃ y_ : List Int, y_ = (List.replicate (ji3 : Int).toNat 0) := ⟨_, rfl⟩
    replace H : (r1_Sqrt.l0 k l0 y1002 (wrap64 ((y1002.length : Int) - 1))) = some r := by first | (rw [hy1002]; with_reducible exact H) | (have H2_ := bsm H; first | (rw [hy1002]; with_reducible exact H2_) | with_reducible exact H2_) | with_reducible exact H | (rw [hy1002]; exact H) | exact H
    have Ny1002 := zMk hy1002
    clear hy1002
    have H' := zMk H
    clear H
    go_enter Tryd.func50, Tryd.ntmps50
    go_wp2_with (first | ((with_reducible refine gate_callee (f := 64) rfl ?_); refine goesL_ (some 7) rfl rfl Tryd.func64 (by kernel_rfl) rfl #[.slice A0 l0.length c0] rfl (by (try simp only [zMa, zMc, zMn]); first |  done|  rfl|  (simp only [zLd, zLt]; rfl)) ?_; (with_reducible refine (r1_bits.calls k _ _ l0 t999 _ ?side1 ?side2 A2.out).mono ?_); (case side1 => repeat (first |  exact HR0.out|  (with_reducible refine zCa ?_ _)|(with_reducible refine zCn ?_ _)|(with_reducible refine zCd ?_))); (case side2 => exact HC0.out); rintro e w6 ⟨v1000, rfl, ho0, hb⟩; refine ⟨_, rfl, ?_⟩; have HO1001 := zMk (zRl ho0 (zBs (by exact uT HB.out))); replace HB := zMk (zBt (by exact uT HB.out) hb); obtain ⟨Ao7, co7, eo7⟩ := zRs HO1001.out; subst eo7)|((with_reducible refine gate_dst (N := 11) rfl ?_); refine Kd.R_make (Kd.int .u8) _ 5 rfl (N := 11) rfl 67 _ _ rfl ji3 rfl rfl Tryd.underlying67 (.int .u8 0) 1 info5 rfl (by decide) (by omega) 0 (ok := fun _ => True) (okp := fun _ => True) rfl (fun _ hk => hk) trivial (of_decide_eq_true (by first | (with_reducible assumption)|  assumption)) (Nat.le_trans (Nat.mul_le_mul_right _ (of_decide_eq_true (by first | (with_reducible assumption)|  assumption) : ji3.toNat ≤ 281474976710656)) (by omega)) (Below.refl _ _) (Nat.le_refl _) ?_; intro v1003 w8 ho9 hb hg_ hnew_; clear hg_ hnew_; (first |  rw [← Ny1002.out] at ho9|  (simp only [Int.reduceToNat] at ho9; rw [← Ny1002.out] at ho9)); have HO1004 := zMk (zRl (zRw ho9 (zRt (by exact uR HO1001.out))) (zBs (by exact uT HB.out))); replace HO1001 := zMk (zRe (by exact uR HO1001.out) (zRz ho9) hb); replace HB := zMk (zBt (by exact uT HB.out) hb); clear hb ho9; obtain ⟨Ao10, co10, eo10⟩ := zRs HO1004.out; subst eo10))
    go_loopg [4] k (fun kq v4 w' => ∃ (x3_1 : List Int) (x4_1 : Int), v4 = .int .i64 x4_1 ∧ Aside0 (r1_Sqrt.l0 kq l0 x3_1 x4_1 = some r) ∧ Aside0 (kq ≤ k) ∧ Aside0 (Kd.R (Kd.int .u8) 5 w' w.heap.size (fun _ => True) (.slice Ao10 y1002.length co10) x3_1) ∧ Aside0 (Below w.heap.size w w'))
    case atStart => exact ⟨(y1002), (wrap64 ((y1002.length : Int) - 1)), (by first | rfl | (simp; done) | (simp [*]; done)), H', ⟨Nat.le_refl _⟩, ⟨by (with_reducible repeat (first | apply zRa | apply zRn | apply zRd)); exact zRm HO1004.out (fun _ hk => trivial)⟩, ⟨by exact uT HB.out⟩⟩
    clear H'
    obtain ⟨x3_1, x4_1, rfl, HA, HK1, HO_3, HB⟩ := hrel
    have hl3_1 := (zRr HO_3.out).1
    rw [hl3_1] at HO_3
    (try simp only [hl3_1])
    rcases gk with _ | k1
    · exact absurd HA.out (by simp [r1_Sqrt.l0])
    have H := HA.out
    clear HA
    simp only [r1_Sqrt.l0] at H
    by_cases c11 : x4_1 ≥ 0
    · rw [if_pos c11] at H
      have c11b0 : decide (0 ≤ x4_1) = true := decide_eq_true c11
      (try (have c11b0l := c11b0; simp only [hl3_1] at c11b0l))
      clear c11
      by_cases c12 : 0 ≤ x4_1
      rotate_left
      · rw [if_neg c12] at H; exact absurd H (by simp)
      rw [if_pos c12] at H
      have c12b0 : decide (0 ≤ x4_1) = true := decide_eq_true c12
      (try (have c12b0l := c12b0; simp only [hl3_1] at c12b0l))
      clear c12
      by_cases c13 : x4_1 < (x3_1.length : Int)
      rotate_left
      · rw [if_neg c13] at H; exact absurd H (by simp)
      rw [if_pos c13] at H
      have c13b0 : decide (x4_1 < (x3_1.length : Int)) = true := decide_eq_true c13
      (try (have c13b0l := c13b0; simp only [hl3_1] at c13b0l))
      clear c13
      obtain ⟨y1008, hy1008⟩ : ∃ y_ : List Int, y_ = (x3_1.set (x4_1 : Int).toNat 1) := ⟨_, rfl⟩
      replace H : ((r1_limbs.f k1 y1008).bind fun t1009 => ((r1_Mul.f k1 t1009 t1009).bind fun t1012 => ((r1_Cmp.f k1 t1012 l0).bind fun t1015 => (if t1015 > 0 then (r1_Sqrt.l0 k1 l0 (y1008.set (x4_1 : Int).toNat 0) (wrap64 (x4_1 - 1))) else (r1_Sqrt.l0 k1 l0 y1008 (wrap64 (x4_1 - 1))))))) = some r := by first | (rw [hy1008]; with_reducible exact H) | (have H2_ := bsm H; first | (rw [hy1008]; with_reducible exact H2_) | with_reducible exact H2_) | with_reducible exact H | (rw [hy1008]; exact H) | exact H
      have Ny1008 := zMk hy1008
      clear hy1008
      replace H := bnd H
      obtain ⟨t1009, A150, H⟩ := H
      have A15 := zMk A150
      clear A150
      replace H := bnd H
      obtain ⟨t1012, A160, H⟩ := H
      have A16 := zMk A160
      clear A160
      replace H := bnd H
      obtain ⟨t1015, A170, H⟩ := H
      have A17 := zMk A170
      clear A170
      by_cases c18 : t1015 > 0
      · rw [if_pos c18] at H
        have c18b0 : decide (0 < t1015) = true := decide_eq_true c18
        (try (have c18b0l := c18b0; simp only [hl3_1] at c18b0l))
        clear c18
        obtain ⟨y1016, hy1016⟩ : ∃ y_ : List Int, y_ = (y1008.set (x4_1 : Int).toNat 0) := ⟨_, rfl⟩
        replace H : (r1_Sqrt.l0 k1 l0 y1016 (wrap64 (x4_1 - 1))) = some r := by first | (rw [hy1016]; with_reducible exact H) | (have H2_ := bsm H; first | (rw [hy1016]; with_reducible exact H2_) | with_reducible exact H2_) | with_reducible exact H | (rw [hy1016]; exact H) | exact H
        have Ny1016 := zMk hy1016
        clear hy1016
        have H' := zMk H
        clear H
        have p14 : 0 ≤ (x4_1 : Int) := of_decide_eq_true (by assumption)
        have q14 : (x4_1 : Int) < ((x3_1.length : Int) : Int) := of_decide_eq_true (by assumption)
        obtain ⟨go14, co14, eo14, gb14, gl14, cl14, HG14⟩ := Kd.R_form HO_3.out (by omega)
        (first |  cases eo14|  (injection eo14 with ea_ en_ ec_; (first |  subst ea_|  (injection ea_ with ea_; subst ea_)); subst ec_; clear en_))
        have GB14 := zMk gb14
        have IGB14 := ownGe GB14.out
        have GG14 := zMk HG14
        clear gb14 gl14 HG14
        obtain ⟨hx14_0, hf14_0⟩ := Kd.R_celln 0 HO_3.out (x4_1 : Int) p14 q14
        replace p14 := eq_true p14
        replace q14 := eq_true q14
        have HP20 := Kd.R_putg HO_3.out (x4_1 : Int) 1
        go_wp2_with (first | ((with_reducible refine gate_store (t := 5) (p := 21) rfl ?_); refine store_event (t := 5) (p := 21) (v := ?vo_w21) (w1 := (wr.setCell ⟨go14, (x4_1 : Int).toNat, none⟩ (.int .u8 1))) ?hg ?ho ?hn ?hr ?_; (case ho => rfl); (case hg => rfl); (case hn => rfl); (case hr => first | (go_simp; done)|(go_simp; rfl)|(go_simp; rw [show ∀ x : Int, IntKind.u32.wrap (IntKind.u8.wrap x) = x % 256 from fun x => (by show (x % 256) % 4294967296 = x % 256; omega)])); intro w21 hw; have hg : wr.grownBy w21 (some go14) := (by rw [hw]; exact HP20.2); have hp_ : Kd.R (Kd.int .u8) 5 w21 w.heap.size (fun _ => True) (.slice (some ⟨go14, 0, none⟩) x3_1.length co10) y1008 := (by rw [hw, Ny1008.out]; exact HP20.1); clear HP20; replace HO_3 := zMk (hp_); replace HB := zMk ((by rw [hw]; exact below_set (HB.out) GB14.out : Below w.heap.size w w21)); clear hg hw hp_)|((with_reducible refine gate_callee (f := 65) rfl ?_); refine goesL_ (some 23) rfl rfl Tryd.func65 (by kernel_rfl) rfl #[.slice (some ⟨go14, 0, none⟩) y1008.length co10] rfl (by (try simp only [zMa, zMc, zMn]); first |  done|  (rw [show y1008.length = x3_1.length from (zRr HO_3.out).1.symm] <;> rfl)|  rfl|  (simp only [zLd, zLt]; rfl)) ?_; (with_reducible refine (r1_limbs.calls k1 _ _ y1008 t1009 _ ?side1 ?side2 A15.out).mono ?_); (case side1 => exact uC (zRr HO_3.out).2.2); (case side2 => rw [show y1008.length = x3_1.length from (zRr HO_3.out).1.symm]; exact (zRr HO_3.out).2.1); rintro e w22 ⟨v1010, rfl, ho0, hb⟩; refine ⟨_, rfl, ?_⟩; replace HO_3 := zMk (zRb (by exact uR HO_3.out) hb); have HO1011 := zMk (zRl ho0 (zBs (by exact uT HB.out))); replace HB := zMk (zBt (by exact uT HB.out) hb); obtain ⟨Ao23, co23, eo23⟩ := zRs HO1011.out; subst eo23)|((with_reducible refine gate_callee (f := 46) rfl ?_); refine goesL_ (some 26) rfl rfl Tryd.func46 (by kernel_rfl) rfl #[.slice Ao23 t1009.length co23, .slice Ao23 t1009.length co23] rfl (by (try simp only [zMa, zMc, zMn]); first |  done|  rfl|  (simp only [zLd, zLt]; rfl)) ?_; (with_reducible refine (r1_Mul.calls k1 _ _ t1009 _ _ t1009 t1012 _ ?side1 ?side2 ?side3 ?side4 A16.out).mono ?_); (case side1 => exact uC (zRr HO1011.out).2.2); (case side2 => exact (zRr HO1011.out).2.1); (case side3 => exact uC (zRr HO1011.out).2.2); (case side4 => exact (zRr HO1011.out).2.1); rintro e w24 ⟨v1013, rfl, ho0, hb⟩; refine ⟨_, rfl, ?_⟩; replace HO_3 := zMk (zRb (by exact uR HO_3.out) hb); have HO1014 := zMk (zRl (zRw ho0 (zRt (by exact uR HO1011.out))) (zBs (by exact uT HB.out))); replace HO1011 := zMk (zRe (by exact uR HO1011.out) (zRz ho0) hb); replace HB := zMk (zBt (by exact uT HB.out) hb); obtain ⟨Ao25, co25, eo25⟩ := zRs HO1014.out; subst eo25)|((with_reducible refine gate_callee (f := 42) rfl ?_); refine goesL_ (some 28) rfl rfl Tryd.func42 (by kernel_rfl) rfl #[.slice Ao25 t1012.length co25, .slice A0 l0.length c0] rfl (by (try simp only [zMa, zMc, zMn]); first |  done|  rfl|  (simp only [zLd, zLt]; rfl)) ?_; (with_reducible refine (r1_Cmp.calls k1 _ _ t1012 _ _ l0 t1015 _ ?side1 ?side2 ?side3 ?side4 A17.out).mono ?_); (case side1 => exact uC (zRr HO1014.out).2.2); (case side2 => exact (zRr HO1014.out).2.1); (case side3 => repeat (first |  exact (Kd.C_below HR0.out HB.out)|(with_reducible refine zCa ?_ _)|(with_reducible refine zCn ?_ _)|(with_reducible refine zCd ?_))); (case side4 => exact HC0.out); rintro e w26 ⟨rfl, hb⟩; refine ⟨_, rfl, ?_⟩; replace HO_3 := zMk (zRb (by exact uR HO_3.out) hb); replace HO1011 := zMk (zRb (by exact uR HO1011.out) hb); replace HO1014 := zMk (zRb (by exact uR HO1014.out) hb); replace HB := zMk (zBt (by exact uT HB.out) hb); have p19 : 0 ≤ (x4_1 : Int) := of_decide_eq_true (by first | (with_reducible assumption)|  assumption); have q19 : (x4_1 : Int) < ((x3_1.length : Int) : Int) := of_decide_eq_true (by first | (with_reducible assumption)|  assumption); obtain ⟨hx19_0, hf19_0⟩ := Kd.R_celln 0 HO_3.out (x4_1 : Int) p19 q19; replace p19 := eq_true p19; replace q19 := eq_true q19; obtain ⟨hy27_, hz27_⟩ := Kd.R_celln 0 HO_3.out (x4_1 : Int) (of_decide_eq_true (by first | (with_reducible assumption)|  assumption)) (of_decide_eq_true (by first | (with_reducible assumption)|  assumption)); have HP27 := Kd.R_putg HO_3.out (x4_1 : Int) 0)|((with_reducible refine gate_store (t := 5) (p := 32) rfl ?_); refine store_event (t := 5) (p := 32) (v := ?vo_w28) (w1 := (w26.setCell ⟨go14, (x4_1 : Int).toNat, none⟩ (.int .u8 0))) ?hg ?ho ?hn ?hr ?_; (case ho => rfl); (case hg => rfl); (case hn => rfl); (case hr => first | (go_simp; done)|(go_simp; rfl)|(go_simp; rw [show ∀ x : Int, IntKind.u32.wrap (IntKind.u8.wrap x) = x % 256 from fun x => (by show (x % 256) % 4294967296 = x % 256; omega)])); intro w28 hw; have hg : w26.grownBy w28 (some go14) := (by rw [hw]; exact HP27.2); have hp_ : Kd.R (Kd.int .u8) 5 w28 w.heap.size (fun _ => True) (.slice (some ⟨go14, 0, none⟩) x3_1.length co10) y1016 := (by rw [hw, Ny1016.out]; exact HP27.1); clear HP27; replace HO1011 := zMk (Kd.R_over' (v := (.slice (some ⟨go14, 0, none⟩) x3_1.length co10)) (by exact uR HO1011.out) (Kd.R_typed HO_3.out) (by decide) hg); replace HO1014 := zMk (Kd.R_over' (v := (.slice (some ⟨go14, 0, none⟩) x3_1.length co10)) (by exact uR HO1014.out) (Kd.R_typed HO_3.out) (by decide) hg); replace HO_3 := zMk (hp_); replace HB := zMk ((by rw [hw]; exact below_set (HB.out) GB14.out : Below w.heap.size w w28)); clear hg hw hp_))
        (try simp only [← hl3_1])
        go_roundg k1
        case measure => have := HK1.out; omega
        case rel => exact ⟨(y1016), (wrap64 (x4_1 - 1)), (by first | rfl | (simp; done) | (simp [*]; done)), H', ⟨by have := HK1.out; omega⟩, ⟨by (try simp only [hl3_1]); exact uR HO_3.out⟩, ⟨by exact uT HB.out⟩⟩
      · rw [if_neg c18] at H
        have c18b0 : decide (0 < t1015) = false := decide_eq_false c18
        (try (have c18b0l := c18b0; simp only [hl3_1] at c18b0l))
        clear c18
        have H' := zMk H
        clear H
        have p14 : 0 ≤ (x4_1 : Int) := of_decide_eq_true (by assumption)
        have q14 : (x4_1 : Int) < ((x3_1.length : Int) : Int) := of_decide_eq_true (by assumption)
        obtain ⟨go14, co14, eo14, gb14, gl14, cl14, HG14⟩ := Kd.R_form HO_3.out (by omega)
        (first |  cases eo14|  (injection eo14 with ea_ en_ ec_; (first |  subst ea_|  (injection ea_ with ea_; subst ea_)); subst ec_; clear en_))
        have GB14 := zMk gb14
        have IGB14 := ownGe GB14.out
        have GG14 := zMk HG14
        clear gb14 gl14 HG14
        obtain ⟨hx14_0, hf14_0⟩ := Kd.R_celln 0 HO_3.out (x4_1 : Int) p14 q14
        replace p14 := eq_true p14
        replace q14 := eq_true q14
        have HP29 := Kd.R_putg HO_3.out (x4_1 : Int) 1
        go_wp2_with (first | ((with_reducible refine gate_store (t := 5) (p := 21) rfl ?_); refine store_event (t := 5) (p := 21) (v := ?vo_w30) (w1 := (wr.setCell ⟨go14, (x4_1 : Int).toNat, none⟩ (.int .u8 1))) ?hg ?ho ?hn ?hr ?_; (case ho => rfl); (case hg => rfl); (case hn => rfl); (case hr => first | (go_simp; done)|(go_simp; rfl)|(go_simp; rw [show ∀ x : Int, IntKind.u32.wrap (IntKind.u8.wrap x) = x % 256 from fun x => (by show (x % 256) % 4294967296 = x % 256; omega)])); intro w30 hw; have hg : wr.grownBy w30 (some go14) := (by rw [hw]; exact HP29.2); have hp_ : Kd.R (Kd.int .u8) 5 w30 w.heap.size (fun _ => True) (.slice (some ⟨go14, 0, none⟩) x3_1.length co10) y1008 := (by rw [hw, Ny1008.out]; exact HP29.1); clear HP29; replace HO_3 := zMk (hp_); replace HB := zMk ((by rw [hw]; exact below_set (HB.out) GB14.out : Below w.heap.size w w30)); clear hg hw hp_)|((with_reducible refine gate_callee (f := 65) rfl ?_); refine goesL_ (some 23) rfl rfl Tryd.func65 (by kernel_rfl) rfl #[.slice (some ⟨go14, 0, none⟩) y1008.length co10] rfl (by (try simp only [zMa, zMc, zMn]); first |  done|  (rw [show y1008.length = x3_1.length from (zRr HO_3.out).1.symm] <;> rfl)|  rfl|  (simp only [zLd, zLt]; rfl)) ?_; (with_reducible refine (r1_limbs.calls k1 _ _ y1008 t1009 _ ?side1 ?side2 A15.out).mono ?_); (case side1 => exact uC (zRr HO_3.out).2.2); (case side2 => rw [show y1008.length = x3_1.length from (zRr HO_3.out).1.symm]; exact (zRr HO_3.out).2.1); rintro e w31 ⟨v1010, rfl, ho0, hb⟩; refine ⟨_, rfl, ?_⟩; replace HO_3 := zMk (zRb (by exact uR HO_3.out) hb); have HO1011 := zMk (zRl ho0 (zBs (by exact uT HB.out))); replace HB := zMk (zBt (by exact uT HB.out) hb); obtain ⟨Ao32, co32, eo32⟩ := zRs HO1011.out; subst eo32)|((with_reducible refine gate_callee (f := 46) rfl ?_); refine goesL_ (some 26) rfl rfl Tryd.func46 (by kernel_rfl) rfl #[.slice Ao32 t1009.length co32, .slice Ao32 t1009.length co32] rfl (by (try simp only [zMa, zMc, zMn]); first |  done|  rfl|  (simp only [zLd, zLt]; rfl)) ?_; (with_reducible refine (r1_Mul.calls k1 _ _ t1009 _ _ t1009 t1012 _ ?side1 ?side2 ?side3 ?side4 A16.out).mono ?_); (case side1 => exact uC (zRr HO1011.out).2.2); (case side2 => exact (zRr HO1011.out).2.1); (case side3 => exact uC (zRr HO1011.out).2.2); (case side4 => exact (zRr HO1011.out).2.1); rintro e w33 ⟨v1013, rfl, ho0, hb⟩; refine ⟨_, rfl, ?_⟩; replace HO_3 := zMk (zRb (by exact uR HO_3.out) hb); have HO1014 := zMk (zRl (zRw ho0 (zRt (by exact uR HO1011.out))) (zBs (by exact uT HB.out))); replace HO1011 := zMk (zRe (by exact uR HO1011.out) (zRz ho0) hb); replace HB := zMk (zBt (by exact uT HB.out) hb); obtain ⟨Ao34, co34, eo34⟩ := zRs HO1014.out; subst eo34)|((with_reducible refine gate_callee (f := 42) rfl ?_); refine goesL_ (some 28) rfl rfl Tryd.func42 (by kernel_rfl) rfl #[.slice Ao34 t1012.length co34, .slice A0 l0.length c0] rfl (by (try simp only [zMa, zMc, zMn]); first |  done|  rfl|  (simp only [zLd, zLt]; rfl)) ?_; (with_reducible refine (r1_Cmp.calls k1 _ _ t1012 _ _ l0 t1015 _ ?side1 ?side2 ?side3 ?side4 A17.out).mono ?_); (case side1 => exact uC (zRr HO1014.out).2.2); (case side2 => exact (zRr HO1014.out).2.1); (case side3 => repeat (first |  exact (Kd.C_below HR0.out HB.out)|(with_reducible refine zCa ?_ _)|(with_reducible refine zCn ?_ _)|(with_reducible refine zCd ?_))); (case side4 => exact HC0.out); rintro e w35 ⟨rfl, hb⟩; refine ⟨_, rfl, ?_⟩; replace HO_3 := zMk (zRb (by exact uR HO_3.out) hb); replace HO1011 := zMk (zRb (by exact uR HO1011.out) hb); replace HO1014 := zMk (zRb (by exact uR HO1014.out) hb); replace HB := zMk (zBt (by exact uT HB.out) hb)))
        (try simp only [← hl3_1])
        go_roundg k1
        case measure => have := HK1.out; omega
        case rel => exact ⟨(y1008), (wrap64 (x4_1 - 1)), (by first | rfl | (simp; done) | (simp [*]; done)), H', ⟨by have := HK1.out; omega⟩, ⟨by (try simp only [hl3_1]); exact uR HO_3.out⟩, ⟨by exact uT HB.out⟩⟩
    · rw [if_neg c11] at H
      have c11b0 : decide (0 ≤ x4_1) = false := decide_eq_false c11
      (try (have c11b0l := c11b0; simp only [hl3_1] at c11b0l))
      clear c11
      replace H := bnd H
      obtain ⟨t1005, A360, H⟩ := H
      have A36 := zMk A360
      clear A360
      obtain rfl := zOi H
      go_wp2_with (first | ((with_reducible refine gate_callee (f := 65) rfl ?_); refine goesL_ (some 34) rfl rfl Tryd.func65 (by kernel_rfl) rfl #[.slice Ao10 x3_1.length co10] rfl (by (try simp only [zMa, zMc, zMn]); first |  done|  rfl|  (simp only [zLd, zLt]; rfl)) ?_; (with_reducible refine (r1_limbs.calls k1 _ _ x3_1 t1005 _ ?side1 ?side2 A36.out).mono ?_); (case side1 => exact uC (zRr HO_3.out).2.2); (case side2 => exact (zRr HO_3.out).2.1); rintro e w37 ⟨v1006, rfl, ho0, hb⟩; refine ⟨_, rfl, ?_⟩; replace HO_3 := zMk (zRb (by exact uR HO_3.out) hb); have HO1007 := zMk (zRl ho0 (zBs (by exact uT HB.out))); replace HB := zMk (zBt (by exact uT HB.out) hb)))
      go_ret
      exact ⟨_, by first | rfl | (simp [errW_none, errW_some] <;> rfl) | (simp only [← hji3]; first | rfl | (simp [errW_none, errW_some] <;> rfl)) | (simp [*, errW_none, errW_some] <;> rfl), by exact uR HO1007.out, by exact uT HB.out⟩
  · rw [if_neg c4] at H
    exact absurd H (by simp)

theorem rsqrt_l0 (a : List Int) (ha : Limbs a) (la : a.length ≤ 20) (W : Nat) (hW : W ≤ 500) :
    ∀ (m k : Nat) (R : List Int), m ≤ W → R.length = W → Bits R → (∀ i, i < m → R.getD i 0 = 0) → Aside0 (bval R * bval R ≤ val a) → Aside0 (val a < (bval R + Tp m) * (bval R + Tp m)) → 20000 + m ≤ k →
    ∃ r s, r1_Sqrt.l0 k a R ((m : Int) - 1) = some r ∧ IsNum r s ∧ IsRoot s (val a) := by
  intro m
  induction m with
  | zero =>
    intro k R _ hR bR _ h1 h2 hk
    obtain ⟨k, rfl⟩ : ∃ d, k = d + 1 := ⟨k - 1, by omega⟩
    obtain ⟨q, e1, n1, _⟩ := limbs_f R bR (by omega) k (by omega)
    have h3 := h2.out
    rw [Tp_zero] at h3
    exact ⟨q, bval R, by rw [r1_Sqrt.l0, if_neg (by omega), e1]; rfl, n1, (bval_bounds bR).1, h1.out, h3⟩
  | succ m ih =>
    intro k R hm hR bR hz h1 h2 hk
    obtain ⟨k, rfl⟩ : ∃ d, k = d + 1 := ⟨k - 1, by omega⟩
    have bS : Bits (R.set m 1) := bR.set m (.inr rfl)
    have hSl : (R.set m 1).length = W := by rw [List.length_set]; exact hR
    have hS : bval (R.set m 1) = bval R + Tp m := by rw [bval_set _ _ _ (by omega), hz m (by omega)]; omega
    obtain ⟨t, e1, n1, l1⟩ := limbs_f (R.set m 1) bS (by omega) k (by omega)
    obtain ⟨p, e2, n2⟩ := rmul_f t t n1.limbs n1.limbs (by omega) (by omega) k (by omega)
    rw [n1.eq, hS] at n2
    have hpl : p.length ≤ 40 := by
      refine len_of_lt n2 ?_
      have h3 := val_ltB n1.limbs
      rw [n1.eq, hS] at h3
      have h4 : Bp t.length ≤ Bp 20 := pow_upB (by omega)
      have h5 := (bval_bounds bR).1
      have h6 := Tp_pos m
      have h7 := sq_lt (a := bval R + Tp m) (b := Bp 20) (by omega) (by omega)
      rw [← Bp_add] at h7
      exact h7
    have hl0 : r1_Sqrt.l0 (k + 1) a R (((m + 1 : Nat) : Int) - 1) = if cmpI (val p) (val a) > 0 then r1_Sqrt.l0 k a ((R.set m 1).set m 0) ((m : Int) - 1) else r1_Sqrt.l0 k a (R.set m 1) ((m : Int) - 1) := by
      rw [show ((m + 1 : Nat) : Int) - 1 = (m : Int) by omega, r1_Sqrt.l0, if_pos (by omega), if_pos (by omega), if_pos (by omega), zOb, zTn, e1, zOb, e2, zOb, rcmp_f p a n2.limbs ha (by omega) (by omega) k (by omega), zOb, w64 (n := (m : Int) - 1) (by omega) (by omega)]
    have hp2 := Tp_succ m
    rw [hl0, n2.eq]
    by_cases hc : val a < (bval R + Tp m) * (bval R + Tp m)
    · have hcm : cmpI ((bval R + Tp m) * (bval R + Tp m)) (val a) > 0 := by
        unfold cmpI
        rw [if_neg (by omega), if_pos hc]
        decide
      rw [if_pos hcm]
      have hb : bval ((R.set m 1).set m 0) = bval R := by
        rw [bval_set _ _ _ (by omega), hS, getD_set_eq _ _ (by omega)]
        grind
      exact ih k ((R.set m 1).set m 0) (by omega) (by rw [List.length_set]; exact hSl) (bS.set m (.inl rfl)) (fun i hi => by rw [getD_set_ne _ _ (by omega), getD_set_ne _ _ (by omega)]; exact hz i (by omega)) ⟨by rw [hb]; exact h1.out⟩ ⟨by rw [hb]; exact hc⟩ (by omega)
    · have hcm : ¬ cmpI ((bval R + Tp m) * (bval R + Tp m)) (val a) > 0 := by
        unfold cmpI
        split <;> (first | decide | (rw [if_neg hc]; decide))
      rw [if_neg hcm]
      refine ih k (R.set m 1) (by omega) hSl bS (fun i hi => by rw [getD_set_ne _ _ (by omega)]; exact hz i (by omega)) ⟨by rw [hS]; omega⟩ ⟨?_⟩ (by omega)
      rw [hS, show bval R + Tp m + Tp m = bval R + Tp (m + 1) by omega]
      exact h2.out
theorem rsqrt_f (a : List Int) (ha : Limbs a) (la : a.length ≤ 20) (k : Nat) (hk : 30000 ≤ k) : ∃ r s, r1_Sqrt.f k a = some r ∧ IsNum r s ∧ IsRoot s (val a) := by
  have hbl := bitsOf_length a
  obtain ⟨W, hW⟩ : ∃ W, W = (bitsOf a).length / 2 + 1 := ⟨_, rfl⟩
  have e1 : Aside0 (wrap64 ((wrap64 (((bitsOf a).length : Int) / 2)) + 1) = ((W : Nat) : Int)) := ⟨by
    have h2 : wrap64 (((bitsOf a).length : Int) / 2) = (((bitsOf a).length / 2 : Nat) : Int) := w64e (by omega) (by omega)
    rw [h2]
    exact w64e (by omega) (by omega)⟩
  have hA : Aside0 (val a < (bval (List.replicate W 0) + Tp W) * (bval (List.replicate W 0) + Tp W)) := ⟨by
    have h1 := bval_lt (bitsOf_bits a)
    rw [bval_bitsOf ha] at h1
    rw [bval_zero, Int.zero_add, ← Tp_add]
    have h2 : Tp (W + W) = Tp (bitsOf a).length * Tp (W + W - (bitsOf a).length) := by rw [← Tp_add]; congr 1; omega
    have h3 := Tp_pos (W + W - (bitsOf a).length)
    have h4 : Tp (bitsOf a).length * 1 ≤ Tp (bitsOf a).length * Tp (W + W - (bitsOf a).length) := Int.mul_le_mul_of_nonneg_left (by omega) (Int.le_of_lt (Tp_pos _))
    rw [h2]
    omega⟩
  obtain ⟨r, s, h1, h2, h3⟩ := rsqrt_l0 a ha la W (by omega) W k (List.replicate W 0) (Nat.le_refl _) (by simp) (bits_zero _) (fun i _ => zeros_getD _ i) ⟨by rw [bval_zero]; have := val_nonneg ha; omega⟩ hA (by omega)
  refine ⟨r, s, ?_, h2, h3⟩
  unfold r1_Sqrt.f
  rw [bits_f a ha (by omega) k (by omega), zOb, e1.out, if_pos (by omega), zTn, if_pos (by omega), zOb, List.length_replicate, w64 (by omega) (by omega)]
  exact h1

def integer_Sqrt.f (k : Nat) (a0_0 : Bool) (l0_1 : List Int) : Option (Bool × List Int × Int) := (integer_Norm.f a0_0 l0_1).bind fun bt530 => ((n_Sqrt.f k bt530.2).bind fun t534 => (if bt530.1 = true then (some (false, ([] : List Int), 17)) else ((n_Mul.f k t534 t534).bind fun t537 => ((n_Cmp.f t537 bt530.2).bind fun t540 => (if t540 = 0 then ((integer_signed.f false t534).bind fun bt541 => (some (bt541.1, bt541.2, 0))) else (some (false, ([] : List Int), 16)))))))
def integer_Sqrt.T5 : Bool × List (List Nat × List Nat) := (true, [([], []), ([], []), ([0, 1], [0, 1]), ([], []), ([3], [3]), ([2, 4, 2], [2, 4]), ([5], [5]), ([6, 5], [6])])
def integer_Sqrt.B5 : List Nat := [0, 0, 3, 0, 8, 31, 63, 127]
theorem integer_Sqrt.tab5 : rtab .any (opsOf Tryd.f25 5) = integer_Sqrt.T5 := by kernel_rfl
theorem integer_Sqrt.bits5 : waitsOk integer_Sqrt.T5.2 integer_Sqrt.B5 = true := by kernel_rfl
theorem integer_Sqrt.calls (k : Nat) (a0_0 : Bool) (A0_1 : Option Addr) (c0_1 : Nat) (l0_1 : List Int) (r1 : Bool) (r2 : List Int) (r3 : Int) (w : World) (hr0_1 : Kd.C (Kd.int .u32) w A0_1 l0_1.length l0_1) (hc0_1 : l0_1.length ≤ c0_1) (h : integer_Sqrt.f k a0_0 l0_1 = some (r1, r2, r3)) :
    Calls Tryd.prog 25 #[.agg #[.bool a0_0, .slice A0_1 l0_1.length c0_1]] w fun e w' => ∃ v1_ : Value, e = .returned (.tuple #[.agg #[.bool r1, v1_], .int .i64 r3]) ∧ Kd.R (Kd.int .u32) 58 w' w.heap.size (fun _ => True) v1_ r2 ∧ Below w.heap.size w w' := by
  have hu24 := Tryd.underlying24
  have HR0_1 := zMk hr0_1
  have HC0_1 := zMk hc0_1
  clear hr0_1 hc0_1
  have HB := zMk (Below.refl w.heap.size w)
  have H : ((integer_Norm.f a0_0 l0_1).bind fun bt530 => ((n_Sqrt.f k bt530.2).bind fun t534 => (if bt530.1 = true then (some (false, ([] : List Int), 17)) else ((n_Mul.f k t534 t534).bind fun t537 => ((n_Cmp.f t537 bt530.2).bind fun t540 => (if t540 = 0 then ((integer_signed.f false t534).bind fun bt541 => (some (bt541.1, bt541.2, 0))) else (some (false, ([] : List Int), 16)))))))) = some (r1, r2, r3) := h
  clear h
  replace H := bnd H
  obtain ⟨⟨t530, t531⟩, A20, H⟩ := H
  replace H : ((n_Sqrt.f k t531).bind fun t534 => (if t530 = true then (some (false, ([] : List Int), 17)) else ((n_Mul.f k t534 t534).bind fun t537 => ((n_Cmp.f t537 t531).bind fun t540 => (if t540 = 0 then ((integer_signed.f false t534).bind fun bt541 => (some (bt541.1, bt541.2, 0))) else (some (false, ([] : List Int), 16))))))) = some (r1, r2, r3) := H
  have A2 := zMk A20
  clear A20
  replace H := bnd H
  obtain ⟨t534, A30, H⟩ := H
  have A3 := zMk A30
  clear A30
  by_cases c4 : t530 = true
  · subst c4
    replace H : (some (false, ([] : List Int), 17)) = some (r1, r2, r3) := by rw [if_pos rfl] at H; exact H
    simp only [Option.some.injEq, Prod.mk.injEq] at H
    obtain ⟨rfl, rfl, rfl⟩ := H
    go_enter Tryd.func25, Tryd.ntmps25
    go_wp2_with (first | ((with_reducible refine gate_dst (N := 1) rfl ?_); refine box_event ?hg (N := 1) ?hd (cs := #[.bool a0_0, .slice A0_1 l0_1.length c0_1]) (t := 24) ?hr ?_; (case hd => rfl); (case hg => rfl); (case hr => first | (go_simp; done)|(go_simp; rfl)|(go_simp; rw [show ∀ x : Int, IntKind.u32.wrap (IntKind.u8.wrap x) = x % 256 from fun x => (by show (x % 256) % 4294967296 = x % 256; omega)])); intro gb528 hg w5 hbox hb; have BK528 := zMk (hbox); have GW528 := zMk ((by rw [hg]; exact (zBs (by exact uT HB.out)) : w.heap.size ≤ gb528)); have GE528 := zMk ((by rw [hg]; exact (zBs (by exact uT HB.out)) : w.heap.size ≤ gb528)); have IGE528 := ownGe GE528.out; replace HB := zMk (zBt (by exact uT HB.out) hb); clear hb hbox hg)|((with_reducible refine gate_dst (N := 2) rfl ?_); refine box_event ?hg (N := 2) ?hd (cs := #[.bool false, .slice none 0 0]) (t := 24) ?hr ?_; (case hd => rfl); (case hg => rfl); (case hr => first | (go_simp; done)|(go_simp; rfl)|(go_simp; rw [show ∀ x : Int, IntKind.u32.wrap (IntKind.u8.wrap x) = x % 256 from fun x => (by show (x % 256) % 4294967296 = x % 256; omega)])); intro gb529 hg w6 hbox hb; have BK529 := zMk (hbox); have GW529 := zMk ((by rw [hg]; exact (zBs (by exact uT HB.out)) : w.heap.size ≤ gb529)); have GE529 := zMk ((by rw [hg]; exact (zBs (by exact uT HB.out)) : w.heap.size ≤ gb529)); have IGE529 := ownGe GE529.out; replace HB := zMk (zBt (by exact uT HB.out) hb); have NB528_529 := zMk ((by rw [hg]; exact Nat.ne_of_lt (blk_lt (g := gb528) (o := .cells #[.bool a0_0, .slice A0_1 l0_1.length c0_1] 24 (0, 0)) (by (with_reducible repeat (first |  refine zKn ?_ _|  refine zKd ?_|  refine zKa ?_ _)); exact BK528.out)) : gb528 ≠ gb529)); have NB529_528 := zMk ((by rw [hg]; exact Nat.ne_of_gt (blk_lt (g := gb528) (o := .cells #[.bool a0_0, .slice A0_1 l0_1.length c0_1] 24 (0, 0)) (by (with_reducible repeat (first |  refine zKn ?_ _|  refine zKd ?_|  refine zKa ?_ _)); exact BK528.out)) : gb529 ≠ gb528)); replace BK528 := zMk (zKb (g := gb528) (o := .cells #[.bool a0_0, .slice A0_1 l0_1.length c0_1] 24 (0, 0)) (by (with_reducible repeat (first |  refine zKn ?_ _|  refine zKd ?_|  refine zKa ?_ _)); exact BK528.out) hb); clear hb hbox hg; have hnb7 := NB528_529.out; have hnc7 := NB529_528.out; have hcz8_0 : w6.cell? ⟨gb528, 0, none⟩ = some (.bool a0_0) := (zKc BK528.out 0).trans rfl; have hcz8_1 : w6.cell? ⟨gb528, 1, none⟩ = some (.slice A0_1 l0_1.length c0_1) := (zKc BK528.out 1).trans rfl; have hfz8_0 := zKf BK528.out 0; have hfz8_1 := zKf BK528.out 1)|((with_reducible refine gate_callee (f := 47) rfl ?_); refine goesL_ (some 6) rfl rfl Tryd.func47 (by kernel_rfl) rfl #[.agg #[.bool a0_0, .slice A0_1 l0_1.length c0_1]] rfl (by (try simp only [zMa, zMc, zMn]); first |  done|  rfl|  (simp only [zLd, zLt]; rfl)) ?_; (with_reducible refine (integer_Norm.calls a0_0 _ _ l0_1 true t531 _ ?side1 ?side2 A2.out).mono ?_); (case side1 => repeat (first |  exact (Kd.C_below HR0_1.out HB.out)|(with_reducible refine zCa ?_ _)|(with_reducible refine zCn ?_ _)|(with_reducible refine zCd ?_))); (case side2 => exact HC0_1.out); rintro e w9 ⟨v532, rfl, ho0, hb⟩; refine ⟨_, rfl, ?_⟩; have HO533 := zMk (zRl ho0 (zBs (by exact uT HB.out))); replace BK528 := zMk (zKb (g := gb528) (o := .cells #[.bool a0_0, .slice A0_1 l0_1.length c0_1] 24 (0, 0)) (by (with_reducible repeat (first |  refine zKn ?_ _|  refine zKd ?_|  refine zKa ?_ _)); exact BK528.out) hb); replace BK529 := zMk (zKb (g := gb529) (o := .cells #[.bool false, .slice none 0 0] 24 (0, 0)) (by (with_reducible repeat (first |  refine zKn ?_ _|  refine zKd ?_|  refine zKa ?_ _)); exact BK529.out) hb); replace HB := zMk (zBt (by exact uT HB.out) hb); have hcz10_0 : w9.cell? ⟨gb528, 0, none⟩ = some (.bool a0_0) := (zKc BK528.out 0).trans rfl; have hcz10_1 : w9.cell? ⟨gb528, 1, none⟩ = some (.slice A0_1 l0_1.length c0_1) := (zKc BK528.out 1).trans rfl; have hfz10_0 := zKf BK528.out 0; have hfz10_1 := zKf BK528.out 1; obtain ⟨Ao11, co11, eo11⟩ := zRs HO533.out; subst eo11)|((with_reducible refine gate_store (t := 24) (p := 1) rfl ?_); refine store_event (t := 24) (p := 1) (v := ?vo_w12) (w1 := ((w9.setCell ⟨gb528, 0, none⟩ (.bool true)).setCell ⟨gb528, 1, none⟩ (.slice Ao11 t531.length co11))) ?hg ?ho ?hn ?hr ?_; (case ho => rfl); (case hg => rfl); (case hn => rfl); (case hr => first | (go_simp; done)|(go_simp; rfl)|(go_simp; rw [show ∀ x : Int, IntKind.u32.wrap (IntKind.u8.wrap x) = x % 256 from fun x => (by show (x % 256) % 4294967296 = x % 256; omega)])); intro w12 hw; have n0_ : Aside0 (Kd.R (Kd.int .u32) 58 w12 w.heap.size (fun _ => True) (.slice Ao11 t531.length co11) t531) := ⟨(by rw [hw]; exact (by (with_reducible repeat (first |  apply zRa|  apply zRn|  apply zRd)); exact zRm (Kd.R_far (p := ⟨gb528, 1, none⟩) (Kd.R_far (p := ⟨gb528, 0, none⟩) (Kd.R_types HO533.out BK528.out (by decide)) (fun _ hk => hk.2) (.bool true)) (fun _ hk => hk.2) (.slice Ao11 t531.length co11)) (fun _ hk => trivial)))⟩; have n1_ : Aside0 (w12.heap[gb528]? = some (.cells #[.bool true, .slice Ao11 t531.length co11] 24 (0, 0))) := ⟨(by rw [hw]; exact (by (with_reducible repeat (first |  refine zKn ?_ _|  refine zKd ?_|  refine zKa ?_ _)); refine blk_put (cs := #[.bool true, .slice A0_1 l0_1.length c0_1]) ?_ 1 _ rfl; (with_reducible repeat (first |  refine zKn ?_ _|  refine zKd ?_|  refine zKa ?_ _)); refine blk_put (cs := #[.bool a0_0, .slice A0_1 l0_1.length c0_1]) ?_ 0 _ rfl; (with_reducible repeat (first |  refine zKn ?_ _|  refine zKd ?_|  refine zKa ?_ _)); exact BK528.out))⟩; have n2_ : Aside0 (w12.heap[gb529]? = some (.cells #[.bool false, .slice none 0 0] 24 (0, 0))) := ⟨(by rw [hw]; exact (by (with_reducible repeat (first |  refine zKn ?_ _|  refine zKd ?_|  refine zKa ?_ _)); refine blk_far ?_ NB529_528.out _; (with_reducible repeat (first |  refine zKn ?_ _|  refine zKd ?_|  refine zKa ?_ _)); refine blk_far ?_ NB529_528.out _; (with_reducible repeat (first |  refine zKn ?_ _|  refine zKd ?_|  refine zKa ?_ _)); exact BK529.out))⟩; have n3_ : Aside0 (Below w.heap.size w w12) := ⟨(by rw [hw]; exact (by exact uT HB.out))⟩; clear hw HO533 BK528 BK529 HB; have HO533 := n0_; have BK528 := n1_; have BK529 := n2_; have HB := n3_; clear n0_ n1_ n2_ n3_; have hcz13_0 : w12.cell? ⟨gb528, 0, none⟩ = some (.bool true) := (zKc BK528.out 0).trans rfl; have hcz13_1 : w12.cell? ⟨gb528, 1, none⟩ = some (.slice Ao11 t531.length co11) := (zKc BK528.out 1).trans rfl; have hfz13_0 := zKf BK528.out 0; have hfz13_1 := zKf BK528.out 1)|((with_reducible refine gate_callee (f := 48) rfl ?_); refine goesL_ (some 9) rfl rfl Tryd.func48 (by kernel_rfl) rfl #[.slice Ao11 t531.length co11] rfl (by (try simp only [zMa, zMc, zMn]); first |  done|  rfl|  (simp only [zLd, zLt]; rfl)) ?_; (with_reducible refine (n_Sqrt.calls k (fun k_ => some k_ = (.slice Ao11 t531.length co11 : Value).ownBlock) _ _ t531 t534 _ ?side1 A3.out).mono ?_); (case side1 => exact Kd.R_V (Kd.R_tight rfl (Kd.R_types (Kd.R_types (HO533.out) BK528.out (by decide)) BK529.out (by decide)))); rintro e w14 ⟨v535, rfl, ho0, hb⟩; refine ⟨_, rfl, ?_⟩; have HO536 := zMk (zVl (zVm (ok' := fun k_ => k_ ≠ gb528 ∧ k_ ≠ gb529) ho0 (fun k_ hk_ => ⟨Or.elim hk_ (fun hs_ => ((Kd.R_types (Kd.R_types (HO533.out) BK528.out (by decide)) BK529.out (by decide)).1 k_ hs_.symm).1.2) (fun hn_ => (Kd.freshB (g := gb528) (o := .cells #[.bool true, .slice Ao11 t531.length co11] 24 (0, 0)) (by (with_reducible repeat (first |  refine zKn ?_ _|  refine zKd ?_|  refine zKa ?_ _)); exact BK528.out) k_ hn_)), Or.elim hk_ (fun hs_ => ((Kd.R_types (Kd.R_types (HO533.out) BK528.out (by decide)) BK529.out (by decide)).1 k_ hs_.symm).2) (fun hn_ => (Kd.freshB (g := gb529) (o := .cells #[.bool false, .slice none 0 0] 24 (0, 0)) (by (with_reducible repeat (first |  refine zKn ?_ _|  refine zKd ?_|  refine zKa ?_ _)); exact BK529.out) k_ hn_))⟩)) (zBs (by exact uT HB.out))); replace HO533 := zMk (zRb (by exact uR HO533.out) hb); replace BK528 := zMk (zKb (g := gb528) (o := .cells #[.bool true, .slice Ao11 t531.length co11] 24 (0, 0)) (by (with_reducible repeat (first |  refine zKn ?_ _|  refine zKd ?_|  refine zKa ?_ _)); exact BK528.out) hb); replace BK529 := zMk (zKb (g := gb529) (o := .cells #[.bool false, .slice none 0 0] 24 (0, 0)) (by (with_reducible repeat (first |  refine zKn ?_ _|  refine zKd ?_|  refine zKa ?_ _)); exact BK529.out) hb); replace HB := zMk (zBt (by exact uT HB.out) hb); have hcz15_0 : w14.cell? ⟨gb528, 0, none⟩ = some (.bool true) := (zKc BK528.out 0).trans rfl; have hcz15_1 : w14.cell? ⟨gb528, 1, none⟩ = some (.slice Ao11 t531.length co11) := (zKc BK528.out 1).trans rfl; have hfz15_0 := zKf BK528.out 0; have hfz15_1 := zKf BK528.out 1; have hcz16_0 : w14.cell? ⟨gb529, 0, none⟩ = some (.bool false) := (zKc BK529.out 0).trans rfl; have hcz16_1 : w14.cell? ⟨gb529, 1, none⟩ = some (.slice none 0 0) := (zKc BK529.out 1).trans rfl; have hfz16_0 := zKf BK529.out 0; have hfz16_1 := zKf BK529.out 1))
    refine bodyPost_ret (results_ct rfl _ _ gb529 24 #[.bool false, .slice none 0 0] (0, 0) _ rfl (by (with_reducible repeat (first | refine zKn ?_ _ | refine zKd ?_ | refine zKa ?_ _)); refine blk_put (cs := #[.bool false, .slice none 0 0]) ?_ 1 _ rfl; (with_reducible repeat (first | refine zKn ?_ _ | refine zKd ?_ | refine zKa ?_ _)); refine blk_put (cs := #[.bool false, .slice none 0 0]) ?_ 0 _ rfl; (with_reducible repeat (first | refine zKn ?_ _ | refine zKd ?_ | refine zKa ?_ _)); exact BK529.out) Tryd.underlying24 rfl (by kernel_rfl)) rfl ?_
    exact ⟨_, by first | rfl | (simp [errW_none, errW_some] <;> rfl) | (simp [*, errW_none, errW_some] <;> rfl), by first | exact Kd.R_nil _ _ _ _ _ | exact Kd.N_nil _ _ _ _ _ | exact Kd.V_nil _ _ _ _ _ | exact Kd.Q_nil _ _ _ _ _ | exact Kd.S_nil _ _ _ _ _, by exact uT HB.out⟩
  · replace c4 := Bool.eq_false_iff.mpr c4
    subst c4
    replace H : ((n_Mul.f k t534 t534).bind fun t537 => ((n_Cmp.f t537 t531).bind fun t540 => (if t540 = 0 then ((integer_signed.f false t534).bind fun bt541 => (some (bt541.1, bt541.2, 0))) else (some (false, ([] : List Int), 16))))) = some (r1, r2, r3) := by rw [if_neg (show ¬ (false = true) by decide)] at H; exact H
    replace H := bnd H
    obtain ⟨t537, A170, H⟩ := H
    have A17 := zMk A170
    clear A170
    replace H := bnd H
    obtain ⟨t540, A180, H⟩ := H
    have A18 := zMk A180
    clear A180
    by_cases c19 : t540 = 0
    · rw [if_pos c19] at H
      have c19b0 : (t540 == 0) = true := beq_iff_eq.mpr c19
      have c19b1 : (t540 != 0) = false := bne_eq_false_iff_eq.mpr c19
      clear c19
      replace H := bnd H
      obtain ⟨⟨t541, t542⟩, A200, H⟩ := H
      replace H : (some (t541, t542, 0)) = some (r1, r2, r3) := H
      have A20 := zMk A200
      clear A200
      simp only [Option.some.injEq, Prod.mk.injEq] at H
      obtain ⟨rfl, rfl, rfl⟩ := H
      go_enter Tryd.func25, Tryd.ntmps25
      try go_wp2_with (first | ((with_reducible refine gate_dst (N := 1) rfl ?_); refine box_event ?hg (N := 1) ?hd (cs := #[.bool a0_0, .slice A0_1 l0_1.length c0_1]) (t := 24) ?hr ?_; (case hd => rfl); (case hg => rfl); (case hr => first | (go_simp; done)|(go_simp; rfl)|(go_simp; rw [show ∀ x : Int, IntKind.u32.wrap (IntKind.u8.wrap x) = x % 256 from fun x => (by show (x % 256) % 4294967296 = x % 256; omega)])); intro gb528 hg w21 hbox hb; have BK528 := zMk (hbox); have GW528 := zMk ((by rw [hg]; exact (zBs (by exact uT HB.out)) : w.heap.size ≤ gb528)); have GE528 := zMk ((by rw [hg]; exact (zBs (by exact uT HB.out)) : w.heap.size ≤ gb528)); have IGE528 := ownGe GE528.out; replace HB := zMk (zBt (by exact uT HB.out) hb); clear hb hbox hg)|((with_reducible refine gate_dst (N := 2) rfl ?_); refine box_event ?hg (N := 2) ?hd (cs := #[.bool false, .slice none 0 0]) (t := 24) ?hr ?_; (case hd => rfl); (case hg => rfl); (case hr => first | (go_simp; done)|(go_simp; rfl)|(go_simp; rw [show ∀ x : Int, IntKind.u32.wrap (IntKind.u8.wrap x) = x % 256 from fun x => (by show (x % 256) % 4294967296 = x % 256; omega)])); intro gb529 hg w22 hbox hb; have BK529 := zMk (hbox); have GW529 := zMk ((by rw [hg]; exact (zBs (by exact uT HB.out)) : w.heap.size ≤ gb529)); have GE529 := zMk ((by rw [hg]; exact (zBs (by exact uT HB.out)) : w.heap.size ≤ gb529)); have IGE529 := ownGe GE529.out; replace HB := zMk (zBt (by exact uT HB.out) hb); have NB528_529 := zMk ((by rw [hg]; exact Nat.ne_of_lt (blk_lt (g := gb528) (o := .cells #[.bool a0_0, .slice A0_1 l0_1.length c0_1] 24 (0, 0)) (by (with_reducible repeat (first |  refine zKn ?_ _|  refine zKd ?_|  refine zKa ?_ _)); exact BK528.out)) : gb528 ≠ gb529)); have NB529_528 := zMk ((by rw [hg]; exact Nat.ne_of_gt (blk_lt (g := gb528) (o := .cells #[.bool a0_0, .slice A0_1 l0_1.length c0_1] 24 (0, 0)) (by (with_reducible repeat (first |  refine zKn ?_ _|  refine zKd ?_|  refine zKa ?_ _)); exact BK528.out)) : gb529 ≠ gb528)); replace BK528 := zMk (zKb (g := gb528) (o := .cells #[.bool a0_0, .slice A0_1 l0_1.length c0_1] 24 (0, 0)) (by (with_reducible repeat (first |  refine zKn ?_ _|  refine zKd ?_|  refine zKa ?_ _)); exact BK528.out) hb); clear hb hbox hg; have hnb23 := NB528_529.out; have hnc23 := NB529_528.out; have hcz24_0 : w22.cell? ⟨gb528, 0, none⟩ = some (.bool a0_0) := (zKc BK528.out 0).trans rfl; have hcz24_1 : w22.cell? ⟨gb528, 1, none⟩ = some (.slice A0_1 l0_1.length c0_1) := (zKc BK528.out 1).trans rfl; have hfz24_0 := zKf BK528.out 0; have hfz24_1 := zKf BK528.out 1)|((with_reducible refine gate_callee (f := 47) rfl ?_); refine goesL_ (some 6) rfl rfl Tryd.func47 (by kernel_rfl) rfl #[.agg #[.bool a0_0, .slice A0_1 l0_1.length c0_1]] rfl (by (try simp only [zMa, zMc, zMn]); first |  done|  rfl|  (simp only [zLd, zLt]; rfl)) ?_; (with_reducible refine (integer_Norm.calls a0_0 _ _ l0_1 false t531 _ ?side1 ?side2 A2.out).mono ?_); (case side1 => repeat (first |  exact (Kd.C_below HR0_1.out HB.out)|(with_reducible refine zCa ?_ _)|(with_reducible refine zCn ?_ _)|(with_reducible refine zCd ?_))); (case side2 => exact HC0_1.out); rintro e w25 ⟨v532, rfl, ho0, hb⟩; refine ⟨_, rfl, ?_⟩; have HO533 := zMk (zRl ho0 (zBs (by exact uT HB.out))); replace BK528 := zMk (zKb (g := gb528) (o := .cells #[.bool a0_0, .slice A0_1 l0_1.length c0_1] 24 (0, 0)) (by (with_reducible repeat (first |  refine zKn ?_ _|  refine zKd ?_|  refine zKa ?_ _)); exact BK528.out) hb); replace BK529 := zMk (zKb (g := gb529) (o := .cells #[.bool false, .slice none 0 0] 24 (0, 0)) (by (with_reducible repeat (first |  refine zKn ?_ _|  refine zKd ?_|  refine zKa ?_ _)); exact BK529.out) hb); replace HB := zMk (zBt (by exact uT HB.out) hb); have hcz26_0 : w25.cell? ⟨gb528, 0, none⟩ = some (.bool a0_0) := (zKc BK528.out 0).trans rfl; have hcz26_1 : w25.cell? ⟨gb528, 1, none⟩ = some (.slice A0_1 l0_1.length c0_1) := (zKc BK528.out 1).trans rfl; have hfz26_0 := zKf BK528.out 0; have hfz26_1 := zKf BK528.out 1; obtain ⟨Ao27, co27, eo27⟩ := zRs HO533.out; subst eo27)|((with_reducible refine gate_store (t := 24) (p := 1) rfl ?_); refine store_event (t := 24) (p := 1) (v := ?vo_w28) (w1 := ((w25.setCell ⟨gb528, 0, none⟩ (.bool false)).setCell ⟨gb528, 1, none⟩ (.slice Ao27 t531.length co27))) ?hg ?ho ?hn ?hr ?_; (case ho => rfl); (case hg => rfl); (case hn => rfl); (case hr => first | (go_simp; done)|(go_simp; rfl)|(go_simp; rw [show ∀ x : Int, IntKind.u32.wrap (IntKind.u8.wrap x) = x % 256 from fun x => (by show (x % 256) % 4294967296 = x % 256; omega)])); intro w28 hw; have n0_ : Aside0 (Kd.R (Kd.int .u32) 58 w28 w.heap.size (fun _ => True) (.slice Ao27 t531.length co27) t531) := ⟨(by rw [hw]; exact (by (with_reducible repeat (first |  apply zRa|  apply zRn|  apply zRd)); exact zRm (Kd.R_far (p := ⟨gb528, 1, none⟩) (Kd.R_far (p := ⟨gb528, 0, none⟩) (Kd.R_types HO533.out BK528.out (by decide)) (fun _ hk => hk.2) (.bool false)) (fun _ hk => hk.2) (.slice Ao27 t531.length co27)) (fun _ hk => trivial)))⟩; have n1_ : Aside0 (w28.heap[gb528]? = some (.cells #[.bool false, .slice Ao27 t531.length co27] 24 (0, 0))) := ⟨(by rw [hw]; exact (by (with_reducible repeat (first |  refine zKn ?_ _|  refine zKd ?_|  refine zKa ?_ _)); refine blk_put (cs := #[.bool false, .slice A0_1 l0_1.length c0_1]) ?_ 1 _ rfl; (with_reducible repeat (first |  refine zKn ?_ _|  refine zKd ?_|  refine zKa ?_ _)); refine blk_put (cs := #[.bool a0_0, .slice A0_1 l0_1.length c0_1]) ?_ 0 _ rfl; (with_reducible repeat (first |  refine zKn ?_ _|  refine zKd ?_|  refine zKa ?_ _)); exact BK528.out))⟩; have n2_ : Aside0 (w28.heap[gb529]? = some (.cells #[.bool false, .slice none 0 0] 24 (0, 0))) := ⟨(by rw [hw]; exact (by (with_reducible repeat (first |  refine zKn ?_ _|  refine zKd ?_|  refine zKa ?_ _)); refine blk_far ?_ NB529_528.out _; (with_reducible repeat (first |  refine zKn ?_ _|  refine zKd ?_|  refine zKa ?_ _)); refine blk_far ?_ NB529_528.out _; (with_reducible repeat (first |  refine zKn ?_ _|  refine zKd ?_|  refine zKa ?_ _)); exact BK529.out))⟩; have n3_ : Aside0 (Below w.heap.size w w28) := ⟨(by rw [hw]; exact (by exact uT HB.out))⟩; clear hw HO533 BK528 BK529 HB; have HO533 := n0_; have BK528 := n1_; have BK529 := n2_; have HB := n3_; clear n0_ n1_ n2_ n3_; have hcz29_0 : w28.cell? ⟨gb528, 0, none⟩ = some (.bool false) := (zKc BK528.out 0).trans rfl; have hcz29_1 : w28.cell? ⟨gb528, 1, none⟩ = some (.slice Ao27 t531.length co27) := (zKc BK528.out 1).trans rfl; have hfz29_0 := zKf BK528.out 0; have hfz29_1 := zKf BK528.out 1)|((with_reducible refine gate_callee (f := 48) rfl ?_); refine goesL_ (some 9) rfl rfl Tryd.func48 (by kernel_rfl) rfl #[.slice Ao27 t531.length co27] rfl (by (try simp only [zMa, zMc, zMn]); first |  done|  rfl|  (simp only [zLd, zLt]; rfl)) ?_; (with_reducible refine (n_Sqrt.calls k (fun k_ => some k_ = (.slice Ao27 t531.length co27 : Value).ownBlock) _ _ t531 t534 _ ?side1 A3.out).mono ?_); (case side1 => exact Kd.R_V (Kd.R_tight rfl (Kd.R_types (Kd.R_types (HO533.out) BK528.out (by decide)) BK529.out (by decide)))); rintro e w30 ⟨v535, rfl, ho0, hb⟩; refine ⟨_, rfl, ?_⟩; have HO536 := zMk (zVl (zVm (ok' := fun k_ => k_ ≠ gb528 ∧ k_ ≠ gb529) ho0 (fun k_ hk_ => ⟨Or.elim hk_ (fun hs_ => ((Kd.R_types (Kd.R_types (HO533.out) BK528.out (by decide)) BK529.out (by decide)).1 k_ hs_.symm).1.2) (fun hn_ => (Kd.freshB (g := gb528) (o := .cells #[.bool false, .slice Ao27 t531.length co27] 24 (0, 0)) (by (with_reducible repeat (first |  refine zKn ?_ _|  refine zKd ?_|  refine zKa ?_ _)); exact BK528.out) k_ hn_)), Or.elim hk_ (fun hs_ => ((Kd.R_types (Kd.R_types (HO533.out) BK528.out (by decide)) BK529.out (by decide)).1 k_ hs_.symm).2) (fun hn_ => (Kd.freshB (g := gb529) (o := .cells #[.bool false, .slice none 0 0] 24 (0, 0)) (by (with_reducible repeat (first |  refine zKn ?_ _|  refine zKd ?_|  refine zKa ?_ _)); exact BK529.out) k_ hn_))⟩)) (zBs (by exact uT HB.out))); replace HO533 := zMk (zRb (by exact uR HO533.out) hb); replace BK528 := zMk (zKb (g := gb528) (o := .cells #[.bool false, .slice Ao27 t531.length co27] 24 (0, 0)) (by (with_reducible repeat (first |  refine zKn ?_ _|  refine zKd ?_|  refine zKa ?_ _)); exact BK528.out) hb); replace BK529 := zMk (zKb (g := gb529) (o := .cells #[.bool false, .slice none 0 0] 24 (0, 0)) (by (with_reducible repeat (first |  refine zKn ?_ _|  refine zKd ?_|  refine zKa ?_ _)); exact BK529.out) hb); replace HB := zMk (zBt (by exact uT HB.out) hb); have hcz31_0 : w30.cell? ⟨gb528, 0, none⟩ = some (.bool false) := (zKc BK528.out 0).trans rfl; have hcz31_1 : w30.cell? ⟨gb528, 1, none⟩ = some (.slice Ao27 t531.length co27) := (zKc BK528.out 1).trans rfl; have hfz31_0 := zKf BK528.out 0; have hfz31_1 := zKf BK528.out 1))
      replace HO533 := zMk (zRd HO533.out)
      replace HO536 := zMk (zVd HO536.out)
      replace BK528 := zMk (zKd BK528.out)
      replace BK529 := zMk (zKd BK529.out)
      replace HB := zMk (zBd HB.out)
      obtain ⟨Ao33, co33, eo33⟩ := zVs HO536.out
      (first |  subst eo33|  (injection eo33 with f1_ f2_ f3_; have f4_ := f1_.symm; have f5_ := f3_.symm; clear f1_ f2_ f3_; subst f4_; subst f5_))
      refine start_ (n := 8) (S := fun w' => w'.cell? ⟨gb528, 0, none⟩ = some (.bool false) ∧ w'.cell? ⟨gb528, 1, none⟩ = some (.slice Ao27 t531.length co27)) (ds := []) #[false, false, false, false, false, false, false, false] (by kernel_rfl) rfl rfl ⟨(zKc BK528.out 0).trans rfl, (zKc BK528.out 1).trans rfl⟩ (fun hHeld => ?_); refine with_tabW integer_Sqrt.tab5 integer_Sqrt.bits5 (fun HT_ HW_ => ?_)
      generalize w30.drew = w32 at HO533 HO536 BK528 BK529 HB hHeld ⊢
      refine pure_ (i := 0) (N := some 15) (v := ?_) (a' := ?_) #[true, false, false, false, false, false, false, false] rfl rfl (any_of HT_.out (by kernel_rfl)) (fun _ _ _ h => h) (Or.inl ⟨by rfl, ?_⟩) ?_ ?_
      rotate_left
      · intro w'
        go_simp
        with_reducible rfl
      rotate_left
      · simp only [Act.put, zSa, zSb, zSc, i64_w, i32_w]
        rfl
      refine pure_ (i := 1) (N := some 16) (v := ?_) (a' := ?_) #[true, true, false, false, false, false, false, false] rfl rfl (any_of HT_.out (by kernel_rfl)) (fun _ _ _ h => h) (Or.inl ⟨by rfl, ?_⟩) ?_ ?_
      rotate_left
      · intro w'
        go_simp
        with_reducible rfl
      rotate_left
      · simp only [Act.put, zSa, zSb, zSc, i64_w, i32_w]
        rfl
      refine pure_ (i := 3) (N := some 18) (v := ?_) (a' := ?_) #[true, true, false, true, false, false, false, false] rfl rfl (any_of HT_.out (by kernel_rfl)) (fun _ _ _ h => h) (Or.inl ⟨by rfl, ?_⟩) ?_ ?_
      rotate_left
      · intro w'
        go_simp
        with_reducible rfl
      rotate_left
      · simp only [Act.put, zSa, zSb, zSc, i64_w, i32_w]
        rfl
      refine take_ (i := 4) (N := some 19) (v := ?_) (a' := ?_) #[true, true, false, true, true, false, false, false] rfl rfl (take_ofW HT_.out HW_.out (by kernel_rfl)) (fun _ _ _ h => h) (Or.inl ⟨by rfl, ?_⟩) hHeld ?_ ?_
      rotate_left
      · rintro w' ⟨s0, s1⟩
        go_simp
        with_reducible rfl
      rotate_left
      · simp only [Act.put, zSa, zSb, zSc, i64_w, i32_w]
        rfl
      refine one_ (i := 2) (N := some 17) #[true, true, true, true, true, false, false, false] rfl rfl (one_of HT_.out (by kernel_rfl)) (by decide) (fun K hK => ?_)
      refine goes_ Tryd.func45 (by kernel_rfl) rfl #[.slice Ao33 t534.length co33, .slice Ao33 t534.length co33] (by rfl) rfl rfl (by (try simp only [zMa, zMc, zMn]); first | done | rfl | (simp only [zLd, zLt]; rfl)) ?_
      with_reducible refine (n_Mul.calls k (fun k_ => (k_ ≠ gb528 ∧ k_ ≠ gb529)) _ _ t534 (fun k_ => (k_ ≠ gb528 ∧ k_ ≠ gb529)) _ _ t534 t537 _ ?side1 ?side2 A17.out).mono ?_
      (case side1 => exact HO536.out)
      (case side2 => exact HO536.out)
      rintro e w34 ⟨v538, rfl, ho0, hb⟩
      refine ⟨_, rfl, ?_⟩
      replace HO533 := zMk (zRb (by exact uR HO533.out) hb)
      replace HO536 := zMk (zVb (by exact uV HO536.out) hb)
      have HO539 := zMk (zVl (zVm (ok' := fun k_ => k_ ≠ gb528 ∧ k_ ≠ gb529) ho0 (fun k_ hk_ => ⟨Or.elim hk_ (fun hs_ => Or.elim hs_ (fun hs_ => hs_.1) (fun hs_ => hs_.1)) (fun hn_ => (Kd.freshB (g := gb528) (o := .cells #[.bool false, .slice Ao27 t531.length co27] 24 (0, 0)) (by (with_reducible repeat (first | refine zKn ?_ _ | refine zKd ?_ | refine zKa ?_ _)); exact BK528.out) k_ hn_)), Or.elim hk_ (fun hs_ => Or.elim hs_ (fun hs_ => hs_.2) (fun hs_ => hs_.2)) (fun hn_ => (Kd.freshB (g := gb529) (o := .cells #[.bool false, .slice none 0 0] 24 (0, 0)) (by (with_reducible repeat (first | refine zKn ?_ _ | refine zKd ?_ | refine zKa ?_ _)); exact BK529.out) k_ hn_))⟩)) (zBs (by exact uT HB.out)))
      replace BK528 := zMk (zKb (g := gb528) (o := .cells #[.bool false, .slice Ao27 t531.length co27] 24 (0, 0)) (by (with_reducible repeat (first | refine zKn ?_ _ | refine zKd ?_ | refine zKa ?_ _)); exact BK528.out) hb)
      replace BK529 := zMk (zKb (g := gb529) (o := .cells #[.bool false, .slice none 0 0] 24 (0, 0)) (by (with_reducible repeat (first | refine zKn ?_ _ | refine zKd ?_ | refine zKa ?_ _)); exact BK529.out) hb)
      replace HB := zMk (zBt (by exact uT HB.out) hb)
      obtain ⟨Ao35, co35, eo35⟩ := zVs HO539.out
      (first |  subst eo35|  (injection eo35 with f1_ f2_ f3_; have f4_ := f1_.symm; have f5_ := f3_.symm; clear f1_ f2_ f3_; subst f4_; subst f5_))
      refine hK.out _ _ ⟨(zKc BK528.out 0).trans rfl, (zKc BK528.out 1).trans rfl⟩ (fun hHeld => ?_)
      clear hK K
      refine norm_ (a' := ?_) ?_ ?_
      rotate_left
      · show Act.put _ (some 17) _ = _
        simp only [Act.put, zSa, zSb, zSc, i64_w, i32_w]
        rfl
      refine one_ (i := 5) (N := some 20) #[true, true, true, true, true, true, false, false] rfl rfl (one_of HT_.out (by kernel_rfl)) (by decide) (fun K hK => ?_)
      refine goes_ Tryd.func49 (by kernel_rfl) rfl #[.slice Ao35 t537.length co35, .slice Ao27 t531.length co27] (by rfl) rfl rfl (by (try simp only [zMa, zMc, zMn]); first | done | rfl | (simp only [zLd, zLt]; rfl)) ?_
      with_reducible refine (n_Cmp.calls _ _ t537 _ _ t531 t540 _ ?side1 ?side2 ?side3 ?side4 A18.out).mono ?_
      (case side1 => exact uC (zVr HO539.out).2.2)
      (case side2 => exact (zVr HO539.out).2.1)
      (case side3 => exact uC (zRr HO533.out).2.2)
      (case side4 => exact (zRr HO533.out).2.1)
      rintro e w36 ⟨rfl, hb⟩
      refine ⟨_, rfl, ?_⟩
      replace HO533 := zMk (zRb (by exact uR HO533.out) hb)
      replace HO536 := zMk (zVb (by exact uV HO536.out) hb)
      replace HO539 := zMk (zVb (by exact uV HO539.out) hb)
      replace BK528 := zMk (zKb (g := gb528) (o := .cells #[.bool false, .slice Ao27 t531.length co27] 24 (0, 0)) (by (with_reducible repeat (first | refine zKn ?_ _ | refine zKd ?_ | refine zKa ?_ _)); exact BK528.out) hb)
      replace BK529 := zMk (zKb (g := gb529) (o := .cells #[.bool false, .slice none 0 0] 24 (0, 0)) (by (with_reducible repeat (first | refine zKn ?_ _ | refine zKd ?_ | refine zKa ?_ _)); exact BK529.out) hb)
      replace HB := zMk (zBt (by exact uT HB.out) hb)
      refine hK.out _ _ ⟨(zKc BK528.out 0).trans rfl, (zKc BK528.out 1).trans rfl⟩ (fun hHeld => ?_)
      clear hK K
      refine norm_ (a' := ?_) ?_ ?_
      rotate_left
      · show Act.put _ (some 20) _ = _
        simp only [Act.put, zSa, zSb, zSc, i64_w, i32_w]
        rfl
      refine pure_ (i := 6) (N := some 21) (v := ?_) (a' := ?_) #[true, true, true, true, true, true, true, false] rfl rfl (any_of HT_.out (by kernel_rfl)) (fun _ _ _ h => h) (Or.inl ⟨by rfl, ?_⟩) ?_ ?_
      rotate_left
      · intro w'
        go_simp
        with_reducible rfl
      rotate_left
      · simp only [Act.put, zSa, zSb, zSc, i64_w, i32_w]
        rfl
      refine pure_ (i := 7) (N := some 14) (v := ?_) (a' := ?_) #[true, true, true, true, true, true, true, true] rfl rfl (any_of HT_.out (by kernel_rfl)) (fun _ _ _ h => h) (Or.inl ⟨by rfl, ?_⟩) ?_ ?_
      rotate_left
      · intro w'
        go_simp
        with_reducible rfl
      rotate_left
      · simp only [Act.put, zSa, zSb, zSc, i64_w, i32_w]
        rfl
      refine done_ (done_of HT_.out (by kernel_rfl)) ?_
      try go_wp2_with (first | ((with_reducible refine gate_callee (f := 36) rfl ?_); refine goesL_ (some 24) rfl rfl Tryd.func36 (by kernel_rfl) rfl #[.bool false, .slice Ao33 t534.length co33] rfl (by (try simp only [zMa, zMc, zMn]); first |  done|  rfl|  (simp only [zLd, zLt]; rfl)) ?_; (with_reducible refine (integer_signed.calls false _ _ t534 t541 t542 _ ?side1 ?side2 A20.out).mono ?_); (case side1 => exact uC (zVr HO536.out).2.2); (case side2 => exact (zVr HO536.out).2.1); rintro e w37 ⟨v543, rfl, ho0, hb⟩; refine ⟨_, rfl, ?_⟩; replace HO536 := zMk (zVe (by exact uV HO536.out) (zRz ho0) hb); replace HO539 := zMk (zVe (by exact uV HO539.out) (zRz ho0) hb); have HO544 := zMk (zRl (zRw ho0 (zRt (by exact uR HO533.out))) (zBs (by exact uT HB.out))); replace HO533 := zMk (zRe (by exact uR HO533.out) (zRz ho0) hb); replace BK528 := zMk (zKb (g := gb528) (o := .cells #[.bool false, .slice Ao27 t531.length co27] 24 (0, 0)) (by (with_reducible repeat (first |  refine zKn ?_ _|  refine zKd ?_|  refine zKa ?_ _)); exact BK528.out) hb); replace BK529 := zMk (zKb (g := gb529) (o := .cells #[.bool false, .slice none 0 0] 24 (0, 0)) (by (with_reducible repeat (first |  refine zKn ?_ _|  refine zKd ?_|  refine zKa ?_ _)); exact BK529.out) hb); replace HB := zMk (zBt (by exact uT HB.out) hb); have hcz38_0 : w37.cell? ⟨gb529, 0, none⟩ = some (.bool false) := (zKc BK529.out 0).trans rfl; have hcz38_1 : w37.cell? ⟨gb529, 1, none⟩ = some (.slice none 0 0) := (zKc BK529.out 1).trans rfl; have hfz38_0 := zKf BK529.out 0; have hfz38_1 := zKf BK529.out 1; obtain ⟨Ao39, co39, eo39⟩ := zRs HO544.out; subst eo39))
      refine bodyPost_ret (results_ct rfl _ _ gb529 24 #[.bool t541, .slice Ao39 t542.length co39] (0, 0) _ rfl (by (with_reducible repeat (first | refine zKn ?_ _ | refine zKd ?_ | refine zKa ?_ _)); refine blk_put (cs := #[.bool t541, .slice none 0 0]) ?_ 1 _ rfl; (with_reducible repeat (first | refine zKn ?_ _ | refine zKd ?_ | refine zKa ?_ _)); refine blk_put (cs := #[.bool false, .slice none 0 0]) ?_ 0 _ rfl; (with_reducible repeat (first | refine zKn ?_ _ | refine zKd ?_ | refine zKa ?_ _)); exact BK529.out) Tryd.underlying24 rfl (by kernel_rfl)) rfl ?_
      exact ⟨_, by first | rfl | (simp [errW_none, errW_some] <;> rfl) | (simp [*, errW_none, errW_some] <;> rfl), by (with_reducible repeat (first | apply zRa | apply zRn | apply zRd)); exact zRm (Kd.R_far (p := ⟨gb529, 1, none⟩) (Kd.R_far (p := ⟨gb529, 0, none⟩) (Kd.R_types HO544.out BK529.out (by decide)) (fun _ hk => hk.2) (.bool t541)) (fun _ hk => hk.2) (.slice Ao39 t542.length co39)) (fun _ hk => trivial), by exact uT HB.out⟩
    · rw [if_neg c19] at H
      have c19b0 : (t540 == 0) = false := beq_eq_false_iff_ne.mpr c19
      have c19b1 : (t540 != 0) = true := bne_iff_ne.mpr c19
      simp only [Option.some.injEq, Prod.mk.injEq] at H
      obtain ⟨rfl, rfl, rfl⟩ := H
      go_enter Tryd.func25, Tryd.ntmps25
      try go_wp2_with (first | ((with_reducible refine gate_dst (N := 1) rfl ?_); refine box_event ?hg (N := 1) ?hd (cs := #[.bool a0_0, .slice A0_1 l0_1.length c0_1]) (t := 24) ?hr ?_; (case hd => rfl); (case hg => rfl); (case hr => first | (go_simp; done)|(go_simp; rfl)|(go_simp; rw [show ∀ x : Int, IntKind.u32.wrap (IntKind.u8.wrap x) = x % 256 from fun x => (by show (x % 256) % 4294967296 = x % 256; omega)])); intro gb528 hg w40 hbox hb; have BK528 := zMk (hbox); have GW528 := zMk ((by rw [hg]; exact (zBs (by exact uT HB.out)) : w.heap.size ≤ gb528)); have GE528 := zMk ((by rw [hg]; exact (zBs (by exact uT HB.out)) : w.heap.size ≤ gb528)); have IGE528 := ownGe GE528.out; replace HB := zMk (zBt (by exact uT HB.out) hb); clear hb hbox hg)|((with_reducible refine gate_dst (N := 2) rfl ?_); refine box_event ?hg (N := 2) ?hd (cs := #[.bool false, .slice none 0 0]) (t := 24) ?hr ?_; (case hd => rfl); (case hg => rfl); (case hr => first | (go_simp; done)|(go_simp; rfl)|(go_simp; rw [show ∀ x : Int, IntKind.u32.wrap (IntKind.u8.wrap x) = x % 256 from fun x => (by show (x % 256) % 4294967296 = x % 256; omega)])); intro gb529 hg w41 hbox hb; have BK529 := zMk (hbox); have GW529 := zMk ((by rw [hg]; exact (zBs (by exact uT HB.out)) : w.heap.size ≤ gb529)); have GE529 := zMk ((by rw [hg]; exact (zBs (by exact uT HB.out)) : w.heap.size ≤ gb529)); have IGE529 := ownGe GE529.out; replace HB := zMk (zBt (by exact uT HB.out) hb); have NB528_529 := zMk ((by rw [hg]; exact Nat.ne_of_lt (blk_lt (g := gb528) (o := .cells #[.bool a0_0, .slice A0_1 l0_1.length c0_1] 24 (0, 0)) (by (with_reducible repeat (first |  refine zKn ?_ _|  refine zKd ?_|  refine zKa ?_ _)); exact BK528.out)) : gb528 ≠ gb529)); have NB529_528 := zMk ((by rw [hg]; exact Nat.ne_of_gt (blk_lt (g := gb528) (o := .cells #[.bool a0_0, .slice A0_1 l0_1.length c0_1] 24 (0, 0)) (by (with_reducible repeat (first |  refine zKn ?_ _|  refine zKd ?_|  refine zKa ?_ _)); exact BK528.out)) : gb529 ≠ gb528)); replace BK528 := zMk (zKb (g := gb528) (o := .cells #[.bool a0_0, .slice A0_1 l0_1.length c0_1] 24 (0, 0)) (by (with_reducible repeat (first |  refine zKn ?_ _|  refine zKd ?_|  refine zKa ?_ _)); exact BK528.out) hb); clear hb hbox hg; have hnb42 := NB528_529.out; have hnc42 := NB529_528.out; have hcz43_0 : w41.cell? ⟨gb528, 0, none⟩ = some (.bool a0_0) := (zKc BK528.out 0).trans rfl; have hcz43_1 : w41.cell? ⟨gb528, 1, none⟩ = some (.slice A0_1 l0_1.length c0_1) := (zKc BK528.out 1).trans rfl; have hfz43_0 := zKf BK528.out 0; have hfz43_1 := zKf BK528.out 1)|((with_reducible refine gate_callee (f := 47) rfl ?_); refine goesL_ (some 6) rfl rfl Tryd.func47 (by kernel_rfl) rfl #[.agg #[.bool a0_0, .slice A0_1 l0_1.length c0_1]] rfl (by (try simp only [zMa, zMc, zMn]); first |  done|  rfl|  (simp only [zLd, zLt]; rfl)) ?_; (with_reducible refine (integer_Norm.calls a0_0 _ _ l0_1 false t531 _ ?side1 ?side2 A2.out).mono ?_); (case side1 => repeat (first |  exact (Kd.C_below HR0_1.out HB.out)|(with_reducible refine zCa ?_ _)|(with_reducible refine zCn ?_ _)|(with_reducible refine zCd ?_))); (case side2 => exact HC0_1.out); rintro e w44 ⟨v532, rfl, ho0, hb⟩; refine ⟨_, rfl, ?_⟩; have HO533 := zMk (zRl ho0 (zBs (by exact uT HB.out))); replace BK528 := zMk (zKb (g := gb528) (o := .cells #[.bool a0_0, .slice A0_1 l0_1.length c0_1] 24 (0, 0)) (by (with_reducible repeat (first |  refine zKn ?_ _|  refine zKd ?_|  refine zKa ?_ _)); exact BK528.out) hb); replace BK529 := zMk (zKb (g := gb529) (o := .cells #[.bool false, .slice none 0 0] 24 (0, 0)) (by (with_reducible repeat (first |  refine zKn ?_ _|  refine zKd ?_|  refine zKa ?_ _)); exact BK529.out) hb); replace HB := zMk (zBt (by exact uT HB.out) hb); have hcz45_0 : w44.cell? ⟨gb528, 0, none⟩ = some (.bool a0_0) := (zKc BK528.out 0).trans rfl; have hcz45_1 : w44.cell? ⟨gb528, 1, none⟩ = some (.slice A0_1 l0_1.length c0_1) := (zKc BK528.out 1).trans rfl; have hfz45_0 := zKf BK528.out 0; have hfz45_1 := zKf BK528.out 1; obtain ⟨Ao46, co46, eo46⟩ := zRs HO533.out; subst eo46)|((with_reducible refine gate_store (t := 24) (p := 1) rfl ?_); refine store_event (t := 24) (p := 1) (v := ?vo_w47) (w1 := ((w44.setCell ⟨gb528, 0, none⟩ (.bool false)).setCell ⟨gb528, 1, none⟩ (.slice Ao46 t531.length co46))) ?hg ?ho ?hn ?hr ?_; (case ho => rfl); (case hg => rfl); (case hn => rfl); (case hr => first | (go_simp; done)|(go_simp; rfl)|(go_simp; rw [show ∀ x : Int, IntKind.u32.wrap (IntKind.u8.wrap x) = x % 256 from fun x => (by show (x % 256) % 4294967296 = x % 256; omega)])); intro w47 hw; have n0_ : Aside0 (Kd.R (Kd.int .u32) 58 w47 w.heap.size (fun _ => True) (.slice Ao46 t531.length co46) t531) := ⟨(by rw [hw]; exact (by (with_reducible repeat (first |  apply zRa|  apply zRn|  apply zRd)); exact zRm (Kd.R_far (p := ⟨gb528, 1, none⟩) (Kd.R_far (p := ⟨gb528, 0, none⟩) (Kd.R_types HO533.out BK528.out (by decide)) (fun _ hk => hk.2) (.bool false)) (fun _ hk => hk.2) (.slice Ao46 t531.length co46)) (fun _ hk => trivial)))⟩; have n1_ : Aside0 (w47.heap[gb528]? = some (.cells #[.bool false, .slice Ao46 t531.length co46] 24 (0, 0))) := ⟨(by rw [hw]; exact (by (with_reducible repeat (first |  refine zKn ?_ _|  refine zKd ?_|  refine zKa ?_ _)); refine blk_put (cs := #[.bool false, .slice A0_1 l0_1.length c0_1]) ?_ 1 _ rfl; (with_reducible repeat (first |  refine zKn ?_ _|  refine zKd ?_|  refine zKa ?_ _)); refine blk_put (cs := #[.bool a0_0, .slice A0_1 l0_1.length c0_1]) ?_ 0 _ rfl; (with_reducible repeat (first |  refine zKn ?_ _|  refine zKd ?_|  refine zKa ?_ _)); exact BK528.out))⟩; have n2_ : Aside0 (w47.heap[gb529]? = some (.cells #[.bool false, .slice none 0 0] 24 (0, 0))) := ⟨(by rw [hw]; exact (by (with_reducible repeat (first |  refine zKn ?_ _|  refine zKd ?_|  refine zKa ?_ _)); refine blk_far ?_ NB529_528.out _; (with_reducible repeat (first |  refine zKn ?_ _|  refine zKd ?_|  refine zKa ?_ _)); refine blk_far ?_ NB529_528.out _; (with_reducible repeat (first |  refine zKn ?_ _|  refine zKd ?_|  refine zKa ?_ _)); exact BK529.out))⟩; have n3_ : Aside0 (Below w.heap.size w w47) := ⟨(by rw [hw]; exact (by exact uT HB.out))⟩; clear hw HO533 BK528 BK529 HB; have HO533 := n0_; have BK528 := n1_; have BK529 := n2_; have HB := n3_; clear n0_ n1_ n2_ n3_; have hcz48_0 : w47.cell? ⟨gb528, 0, none⟩ = some (.bool false) := (zKc BK528.out 0).trans rfl; have hcz48_1 : w47.cell? ⟨gb528, 1, none⟩ = some (.slice Ao46 t531.length co46) := (zKc BK528.out 1).trans rfl; have hfz48_0 := zKf BK528.out 0; have hfz48_1 := zKf BK528.out 1)|((with_reducible refine gate_callee (f := 48) rfl ?_); refine goesL_ (some 9) rfl rfl Tryd.func48 (by kernel_rfl) rfl #[.slice Ao46 t531.length co46] rfl (by (try simp only [zMa, zMc, zMn]); first |  done|  rfl|  (simp only [zLd, zLt]; rfl)) ?_; (with_reducible refine (n_Sqrt.calls k (fun k_ => some k_ = (.slice Ao46 t531.length co46 : Value).ownBlock) _ _ t531 t534 _ ?side1 A3.out).mono ?_); (case side1 => exact Kd.R_V (Kd.R_tight rfl (Kd.R_types (Kd.R_types (HO533.out) BK528.out (by decide)) BK529.out (by decide)))); rintro e w49 ⟨v535, rfl, ho0, hb⟩; refine ⟨_, rfl, ?_⟩; have HO536 := zMk (zVl (zVm (ok' := fun k_ => k_ ≠ gb528 ∧ k_ ≠ gb529) ho0 (fun k_ hk_ => ⟨Or.elim hk_ (fun hs_ => ((Kd.R_types (Kd.R_types (HO533.out) BK528.out (by decide)) BK529.out (by decide)).1 k_ hs_.symm).1.2) (fun hn_ => (Kd.freshB (g := gb528) (o := .cells #[.bool false, .slice Ao46 t531.length co46] 24 (0, 0)) (by (with_reducible repeat (first |  refine zKn ?_ _|  refine zKd ?_|  refine zKa ?_ _)); exact BK528.out) k_ hn_)), Or.elim hk_ (fun hs_ => ((Kd.R_types (Kd.R_types (HO533.out) BK528.out (by decide)) BK529.out (by decide)).1 k_ hs_.symm).2) (fun hn_ => (Kd.freshB (g := gb529) (o := .cells #[.bool false, .slice none 0 0] 24 (0, 0)) (by (with_reducible repeat (first |  refine zKn ?_ _|  refine zKd ?_|  refine zKa ?_ _)); exact BK529.out) k_ hn_))⟩)) (zBs (by exact uT HB.out))); replace HO533 := zMk (zRb (by exact uR HO533.out) hb); replace BK528 := zMk (zKb (g := gb528) (o := .cells #[.bool false, .slice Ao46 t531.length co46] 24 (0, 0)) (by (with_reducible repeat (first |  refine zKn ?_ _|  refine zKd ?_|  refine zKa ?_ _)); exact BK528.out) hb); replace BK529 := zMk (zKb (g := gb529) (o := .cells #[.bool false, .slice none 0 0] 24 (0, 0)) (by (with_reducible repeat (first |  refine zKn ?_ _|  refine zKd ?_|  refine zKa ?_ _)); exact BK529.out) hb); replace HB := zMk (zBt (by exact uT HB.out) hb); have hcz50_0 : w49.cell? ⟨gb528, 0, none⟩ = some (.bool false) := (zKc BK528.out 0).trans rfl; have hcz50_1 : w49.cell? ⟨gb528, 1, none⟩ = some (.slice Ao46 t531.length co46) := (zKc BK528.out 1).trans rfl; have hfz50_0 := zKf BK528.out 0; have hfz50_1 := zKf BK528.out 1))
      replace HO533 := zMk (zRd HO533.out)
      replace HO536 := zMk (zVd HO536.out)
      replace BK528 := zMk (zKd BK528.out)
      replace BK529 := zMk (zKd BK529.out)
      replace HB := zMk (zBd HB.out)
      obtain ⟨Ao52, co52, eo52⟩ := zVs HO536.out
      (first |  subst eo52|  (injection eo52 with f1_ f2_ f3_; have f4_ := f1_.symm; have f5_ := f3_.symm; clear f1_ f2_ f3_; subst f4_; subst f5_))
      refine start_ (n := 8) (S := fun w' => w'.cell? ⟨gb528, 0, none⟩ = some (.bool false) ∧ w'.cell? ⟨gb528, 1, none⟩ = some (.slice Ao46 t531.length co46)) (ds := []) #[false, false, false, false, false, false, false, false] (by kernel_rfl) rfl rfl ⟨(zKc BK528.out 0).trans rfl, (zKc BK528.out 1).trans rfl⟩ (fun hHeld => ?_); refine with_tabW integer_Sqrt.tab5 integer_Sqrt.bits5 (fun HT_ HW_ => ?_)
      generalize w49.drew = w51 at HO533 HO536 BK528 BK529 HB hHeld ⊢
      refine pure_ (i := 0) (N := some 15) (v := ?_) (a' := ?_) #[true, false, false, false, false, false, false, false] rfl rfl (any_of HT_.out (by kernel_rfl)) (fun _ _ _ h => h) (Or.inl ⟨by rfl, ?_⟩) ?_ ?_
      rotate_left
      · intro w'
        go_simp
        with_reducible rfl
      rotate_left
      · simp only [Act.put, zSa, zSb, zSc, i64_w, i32_w]
        rfl
      refine pure_ (i := 1) (N := some 16) (v := ?_) (a' := ?_) #[true, true, false, false, false, false, false, false] rfl rfl (any_of HT_.out (by kernel_rfl)) (fun _ _ _ h => h) (Or.inl ⟨by rfl, ?_⟩) ?_ ?_
      rotate_left
      · intro w'
        go_simp
        with_reducible rfl
      rotate_left
      · simp only [Act.put, zSa, zSb, zSc, i64_w, i32_w]
        rfl
      refine pure_ (i := 3) (N := some 18) (v := ?_) (a' := ?_) #[true, true, false, true, false, false, false, false] rfl rfl (any_of HT_.out (by kernel_rfl)) (fun _ _ _ h => h) (Or.inl ⟨by rfl, ?_⟩) ?_ ?_
      rotate_left
      · intro w'
        go_simp
        with_reducible rfl
      rotate_left
      · simp only [Act.put, zSa, zSb, zSc, i64_w, i32_w]
        rfl
      refine take_ (i := 4) (N := some 19) (v := ?_) (a' := ?_) #[true, true, false, true, true, false, false, false] rfl rfl (take_ofW HT_.out HW_.out (by kernel_rfl)) (fun _ _ _ h => h) (Or.inl ⟨by rfl, ?_⟩) hHeld ?_ ?_
      rotate_left
      · rintro w' ⟨s0, s1⟩
        go_simp
        with_reducible rfl
      rotate_left
      · simp only [Act.put, zSa, zSb, zSc, i64_w, i32_w]
        rfl
      refine one_ (i := 2) (N := some 17) #[true, true, true, true, true, false, false, false] rfl rfl (one_of HT_.out (by kernel_rfl)) (by decide) (fun K hK => ?_)
      refine goes_ Tryd.func45 (by kernel_rfl) rfl #[.slice Ao52 t534.length co52, .slice Ao52 t534.length co52] (by rfl) rfl rfl (by (try simp only [zMa, zMc, zMn]); first | done | rfl | (simp only [zLd, zLt]; rfl)) ?_
      with_reducible refine (n_Mul.calls k (fun k_ => (k_ ≠ gb528 ∧ k_ ≠ gb529)) _ _ t534 (fun k_ => (k_ ≠ gb528 ∧ k_ ≠ gb529)) _ _ t534 t537 _ ?side1 ?side2 A17.out).mono ?_
      (case side1 => exact HO536.out)
      (case side2 => exact HO536.out)
      rintro e w53 ⟨v538, rfl, ho0, hb⟩
      refine ⟨_, rfl, ?_⟩
      replace HO533 := zMk (zRb (by exact uR HO533.out) hb)
      replace HO536 := zMk (zVb (by exact uV HO536.out) hb)
      have HO539 := zMk (zVl (zVm (ok' := fun k_ => k_ ≠ gb528 ∧ k_ ≠ gb529) ho0 (fun k_ hk_ => ⟨Or.elim hk_ (fun hs_ => Or.elim hs_ (fun hs_ => hs_.1) (fun hs_ => hs_.1)) (fun hn_ => (Kd.freshB (g := gb528) (o := .cells #[.bool false, .slice Ao46 t531.length co46] 24 (0, 0)) (by (with_reducible repeat (first | refine zKn ?_ _ | refine zKd ?_ | refine zKa ?_ _)); exact BK528.out) k_ hn_)), Or.elim hk_ (fun hs_ => Or.elim hs_ (fun hs_ => hs_.2) (fun hs_ => hs_.2)) (fun hn_ => (Kd.freshB (g := gb529) (o := .cells #[.bool false, .slice none 0 0] 24 (0, 0)) (by (with_reducible repeat (first | refine zKn ?_ _ | refine zKd ?_ | refine zKa ?_ _)); exact BK529.out) k_ hn_))⟩)) (zBs (by exact uT HB.out)))
      replace BK528 := zMk (zKb (g := gb528) (o := .cells #[.bool false, .slice Ao46 t531.length co46] 24 (0, 0)) (by (with_reducible repeat (first | refine zKn ?_ _ | refine zKd ?_ | refine zKa ?_ _)); exact BK528.out) hb)
      replace BK529 := zMk (zKb (g := gb529) (o := .cells #[.bool false, .slice none 0 0] 24 (0, 0)) (by (with_reducible repeat (first | refine zKn ?_ _ | refine zKd ?_ | refine zKa ?_ _)); exact BK529.out) hb)
      replace HB := zMk (zBt (by exact uT HB.out) hb)
      obtain ⟨Ao54, co54, eo54⟩ := zVs HO539.out
      (first |  subst eo54|  (injection eo54 with f1_ f2_ f3_; have f4_ := f1_.symm; have f5_ := f3_.symm; clear f1_ f2_ f3_; subst f4_; subst f5_))
      refine hK.out _ _ ⟨(zKc BK528.out 0).trans rfl, (zKc BK528.out 1).trans rfl⟩ (fun hHeld => ?_)
      clear hK K
      refine norm_ (a' := ?_) ?_ ?_
      rotate_left
      · show Act.put _ (some 17) _ = _
        simp only [Act.put, zSa, zSb, zSc, i64_w, i32_w]
        rfl
      refine one_ (i := 5) (N := some 20) #[true, true, true, true, true, true, false, false] rfl rfl (one_of HT_.out (by kernel_rfl)) (by decide) (fun K hK => ?_)
      refine goes_ Tryd.func49 (by kernel_rfl) rfl #[.slice Ao54 t537.length co54, .slice Ao46 t531.length co46] (by rfl) rfl rfl (by (try simp only [zMa, zMc, zMn]); first | done | rfl | (simp only [zLd, zLt]; rfl)) ?_
      with_reducible refine (n_Cmp.calls _ _ t537 _ _ t531 t540 _ ?side1 ?side2 ?side3 ?side4 A18.out).mono ?_
      (case side1 => exact uC (zVr HO539.out).2.2)
      (case side2 => exact (zVr HO539.out).2.1)
      (case side3 => exact uC (zRr HO533.out).2.2)
      (case side4 => exact (zRr HO533.out).2.1)
      rintro e w55 ⟨rfl, hb⟩
      refine ⟨_, rfl, ?_⟩
      replace HO533 := zMk (zRb (by exact uR HO533.out) hb)
      replace HO536 := zMk (zVb (by exact uV HO536.out) hb)
      replace HO539 := zMk (zVb (by exact uV HO539.out) hb)
      replace BK528 := zMk (zKb (g := gb528) (o := .cells #[.bool false, .slice Ao46 t531.length co46] 24 (0, 0)) (by (with_reducible repeat (first | refine zKn ?_ _ | refine zKd ?_ | refine zKa ?_ _)); exact BK528.out) hb)
      replace BK529 := zMk (zKb (g := gb529) (o := .cells #[.bool false, .slice none 0 0] 24 (0, 0)) (by (with_reducible repeat (first | refine zKn ?_ _ | refine zKd ?_ | refine zKa ?_ _)); exact BK529.out) hb)
      replace HB := zMk (zBt (by exact uT HB.out) hb)
      refine hK.out _ _ ⟨(zKc BK528.out 0).trans rfl, (zKc BK528.out 1).trans rfl⟩ (fun hHeld => ?_)
      clear hK K
      refine norm_ (a' := ?_) ?_ ?_
      rotate_left
      · show Act.put _ (some 20) _ = _
        simp only [Act.put, zSa, zSb, zSc, i64_w, i32_w]
        rfl
      refine pure_ (i := 6) (N := some 21) (v := ?_) (a' := ?_) #[true, true, true, true, true, true, true, false] rfl rfl (any_of HT_.out (by kernel_rfl)) (fun _ _ _ h => h) (Or.inl ⟨by rfl, ?_⟩) ?_ ?_
      rotate_left
      · intro w'
        go_simp
        with_reducible rfl
      rotate_left
      · simp only [Act.put, zSa, zSb, zSc, i64_w, i32_w]
        rfl
      refine pure_ (i := 7) (N := some 14) (v := ?_) (a' := ?_) #[true, true, true, true, true, true, true, true] rfl rfl (any_of HT_.out (by kernel_rfl)) (fun _ _ _ h => h) (Or.inl ⟨by rfl, ?_⟩) ?_ ?_
      rotate_left
      · intro w'
        go_simp
        with_reducible rfl
      rotate_left
      · simp only [Act.put, zSa, zSb, zSc, i64_w, i32_w]
        rfl
      refine done_ (done_of HT_.out (by kernel_rfl)) ?_
      have hcz56_0 : w55.cell? ⟨gb529, 0, none⟩ = some (.bool false) := (zKc BK529.out 0).trans rfl
      have hcz56_1 : w55.cell? ⟨gb529, 1, none⟩ = some (.slice none 0 0) := (zKc BK529.out 1).trans rfl
      have hfz56_0 := zKf BK529.out 0
      have hfz56_1 := zKf BK529.out 1
      try go_wp2
      refine bodyPost_ret (results_ct rfl _ _ gb529 24 #[.bool false, .slice none 0 0] (0, 0) _ rfl (by (with_reducible repeat (first | refine zKn ?_ _ | refine zKd ?_ | refine zKa ?_ _)); refine blk_put (cs := #[.bool false, .slice none 0 0]) ?_ 1 _ rfl; (with_reducible repeat (first | refine zKn ?_ _ | refine zKd ?_ | refine zKa ?_ _)); refine blk_put (cs := #[.bool false, .slice none 0 0]) ?_ 0 _ rfl; (with_reducible repeat (first | refine zKn ?_ _ | refine zKd ?_ | refine zKa ?_ _)); exact BK529.out) Tryd.underlying24 rfl (by kernel_rfl)) rfl ?_
      exact ⟨_, by first | rfl | (simp [errW_none, errW_some] <;> rfl) | (simp [*, errW_none, errW_some] <;> rfl), by first | exact Kd.R_nil _ _ _ _ _ | exact Kd.N_nil _ _ _ _ _ | exact Kd.V_nil _ _ _ _ _ | exact Kd.Q_nil _ _ _ _ _ | exact Kd.S_nil _ _ _ _ _, by exact uT HB.out⟩


def filigreeref02_Sqrt.f (k : Nat) (a0_0 : Bool) (l0_1 : List Int) : Option (Bool × List Int × Int) := (filigreeref02_Norm.f k a0_0 l0_1).bind fun bt1019 => (if bt1019.1 = true then (some (false, ([] : List Int), 17)) else ((r1_Sqrt.f k bt1019.2).bind fun t1023 => ((r1_Mul.f k t1023 t1023).bind fun t1026 => ((r1_Cmp.f k t1026 bt1019.2).bind fun t1029 => (if t1029 = 0 then ((filigreeref02_make2.f k false t1023).bind fun bt1030 => (some (bt1030.1, bt1030.2, 0))) else (some (false, ([] : List Int), 16)))))))
theorem filigreeref02_Sqrt.calls (k : Nat) (a0_0 : Bool) (A0_1 : Option Addr) (c0_1 : Nat) (l0_1 : List Int) (r1 : Bool) (r2 : List Int) (r3 : Int) (w : World) (hr0_1 : Kd.C (Kd.int .u32) w A0_1 l0_1.length l0_1) (hc0_1 : l0_1.length ≤ c0_1) (h : filigreeref02_Sqrt.f k a0_0 l0_1 = some (r1, r2, r3)) :
    Calls Tryd.prog 26 #[.agg #[.bool a0_0, .slice A0_1 l0_1.length c0_1]] w fun e w' => ∃ v1_ : Value, e = .returned (.tuple #[.agg #[.bool r1, v1_], .int .i64 r3]) ∧ Kd.R (Kd.int .u32) 58 w' w.heap.size (fun _ => True) v1_ r2 ∧ Below w.heap.size w w' := by
  have hu24 := Tryd.underlying24
  have HR0_1 := zMk hr0_1
  have HC0_1 := zMk hc0_1
  clear hr0_1 hc0_1
  have HB := zMk (Below.refl w.heap.size w)
  have H : ((filigreeref02_Norm.f k a0_0 l0_1).bind fun bt1019 => (if bt1019.1 = true then (some (false, ([] : List Int), 17)) else ((r1_Sqrt.f k bt1019.2).bind fun t1023 => ((r1_Mul.f k t1023 t1023).bind fun t1026 => ((r1_Cmp.f k t1026 bt1019.2).bind fun t1029 => (if t1029 = 0 then ((filigreeref02_make2.f k false t1023).bind fun bt1030 => (some (bt1030.1, bt1030.2, 0))) else (some (false, ([] : List Int), 16)))))))) = some (r1, r2, r3) := h
  clear h
  replace H := bnd H
  obtain ⟨⟨t1019, t1020⟩, A20, H⟩ := H
  replace H : (if t1019 = true then (some (false, ([] : List Int), 17)) else ((r1_Sqrt.f k t1020).bind fun t1023 => ((r1_Mul.f k t1023 t1023).bind fun t1026 => ((r1_Cmp.f k t1026 t1020).bind fun t1029 => (if t1029 = 0 then ((filigreeref02_make2.f k false t1023).bind fun bt1030 => (some (bt1030.1, bt1030.2, 0))) else (some (false, ([] : List Int), 16))))))) = some (r1, r2, r3) := H
  have A2 := zMk A20
  clear A20
  by_cases c3 : t1019 = true
  · subst c3
    replace H : (some (false, ([] : List Int), 17)) = some (r1, r2, r3) := by rw [if_pos rfl] at H; exact H
    simp only [Option.some.injEq, Prod.mk.injEq] at H
    obtain ⟨rfl, rfl, rfl⟩ := H
    go_enter Tryd.func26, Tryd.ntmps26
    go_wp2_with (first | ((with_reducible refine gate_dst (N := 1) rfl ?_); refine box_event ?hg (N := 1) ?hd (cs := #[.bool a0_0, .slice A0_1 l0_1.length c0_1]) (t := 24) ?hr ?_; (case hd => rfl); (case hg => rfl); (case hr => first | (go_simp; done)|(go_simp; rfl)|(go_simp; rw [show ∀ x : Int, IntKind.u32.wrap (IntKind.u8.wrap x) = x % 256 from fun x => (by show (x % 256) % 4294967296 = x % 256; omega)])); intro gb1017 hg w4 hbox hb; have BK1017 := zMk (hbox); have GW1017 := zMk ((by rw [hg]; exact (zBs (by exact uT HB.out)) : w.heap.size ≤ gb1017)); have GE1017 := zMk ((by rw [hg]; exact (zBs (by exact uT HB.out)) : w.heap.size ≤ gb1017)); have IGE1017 := ownGe GE1017.out; replace HB := zMk (zBt (by exact uT HB.out) hb); clear hb hbox hg)|((with_reducible refine gate_dst (N := 2) rfl ?_); refine box_event ?hg (N := 2) ?hd (cs := #[.bool false, .slice none 0 0]) (t := 24) ?hr ?_; (case hd => rfl); (case hg => rfl); (case hr => first | (go_simp; done)|(go_simp; rfl)|(go_simp; rw [show ∀ x : Int, IntKind.u32.wrap (IntKind.u8.wrap x) = x % 256 from fun x => (by show (x % 256) % 4294967296 = x % 256; omega)])); intro gb1018 hg w5 hbox hb; have BK1018 := zMk (hbox); have GW1018 := zMk ((by rw [hg]; exact (zBs (by exact uT HB.out)) : w.heap.size ≤ gb1018)); have GE1018 := zMk ((by rw [hg]; exact (zBs (by exact uT HB.out)) : w.heap.size ≤ gb1018)); have IGE1018 := ownGe GE1018.out; replace HB := zMk (zBt (by exact uT HB.out) hb); have NB1017_1018 := zMk ((by rw [hg]; exact Nat.ne_of_lt (blk_lt (g := gb1017) (o := .cells #[.bool a0_0, .slice A0_1 l0_1.length c0_1] 24 (0, 0)) (by (with_reducible repeat (first |  refine zKn ?_ _|  refine zKd ?_|  refine zKa ?_ _)); exact BK1017.out)) : gb1017 ≠ gb1018)); have NB1018_1017 := zMk ((by rw [hg]; exact Nat.ne_of_gt (blk_lt (g := gb1017) (o := .cells #[.bool a0_0, .slice A0_1 l0_1.length c0_1] 24 (0, 0)) (by (with_reducible repeat (first |  refine zKn ?_ _|  refine zKd ?_|  refine zKa ?_ _)); exact BK1017.out)) : gb1018 ≠ gb1017)); replace BK1017 := zMk (zKb (g := gb1017) (o := .cells #[.bool a0_0, .slice A0_1 l0_1.length c0_1] 24 (0, 0)) (by (with_reducible repeat (first |  refine zKn ?_ _|  refine zKd ?_|  refine zKa ?_ _)); exact BK1017.out) hb); clear hb hbox hg; have hnb6 := NB1017_1018.out; have hnc6 := NB1018_1017.out; have hcz7_0 : w5.cell? ⟨gb1017, 0, none⟩ = some (.bool a0_0) := (zKc BK1017.out 0).trans rfl; have hcz7_1 : w5.cell? ⟨gb1017, 1, none⟩ = some (.slice A0_1 l0_1.length c0_1) := (zKc BK1017.out 1).trans rfl; have hfz7_0 := zKf BK1017.out 0; have hfz7_1 := zKf BK1017.out 1)|((with_reducible refine gate_callee (f := 24) rfl ?_); refine goesL_ (some 6) rfl rfl Tryd.func24 (by kernel_rfl) rfl #[.agg #[.bool a0_0, .slice A0_1 l0_1.length c0_1]] rfl (by (try simp only [zMa, zMc, zMn]); first |  done|  rfl|  (simp only [zLd, zLt]; rfl)) ?_; (with_reducible refine (filigreeref02_Norm.calls k a0_0 _ _ l0_1 true t1020 _ ?side1 ?side2 A2.out).mono ?_); (case side1 => repeat (first |  exact (Kd.C_below HR0_1.out HB.out)|(with_reducible refine zCa ?_ _)|(with_reducible refine zCn ?_ _)|(with_reducible refine zCd ?_))); (case side2 => exact HC0_1.out); rintro e w8 ⟨v1021, rfl, ho0, hb⟩; refine ⟨_, rfl, ?_⟩; have HO1022 := zMk (zRl ho0 (zBs (by exact uT HB.out))); replace BK1017 := zMk (zKb (g := gb1017) (o := .cells #[.bool a0_0, .slice A0_1 l0_1.length c0_1] 24 (0, 0)) (by (with_reducible repeat (first |  refine zKn ?_ _|  refine zKd ?_|  refine zKa ?_ _)); exact BK1017.out) hb); replace BK1018 := zMk (zKb (g := gb1018) (o := .cells #[.bool false, .slice none 0 0] 24 (0, 0)) (by (with_reducible repeat (first |  refine zKn ?_ _|  refine zKd ?_|  refine zKa ?_ _)); exact BK1018.out) hb); replace HB := zMk (zBt (by exact uT HB.out) hb); have hcz9_0 : w8.cell? ⟨gb1017, 0, none⟩ = some (.bool a0_0) := (zKc BK1017.out 0).trans rfl; have hcz9_1 : w8.cell? ⟨gb1017, 1, none⟩ = some (.slice A0_1 l0_1.length c0_1) := (zKc BK1017.out 1).trans rfl; have hfz9_0 := zKf BK1017.out 0; have hfz9_1 := zKf BK1017.out 1; obtain ⟨Ao10, co10, eo10⟩ := zRs HO1022.out; subst eo10; have hcz11_0 : w8.cell? ⟨gb1018, 0, none⟩ = some (.bool false) := (zKc BK1018.out 0).trans rfl; have hcz11_1 : w8.cell? ⟨gb1018, 1, none⟩ = some (.slice none 0 0) := (zKc BK1018.out 1).trans rfl; have hfz11_0 := zKf BK1018.out 0; have hfz11_1 := zKf BK1018.out 1))
    refine bodyPost_ret (results_ct rfl _ _ gb1018 24 #[.bool false, .slice none 0 0] (0, 0) _ rfl (by (with_reducible repeat (first | refine zKn ?_ _ | refine zKd ?_ | refine zKa ?_ _)); refine blk_put (cs := #[.bool false, .slice none 0 0]) ?_ 1 _ rfl; (with_reducible repeat (first | refine zKn ?_ _ | refine zKd ?_ | refine zKa ?_ _)); refine blk_put (cs := #[.bool false, .slice none 0 0]) ?_ 0 _ rfl; (with_reducible repeat (first | refine zKn ?_ _ | refine zKd ?_ | refine zKa ?_ _)); refine blk_far ?_ NB1018_1017.out _; (with_reducible repeat (first | refine zKn ?_ _ | refine zKd ?_ | refine zKa ?_ _)); refine blk_far ?_ NB1018_1017.out _; (with_reducible repeat (first | refine zKn ?_ _ | refine zKd ?_ | refine zKa ?_ _)); exact BK1018.out) Tryd.underlying24 rfl (by kernel_rfl)) rfl ?_
    exact ⟨_, by first | rfl | (simp [errW_none, errW_some] <;> rfl) | (simp [*, errW_none, errW_some] <;> rfl), by first | exact Kd.R_nil _ _ _ _ _ | exact Kd.N_nil _ _ _ _ _ | exact Kd.V_nil _ _ _ _ _ | exact Kd.Q_nil _ _ _ _ _ | exact Kd.S_nil _ _ _ _ _, by exact uT HB.out⟩
  · replace c3 := Bool.eq_false_iff.mpr c3
    subst c3
    replace H : ((r1_Sqrt.f k t1020).bind fun t1023 => ((r1_Mul.f k t1023 t1023).bind fun t1026 => ((r1_Cmp.f k t1026 t1020).bind fun t1029 => (if t1029 = 0 then ((filigreeref02_make2.f k false t1023).bind fun bt1030 => (some (bt1030.1, bt1030.2, 0))) else (some (false, ([] : List Int), 16)))))) = some (r1, r2, r3) := by rw [if_neg (show ¬ (false = true) by decide)] at H; exact H
    replace H := bnd H
    obtain ⟨t1023, A120, H⟩ := H
    have A12 := zMk A120
    clear A120
    replace H := bnd H
    obtain ⟨t1026, A130, H⟩ := H
    have A13 := zMk A130
    clear A130
    replace H := bnd H
    obtain ⟨t1029, A140, H⟩ := H
    have A14 := zMk A140
    clear A140
    by_cases c15 : t1029 = 0
    · rw [if_pos c15] at H
      have c15b0 : (t1029 == 0) = true := beq_iff_eq.mpr c15
      have c15b1 : (t1029 != 0) = false := bne_eq_false_iff_eq.mpr c15
      clear c15
      replace H := bnd H
      obtain ⟨⟨t1030, t1031⟩, A160, H⟩ := H
      replace H : (some (t1030, t1031, 0)) = some (r1, r2, r3) := H
      have A16 := zMk A160
      clear A160
      simp only [Option.some.injEq, Prod.mk.injEq] at H
      obtain ⟨rfl, rfl, rfl⟩ := H
      go_enter Tryd.func26, Tryd.ntmps26
      try go_wp2_with (first | ((with_reducible refine gate_dst (N := 1) rfl ?_); refine box_event ?hg (N := 1) ?hd (cs := #[.bool a0_0, .slice A0_1 l0_1.length c0_1]) (t := 24) ?hr ?_; (case hd => rfl); (case hg => rfl); (case hr => first | (go_simp; done)|(go_simp; rfl)|(go_simp; rw [show ∀ x : Int, IntKind.u32.wrap (IntKind.u8.wrap x) = x % 256 from fun x => (by show (x % 256) % 4294967296 = x % 256; omega)])); intro gb1017 hg w17 hbox hb; have BK1017 := zMk (hbox); have GW1017 := zMk ((by rw [hg]; exact (zBs (by exact uT HB.out)) : w.heap.size ≤ gb1017)); have GE1017 := zMk ((by rw [hg]; exact (zBs (by exact uT HB.out)) : w.heap.size ≤ gb1017)); have IGE1017 := ownGe GE1017.out; replace HB := zMk (zBt (by exact uT HB.out) hb); clear hb hbox hg)|((with_reducible refine gate_dst (N := 2) rfl ?_); refine box_event ?hg (N := 2) ?hd (cs := #[.bool false, .slice none 0 0]) (t := 24) ?hr ?_; (case hd => rfl); (case hg => rfl); (case hr => first | (go_simp; done)|(go_simp; rfl)|(go_simp; rw [show ∀ x : Int, IntKind.u32.wrap (IntKind.u8.wrap x) = x % 256 from fun x => (by show (x % 256) % 4294967296 = x % 256; omega)])); intro gb1018 hg w18 hbox hb; have BK1018 := zMk (hbox); have GW1018 := zMk ((by rw [hg]; exact (zBs (by exact uT HB.out)) : w.heap.size ≤ gb1018)); have GE1018 := zMk ((by rw [hg]; exact (zBs (by exact uT HB.out)) : w.heap.size ≤ gb1018)); have IGE1018 := ownGe GE1018.out; replace HB := zMk (zBt (by exact uT HB.out) hb); have NB1017_1018 := zMk ((by rw [hg]; exact Nat.ne_of_lt (blk_lt (g := gb1017) (o := .cells #[.bool a0_0, .slice A0_1 l0_1.length c0_1] 24 (0, 0)) (by (with_reducible repeat (first |  refine zKn ?_ _|  refine zKd ?_|  refine zKa ?_ _)); exact BK1017.out)) : gb1017 ≠ gb1018)); have NB1018_1017 := zMk ((by rw [hg]; exact Nat.ne_of_gt (blk_lt (g := gb1017) (o := .cells #[.bool a0_0, .slice A0_1 l0_1.length c0_1] 24 (0, 0)) (by (with_reducible repeat (first |  refine zKn ?_ _|  refine zKd ?_|  refine zKa ?_ _)); exact BK1017.out)) : gb1018 ≠ gb1017)); replace BK1017 := zMk (zKb (g := gb1017) (o := .cells #[.bool a0_0, .slice A0_1 l0_1.length c0_1] 24 (0, 0)) (by (with_reducible repeat (first |  refine zKn ?_ _|  refine zKd ?_|  refine zKa ?_ _)); exact BK1017.out) hb); clear hb hbox hg; have hnb19 := NB1017_1018.out; have hnc19 := NB1018_1017.out; have hcz20_0 : w18.cell? ⟨gb1017, 0, none⟩ = some (.bool a0_0) := (zKc BK1017.out 0).trans rfl; have hcz20_1 : w18.cell? ⟨gb1017, 1, none⟩ = some (.slice A0_1 l0_1.length c0_1) := (zKc BK1017.out 1).trans rfl; have hfz20_0 := zKf BK1017.out 0; have hfz20_1 := zKf BK1017.out 1)|((with_reducible refine gate_callee (f := 24) rfl ?_); refine goesL_ (some 6) rfl rfl Tryd.func24 (by kernel_rfl) rfl #[.agg #[.bool a0_0, .slice A0_1 l0_1.length c0_1]] rfl (by (try simp only [zMa, zMc, zMn]); first |  done|  rfl|  (simp only [zLd, zLt]; rfl)) ?_; (with_reducible refine (filigreeref02_Norm.calls k a0_0 _ _ l0_1 false t1020 _ ?side1 ?side2 A2.out).mono ?_); (case side1 => repeat (first |  exact (Kd.C_below HR0_1.out HB.out)|(with_reducible refine zCa ?_ _)|(with_reducible refine zCn ?_ _)|(with_reducible refine zCd ?_))); (case side2 => exact HC0_1.out); rintro e w21 ⟨v1021, rfl, ho0, hb⟩; refine ⟨_, rfl, ?_⟩; have HO1022 := zMk (zRl ho0 (zBs (by exact uT HB.out))); replace BK1017 := zMk (zKb (g := gb1017) (o := .cells #[.bool a0_0, .slice A0_1 l0_1.length c0_1] 24 (0, 0)) (by (with_reducible repeat (first |  refine zKn ?_ _|  refine zKd ?_|  refine zKa ?_ _)); exact BK1017.out) hb); replace BK1018 := zMk (zKb (g := gb1018) (o := .cells #[.bool false, .slice none 0 0] 24 (0, 0)) (by (with_reducible repeat (first |  refine zKn ?_ _|  refine zKd ?_|  refine zKa ?_ _)); exact BK1018.out) hb); replace HB := zMk (zBt (by exact uT HB.out) hb); have hcz22_0 : w21.cell? ⟨gb1017, 0, none⟩ = some (.bool a0_0) := (zKc BK1017.out 0).trans rfl; have hcz22_1 : w21.cell? ⟨gb1017, 1, none⟩ = some (.slice A0_1 l0_1.length c0_1) := (zKc BK1017.out 1).trans rfl; have hfz22_0 := zKf BK1017.out 0; have hfz22_1 := zKf BK1017.out 1; obtain ⟨Ao23, co23, eo23⟩ := zRs HO1022.out; subst eo23)|((with_reducible refine gate_callee (f := 50) rfl ?_); refine goesL_ (some 12) rfl rfl Tryd.func50 (by kernel_rfl) rfl #[.slice Ao23 t1020.length co23] rfl (by (try simp only [zMa, zMc, zMn]); first |  done|  rfl|  (simp only [zLd, zLt]; rfl)) ?_; (with_reducible refine (r1_Sqrt.calls k _ _ t1020 t1023 _ ?side1 ?side2 A12.out).mono ?_); (case side1 => refine (zRr (e := 58) (base := w.heap.size) (ok := fun k_ => True) (n := t1020.length) (c := co23) ?_).2.2; exact (by (with_reducible repeat (first |  apply zRa|  apply zRn|  apply zRd)); exact (zRm (Kd.R_far (p := ⟨gb1017, 1, none⟩) (Kd.R_far (p := ⟨gb1017, 0, none⟩) (Kd.R_types HO1022.out BK1017.out (by decide)) (fun _ hk => hk.2) (.bool false)) (fun _ hk => hk.2) (.slice Ao23 t1020.length co23)) (fun _ h_ => h_.1)))); (case side2 => exact (zRr HO1022.out).2.1); rintro e w24 ⟨v1024, rfl, ho0, hb⟩; refine ⟨_, rfl, ?_⟩; have HO1025 := zMk (zRl (zRw ho0 (zRt (by (with_reducible repeat (first |  apply zRa|  apply zRn|  apply zRd)); exact (zRm (Kd.R_far (p := ⟨gb1017, 1, none⟩) (Kd.R_far (p := ⟨gb1017, 0, none⟩) (Kd.R_types HO1022.out BK1017.out (by decide)) (fun _ hk => hk.2) (.bool false)) (fun _ hk => hk.2) (.slice Ao23 t1020.length co23)) (fun _ h_ => h_.1))))) (zBs (by exact uT HB.out))); replace HO1022 := zMk (zRe (by (with_reducible repeat (first |  apply zRa|  apply zRn|  apply zRd)); exact (zRm (Kd.R_far (p := ⟨gb1017, 1, none⟩) (Kd.R_far (p := ⟨gb1017, 0, none⟩) (Kd.R_types HO1022.out BK1017.out (by decide)) (fun _ hk => hk.2) (.bool false)) (fun _ hk => hk.2) (.slice Ao23 t1020.length co23)) (fun _ h_ => h_.1))) (zRz ho0) hb); replace BK1017 := zMk (zKb (g := gb1017) (o := .cells #[.bool false, .slice Ao23 t1020.length co23] 24 (0, 0)) (by (with_reducible repeat (first |  refine zKn ?_ _|  refine zKd ?_|  refine zKa ?_ _)); refine blk_put (cs := #[.bool false, .slice A0_1 l0_1.length c0_1]) ?_ 1 _ rfl; (with_reducible repeat (first |  refine zKn ?_ _|  refine zKd ?_|  refine zKa ?_ _)); refine blk_put (cs := #[.bool a0_0, .slice A0_1 l0_1.length c0_1]) ?_ 0 _ rfl; (with_reducible repeat (first |  refine zKn ?_ _|  refine zKd ?_|  refine zKa ?_ _)); exact BK1017.out) hb); replace BK1018 := zMk (zKb (g := gb1018) (o := .cells #[.bool false, .slice none 0 0] 24 (0, 0)) (by (with_reducible repeat (first |  refine zKn ?_ _|  refine zKd ?_|  refine zKa ?_ _)); refine blk_far ?_ NB1018_1017.out _; (with_reducible repeat (first |  refine zKn ?_ _|  refine zKd ?_|  refine zKa ?_ _)); refine blk_far ?_ NB1018_1017.out _; (with_reducible repeat (first |  refine zKn ?_ _|  refine zKd ?_|  refine zKa ?_ _)); exact BK1018.out) hb); replace HB := zMk (zBt (by exact uT HB.out) hb)))
      replace HO1022 := zMk (zRd HO1022.out)
      replace HO1025 := zMk (zRd HO1025.out)
      replace BK1017 := zMk (zKd BK1017.out)
      replace BK1018 := zMk (zKd BK1018.out)
      replace HB := zMk (zBd HB.out)
      obtain ⟨Ao26, co26, eo26⟩ := zRs HO1025.out
      (first |  subst eo26|  (injection eo26 with f1_ f2_ f3_; have f4_ := f1_.symm; have f5_ := f3_.symm; clear f1_ f2_ f3_; subst f4_; subst f5_))
      refine start_ (n := 7) (S := fun w' => w'.cell? ⟨gb1017, 0, none⟩ = some (.bool false) ∧ w'.cell? ⟨gb1017, 1, none⟩ = some (.slice Ao23 t1020.length co23)) (ds := []) #[false, false, false, false, false, false, false] (by kernel_rfl) rfl rfl ⟨(zKc BK1017.out 0).trans rfl, (zKc BK1017.out 1).trans rfl⟩ (fun hHeld => ?_)
      generalize w24.drew = w25 at HO1022 HO1025 BK1017 BK1018 HB hHeld ⊢
      refine pure_ (i := 0) (N := some 13) (v := ?_) (a' := ?_) #[true, false, false, false, false, false, false] rfl rfl (by kernel_rfl) (fun _ _ _ h => h) (Or.inl ⟨by rfl, ?_⟩) ?_ ?_
      rotate_left
      · intro w'
        go_simp
        with_reducible rfl
      rotate_left
      · simp only [Act.put, zSa, zSb, zSc, i64_w, i32_w]
        rfl
      refine pure_ (i := 1) (N := some 14) (v := ?_) (a' := ?_) #[true, true, false, false, false, false, false] rfl rfl (by kernel_rfl) (fun _ _ _ h => h) (Or.inl ⟨by rfl, ?_⟩) ?_ ?_
      rotate_left
      · intro w'
        go_simp
        with_reducible rfl
      rotate_left
      · simp only [Act.put, zSa, zSb, zSc, i64_w, i32_w]
        rfl
      refine pure_ (i := 3) (N := some 16) (v := ?_) (a' := ?_) #[true, true, false, true, false, false, false] rfl rfl (by kernel_rfl) (fun _ _ _ h => h) (Or.inl ⟨by rfl, ?_⟩) ?_ ?_
      rotate_left
      · intro w'
        go_simp
        with_reducible rfl
      rotate_left
      · simp only [Act.put, zSa, zSb, zSc, i64_w, i32_w]
        rfl
      refine take_ (i := 4) (N := some 17) (v := ?_) (a' := ?_) #[true, true, false, true, true, false, false] rfl rfl (by kernel_rfl) (fun _ _ _ h => h) (Or.inl ⟨by rfl, ?_⟩) hHeld ?_ ?_
      rotate_left
      · rintro w' ⟨s0, s1⟩
        go_simp
        with_reducible rfl
      rotate_left
      · simp only [Act.put, zSa, zSb, zSc, i64_w, i32_w]
        rfl
      refine one_ (i := 2) (N := some 15) #[true, true, true, true, true, false, false] rfl rfl (by kernel_rfl) (by decide) (fun K hK => ?_)
      refine goes_ Tryd.func46 (by kernel_rfl) rfl #[.slice Ao26 t1023.length co26, .slice Ao26 t1023.length co26] (by rfl) rfl rfl (by (try simp only [zMa, zMc, zMn]); first | done | rfl | (simp only [zLd, zLt]; rfl)) ?_
      with_reducible refine (r1_Mul.calls k _ _ t1023 _ _ t1023 t1026 _ ?side1 ?side2 ?side3 ?side4 A13.out).mono ?_
      (case side1 => exact uC (zRr HO1025.out).2.2)
      (case side2 => exact (zRr HO1025.out).2.1)
      (case side3 => exact uC (zRr HO1025.out).2.2)
      (case side4 => exact (zRr HO1025.out).2.1)
      rintro e w27 ⟨v1027, rfl, ho0, hb⟩
      refine ⟨_, rfl, ?_⟩
      have HO1028 := zMk (zRl (zRw (zRw ho0 (zRt (by exact uR HO1022.out))) (zRt (by exact uR HO1025.out))) (zBs (by exact uT HB.out)))
      replace HO1022 := zMk (zRe (by exact uR HO1022.out) (zRz ho0) hb)
      replace HO1025 := zMk (zRe (by exact uR HO1025.out) (zRz ho0) hb)
      replace BK1017 := zMk (zKb (g := gb1017) (o := .cells #[.bool false, .slice Ao23 t1020.length co23] 24 (0, 0)) (by (with_reducible repeat (first | refine zKn ?_ _ | refine zKd ?_ | refine zKa ?_ _)); exact BK1017.out) hb)
      replace BK1018 := zMk (zKb (g := gb1018) (o := .cells #[.bool false, .slice none 0 0] 24 (0, 0)) (by (with_reducible repeat (first | refine zKn ?_ _ | refine zKd ?_ | refine zKa ?_ _)); exact BK1018.out) hb)
      replace HB := zMk (zBt (by exact uT HB.out) hb)
      obtain ⟨Ao28, co28, eo28⟩ := zRs HO1028.out
      (first |  subst eo28|  (injection eo28 with f1_ f2_ f3_; have f4_ := f1_.symm; have f5_ := f3_.symm; clear f1_ f2_ f3_; subst f4_; subst f5_))
      refine hK.out _ _ ⟨(zKc BK1017.out 0).trans rfl, (zKc BK1017.out 1).trans rfl⟩ (fun hHeld => ?_)
      clear hK K
      refine norm_ (a' := ?_) ?_ ?_
      rotate_left
      · show Act.put _ (some 15) _ = _
        simp only [Act.put, zSa, zSb, zSc, i64_w, i32_w]
        rfl
      refine one_ (i := 5) (N := some 18) #[true, true, true, true, true, true, false] rfl rfl (by kernel_rfl) (by decide) (fun K hK => ?_)
      refine goes_ Tryd.func42 (by kernel_rfl) rfl #[.slice Ao28 t1026.length co28, .slice Ao23 t1020.length co23] (by rfl) rfl rfl (by (try simp only [zMa, zMc, zMn]); first | done | rfl | (simp only [zLd, zLt]; rfl)) ?_
      with_reducible refine (r1_Cmp.calls k _ _ t1026 _ _ t1020 t1029 _ ?side1 ?side2 ?side3 ?side4 A14.out).mono ?_
      (case side1 => exact uC (zRr HO1028.out).2.2)
      (case side2 => exact (zRr HO1028.out).2.1)
      (case side3 => exact uC (zRr HO1022.out).2.2)
      (case side4 => exact (zRr HO1022.out).2.1)
      rintro e w29 ⟨rfl, hb⟩
      refine ⟨_, rfl, ?_⟩
      replace HO1022 := zMk (zRb (by exact uR HO1022.out) hb)
      replace HO1025 := zMk (zRb (by exact uR HO1025.out) hb)
      replace HO1028 := zMk (zRb (by exact uR HO1028.out) hb)
      replace BK1017 := zMk (zKb (g := gb1017) (o := .cells #[.bool false, .slice Ao23 t1020.length co23] 24 (0, 0)) (by (with_reducible repeat (first | refine zKn ?_ _ | refine zKd ?_ | refine zKa ?_ _)); exact BK1017.out) hb)
      replace BK1018 := zMk (zKb (g := gb1018) (o := .cells #[.bool false, .slice none 0 0] 24 (0, 0)) (by (with_reducible repeat (first | refine zKn ?_ _ | refine zKd ?_ | refine zKa ?_ _)); exact BK1018.out) hb)
      replace HB := zMk (zBt (by exact uT HB.out) hb)
      refine hK.out _ _ ⟨(zKc BK1017.out 0).trans rfl, (zKc BK1017.out 1).trans rfl⟩ (fun hHeld => ?_)
      clear hK K
      refine norm_ (a' := ?_) ?_ ?_
      rotate_left
      · show Act.put _ (some 18) _ = _
        simp only [Act.put, zSa, zSb, zSc, i64_w, i32_w]
        rfl
      refine pure_ (i := 6) (N := some 19) (v := ?_) (a' := ?_) #[true, true, true, true, true, true, true] rfl rfl (by kernel_rfl) (fun _ _ _ h => h) (Or.inl ⟨by rfl, ?_⟩) ?_ ?_
      rotate_left
      · intro w'
        go_simp
        with_reducible rfl
      rotate_left
      · simp only [Act.put, zSa, zSb, zSc, i64_w, i32_w]
        rfl
      refine done_ (by kernel_rfl) ?_
      try go_wp2_with (first | ((with_reducible refine gate_callee (f := 38) rfl ?_); refine goesL_ (some 22) rfl rfl Tryd.func38 (by kernel_rfl) rfl #[.bool false, .slice Ao26 t1023.length co26] rfl (by (try simp only [zMa, zMc, zMn]); first |  done|  rfl|  (simp only [zLd, zLt]; rfl)) ?_; (with_reducible refine (filigreeref02_make2.calls k false _ _ t1023 t1030 t1031 _ ?side1 ?side2 A16.out).mono ?_); (case side1 => exact uC (zRr HO1025.out).2.2); (case side2 => exact (zRr HO1025.out).2.1); rintro e w30 ⟨v1032, rfl, ho0, hb⟩; refine ⟨_, rfl, ?_⟩; have HO1033 := zMk (zRl (zRw (zRw (zRw ho0 (zRt (by exact uR HO1022.out))) (zRt (by exact uR HO1025.out))) (zRt (by exact uR HO1028.out))) (zBs (by exact uT HB.out))); replace HO1022 := zMk (zRe (by exact uR HO1022.out) (zRz ho0) hb); replace HO1025 := zMk (zRe (by exact uR HO1025.out) (zRz ho0) hb); replace HO1028 := zMk (zRe (by exact uR HO1028.out) (zRz ho0) hb); replace BK1017 := zMk (zKb (g := gb1017) (o := .cells #[.bool false, .slice Ao23 t1020.length co23] 24 (0, 0)) (by (with_reducible repeat (first |  refine zKn ?_ _|  refine zKd ?_|  refine zKa ?_ _)); exact BK1017.out) hb); replace BK1018 := zMk (zKb (g := gb1018) (o := .cells #[.bool false, .slice none 0 0] 24 (0, 0)) (by (with_reducible repeat (first |  refine zKn ?_ _|  refine zKd ?_|  refine zKa ?_ _)); exact BK1018.out) hb); replace HB := zMk (zBt (by exact uT HB.out) hb); have hcz31_0 : w30.cell? ⟨gb1018, 0, none⟩ = some (.bool false) := (zKc BK1018.out 0).trans rfl; have hcz31_1 : w30.cell? ⟨gb1018, 1, none⟩ = some (.slice none 0 0) := (zKc BK1018.out 1).trans rfl; have hfz31_0 := zKf BK1018.out 0; have hfz31_1 := zKf BK1018.out 1; obtain ⟨Ao32, co32, eo32⟩ := zRs HO1033.out; subst eo32))
      refine bodyPost_ret (results_ct rfl _ _ gb1018 24 #[.bool t1030, .slice Ao32 t1031.length co32] (0, 0) _ rfl (by (with_reducible repeat (first | refine zKn ?_ _ | refine zKd ?_ | refine zKa ?_ _)); refine blk_put (cs := #[.bool t1030, .slice none 0 0]) ?_ 1 _ rfl; (with_reducible repeat (first | refine zKn ?_ _ | refine zKd ?_ | refine zKa ?_ _)); refine blk_put (cs := #[.bool false, .slice none 0 0]) ?_ 0 _ rfl; (with_reducible repeat (first | refine zKn ?_ _ | refine zKd ?_ | refine zKa ?_ _)); exact BK1018.out) Tryd.underlying24 rfl (by kernel_rfl)) rfl ?_
      exact ⟨_, by first | rfl | (simp [errW_none, errW_some] <;> rfl) | (simp [*, errW_none, errW_some] <;> rfl), by (with_reducible repeat (first | apply zRa | apply zRn | apply zRd)); exact zRm (Kd.R_far (p := ⟨gb1018, 1, none⟩) (Kd.R_far (p := ⟨gb1018, 0, none⟩) (Kd.R_types HO1033.out BK1018.out (by decide)) (fun _ hk => hk.2) (.bool t1030)) (fun _ hk => hk.2) (.slice Ao32 t1031.length co32)) (fun _ hk => trivial), by exact uT HB.out⟩
    · rw [if_neg c15] at H
      have c15b0 : (t1029 == 0) = false := beq_eq_false_iff_ne.mpr c15
      have c15b1 : (t1029 != 0) = true := bne_iff_ne.mpr c15
      simp only [Option.some.injEq, Prod.mk.injEq] at H
      obtain ⟨rfl, rfl, rfl⟩ := H
      go_enter Tryd.func26, Tryd.ntmps26
      try go_wp2_with (first | ((with_reducible refine gate_dst (N := 1) rfl ?_); refine box_event ?hg (N := 1) ?hd (cs := #[.bool a0_0, .slice A0_1 l0_1.length c0_1]) (t := 24) ?hr ?_; (case hd => rfl); (case hg => rfl); (case hr => first | (go_simp; done)|(go_simp; rfl)|(go_simp; rw [show ∀ x : Int, IntKind.u32.wrap (IntKind.u8.wrap x) = x % 256 from fun x => (by show (x % 256) % 4294967296 = x % 256; omega)])); intro gb1017 hg w33 hbox hb; have BK1017 := zMk (hbox); have GW1017 := zMk ((by rw [hg]; exact (zBs (by exact uT HB.out)) : w.heap.size ≤ gb1017)); have GE1017 := zMk ((by rw [hg]; exact (zBs (by exact uT HB.out)) : w.heap.size ≤ gb1017)); have IGE1017 := ownGe GE1017.out; replace HB := zMk (zBt (by exact uT HB.out) hb); clear hb hbox hg)|((with_reducible refine gate_dst (N := 2) rfl ?_); refine box_event ?hg (N := 2) ?hd (cs := #[.bool false, .slice none 0 0]) (t := 24) ?hr ?_; (case hd => rfl); (case hg => rfl); (case hr => first | (go_simp; done)|(go_simp; rfl)|(go_simp; rw [show ∀ x : Int, IntKind.u32.wrap (IntKind.u8.wrap x) = x % 256 from fun x => (by show (x % 256) % 4294967296 = x % 256; omega)])); intro gb1018 hg w34 hbox hb; have BK1018 := zMk (hbox); have GW1018 := zMk ((by rw [hg]; exact (zBs (by exact uT HB.out)) : w.heap.size ≤ gb1018)); have GE1018 := zMk ((by rw [hg]; exact (zBs (by exact uT HB.out)) : w.heap.size ≤ gb1018)); have IGE1018 := ownGe GE1018.out; replace HB := zMk (zBt (by exact uT HB.out) hb); have NB1017_1018 := zMk ((by rw [hg]; exact Nat.ne_of_lt (blk_lt (g := gb1017) (o := .cells #[.bool a0_0, .slice A0_1 l0_1.length c0_1] 24 (0, 0)) (by (with_reducible repeat (first |  refine zKn ?_ _|  refine zKd ?_|  refine zKa ?_ _)); exact BK1017.out)) : gb1017 ≠ gb1018)); have NB1018_1017 := zMk ((by rw [hg]; exact Nat.ne_of_gt (blk_lt (g := gb1017) (o := .cells #[.bool a0_0, .slice A0_1 l0_1.length c0_1] 24 (0, 0)) (by (with_reducible repeat (first |  refine zKn ?_ _|  refine zKd ?_|  refine zKa ?_ _)); exact BK1017.out)) : gb1018 ≠ gb1017)); replace BK1017 := zMk (zKb (g := gb1017) (o := .cells #[.bool a0_0, .slice A0_1 l0_1.length c0_1] 24 (0, 0)) (by (with_reducible repeat (first |  refine zKn ?_ _|  refine zKd ?_|  refine zKa ?_ _)); exact BK1017.out) hb); clear hb hbox hg; have hnb35 := NB1017_1018.out; have hnc35 := NB1018_1017.out; have hcz36_0 : w34.cell? ⟨gb1017, 0, none⟩ = some (.bool a0_0) := (zKc BK1017.out 0).trans rfl; have hcz36_1 : w34.cell? ⟨gb1017, 1, none⟩ = some (.slice A0_1 l0_1.length c0_1) := (zKc BK1017.out 1).trans rfl; have hfz36_0 := zKf BK1017.out 0; have hfz36_1 := zKf BK1017.out 1)|((with_reducible refine gate_callee (f := 24) rfl ?_); refine goesL_ (some 6) rfl rfl Tryd.func24 (by kernel_rfl) rfl #[.agg #[.bool a0_0, .slice A0_1 l0_1.length c0_1]] rfl (by (try simp only [zMa, zMc, zMn]); first |  done|  rfl|  (simp only [zLd, zLt]; rfl)) ?_; (with_reducible refine (filigreeref02_Norm.calls k a0_0 _ _ l0_1 false t1020 _ ?side1 ?side2 A2.out).mono ?_); (case side1 => repeat (first |  exact (Kd.C_below HR0_1.out HB.out)|(with_reducible refine zCa ?_ _)|(with_reducible refine zCn ?_ _)|(with_reducible refine zCd ?_))); (case side2 => exact HC0_1.out); rintro e w37 ⟨v1021, rfl, ho0, hb⟩; refine ⟨_, rfl, ?_⟩; have HO1022 := zMk (zRl ho0 (zBs (by exact uT HB.out))); replace BK1017 := zMk (zKb (g := gb1017) (o := .cells #[.bool a0_0, .slice A0_1 l0_1.length c0_1] 24 (0, 0)) (by (with_reducible repeat (first |  refine zKn ?_ _|  refine zKd ?_|  refine zKa ?_ _)); exact BK1017.out) hb); replace BK1018 := zMk (zKb (g := gb1018) (o := .cells #[.bool false, .slice none 0 0] 24 (0, 0)) (by (with_reducible repeat (first |  refine zKn ?_ _|  refine zKd ?_|  refine zKa ?_ _)); exact BK1018.out) hb); replace HB := zMk (zBt (by exact uT HB.out) hb); have hcz38_0 : w37.cell? ⟨gb1017, 0, none⟩ = some (.bool a0_0) := (zKc BK1017.out 0).trans rfl; have hcz38_1 : w37.cell? ⟨gb1017, 1, none⟩ = some (.slice A0_1 l0_1.length c0_1) := (zKc BK1017.out 1).trans rfl; have hfz38_0 := zKf BK1017.out 0; have hfz38_1 := zKf BK1017.out 1; obtain ⟨Ao39, co39, eo39⟩ := zRs HO1022.out; subst eo39)|((with_reducible refine gate_callee (f := 50) rfl ?_); refine goesL_ (some 12) rfl rfl Tryd.func50 (by kernel_rfl) rfl #[.slice Ao39 t1020.length co39] rfl (by (try simp only [zMa, zMc, zMn]); first |  done|  rfl|  (simp only [zLd, zLt]; rfl)) ?_; (with_reducible refine (r1_Sqrt.calls k _ _ t1020 t1023 _ ?side1 ?side2 A12.out).mono ?_); (case side1 => refine (zRr (e := 58) (base := w.heap.size) (ok := fun k_ => True) (n := t1020.length) (c := co39) ?_).2.2; exact (by (with_reducible repeat (first |  apply zRa|  apply zRn|  apply zRd)); exact (zRm (Kd.R_far (p := ⟨gb1017, 1, none⟩) (Kd.R_far (p := ⟨gb1017, 0, none⟩) (Kd.R_types HO1022.out BK1017.out (by decide)) (fun _ hk => hk.2) (.bool false)) (fun _ hk => hk.2) (.slice Ao39 t1020.length co39)) (fun _ h_ => h_.1)))); (case side2 => exact (zRr HO1022.out).2.1); rintro e w40 ⟨v1024, rfl, ho0, hb⟩; refine ⟨_, rfl, ?_⟩; have HO1025 := zMk (zRl (zRw ho0 (zRt (by (with_reducible repeat (first |  apply zRa|  apply zRn|  apply zRd)); exact (zRm (Kd.R_far (p := ⟨gb1017, 1, none⟩) (Kd.R_far (p := ⟨gb1017, 0, none⟩) (Kd.R_types HO1022.out BK1017.out (by decide)) (fun _ hk => hk.2) (.bool false)) (fun _ hk => hk.2) (.slice Ao39 t1020.length co39)) (fun _ h_ => h_.1))))) (zBs (by exact uT HB.out))); replace HO1022 := zMk (zRe (by (with_reducible repeat (first |  apply zRa|  apply zRn|  apply zRd)); exact (zRm (Kd.R_far (p := ⟨gb1017, 1, none⟩) (Kd.R_far (p := ⟨gb1017, 0, none⟩) (Kd.R_types HO1022.out BK1017.out (by decide)) (fun _ hk => hk.2) (.bool false)) (fun _ hk => hk.2) (.slice Ao39 t1020.length co39)) (fun _ h_ => h_.1))) (zRz ho0) hb); replace BK1017 := zMk (zKb (g := gb1017) (o := .cells #[.bool false, .slice Ao39 t1020.length co39] 24 (0, 0)) (by (with_reducible repeat (first |  refine zKn ?_ _|  refine zKd ?_|  refine zKa ?_ _)); refine blk_put (cs := #[.bool false, .slice A0_1 l0_1.length c0_1]) ?_ 1 _ rfl; (with_reducible repeat (first |  refine zKn ?_ _|  refine zKd ?_|  refine zKa ?_ _)); refine blk_put (cs := #[.bool a0_0, .slice A0_1 l0_1.length c0_1]) ?_ 0 _ rfl; (with_reducible repeat (first |  refine zKn ?_ _|  refine zKd ?_|  refine zKa ?_ _)); exact BK1017.out) hb); replace BK1018 := zMk (zKb (g := gb1018) (o := .cells #[.bool false, .slice none 0 0] 24 (0, 0)) (by (with_reducible repeat (first |  refine zKn ?_ _|  refine zKd ?_|  refine zKa ?_ _)); refine blk_far ?_ NB1018_1017.out _; (with_reducible repeat (first |  refine zKn ?_ _|  refine zKd ?_|  refine zKa ?_ _)); refine blk_far ?_ NB1018_1017.out _; (with_reducible repeat (first |  refine zKn ?_ _|  refine zKd ?_|  refine zKa ?_ _)); exact BK1018.out) hb); replace HB := zMk (zBt (by exact uT HB.out) hb)))
      replace HO1022 := zMk (zRd HO1022.out)
      replace HO1025 := zMk (zRd HO1025.out)
      replace BK1017 := zMk (zKd BK1017.out)
      replace BK1018 := zMk (zKd BK1018.out)
      replace HB := zMk (zBd HB.out)
      obtain ⟨Ao42, co42, eo42⟩ := zRs HO1025.out
      (first |  subst eo42|  (injection eo42 with f1_ f2_ f3_; have f4_ := f1_.symm; have f5_ := f3_.symm; clear f1_ f2_ f3_; subst f4_; subst f5_))
      refine start_ (n := 7) (S := fun w' => w'.cell? ⟨gb1017, 0, none⟩ = some (.bool false) ∧ w'.cell? ⟨gb1017, 1, none⟩ = some (.slice Ao39 t1020.length co39)) (ds := []) #[false, false, false, false, false, false, false] (by kernel_rfl) rfl rfl ⟨(zKc BK1017.out 0).trans rfl, (zKc BK1017.out 1).trans rfl⟩ (fun hHeld => ?_)
      generalize w40.drew = w41 at HO1022 HO1025 BK1017 BK1018 HB hHeld ⊢
      refine pure_ (i := 0) (N := some 13) (v := ?_) (a' := ?_) #[true, false, false, false, false, false, false] rfl rfl (by kernel_rfl) (fun _ _ _ h => h) (Or.inl ⟨by rfl, ?_⟩) ?_ ?_
      rotate_left
      · intro w'
        go_simp
        with_reducible rfl
      rotate_left
      · simp only [Act.put, zSa, zSb, zSc, i64_w, i32_w]
        rfl
      refine pure_ (i := 1) (N := some 14) (v := ?_) (a' := ?_) #[true, true, false, false, false, false, false] rfl rfl (by kernel_rfl) (fun _ _ _ h => h) (Or.inl ⟨by rfl, ?_⟩) ?_ ?_
      rotate_left
      · intro w'
        go_simp
        with_reducible rfl
      rotate_left
      · simp only [Act.put, zSa, zSb, zSc, i64_w, i32_w]
        rfl
      refine pure_ (i := 3) (N := some 16) (v := ?_) (a' := ?_) #[true, true, false, true, false, false, false] rfl rfl (by kernel_rfl) (fun _ _ _ h => h) (Or.inl ⟨by rfl, ?_⟩) ?_ ?_
      rotate_left
      · intro w'
        go_simp
        with_reducible rfl
      rotate_left
      · simp only [Act.put, zSa, zSb, zSc, i64_w, i32_w]
        rfl
      refine take_ (i := 4) (N := some 17) (v := ?_) (a' := ?_) #[true, true, false, true, true, false, false] rfl rfl (by kernel_rfl) (fun _ _ _ h => h) (Or.inl ⟨by rfl, ?_⟩) hHeld ?_ ?_
      rotate_left
      · rintro w' ⟨s0, s1⟩
        go_simp
        with_reducible rfl
      rotate_left
      · simp only [Act.put, zSa, zSb, zSc, i64_w, i32_w]
        rfl
      refine one_ (i := 2) (N := some 15) #[true, true, true, true, true, false, false] rfl rfl (by kernel_rfl) (by decide) (fun K hK => ?_)
      refine goes_ Tryd.func46 (by kernel_rfl) rfl #[.slice Ao42 t1023.length co42, .slice Ao42 t1023.length co42] (by rfl) rfl rfl (by (try simp only [zMa, zMc, zMn]); first | done | rfl | (simp only [zLd, zLt]; rfl)) ?_
      with_reducible refine (r1_Mul.calls k _ _ t1023 _ _ t1023 t1026 _ ?side1 ?side2 ?side3 ?side4 A13.out).mono ?_
      (case side1 => exact uC (zRr HO1025.out).2.2)
      (case side2 => exact (zRr HO1025.out).2.1)
      (case side3 => exact uC (zRr HO1025.out).2.2)
      (case side4 => exact (zRr HO1025.out).2.1)
      rintro e w43 ⟨v1027, rfl, ho0, hb⟩
      refine ⟨_, rfl, ?_⟩
      have HO1028 := zMk (zRl (zRw (zRw ho0 (zRt (by exact uR HO1022.out))) (zRt (by exact uR HO1025.out))) (zBs (by exact uT HB.out)))
      replace HO1022 := zMk (zRe (by exact uR HO1022.out) (zRz ho0) hb)
      replace HO1025 := zMk (zRe (by exact uR HO1025.out) (zRz ho0) hb)
      replace BK1017 := zMk (zKb (g := gb1017) (o := .cells #[.bool false, .slice Ao39 t1020.length co39] 24 (0, 0)) (by (with_reducible repeat (first | refine zKn ?_ _ | refine zKd ?_ | refine zKa ?_ _)); exact BK1017.out) hb)
      replace BK1018 := zMk (zKb (g := gb1018) (o := .cells #[.bool false, .slice none 0 0] 24 (0, 0)) (by (with_reducible repeat (first | refine zKn ?_ _ | refine zKd ?_ | refine zKa ?_ _)); exact BK1018.out) hb)
      replace HB := zMk (zBt (by exact uT HB.out) hb)
      obtain ⟨Ao44, co44, eo44⟩ := zRs HO1028.out
      (first |  subst eo44|  (injection eo44 with f1_ f2_ f3_; have f4_ := f1_.symm; have f5_ := f3_.symm; clear f1_ f2_ f3_; subst f4_; subst f5_))
      refine hK.out _ _ ⟨(zKc BK1017.out 0).trans rfl, (zKc BK1017.out 1).trans rfl⟩ (fun hHeld => ?_)
      clear hK K
      refine norm_ (a' := ?_) ?_ ?_
      rotate_left
      · show Act.put _ (some 15) _ = _
        simp only [Act.put, zSa, zSb, zSc, i64_w, i32_w]
        rfl
      refine one_ (i := 5) (N := some 18) #[true, true, true, true, true, true, false] rfl rfl (by kernel_rfl) (by decide) (fun K hK => ?_)
      refine goes_ Tryd.func42 (by kernel_rfl) rfl #[.slice Ao44 t1026.length co44, .slice Ao39 t1020.length co39] (by rfl) rfl rfl (by (try simp only [zMa, zMc, zMn]); first | done | rfl | (simp only [zLd, zLt]; rfl)) ?_
      with_reducible refine (r1_Cmp.calls k _ _ t1026 _ _ t1020 t1029 _ ?side1 ?side2 ?side3 ?side4 A14.out).mono ?_
      (case side1 => exact uC (zRr HO1028.out).2.2)
      (case side2 => exact (zRr HO1028.out).2.1)
      (case side3 => exact uC (zRr HO1022.out).2.2)
      (case side4 => exact (zRr HO1022.out).2.1)
      rintro e w45 ⟨rfl, hb⟩
      refine ⟨_, rfl, ?_⟩
      replace HO1022 := zMk (zRb (by exact uR HO1022.out) hb)
      replace HO1025 := zMk (zRb (by exact uR HO1025.out) hb)
      replace HO1028 := zMk (zRb (by exact uR HO1028.out) hb)
      replace BK1017 := zMk (zKb (g := gb1017) (o := .cells #[.bool false, .slice Ao39 t1020.length co39] 24 (0, 0)) (by (with_reducible repeat (first | refine zKn ?_ _ | refine zKd ?_ | refine zKa ?_ _)); exact BK1017.out) hb)
      replace BK1018 := zMk (zKb (g := gb1018) (o := .cells #[.bool false, .slice none 0 0] 24 (0, 0)) (by (with_reducible repeat (first | refine zKn ?_ _ | refine zKd ?_ | refine zKa ?_ _)); exact BK1018.out) hb)
      replace HB := zMk (zBt (by exact uT HB.out) hb)
      refine hK.out _ _ ⟨(zKc BK1017.out 0).trans rfl, (zKc BK1017.out 1).trans rfl⟩ (fun hHeld => ?_)
      clear hK K
      refine norm_ (a' := ?_) ?_ ?_
      rotate_left
      · show Act.put _ (some 18) _ = _
        simp only [Act.put, zSa, zSb, zSc, i64_w, i32_w]
        rfl
      refine pure_ (i := 6) (N := some 19) (v := ?_) (a' := ?_) #[true, true, true, true, true, true, true] rfl rfl (by kernel_rfl) (fun _ _ _ h => h) (Or.inl ⟨by rfl, ?_⟩) ?_ ?_
      rotate_left
      · intro w'
        go_simp
        with_reducible rfl
      rotate_left
      · simp only [Act.put, zSa, zSb, zSc, i64_w, i32_w]
        rfl
      refine done_ (by kernel_rfl) ?_
      have hcz46_0 : w45.cell? ⟨gb1018, 0, none⟩ = some (.bool false) := (zKc BK1018.out 0).trans rfl
      have hcz46_1 : w45.cell? ⟨gb1018, 1, none⟩ = some (.slice none 0 0) := (zKc BK1018.out 1).trans rfl
      have hfz46_0 := zKf BK1018.out 0
      have hfz46_1 := zKf BK1018.out 1
      try go_wp2
      refine bodyPost_ret (results_ct rfl _ _ gb1018 24 #[.bool false, .slice none 0 0] (0, 0) _ rfl (by (with_reducible repeat (first | refine zKn ?_ _ | refine zKd ?_ | refine zKa ?_ _)); refine blk_put (cs := #[.bool false, .slice none 0 0]) ?_ 1 _ rfl; (with_reducible repeat (first | refine zKn ?_ _ | refine zKd ?_ | refine zKa ?_ _)); refine blk_put (cs := #[.bool false, .slice none 0 0]) ?_ 0 _ rfl; (with_reducible repeat (first | refine zKn ?_ _ | refine zKd ?_ | refine zKa ?_ _)); exact BK1018.out) Tryd.underlying24 rfl (by kernel_rfl)) rfl ?_
      exact ⟨_, by first | rfl | (simp [errW_none, errW_some] <;> rfl) | (simp [*, errW_none, errW_some] <;> rfl), by first | exact Kd.R_nil _ _ _ _ _ | exact Kd.N_nil _ _ _ _ _ | exact Kd.V_nil _ _ _ _ _ | exact Kd.Q_nil _ _ _ _ _ | exact Kd.S_nil _ _ _ _ _, by exact uT HB.out⟩


def filigreelaw02_IntegerRoots.f (k : Nat) (a0_0 : Bool) (l0_1 : List Int) : Option (Bool) := if (l0_1.length : Int) > 6 then ((filigreelaw02_alive.f k).bind fun t1035 => (some t1035)) else ((integer_Sqrt.f k a0_0 l0_1).bind fun bt1036 => ((filigreeref02_Sqrt.f k a0_0 l0_1).bind fun bt1042 => ((filigreeref02_Same.f k bt1036.1 bt1036.2.1 bt1042.1 bt1042.2.1).bind fun t1048 => (if t1048 = true then (if bt1036.2.2 = bt1042.2.2 then ((filigreelaw02_alive.f k).bind fun t1049 => (some t1049)) else (some false)) else (some false)))))
theorem filigreelaw02_IntegerRoots.calls (k : Nat) (a0_0 : Bool) (A0_1 : Option Addr) (c0_1 : Nat) (l0_1 : List Int) (r : Bool) (w : World) (hr0_1 : Kd.C (Kd.int .u32) w A0_1 l0_1.length l0_1) (hc0_1 : l0_1.length ≤ c0_1) (h : filigreelaw02_IntegerRoots.f k a0_0 l0_1 = some r) (hr_ : r = true) :
    Calls Tryd.prog 6 #[.agg #[.bool a0_0, .slice A0_1 l0_1.length c0_1]] w fun e w' => e = .returned (.bool r) ∧ Below w.heap.size w w' := by
  have HRT := zMk hr_
  clear hr_
  have hu24 := Tryd.underlying24
  have HR0_1 := zMk hr0_1
  have HC0_1 := zMk hc0_1
  clear hr0_1 hc0_1
  have HB := zMk (Below.refl w.heap.size w)
  have H : (if (l0_1.length : Int) > 6 then ((filigreelaw02_alive.f k).bind fun t1035 => (some t1035)) else ((integer_Sqrt.f k a0_0 l0_1).bind fun bt1036 => ((filigreeref02_Sqrt.f k a0_0 l0_1).bind fun bt1042 => ((filigreeref02_Same.f k bt1036.1 bt1036.2.1 bt1042.1 bt1042.2.1).bind fun t1048 => (if t1048 = true then (if bt1036.2.2 = bt1042.2.2 then ((filigreelaw02_alive.f k).bind fun t1049 => (some t1049)) else (some false)) else (some false)))))) = some r := h
  clear h
  by_cases c2 : (l0_1.length : Int) > 6
  · rw [if_pos c2] at H
    have c2b0 : decide (6 < (l0_1.length : Int)) = true := decide_eq_true c2
    have c2b1 : decide (6 < l0_1.length) = true := decide_eq_true (by omega)
    clear c2
    replace H := bnd H
    obtain ⟨t1035, A30, H⟩ := H
    have A3 := zMk A30
    clear A30
    obtain rfl := zOi H
    go_enter Tryd.func6, Tryd.ntmps6
    go_wp2_with (first | ((with_reducible refine gate_dst (N := 1) rfl ?_); refine box_event ?hg (N := 1) ?hd (cs := #[.bool a0_0, .slice A0_1 l0_1.length c0_1]) (t := 24) ?hr ?_; (case hd => rfl); (case hg => rfl); (case hr => first | (go_simp; done)|(go_simp; rfl)|(go_simp; rw [show ∀ x : Int, IntKind.u32.wrap (IntKind.u8.wrap x) = x % 256 from fun x => (by show (x % 256) % 4294967296 = x % 256; omega)])); intro gb1034 hg w4 hbox hb; have BK1034 := zMk (hbox); have GW1034 := zMk ((by rw [hg]; exact (zBs (by exact uT HB.out)) : w.heap.size ≤ gb1034)); have GE1034 := zMk ((by rw [hg]; exact (zBs (by exact uT HB.out)) : w.heap.size ≤ gb1034)); have IGE1034 := ownGe GE1034.out; replace HB := zMk (zBt (by exact uT HB.out) hb); clear hb hbox hg; have hcz5_0 : w4.cell? ⟨gb1034, 0, none⟩ = some (.bool a0_0) := (zKc BK1034.out 0).trans rfl; have hcz5_1 : w4.cell? ⟨gb1034, 1, none⟩ = some (.slice A0_1 l0_1.length c0_1) := (zKc BK1034.out 1).trans rfl; have hfz5_0 := zKf BK1034.out 0; have hfz5_1 := zKf BK1034.out 1)|((with_reducible refine gate_callee (f := 11) rfl ?_); refine goesL_ (some 11) rfl rfl Tryd.func11 (by kernel_rfl) rfl #[] rfl (by (try simp only [zMa, zMc, zMn]); first |  done|  rfl|  (simp only [zLd, zLt]; rfl)) ?_; (with_reducible refine (filigreelaw02_alive.calls k  t1035 _ A3.out HRT.out).mono ?_); rintro e w6 ⟨rfl, hb⟩; refine ⟨_, rfl, ?_⟩; replace BK1034 := zMk (zKb (g := gb1034) (o := .cells #[.bool a0_0, .slice A0_1 l0_1.length c0_1] 24 (0, 0)) (by (with_reducible repeat (first |  refine zKn ?_ _|  refine zKd ?_|  refine zKa ?_ _)); exact BK1034.out) hb); replace HB := zMk (zBt (by exact uT HB.out) hb)))
    go_ret
    exact ⟨by first | rfl | (simp [errW_none, errW_some] <;> rfl) | (simp [*, errW_none, errW_some] <;> rfl), by exact uT HB.out⟩
  · rw [if_neg c2] at H
    have c2b0 : decide (6 < (l0_1.length : Int)) = false := decide_eq_false c2
    have c2b1 : decide (6 < l0_1.length) = false := decide_eq_false (by omega)
    clear c2
    replace H := bnd H
    obtain ⟨⟨t1036, t1037, t1040⟩, A70, H⟩ := H
    replace H : ((filigreeref02_Sqrt.f k a0_0 l0_1).bind fun bt1042 => ((filigreeref02_Same.f k t1036 t1037 bt1042.1 bt1042.2.1).bind fun t1048 => (if t1048 = true then (if t1040 = bt1042.2.2 then ((filigreelaw02_alive.f k).bind fun t1049 => (some t1049)) else (some false)) else (some false)))) = some r := H
    have A7 := zMk A70
    clear A70
    replace H := bnd H
    obtain ⟨⟨t1042, t1043, t1046⟩, A80, H⟩ := H
    replace H : ((filigreeref02_Same.f k t1036 t1037 t1042 t1043).bind fun t1048 => (if t1048 = true then (if t1040 = t1046 then ((filigreelaw02_alive.f k).bind fun t1049 => (some t1049)) else (some false)) else (some false))) = some r := H
    have A8 := zMk A80
    clear A80
    replace H := bnd H
    obtain ⟨t1048, A90, H⟩ := H
    have A9 := zMk A90
    clear A90
    by_cases c10 : t1048 = true
    · subst c10
      replace H : (if t1040 = t1046 then ((filigreelaw02_alive.f k).bind fun t1049 => (some t1049)) else (some false)) = some r := by rw [if_pos rfl] at H; exact H
      by_cases c11 : t1040 = t1046
      · rw [if_pos c11] at H
        have c11b0 : (t1040 == t1046) = true := beq_iff_eq.mpr c11
        have c11b1 : (t1040 != t1046) = false := bne_eq_false_iff_eq.mpr c11
        clear c11
        replace H := bnd H
        obtain ⟨t1049, A120, H⟩ := H
        have A12 := zMk A120
        clear A120
        obtain rfl := zOi H
        go_enter Tryd.func6, Tryd.ntmps6
        go_wp2_with (first | ((with_reducible refine gate_dst (N := 1) rfl ?_); refine box_event ?hg (N := 1) ?hd (cs := #[.bool a0_0, .slice A0_1 l0_1.length c0_1]) (t := 24) ?hr ?_; (case hd => rfl); (case hg => rfl); (case hr => first | (go_simp; done)|(go_simp; rfl)|(go_simp; rw [show ∀ x : Int, IntKind.u32.wrap (IntKind.u8.wrap x) = x % 256 from fun x => (by show (x % 256) % 4294967296 = x % 256; omega)])); intro gb1034 hg w13 hbox hb; have BK1034 := zMk (hbox); have GW1034 := zMk ((by rw [hg]; exact (zBs (by exact uT HB.out)) : w.heap.size ≤ gb1034)); have GE1034 := zMk ((by rw [hg]; exact (zBs (by exact uT HB.out)) : w.heap.size ≤ gb1034)); have IGE1034 := ownGe GE1034.out; replace HB := zMk (zBt (by exact uT HB.out) hb); clear hb hbox hg; have hcz14_0 : w13.cell? ⟨gb1034, 0, none⟩ = some (.bool a0_0) := (zKc BK1034.out 0).trans rfl; have hcz14_1 : w13.cell? ⟨gb1034, 1, none⟩ = some (.slice A0_1 l0_1.length c0_1) := (zKc BK1034.out 1).trans rfl; have hfz14_0 := zKf BK1034.out 0; have hfz14_1 := zKf BK1034.out 1)|((with_reducible refine gate_callee (f := 25) rfl ?_); refine goesL_ (some 14) rfl rfl Tryd.func25 (by kernel_rfl) rfl #[.agg #[.bool a0_0, .slice A0_1 l0_1.length c0_1]] rfl (by (try simp only [zMa, zMc, zMn]); first |  done|  rfl|  (simp only [zLd, zLt]; rfl)) ?_; (with_reducible refine (integer_Sqrt.calls k a0_0 _ _ l0_1 t1036 t1037 t1040 _ ?side1 ?side2 A7.out).mono ?_); (case side1 => repeat (first |  exact (Kd.C_below HR0_1.out HB.out)|(with_reducible refine zCa ?_ _)|(with_reducible refine zCn ?_ _)|(with_reducible refine zCd ?_))); (case side2 => exact HC0_1.out); rintro e w15 ⟨v1038, rfl, ho0, hb⟩; refine ⟨_, rfl, ?_⟩; have HO1039 := zMk (zRl ho0 (zBs (by exact uT HB.out))); replace BK1034 := zMk (zKb (g := gb1034) (o := .cells #[.bool a0_0, .slice A0_1 l0_1.length c0_1] 24 (0, 0)) (by (with_reducible repeat (first |  refine zKn ?_ _|  refine zKd ?_|  refine zKa ?_ _)); exact BK1034.out) hb); replace HB := zMk (zBt (by exact uT HB.out) hb))|((with_reducible refine gate_dst (N := 3) rfl ?_); refine box_event ?hg (N := 3) ?hd (cs := #[.bool false, .slice none 0 0]) (t := 24) ?hr ?_; (case hd => rfl); (case hg => rfl); (case hr => first | (go_simp; done)|(go_simp; rfl)|(go_simp; rw [show ∀ x : Int, IntKind.u32.wrap (IntKind.u8.wrap x) = x % 256 from fun x => (by show (x % 256) % 4294967296 = x % 256; omega)])); intro gb1041 hg w16 hbox hb; replace HO1039 := zMk (zRb (by exact uR HO1039.out) hb); have BK1041 := zMk (hbox); have GW1041 := zMk ((by rw [hg]; exact (zBs (by exact uT HB.out)) : w.heap.size ≤ gb1041)); have GE1041 := zMk ((by rw [hg]; exact (zBs (by exact uT HB.out)) : w.heap.size ≤ gb1041)); have IGE1041 := ownGe GE1041.out; replace HB := zMk (zBt (by exact uT HB.out) hb); have NB1034_1041 := zMk ((by rw [hg]; exact Nat.ne_of_lt (blk_lt (g := gb1034) (o := .cells #[.bool a0_0, .slice A0_1 l0_1.length c0_1] 24 (0, 0)) (by (with_reducible repeat (first |  refine zKn ?_ _|  refine zKd ?_|  refine zKa ?_ _)); exact BK1034.out)) : gb1034 ≠ gb1041)); have NB1041_1034 := zMk ((by rw [hg]; exact Nat.ne_of_gt (blk_lt (g := gb1034) (o := .cells #[.bool a0_0, .slice A0_1 l0_1.length c0_1] 24 (0, 0)) (by (with_reducible repeat (first |  refine zKn ?_ _|  refine zKd ?_|  refine zKa ?_ _)); exact BK1034.out)) : gb1041 ≠ gb1034)); replace BK1034 := zMk (zKb (g := gb1034) (o := .cells #[.bool a0_0, .slice A0_1 l0_1.length c0_1] 24 (0, 0)) (by (with_reducible repeat (first |  refine zKn ?_ _|  refine zKd ?_|  refine zKa ?_ _)); exact BK1034.out) hb); clear hb hbox hg; have hnb17 := NB1041_1034.out; have hnc17 := NB1034_1041.out; have hcz18_0 : w16.cell? ⟨gb1041, 0, none⟩ = some (.bool false) := (zKc BK1041.out 0).trans rfl; have hcz18_1 : w16.cell? ⟨gb1041, 1, none⟩ = some (.slice none 0 0) := (zKc BK1041.out 1).trans rfl; have hfz18_0 := zKf BK1041.out 0; have hfz18_1 := zKf BK1041.out 1; obtain ⟨Ao19, co19, eo19⟩ := zRs HO1039.out; subst eo19; have hcz20_0 : w16.cell? ⟨gb1034, 0, none⟩ = some (.bool a0_0) := (zKc BK1034.out 0).trans rfl; have hcz20_1 : w16.cell? ⟨gb1034, 1, none⟩ = some (.slice A0_1 l0_1.length c0_1) := (zKc BK1034.out 1).trans rfl; have hfz20_0 := zKf BK1034.out 0; have hfz20_1 := zKf BK1034.out 1)|((with_reducible refine gate_callee (f := 26) rfl ?_); refine goesL_ (some 19) rfl rfl Tryd.func26 (by kernel_rfl) rfl #[.agg #[.bool a0_0, .slice A0_1 l0_1.length c0_1]] rfl (by (try simp only [zMa, zMc, zMn]); first |  done|  rfl|  (simp only [zLd, zLt]; rfl)) ?_; (with_reducible refine (filigreeref02_Sqrt.calls k a0_0 _ _ l0_1 t1042 t1043 t1046 _ ?side1 ?side2 A8.out).mono ?_); (case side1 => exact Kd.C_below HR0_1.out (by exact uT HB.out)); (case side2 => exact HC0_1.out); rintro e w21 ⟨v1044, rfl, ho0, hb⟩; refine ⟨_, rfl, ?_⟩; have HO1045 := zMk (zRl (zRw ho0 (zRt (by (with_reducible repeat (first |  apply zRa|  apply zRn|  apply zRd)); exact (zRm (Kd.R_far (p := ⟨gb1041, 1, none⟩) (Kd.R_far (p := ⟨gb1041, 0, none⟩) (Kd.R_types HO1039.out BK1041.out (by decide)) (fun _ hk => hk.2) (.bool t1036)) (fun _ hk => hk.2) (.slice Ao19 t1037.length co19)) (fun _ h_ => h_.1))))) (zBs (by exact uT HB.out))); replace HO1039 := zMk (zRe (by (with_reducible repeat (first |  apply zRa|  apply zRn|  apply zRd)); exact (zRm (Kd.R_far (p := ⟨gb1041, 1, none⟩) (Kd.R_far (p := ⟨gb1041, 0, none⟩) (Kd.R_types HO1039.out BK1041.out (by decide)) (fun _ hk => hk.2) (.bool t1036)) (fun _ hk => hk.2) (.slice Ao19 t1037.length co19)) (fun _ h_ => h_.1))) (zRz ho0) hb); replace BK1034 := zMk (zKb (g := gb1034) (o := .cells #[.bool a0_0, .slice A0_1 l0_1.length c0_1] 24 (0, 0)) (by (with_reducible repeat (first |  refine zKn ?_ _|  refine zKd ?_|  refine zKa ?_ _)); refine blk_far ?_ NB1034_1041.out _; (with_reducible repeat (first |  refine zKn ?_ _|  refine zKd ?_|  refine zKa ?_ _)); refine blk_far ?_ NB1034_1041.out _; (with_reducible repeat (first |  refine zKn ?_ _|  refine zKd ?_|  refine zKa ?_ _)); exact BK1034.out) hb); replace BK1041 := zMk (zKb (g := gb1041) (o := .cells #[.bool t1036, .slice Ao19 t1037.length co19] 24 (0, 0)) (by (with_reducible repeat (first |  refine zKn ?_ _|  refine zKd ?_|  refine zKa ?_ _)); refine blk_put (cs := #[.bool t1036, .slice none 0 0]) ?_ 1 _ rfl; (with_reducible repeat (first |  refine zKn ?_ _|  refine zKd ?_|  refine zKa ?_ _)); refine blk_put (cs := #[.bool false, .slice none 0 0]) ?_ 0 _ rfl; (with_reducible repeat (first |  refine zKn ?_ _|  refine zKd ?_|  refine zKa ?_ _)); exact BK1041.out) hb); replace HB := zMk (zBt (by exact uT HB.out) hb))|((with_reducible refine gate_dst (N := 5) rfl ?_); refine box_event ?hg (N := 5) ?hd (cs := #[.bool false, .slice none 0 0]) (t := 24) ?hr ?_; (case hd => rfl); (case hg => rfl); (case hr => first | (go_simp; done)|(go_simp; rfl)|(go_simp; rw [show ∀ x : Int, IntKind.u32.wrap (IntKind.u8.wrap x) = x % 256 from fun x => (by show (x % 256) % 4294967296 = x % 256; omega)])); intro gb1047 hg w22 hbox hb; replace HO1039 := zMk (zRb (by exact uR HO1039.out) hb); replace HO1045 := zMk (zRb (by exact uR HO1045.out) hb); have BK1047 := zMk (hbox); have GW1047 := zMk ((by rw [hg]; exact (zBs (by exact uT HB.out)) : w.heap.size ≤ gb1047)); have GE1047 := zMk ((by rw [hg]; exact (zBs (by exact uT HB.out)) : w.heap.size ≤ gb1047)); have IGE1047 := ownGe GE1047.out; replace HB := zMk (zBt (by exact uT HB.out) hb); have NB1034_1047 := zMk ((by rw [hg]; exact Nat.ne_of_lt (blk_lt (g := gb1034) (o := .cells #[.bool a0_0, .slice A0_1 l0_1.length c0_1] 24 (0, 0)) (by (with_reducible repeat (first |  refine zKn ?_ _|  refine zKd ?_|  refine zKa ?_ _)); exact BK1034.out)) : gb1034 ≠ gb1047)); have NB1047_1034 := zMk ((by rw [hg]; exact Nat.ne_of_gt (blk_lt (g := gb1034) (o := .cells #[.bool a0_0, .slice A0_1 l0_1.length c0_1] 24 (0, 0)) (by (with_reducible repeat (first |  refine zKn ?_ _|  refine zKd ?_|  refine zKa ?_ _)); exact BK1034.out)) : gb1047 ≠ gb1034)); replace BK1034 := zMk (zKb (g := gb1034) (o := .cells #[.bool a0_0, .slice A0_1 l0_1.length c0_1] 24 (0, 0)) (by (with_reducible repeat (first |  refine zKn ?_ _|  refine zKd ?_|  refine zKa ?_ _)); exact BK1034.out) hb); have NB1041_1047 := zMk ((by rw [hg]; exact Nat.ne_of_lt (blk_lt (g := gb1041) (o := .cells #[.bool t1036, .slice Ao19 t1037.length co19] 24 (0, 0)) (by (with_reducible repeat (first |  refine zKn ?_ _|  refine zKd ?_|  refine zKa ?_ _)); exact BK1041.out)) : gb1041 ≠ gb1047)); have NB1047_1041 := zMk ((by rw [hg]; exact Nat.ne_of_gt (blk_lt (g := gb1041) (o := .cells #[.bool t1036, .slice Ao19 t1037.length co19] 24 (0, 0)) (by (with_reducible repeat (first |  refine zKn ?_ _|  refine zKd ?_|  refine zKa ?_ _)); exact BK1041.out)) : gb1047 ≠ gb1041)); replace BK1041 := zMk (zKb (g := gb1041) (o := .cells #[.bool t1036, .slice Ao19 t1037.length co19] 24 (0, 0)) (by (with_reducible repeat (first |  refine zKn ?_ _|  refine zKd ?_|  refine zKa ?_ _)); exact BK1041.out) hb); clear hb hbox hg; have hnb23 := NB1047_1034.out; have hnc23 := NB1034_1047.out; have hnb24 := NB1047_1041.out; have hnc24 := NB1041_1047.out; have hcz25_0 : w22.cell? ⟨gb1047, 0, none⟩ = some (.bool false) := (zKc BK1047.out 0).trans rfl; have hcz25_1 : w22.cell? ⟨gb1047, 1, none⟩ = some (.slice none 0 0) := (zKc BK1047.out 1).trans rfl; have hfz25_0 := zKf BK1047.out 0; have hfz25_1 := zKf BK1047.out 1; obtain ⟨Ao26, co26, eo26⟩ := zRs HO1045.out; subst eo26; have hcz27_0 : w22.cell? ⟨gb1041, 0, none⟩ = some (.bool t1036) := (zKc BK1041.out 0).trans rfl; have hcz27_1 : w22.cell? ⟨gb1041, 1, none⟩ = some (.slice Ao19 t1037.length co19) := (zKc BK1041.out 1).trans rfl; have hfz27_0 := zKf BK1041.out 0; have hfz27_1 := zKf BK1041.out 1)|((with_reducible refine gate_callee (f := 16) rfl ?_); refine goesL_ (some 24) rfl rfl Tryd.func16 (by kernel_rfl) rfl #[.agg #[.bool t1036, .slice Ao19 t1037.length co19], .agg #[.bool t1042, .slice Ao26 t1043.length co26]] rfl (by (try simp only [zMa, zMc, zMn]); first |  done|  rfl|  (simp only [zLd, zLt]; rfl)) ?_; (with_reducible refine (filigreeref02_Same.calls k t1036 _ _ t1037 t1042 _ _ t1043 true _ ?side1 ?side2 ?side3 ?side4 A9.out).mono ?_); (case side1 => refine (zRr (e := 58) (base := w.heap.size) (ok := fun k_ => (True ∧ some k_ ≠ (.slice Ao26 t1043.length co26 : Value).ownBlock)) (n := t1037.length) (c := co19) ?_).2.2; exact (by (with_reducible repeat (first |  apply zRa|  apply zRn|  apply zRd)); exact (zRm (Kd.R_far (p := ⟨gb1047, 1, none⟩) (Kd.R_far (p := ⟨gb1047, 0, none⟩) (Kd.R_types HO1039.out BK1047.out (by decide)) (fun _ hk => hk.2) (.bool t1042)) (fun _ hk => hk.2) (.slice Ao26 t1043.length co26)) (fun _ h_ => h_.1)))); (case side2 => exact (zRr HO1039.out).2.1); (case side3 => refine (zRr (e := 58) (base := w.heap.size) (ok := fun k_ => (True ∧ some k_ ≠ (.slice Ao19 t1037.length co19 : Value).ownBlock)) (n := t1043.length) (c := co26) ?_).2.2; exact (by (with_reducible repeat (first |  apply zRa|  apply zRn|  apply zRd)); exact (zRm (Kd.R_far (p := ⟨gb1047, 1, none⟩) (Kd.R_far (p := ⟨gb1047, 0, none⟩) (Kd.R_types HO1045.out BK1047.out (by decide)) (fun _ hk => hk.2) (.bool t1042)) (fun _ hk => hk.2) (.slice Ao26 t1043.length co26)) (fun _ h_ => h_.1)))); (case side4 => exact (zRr HO1045.out).2.1); rintro e w28 ⟨rfl, hb⟩; refine ⟨_, rfl, ?_⟩; replace HO1039 := zMk (zRb (by (with_reducible repeat (first |  apply zRa|  apply zRn|  apply zRd)); exact (zRm (Kd.R_far (p := ⟨gb1047, 1, none⟩) (Kd.R_far (p := ⟨gb1047, 0, none⟩) (Kd.R_types HO1039.out BK1047.out (by decide)) (fun _ hk => hk.2) (.bool t1042)) (fun _ hk => hk.2) (.slice Ao26 t1043.length co26)) (fun _ h_ => h_.1))) hb); replace HO1045 := zMk (zRb (by (with_reducible repeat (first |  apply zRa|  apply zRn|  apply zRd)); exact (zRm (Kd.R_far (p := ⟨gb1047, 1, none⟩) (Kd.R_far (p := ⟨gb1047, 0, none⟩) (Kd.R_types HO1045.out BK1047.out (by decide)) (fun _ hk => hk.2) (.bool t1042)) (fun _ hk => hk.2) (.slice Ao26 t1043.length co26)) (fun _ h_ => h_.1))) hb); replace BK1034 := zMk (zKb (g := gb1034) (o := .cells #[.bool a0_0, .slice A0_1 l0_1.length c0_1] 24 (0, 0)) (by (with_reducible repeat (first |  refine zKn ?_ _|  refine zKd ?_|  refine zKa ?_ _)); refine blk_far ?_ NB1034_1047.out _; (with_reducible repeat (first |  refine zKn ?_ _|  refine zKd ?_|  refine zKa ?_ _)); refine blk_far ?_ NB1034_1047.out _; (with_reducible repeat (first |  refine zKn ?_ _|  refine zKd ?_|  refine zKa ?_ _)); exact BK1034.out) hb); replace BK1041 := zMk (zKb (g := gb1041) (o := .cells #[.bool t1036, .slice Ao19 t1037.length co19] 24 (0, 0)) (by (with_reducible repeat (first |  refine zKn ?_ _|  refine zKd ?_|  refine zKa ?_ _)); refine blk_far ?_ NB1041_1047.out _; (with_reducible repeat (first |  refine zKn ?_ _|  refine zKd ?_|  refine zKa ?_ _)); refine blk_far ?_ NB1041_1047.out _; (with_reducible repeat (first |  refine zKn ?_ _|  refine zKd ?_|  refine zKa ?_ _)); exact BK1041.out) hb); replace BK1047 := zMk (zKb (g := gb1047) (o := .cells #[.bool t1042, .slice Ao26 t1043.length co26] 24 (0, 0)) (by (with_reducible repeat (first |  refine zKn ?_ _|  refine zKd ?_|  refine zKa ?_ _)); refine blk_put (cs := #[.bool t1042, .slice none 0 0]) ?_ 1 _ rfl; (with_reducible repeat (first |  refine zKn ?_ _|  refine zKd ?_|  refine zKa ?_ _)); refine blk_put (cs := #[.bool false, .slice none 0 0]) ?_ 0 _ rfl; (with_reducible repeat (first |  refine zKn ?_ _|  refine zKd ?_|  refine zKa ?_ _)); exact BK1047.out) hb); replace HB := zMk (zBt (by exact uT HB.out) hb))|(go_at_call 11; (with_reducible refine (filigreelaw02_alive.calls k  t1049 _ A12.out HRT.out).mono ?_); rintro e w29 ⟨rfl, hb⟩; replace HO1039 := zMk (zRb (by exact uR HO1039.out) hb); replace HO1045 := zMk (zRb (by exact uR HO1045.out) hb); replace BK1034 := zMk (zKb (g := gb1034) (o := .cells #[.bool a0_0, .slice A0_1 l0_1.length c0_1] 24 (0, 0)) (by (with_reducible repeat (first |  refine zKn ?_ _|  refine zKd ?_|  refine zKa ?_ _)); exact BK1034.out) hb); replace BK1041 := zMk (zKb (g := gb1041) (o := .cells #[.bool t1036, .slice Ao19 t1037.length co19] 24 (0, 0)) (by (with_reducible repeat (first |  refine zKn ?_ _|  refine zKd ?_|  refine zKa ?_ _)); exact BK1041.out) hb); replace BK1047 := zMk (zKb (g := gb1047) (o := .cells #[.bool t1042, .slice Ao26 t1043.length co26] 24 (0, 0)) (by (with_reducible repeat (first |  refine zKn ?_ _|  refine zKd ?_|  refine zKa ?_ _)); exact BK1047.out) hb); replace HB := zMk (zBt (by exact uT HB.out) hb)))
        go_ret
        exact ⟨by first | rfl | (simp [errW_none, errW_some] <;> rfl) | (simp [*, errW_none, errW_some] <;> rfl), by exact uT HB.out⟩
      · rw [if_neg c11] at H
        have c11b0 : (t1040 == t1046) = false := beq_eq_false_iff_ne.mpr c11
        have c11b1 : (t1040 != t1046) = true := bne_iff_ne.mpr c11
        exact absurd ((zOi H).trans HRT.out) (by decide)
    · replace c10 := Bool.eq_false_iff.mpr c10
      subst c10
      replace H : (some false) = some r := by rw [if_neg (show ¬ (false = true) by decide)] at H; exact H
      exact absurd ((zOi H).trans HRT.out) (by decide)

def filigreelaw02_IntegerRoots.Pure : Prop := ∀ (a0_0 : Bool) (l0_1 : List Int), l0_1.length ≤ maxLen → (∀ x ∈ l0_1, (Lit.int .u32 x).wf = true) → ∃ k, filigreelaw02_IntegerRoots.f k a0_0 l0_1 = some true
def RootTells (o : Option (Bool × List Int × Int)) (z : Int) : Prop := ∃ s : Int, IsRoot s (z.natAbs : Int) ∧ ((z < 0 ∧ o = some (false, [], 17)) ∨ (0 ≤ z ∧ s * s ≠ (z.natAbs : Int) ∧ o = some (false, [], 16)) ∨ (0 ≤ z ∧ s * s = (z.natAbs : Int) ∧ ∃ x y, o = some (x, y, 0) ∧ IsInt x y s ∧ y.length ≤ 1000))
theorem cmpI_zero (x y : Int) : cmpI x y = 0 ↔ x = y := by
  unfold cmpI
  split
  · omega
  · split <;> omega
theorem root_len {r : List Int} {s : Int} {x : List Int} (hx : Limbs x) (hr : IsNum r s) (hs : IsRoot s (val x)) : r.length ≤ x.length := by
  refine len_of_lt hr (Int.lt_of_le_of_lt ?_ (val_ltB hx))
  have h0 := hs.1
  have h1 := hs.2.1
  rcases Int.lt_or_le 0 s with h | h
  · have h2 := Int.mul_le_mul_of_nonneg_left (show 1 ≤ s by omega) h0
    rw [Int.mul_one] at h2
    omega
  · have := val_nonneg hx; omega
theorem isqrt_f (a : Bool) (x : List Int) (hx : Limbs x) (lx : x.length ≤ 200) (k : Nat) (hk : 700000 ≤ k) : RootTells (integer_Sqrt.f k a x) (sg a (val x)) := by
  obtain ⟨p, q, e, i, l⟩ := norm_int a x hx (by omega)
  generalize sg a (val x) = z at i ⊢
  obtain ⟨r, s, e1, n1, hs⟩ := sqrt_f q i.num.limbs (by omega) k (by omega)
  rw [i.num.eq] at hs
  have hrl := root_len i.num.limbs n1 (by rw [i.num.eq]; exact hs)
  refine ⟨s, hs, ?_⟩
  unfold integer_Sqrt.f
  rw [e, zOb, e1, zOb]
  have hp := i.neg
  by_cases c : z < 0
  · rw [decide_eq_true c] at hp
    subst hp
    rw [if_pos rfl]
    exact .inl ⟨c, rfl⟩
  · rw [decide_eq_false c] at hp
    subst hp
    have hb : (r.length + 2) * r.length ≤ 202 * 200 := Nat.mul_le_mul (by omega) (by omega)
    obtain ⟨m, e2, n2, l2⟩ := mul_f r r n1.limbs n1.limbs (by omega) k (by omega)
    rw [if_neg Bool.false_ne_true, e2, zOb, cmp_f m q n2.limbs i.num.limbs, zOb, n2.eq, n1.eq, i.num.eq]
    by_cases hq : s * s = (z.natAbs : Int)
    · rw [if_pos ((cmpI_zero _ _).2 hq)]
      obtain ⟨p3, q3, e3, i3, l3⟩ := signed_f false r n1.limbs (by omega)
      rw [n1.eq] at i3
      refine .inr (.inr ⟨by omega, hq, p3, q3, ?_, i3, by omega⟩)
      rw [e3, zOb]
    · rw [if_neg (fun h => hq ((cmpI_zero _ _).1 h))]
      exact .inr (.inl ⟨by omega, hq, rfl⟩)
theorem risqrt_f (a : Bool) (x : List Int) (hx : Limbs x) (lx : x.length ≤ 20) (k : Nat) (hk : 700000 ≤ k) : RootTells (filigreeref02_Sqrt.f k a x) (sg a (val x)) := by
  obtain ⟨p, q, e, i, l⟩ := rnorm_int a x hx (by omega) k (by omega)
  generalize sg a (val x) = z at i ⊢
  obtain ⟨r, s, e1, n1, hs⟩ := rsqrt_f q i.num.limbs (by omega) k (by omega)
  rw [i.num.eq] at hs
  have hrl := root_len i.num.limbs n1 (by rw [i.num.eq]; exact hs)
  refine ⟨s, hs, ?_⟩
  unfold filigreeref02_Sqrt.f
  rw [e, zOb]
  have hp := i.neg
  by_cases c : z < 0
  · rw [decide_eq_true c] at hp
    subst hp
    rw [if_pos rfl]
    exact .inl ⟨c, rfl⟩
  · rw [decide_eq_false c] at hp
    subst hp
    obtain ⟨m, e2, n2⟩ := rmul_f r r n1.limbs n1.limbs (by omega) (by omega) k (by omega)
    have hml : m.length ≤ 40 := len_of_num n2 (Int.lt_of_lt_of_le (prod_B n1.limbs n1.limbs) (pow_upB (by omega)))
    rw [if_neg Bool.false_ne_true, e1, zOb, e2, zOb, rcmp_f m q n2.limbs i.num.limbs (by omega) (by omega) k (by omega), zOb, n2.eq, n1.eq, i.num.eq]
    by_cases hq : s * s = (z.natAbs : Int)
    · rw [if_pos ((cmpI_zero _ _).2 hq)]
      obtain ⟨p3, q3, e3, i3, l3⟩ := make2_f false r n1.limbs (by omega) k (by omega)
      rw [n1.eq] at i3
      refine .inr (.inr ⟨by omega, hq, p3, q3, ?_, i3, by omega⟩)
      rw [e3, zOb]
    · rw [if_neg (fun h => hq ((cmpI_zero _ _).1 h))]
      exact .inr (.inl ⟨by omega, hq, rfl⟩)
theorem RootTells.same {o o' : Option (Bool × List Int × Int)} {z : Int} (h : RootTells o z) (h' : RootTells o' z) : o = o' ∧ ∃ x y e, o = some (x, y, e) ∧ y.length ≤ 1000 := by
  obtain ⟨s, hs, h⟩ := h
  obtain ⟨s', hs', h'⟩ := h'
  obtain rfl := hs.unique hs'
  rcases h with ⟨c, rfl⟩ | ⟨c, d, rfl⟩ | ⟨c, d, x, y, rfl, i, l⟩
  · rcases h' with ⟨c', rfl⟩ | ⟨c', d', rfl⟩ | ⟨c', d', x', y', rfl, i'⟩
    · exact ⟨rfl, _, _, _, rfl, by simp⟩
    · omega
    · omega
  · rcases h' with ⟨c', rfl⟩ | ⟨c', d', rfl⟩ | ⟨c', d', x', y', rfl, i'⟩
    · omega
    · exact ⟨rfl, _, _, _, rfl, by simp⟩
    · exact absurd d' d
  · rcases h' with ⟨c', rfl⟩ | ⟨c', d', rfl⟩ | ⟨c', d', x', y', rfl, i', _⟩
    · omega
    · exact absurd d d'
    · obtain ⟨rfl, rfl⟩ := i.unique i'
      exact ⟨rfl, _, _, _, rfl, l⟩
theorem pure_IntegerRoots : filigreelaw02_IntegerRoots.Pure := by
  intro a x m1 h1
  have X := limbs_of_wf h1
  obtain ⟨k, hk⟩ : ∃ k : Nat, k = 1000000 := ⟨_, rfl⟩
  refine ⟨k, ?_⟩
  unfold filigreelaw02_IntegerRoots.f
  by_cases c : (x.length : Int) > 6
  · rw [if_pos c, alive_f k (by omega)]
    rfl
  · rw [if_neg c]
    obtain ⟨e, p, q, r, e1, hl⟩ := (isqrt_f a x X (by omega) k (by omega)).same (risqrt_f a x X (by omega) k (by omega))
    rw [← e, e1, zOb, zOb, isame_f p q (by omega) k (by omega), zOb, if_pos rfl, if_pos rfl, alive_f k (by omega)]
    rfl
end Go.Proofs.YtnjmnicgknggfaaDoor.D
