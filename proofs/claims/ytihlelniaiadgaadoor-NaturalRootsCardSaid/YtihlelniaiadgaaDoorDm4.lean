/- Lemmas for the statement: the walks of the functions that it reaches, and plain laws. -/
import Derived.Test.YtihlelniaiadgaaDoorDm3
import Derived.Test.YtihlelniaiadgaaDoorDm1
set_option linter.unusedVariables false
set_option linter.unusedSimpArgs false
namespace Go.Proofs.YtihlelniaiadgaaDoor.D
open Go Go.RowKit Go.Proofs.YtihlelniaiadgaaDoorW.PrintWords Go.Proofs.YtihlelniaiadgaaDoorW.PrintLast Go.Proofs.YtihlelniaiadgaaDoorW.PrintMore
attribute [local go_sem] max2_int min2_int max_two min_two max_three min_three max_four min_four
open Go.Proofs.YtihlelniaiadgaaDoorW.PrintWords.Kd renaming R_alloc → zRa, R_drewN → zRn, R_drew → zRd, V_alloc → zVa, V_drewN → zVn, V_drew → zVd, V_below → zVb, C_alloc → zCa, C_drewN → zCn, C_drew → zCd, R_mono → zRm, V_mono → zVm, at_int → zAi
open Go.Proofs.YtihlelniaiadgaaDoorW.PrintWords renaming pw_below_drewN → zBn, below_alloc → zBa, below_drew1 → zBd, below_size → zBs, below_step → zBt
open List renaming setIfInBounds_toArray → zSa, set_cons_zero → zSb, set_cons_succ → zSc, length_drop → zLd, length_take → zLt
open Go.Proofs.YtihlelniaiadgaaDoorW.PrintWords.Aside0 renaming mk → zMk
open Option renaming bind_eq_some_iff → zBi, bind_some → zOb
open Option.some renaming inj → zOi
open Int renaming toNat_natCast → zTn
/- The plain law of the program's quotient and rest. -/
/-- A limb's weight: a word of its own, so that no tactic reckons with the power. -/
@[irreducible] def Bp (n : Nat) : Int := (4294967296 : Int) ^ n
theorem Bp_zero : Bp 0 = 1 := by unfold Bp; rfl
theorem Bp_succ (n : Nat) : Bp (n + 1) = Bp n * 4294967296 := by unfold Bp; exact Int.pow_succ 4294967296 n
theorem Bp_add (m n : Nat) : Bp (m + n) = Bp m * Bp n := by unfold Bp; exact Int.pow_add 4294967296 m n
theorem Bp_pos (n : Nat) : 0 < Bp n := by unfold Bp; exact Int.pow_pos (by decide)
theorem pow_upB {m n : Nat} (h : m ≤ n) : Bp m ≤ Bp n := by unfold Bp; exact pow_up h
theorem val_appendB (a b : List Int) : val (a ++ b) = val a + Bp a.length * val b := by unfold Bp; exact val_append a b
theorem val_setB (l : List Int) (n : Nat) (v : Int) (h : n < l.length) : val (l.set n v) = val l + Bp n * (v - l.getD n 0) := by unfold Bp; exact val_set l n v h
theorem val_take_succB (l : List Int) (n : Nat) : val (l.take (n + 1)) = val (l.take n) + Bp n * l.getD n 0 := by unfold Bp; exact val_take_succ' l n
theorem val_ltB {l : List Int} (h : Limbs l) : val l < Bp l.length := by unfold Bp; exact val_lt h
theorem val_geB {l : List Int} (h : Limbs l) (ht : Trim l) (hn : l ≠ []) : Bp (l.length - 1) ≤ val l := by unfold Bp; exact val_ge h ht hn
theorem val_splitB (l : List Int) (n : Nat) (h : n ≤ l.length) : val l = val (l.take n) + Bp n * val (l.drop n) := by
  have h0 := val_appendB (l.take n) (l.drop n)
  rw [List.take_append_drop, zLt, Nat.min_eq_left h] at h0
  exact h0
theorem less_l0B (b : List Int) (hb : Limbs b) (N : Nat) (hN : N < 4611686018427387904) (k : Nat) (X : List Int) (hX : X.length = N) (lX : Limbs X) :
    ∃ X' c', n_less.l0 (k + N + 1) X b 0 (N : Int) 0 = some (c', X') ∧ X'.length = N ∧ Limbs X' ∧ (c' = 0 ∨ c' = 1) ∧ val X' - c' * Bp N + val (b.take N) = val X := by unfold Bp; exact less_l0 b hb N hN (val X) N 0 k X 0 (by omega) hX lX (.inl rfl) (by simp [val])
theorem w64e {x : Int} {m : Nat} (h : x = (m : Int)) (hm : m < 4611686018427387904) : wrap64 x = (m : Int) := by rw [h]; exact w64 (by omega) (by omega)
theorem Limbs.drop {l : List Int} (h : Limbs l) (n : Nat) : Limbs (l.drop n) := fun x hx => h x (List.mem_of_mem_drop hx)
theorem Limbs.append {a b : List Int} (ha : Limbs a) (hb : Limbs b) : Limbs (a ++ b) := fun x hx => by
  rcases List.mem_append.1 hx with h | h
  · exact ha x h
  · exact hb x h
theorem len_of_lt {l : List Int} {v : Int} {m : Nat} (h : IsNum l v) (hv : v < Bp m) : l.length ≤ m := by
  rcases Nat.lt_or_ge m l.length with hlt | hge
  · have h1 := val_geB h.limbs h.trim (by intro h0; rw [h0] at hlt; exact absurd hlt (by simp))
    have h2 : Bp m ≤ Bp (l.length - 1) := pow_upB (by omega)
    rw [h.eq] at h1
    omega
  · exact hge
theorem of2_num (a : Int) (h0 : 0 ≤ a) (h1 : a < 18446744073709551616) : IsNum (of2 a) a := by
  have hl : Limbs [a % 4294967296, a / 4294967296] := Limbs.mk (by omega) (by omega) (Limbs.mk (by omega) (by omega) Limbs.nil)
  have := IsNum.cut hl
  rw [show val [a % 4294967296, a / 4294967296] = a by simp only [val]; omega] at this
  exact this
theorem IsNum.nil : IsNum [] 0 := ⟨Limbs.nil, .inl rfl, rfl⟩
theorem less_at_f (u p : List Int) (hu : Limbs u) (hp : Limbs p) (j n : Nat) (hj : j + n + 1 ≤ u.length) (hum : u.length < 35184372088832) (hpl : p.length ≤ n + 1) (hz : val (u.drop (j + n + 1)) = 0) (k : Nat) (hk : n + 2 ≤ k) :
    ∃ c u', n_less_at.f k u (j : Int) ((j + n + 1 : Nat) : Int) p = some (c, u') ∧ u'.length = u.length ∧ Limbs u' ∧ (c = 0 ∨ c = 1) ∧ val u' - c * Bp (j + n + 1) + Bp j * val p = val u ∧ val (u'.drop (j + n + 1)) = 0 := by
  obtain ⟨s, hs⟩ : ∃ s, s = (u.take (j + n + 1)).drop j := ⟨_, rfl⟩
  have hsl : s.length = n + 1 := by rw [hs, zLd, zLt]; omega
  have hsL : Limbs s := by rw [hs]; exact (hu.take _).drop _
  obtain ⟨d, rfl⟩ : ∃ d, k = d + (n + 1) + 1 := ⟨k - (n + 2), by omega⟩
  obtain ⟨s', c, h1, h2, h3, h4, h5⟩ := less_l0B p hp (n + 1) (by omega) d s hsl hsL
  rw [List.take_of_length_le hpl] at h5
  have hv1 : val u = val (u.take j) + Bp j * val s := by
    have g1 := val_splitB u (j + n + 1) hj
    rw [hz, Int.mul_zero, Int.add_zero] at g1
    have g2 := val_splitB (u.take (j + n + 1)) j (by rw [zLt]; omega)
    rw [List.take_take, Nat.min_eq_left (by omega), ← hs] at g2
    rw [g1, g2]
  have htl : (u.take j).length = j := by rw [zLt]; omega
  refine ⟨c, u.take j ++ (s' ++ u.drop (j + n + 1)), ?_, ?_, ?_, h4, ?_, ?_⟩
  · unfold n_less_at.f
    rw [zTn, zTn, if_pos (by omega), if_pos hj, ← hs]
    unfold n_less.f
    rw [hsl, h1]
    rfl
  · rw [List.length_append, List.length_append, htl, h2, zLd]; omega
  · exact (hu.take _).append (h3.append (hu.drop _))
  · rw [val_appendB, val_appendB, htl, hz, Int.mul_zero, Int.add_zero, hv1, show j + n + 1 = j + (n + 1) by omega, Bp_add]
    rw [← h5]
    grind
  · rw [← List.append_assoc, List.drop_append_of_le_length (by rw [List.length_append, htl, h2]; omega), List.drop_of_length_le (by rw [List.length_append, htl, h2]; omega), List.nil_append, hz]
theorem back_l2 (Q v : List Int) (x9 g : Int) (n j L : Nat) (hv : Limbs v) (hn : v.length = n) (hj : j + n + 1 ≤ L) (hL : L < 35184372088832) (hQ : j < Q.length) (hQm : Q.length < 35184372088832) (W : Int) :
    ∀ (d i k : Nat) (X : List Int) (c : Int), i + d = n + 1 → X.length = L → Limbs X → (c = 0 ∨ c = 1) → Aside0 (val X + c * Bp (j + i) = W + Bp j * val (v.take i)) → Aside0 (val (X.drop (j + n + 1)) = 0) →
    ∃ X' c', n_DivMod.l2 (k + d + 1) Q x9 X v (n : Int) (j : Int) g c ((n + 1 : Nat) : Int) (i : Int) = n_DivMod.l0 k (Q.set j (g % 4294967296)) x9 X' v (n : Int) ((j : Int) - 1) ∧ X'.length = L ∧ Limbs X' ∧ (c' = 0 ∨ c' = 1) ∧ val X' + c' * Bp (j + n + 1) = W + Bp j * val v ∧ val (X'.drop (j + n + 1)) = 0 := by
  intro d
  induction d with
  | zero =>
    intro i k X c hi hX lX hc hT hz
    obtain rfl : i = n + 1 := by omega
    refine ⟨X, c, ?_, hX, lX, hc, ?_, hz.out⟩
    · rw [n_DivMod.l2, if_neg (by omega), if_pos (by omega), if_pos (by omega), zTn, w64 (by omega) (by omega)]
    · have h_ := hT.out
      rw [List.take_of_length_le (by omega)] at h_
      exact h_
  | succ d ih =>
    intro i k X c hi hX lX hc hT hz
    have e1 : Aside0 (wrap64 ((j : Int) + (i : Int)) = ((j + i : Nat) : Int)) := ⟨w64e (by omega) (by omega)⟩
    have e2 : Aside0 (wrap64 ((i : Int) + 1) = ((i + 1 : Nat) : Int)) := ⟨w64e (by omega) (by omega)⟩
    obtain ⟨s, c', e, d0, d1, hc', hd⟩ := add32_f (X.getD (j + i) 0) (v.getD i 0) c (lX.getD _) (hv.getD i) hc
    obtain ⟨X', c'', h1, h2, h3, h4, h5, h6⟩ := ih (i + 1) k (X.set (j + i) s) c' (by omega) (by rw [List.length_set]; exact hX) (lX.set _ d0 d1) hc' (by
        refine ⟨?_⟩
        rw [val_setB _ _ _ (by omega), val_take_succB v i, show j + (i + 1) = (j + i) + 1 by omega, Bp_succ, Bp_add]
        have h_ := hT.out
        rw [Bp_add] at h_
        generalize Bp j = P at *
        generalize Bp i = R at *
        generalize val (v.take i) = Z at *
        clear ih hT hz
        grind) ⟨by rw [List.drop_set, if_pos (by omega)]; exact hz.out⟩
    refine ⟨X', c'', ?_, h2, h3, h4, h5, h6⟩
    rw [show k + (d + 1) + 1 = (k + d + 1) + 1 by omega, n_DivMod.l2, if_pos (by omega)]
    by_cases hin : (i : Int) < (n : Int)
    · rw [if_pos hin, if_pos (by omega), if_pos (by omega), e1.out, if_pos (by omega), if_pos (by omega), rd_nat, rd_nat, e, zOb, zTn, e2.out]
      exact h1
    · rw [getD_ge v (by omega)] at e
      rw [if_neg hin, e1.out, if_pos (by omega), if_pos (by omega), rd_nat, e, zOb, zTn, e2.out]
      exact h1
theorem round_j3 (Q u v : List Int) (x9 : Int) (n j : Nat) (hv : Limbs v) (hu : Limbs u) (hn : v.length = n) (hj : j + n + 1 ≤ u.length) (hum : u.length < 35184372088832) (hQ : j < Q.length) (hQm : Q.length < 35184372088832) (hz : Aside0 (val (u.drop (j + n + 1)) = 0)) (hnm : n < 1000000)
    (qd g : Int) (hq0 : 0 ≤ qd) (hqg : qd ≤ g) (hgq : g ≤ qd + 1) (hg : g < 4294967296) (h0_ : 0 ≤ val u - Bp j * (val v * qd)) (h1_ : val u - Bp j * (val v * qd) < Bp j * val v) (k : Nat) (hk : 5 * n + 20 ≤ k) :
    ∃ u' k', n_DivMod.j3 k Q x9 u v (n : Int) (j : Int) g = n_DivMod.l0 k' (Q.set j qd) x9 u' v (n : Int) ((j : Int) - 1) ∧ u'.length = u.length ∧ Limbs u' ∧ val u' = val u - Bp j * (val v * qd) ∧ k ≤ k' + n + 4 := by
  have h01 : Aside0 (0 ≤ val u - Bp j * (val v * qd) ∧ val u - Bp j * (val v * qd) < Bp j * val v) := ⟨h0_, h1_⟩
  clear h0_ h1_
  obtain ⟨k, rfl⟩ : ∃ d, k = d + n + 4 := ⟨k - (n + 4), by omega⟩
  have e1 : Aside0 (wrap64 ((j : Int) + (n : Int)) = ((j + n : Nat) : Int)) := ⟨w64e (by omega) (by omega)⟩
  have e6 : Aside0 (wrap64 (((j + n : Nat) : Int) + 1) = ((j + n + 1 : Nat) : Int)) := ⟨w64e (by omega) (by omega)⟩
  have e7 : Aside0 (wrap64 ((n : Int) + 1) = ((n + 1 : Nat) : Int)) := ⟨w64e (by omega) (by omega)⟩
  obtain ⟨o, og, ogl, hof⟩ : ∃ o, IsNum o g ∧ o.length ≤ 2 ∧ n_Of.f g = some o := ⟨of2 g, of2_num g (by omega) (by omega), cut_length _, of_f g (by omega) (by omega)⟩
  have hmk : (o.length + 2) * v.length + 1 ≤ k + n + 3 := by
    have : (o.length + 2) * v.length ≤ 4 * n := Nat.mul_le_mul (by omega) (by omega)
    omega
  obtain ⟨p, f1, f2, f3⟩ := mul_f v o hv og.limbs (by omega) (k + n + 3) hmk
  clear hmk
  rw [og.eq] at f2
  have hpl : p.length ≤ n + 1 := by
    refine len_of_lt f2 ?_
    have hV0 := val_nonneg hv
    have hV1 := val_ltB hv
    rw [hn] at hV1
    have h5 : val v * g ≤ val v * 4294967296 := Int.mul_le_mul_of_nonneg_left (by omega) hV0
    rw [Bp_succ]
    omega
  obtain ⟨c, u1, a1, a2, a3, a4, a5, a6⟩ := less_at_f u p hu f2.limbs j n hj hum hpl hz.out (k + n + 3) (by omega)
  rw [f2.eq] at a5
  have A5 := zMk a5
  have A6 := zMk a6
  clear a5 a6
  have hj3 : n_DivMod.j3 (k + n + 4) Q x9 u v (n : Int) (j : Int) g = if c > 0 then n_DivMod.l2 (k + n + 3) Q x9 u1 v (n : Int) (j : Int) (IntKind.u64.wrap (g - 1)) 0 ((n + 1 : Nat) : Int) 0 else n_DivMod.l0 (k + n + 3) (Q.set j (g % 4294967296)) x9 u1 v (n : Int) ((j : Int) - 1) := by
    rw [show k + n + 4 = (k + n + 3) + 1 from rfl, n_DivMod.j3, hof, zOb, f1, zOb, if_pos (by omega), e1.out, e6.out, if_pos (by omega), if_pos (by omega), a1, zOb, e7.out, zTn, if_pos (show ((j : Int)) < (Q.length : Int) by omega), w64 (n := (j : Int) - 1) (by omega) (by omega)]
  have bound : ∀ X : List Int, Limbs X → X.length = u.length → Aside0 (val (X.drop (j + n + 1)) = 0) → val X < Bp (j + n + 1) := by
    intro X hX hXl hXz
    have hmin : (X.take (j + n + 1)).length = j + n + 1 := by rw [zLt]; omega
    have g1 := val_splitB X (j + n + 1) (by omega)
    rw [hXz.out, Int.mul_zero, Int.add_zero] at g1
    have g2 := val_ltB (hX.take (j + n + 1))
    rw [hmin, ← g1] at g2
    exact g2
  have hV0 := val_nonneg hv
  have hu1 := val_nonneg a3
  have hPj := Int.le_of_lt (Bp_pos j)
  have hle : Bp j * (val v * qd) ≤ Bp j * (val v * g) := Int.mul_le_mul_of_nonneg_left (Int.mul_le_mul_of_nonneg_left hqg hV0) hPj
  have hsplit : Bp j * (val v * (qd + 1)) = Bp j * (val v * qd) + Bp j * val v := by rw [Int.mul_add, Int.mul_add, Int.mul_one]
  have hle2 : qd < g → Bp j * (val v * qd) + Bp j * val v ≤ Bp j * (val v * g) := fun hlt => by
    rw [← hsplit]
    exact Int.mul_le_mul_of_nonneg_left (Int.mul_le_mul_of_nonneg_left (by omega) hV0) hPj
  have HS := zMk hsplit
  have HL := zMk hle
  have HL2 := zMk hle2
  clear hsplit hle hle2
  rcases a4 with rfl | rfl
  · have hgq2 : g = qd := by
      rcases Int.lt_or_le qd g with hlt | _
      · exfalso
        have h1 := HL2.out hlt
        have h2 := A5.out
        rw [Int.zero_mul, Int.sub_zero] at h2
        obtain ⟨h3, h4⟩ := h01.out
        generalize Bp j * (val v * g) = a at *
        generalize Bp j * (val v * qd) = b at *
        generalize Bp j * val v = c at *
        omega
      · omega
    refine ⟨u1, k + n + 3, ?_, a2, a3, ?_, by omega⟩
    · rw [hj3, if_neg (by omega), show g % 4294967296 = g by omega, hgq2]
    · have h2 := A5.out
      rw [Int.zero_mul, Int.sub_zero, hgq2] at h2
      generalize Bp j * (val v * qd) = b at *
      omega
  · have hgq2 : g = qd + 1 := by
      rcases Int.lt_or_le qd g with hlt | _
      · omega
      · exfalso
        have hgq : g = qd := by omega
        have h2 := A5.out
        have h5 := bound u1 a3 a2 A6
        obtain ⟨h3, h4⟩ := h01.out
        rw [hgq, Int.one_mul] at h2
        generalize Bp j * (val v * qd) = b at *
        generalize Bp (j + n + 1) = d at *
        omega
    obtain ⟨X, c, b1, b2, b3, b4, b5, b6⟩ := back_l2 Q v x9 qd n j u.length hv hn hj hum hQ hQm (val u1) (n + 1) 0 (k + 1) u1 0 (by omega) a2 a3 (.inl rfl) ⟨by simp [val]⟩ A6
    have hX0 := val_nonneg b3
    have hX1 := bound X b3 b2 ⟨b6⟩
    have h2 := A5.out
    rw [hgq2, HS.out, Int.one_mul] at h2
    have h34 := h01.out
    have hres : val X = val u - Bp j * (val v * qd) := by
      obtain ⟨h3, h4⟩ := h34
      rcases b4 with rfl | rfl
      · exfalso
        rw [Int.zero_mul] at b5
        generalize Bp j * (val v * qd) = b at *
        generalize Bp j * val v = c at *
        generalize Bp (j + n + 1) = d at *
        omega
      · rw [Int.one_mul] at b5
        generalize Bp j * (val v * qd) = b at *
        generalize Bp j * val v = c at *
        generalize Bp (j + n + 1) = d at *
        omega
    clear h34 h2 hX1 b5 b6
    refine ⟨X, k + 1, ?_, b2, b3, hres, by omega⟩
    clear hres
    rw [hj3, if_pos (by omega), wraps_u64 (g - 1) (by omega) (by omega), show g - 1 = qd by omega]
    rw [show k + 1 + (n + 1) + 1 = k + n + 3 by omega, show ((0 : Nat) : Int) = 0 from rfl, show qd % 4294967296 = qd by omega] at b1
    exact b1
/- The plain law of the program's quotient and rest: the rounds, the shift back, the whole. -/
theorem lt_pow_drop {u : List Int} (hu : Limbs u) (N : Nat) (h : N ≤ u.length) (hv : val u < Bp N) : val (u.drop N) = 0 := by
  have h1 := val_splitB u N h
  have h2 := val_nonneg (hu.drop N)
  have h3 := val_nonneg (hu.take N)
  have hp := Bp_pos N
  rcases Int.lt_or_le 0 (val (u.drop N)) with h4 | h4
  · have h5 : Bp N * 1 ≤ Bp N * val (u.drop N) := Int.mul_le_mul_of_nonneg_left (by omega) (Int.le_of_lt hp)
    rw [Int.mul_one] at h5
    rw [h1] at hv
    generalize Bp N * val (u.drop N) = z at *
    omega
  · omega
/-- The state of a round: what the three top limbs say. -/
theorem top_limbs (v : List Int) (hv : Limbs v) (p : Nat) (hn : v.length = p + 2) : (v.getD (p + 1) 0 * 4294967296 + v.getD p 0) * Bp p ≤ val v ∧ val v ≤ (v.getD (p + 1) 0 * 4294967296 + v.getD p 0 + 1) * Bp p := by
  have h1 := val_take_succB v (p + 1)
  have h2 := val_take_succB v p
  rw [show p + 1 + 1 = v.length by omega, List.take_length, h2, Bp_succ] at h1
  have h3 := val_nonneg (hv.take p)
  have h4 := val_ltB (hv.take p)
  rw [zLt, Nat.min_eq_left (by omega)] at h4
  have e : Bp p * 4294967296 * v.getD (p + 1) 0 = v.getD (p + 1) 0 * 4294967296 * Bp p := by grind
  have e2 : Bp p * v.getD p 0 = v.getD p 0 * Bp p := Int.mul_comm _ _
  rw [e, e2] at h1
  rw [Int.add_mul, Int.add_mul (v.getD (p + 1) 0 * 4294967296 + v.getD p 0), Int.add_mul, Int.one_mul]
  generalize v.getD (p + 1) 0 * 4294967296 * Bp p = x at *
  generalize v.getD p 0 * Bp p = y at *
  omega
theorem top_three (u : List Int) (hu : Limbs u) (q : Nat) (hq : q + 3 ≤ u.length) (hz : val (u.drop (q + 3)) = 0) : ((u.getD (q + 2) 0 * 4294967296 + u.getD (q + 1) 0) * 4294967296 + u.getD q 0) * Bp q ≤ val u ∧ val u < ((u.getD (q + 2) 0 * 4294967296 + u.getD (q + 1) 0) * 4294967296 + u.getD q 0 + 1) * Bp q := by
  have h0 := val_splitB u (q + 3) hq
  rw [hz, Int.mul_zero, Int.add_zero] at h0
  have h1 := val_take_succB u (q + 2)
  have h2 := val_take_succB u (q + 1)
  have h3 := val_take_succB u q
  rw [← h0, h2, h3, show q + 2 = q + 1 + 1 from rfl, Bp_succ (q + 1), Bp_succ q] at h1
  have h4 := val_nonneg (hu.take q)
  have h5 := val_ltB (hu.take q)
  rw [zLt, Nat.min_eq_left (by omega)] at h5
  have e : val (u.take q) + Bp q * u.getD q 0 + Bp q * 4294967296 * u.getD (q + 1) 0 + Bp q * 4294967296 * 4294967296 * u.getD (q + 1 + 1) 0 = val (u.take q) + ((u.getD (q + 1 + 1) 0 * 4294967296 + u.getD (q + 1) 0) * 4294967296 + u.getD q 0) * Bp q := by grind
  rw [e] at h1
  rw [show q + 2 = q + 1 + 1 from rfl, Int.add_mul ((u.getD (q + 1 + 1) 0 * 4294967296 + u.getD (q + 1) 0) * 4294967296 + u.getD q 0) 1, Int.one_mul]
  generalize ((u.getD (q + 1 + 1) 0 * 4294967296 + u.getD (q + 1) 0) * 4294967296 + u.getD q 0) * Bp q = x at *
  omega
/-- What the guess of a round needs, on numbers alone. -/
theorem guess_facts (vt v2 T V S head u2 : Int) (hT : 0 < T) (hvt : 2147483648 ≤ vt) (hvt2 : vt < 4294967296) (hv2 : 0 ≤ v2) (hv22 : v2 < 4294967296) (hu2 : 0 ≤ u2) (hu22 : u2 < 4294967296) (hh0 : 0 ≤ head)
    (hV : (vt * 4294967296 + v2) * T ≤ V) (hV2 : V ≤ (vt * 4294967296 + v2 + 1) * T) (hS : (head * 4294967296 + u2) * T ≤ S) (hS2 : S < (head * 4294967296 + u2 + 1) * T) (hSV : S < 4294967296 * V) :
    0 < V ∧ 0 ≤ S / V ∧ S / V < 4294967296 ∧ head < 4294967296 * vt + 4294967296 ∧ head / vt < 4294967298 ∧ S / V ≤ head / vt ∧
    (∀ g r, 0 ≤ g → g * vt + r = head → g * v2 > r * 4294967296 + u2 → S / V < g) ∧
    (∀ g r, 0 ≤ g → g < 4294967296 → g * vt + r = head → (g * v2 ≤ r * 4294967296 + u2 ∨ 4294967296 ≤ r) → g ≤ S / V + 1) := by
  have hV0 : 0 < V := by
    have h1 : 1 * T ≤ (vt * 4294967296 + v2) * T := Int.mul_le_mul_of_nonneg_right (by omega) (by omega)
    rw [Int.one_mul] at h1
    omega
  have hS0 : 0 ≤ S := by
    have h1 : 0 ≤ (head * 4294967296 + u2) * T := Int.mul_nonneg (by omega) (by omega)
    omega
  have hhd : head < 4294967296 * vt + 4294967296 := by
    have h1 : 4294967296 * V ≤ 4294967296 * ((vt * 4294967296 + v2 + 1) * T) := Int.mul_le_mul_of_nonneg_left hV2 (by omega)
    rw [← Int.mul_assoc] at h1
    have h2 : (head * 4294967296 + u2) * T < 4294967296 * (vt * 4294967296 + v2 + 1) * T := by omega
    have h3 := Int.lt_of_mul_lt_mul_right h2 (by omega)
    omega
  have hle : S / V * V ≤ S := Int.ediv_mul_le _ (by omega)
  refine ⟨hV0, Int.ediv_nonneg hS0 (by omega), Int.ediv_lt_of_lt_mul hV0 hSV, hhd, Int.ediv_lt_of_lt_mul (by omega) (by omega), ?_, ?_, ?_⟩
  · refine Int.le_ediv_of_mul_le (by omega) ?_
    have hq : 0 ≤ S / V := Int.ediv_nonneg hS0 (by omega)
    generalize S / V = q at *
    have h1 : q * ((vt * 4294967296 + v2) * T) ≤ q * V := Int.mul_le_mul_of_nonneg_left hV hq
    have h2 : q * (vt * 4294967296 * T) ≤ q * ((vt * 4294967296 + v2) * T) := Int.mul_le_mul_of_nonneg_left (Int.mul_le_mul_of_nonneg_right (by omega) (by omega)) hq
    have h3 : q * (vt * 4294967296 * T) = (q * vt * 4294967296) * T := by grind
    have h4 : (q * vt * 4294967296) * T < (head * 4294967296 + u2 + 1) * T := by omega
    have h5 := Int.lt_of_mul_lt_mul_right h4 (by omega)
    omega
  · intro g r hg hh hc
    refine Int.ediv_lt_of_lt_mul hV0 ?_
    exact knuth_lower vt v2 T V S head u2 g r hT hV hS2 hg hh hc
  · intro g r hg hg2 hh hc
    rcases hc with hc | hc
    · have := Int.le_ediv_of_mul_le hV0 (knuth_upper vt v2 T V S head u2 g r hT (by omega) hv2 hV hV2 hS hg hg2 hh hc)
      omega
    · have := Int.le_ediv_of_mul_le hV0 (knuth_break vt v2 T V S head u2 g r hT hv22 hu2 hV2 hS hg hg2 hh hc)
      omega
theorem outer_l0 (v : List Int) (hv : Limbs v) (n p : Nat) (hn : v.length = n) (hp : n = p + 2) (hnm : n < 1000000) (x9 : Int) (hvt : 2147483648 ≤ v.getD (n - 1) 0) (A : Int) (L qn : Nat) (hLq : L = qn + n) (hL : L < 10000000) :
    ∀ (m k : Nat) (Q u : List Int), m ≤ qn → Q.length = qn → u.length = L → Limbs Q → Limbs u → Aside0 (val u < Bp m * val v) → (∀ i, i < m → Q.getD i 0 = 0) → Aside0 (val u + val v * val Q = A) → m * (n + 12) + 5 * n + 30 ≤ k →
    ∃ Q' u' k', n_DivMod.l0 k Q x9 u v (n : Int) ((m : Int) - 1) = n_DivMod.l0 k' Q' x9 u' v (n : Int) (-1) ∧ Limbs Q' ∧ Q'.length = qn ∧ Limbs u' ∧ u'.length = L ∧ Aside0 (val u' < val v) ∧ Aside0 (val u' + val v * val Q' = A) ∧ 5 * n + 30 ≤ k' := by
  intro m
  induction m with
  | zero =>
    intro k Q u _ hQ hu lQ lu h1 _ h2 hk
    refine ⟨Q, u, k, rfl, lQ, hQ, lu, hu, ⟨?_⟩, h2, by omega⟩
    have := h1.out
    rw [Bp_zero, Int.one_mul] at this
    exact this
  | succ m ih =>
    intro k Q u hm hQ hu lQ lu h1 hz h2 hk
    rw [Nat.add_mul, Nat.one_mul] at hk
    obtain ⟨k, rfl⟩ : ∃ d, k = d + 1 := ⟨k - 1, by omega⟩
    have e1 : Aside0 (wrap64 ((m : Int) + (n : Int)) = ((m + n : Nat) : Int)) := ⟨w64e (by omega) (by omega)⟩
    have e2 : Aside0 (wrap64 (((m + n : Nat) : Int) - 1) = ((m + n - 1 : Nat) : Int)) := ⟨w64e (by omega) (by omega)⟩
    have e3 : Aside0 (wrap64 ((n : Int) - 1) = ((n - 1 : Nat) : Int)) := ⟨w64e (by omega) (by omega)⟩
    have HZ : Aside0 (val (u.drop (m + n + 1)) = 0) := ⟨lt_pow_drop lu (m + n + 1) (by omega) (by
      have h3 := h1.out
      have h4 := val_ltB hv
      rw [hn] at h4
      have h5 : Bp (m + 1) * val v < Bp (m + 1) * Bp n := Int.mul_lt_mul_of_pos_left h4 (Bp_pos _)
      rw [← Bp_add, show m + 1 + n = m + n + 1 by omega] at h5
      exact Int.lt_trans h3 h5)⟩
    have bvt := hv.getD (n - 1)
    have bv2 := hv.getD (n - 2)
    have bhi := lu.getD (m + n)
    have blo := lu.getD (m + n - 1)
    have bu2 := lu.getD (m + n - 2)
    obtain ⟨head, hhead⟩ : ∃ head, u.getD (m + n) 0 * 4294967296 + u.getD (m + n - 1) 0 = head := ⟨_, rfl⟩
    have hh0 : 0 ≤ head := by omega
    have HV := top_limbs v hv p (by omega)
    have HU := top_three u lu (m + p) (by omega) (by rw [show m + p + 3 = m + n + 1 by omega]; exact HZ.out)
    rw [show p + 1 = n - 1 by omega] at HV
    rw [show m + p + 2 = m + n by omega, show m + p + 1 = m + n - 1 by omega, hhead, Bp_add] at HU
    have HU2 := zMk HU
    have HV2 := zMk HV
    have hpm := Bp_pos m
    have hpp := Bp_pos p
    clear HU HV
    have GF := guess_facts (v.getD (n - 1) 0) (v.getD (n - 2) 0) (Bp m * Bp p) (Bp m * val v) (val u) head (u.getD (m + n - 2) 0) (Int.mul_pos hpm hpp) hvt bvt.2 bv2.1 bv2.2 bu2.1 bu2.2 hh0
      (by
        have h3 := Int.mul_le_mul_of_nonneg_left HV2.out.1 (Int.le_of_lt hpm)
        rw [show p = n - 2 by omega] at h3 ⊢
        rw [show Bp m * ((v.getD (n - 1) 0 * 4294967296 + v.getD (n - 2) 0) * Bp (n - 2)) = (v.getD (n - 1) 0 * 4294967296 + v.getD (n - 2) 0) * (Bp m * Bp (n - 2)) by grind] at h3
        exact h3)
      (by
        have h3 := Int.mul_le_mul_of_nonneg_left HV2.out.2 (Int.le_of_lt hpm)
        rw [show p = n - 2 by omega] at h3 ⊢
        rw [show Bp m * ((v.getD (n - 1) 0 * 4294967296 + v.getD (n - 2) 0 + 1) * Bp (n - 2)) = (v.getD (n - 1) 0 * 4294967296 + v.getD (n - 2) 0 + 1) * (Bp m * Bp (n - 2)) by grind] at h3
        exact h3)
      (by rw [show m + n - 2 = m + p by omega]; exact HU2.out.1)
      (by rw [show m + n - 2 = m + p by omega]; exact HU2.out.2)
      (by
        have h3 := h1.out
        rw [Bp_succ, Int.mul_comm (Bp m), Int.mul_assoc] at h3
        exact h3)
    obtain ⟨g1, g2, g3, g4, g5, g6, g7, g8⟩ := GF
    have hmod := Int.emod_add_mul_ediv (val u) (Bp m * val v)
    have hm0 := Int.emod_nonneg (val u) (show Bp m * val v ≠ 0 from Int.ne_of_gt g1)
    have hm1 := Int.emod_lt_of_pos (val u) g1
    have H01 : Aside0 (0 ≤ val u - Bp m * (val v * (val u / (Bp m * val v))) ∧ val u - Bp m * (val v * (val u / (Bp m * val v))) < Bp m * val v) := ⟨by
      rw [← Int.mul_assoc]
      generalize Bp m * val v * (val u / (Bp m * val v)) = x at *
      generalize Bp m * val v = y at *
      omega⟩
    clear hmod hm0 hm1 g1
    obtain ⟨qd, hqd⟩ : ∃ qd, val u / (Bp m * val v) = qd := ⟨_, rfl⟩
    rw [hqd] at g2 g3 g6 g7 g8 H01
    clear hqd
    have hr0 := Int.emod_nonneg head (show v.getD (n - 1) 0 ≠ 0 by omega)
    have hr1 := Int.emod_lt_of_pos head (show 0 < v.getD (n - 1) 0 by omega)
    have hgr : head / v.getD (n - 1) 0 * v.getD (n - 1) 0 + head % v.getD (n - 1) 0 = head := by have := Int.emod_add_mul_ediv head (v.getD (n - 1) 0); rw [Int.mul_comm] at this; omega
    have hg0 : 0 ≤ head / v.getD (n - 1) 0 := Int.ediv_nonneg hh0 (by omega)
    obtain ⟨g', k2, c1, c2, c3, c4, r', c5, c6⟩ := guess_l1 Q u v x9 n m hv lu hn (by omega) (by omega) (by omega) qd head g2 g3 hvt g7 g4 2 k (head / v.getD (n - 1) 0) (head % v.getD (n - 1) 0) g5 hgr g6 hr0 (by omega) (by omega) (by omega)
    obtain ⟨u', k3, d1, d2, d3, d4, d5⟩ := round_j3 Q u v x9 n m hv lu hn (by omega) (by omega) (by omega) (by omega) HZ hnm qd g' g2 c2 (g8 g' r' (by omega) c3 c5 c6) c3 H01.out.1 H01.out.2 k2 (by omega)
    have hlast : Aside0 (val u' < Bp m * val v) := ⟨by rw [d4]; exact H01.out.2⟩
    have hA : Aside0 (val u' + val v * val (Q.set m qd) = A) := ⟨by
      have h3 := h2.out
      rw [d4, val_setB _ _ _ (by omega), hz m (by omega), ← h3]
      grind⟩
    clear d4 H01 HU2 HV2
    obtain ⟨Q', u'', k', f1, f2, f3, f4, f5, f6, f7, f8⟩ := ih k3 (Q.set m qd) u' (by omega) (by rw [List.length_set]; exact hQ) (by omega) (lQ.set _ g2 g3) d3 hlast (fun i hi => by rw [getD_set_ne _ _ (by omega)]; exact hz i (by omega)) hA (by omega)
    refine ⟨Q', u'', k', ?_, f2, f3, f4, f5, f6, f7, f8⟩
    rw [show ((m + 1 : Nat) : Int) - 1 = (m : Int) by omega, n_DivMod.l0, if_pos (by omega), e1.out, if_pos (by omega), if_pos (by omega), e2.out, if_pos (by omega), if_pos (by omega), e3.out, if_pos (by omega), if_pos (by omega), rd_nat, rd_nat, rd_nat, wraps_u64 (v.getD (n - 1) 0) (by omega) (by omega), if_neg (by omega), wraps_u64 (u.getD (m + n) 0) (by omega) (by omega), or64 _ _ bhi blo, hhead]
    rw [Int.tdiv_eq_ediv_of_nonneg hh0, Int.tmod_eq_emod_of_nonneg hh0, wraps_u64 (head / v.getD (n - 1) 0) (by omega) (by omega), c1, d1]
    exact f1
/- The plain law of the program's quotient and rest: the shift back, the whole. -/
theorem shr64 (x : Int) (s : Nat) (hs : s ≤ 31) : shr .u64 x (s : Int) = x / 2 ^ s := by
  unfold shr
  rw [show min ((s : Int)).toNat (IntKind.bits .u64) = s from by rw [zTn]; exact Nat.min_eq_left (Nat.le_trans hs (by decide))]
theorem mod_next (x a b : Int) (ha : 0 ≤ a) : x % (a * b) = x % a + a * (x / a % b) := by
  rw [Int.emod_def x (a * b), ← Int.ediv_ediv_of_nonneg ha, Int.emod_def x a, Int.emod_def (x / a) b, Int.mul_sub, Int.mul_assoc]
  generalize a * (b * (x / a / b)) = z
  omega
theorem digit_shift (u : List Int) (hu : Limbs u) (i : Nat) (hi : i + 1 < u.length) (s : Nat) (hs : s ≤ 31) : val u / 2 ^ s / Bp i % 4294967296 = (u.getD (i + 1) 0 * 4294967296 + u.getD i 0) / 2 ^ s % 4294967296 := by
  have hP : (0 : Int) < 2 ^ s := Int.pow_pos (by decide)
  have h1 := val_splitB u i (by omega)
  have h2 : u.drop i = u.getD i 0 :: u.getD (i + 1) 0 :: u.drop (i + 2) := by rw [List.drop_eq_getElem_cons (by omega), List.drop_eq_getElem_cons (by omega), getD_lt _ (by omega), getD_lt _ (by omega)]
  rw [h2] at h1
  simp only [val] at h1
  have h3 := val_nonneg (hu.take i)
  have h4 := val_ltB (hu.take i)
  rw [zLt, Nat.min_eq_left (by omega)] at h4
  rw [Int.ediv_ediv_of_nonneg (Int.le_of_lt hP), Int.mul_comm (2 ^ s) (Bp i), ← Int.ediv_ediv_of_nonneg (Int.le_of_lt (Bp_pos i))]
  have h5 : val u / Bp i = u.getD i 0 + 4294967296 * (u.getD (i + 1) 0 + 4294967296 * val (u.drop (i + 2))) := by
    rw [h1, Int.add_mul_ediv_left _ _ (Int.ne_of_gt (Bp_pos i)), Int.ediv_eq_zero_of_lt h3 h4, Int.zero_add]
  rw [h5]
  have hB : (4294967296 : Int) = 2 ^ s * 2 ^ (32 - s) := by rw [← Int.pow_add, show s + (32 - s) = 32 by omega]; rfl
  have h6 : u.getD i 0 + 4294967296 * (u.getD (i + 1) 0 + 4294967296 * val (u.drop (i + 2))) = (u.getD (i + 1) 0 * 4294967296 + u.getD i 0) + 2 ^ s * (2 ^ (32 - s) * 4294967296 * val (u.drop (i + 2))) := by
    rw [← Int.mul_assoc (2 ^ s), ← Int.mul_assoc (2 ^ s), ← hB]
    generalize val (u.drop (i + 2)) = z
    omega
  rw [h6, Int.add_mul_ediv_left _ _ (Int.ne_of_gt hP), Int.mul_comm (2 ^ (32 - s)) 4294967296, Int.mul_assoc, Int.add_mul_emod_self_left]
theorem l3_f (Q u : List Int) (hu : Limbs u) (n s : Nat) (hs : s ≤ 31) (hun : n < u.length) (hum : u.length < 35184372088832) :
    ∀ (d i k : Nat) (O : List Int), i + d = n → O.length = n → Limbs O → Aside0 (val O = val u / 2 ^ s % Bp i) → (∀ t, i ≤ t → O.getD t 0 = 0) → d + 1 ≤ k →
    ∃ r, n_DivMod.l3 k Q (s : Int) u O (n : Int) (i : Int) = some (cut Q, r, 0) ∧ IsNum r (val u / 2 ^ s % Bp n) := by
  intro d
  induction d with
  | zero =>
    intro i k O hi hO lO hv hz hk
    obtain ⟨k, rfl⟩ : ∃ e, k = e + 1 := ⟨k - 1, by omega⟩
    obtain rfl : i = n := by omega
    refine ⟨cut O, ?_, ?_⟩
    · rw [n_DivMod.l3, if_neg (by omega), cut_f, zOb, cut_f, zOb]
    · have := IsNum.cut lO
      rw [hv.out] at this
      exact this
  | succ d ih =>
    intro i k O hi hO lO hv hz hk
    obtain ⟨k, rfl⟩ : ∃ e, k = e + 1 := ⟨k - 1, by omega⟩
    have e1 : Aside0 (wrap64 ((i : Int) + 1) = ((i + 1 : Nat) : Int)) := ⟨w64e (by omega) (by omega)⟩
    have bhi := hu.getD (i + 1)
    have blo := hu.getD i
    obtain ⟨dg, hdg⟩ : ∃ dg, (u.getD (i + 1) 0 * 4294967296 + u.getD i 0) / 2 ^ s % 4294967296 = dg := ⟨_, rfl⟩
    have hds := digit_shift u hu i (by omega) s hs
    rw [hdg] at hds
    have hdg0 : 0 ≤ dg ∧ dg < 4294967296 := by
      rw [← hdg]
      generalize (u.getD (i + 1) 0 * 4294967296 + u.getD i 0) / 2 ^ s = z
      omega
    obtain ⟨r, h1, h2⟩ := ih (i + 1) k (O.set i dg) (by omega) (by rw [List.length_set]; exact hO) (lO.set _ hdg0.1 hdg0.2) ⟨by
        rw [val_setB _ _ _ (by omega), hz i (Nat.le_refl _), hv.out, Bp_succ, mod_next _ _ _ (Int.le_of_lt (Bp_pos i)), hds, Int.sub_zero]⟩ (fun t ht => by rw [getD_set_ne _ _ (by omega)]; exact hz t (by omega)) (by omega)
    refine ⟨r, ?_, h2⟩
    clear hds hv
    rw [n_DivMod.l3, if_pos (by omega), e1.out, if_pos (by omega), if_pos (by omega), if_pos (by omega), if_pos (by omega), if_pos (by omega), if_pos (by omega), rd_nat, rd_nat, wraps_u64 (u.getD (i + 1) 0) (by omega) (by omega), or64 _ _ bhi blo, shr64 _ s hs, hdg, zTn]
    exact h1
theorem zeros_getD (n i : Nat) : (List.replicate n (0 : Int)).getD i 0 = 0 := by
  by_cases hi : i < n
  · rw [getD_lt _ (by simpa using hi)]; simp
  · rw [getD_ge _ (by simp; omega)]
theorem knuth_f (a b : List Int) (ha : Limbs a) (hb : Limbs b) (tb : Trim b) (n p : Nat) (hn : b.length = n) (hp : n = p + 2) (hab : val b ≤ val a) (la : a.length ≤ 600) (hlen : n ≤ a.length) (k : Nat) (hk : 500000 ≤ k) :
    ∃ t172 t173 t176, bits_LeadingZeros32.f (b.getD (n - 1) 0) = some t172 ∧ n_shift.f k a (IntKind.u64.wrap t172) = some t173 ∧ n_shift.f k b (IntKind.u64.wrap t172) = some t176 ∧ t173.length = a.length + 1 ∧ (cut t176).length = n ∧
    ∃ q r, n_DivMod.l0 k (List.replicate (a.length + 1 - n) 0) (IntKind.u64.wrap t172) t173 (cut t176) (n : Int) (((a.length + 1 - n : Nat) : Int) - 1) = some (q, r, 0) ∧ IsNum q (val a / val b) ∧ IsNum r (val a % val b) := by
  have htop : b.getD (n - 1) 0 ≠ 0 := by
    rcases tb with h | h
    · rw [h] at hn; simp at hn; omega
    · rw [hn] at h; exact h
  have bt := hb.getD (n - 1)
  obtain ⟨s, s1, s2, s3, s4⟩ := lz_f (b.getD (n - 1) 0) (by omega) bt.2
  have hsw : IntKind.u64.wrap (s : Int) = (s : Int) := wraps_u64 _ (by omega) (by omega)
  have hP : (0 : Int) < 2 ^ s := Int.pow_pos (by decide)
  have hP31 := (pow_le31 s s2).2
  obtain ⟨u, u1, u2, u3, u4⟩ := shift_f a ha (by omega) s s2 k (by omega)
  obtain ⟨w, w1, w2, w3, w4⟩ := shift_f b hb (by omega) s s2 k (by omega)
  have hv := IsNum.cut w2
  rw [w4] at hv
  obtain ⟨v, hvd⟩ : ∃ v, cut w = v := ⟨_, rfl⟩
  rw [hvd] at hv
  -- the top limb of b, shifted
  have hb1 := val_take_succB b (n - 1)
  rw [show n - 1 + 1 = b.length by omega, List.take_length] at hb1
  have hb2 := val_nonneg (hb.take (n - 1))
  have hb3 := val_ltB (hb.take (n - 1))
  rw [zLt, Nat.min_eq_left (by omega)] at hb3
  have hBp := Bp_pos (n - 1)
  have hvlo : 2147483648 * Bp (n - 1) ≤ val v := by
    rw [hv.eq, hb1, Int.add_mul, Int.mul_assoc]
    have h1 : 2147483648 * Bp (n - 1) ≤ b.getD (n - 1) 0 * 2 ^ s * Bp (n - 1) := Int.mul_le_mul_of_nonneg_right s3 (Int.le_of_lt hBp)
    have h2 : 0 ≤ val (b.take (n - 1)) * 2 ^ s := Int.mul_nonneg hb2 (Int.le_of_lt hP)
    rw [Int.mul_comm (b.getD (n - 1) 0 * 2 ^ s)] at h1
    generalize Bp (n - 1) * (b.getD (n - 1) 0 * 2 ^ s) = x at *
    omega
  have hvhi : val v < Bp n := by
    rw [hv.eq, show Bp n = Bp (n - 1) * 4294967296 from by rw [← Bp_succ, show n - 1 + 1 = n by omega]]
    have h1 : val b < Bp (n - 1) * (b.getD (n - 1) 0 + 1) := by rw [Int.mul_add, Int.mul_one]; omega
    have h2 : val b * 2 ^ s < Bp (n - 1) * (b.getD (n - 1) 0 + 1) * 2 ^ s := Int.mul_lt_mul_of_pos_right h1 hP
    have h3 : (b.getD (n - 1) 0 + 1) * 2 ^ s ≤ 4294967296 := by
      have hB : (4294967296 : Int) = 2 ^ s * 2 ^ (32 - s) := by rw [← Int.pow_add, show s + (32 - s) = 32 by omega]; rfl
      have h9 : 2 ^ s * b.getD (n - 1) 0 < 2 ^ s * 2 ^ (32 - s) := by rw [← hB, Int.mul_comm]; exact s4
      have h8 := Int.lt_of_mul_lt_mul_left h9 (Int.le_of_lt hP)
      have h7 : 2 ^ s * (b.getD (n - 1) 0 + 1) ≤ 2 ^ s * 2 ^ (32 - s) := Int.mul_le_mul_of_nonneg_left (by omega) (Int.le_of_lt hP)
      rw [← hB, Int.mul_comm] at h7
      exact h7
    have h4 : Bp (n - 1) * ((b.getD (n - 1) 0 + 1) * 2 ^ s) ≤ Bp (n - 1) * 4294967296 := Int.mul_le_mul_of_nonneg_left h3 (Int.le_of_lt hBp)
    rw [Int.mul_assoc] at h2
    exact Int.lt_of_lt_of_le h2 h4
  have hvl : v.length = n := by
    have h1 := len_of_lt hv (m := n) (by rw [← hv.eq]; exact hvhi)
    rcases Nat.lt_or_ge v.length n with h2 | h2
    · have h3 := val_ltB hv.limbs
      have h4 : Bp v.length ≤ Bp (n - 1) := pow_upB (by omega)
      omega
    · omega
  have hvt : 2147483648 ≤ v.getD (n - 1) 0 := by
    have g1 := val_take_succB v (n - 1)
    rw [show n - 1 + 1 = v.length by omega, List.take_length] at g1
    have g3 := val_ltB (hv.limbs.take (n - 1))
    rw [zLt, Nat.min_eq_left (by omega)] at g3
    rcases Int.lt_or_le (v.getD (n - 1) 0) 2147483648 with h | h
    · have h1 : Bp (n - 1) * (v.getD (n - 1) 0 + 1) ≤ Bp (n - 1) * 2147483648 := Int.mul_le_mul_of_nonneg_left (by omega) (Int.le_of_lt hBp)
      rw [Int.mul_add, Int.mul_one, Int.mul_comm _ 2147483648] at h1
      generalize Bp (n - 1) * v.getD (n - 1) 0 = x at *
      omega
    · exact h
  -- the dividend lies below the divisor's shifted value
  have hua : Aside0 (val u < Bp (a.length + 1 - n) * val v) := ⟨by
    have h1 : val u < Bp a.length * 2 ^ s := by rw [u4]; exact Int.mul_lt_mul_of_pos_right (val_ltB ha) hP
    have h2 : Bp a.length * 2 ^ s ≤ Bp a.length * 2147483648 := Int.mul_le_mul_of_nonneg_left hP31 (Int.le_of_lt (Bp_pos _))
    have h3 : Bp (a.length + 1 - n) * (2147483648 * Bp (n - 1)) ≤ Bp (a.length + 1 - n) * val v := Int.mul_le_mul_of_nonneg_left hvlo (Int.le_of_lt (Bp_pos _))
    have h4 : Bp (a.length + 1 - n) * (2147483648 * Bp (n - 1)) = Bp a.length * 2147483648 := by
      rw [Int.mul_comm 2147483648, ← Int.mul_assoc, ← Bp_add, show a.length + 1 - n + (n - 1) = a.length by omega]
    omega⟩
  have hfu : (a.length + 1 - n) * (n + 12) + 5 * n + 30 ≤ k := by
    have : (a.length + 1 - n) * (n + 12) ≤ 601 * 612 := Nat.mul_le_mul (by omega) (by omega)
    omega
  obtain ⟨Q', u', k', f1, f2, f3, f4, f5, f6, f7, f8⟩ := outer_l0 v hv.limbs n p hvl hp (by omega) (s : Int) hvt (val a * 2 ^ s) (a.length + 1) (a.length + 1 - n) (by omega) (by omega) (a.length + 1 - n) k (List.replicate (a.length + 1 - n) 0) u (Nat.le_refl _) (by simp) u3 (limbs_replicate _) u2 hua (fun i _ => zeros_getD _ i) ⟨by rw [val_replicate, u4, Int.mul_zero, Int.add_zero]⟩ hfu
  have hu0 := val_nonneg f4
  have h6 := f6.out
  have h7 := f7.out
  rw [hv.eq] at h6 h7
  have hvp : 0 < val b * 2 ^ s := by rw [← hv.eq]; have : 0 < 2147483648 * Bp (n - 1) := Int.mul_pos (by decide) hBp; omega
  have hq : val Q' = val a / val b := by
    have h1 : val a * 2 ^ s / (val b * 2 ^ s) = val Q' := by
      rw [← h7, Int.add_mul_ediv_left _ _ (Int.ne_of_gt hvp), Int.ediv_eq_zero_of_lt hu0 h6, Int.zero_add]
    rw [← h1, Int.mul_comm (val a), Int.mul_comm (val b), Int.mul_ediv_mul_of_pos _ _ hP]
  have hr : val u' = 2 ^ s * (val a % val b) := by
    have h1 : val a * 2 ^ s % (val b * 2 ^ s) = val u' := by
      rw [← h7, Int.add_mul_emod_self_left, Int.emod_eq_of_lt hu0 h6]
    rw [← h1, Int.mul_comm (val a), Int.mul_comm (val b), Int.mul_emod_mul_of_pos _ _ hP]
  obtain ⟨k'', rfl⟩ : ∃ d, k' = d + 1 := ⟨k' - 1, by omega⟩
  obtain ⟨r, r1, r2⟩ := l3_f Q' u' f4 n s s2 (by omega) (by omega) n 0 k'' (List.replicate n 0) (by omega) (by simp) (limbs_replicate _) ⟨by rw [val_replicate, Bp_zero]; omega⟩ (fun t _ => zeros_getD _ t) (by omega)
  have hvb : 0 < val b := val_pos hb tb (fun h => by rw [h] at hn; simp at hn; omega)
  rw [hr, Int.mul_ediv_cancel_left _ (Int.ne_of_gt hP)] at r2
  have hrl : val a % val b < Bp n := by
    have h1 := Int.emod_lt_of_pos (val a) hvb
    have h2 := val_ltB hb
    rw [hn] at h2
    omega
  rw [Int.emod_eq_of_lt (Int.emod_nonneg _ (Int.ne_of_gt hvb)) hrl] at r2
  refine ⟨s, u, w, s1, by rw [hsw]; exact u1, by rw [hsw]; exact w1, u3, by rw [hvd]; exact hvl, cut Q', r, ?_, ?_, r2⟩
  · rw [hsw, hvd, f1, n_DivMod.l0, if_neg (by omega), if_pos (by omega), zTn, if_pos (by omega)]
    exact r1
  · rw [← hq]
    exact IsNum.cut f2
theorem divmod_f (a b : List Int) (ha : Limbs a) (hb : Limbs b) (la : a.length ≤ 600) (lb : b.length ≤ 600) (k : Nat) (hk : 500000 ≤ k) :
    (val b = 0 ∧ n_DivMod.f k a b = some ([], [], 15)) ∨ (0 < val b ∧ ∃ q r, n_DivMod.f k a b = some (q, r, 0) ∧ IsNum q (val a / val b) ∧ IsNum r (val a % val b)) := by
  have ca := cut_length a
  have cb := cut_length b
  have va := val_nonneg ha
  have vb := val_nonneg hb
  unfold n_DivMod.f
  rw [cut_f, zOb, cut_f, zOb]
  by_cases h0 : ((cut b).length : Int) = 0
  · refine .inl ⟨?_, by rw [if_pos h0]⟩
    have h1 : cut b = [] := List.eq_nil_of_length_eq_zero (by omega)
    rw [← cut_val b, h1]
    rfl
  · have hne : cut b ≠ [] := fun h => h0 (by rw [h]; rfl)
    have hbp : 0 < val b := by have := val_pos (cut_limbs hb) (cut_trim b) hne; rw [cut_val] at this; exact this
    refine .inr ⟨hbp, ?_⟩
    rw [if_neg h0, cmp_f _ _ (cut_limbs ha) (cut_limbs hb), zOb, cut_val, cut_val]
    by_cases hlt : val a < val b
    · have hc : cmpI (val a) (val b) < 0 := by unfold cmpI; rw [if_pos hlt]; decide
      rw [if_pos hc, nnorm_f (cut a) (by omega), zOb]
      refine ⟨[], cut (cut a), rfl, ?_, ?_⟩
      · rw [Int.ediv_eq_zero_of_lt va hlt]
        exact IsNum.nil
      · rw [Int.emod_eq_of_lt va hlt]
        have := IsNum.cut (cut_limbs ha)
        rw [cut_val] at this
        exact this
    · have hc : ¬ cmpI (val a) (val b) < 0 := by unfold cmpI; rw [if_neg hlt]; split <;> omega
      rw [if_neg hc]
      by_cases h1 : ((cut b).length : Int) = 1
      · obtain ⟨x, hx⟩ : ∃ x, cut b = [x] := by
          rcases hcb : cut b with _ | ⟨x, _ | ⟨y, l⟩⟩
          · exact absurd hcb hne
          · exact ⟨x, rfl⟩
          · rw [hcb] at h1; simp at h1; omega
        have hxv : x = val b := by rw [← cut_val b, hx]; simp [val]
        have hxl := cut_limbs hb
        rw [hx] at hxl
        have hxb := hxl.cons.1
        obtain ⟨q, q1, q2, q3⟩ := small_f (cut a) (cut_limbs ha) (by omega) x (by omega) (by omega)
        rw [if_pos h1, if_pos (by omega), hx, show rd [x] 0 = x from rfl, q1, zOb]
        rw [cut_val] at q2
        have hm0 := Int.emod_nonneg (val a) (show x ≠ 0 by omega)
        have hm1 := Int.emod_lt_of_pos (val a) (show 0 < x by omega)
        simp only [cut_val]
        rw [wraps_u64 _ hm0 (by omega), of_f _ hm0 (by omega), zOb]
        exact ⟨q, _, rfl, by rw [← hxv]; exact q2, by rw [← hxv]; exact of2_num _ hm0 (by omega)⟩
      · have hlm := cut_len_mono ha hb (by omega)
        obtain ⟨p, hp⟩ : ∃ p, (cut b).length = p + 2 := ⟨(cut b).length - 2, by omega⟩
        obtain ⟨t1, t2, t3, x1, x2, x3, x4, x5, q, r, x6, x7, x8⟩ := knuth_f (cut a) (cut b) (cut_limbs ha) (cut_limbs hb) (cut_trim b) (cut b).length p rfl hp (by rw [cut_val, cut_val]; omega) (by omega) hlm k hk
        rw [cut_val, cut_val] at x7 x8
        have e1 : wrap64 (((cut b).length : Int) - 1) = (((cut b).length - 1 : Nat) : Int) := w64e (by omega) (by omega)
        rw [if_neg h1, e1, if_pos (by omega), if_pos (by omega), rd_nat, x1, zOb, x2, zOb, x3, zOb, cut_f, zOb]
        clear e1
        have e2 : wrap64 ((t2.length : Int) - ((cut t3).length : Int)) = (((cut a).length + 1 - (cut b).length : Nat) : Int) := w64e (by omega) (by omega)
        rw [e2, if_pos (by omega), zTn, if_pos (by omega), zOb]
        clear e2
        have e3 : wrap64 (((List.replicate ((cut a).length + 1 - (cut b).length) (0 : Int)).length : Int) - 1) = (((cut a).length + 1 - (cut b).length : Nat) : Int) - 1 := by rw [List.length_replicate]; exact w64 (by omega) (by omega)
        rw [e3, x5, x6]
        exact ⟨q, r, rfl, x7, x8⟩
/- The plain law of the program's root: Newton's steps from above. -/
theorem root_exists : ∀ n : Nat, ∃ s : Nat, s * s ≤ n ∧ n < (s + 1) * (s + 1)
  | 0 => ⟨0, by decide, by decide⟩
  | n + 1 => by
    obtain ⟨s, h1, h2⟩ := root_exists n
    rcases Nat.lt_or_ge (n + 1) ((s + 1) * (s + 1)) with h | h
    · exact ⟨s, by omega, h⟩
    · refine ⟨s + 1, h, ?_⟩
      have : (s + 1 + 1) * (s + 1 + 1) = (s + 1) * (s + 1) + 2 * s + 3 := by grind
      omega
/-- The root of n: the greatest number whose square is not above n. -/
def IsRoot (s n : Int) : Prop := 0 ≤ s ∧ s * s ≤ n ∧ n < (s + 1) * (s + 1)
theorem IsRoot.exists {n : Int} (h : 0 ≤ n) : ∃ s, IsRoot s n := by
  obtain ⟨m, rfl⟩ := Int.eq_ofNat_of_zero_le h
  obtain ⟨s, h1, h2⟩ := root_exists m
  exact ⟨s, by omega, by exact_mod_cast h1, by exact_mod_cast h2⟩
theorem sq_lt {a b : Int} (ha : 0 ≤ a) (h : a < b) : a * a < b * b := Int.lt_of_le_of_lt (Int.mul_le_mul_of_nonneg_left (Int.le_of_lt h) ha) (Int.mul_lt_mul_of_pos_right h (by omega))
theorem sq_le {a b : Int} (ha : 0 ≤ a) (h : a ≤ b) : a * a ≤ b * b := Int.mul_le_mul h h ha (by omega)
theorem IsRoot.unique {s t n : Int} (h1 : IsRoot s n) (h2 : IsRoot t n) : s = t := by
  obtain ⟨a1, a2, a3⟩ := h1
  obtain ⟨b1, b2, b3⟩ := h2
  rcases Int.lt_trichotomy s t with h | h | h
  · have := sq_le (a := s + 1) (b := t) (by omega) (by omega); omega
  · exact h
  · have := sq_le (a := t + 1) (b := s) (by omega) (by omega); omega
theorem newton_ge {s A x : Int} (hs : IsRoot s A) (hx : 0 < x) : s ≤ (x + A / x) / 2 := by
  obtain ⟨h0, h1, _⟩ := hs
  rcases Int.lt_or_le ((x + A / x) / 2) s with h | h
  · exfalso
    have h2 : x + A / x ≤ 2 * s - 1 := by omega
    have h3 := Int.emod_add_mul_ediv A x
    have h4 := Int.emod_lt_of_pos A hx
    have h5 : x * (A / x + 1) ≤ x * (2 * s - x) := Int.mul_le_mul_of_nonneg_left (by omega) (Int.le_of_lt hx)
    have h6 : x * (2 * s - x) = s * s - (s - x) * (s - x) := by grind
    have h7 : 0 ≤ (s - x) * (s - x) := by
      rcases Int.le_total 0 (s - x) with h | h
      · exact Int.mul_nonneg h h
      · have := Int.mul_nonneg (show 0 ≤ -(s - x) by omega) (show 0 ≤ -(s - x) by omega)
        rw [Int.neg_mul_neg] at this
        exact this
    rw [Int.mul_add, Int.mul_one, h6] at h5
    generalize x * (A / x) = z at *
    generalize s * s = y at *
    generalize (s - x) * (s - x) = w at *
    omega
  · exact h
theorem newton_quot {s A x : Int} (hs : IsRoot s A) (hx : s < x) : A / x ≤ s := by
  obtain ⟨h0, _, h2⟩ := hs
  have h3 : A < (s + 1) * x := Int.lt_of_lt_of_le h2 (Int.mul_le_mul_of_nonneg_left (by omega) (by omega))
  have := Int.ediv_lt_of_lt_mul (show 0 < x by omega) h3
  omega
theorem newton_root {s A : Int} (hs : IsRoot s A) (h1 : 1 ≤ s) : s ≤ A / s := Int.le_ediv_of_mul_le (by omega) hs.2.1
theorem sqrt_l0 (a : List Int) (ha : Limbs a) (la : a.length ≤ 300) (s : Int) (hs : IsRoot s (val a)) (h1 : 1 ≤ s) (N : Nat) (hN : N ≤ 400) :
    ∀ (t k : Nat) (X : List Int), Limbs X → X.length ≤ N → Aside0 (val X < Bp N) → s ≤ val X → Aside0 (val X - s < 2 ^ t) → 500000 + t + 1 ≤ k →
    ∃ r, n_Sqrt.l0 k a X = some r ∧ IsNum r s := by
  intro t
  induction t with
  | zero =>
    intro k X lX hX hXB hsX hE hk
    obtain ⟨k, rfl⟩ : ∃ d, k = d + 1 := ⟨k - 1, by omega⟩
    have hx : val X = s := by have := hE.out; simp at this; omega
    rcases divmod_f a X ha lX (by omega) (by omega) k (by omega) with ⟨h, _⟩ | ⟨_, q, r, e1, q1, _⟩
    · omega
    · have hql : q.length ≤ 400 := by
        have h3 := len_of_lt q1 (m := a.length) (by
          have h4 := val_ltB ha
          have h5 := Int.ediv_le_self (val X) (val_nonneg ha)
          omega)
        omega
      obtain ⟨z, e2, z1, z2⟩ := add_f X q lX q1.limbs (by omega) (by omega) k (by omega) (by omega)
      obtain ⟨y, e3, y1, y2⟩ := small_f z z1.limbs (by omega) 2 (by decide) (by decide)
      rw [q1.eq, hx] at z1
      have hy := newton_root hs h1
      refine ⟨cut X, ?_, by rw [← hx]; exact IsNum.cut lX⟩
      rw [n_Sqrt.l0, e1, zOb, e2, zOb, e3, zOb]
      simp only
      rw [cmp_f y X y1.limbs lX, zOb, y1.eq, z1.eq, hx, if_pos, cut_f]
      · rfl
      · unfold cmpI
        rw [if_neg (by omega)]
        split <;> omega
  | succ t ih =>
    intro k X lX hX hXB hsX hE hk
    obtain ⟨k, rfl⟩ : ∃ d, k = d + 1 := ⟨k - 1, by omega⟩
    rcases divmod_f a X ha lX (by omega) (by omega) k (by omega) with ⟨h, _⟩ | ⟨hpos, q, r, e1, q1, _⟩
    · omega
    · have hql : q.length ≤ 400 := by
        have h3 := len_of_lt q1 (m := a.length) (by
          have h4 := val_ltB ha
          have h5 := Int.ediv_le_self (val X) (val_nonneg ha)
          omega)
        omega
      obtain ⟨z, e2, z1, z2⟩ := add_f X q lX q1.limbs (by omega) (by omega) k (by omega) (by omega)
      obtain ⟨y, e3, y1, y2⟩ := small_f z z1.limbs (by omega) 2 (by decide) (by decide)
      rw [q1.eq] at z1
      rw [z1.eq] at y1
      have hge := newton_ge hs hpos
      have hl0 : n_Sqrt.l0 (k + 1) a X = if cmpI ((val X + val a / val X) / 2) (val X) ≥ 0 then some (cut X) else n_Sqrt.l0 k a y := by
        rw [n_Sqrt.l0, e1, zOb, e2, zOb, e3, zOb]
        simp only
        rw [cmp_f y X y1.limbs lX, zOb, y1.eq, cut_f]
        rfl
      rw [hl0]
      rcases Int.lt_or_le s (val X) with hlt | hle
      · have hq := newton_quot hs hlt
        generalize val a / val X = u at *
        have hyx : (val X + u) / 2 < val X := by omega
        have hc : ¬ cmpI ((val X + u) / 2) (val X) ≥ 0 := by
          unfold cmpI
          rw [if_pos hyx]
          decide
        rw [if_neg hc]
        have hyB : (val X + u) / 2 < Bp N := Int.lt_trans hyx hXB.out
        refine ih k y y1.limbs (len_of_lt y1 hyB) ⟨by rw [y1.eq]; exact hyB⟩ (by rw [y1.eq]; exact hge) ⟨?_⟩ (by omega)
        rw [y1.eq]
        have h9 := hE.out
        rw [Int.pow_succ] at h9
        generalize (2 : Int) ^ t = p at *
        omega
      · have hx : val X = s := by omega
        have hy := newton_root hs h1
        rw [← hx] at hy
        have hc : cmpI ((val X + val a / val X) / 2) (val X) ≥ 0 := by
          unfold cmpI
          rw [if_neg (by omega)]
          split <;> omega
        rw [if_pos hc]
        exact ⟨cut X, rfl, by rw [← hx]; exact IsNum.cut lX⟩
theorem Bp_two (n : Nat) : Bp n = 2 ^ (32 * n) := by unfold Bp; rw [Int.pow_mul]; rfl
theorem sqrt_f (a : List Int) (ha : Limbs a) (la : a.length ≤ 300) (k : Nat) (hk : 600000 ≤ k) : ∃ r s, n_Sqrt.f k a = some r ∧ IsNum r s ∧ IsRoot s (val a) := by
  have ca := cut_length a
  unfold n_Sqrt.f
  rw [cut_f, zOb]
  by_cases h0 : ((cut a).length : Int) = 0
  · have h1 : cut a = [] := List.eq_nil_of_length_eq_zero (by omega)
    have hv : val a = 0 := by rw [← cut_val a, h1]; rfl
    exact ⟨[], 0, by rw [if_pos h0], IsNum.nil, by rw [hv]; exact ⟨by decide, by decide, by decide⟩⟩
  · have hne : cut a ≠ [] := fun h => h0 (by rw [h]; rfl)
    have hap := val_pos (cut_limbs ha) (cut_trim a) hne
    obtain ⟨s, hs⟩ := IsRoot.exists (val_nonneg (cut_limbs ha))
    have hs1 : 1 ≤ s := by
      rcases Int.lt_or_le 0 s with h | h
      · omega
      · exfalso
        obtain ⟨b1, b2, b3⟩ := hs
        have : s = 0 := by omega
        subst this
        omega
    obtain ⟨m, hm⟩ : ∃ m, m = (cut a).length / 2 + 1 := ⟨_, rfl⟩
    have hm2 : Aside0 (wrap64 ((wrap64 (((cut a).length : Int) / 2)) + 2) = ((m + 1 : Nat) : Int)) := ⟨by
      have h2 : wrap64 (((cut a).length : Int) / 2) = (((cut a).length / 2 : Nat) : Int) := w64e (by omega) (by omega)
      rw [h2]
      exact w64e (by omega) (by omega)⟩
    have hm3 : Aside0 (wrap64 (((List.replicate (m + 1) (0 : Int)).length : Int) - 1) = ((m : Nat) : Int)) := ⟨by rw [List.length_replicate]; exact w64e (by omega) (by omega)⟩
    rw [if_neg h0, hm2.out, if_pos (by omega), zTn, if_pos (by omega), zOb, hm3.out, if_pos (by omega), if_pos (by rw [List.length_replicate]; omega), zTn]
    clear hm2 hm3
    have lX : Limbs ((List.replicate (m + 1) (0 : Int)).set m 1) := (limbs_replicate _).set _ (by decide) (by decide)
    have vX : val ((List.replicate (m + 1) (0 : Int)).set m 1) = Bp m := by
      rw [val_setB _ _ _ (by rw [List.length_replicate]; omega), val_replicate, zeros_getD]
      omega
    have hsq : val (cut a) < Bp m * Bp m := by
      have h1 := val_ltB (cut_limbs ha)
      have h2 : Bp (cut a).length ≤ Bp (m + m) := pow_upB (by omega)
      rw [Bp_add] at h2
      exact Int.lt_of_lt_of_le h1 h2
    have hsB : s < Bp m := by
      rcases Int.lt_or_le s (Bp m) with h | h
      · exact h
      · have h1 := sq_le (Int.le_of_lt (Bp_pos m)) h
        have h2 := hs.2.1
        omega
    obtain ⟨r, r1, r2⟩ := sqrt_l0 (cut a) (cut_limbs ha) (by omega) s hs hs1 (m + 1) (by omega) (32 * m) k ((List.replicate (m + 1) (0 : Int)).set m 1) lX (by rw [List.length_set, List.length_replicate]; omega) ⟨by
        rw [vX, Bp_succ]
        have := Bp_pos m
        omega⟩ (by rw [vX]; omega) ⟨by rw [vX, Bp_two]; omega⟩ (by omega)
    rw [cut_val] at hs
    exact ⟨r, s, r1, r2, hs⟩

/-! ### r1_bits: function 42 -/
mutual
def r1_bits.l0 : Nat → List Int → List Int → Int → Option (List Int)
  | 0, _, _, _ => none
  | k + 1, x0, x3, x4 => if x4 < (x0.length : Int) then (r1_bits.l1 k x0 x3 x4 0) else (some x3)
def r1_bits.l1 : Nat → List Int → List Int → Int → Int → Option (List Int)
  | 0, _, _, _, _ => none
  | k + 1, x0, x3, x4, x5 => if x5 < 32 then (if 0 ≤ x4 then (if x4 < (x0.length : Int) then (if 0 ≤ (IntKind.u64.wrap (x5)) then (if x3.length < 140737488355328 then (r1_bits.l1 k x0 (x3 ++ [(Go.bits .and .u32 (shr .u32 (rd x0 x4) (IntKind.u64.wrap (x5))) 1) % 256]) x4 (wrap64 (x5 + 1))) else (none)) else (none)) else (none)) else (none)) else (r1_bits.l0 k x0 x3 (wrap64 (x4 + 1)))
end
def r1_bits.f (k : Nat) (l0 : List Int) : Option (List Int) := r1_bits.l0 k l0 ([] : List Int) 0
set_option maxHeartbeats 8000000 in
set_option maxRecDepth 100000 in
theorem r1_bits.calls (k : Nat) (A0 : Option Addr) (c0 : Nat) (l0 : List Int) (r : List Int) (w : World) (hr0 : Kd.C (Kd.int .u32) w A0 l0.length l0) (hc0 : l0.length ≤ c0) (h : r1_bits.f k l0 = some r) :
    Calls Tryd.prog 42 #[.slice A0 l0.length c0] w fun e w' => ∃ v0_ : Value, e = .returned (v0_) ∧ Kd.R (Kd.int .u8) 5 w' w.heap.size (fun _ => True) v0_ r ∧ Below w.heap.size w w' := by
  have HR0 := zMk hr0
  have HC0 := zMk hc0
  clear hr0 hc0
  have HB := zMk (Below.refl w.heap.size w)
  have H : (r1_bits.l0 k l0 ([] : List Int) 0) = some r := h
  clear h
  have H' := zMk H
  clear H
  go_enter Tryd.func42, Tryd.ntmps42
  go_wp2
  go_loopg [3, 4] k (fun kq v3 v4 w' => ∃ (x3_1 : List Int) (x4_1 : Int), v4 = .int .i64 x4_1 ∧ Aside0 (r1_bits.l0 kq l0 x3_1 x4_1 = some r) ∧ Aside0 (kq ≤ k) ∧ Aside0 (Kd.R (Kd.int .u8) 5 w' w.heap.size (fun _ => True) v3 x3_1) ∧ Aside0 (Below w.heap.size w w'))
  case atStart => exact ⟨(([] : List Int)), (0), (by first | rfl | (simp; done) | (simp [*]; done)), H', ⟨Nat.le_refl _⟩, ⟨by first | exact Kd.R_nil _ _ _ _ _ | exact Kd.N_nil _ _ _ _ _ | exact Kd.V_nil _ _ _ _ _ | exact Kd.Q_nil _ _ _ _ _ | exact Kd.S_nil _ _ _ _ _⟩, ⟨by repeat (first | (with_reducible first | exact HB.out | apply zBa | apply zBn | apply zBd) | exact HB.out)⟩⟩
  clear H'
  obtain ⟨x3_1, x4_1, rfl, HA, HK1, HO_3, HB⟩ := hrel
  rcases gk with _ | k1
  · exact absurd HA.out (by simp [r1_bits.l0])
  have H := HA.out
  clear HA
  simp only [r1_bits.l0] at H
  by_cases c2 : x4_1 < (l0.length : Int)
  · rw [if_pos c2] at H
    have c2b0 : decide (x4_1 < (l0.length : Int)) = true := decide_eq_true c2
    clear c2
    have H' := zMk H
    clear H
    go_wp2
    go_loopg [3, 5] k1 (fun kq v3 v5 w' => ∃ (x3_2 : List Int) (x5_2 : Int), v5 = .int .i64 x5_2 ∧ Aside0 (r1_bits.l1 kq l0 x3_2 x4_1 x5_2 = some r) ∧ Aside0 (kq ≤ k1) ∧ Aside0 (Kd.R (Kd.int .u8) 5 w' w.heap.size (fun _ => True) v3 x3_2) ∧ Aside0 (Below w.heap.size w w'))
    case atStart => exact ⟨(x3_1), (0), (by first | rfl | (simp; done) | (simp [*]; done)), H', ⟨Nat.le_refl _⟩, ⟨by (with_reducible repeat (first | apply zRa | apply zRn | apply zRd)); exact HO_3.out⟩, ⟨by repeat (first | (with_reducible first | exact HB.out | apply zBa | apply zBn | apply zBd) | exact HB.out)⟩⟩
    clear H'
    obtain ⟨x3_2, x5_2, rfl, HA, HK2, HO_3, HB⟩ := hrel
    rcases gk with _ | k2
    · exact absurd HA.out (by simp [r1_bits.l1])
    have H := HA.out
    clear HA
    simp only [r1_bits.l1] at H
    by_cases c3 : x5_2 < 32
    · rw [if_pos c3] at H
      have c3b0 : decide (x5_2 < 32) = true := decide_eq_true c3
      clear c3
      by_cases c4 : 0 ≤ x4_1
      rotate_left
      · rw [if_neg c4] at H; exact absurd H (by simp)
      rw [if_pos c4] at H
      have c4b0 : decide (0 ≤ x4_1) = true := decide_eq_true c4
      clear c4
      by_cases c5 : x4_1 < (l0.length : Int)
      rotate_left
      · rw [if_neg c5] at H; exact absurd H (by simp)
      rw [if_pos c5] at H
      have c5b0 : decide (x4_1 < (l0.length : Int)) = true := decide_eq_true c5
      clear c5
      obtain ⟨ji6, hji6⟩ : ∃ j_ : Int, (IntKind.u64.wrap (x5_2)) = j_ := ⟨_, rfl⟩
      replace H : (if 0 ≤ (ji6) then (if x3_2.length < 140737488355328 then (r1_bits.l1 k2 l0 (x3_2 ++ [(Go.bits .and .u32 (shr .u32 (rd l0 x4_1) (ji6)) 1) % 256]) x4_1 (wrap64 (x5_2 + 1))) else (none)) else (none)) = some r := by first | (rw [hji6] at H; exact H) | (simp only [hji6] at H ⊢; exact H)
      by_cases c7 : 0 ≤ (ji6)
      rotate_left
      · rw [if_neg c7] at H; exact absurd H (by simp)
      rw [if_pos c7] at H
      have c7b0 := eq_true c7
      have c7b1 : decide (0 ≤ (ji6)) = true := decide_eq_true c7
      clear c7
      obtain ⟨ji8, hji8⟩ : ∃ j_ : Int, (shr .u32 (rd l0 x4_1) (ji6)) = j_ := ⟨_, rfl⟩
      replace H : (if x3_2.length < 140737488355328 then (r1_bits.l1 k2 l0 (x3_2 ++ [(Go.bits .and .u32 (ji8) 1) % 256]) x4_1 (wrap64 (x5_2 + 1))) else (none)) = some r := by first | (rw [hji8] at H; exact H) | (simp only [hji8] at H ⊢; exact H)
      have hji8_ : ((rd l0 x4_1) / 2 ^ min (ji6).toNat 32) = ji8 := hji8
      have hji8z : (ji6) ≤ 32 → ((rd l0 x4_1) / 2 ^ (ji6).toNat) = ji8 := shr_small hji8
      by_cases c9 : x3_2.length < 140737488355328
      rotate_left
      · rw [if_neg c9] at H; exact absurd H (by simp)
      rw [if_pos c9] at H
      have LMc9 := zMk c9
      clear c9
      obtain ⟨y439, hy439⟩ : ∃ y_ : List Int, y_ = (x3_2 ++ [(Go.bits .and .u32 (ji8) 1) % 256]) := ⟨_, rfl⟩
      replace H : (r1_bits.l1 k2 l0 y439 x4_1 (wrap64 (x5_2 + 1))) = some r := by first | (rw [hy439]; with_reducible exact H) | (have H2_ := (zOb _ _).symm.trans H; rw [hy439]; with_reducible exact H2_) | (have H2_ := (zOb _ _).symm.trans H; with_reducible exact H2_) | with_reducible exact H | (rw [hy439]; exact H) | exact H
      have Ny439 := zMk hy439
      clear hy439
      have H' := zMk H
      clear H
      have p438 : 0 ≤ (x4_1 : Int) := of_decide_eq_true (by first | (with_reducible assumption) | assumption)
      have q438 : x4_1 < (l0.length : Int) := of_decide_eq_true (by first | (with_reducible assumption) | assumption)
      obtain ⟨ad438, e438, hx438_0⟩ := zAi HR0.out x4_1 p438 q438
      cases e438
      replace hx438_0 := (HB.out.cell (World.block_lt_of_cell? w _ hx438_0)).trans hx438_0
      replace p438 := eq_true p438
      replace q438 := eq_true q438
      go_wp2_with (first | ((with_reducible refine gate_builtin (b := .append) (xs := #[.tmp 16, .tmp 26]) rfl ?_); at_builtin; refine Kd.R_append (Kd.int .u8) (w0 := w) w.heap.size rfl (.tmp 16) (.tmp 26) 50 5 (.int .u8 0) 1 rfl Tryd.underlying50 info5 rfl (by decide) (by omega) u3 x3_2 ((Go.bits .and .u32 (ji8) 1) % 256) [.int .u8 ((Go.bits .and .u32 (ji8) 1) % 256)] (fun _ => True) (fun _ => False) rfl rfl ?aP (fun _ hk => hk.elim) ?aF ?aO ?aB ?aS ?aL ?_; (case aP => exact rfl); (case aB => exact (by repeat (first | (with_reducible first | exact HB.out | apply zBa | apply zBn | apply zBd) | exact HB.out))); (case aF => exact (fun _ _ => trivial)); (case aO => exact (by (with_reducible repeat (first | apply zRa | apply zRn | apply zRd)); exact HO_3.out)); (case aS => exact (zBs (by repeat (first | (with_reducible first | exact HB.out | apply zBa | apply zBn | apply zBd) | exact HB.out)))); (case aL => have := LMc9.out; omega); intro v440 w10 ho hb hg hat; rw [← Ny439.out] at ho; have n0_ := zMk (hb); have n1_ := zMk (ho); clear HB; clear HO_3; have HB := n0_; have HO441 := n1_; clear n0_ n1_; clear ho hb hg hat))
      go_roundg k2
      case measure => have := HK1.out; have := HK2.out; omega
      case rel => exact ⟨(y439), (wrap64 (x5_2 + 1)), (by first | rfl | (simp; done) | (simp [*]; done)), H', ⟨by have := HK1.out; have := HK2.out; omega⟩, ⟨by (with_reducible repeat (first | apply zRa | apply zRn | apply zRd)); exact HO441.out⟩, ⟨by repeat (first | (with_reducible first | exact HB.out | apply zBa | apply zBn | apply zBd) | exact HB.out)⟩⟩
    · rw [if_neg c3] at H
      have c3b0 : decide (x5_2 < 32) = false := decide_eq_false c3
      clear c3
      have H' := zMk H
      clear H
      go_wp2
      go_roundg k2
      case measure => have := HK1.out; have := HK2.out; omega
      case rel => exact ⟨(x3_2), (wrap64 (x4_1 + 1)), (by first | rfl | (simp; done) | (simp [*]; done)), H', ⟨by have := HK1.out; have := HK2.out; omega⟩, ⟨by (with_reducible repeat (first | apply zRa | apply zRn | apply zRd)); exact HO_3.out⟩, ⟨by repeat (first | (with_reducible first | exact HB.out | apply zBa | apply zBn | apply zBd) | exact HB.out)⟩⟩
  · rw [if_neg c2] at H
    have c2b0 : decide (x4_1 < (l0.length : Int)) = false := decide_eq_false c2
    clear c2
    obtain rfl := zOi H
    go_wp2
    go_ret
    exact ⟨_, by first | rfl | (simp [errW_none, errW_some] <;> rfl) | (simp [*, errW_none, errW_some] <;> rfl), by (with_reducible repeat (first | apply zRa | apply zRn | apply zRd)); exact HO_3.out, by repeat (first | (with_reducible first | exact HB.out | apply zBa | apply zBn | apply zBd) | exact HB.out)⟩


/-! ### r1_at: function 43 -/
def r1_at.f (l0 : List Int) (a1 : Int) : Option (Int) := if a1 < (l0.length : Int) then (if 0 ≤ a1 then (some (rd l0 a1)) else (none)) else (some 0)
set_option maxHeartbeats 8000000 in
set_option maxRecDepth 100000 in
theorem r1_at.calls (A0 : Option Addr) (c0 : Nat) (l0 : List Int) (a1 : Int) (r : Int) (w : World) (hr0 : Kd.C (Kd.int .u8) w A0 l0.length l0) (hc0 : l0.length ≤ c0) (h : r1_at.f l0 a1 = some r) :
    Calls Tryd.prog 43 #[.slice A0 l0.length c0, .int .i64 a1] w fun e w' => e = .returned (.int .u8 r) ∧ Drawn0 w w' := by
  have HR0 := zMk hr0
  have HC0 := zMk hc0
  clear hr0 hc0
  have H : (if a1 < (l0.length : Int) then (if 0 ≤ a1 then (some (rd l0 a1)) else (none)) else (some 0)) = some r := h
  clear h
  by_cases c3 : a1 < (l0.length : Int)
  · rw [if_pos c3] at H
    have c3b0 : decide (a1 < (l0.length : Int)) = true := decide_eq_true c3
    clear c3
    by_cases c4 : 0 ≤ a1
    rotate_left
    · rw [if_neg c4] at H; exact absurd H (by simp)
    rw [if_pos c4] at H
    have c4b0 : decide (0 ≤ a1) = true := decide_eq_true c4
    clear c4
    obtain rfl := zOi H
    have p442 : 0 ≤ (a1 : Int) := of_decide_eq_true (by first | (with_reducible assumption) | assumption)
    have q442 : a1 < (l0.length : Int) := of_decide_eq_true (by first | (with_reducible assumption) | assumption)
    obtain ⟨ad442, e442, hx442_0⟩ := zAi HR0.out a1 p442 q442
    cases e442
    replace p442 := eq_true p442
    replace q442 := eq_true q442
    go_enter Tryd.func43, Tryd.ntmps43
    go_wp2
    go_ret
    exact ⟨by first | rfl | (simp; done) | (simp [*]; done), by repeat (first | exact Drawn0.refl _ | apply Drawn0.step)⟩
  · rw [if_neg c3] at H
    have c3b0 : decide (a1 < (l0.length : Int)) = false := decide_eq_false c3
    clear c3
    obtain rfl := zOi H
    go_enter Tryd.func43, Tryd.ntmps43
    go_wp2
    go_ret
    exact ⟨by first | rfl | (simp; done) | (simp [*]; done), by repeat (first | exact Drawn0.refl _ | apply Drawn0.step)⟩


/-! ### r1_Cmp: function 22 -/
def r1_Cmp.l0 : Nat → List Int → List Int → Int → Option (Int)
  | 0, _, _, _ => none
  | k + 1, x5, x6, x7 => if x7 ≥ 0 then ((r1_at.f x5 x7).bind fun t449 => ((r1_at.f x6 x7).bind fun t450 => (if t449 < t450 then (some (-1)) else ((r1_at.f x5 x7).bind fun t451 => ((r1_at.f x6 x7).bind fun t452 => (if t451 > t452 then (some 1) else (r1_Cmp.l0 k x5 x6 (wrap64 (x7 - 1))))))))) else (some 0)
def r1_Cmp.f (k : Nat) (l0 : List Int) (l1 : List Int) : Option (Int) := (r1_bits.f k l0).bind fun t443 => ((r1_bits.f k l1).bind fun t446 => (r1_Cmp.l0 k t443 t446 (wrap64 ((mx (t443.length : Int) (t446.length : Int)) - 1))))
set_option maxHeartbeats 8000000 in
set_option maxRecDepth 100000 in
theorem r1_Cmp.calls (k : Nat) (A0 : Option Addr) (c0 : Nat) (l0 : List Int) (A1 : Option Addr) (c1 : Nat) (l1 : List Int) (r : Int) (w : World) (hr0 : Kd.C (Kd.int .u32) w A0 l0.length l0) (hc0 : l0.length ≤ c0) (hr1 : Kd.C (Kd.int .u32) w A1 l1.length l1) (hc1 : l1.length ≤ c1) (h : r1_Cmp.f k l0 l1 = some r) :
    Calls Tryd.prog 22 #[.slice A0 l0.length c0, .slice A1 l1.length c1] w fun e w' => e = .returned (.int .i64 r) ∧ Below w.heap.size w w' := by
  have HR0 := zMk hr0
  have HC0 := zMk hc0
  clear hr0 hc0
  have HR1 := zMk hr1
  have HC1 := zMk hc1
  clear hr1 hc1
  have HB := zMk (Below.refl w.heap.size w)
  have H : ((r1_bits.f k l0).bind fun t443 => ((r1_bits.f k l1).bind fun t446 => (r1_Cmp.l0 k t443 t446 (wrap64 ((mx (t443.length : Int) (t446.length : Int)) - 1))))) = some r := h
  clear h
  replace H := Option.bind_eq_some_iff.mp H
  obtain ⟨t443, A30, H⟩ := H
  have A3 := zMk A30
  clear A30
  replace H := Option.bind_eq_some_iff.mp H
  obtain ⟨t446, A40, H⟩ := H
  have A4 := zMk A40
  clear A40
  obtain ⟨ji5, hji5⟩ : ∃ j_ : Int, (mx (t443.length : Int) (t446.length : Int)) = j_ := ⟨_, rfl⟩
  replace H : (r1_Cmp.l0 k t443 t446 (wrap64 ((ji5) - 1))) = some r := by first | (rw [hji5] at H; exact H) | (simp only [hji5] at H ⊢; exact H)
  (try rw [hji5] at A3)
  (try rw [hji5] at A4)
  (try (have hji5l : 0 ≤ ji5 := by (rw [← hji5]; unfold mx; (repeat' split) <;> omega)))
  (try (have hji5m : 0 ≤ ji5 := by omega))
  have hji5_ : (if (t443.length : Int) < (t446.length : Int) then (t446.length : Int) else (t443.length : Int)) = ji5 := hji5
  have hji5_n : (if t443.length < t446.length then (t446.length : Int) else (t443.length : Int)) = ji5 := by rw [← hji5]; simp only [mx, mn, Int.ofNat_lt]
  have H' := zMk H
  clear H
  go_enter Tryd.func22, Tryd.ntmps22
  go_wp2_with (first | ((with_reducible refine gate_callee (f := 42) rfl ?_); refine goesL_ (some 9) rfl rfl Tryd.func42 (by kernel_rfl) rfl #[.slice A0 l0.length c0] rfl (by (try simp only [List.map_toArray, List.map_cons, List.map_nil]); first | done | rfl | (simp only [zLd, zLt]; rfl)) ?_; (with_reducible refine (r1_bits.calls k _ _ l0 t443 _ ?side1 ?side2 A3.out).mono ?_); (case side1 => repeat (first | exact HR0.out | (with_reducible refine zCa ?_ _) | (with_reducible refine zCn ?_ _) | (with_reducible refine zCd ?_))); (case side2 => exact HC0.out); rintro e w6 ⟨v444, rfl, ho0, hb⟩; refine ⟨_, rfl, ?_⟩; have n0_ := zMk (Kd.R_lower ho0 (zBs (by repeat (first | (with_reducible first | exact HB.out | apply zBa | apply zBn | apply zBd) | exact HB.out)))); have n1_ := zMk (zBt (by repeat (first | (with_reducible first | exact HB.out | apply zBa | apply zBn | apply zBd) | exact HB.out)) hb); clear HB; have HO445 := n0_; have HB := n1_; clear n0_ n1_; (try clear hb); (try clear hb2); (try clear hk); (try clear hi); (try clear ho0)) | ((with_reducible refine gate_callee (f := 42) rfl ?_); refine goesL_ (some 11) rfl rfl Tryd.func42 (by kernel_rfl) rfl #[.slice A1 l1.length c1] rfl (by (try simp only [List.map_toArray, List.map_cons, List.map_nil]); first | done | rfl | (simp only [zLd, zLt]; rfl)) ?_; (with_reducible refine (r1_bits.calls k _ _ l1 t446 _ ?side1 ?side2 A4.out).mono ?_); (case side1 => repeat (first | exact (Kd.C_below HR1.out HB.out) | (with_reducible refine zCa ?_ _) | (with_reducible refine zCn ?_ _) | (with_reducible refine zCd ?_))); (case side2 => exact HC1.out); rintro e w7 ⟨v447, rfl, ho0, hb⟩; refine ⟨_, rfl, ?_⟩; have n0_ := zMk (Kd.R_elder' (by (with_reducible repeat (first | apply zRa | apply zRn | apply zRd)); exact HO445.out) (Kd.R_base ho0) hb); have n1_ := zMk (Kd.R_lower (Kd.R_new' ho0 (Kd.R_lt (by (with_reducible repeat (first | apply zRa | apply zRn | apply zRd)); exact HO445.out))) (zBs (by repeat (first | (with_reducible first | exact HB.out | apply zBa | apply zBn | apply zBd) | exact HB.out)))); have n2_ := zMk (zBt (by repeat (first | (with_reducible first | exact HB.out | apply zBa | apply zBn | apply zBd) | exact HB.out)) hb); clear HO445; clear HB; have HO445 := n0_; have HO448 := n1_; have HB := n2_; clear n0_ n1_ n2_; (try clear hb); (try clear hb2); (try clear hk); (try clear hi); (try clear ho0); obtain ⟨Ao8, co8, eo8⟩ := Kd.R_slice HO445.out; subst eo8; obtain ⟨Ao9, co9, eo9⟩ := Kd.R_slice HO448.out; subst eo9))
  go_loopg [7] k (fun kq v7 w' => ∃ (x7_1 : Int), v7 = .int .i64 x7_1 ∧ Aside0 (r1_Cmp.l0 kq t443 t446 x7_1 = some r) ∧ Aside0 (kq ≤ k) ∧ Aside0 (Kd.R (Kd.int .u8) 5 w' w.heap.size (fun k_ => some k_ ≠ ((.slice Ao9 t446.length co9) : Value).ownBlock) (.slice Ao8 t443.length co8) t443) ∧ Aside0 (Kd.R (Kd.int .u8) 5 w' w.heap.size (fun k_ => some k_ ≠ ((.slice Ao8 t443.length co8) : Value).ownBlock) (.slice Ao9 t446.length co9) t446) ∧ Aside0 (Below w.heap.size w w'))
  case atStart => exact ⟨(wrap64 ((ji5) - 1)), (by first | rfl | (simp; done) | (simp only [← hji5] <;> (first | rfl | simp)) | (simp [*]; done)), H', ⟨Nat.le_refl _⟩, ⟨by (with_reducible repeat (first | apply zRa | apply zRn | apply zRd)); exact zRm HO445.out (fun _ hk => hk.2)⟩, ⟨by (with_reducible repeat (first | apply zRa | apply zRn | apply zRd)); exact zRm HO448.out (fun _ hk => hk.2)⟩, ⟨by repeat (first | (with_reducible first | exact HB.out | apply zBa | apply zBn | apply zBd) | exact HB.out)⟩⟩
  clear H'
  obtain ⟨x7_1, rfl, HA, HK1, HO_5, HO_6, HB⟩ := hrel
  rcases gk with _ | k1
  · exact absurd HA.out (by simp [r1_Cmp.l0])
  have H := HA.out
  clear HA
  simp only [r1_Cmp.l0] at H
  by_cases c10 : x7_1 ≥ 0
  · rw [if_pos c10] at H
    have c10b0 : decide (0 ≤ x7_1) = true := decide_eq_true c10
    clear c10
    replace H := Option.bind_eq_some_iff.mp H
    obtain ⟨t449, A110, H⟩ := H
    have A11 := zMk A110
    clear A110
    replace H := Option.bind_eq_some_iff.mp H
    obtain ⟨t450, A120, H⟩ := H
    have A12 := zMk A120
    clear A120
    by_cases c13 : t449 < t450
    · rw [if_pos c13] at H
      have c13b0 : decide (t449 < t450) = true := decide_eq_true c13
      clear c13
      obtain rfl := zOi H
      go_wp2_with (first | ((with_reducible refine gate_callee (f := 43) rfl ?_); refine goesL_ (some 24) rfl rfl Tryd.func43 (by kernel_rfl) rfl #[.slice Ao8 t443.length co8, .int .i64 x7_1] rfl (by (try simp only [List.map_toArray, List.map_cons, List.map_nil]); first | done | rfl | (simp only [zLd, zLt]; rfl)) ?_; (with_reducible refine (r1_at.calls _ _ t443 x7_1 t449 _ ?side1 ?side2 A11.out).mono ?_); (case side1 => repeat (first | exact (Kd.R_reads' HO_5.out).2.2 | (with_reducible refine zCa ?_ _) | (with_reducible refine zCn ?_ _) | (with_reducible refine zCd ?_))); (case side2 => exact (Kd.R_reads' HO_5.out).2.1); rintro e w' ⟨rfl, ⟨nd, rfl⟩⟩; refine ⟨_, rfl, ?_⟩) | ((with_reducible refine gate_callee (f := 43) rfl ?_); refine goesL_ (some 27) rfl rfl Tryd.func43 (by kernel_rfl) rfl #[.slice Ao9 t446.length co9, .int .i64 x7_1] rfl (by (try simp only [List.map_toArray, List.map_cons, List.map_nil]); first | done | rfl | (simp only [zLd, zLt]; rfl)) ?_; (with_reducible refine (r1_at.calls _ _ t446 x7_1 t450 _ ?side1 ?side2 A12.out).mono ?_); (case side1 => repeat (first | exact (Kd.R_reads' HO_6.out).2.2 | (with_reducible refine zCa ?_ _) | (with_reducible refine zCn ?_ _) | (with_reducible refine zCd ?_))); (case side2 => exact (Kd.R_reads' HO_6.out).2.1); rintro e w' ⟨rfl, ⟨nd, rfl⟩⟩; refine ⟨_, rfl, ?_⟩))
      go_ret
      exact ⟨by first | rfl | (simp [errW_none, errW_some] <;> rfl) | (simp only [← hji5]; first | rfl | (simp [errW_none, errW_some] <;> rfl)) | (simp [*, errW_none, errW_some] <;> rfl), by repeat (first | (with_reducible first | exact HB.out | apply zBa | apply zBn | apply zBd) | exact HB.out)⟩
    · rw [if_neg c13] at H
      have c13b0 : decide (t449 < t450) = false := decide_eq_false c13
      clear c13
      replace H := Option.bind_eq_some_iff.mp H
      obtain ⟨t451, A140, H⟩ := H
      have A14 := zMk A140
      clear A140
      replace H := Option.bind_eq_some_iff.mp H
      obtain ⟨t452, A150, H⟩ := H
      have A15 := zMk A150
      clear A150
      by_cases c16 : t451 > t452
      · rw [if_pos c16] at H
        have c16b0 : decide (t452 < t451) = true := decide_eq_true c16
        clear c16
        obtain rfl := zOi H
        go_wp2_with (first | ((with_reducible refine gate_callee (f := 43) rfl ?_); refine goesL_ (some 24) rfl rfl Tryd.func43 (by kernel_rfl) rfl #[.slice Ao8 t443.length co8, .int .i64 x7_1] rfl (by (try simp only [List.map_toArray, List.map_cons, List.map_nil]); first | done | rfl | (simp only [zLd, zLt]; rfl)) ?_; (with_reducible refine (r1_at.calls _ _ t443 x7_1 t449 _ ?side1 ?side2 A11.out).mono ?_); (case side1 => repeat (first | exact (Kd.R_reads' HO_5.out).2.2 | (with_reducible refine zCa ?_ _) | (with_reducible refine zCn ?_ _) | (with_reducible refine zCd ?_))); (case side2 => exact (Kd.R_reads' HO_5.out).2.1); rintro e w' ⟨rfl, ⟨nd, rfl⟩⟩; refine ⟨_, rfl, ?_⟩) | ((with_reducible refine gate_callee (f := 43) rfl ?_); refine goesL_ (some 27) rfl rfl Tryd.func43 (by kernel_rfl) rfl #[.slice Ao9 t446.length co9, .int .i64 x7_1] rfl (by (try simp only [List.map_toArray, List.map_cons, List.map_nil]); first | done | rfl | (simp only [zLd, zLt]; rfl)) ?_; (with_reducible refine (r1_at.calls _ _ t446 x7_1 t450 _ ?side1 ?side2 A12.out).mono ?_); (case side1 => repeat (first | exact (Kd.R_reads' HO_6.out).2.2 | (with_reducible refine zCa ?_ _) | (with_reducible refine zCn ?_ _) | (with_reducible refine zCd ?_))); (case side2 => exact (Kd.R_reads' HO_6.out).2.1); rintro e w' ⟨rfl, ⟨nd, rfl⟩⟩; refine ⟨_, rfl, ?_⟩) | ((with_reducible refine gate_callee (f := 43) rfl ?_); refine goesL_ (some 31) rfl rfl Tryd.func43 (by kernel_rfl) rfl #[.slice Ao8 t443.length co8, .int .i64 x7_1] rfl (by (try simp only [List.map_toArray, List.map_cons, List.map_nil]); first | done | rfl | (simp only [zLd, zLt]; rfl)) ?_; (with_reducible refine (r1_at.calls _ _ t443 x7_1 t451 _ ?side1 ?side2 A14.out).mono ?_); (case side1 => repeat (first | exact (Kd.R_reads' HO_5.out).2.2 | (with_reducible refine zCa ?_ _) | (with_reducible refine zCn ?_ _) | (with_reducible refine zCd ?_))); (case side2 => exact (Kd.R_reads' HO_5.out).2.1); rintro e w' ⟨rfl, ⟨nd, rfl⟩⟩; refine ⟨_, rfl, ?_⟩) | ((with_reducible refine gate_callee (f := 43) rfl ?_); refine goesL_ (some 34) rfl rfl Tryd.func43 (by kernel_rfl) rfl #[.slice Ao9 t446.length co9, .int .i64 x7_1] rfl (by (try simp only [List.map_toArray, List.map_cons, List.map_nil]); first | done | rfl | (simp only [zLd, zLt]; rfl)) ?_; (with_reducible refine (r1_at.calls _ _ t446 x7_1 t452 _ ?side1 ?side2 A15.out).mono ?_); (case side1 => repeat (first | exact (Kd.R_reads' HO_6.out).2.2 | (with_reducible refine zCa ?_ _) | (with_reducible refine zCn ?_ _) | (with_reducible refine zCd ?_))); (case side2 => exact (Kd.R_reads' HO_6.out).2.1); rintro e w' ⟨rfl, ⟨nd, rfl⟩⟩; refine ⟨_, rfl, ?_⟩))
        go_ret
        exact ⟨by first | rfl | (simp [errW_none, errW_some] <;> rfl) | (simp only [← hji5]; first | rfl | (simp [errW_none, errW_some] <;> rfl)) | (simp [*, errW_none, errW_some] <;> rfl), by repeat (first | (with_reducible first | exact HB.out | apply zBa | apply zBn | apply zBd) | exact HB.out)⟩
      · rw [if_neg c16] at H
        have c16b0 : decide (t452 < t451) = false := decide_eq_false c16
        clear c16
        have H' := zMk H
        clear H
        go_wp2_with (first | ((with_reducible refine gate_callee (f := 43) rfl ?_); refine goesL_ (some 24) rfl rfl Tryd.func43 (by kernel_rfl) rfl #[.slice Ao8 t443.length co8, .int .i64 x7_1] rfl (by (try simp only [List.map_toArray, List.map_cons, List.map_nil]); first | done | rfl | (simp only [zLd, zLt]; rfl)) ?_; (with_reducible refine (r1_at.calls _ _ t443 x7_1 t449 _ ?side1 ?side2 A11.out).mono ?_); (case side1 => repeat (first | exact (Kd.R_reads' HO_5.out).2.2 | (with_reducible refine zCa ?_ _) | (with_reducible refine zCn ?_ _) | (with_reducible refine zCd ?_))); (case side2 => exact (Kd.R_reads' HO_5.out).2.1); rintro e w' ⟨rfl, ⟨nd, rfl⟩⟩; refine ⟨_, rfl, ?_⟩) | ((with_reducible refine gate_callee (f := 43) rfl ?_); refine goesL_ (some 27) rfl rfl Tryd.func43 (by kernel_rfl) rfl #[.slice Ao9 t446.length co9, .int .i64 x7_1] rfl (by (try simp only [List.map_toArray, List.map_cons, List.map_nil]); first | done | rfl | (simp only [zLd, zLt]; rfl)) ?_; (with_reducible refine (r1_at.calls _ _ t446 x7_1 t450 _ ?side1 ?side2 A12.out).mono ?_); (case side1 => repeat (first | exact (Kd.R_reads' HO_6.out).2.2 | (with_reducible refine zCa ?_ _) | (with_reducible refine zCn ?_ _) | (with_reducible refine zCd ?_))); (case side2 => exact (Kd.R_reads' HO_6.out).2.1); rintro e w' ⟨rfl, ⟨nd, rfl⟩⟩; refine ⟨_, rfl, ?_⟩) | ((with_reducible refine gate_callee (f := 43) rfl ?_); refine goesL_ (some 31) rfl rfl Tryd.func43 (by kernel_rfl) rfl #[.slice Ao8 t443.length co8, .int .i64 x7_1] rfl (by (try simp only [List.map_toArray, List.map_cons, List.map_nil]); first | done | rfl | (simp only [zLd, zLt]; rfl)) ?_; (with_reducible refine (r1_at.calls _ _ t443 x7_1 t451 _ ?side1 ?side2 A14.out).mono ?_); (case side1 => repeat (first | exact (Kd.R_reads' HO_5.out).2.2 | (with_reducible refine zCa ?_ _) | (with_reducible refine zCn ?_ _) | (with_reducible refine zCd ?_))); (case side2 => exact (Kd.R_reads' HO_5.out).2.1); rintro e w' ⟨rfl, ⟨nd, rfl⟩⟩; refine ⟨_, rfl, ?_⟩) | ((with_reducible refine gate_callee (f := 43) rfl ?_); refine goesL_ (some 34) rfl rfl Tryd.func43 (by kernel_rfl) rfl #[.slice Ao9 t446.length co9, .int .i64 x7_1] rfl (by (try simp only [List.map_toArray, List.map_cons, List.map_nil]); first | done | rfl | (simp only [zLd, zLt]; rfl)) ?_; (with_reducible refine (r1_at.calls _ _ t446 x7_1 t452 _ ?side1 ?side2 A15.out).mono ?_); (case side1 => repeat (first | exact (Kd.R_reads' HO_6.out).2.2 | (with_reducible refine zCa ?_ _) | (with_reducible refine zCn ?_ _) | (with_reducible refine zCd ?_))); (case side2 => exact (Kd.R_reads' HO_6.out).2.1); rintro e w' ⟨rfl, ⟨nd, rfl⟩⟩; refine ⟨_, rfl, ?_⟩))
        go_roundg k1
        case measure => have := HK1.out; omega
        case rel => exact ⟨(wrap64 (x7_1 - 1)), (by first | rfl | (simp; done) | (simp [*]; done)), H', ⟨by have := HK1.out; omega⟩, ⟨by (with_reducible repeat (first | apply zRa | apply zRn | apply zRd)); exact HO_5.out⟩, ⟨by (with_reducible repeat (first | apply zRa | apply zRn | apply zRd)); exact HO_6.out⟩, ⟨by repeat (first | (with_reducible first | exact HB.out | apply zBa | apply zBn | apply zBd) | exact HB.out)⟩⟩
  · rw [if_neg c10] at H
    have c10b0 : decide (0 ≤ x7_1) = false := decide_eq_false c10
    clear c10
    obtain rfl := zOi H
    go_wp2
    go_ret
    exact ⟨by first | rfl | (simp [errW_none, errW_some] <;> rfl) | (simp only [← hji5]; first | rfl | (simp [errW_none, errW_some] <;> rfl)) | (simp [*, errW_none, errW_some] <;> rfl), by repeat (first | (with_reducible first | exact HB.out | apply zBa | apply zBn | apply zBd) | exact HB.out)⟩

/- The plain laws of bits, and of comparing them. -/
/- bits -/
def bval : List Int → Int
  | [] => 0
  | x :: r => x + 2 * bval r
def Bits (l : List Int) : Prop := ∀ x ∈ l, x = 0 ∨ x = 1
theorem bval_append (a b : List Int) : bval (a ++ b) = bval a + 2 ^ a.length * bval b := by
  induction a with
  | nil => simp [bval]
  | cons x a ih => simp only [List.cons_append, bval, ih, List.length_cons, Int.pow_succ]; rw [Int.mul_add, ← Int.mul_assoc, Int.mul_comm 2 (2 ^ a.length)]; omega
theorem Bits.tail {x : Int} {l : List Int} (h : Bits (x :: l)) : (x = 0 ∨ x = 1) ∧ Bits l := ⟨h x (List.mem_cons_self ..), fun y hy => h y (List.mem_cons_of_mem _ hy)⟩
theorem Bits.nil : Bits [] := fun _ h => by cases h
theorem Bits.append {a b : List Int} (ha : Bits a) (hb : Bits b) : Bits (a ++ b) := fun x hx => by
  rcases List.mem_append.1 hx with h | h
  · exact ha x h
  · exact hb x h
theorem Bits.one {x : Int} (h : x = 0 ∨ x = 1) : Bits [x] := fun y hy => by rw [List.mem_singleton] at hy; rw [hy]; exact h
theorem Bits.take {l : List Int} (h : Bits l) (n : Nat) : Bits (l.take n) := fun x hx => h x (List.mem_of_mem_take hx)
theorem Bits.getD {l : List Int} (h : Bits l) (n : Nat) : l.getD n 0 = 0 ∨ l.getD n 0 = 1 := by
  by_cases hn : n < l.length
  · rw [getD_lt _ hn]; exact h _ (List.getElem_mem hn)
  · rw [getD_ge _ (by omega)]; exact .inl rfl
theorem bval_bounds {l : List Int} (h : Bits l) : 0 ≤ bval l ∧ bval l < 2 ^ l.length := by
  induction l with
  | nil => simp [bval]
  | cons x l ih =>
    have h1 := h.tail
    have h2 := ih h1.2
    simp only [bval, List.length_cons, Int.pow_succ]
    omega
theorem bval_take_succ (l : List Int) (n : Nat) : bval (l.take (n + 1)) = bval (l.take n) + 2 ^ n * l.getD n 0 := by
  by_cases h : n < l.length
  · rw [List.take_succ_eq_append_getElem h, bval_append, zLt, Nat.min_eq_left (by omega), getD_lt _ h]
    simp [bval]
  · rw [List.take_of_length_le (by omega), List.take_of_length_le (by omega), getD_ge _ (by omega)]
    simp
theorem bval_take_lt {l : List Int} (h : Bits l) (n : Nat) : 0 ≤ bval (l.take n) ∧ bval (l.take n) < 2 ^ n := by
  have h1 := bval_bounds (h.take n)
  refine ⟨h1.1, Int.lt_of_lt_of_le h1.2 ?_⟩
  have := Nat.pow_le_pow_right (show 0 < 2 by decide) (show (l.take n).length ≤ n by rw [zLt]; omega)
  exact_mod_cast this
/-- The n low bits of x, the lowest first. -/
def bitsW (x : Int) : Nat → List Int
  | 0 => []
  | n + 1 => bitsW x n ++ [x / 2 ^ n % 2]
theorem bitsW_zero (x : Int) : bitsW x 0 = [] := rfl
theorem bitsW_succ (x : Int) (n : Nat) : bitsW x (n + 1) = bitsW x n ++ [x / 2 ^ n % 2] := rfl
theorem bitsW_length (x : Int) (n : Nat) : (bitsW x n).length = n := by
  induction n with
  | zero => rfl
  | succ n ih => simp [bitsW, ih]
theorem bitsW_bits (x : Int) (n : Nat) : Bits (bitsW x n) := by
  induction n with
  | zero => exact Bits.nil
  | succ n ih => exact ih.append (Bits.one (by omega))
theorem bval_bitsW (x : Int) (n : Nat) (h : 0 ≤ x) : bval (bitsW x n) = x % 2 ^ n := by
  induction n with
  | zero => simp only [bitsW, bval, Int.pow_zero]; omega
  | succ n ih =>
    simp only [bitsW]
    rw [bval_append, ih, bitsW_length]
    simp only [bval]
    rw [Int.pow_succ, Int.emod_def x (2 ^ n * 2), ← Int.ediv_ediv_of_nonneg (Int.le_of_lt (Int.pow_pos (by decide)))]
    have h1 := Int.emod_def x (2 ^ n)
    have h2 := Int.emod_def (x / 2 ^ n) 2
    rw [h1, h2, Int.mul_add, Int.mul_sub, Int.mul_assoc]
    simp only [Int.mul_zero, Int.add_zero]
    omega
def bitsOf : List Int → List Int
  | [] => []
  | x :: r => bitsW x 32 ++ bitsOf r
theorem bitsOf_length (l : List Int) : (bitsOf l).length = 32 * l.length := by
  induction l with
  | nil => rfl
  | cons x l ih => simp [bitsOf, ih, bitsW_length]; omega
theorem bitsOf_bits (l : List Int) : Bits (bitsOf l) := by
  induction l with
  | nil => exact Bits.nil
  | cons x l ih => exact (bitsW_bits x 32).append ih
theorem bval_bitsOf {l : List Int} (h : Limbs l) : bval (bitsOf l) = val l := by
  induction l with
  | nil => rfl
  | cons x l ih =>
    have h1 := h.cons
    simp only [bitsOf, val]
    rw [bval_append, ih h1.2, bval_bitsW x 32 h1.1.1, bitsW_length]
    have : x % 2 ^ 32 = x := by omega
    rw [this]; omega
theorem u32_and1 (x : Int) (h₀ : 0 ≤ x) (h₁ : x < 4294967296) : Go.bits .and .u32 x 1 = x % 2 := bits_mask .u32 32 (by decide) wraps_u32 1 (by decide) x h₀ h₁
theorem u8_and1 (x : Int) (h₀ : 0 ≤ x) (h₁ : x < 256) : Go.bits .and .u8 x 1 = x % 2 := bits_mask .u8 8 (by decide) wraps_u8 1 (by decide) x h₀ h₁
theorem shr_u32 (x : Int) (i : Nat) (h : i ≤ 32) : shr .u32 x (IntKind.u64.wrap (i : Int)) = x / 2 ^ i := by
  rw [wraps_u64 _ (by omega) (by omega)]
  unfold shr
  rw [show min ((i : Int)).toNat (IntKind.bits .u32) = i from by rw [zTn]; exact Nat.min_eq_left h]
theorem bits_l1 (x0 : List Int) (hl : Limbs x0) (m : Nat) (hm : m < x0.length) (pre : List Int) (hp : pre.length + 32 < 140737488355328) (hm2 : x0.length < 4611686018427387904) : ∀ (j i k : Nat), i + j = 32 →
    r1_bits.l1 (k + j + 1) x0 (pre ++ bitsW (x0.getD m 0) i) (m : Int) (i : Int) = r1_bits.l0 k x0 (pre ++ bitsW (x0.getD m 0) 32) ((m + 1 : Nat) : Int) := by
  intro j
  induction j with
  | zero =>
    intro i k h
    obtain rfl : i = 32 := by omega
    rw [r1_bits.l1, if_neg (by omega), w64 (by omega) (by omega)]
    rfl
  | succ j ih =>
    intro i k h
    have hx := hl.getD m
    have hdiv : 0 ≤ x0.getD m 0 / 2 ^ i ∧ x0.getD m 0 / 2 ^ i < 4294967296 := by
      refine ⟨Int.ediv_nonneg hx.1 (Int.le_of_lt (Int.pow_pos (by decide))), ?_⟩
      have := Int.ediv_le_self (2 ^ i) hx.1
      omega
    rw [show k + (j + 1) + 1 = (k + j + 1) + 1 by omega, r1_bits.l1, if_pos (by omega), if_pos (by omega), if_pos (by omega), if_pos (by rw [wraps_u64 _ (by omega) (by omega)]; omega), if_pos (by rw [List.length_append, bitsW_length]; omega), rd_nat, shr_u32 _ i (by omega), u32_and1 _ hdiv.1 hdiv.2, w64 (by omega) (by omega), show x0.getD m 0 / 2 ^ i % 2 % 256 = x0.getD m 0 / 2 ^ i % 2 by omega]
    have := ih (i + 1) k (by omega)
    rw [show ((i + 1 : Nat) : Int) = (i : Int) + 1 by omega] at this
    rw [← this, bitsW_succ, List.append_assoc]
theorem bits_l0 (x0 : List Int) (hl : Limbs x0) (hm2 : x0.length < 4000000000000) : ∀ (j m k : Nat), m + j = x0.length →
    r1_bits.l0 (k + 34 * j + 1) x0 (bitsOf (x0.take m)) (m : Int) = some (bitsOf x0) := by
  intro j
  induction j with
  | zero =>
    intro m k h
    rw [r1_bits.l0, if_neg (by omega), List.take_of_length_le (by omega)]
  | succ j ih =>
    intro m k h
    rw [show k + 34 * (j + 1) + 1 = ((k + 34 * j + 1) + 32 + 1) + 1 by omega]
    rw [r1_bits.l0, if_pos (by omega)]
    have h1 := bits_l1 x0 hl m (by omega) (bitsOf (x0.take m)) (by rw [bitsOf_length, zLt]; omega) (by omega) 32 0 (k + 34 * j + 1) (by omega)
    rw [bitsW_zero, List.append_nil] at h1
    rw [show ((0 : Nat) : Int) = 0 from rfl] at h1
    rw [h1]
    have h2 : bitsOf (x0.take (m + 1)) = bitsOf (x0.take m) ++ bitsW (x0.getD m 0) 32 := by
      rw [List.take_succ_eq_append_getElem (by omega), getD_lt _ (by omega)]
      have : ∀ a b : List Int, bitsOf (a ++ b) = bitsOf a ++ bitsOf b := by
        intro a b
        induction a with
        | nil => rfl
        | cons x a ih => simp [bitsOf, ih]
      rw [this]
      simp [bitsOf]
    have h3 := ih (m + 1) k (by omega)
    rw [h2] at h3
    exact h3
theorem bits_f (l : List Int) (hl : Limbs l) (hm : l.length < 4000000000000) (k : Nat) (hk : 34 * l.length + 1 ≤ k) : r1_bits.f k l = some (bitsOf l) := by
  unfold r1_bits.f
  obtain ⟨d, rfl⟩ : ∃ d, k = d + 34 * l.length + 1 := ⟨k - (34 * l.length + 1), by omega⟩
  exact bits_l0 l hl hm l.length 0 d (by omega)
theorem at_f (l : List Int) (i : Nat) : r1_at.f l (i : Int) = some (l.getD i 0) := by
  unfold r1_at.f
  by_cases h : (i : Int) < (l.length : Int)
  · rw [if_pos h, if_pos (by omega), rd_nat]
  · rw [if_neg h, getD_ge _ (by omega)]
theorem rcmp_l0 (x y : List Int) (hx : Bits x) (hy : Bits y) : ∀ (n k : Nat), n < 4611686018427387904 → n < k → r1_Cmp.l0 k x y ((n : Int) - 1) = some (cmpI (bval (x.take n)) (bval (y.take n))) := by
  intro n
  induction n with
  | zero =>
    intro k _ hk
    obtain ⟨k, rfl⟩ : ∃ d, k = d + 1 := ⟨k - 1, by omega⟩
    simp only [r1_Cmp.l0]
    rw [if_neg (by omega)]
    simp [bval, cmpI]
  | succ n ih =>
    intro k hn hk
    obtain ⟨k, rfl⟩ : ∃ d, k = d + 1 := ⟨k - 1, by omega⟩
    simp only [r1_Cmp.l0]
    rw [if_pos (by omega), show ((n + 1 : Nat) : Int) - 1 = (n : Int) by omega]
    simp only [at_f, zOb]
    rw [w64 (by omega) (by omega), ih k (by omega) (by omega)]
    have h1 := bval_take_lt hx n
    have h2 := bval_take_lt hy n
    rw [bval_take_succ, bval_take_succ, cmpI_step h1.1 h1.2 h2.1 h2.2]
    by_cases h3 : x.getD n 0 < y.getD n 0
    · rw [if_pos h3, if_neg (by omega)]
      unfold cmpI
      rw [if_pos h3]
    · rw [if_neg h3]
      by_cases h4 : x.getD n 0 > y.getD n 0
      · rw [if_pos h4, if_neg (by omega)]
        unfold cmpI
        rw [if_neg h3, if_pos h4]
      · rw [if_neg h4, if_pos (by omega)]
theorem mx_nat (a b : Nat) : mx (a : Int) (b : Int) = ((max a b : Nat) : Int) := by unfold mx; split <;> omega
theorem rcmp_f (a b : List Int) (ha : Limbs a) (hb : Limbs b) (la : a.length < 4000000000000) (lb : b.length < 4000000000000) (k : Nat) (hk : 34 * a.length + 34 * b.length + 2 ≤ k) : r1_Cmp.f k a b = some (cmpI (val a) (val b)) := by
  unfold r1_Cmp.f
  rw [bits_f a ha la k (by omega), zOb, bits_f b hb lb k (by omega), zOb, mx_nat, bitsOf_length, bitsOf_length, w64 (by omega) (by omega), rcmp_l0 _ _ (bitsOf_bits a) (bitsOf_bits b) _ k (by omega) (by omega)]
  rw [List.take_of_length_le (by rw [bitsOf_length]; omega), List.take_of_length_le (by rw [bitsOf_length]; omega), bval_bitsOf ha, bval_bitsOf hb]
/- Words on bits: weights, a bit that is set. -/
/-- A bit's weight: a word of its own. -/
@[irreducible] def Tp (n : Nat) : Int := (2 : Int) ^ n
theorem Tp_zero : Tp 0 = 1 := by unfold Tp; rfl
theorem Tp_succ (n : Nat) : Tp (n + 1) = Tp n * 2 := by unfold Tp; exact Int.pow_succ 2 n
theorem Tp_add (m n : Nat) : Tp (m + n) = Tp m * Tp n := by unfold Tp; exact Int.pow_add 2 m n
theorem Tp_pos (n : Nat) : 0 < Tp n := by unfold Tp; exact Int.pow_pos (by decide)
theorem bval_set (l : List Int) : ∀ (n : Nat) (v : Int), n < l.length → bval (l.set n v) = bval l + Tp n * (v - l.getD n 0) := by
  induction l with
  | nil => intro n v h; exact absurd h (by simp)
  | cons x l ih =>
    intro n v h
    rcases n with _ | n
    · simp only [zSb, bval, List.getD_cons_zero, Tp_zero]; omega
    · have := ih n v (by simpa using h)
      simp only [zSc, bval, List.getD_cons_succ, this, Tp_succ]
      grind
theorem bval_drop (l : List Int) (n : Nat) (h : n < l.length) : bval (l.drop n) = l.getD n 0 + 2 * bval (l.drop (n + 1)) := by
  rw [List.drop_eq_getElem_cons h, getD_lt _ h]
  rfl
theorem Bits.set {l : List Int} (h : Bits l) (n : Nat) {v : Int} (hv : v = 0 ∨ v = 1) : Bits (l.set n v) := fun x hx => by
  rcases List.mem_or_eq_of_mem_set hx with hx | rfl
  · exact h x hx
  · exact hv
theorem bits_zero (n : Nat) : Bits (List.replicate n 0) := fun x hx => .inl (List.eq_of_mem_replicate hx)
theorem bval_zero (n : Nat) : bval (List.replicate n 0) = 0 := by
  induction n with
  | zero => rfl
  | succ n ih => simp only [List.replicate_succ, bval, ih]; rfl
theorem bval_lt {l : List Int} (h : Bits l) : bval l < Tp l.length := by unfold Tp; exact (bval_bounds h).2

/-! ### r1_limbs: function 45 -/
def r1_limbs.l0 : Nat → List Int → List Int → Int → Option (List Int)
  | 0, _, _, _ => none
  | k + 1, x0, x3, x4 => if x4 < (x0.length : Int) then (if 0 ≤ (wrap64 (Int.tdiv x4 32)) then (if (wrap64 (Int.tdiv x4 32)) < (x3.length : Int) then (if 0 ≤ x4 then (if 0 ≤ (IntKind.u64.wrap (Int.tmod x4 32)) then (r1_limbs.l0 k x0 (x3.set ((wrap64 (Int.tdiv x4 32)) : Int).toNat (Go.bits .or .u32 (rd x3 (wrap64 (Int.tdiv x4 32))) (shl .u32 ((rd x0 x4) % 4294967296) (IntKind.u64.wrap (Int.tmod x4 32))))) (wrap64 (x4 + 1))) else (none)) else (none)) else (none)) else (none)) else ((r1_Norm.f k x3).bind fun t486 => (some t486))
def r1_limbs.f (k : Nat) (l0 : List Int) : Option (List Int) := if 0 ≤ (wrap64 (Int.tdiv (wrap64 ((l0.length : Int) + 31)) 32)) then (if (wrap64 (Int.tdiv (wrap64 ((l0.length : Int) + 31)) 32) : Int).toNat ≤ 70368744177664 then (r1_limbs.l0 k l0 (List.replicate (wrap64 (Int.tdiv (wrap64 ((l0.length : Int) + 31)) 32) : Int).toNat 0) 0) else (none)) else (none)
def r1_limbs.T5 : Bool × List (List Nat × List Nat) := (true, [([], []), ([], []), ([1], [1]), ([], []), ([], []), ([4], [4]), ([3, 5], [3, 5]), ([6], [6]), ([], []), ([], []), ([8, 9], [8, 9]), ([10], [10]), ([11], [11]), ([], []), ([13], [13]), ([14], [14]), ([12, 15], [12, 15]), ([7, 16], [7, 16]), ([0, 2, 0, 1, 2, 3, 4, 5, 6, 7, 8, 9, 10, 11, 12, 13, 14, 15, 16, 17], [0, 2]), ([18, 17, 0, 1, 2, 3, 4, 5, 6, 7, 8, 9, 10, 11, 12, 13, 14, 15, 16, 17], [17, 18])])
def r1_limbs.B5 : List Nat := [0, 0, 2, 0, 0, 16, 56, 120, 0, 0, 768, 1792, 3840, 0, 8192, 24576, 65280, 131064, 262143, 524287]
theorem r1_limbs.tab5 : rtab .any (opsOf Tryd.f45 5) = r1_limbs.T5 := by kernel_rfl
theorem r1_limbs.bits5 : waitsOk r1_limbs.T5.2 r1_limbs.B5 = true := by kernel_rfl
set_option maxHeartbeats 8000000 in
set_option maxRecDepth 100000 in
theorem r1_limbs.calls (k : Nat) (A0 : Option Addr) (c0 : Nat) (l0 : List Int) (r : List Int) (w : World) (hr0 : Kd.C (Kd.int .u8) w A0 l0.length l0) (hc0 : l0.length ≤ c0) (h : r1_limbs.f k l0 = some r) :
    Calls Tryd.prog 45 #[.slice A0 l0.length c0] w fun e w' => ∃ v0_ : Value, e = .returned (v0_) ∧ Kd.R (Kd.int .u32) 36 w' w.heap.size (fun _ => True) v0_ r ∧ Below w.heap.size w w' := by
  have HR0 := zMk hr0
  have HC0 := zMk hc0
  clear hr0 hc0
  have HB := zMk (Below.refl w.heap.size w)
  have H : (if 0 ≤ (wrap64 (Int.tdiv (wrap64 ((l0.length : Int) + 31)) 32)) then (if (wrap64 (Int.tdiv (wrap64 ((l0.length : Int) + 31)) 32) : Int).toNat ≤ 70368744177664 then (r1_limbs.l0 k l0 (List.replicate (wrap64 (Int.tdiv (wrap64 ((l0.length : Int) + 31)) 32) : Int).toNat 0) 0) else (none)) else (none)) = some r := h
  clear h
  obtain ⟨ji2, hji2⟩ : ∃ j_ : Int, (wrap64 (Int.tdiv (wrap64 ((l0.length : Int) + 31)) 32)) = j_ := ⟨_, rfl⟩
  replace H : (if 0 ≤ (ji2) then (if (ji2 : Int).toNat ≤ 70368744177664 then (r1_limbs.l0 k l0 (List.replicate (ji2 : Int).toNat 0) 0) else (none)) else (none)) = some r := by first | (rw [hji2] at H; exact H) | (simp only [hji2] at H ⊢; exact H)
  have hji2w : (IntKind.i64.wrap (Int.tdiv (wrap64 ((l0.length : Int) + 31)) 32)) = ji2 := (i64_w _).trans hji2
  by_cases c3 : 0 ≤ (ji2)
  · rw [if_pos c3] at H
    have c3b0 := eq_true c3
    have c3b1 : decide (0 ≤ (ji2)) = true := decide_eq_true c3
    clear c3
    by_cases c4 : (ji2 : Int).toNat ≤ 70368744177664
    rotate_left
    · rw [if_neg c4] at H; exact absurd H (by simp)
    rw [if_pos c4] at H
    have c4b0 := eq_true c4
    have c4b1 : decide ((ji2 : Int).toNat ≤ 70368744177664) = true := decide_eq_true c4
    clear c4
    obtain ⟨y480, hy480⟩ : ∃ y_ : List Int, y_ = (List.replicate (ji2 : Int).toNat 0) := ⟨_, rfl⟩
    replace H : (r1_limbs.l0 k l0 y480 0) = some r := by first | (rw [hy480]; with_reducible exact H) | (have H2_ := (zOb _ _).symm.trans H; rw [hy480]; with_reducible exact H2_) | (have H2_ := (zOb _ _).symm.trans H; with_reducible exact H2_) | with_reducible exact H | (rw [hy480]; exact H) | exact H
    have Ny480 := zMk hy480
    clear hy480
    have H' := zMk H
    clear H
    go_enter Tryd.func45, Tryd.ntmps45
    go_wp2_with (first | ((with_reducible refine gate_dst (N := 9) rfl ?_); refine Kd.R_make (Kd.int .u32) _ 36 rfl (N := 9) rfl 23 _ _ rfl ji2 rfl rfl Tryd.underlying23 (.int .u32 0) 4 info36 rfl (by decide) (by omega) 0 (ok := fun _ => True) (okp := fun _ => True) rfl (fun _ hk => hk) trivial (of_decide_eq_true (by first | (with_reducible assumption) | assumption)) (Nat.le_trans (Nat.mul_le_mul_right _ (of_decide_eq_true (by first | (with_reducible assumption) | assumption) : ji2.toNat ≤ 70368744177664)) (by omega)) (Below.refl _ _) (Nat.le_refl _) ?_; intro v481 w5 ho6 hb hg_ hnew_; clear hg_ hnew_; (first | rw [← Ny480.out] at ho6 | (simp only [Int.reduceToNat] at ho6; rw [← Ny480.out] at ho6)); have n0_ := zMk (Kd.R_lower ho6 (zBs (by repeat (first | (with_reducible first | exact HB.out | apply zBa | apply zBn | apply zBd) | exact HB.out)))); have n1_ := zMk (zBt (by repeat (first | (with_reducible first | exact HB.out | apply zBa | apply zBn | apply zBd) | exact HB.out)) hb); clear HB; have HO482 := n0_; have HB := n1_; clear n0_ n1_; clear hb ho6))
    go_loopg [4] k (fun kq v4 w' => ∃ (x3_1 : List Int) (x4_1 : Int), v4 = .int .i64 x4_1 ∧ Aside0 (r1_limbs.l0 kq l0 x3_1 x4_1 = some r) ∧ Aside0 (kq ≤ k) ∧ Aside0 (Kd.R (Kd.int .u32) 36 w' w.heap.size (fun _ => True) v481 x3_1) ∧ Aside0 (Below w.heap.size w w'))
    case atStart => exact ⟨(y480), (0), (by first | rfl | (simp; done) | (simp [*]; done)), H', ⟨Nat.le_refl _⟩, ⟨by (with_reducible repeat (first | apply zRa | apply zRn | apply zRd)); exact HO482.out⟩, ⟨by repeat (first | (with_reducible first | exact HB.out | apply zBa | apply zBn | apply zBd) | exact HB.out)⟩⟩
    clear H'
    obtain ⟨x3_1, x4_1, rfl, HA, HK1, HO_3, HB⟩ := hrel
    rcases gk with _ | k1
    · exact absurd HA.out (by simp [r1_limbs.l0])
    have H := HA.out
    clear HA
    simp only [r1_limbs.l0] at H
    by_cases c7 : x4_1 < (l0.length : Int)
    · rw [if_pos c7] at H
      have c7b0 : decide (x4_1 < (l0.length : Int)) = true := decide_eq_true c7
      clear c7
      obtain ⟨ji8, hji8⟩ : ∃ j_ : Int, (wrap64 (Int.tdiv x4_1 32)) = j_ := ⟨_, rfl⟩
      replace H : (if 0 ≤ (ji8) then (if (ji8) < (x3_1.length : Int) then (if 0 ≤ x4_1 then (if 0 ≤ (IntKind.u64.wrap (Int.tmod x4_1 32)) then (r1_limbs.l0 k1 l0 (x3_1.set ((ji8) : Int).toNat (Go.bits .or .u32 (rd x3_1 (ji8)) (shl .u32 ((rd l0 x4_1) % 4294967296) (IntKind.u64.wrap (Int.tmod x4_1 32))))) (wrap64 (x4_1 + 1))) else (none)) else (none)) else (none)) else (none)) = some r := by first | (rw [hji8] at H; exact H) | (simp only [hji8] at H ⊢; exact H)
      have hji8w : (IntKind.i64.wrap (Int.tdiv x4_1 32)) = ji8 := (i64_w _).trans hji8
      by_cases c9 : 0 ≤ (ji8)
      rotate_left
      · rw [if_neg c9] at H; exact absurd H (by simp)
      rw [if_pos c9] at H
      have c9b0 : decide (0 ≤ (ji8)) = true := decide_eq_true c9
      clear c9
      by_cases c10 : (ji8) < (x3_1.length : Int)
      rotate_left
      · rw [if_neg c10] at H; exact absurd H (by simp)
      rw [if_pos c10] at H
      have c10b0 : decide ((ji8) < (x3_1.length : Int)) = true := decide_eq_true c10
      clear c10
      by_cases c11 : 0 ≤ x4_1
      rotate_left
      · rw [if_neg c11] at H; exact absurd H (by simp)
      rw [if_pos c11] at H
      have c11b0 : decide (0 ≤ x4_1) = true := decide_eq_true c11
      clear c11
      obtain ⟨ji12, hji12⟩ : ∃ j_ : Int, (IntKind.u64.wrap (Int.tmod x4_1 32)) = j_ := ⟨_, rfl⟩
      replace H : (if 0 ≤ (ji12) then (r1_limbs.l0 k1 l0 (x3_1.set ((ji8) : Int).toNat (Go.bits .or .u32 (rd x3_1 (ji8)) (shl .u32 ((rd l0 x4_1) % 4294967296) (ji12)))) (wrap64 (x4_1 + 1))) else (none)) = some r := by first | (rw [hji12] at H; exact H) | (simp only [hji12] at H ⊢; exact H)
      by_cases c13 : 0 ≤ (ji12)
      rotate_left
      · rw [if_neg c13] at H; exact absurd H (by simp)
      rw [if_pos c13] at H
      have c13b0 := eq_true c13
      have c13b1 : decide (0 ≤ (ji12)) = true := decide_eq_true c13
      clear c13
      obtain ⟨ji14, hji14⟩ : ∃ j_ : Int, (shl .u32 ((rd l0 x4_1) % 4294967296) (ji12)) = j_ := ⟨_, rfl⟩
      replace H : (r1_limbs.l0 k1 l0 (x3_1.set ((ji8) : Int).toNat (Go.bits .or .u32 (rd x3_1 (ji8)) (ji14))) (wrap64 (x4_1 + 1))) = some r := by first | (rw [hji14] at H; exact H) | (simp only [hji14] at H ⊢; exact H)
      have hji14_ : (IntKind.u32.wrap (((rd l0 x4_1) % 4294967296) * 2 ^ min (ji12).toNat 32)) = ji14 := hji14
      have hji14m : ((((rd l0 x4_1) % 4294967296) * 2 ^ min (ji12).toNat 32) % 4294967296) = ji14 := hji14_
      have hji14z : (ji12) ≤ 32 → (IntKind.u32.wrap (((rd l0 x4_1) % 4294967296) * 2 ^ (ji12).toNat)) = ji14 := shl_small hji14
      obtain ⟨y485, hy485⟩ : ∃ y_ : List Int, y_ = (x3_1.set ((ji8) : Int).toNat (Go.bits .or .u32 (rd x3_1 (ji8)) (ji14))) := ⟨_, rfl⟩
      replace H : (r1_limbs.l0 k1 l0 y485 (wrap64 (x4_1 + 1))) = some r := by first | (rw [hy485]; with_reducible exact H) | (have H2_ := (zOb _ _).symm.trans H; rw [hy485]; with_reducible exact H2_) | (have H2_ := (zOb _ _).symm.trans H; with_reducible exact H2_) | with_reducible exact H | (rw [hy485]; exact H) | exact H
      have Ny485 := zMk hy485
      clear hy485
      have H' := zMk H
      clear H
      try go_wp2
      have n0_ := zMk (zRd HO_3.out)
      have n1_ := zMk (zBd HB.out)
      clear HO_3
      clear HB
      have HO_3 := n0_
      have HB := n1_
      clear n0_ n1_
      obtain ⟨Ao17, co17, eo17⟩ := Kd.R_slice HO_3.out
      (first | subst eo17 | (injection eo17 with f1_ f2_ f3_; have f4_ := f1_.symm; have f5_ := f3_.symm; clear f1_ f2_ f3_; subst f4_; subst f5_))
      have p483 : 0 ≤ ((ji8) : Int) := of_decide_eq_true (by first | (with_reducible assumption) | assumption)
      have q483 : (ji8) < (x3_1.length : Int) := of_decide_eq_true (by first | (with_reducible assumption) | assumption)
      obtain ⟨ad483, e483, hx483_0⟩ := zAi (Kd.R_reads' HO_3.out).2.2 (ji8) p483 q483
      cases e483
      replace p483 := eq_true p483
      replace q483 := eq_true q483
      have p484 : 0 ≤ (x4_1 : Int) := of_decide_eq_true (by first | (with_reducible assumption) | assumption)
      have q484 : x4_1 < (l0.length : Int) := of_decide_eq_true (by first | (with_reducible assumption) | assumption)
      obtain ⟨ad484, e484, hx484_0⟩ := zAi HR0.out x4_1 p484 q484
      have hw484_0 := hx484_0
      cases e484
      replace hx484_0 := (HB.out.cell (World.block_lt_of_cell? w _ hx484_0)).trans hx484_0
      replace p484 := eq_true p484
      replace q484 := eq_true q484
      have p15 : 0 ≤ ((ji8) : Int) := of_decide_eq_true (by first | (with_reducible assumption) | assumption)
      have q15 : ((ji8) : Int) < ((x3_1.length : Int) : Int) := of_decide_eq_true (by first | (with_reducible assumption) | assumption)
      obtain ⟨go15, co15, eo15, gb15, gl15, cl15, HG15⟩ := Kd.R_form HO_3.out (by omega)
      (first | cases eo15 | (injection eo15 with ea_ en_ ec_; (first | subst ea_ | (injection ea_ with ea_; subst ea_)); subst ec_; clear en_))
      have GB15 := zMk gb15
      have GG15 := zMk HG15
      clear gb15 gl15 HG15
      (first | simp only [add_plain] at hx483_0 | skip)
      obtain ⟨hx15_0, hf15_0⟩ := Kd.R_celln 0 HO_3.out ((ji8) : Int) p15 q15
      replace p15 := eq_true p15
      replace q15 := eq_true q15
      have HP18 := Kd.R_putn HO_3.out ((ji8) : Int) (Go.bits .or .u32 (rd x3_1 (ji8)) (ji14))
      rw [← Ny485.out] at HP18
      have HQ18 := zMk HP18
      clear HP18
      refine start_ (n := 20) (S := fun w' => w'.cell? ⟨go15, ((ji8)).toNat, none⟩ = some (.int .u32 (rd x3_1 (ji8))) ∧ w'.cell? (ad484.add (x4_1).toNat) = some (.int .u8 (rd l0 x4_1))) (ds := [19]) #[false, false, false, false, false, false, false, false, false, false, false, false, false, false, false, false, false, false, false, false] (by kernel_rfl) rfl rfl ⟨hx483_0, ((HB.out.cell (World.block_lt_of_cell? w _ hw484_0)).trans hw484_0)⟩ (fun hHeld => ?_); refine with_tabW r1_limbs.tab5 r1_limbs.bits5 (fun HT_ HW_ => ?_)
      generalize wr.drew = w16 at HO_3 HB GG15 HQ18 hf15_0 hx15_0 hx483_0 hx484_0 hHeld ⊢
      refine pure_ (i := 0) (N := some 16) (v := ?_) (a' := ?_) #[true, false, false, false, false, false, false, false, false, false, false, false, false, false, false, false, false, false, false, false] rfl rfl (any_of HT_.out (by kernel_rfl)) (fun _ _ _ h => h) (Or.inl ⟨by rfl, ?_⟩) ?_ ?_
      rotate_left
      · intro w'
        go_simp
        with_reducible rfl
      rotate_left
      · simp only [Act.put, zSa, zSb, zSc, i64_w, i32_w]
        rfl
      refine pure_ (i := 1) (N := some 17) (v := ?_) (a' := ?_) #[true, true, false, false, false, false, false, false, false, false, false, false, false, false, false, false, false, false, false, false] rfl rfl (any_of HT_.out (by kernel_rfl)) (fun _ _ _ h => h) (Or.inl ⟨by rfl, ?_⟩) ?_ ?_
      rotate_left
      · intro w'
        go_simp
        with_reducible rfl
      rotate_left
      · simp only [Act.put, zSa, zSb, zSc, i64_w, i32_w]
        rfl
      refine pure_ (i := 2) (N := some 18) (v := ?_) (a' := ?_) #[true, true, true, false, false, false, false, false, false, false, false, false, false, false, false, false, false, false, false, false] rfl rfl (any_of HT_.out (by kernel_rfl)) (fun _ _ _ h => h) (Or.inl ⟨by rfl, ?_⟩) ?_ ?_
      rotate_left
      · intro w'
        go_simp
        with_reducible rfl
      rotate_left
      · simp only [Act.put, zSa, zSb, zSc, i64_w, i32_w]
        rfl
      refine pure_ (i := 3) (N := some 19) (v := ?_) (a' := ?_) #[true, true, true, true, false, false, false, false, false, false, false, false, false, false, false, false, false, false, false, false] rfl rfl (any_of HT_.out (by kernel_rfl)) (fun _ _ _ h => h) (Or.inl ⟨by rfl, ?_⟩) ?_ ?_
      rotate_left
      · intro w'
        go_simp
        with_reducible rfl
      rotate_left
      · simp only [Act.put, zSa, zSb, zSc, i64_w, i32_w]
        rfl
      refine pure_ (i := 4) (N := some 20) (v := ?_) (a' := ?_) #[true, true, true, true, true, false, false, false, false, false, false, false, false, false, false, false, false, false, false, false] rfl rfl (any_of HT_.out (by kernel_rfl)) (fun _ _ _ h => h) (Or.inl ⟨by rfl, ?_⟩) ?_ ?_
      rotate_left
      · intro w'
        go_simp
        with_reducible rfl
      rotate_left
      · simp only [Act.put, zSa, zSb, zSc, i64_w, i32_w]
        rfl
      refine pure_ (i := 5) (N := some 21) (v := ?_) (a' := ?_) #[true, true, true, true, true, true, false, false, false, false, false, false, false, false, false, false, false, false, false, false] rfl rfl (any_of HT_.out (by kernel_rfl)) (fun _ _ _ h => h) (Or.inl ⟨by rfl, ?_⟩) ?_ ?_
      rotate_left
      · intro w'
        go_simp
        with_reducible rfl
      rotate_left
      · simp only [Act.put, zSa, zSb, zSc, i64_w, i32_w]
        rfl
      refine pure_ (i := 6) (N := some 22) (v := ?_) (a' := ?_) #[true, true, true, true, true, true, true, false, false, false, false, false, false, false, false, false, false, false, false, false] rfl rfl (any_of HT_.out (by kernel_rfl)) (fun _ _ _ h => h) (Or.inl ⟨by rfl, ?_⟩) ?_ ?_
      rotate_left
      · intro w'
        go_simp
        with_reducible rfl
      rotate_left
      · simp only [Act.put, zSa, zSb, zSc, i64_w, i32_w]
        rfl
      refine pure_ (i := 8) (N := some 24) (v := ?_) (a' := ?_) #[true, true, true, true, true, true, true, false, true, false, false, false, false, false, false, false, false, false, false, false] rfl rfl (any_of HT_.out (by kernel_rfl)) (fun _ _ _ h => h) (Or.inl ⟨by rfl, ?_⟩) ?_ ?_
      rotate_left
      · intro w'
        go_simp
        with_reducible rfl
      rotate_left
      · simp only [Act.put, zSa, zSb, zSc, i64_w, i32_w]
        rfl
      refine pure_ (i := 9) (N := some 25) (v := ?_) (a' := ?_) #[true, true, true, true, true, true, true, false, true, true, false, false, false, false, false, false, false, false, false, false] rfl rfl (any_of HT_.out (by kernel_rfl)) (fun _ _ _ h => h) (Or.inl ⟨by rfl, ?_⟩) ?_ ?_
      rotate_left
      · intro w'
        go_simp
        with_reducible rfl
      rotate_left
      · simp only [Act.put, zSa, zSb, zSc, i64_w, i32_w]
        rfl
      refine pure_ (i := 10) (N := some 26) (v := ?_) (a' := ?_) #[true, true, true, true, true, true, true, false, true, true, true, false, false, false, false, false, false, false, false, false] rfl rfl (any_of HT_.out (by kernel_rfl)) (fun _ _ _ h => h) (Or.inl ⟨by rfl, ?_⟩) ?_ ?_
      rotate_left
      · intro w'
        go_simp
        with_reducible rfl
      rotate_left
      · simp only [Act.put, zSa, zSb, zSc, i64_w, i32_w]
        rfl
      refine pure_ (i := 13) (N := some 29) (v := ?_) (a' := ?_) #[true, true, true, true, true, true, true, false, true, true, true, false, false, true, false, false, false, false, false, false] rfl rfl (any_of HT_.out (by kernel_rfl)) (fun _ _ _ h => h) (Or.inl ⟨by rfl, ?_⟩) ?_ ?_
      rotate_left
      · intro w'
        go_simp
        with_reducible rfl
      rotate_left
      · simp only [Act.put, zSa, zSb, zSc, i64_w, i32_w]
        rfl
      refine pure_ (i := 14) (N := some 30) (v := ?_) (a' := ?_) #[true, true, true, true, true, true, true, false, true, true, true, false, false, true, true, false, false, false, false, false] rfl rfl (any_of HT_.out (by kernel_rfl)) (fun _ _ _ h => h) (Or.inl ⟨by rfl, ?_⟩) ?_ ?_
      rotate_left
      · intro w'
        go_simp
        with_reducible rfl
      rotate_left
      · simp only [Act.put, zSa, zSb, zSc, i64_w, i32_w]
        rfl
      refine pure_ (i := 15) (N := some 31) (v := ?_) (a' := ?_) #[true, true, true, true, true, true, true, false, true, true, true, false, false, true, true, true, false, false, false, false] rfl rfl (any_of HT_.out (by kernel_rfl)) (fun _ _ _ h => h) (Or.inl ⟨by rfl, ?_⟩) ?_ ?_
      rotate_left
      · intro w'
        go_simp
        with_reducible rfl
      rotate_left
      · simp only [Act.put, zSa, zSb, zSc, i64_w, i32_w]
        rfl
      refine take_ (i := 7) (N := some 23) (v := ?_) (a' := ?_) #[true, true, true, true, true, true, true, true, true, true, true, false, false, true, true, true, false, false, false, false] rfl rfl (take_ofW HT_.out HW_.out (by kernel_rfl)) (fun _ _ _ h => h) (Or.inl ⟨by rfl, ?_⟩) hHeld ?_ ?_
      rotate_left
      · rintro w' ⟨s0, s1⟩
        go_simp
        with_reducible rfl
      rotate_left
      · simp only [Act.put, zSa, zSb, zSc, i64_w, i32_w]
        rfl
      refine take_ (i := 11) (N := some 27) (v := ?_) (a' := ?_) #[true, true, true, true, true, true, true, true, true, true, true, true, false, true, true, true, false, false, false, false] rfl rfl (take_ofW HT_.out HW_.out (by kernel_rfl)) (fun _ _ _ h => h) (Or.inl ⟨by rfl, ?_⟩) hHeld ?_ ?_
      rotate_left
      · rintro w' ⟨s0, s1⟩
        go_simp
        with_reducible rfl
      rotate_left
      · simp only [Act.put, zSa, zSb, zSc, i64_w, i32_w]
        rfl
      refine pure_ (i := 12) (N := some 28) (v := ?_) (a' := ?_) #[true, true, true, true, true, true, true, true, true, true, true, true, true, true, true, true, false, false, false, false] rfl rfl (any_of HT_.out (by kernel_rfl)) (fun _ _ _ h => h) (Or.inl ⟨by rfl, ?_⟩) ?_ ?_
      rotate_left
      · intro w'
        go_simp
        with_reducible rfl
      rotate_left
      · simp only [Act.put, zSa, zSb, zSc, i64_w, i32_w]
        rfl
      refine pure_ (i := 16) (N := some 32) (v := ?_) (a' := ?_) #[true, true, true, true, true, true, true, true, true, true, true, true, true, true, true, true, true, false, false, false] rfl rfl (any_of HT_.out (by kernel_rfl)) (fun _ _ _ h => h) (Or.inl ⟨by rfl, ?_⟩) ?_ ?_
      rotate_left
      · intro w'
        go_simp
        with_reducible rfl
      rotate_left
      · simp only [Act.put, zSa, zSb, zSc, i64_w, i32_w]
        rfl
      refine pure_ (i := 17) (N := some 33) (v := ?_) (a' := ?_) #[true, true, true, true, true, true, true, true, true, true, true, true, true, true, true, true, true, true, false, false] rfl rfl (any_of HT_.out (by kernel_rfl)) (fun _ _ _ h => h) (Or.inl ⟨by rfl, ?_⟩) ?_ ?_
      rotate_left
      · intro w'
        go_simp
        with_reducible rfl
      rotate_left
      · simp only [Act.put, zSa, zSb, zSc, i64_w, i32_w]
        rfl
      refine pure_ (i := 18) (N := some 34) (v := ?_) (a' := ?_) #[true, true, true, true, true, true, true, true, true, true, true, true, true, true, true, true, true, true, true, false] rfl rfl (any_of HT_.out (by kernel_rfl)) (fun _ _ _ h => h) (Or.inl ⟨by rfl, ?_⟩) ?_ ?_
      rotate_left
      · intro w'
        go_simp
        with_reducible rfl
      rotate_left
      · simp only [Act.put, zSa, zSb, zSc, i64_w, i32_w]
        rfl
      refine last_ (i := 19) (N := none) #[true, true, true, true, true, true, true, true, true, true, true, true, true, true, true, true, true, true, true, true] rfl rfl (one_of HT_.out (by kernel_rfl)) (by decide) (fun K hK => ?_)
      refine skip_ (w1 := ?_) (by rfl) rfl ?_ ?_
      rotate_left
      · go_simp
        rfl
      refine hK.out _ _ ?_
      clear hK K
      refine done_ (done_of HT_.out (by kernel_rfl)) ?_
      try go_wp2
      go_roundg k1
      case measure => have := HK1.out; omega
      case rel => exact ⟨(y485), (wrap64 (x4_1 + 1)), (by first | rfl | (simp; done) | (simp [*]; done)), H', ⟨by have := HK1.out; omega⟩, ⟨by (with_reducible repeat (first | apply zRa | apply zRn | apply zRd)); (first | exact HQ18.out | (rw [hji14m]; exact HQ18.out))⟩, ⟨by repeat (first | (with_reducible first | exact HB.out | apply zBa | apply zBn | apply zBd | refine below_set ?_ GB15.out) | exact HB.out)⟩⟩
    · rw [if_neg c7] at H
      have c7b0 : decide (x4_1 < (l0.length : Int)) = false := decide_eq_false c7
      clear c7
      replace H := Option.bind_eq_some_iff.mp H
      obtain ⟨t486, A190, H⟩ := H
      have A19 := zMk A190
      clear A190
      obtain rfl := zOi H
      obtain ⟨Ao20, co20, eo20⟩ := Kd.R_slice HO_3.out
      subst eo20
      go_wp2_with (first | ((with_reducible refine gate_callee (f := 20) rfl ?_); refine goesL_ (some 36) rfl rfl Tryd.func20 (by kernel_rfl) rfl #[.slice Ao20 x3_1.length co20] rfl (by (try simp only [List.map_toArray, List.map_cons, List.map_nil]); first | done | rfl | (simp only [zLd, zLt]; rfl)) ?_; (with_reducible refine (r1_Norm.calls k1 _ _ x3_1 t486 _ ?side1 ?side2 A19.out).mono ?_); (case side1 => repeat (first | exact (Kd.R_reads' HO_3.out).2.2 | (with_reducible refine zCa ?_ _) | (with_reducible refine zCn ?_ _) | (with_reducible refine zCd ?_))); (case side2 => exact (Kd.R_reads' HO_3.out).2.1); rintro e w21 ⟨v487, rfl, ho0, hb⟩; refine ⟨_, rfl, ?_⟩; have n0_ := zMk (Kd.R_elder' (by (with_reducible repeat (first | apply zRa | apply zRn | apply zRd)); exact HO_3.out) (Kd.R_base ho0) hb); have n1_ := zMk (Kd.R_lower (Kd.R_new' ho0 (Kd.R_lt (by (with_reducible repeat (first | apply zRa | apply zRn | apply zRd)); exact HO_3.out))) (zBs (by repeat (first | (with_reducible first | exact HB.out | apply zBa | apply zBn | apply zBd) | exact HB.out)))); have n2_ := zMk (zBt (by repeat (first | (with_reducible first | exact HB.out | apply zBa | apply zBn | apply zBd) | exact HB.out)) hb); clear HO_3; clear HB; have HO_3 := n0_; have HO488 := n1_; have HB := n2_; clear n0_ n1_ n2_; (try clear hb); (try clear hb2); (try clear hk); (try clear hi); (try clear ho0)))
      go_ret
      exact ⟨_, by first | rfl | (simp [errW_none, errW_some] <;> rfl) | (simp only [← hji2]; first | rfl | (simp [errW_none, errW_some] <;> rfl)) | (simp [*, errW_none, errW_some] <;> rfl), by (with_reducible repeat (first | apply zRa | apply zRn | apply zRd)); exact zRm HO488.out (fun _ hk => trivial), by repeat (first | (with_reducible first | exact HB.out | apply zBa | apply zBn | apply zBd) | exact HB.out)⟩
  · rw [if_neg c3] at H
    exact absurd H (by simp)

/- The plain laws of the document's answer over bits: sums, limbs again, the product. -/
theorem bval_nil : bval [] = 0 := rfl
theorem bval_one (x : Int) : bval [x] = x := by simp [bval]
/- limbs of bits -/
theorem shl_u32 (b : Int) (hb : b = 0 ∨ b = 1) (i : Nat) (h : i < 32) : shl .u32 (b % 4294967296) (i : Int) = b * 2 ^ i := by
  unfold shl
  rw [show min ((i : Int)).toNat (IntKind.bits .u32) = i from by rw [zTn]; exact Nat.min_eq_left (Nat.le_of_lt h)]
  have hp : (0 : Int) < 2 ^ i := Int.pow_pos (by decide)
  have hp2 : (2 : Int) ^ i ≤ 2 ^ 31 := by
    have := Nat.pow_le_pow_right (show 0 < 2 by decide) (show i ≤ 31 by omega)
    exact_mod_cast this
  rcases hb with rfl | rfl
  · simp; rfl
  · rw [show (1 : Int) % 4294967296 = 1 from rfl, Int.one_mul, wraps_u32 _ (by omega) (by omega)]
theorem or_low (x b : Int) (i : Nat) (hi : i < 32) (hx : 0 ≤ x) (hx2 : x < 2 ^ i) (hb : b = 0 ∨ b = 1) : Go.bits .or .u32 x (b * 2 ^ i) = x + b * 2 ^ i := by
  have hp : (0 : Int) < 2 ^ i := Int.pow_pos (by decide)
  have hp2 : (2 : Int) ^ i ≤ 2 ^ 31 := by
    have := Nat.pow_le_pow_right (show 0 < 2 by decide) (show i ≤ 31 by omega)
    exact_mod_cast this
  have hc : Go.bits .or .u32 x (b * 2 ^ i) = Go.bits .or .u32 (b * 2 ^ i) x := by
    obtain ⟨p, rfl⟩ := Int.eq_ofNat_of_zero_le hx
    obtain ⟨q, hq⟩ := Int.eq_ofNat_of_zero_le (show 0 ≤ b * 2 ^ i by rcases hb with rfl | rfl <;> omega)
    have hq2 : q < 2 ^ 32 := by rcases hb with rfl | rfl <;> omega
    have hp3 : p < 2 ^ 32 := by omega
    rw [hq, (bits_nat .u32 32 (by decide) wraps_u32 p q hp3 hq2).2, (bits_nat .u32 32 (by decide) wraps_u32 q p hq2 hp3).2, Nat.or_comm]
  rw [hc, bits_join .u32 32 (by decide) wraps_u32 i (b * 2 ^ i) x (by rcases hb with rfl | rfl <;> omega) (by rw [Int.mul_emod_left]) (by rcases hb with rfl | rfl <;> omega) hx hx2 (by omega)]
  omega
theorem pow_split (m : Nat) : (2 : Int) ^ m = 4294967296 ^ (m / 32) * 2 ^ (m % 32) := by
  rw [show (4294967296 : Int) = 2 ^ 32 from rfl, ← Int.pow_mul, ← Int.pow_add]
  congr 1
  omega
theorem limb_top (O : List Int) (lO : Limbs O) (m : Nat) (h : val O < 2 ^ m) : O.getD (m / 32) 0 < 2 ^ (m % 32) := by
  by_cases hm : m / 32 < O.length
  · have h1 : val O = val (O.take (m / 32)) + 4294967296 ^ (m / 32) * val (O.drop (m / 32)) := by
      have h0 := val_append (O.take (m / 32)) (O.drop (m / 32))
      rw [List.take_append_drop, zLt, Nat.min_eq_left (by omega)] at h0
      exact h0
    have h2 := val_nonneg (lO.take (m / 32))
    have h3 : O.drop (m / 32) = O.getD (m / 32) 0 :: O.drop (m / 32 + 1) := by rw [List.drop_eq_getElem_cons hm, getD_lt _ hm]
    have h4 : 0 ≤ val (O.drop (m / 32 + 1)) := val_nonneg (fun x hx => lO x (List.mem_of_mem_drop hx))
    rw [h3, val] at h1
    rw [h1, pow_split] at h
    have hp : (0 : Int) < 4294967296 ^ (m / 32) := Int.pow_pos (by decide)
    have h5 : (4294967296 : Int) ^ (m / 32) * O.getD (m / 32) 0 < 4294967296 ^ (m / 32) * 2 ^ (m % 32) := by
      have : 0 ≤ 4294967296 ^ (m / 32) * (4294967296 * val (O.drop (m / 32 + 1))) := Int.mul_nonneg (Int.le_of_lt hp) (by omega)
      rw [Int.mul_add] at h
      omega
    exact Int.lt_of_mul_lt_mul_left h5 (Int.le_of_lt hp)
  · rw [getD_ge _ (by omega)]
    exact Int.pow_pos (by decide)
theorem add_bit (x b P : Int) (hx : 0 ≤ x) (hx2 : x < P) (hb : b = 0 ∨ b = 1) (hP : P ≤ 2 ^ 31) (hp : 0 < P) : 0 ≤ x + b * P ∧ x + b * P < 4294967296 := by
  rcases hb with rfl | rfl
  · rw [Int.zero_mul]; omega
  · rw [Int.one_mul]; omega
theorem tdiv32 (m : Nat) (h : m < 4611686018427387904) : wrap64 (Int.tdiv (m : Int) 32) = ((m / 32 : Nat) : Int) := by
  have h0 : Int.tdiv (m : Int) 32 = ((m / 32 : Nat) : Int) := rfl
  rw [h0]
  exact w64 (by omega) (by omega)
theorem tmod32 (m : Nat) : IntKind.u64.wrap (Int.tmod (m : Int) 32) = ((m % 32 : Nat) : Int) := by
  have h0 : Int.tmod (m : Int) 32 = ((m % 32 : Nat) : Int) := rfl
  rw [h0]
  have h1 : m % 32 < 32 := Nat.mod_lt _ (by decide)
  generalize m % 32 = r at h1 ⊢
  show (r : Int) % 18446744073709551616 = r
  omega
theorem limbs_l0 (b : List Int) (hb : Bits b) (N : Nat) (hN : N < 35184372088832) (hbN : b.length ≤ 32 * N) :
    ∀ (j m k : Nat) (O : List Int), m + j = b.length → O.length = N → Limbs O → val O = bval (b.take m) →
    ∃ r, r1_limbs.l0 (k + N + 1 + j + 1) b O (m : Int) = some r ∧ IsNum r (bval b) ∧ r.length ≤ N := by
  intro j
  induction j with
  | zero =>
    intro m k O hm hO lO hv
    refine ⟨cut O, ?_, ?_, by have := cut_length O; omega⟩
    · rw [r1_limbs.l0, if_neg (by omega), norm_f O (by omega) _ (by omega)]
      rfl
    · have := IsNum.cut lO
      rw [hv, List.take_of_length_le (by omega)] at this
      exact this
  | succ j ih =>
    intro m k O hm hO lO hv
    have e1 := tdiv32 m (by omega)
    have e2 := tmod32 m
    have hlt : m / 32 < O.length := by omega
    have h31 : m % 32 ≤ 31 := by omega
    have hbm := hb.getD m
    have htop := limb_top O lO m (by rw [hv]; exact (bval_take_lt hb m).2)
    have hol := lO.getD (m / 32)
    have hmod : m % 32 < 32 := Nat.mod_lt _ (by decide)
    have hp : (0 : Int) < 2 ^ (m % 32) := Int.pow_pos (by decide)
    have hp2 : (2 : Int) ^ (m % 32) ≤ 2 ^ 31 := by
      have := Nat.pow_le_pow_right (show 0 < 2 by decide) h31
      exact_mod_cast this
    have hset := add_bit (O.getD (m / 32) 0) (b.getD m 0) (2 ^ (m % 32)) hol.1 htop hbm hp2 hp
    have hsh := shl_u32 (b.getD m 0) hbm (m % 32) hmod
    have hor := or_low (O.getD (m / 32) 0) (b.getD m 0) (m % 32) hmod hol.1 htop hbm
    have hps := pow_split m
    clear htop hp hp2
    generalize (2 : Int) ^ (m % 32) = Q at hset hsh hor hps
    have hv2 : val (O.set (m / 32) (O.getD (m / 32) 0 + b.getD m 0 * Q)) = bval (b.take (m + 1)) := by
      rw [val_set O (m / 32) _ hlt, hv, bval_take_succ, hps]
      have h9 : O.getD (m / 32) 0 + b.getD m 0 * Q - O.getD (m / 32) 0 = b.getD m 0 * Q := by rw [Int.add_comm (O.getD (m / 32) 0)]; exact Int.add_sub_cancel _ _
      rw [h9, Int.mul_assoc, Int.mul_comm Q]
    clear hps
    obtain ⟨r, h1, h2, h3⟩ := ih (m + 1) k (O.set (m / 32) (O.getD (m / 32) 0 + b.getD m 0 * Q)) (by omega) (by rw [List.length_set]; exact hO) (lO.set _ hset.1 hset.2) hv2
    refine ⟨r, ?_, h2, h3⟩
    rw [show k + N + 1 + (j + 1) + 1 = (k + N + 1 + j + 1) + 1 by omega, r1_limbs.l0, if_pos (by omega), e1, e2, if_pos (by omega), if_pos (by omega), if_pos (by omega), if_pos (by omega), rd_nat, rd_nat, hsh, hor, w64 (by omega) (by omega), zTn, show ((m : Int) + 1) = ((m + 1 : Nat) : Int) by omega]
    exact h1
theorem limbs_f (b : List Int) (hb : Bits b) (hl : b.length < 140737488355328) (k : Nat) (hk : 2 * b.length + 4 ≤ k) :
    ∃ r, r1_limbs.f k b = some r ∧ IsNum r (bval b) ∧ 32 * r.length ≤ b.length + 31 := by
  obtain ⟨N, hN⟩ : ∃ N, N = (b.length + 31) / 32 := ⟨_, rfl⟩
  have e1 : wrap64 (Int.tdiv (wrap64 ((b.length : Int) + 31)) 32) = (N : Int) := by
    rw [w64 (n := (b.length : Int) + 31) (by omega) (by omega), show (b.length : Int) + 31 = ((b.length + 31 : Nat) : Int) by omega, show Int.tdiv ((b.length + 31 : Nat) : Int) 32 = (((b.length + 31) / 32 : Nat) : Int) from rfl, ← hN, w64 (by omega) (by omega)]
  obtain ⟨d, rfl⟩ : ∃ d, k = d + N + 1 + b.length + 1 := ⟨k - (N + 1 + b.length + 1), by omega⟩
  obtain ⟨r, h1, h2, h3⟩ := limbs_l0 b hb N (by omega) (by omega) b.length 0 d (List.replicate N 0) (by omega) (by simp) (limbs_replicate _) (by rw [val_replicate]; rfl)
  refine ⟨r, ?_, h2, by omega⟩
  unfold r1_limbs.f
  rw [e1, if_pos (by omega), zTn, if_pos (by omega)]
  exact h1

/-! ### r1_sum: function 44 -/
def r1_sum.l0 : Nat → List Int → List Int → List Int → Int → Int → Option (List Int)
  | 0, _, _, _, _, _ => none
  | k + 1, x0, x1, x5, x6, x7 => if x7 ≤ (mx (x0.length : Int) (x1.length : Int)) then ((r1_at.f x0 x7).bind fun t475 => ((r1_at.f x1 x7).bind fun t476 => (if x5.length < 140737488355328 then (r1_sum.l0 k x0 x1 (x5 ++ [Go.bits .and .u8 ((((t475 + t476) % 256) + x6) % 256) 1]) (((((t475 + t476) % 256) + x6) % 256) / 2) (wrap64 (x7 + 1))) else (none)))) else (some x5)
def r1_sum.f (k : Nat) (l0 : List Int) (l1 : List Int) : Option (List Int) := r1_sum.l0 k l0 l1 ([] : List Int) 0 0
set_option maxHeartbeats 8000000 in
set_option maxRecDepth 100000 in
theorem r1_sum.calls (k : Nat) (A0 : Option Addr) (c0 : Nat) (l0 : List Int) (A1 : Option Addr) (c1 : Nat) (l1 : List Int) (r : List Int) (w : World) (hr0 : Kd.C (Kd.int .u8) w A0 l0.length l0) (hc0 : l0.length ≤ c0) (hr1 : Kd.C (Kd.int .u8) w A1 l1.length l1) (hc1 : l1.length ≤ c1) (h : r1_sum.f k l0 l1 = some r) :
    Calls Tryd.prog 44 #[.slice A0 l0.length c0, .slice A1 l1.length c1] w fun e w' => ∃ v0_ : Value, e = .returned (v0_) ∧ Kd.R (Kd.int .u8) 5 w' w.heap.size (fun _ => True) v0_ r ∧ Below w.heap.size w w' := by
  have HR0 := zMk hr0
  have HC0 := zMk hc0
  clear hr0 hc0
  have HR1 := zMk hr1
  have HC1 := zMk hc1
  clear hr1 hc1
  have HB := zMk (Below.refl w.heap.size w)
  have H : (r1_sum.l0 k l0 l1 ([] : List Int) 0 0) = some r := h
  clear h
  have H' := zMk H
  clear H
  go_enter Tryd.func44, Tryd.ntmps44
  go_wp2
  go_loopg [5, 6, 7] k (fun kq v5 v6 v7 w' => ∃ (x5_1 : List Int) (x6_1 : Int) (x7_1 : Int), v6 = .int .u8 x6_1 ∧ v7 = .int .i64 x7_1 ∧ Aside0 (r1_sum.l0 kq l0 l1 x5_1 x6_1 x7_1 = some r) ∧ Aside0 (kq ≤ k) ∧ Aside0 (Kd.R (Kd.int .u8) 5 w' w.heap.size (fun _ => True) v5 x5_1) ∧ Aside0 (Below w.heap.size w w'))
  case atStart => exact ⟨(([] : List Int)), (0), (0), (by first | rfl | (simp; done) | (simp [*]; done)), (by first | rfl | (simp; done) | (simp [*]; done)), H', ⟨Nat.le_refl _⟩, ⟨by first | exact Kd.R_nil _ _ _ _ _ | exact Kd.N_nil _ _ _ _ _ | exact Kd.V_nil _ _ _ _ _ | exact Kd.Q_nil _ _ _ _ _ | exact Kd.S_nil _ _ _ _ _⟩, ⟨by repeat (first | (with_reducible first | exact HB.out | apply zBa | apply zBn | apply zBd) | exact HB.out)⟩⟩
  clear H'
  obtain ⟨x5_1, x6_1, x7_1, rfl, rfl, HA, HK1, HO_5, HB⟩ := hrel
  rcases gk with _ | k1
  · exact absurd HA.out (by simp [r1_sum.l0])
  have H := HA.out
  clear HA
  simp only [r1_sum.l0] at H
  obtain ⟨ji3, hji3⟩ : ∃ j_ : Int, (mx (l0.length : Int) (l1.length : Int)) = j_ := ⟨_, rfl⟩
  replace H : (if x7_1 ≤ (ji3) then ((r1_at.f l0 x7_1).bind fun t475 => ((r1_at.f l1 x7_1).bind fun t476 => (if x5_1.length < 140737488355328 then (r1_sum.l0 k1 l0 l1 (x5_1 ++ [Go.bits .and .u8 ((((t475 + t476) % 256) + x6_1) % 256) 1]) (((((t475 + t476) % 256) + x6_1) % 256) / 2) (wrap64 (x7_1 + 1))) else (none)))) else (some x5_1)) = some r := by first | (rw [hji3] at H; exact H) | (simp only [hji3] at H ⊢; exact H)
  have hji3_ : (if (l0.length : Int) < (l1.length : Int) then (l1.length : Int) else (l0.length : Int)) = ji3 := hji3
  have hji3_n : (if l0.length < l1.length then (l1.length : Int) else (l0.length : Int)) = ji3 := by rw [← hji3]; simp only [mx, mn, Int.ofNat_lt]
  by_cases c4 : x7_1 ≤ (ji3)
  · rw [if_pos c4] at H
    have c4b0 : decide (x7_1 ≤ (ji3)) = true := decide_eq_true c4
    clear c4
    replace H := Option.bind_eq_some_iff.mp H
    obtain ⟨t475, A50, H⟩ := H
    have A5 := zMk A50
    clear A50
    replace H := Option.bind_eq_some_iff.mp H
    obtain ⟨t476, A60, H⟩ := H
    have A6 := zMk A60
    clear A60
    by_cases c7 : x5_1.length < 140737488355328
    rotate_left
    · rw [if_neg c7] at H; exact absurd H (by simp)
    rw [if_pos c7] at H
    have LMc7 := zMk c7
    clear c7
    obtain ⟨y477, hy477⟩ : ∃ y_ : List Int, y_ = (x5_1 ++ [Go.bits .and .u8 ((((t475 + t476) % 256) + x6_1) % 256) 1]) := ⟨_, rfl⟩
    replace H : (r1_sum.l0 k1 l0 l1 y477 (((((t475 + t476) % 256) + x6_1) % 256) / 2) (wrap64 (x7_1 + 1))) = some r := by first | (rw [hy477]; with_reducible exact H) | (have H2_ := (zOb _ _).symm.trans H; rw [hy477]; with_reducible exact H2_) | (have H2_ := (zOb _ _).symm.trans H; with_reducible exact H2_) | with_reducible exact H | (rw [hy477]; exact H) | exact H
    have Ny477 := zMk hy477
    clear hy477
    have H' := zMk H
    clear H
    go_wp2_with (first | ((with_reducible refine gate_callee (f := 43) rfl ?_); refine goesL_ (some 20) rfl rfl Tryd.func43 (by kernel_rfl) rfl #[.slice A0 l0.length c0, .int .i64 x7_1] rfl (by (try simp only [List.map_toArray, List.map_cons, List.map_nil]); first | done | rfl | (simp only [zLd, zLt]; rfl)) ?_; (with_reducible refine (r1_at.calls _ _ l0 x7_1 t475 _ ?side1 ?side2 A5.out).mono ?_); (case side1 => repeat (first | exact (Kd.C_below HR0.out HB.out) | (with_reducible refine zCa ?_ _) | (with_reducible refine zCn ?_ _) | (with_reducible refine zCd ?_))); (case side2 => exact HC0.out); rintro e w' ⟨rfl, ⟨nd, rfl⟩⟩; refine ⟨_, rfl, ?_⟩) | ((with_reducible refine gate_callee (f := 43) rfl ?_); refine goesL_ (some 23) rfl rfl Tryd.func43 (by kernel_rfl) rfl #[.slice A1 l1.length c1, .int .i64 x7_1] rfl (by (try simp only [List.map_toArray, List.map_cons, List.map_nil]); first | done | rfl | (simp only [zLd, zLt]; rfl)) ?_; (with_reducible refine (r1_at.calls _ _ l1 x7_1 t476 _ ?side1 ?side2 A6.out).mono ?_); (case side1 => repeat (first | exact (Kd.C_below HR1.out (by repeat (first | (with_reducible first | exact HB.out | apply zBa | apply zBn | apply zBd) | exact HB.out))) | (with_reducible refine zCa ?_ _) | (with_reducible refine zCn ?_ _) | (with_reducible refine zCd ?_))); (case side2 => exact HC1.out); rintro e w' ⟨rfl, ⟨nd, rfl⟩⟩; refine ⟨_, rfl, ?_⟩) | ((with_reducible refine gate_builtin (b := .append) (xs := #[.tmp 27, .tmp 30]) rfl ?_); at_builtin; refine Kd.R_append (Kd.int .u8) (w0 := w) w.heap.size rfl (.tmp 27) (.tmp 30) 50 5 (.int .u8 0) 1 rfl Tryd.underlying50 info5 rfl (by decide) (by omega) u5 x5_1 (Go.bits .and .u8 ((t475 + t476 + x6_1) % 256) 1) [.int .u8 (Go.bits .and .u8 ((t475 + t476 + x6_1) % 256) 1)] (fun _ => True) (fun _ => False) rfl rfl ?aP (fun _ hk => hk.elim) ?aF ?aO ?aB ?aS ?aL ?_; (case aP => exact rfl); (case aB => exact (by repeat (first | (with_reducible first | exact HB.out | apply zBa | apply zBn | apply zBd) | exact HB.out))); (case aF => exact (fun _ _ => trivial)); (case aO => exact (by (with_reducible repeat (first | apply zRa | apply zRn | apply zRd)); exact HO_5.out)); (case aS => exact (zBs (by repeat (first | (with_reducible first | exact HB.out | apply zBa | apply zBn | apply zBd) | exact HB.out)))); (case aL => have := LMc7.out; omega); intro v478 w8 ho hb hg hat; rw [show ((t475 + t476 + x6_1) % 256) = ((((t475 + t476) % 256) + x6_1) % 256) from by omega] at ho; rw [← Ny477.out] at ho; have n0_ := zMk (hb); have n1_ := zMk (ho); clear HB; clear HO_5; have HB := n0_; have HO479 := n1_; clear n0_ n1_; clear ho hb hg hat))
    go_roundg k1
    case measure => have := HK1.out; omega
    case rel => exact ⟨(y477), (((((t475 + t476) % 256) + x6_1) % 256) / 2), (wrap64 (x7_1 + 1)), (by first | rfl | (simp; done) | (simp [*]; done)), (by first | rfl | (simp; done) | (simp [*]; done)), H', ⟨by have := HK1.out; omega⟩, ⟨by (with_reducible repeat (first | apply zRa | apply zRn | apply zRd)); exact HO479.out⟩, ⟨by repeat (first | (with_reducible first | exact HB.out | apply zBa | apply zBn | apply zBd) | exact HB.out)⟩⟩
  · rw [if_neg c4] at H
    have c4b0 : decide (x7_1 ≤ (ji3)) = false := decide_eq_false c4
    clear c4
    obtain rfl := zOi H
    go_wp2
    go_ret
    exact ⟨_, by first | rfl | (simp [errW_none, errW_some] <;> rfl) | (simp only [← hji3]; first | rfl | (simp [errW_none, errW_some] <;> rfl)) | (simp [*, errW_none, errW_some] <;> rfl), by (with_reducible repeat (first | apply zRa | apply zRn | apply zRd)); exact HO_5.out, by repeat (first | (with_reducible first | exact HB.out | apply zBa | apply zBn | apply zBd) | exact HB.out)⟩

/- The plain law of the document's sum of bits. -/
/-- The document's sum of bits: one bit more than the longer one. -/
theorem sum_l0 (x y : List Int) (hx : Bits x) (hy : Bits y) (M : Nat) (hM : M = max x.length y.length) (hM2 : M < 140737488355000) :
    ∀ (j m k : Nat) (O : List Int) (c : Int), m + j = M + 1 → O.length = m → Bits O → (c = 0 ∨ c = 1) → bval O + 2 ^ m * c = bval (x.take m) + bval (y.take m) →
    ∃ r, r1_sum.l0 (k + j + 1) x y O c (m : Int) = some r ∧ Bits r ∧ r.length = M + 1 ∧ bval r = bval x + bval y := by
  intro j
  induction j with
  | zero =>
    intro m k O c hm hO hB hc hv
    refine ⟨O, ?_, hB, by omega, ?_⟩
    · rw [r1_sum.l0, mx_nat, if_neg (by omega)]
    · rw [List.take_of_length_le (by omega), List.take_of_length_le (by omega)] at hv
      have h1 := bval_bounds hx
      have h2 := bval_bounds hy
      have hpow : ∀ {a b : Nat}, a ≤ b → (2 : Int) ^ a ≤ 2 ^ b := fun h => by
        have := Nat.pow_le_pow_right (show 0 < 2 by decide) h
        exact_mod_cast this
      have h3 := hpow (show x.length ≤ M by omega)
      have h4 := hpow (show y.length ≤ M by omega)
      have h5 : (2 : Int) ^ m = 2 ^ M * 2 := by rw [show m = M + 1 by omega, Int.pow_succ]
      have h6 := bval_bounds hB
      rcases hc with rfl | rfl
      · omega
      · omega
  | succ j ih =>
    intro m k O c hm hO hB hc hv
    have hxm := hx.getD m
    have hym := hy.getD m
    obtain ⟨s, hs⟩ : ∃ s, s = x.getD m 0 + y.getD m 0 + c := ⟨_, rfl⟩
    have hs0 : 0 ≤ s ∧ s ≤ 3 := by omega
    obtain ⟨r, h1, h2, h3, h4⟩ := ih (m + 1) k (O ++ [s % 2]) (s / 2) (by omega) (by simp [hO]) (hB.append (Bits.one (by omega))) (by omega) (by
      rw [bval_append, bval_one, bval_take_succ, bval_take_succ, hO, Int.pow_succ]
      have := Int.emod_add_mul_ediv s 2
      grind)
    refine ⟨r, ?_, h2, h3, h4⟩
    rw [show k + (j + 1) + 1 = (k + j + 1) + 1 by omega, r1_sum.l0, mx_nat, if_pos (by omega), at_f, zOb, at_f, zOb, if_pos (by omega), w64 (by omega) (by omega)]
    rw [show ((x.getD m 0 + y.getD m 0) % 256 + c) % 256 = s by omega, u8_and1 s (by omega) (by omega), show ((m : Int) + 1) = ((m + 1 : Nat) : Int) by omega]
    exact h1
theorem sum_f (x y : List Int) (hx : Bits x) (hy : Bits y) (hM : max x.length y.length < 140737488355000) (k : Nat) (hk : max x.length y.length + 2 ≤ k) :
    ∃ r, r1_sum.f k x y = some r ∧ Bits r ∧ r.length = max x.length y.length + 1 ∧ bval r = bval x + bval y := by
  obtain ⟨d, rfl⟩ : ∃ d, k = d + (max x.length y.length + 1) + 1 := ⟨k - (max x.length y.length + 2), by omega⟩
  obtain ⟨r, h1, h2, h3, h4⟩ := sum_l0 x y hx hy _ rfl hM (max x.length y.length + 1) 0 d [] 0 (by omega) rfl Bits.nil (.inl rfl) (by simp [bval])
  exact ⟨r, h1, h2, h3, h4⟩

/-! ### r1_Mul: function 24 -/
def r1_Mul.l0 : Nat → List Int → List Int → List Int → List Int → Int → Option (List Int)
  | 0, _, _, _, _, _ => none
  | k + 1, x5, x6, x7, x8, x9 => if x9 < (x6.length : Int) then (if 0 ≤ x9 then (if (rd x6 x9) = 1 then ((some (([] : List Int) : List Int)).bind fun y502 => (if y502.length + x8.length < 140737488355328 then ((some (y502 ++ x8 : List Int)).bind fun y505 => (if y505.length + x5.length < 140737488355328 then ((r1_sum.f k x7 (y505 ++ x5)).bind fun t511 => (if x8.length < 140737488355328 then (r1_Mul.l0 k x5 x6 t511 (x8 ++ [0]) (wrap64 (x9 + 1))) else (none))) else (none))) else (none))) else (if x8.length < 140737488355328 then (r1_Mul.l0 k x5 x6 x7 (x8 ++ [0]) (wrap64 (x9 + 1))) else (none))) else (none)) else ((r1_limbs.f k x7).bind fun t520 => (some t520))
def r1_Mul.f (k : Nat) (l0 : List Int) (l1 : List Int) : Option (List Int) := (r1_Norm.f k l0).bind fun t489 => ((r1_bits.f k t489).bind fun t492 => ((r1_Norm.f k l1).bind fun t495 => ((r1_bits.f k t495).bind fun t498 => (r1_Mul.l0 k t492 t498 ([] : List Int) ([] : List Int) 0))))
set_option maxHeartbeats 8000000 in
set_option maxRecDepth 100000 in
theorem r1_Mul.calls (k : Nat) (A0 : Option Addr) (c0 : Nat) (l0 : List Int) (A1 : Option Addr) (c1 : Nat) (l1 : List Int) (r : List Int) (w : World) (hr0 : Kd.C (Kd.int .u32) w A0 l0.length l0) (hc0 : l0.length ≤ c0) (hr1 : Kd.C (Kd.int .u32) w A1 l1.length l1) (hc1 : l1.length ≤ c1) (h : r1_Mul.f k l0 l1 = some r) :
    Calls Tryd.prog 24 #[.slice A0 l0.length c0, .slice A1 l1.length c1] w fun e w' => ∃ v0_ : Value, e = .returned (v0_) ∧ Kd.R (Kd.int .u32) 36 w' w.heap.size (fun _ => True) v0_ r ∧ Below w.heap.size w w' := by
  have HR0 := zMk hr0
  have HC0 := zMk hc0
  clear hr0 hc0
  have HR1 := zMk hr1
  have HC1 := zMk hc1
  clear hr1 hc1
  have HB := zMk (Below.refl w.heap.size w)
  have H : ((r1_Norm.f k l0).bind fun t489 => ((r1_bits.f k t489).bind fun t492 => ((r1_Norm.f k l1).bind fun t495 => ((r1_bits.f k t495).bind fun t498 => (r1_Mul.l0 k t492 t498 ([] : List Int) ([] : List Int) 0))))) = some r := h
  clear h
  replace H := Option.bind_eq_some_iff.mp H
  obtain ⟨t489, A30, H⟩ := H
  have A3 := zMk A30
  clear A30
  replace H := Option.bind_eq_some_iff.mp H
  obtain ⟨t492, A40, H⟩ := H
  have A4 := zMk A40
  clear A40
  replace H := Option.bind_eq_some_iff.mp H
  obtain ⟨t495, A50, H⟩ := H
  have A5 := zMk A50
  clear A50
  replace H := Option.bind_eq_some_iff.mp H
  obtain ⟨t498, A60, H⟩ := H
  have A6 := zMk A60
  clear A60
  have H' := zMk H
  clear H
  go_enter Tryd.func24, Tryd.ntmps24
  go_wp2_with (first | ((with_reducible refine gate_callee (f := 20) rfl ?_); refine goesL_ (some 11) rfl rfl Tryd.func20 (by kernel_rfl) rfl #[.slice A0 l0.length c0] rfl (by (try simp only [List.map_toArray, List.map_cons, List.map_nil]); first | done | rfl | (simp only [zLd, zLt]; rfl)) ?_; (with_reducible refine (r1_Norm.calls k _ _ l0 t489 _ ?side1 ?side2 A3.out).mono ?_); (case side1 => repeat (first | exact HR0.out | (with_reducible refine zCa ?_ _) | (with_reducible refine zCn ?_ _) | (with_reducible refine zCd ?_))); (case side2 => exact HC0.out); rintro e w7 ⟨v490, rfl, ho0, hb⟩; refine ⟨_, rfl, ?_⟩; have n0_ := zMk (Kd.R_lower ho0 (zBs (by repeat (first | (with_reducible first | exact HB.out | apply zBa | apply zBn | apply zBd) | exact HB.out)))); have n1_ := zMk (zBt (by repeat (first | (with_reducible first | exact HB.out | apply zBa | apply zBn | apply zBd) | exact HB.out)) hb); clear HB; have HO491 := n0_; have HB := n1_; clear n0_ n1_; (try clear hb); (try clear hb2); (try clear hk); (try clear hi); (try clear ho0); obtain ⟨Ao8, co8, eo8⟩ := Kd.R_slice HO491.out; subst eo8) | ((with_reducible refine gate_callee (f := 42) rfl ?_); refine goesL_ (some 12) rfl rfl Tryd.func42 (by kernel_rfl) rfl #[.slice Ao8 t489.length co8] rfl (by (try simp only [List.map_toArray, List.map_cons, List.map_nil]); first | done | rfl | (simp only [zLd, zLt]; rfl)) ?_; (with_reducible refine (r1_bits.calls k _ _ t489 t492 _ ?side1 ?side2 A4.out).mono ?_); (case side1 => repeat (first | exact (Kd.R_reads' HO491.out).2.2 | (with_reducible refine zCa ?_ _) | (with_reducible refine zCn ?_ _) | (with_reducible refine zCd ?_))); (case side2 => exact (Kd.R_reads' HO491.out).2.1); rintro e w9 ⟨v493, rfl, ho0, hb⟩; refine ⟨_, rfl, ?_⟩; have n0_ := zMk (Kd.R_below (by (with_reducible repeat (first | apply zRa | apply zRn | apply zRd)); exact HO491.out) hb); have n1_ := zMk (Kd.R_lower ho0 (zBs (by repeat (first | (with_reducible first | exact HB.out | apply zBa | apply zBn | apply zBd) | exact HB.out)))); have n2_ := zMk (zBt (by repeat (first | (with_reducible first | exact HB.out | apply zBa | apply zBn | apply zBd) | exact HB.out)) hb); clear HO491; clear HB; have HO491 := n0_; have HO494 := n1_; have HB := n2_; clear n0_ n1_ n2_; (try clear hb); (try clear hb2); (try clear hk); (try clear hi); (try clear ho0)) | ((with_reducible refine gate_callee (f := 20) rfl ?_); refine goesL_ (some 14) rfl rfl Tryd.func20 (by kernel_rfl) rfl #[.slice A1 l1.length c1] rfl (by (try simp only [List.map_toArray, List.map_cons, List.map_nil]); first | done | rfl | (simp only [zLd, zLt]; rfl)) ?_; (with_reducible refine (r1_Norm.calls k _ _ l1 t495 _ ?side1 ?side2 A5.out).mono ?_); (case side1 => repeat (first | exact (Kd.C_below HR1.out HB.out) | (with_reducible refine zCa ?_ _) | (with_reducible refine zCn ?_ _) | (with_reducible refine zCd ?_))); (case side2 => exact HC1.out); rintro e w10 ⟨v496, rfl, ho0, hb⟩; refine ⟨_, rfl, ?_⟩; have n0_ := zMk (Kd.R_elder' (by (with_reducible repeat (first | apply zRa | apply zRn | apply zRd)); exact HO491.out) (Kd.R_base ho0) hb); have n1_ := zMk (Kd.R_below (by (with_reducible repeat (first | apply zRa | apply zRn | apply zRd)); exact HO494.out) hb); have n2_ := zMk (Kd.R_lower (Kd.R_new' ho0 (Kd.R_lt (by (with_reducible repeat (first | apply zRa | apply zRn | apply zRd)); exact HO491.out))) (zBs (by repeat (first | (with_reducible first | exact HB.out | apply zBa | apply zBn | apply zBd) | exact HB.out)))); have n3_ := zMk (zBt (by repeat (first | (with_reducible first | exact HB.out | apply zBa | apply zBn | apply zBd) | exact HB.out)) hb); clear HO491; clear HO494; clear HB; have HO491 := n0_; have HO494 := n1_; have HO497 := n2_; have HB := n3_; clear n0_ n1_ n2_ n3_; (try clear hb); (try clear hb2); (try clear hk); (try clear hi); (try clear ho0); obtain ⟨Ao11, co11, eo11⟩ := Kd.R_slice HO497.out; subst eo11) | ((with_reducible refine gate_callee (f := 42) rfl ?_); refine goesL_ (some 15) rfl rfl Tryd.func42 (by kernel_rfl) rfl #[.slice Ao11 t495.length co11] rfl (by (try simp only [List.map_toArray, List.map_cons, List.map_nil]); first | done | rfl | (simp only [zLd, zLt]; rfl)) ?_; (with_reducible refine (r1_bits.calls k _ _ t495 t498 _ ?side1 ?side2 A6.out).mono ?_); (case side1 => repeat (first | exact (Kd.R_reads' HO497.out).2.2 | (with_reducible refine zCa ?_ _) | (with_reducible refine zCn ?_ _) | (with_reducible refine zCd ?_))); (case side2 => exact (Kd.R_reads' HO497.out).2.1); rintro e w12 ⟨v499, rfl, ho0, hb⟩; refine ⟨_, rfl, ?_⟩; have n0_ := zMk (Kd.R_below (by (with_reducible repeat (first | apply zRa | apply zRn | apply zRd)); exact HO491.out) hb); have n1_ := zMk (Kd.R_elder' (by (with_reducible repeat (first | apply zRa | apply zRn | apply zRd)); exact HO494.out) (Kd.R_base ho0) hb); have n2_ := zMk (Kd.R_below (by (with_reducible repeat (first | apply zRa | apply zRn | apply zRd)); exact HO497.out) hb); have n3_ := zMk (Kd.R_lower (Kd.R_new' ho0 (Kd.R_lt (by (with_reducible repeat (first | apply zRa | apply zRn | apply zRd)); exact HO494.out))) (zBs (by repeat (first | (with_reducible first | exact HB.out | apply zBa | apply zBn | apply zBd) | exact HB.out)))); have n4_ := zMk (zBt (by repeat (first | (with_reducible first | exact HB.out | apply zBa | apply zBn | apply zBd) | exact HB.out)) hb); clear HO491; clear HO494; clear HO497; clear HB; have HO491 := n0_; have HO494 := n1_; have HO497 := n2_; have HO500 := n3_; have HB := n4_; clear n0_ n1_ n2_ n3_ n4_; (try clear hb); (try clear hb2); (try clear hk); (try clear hi); (try clear ho0)))
  go_loopg [7, 8, 9] k (fun kq v7 v8 v9 w' => ∃ (x7_1 : List Int) (x8_1 : List Int) (x9_1 : Int), v9 = .int .i64 x9_1 ∧ Aside0 (r1_Mul.l0 kq t492 t498 x7_1 x8_1 x9_1 = some r) ∧ Aside0 (kq ≤ k) ∧ Aside0 (Kd.R (Kd.int .u8) 5 w' w.heap.size (fun k_ => some k_ ≠ (v499 : Value).ownBlock ∧ some k_ ≠ (v7 : Value).ownBlock ∧ some k_ ≠ (v8 : Value).ownBlock) v493 t492) ∧ Aside0 (Kd.R (Kd.int .u8) 5 w' w.heap.size (fun k_ => some k_ ≠ (v493 : Value).ownBlock ∧ some k_ ≠ (v7 : Value).ownBlock ∧ some k_ ≠ (v8 : Value).ownBlock) v499 t498) ∧ Aside0 (Kd.R (Kd.int .u8) 5 w' w.heap.size (fun k_ => some k_ ≠ (v493 : Value).ownBlock ∧ some k_ ≠ (v499 : Value).ownBlock ∧ some k_ ≠ (v8 : Value).ownBlock) v7 x7_1) ∧ Aside0 (Kd.R (Kd.int .u8) 5 w' w.heap.size (fun k_ => some k_ ≠ (v493 : Value).ownBlock ∧ some k_ ≠ (v499 : Value).ownBlock ∧ some k_ ≠ (v7 : Value).ownBlock) v8 x8_1) ∧ Aside0 (Below w.heap.size w w'))
  case atStart => exact ⟨(([] : List Int)), (([] : List Int)), (0), (by first | rfl | (simp; done) | (simp [*]; done)), H', ⟨Nat.le_refl _⟩, ⟨by (with_reducible repeat (first | apply zRa | apply zRn | apply zRd)); exact zRm HO494.out (fun _ hk => ⟨hk.2, ⟨(by simp [Value.ownBlock]), (by simp [Value.ownBlock])⟩⟩)⟩, ⟨by (with_reducible repeat (first | apply zRa | apply zRn | apply zRd)); exact zRm HO500.out (fun _ hk => ⟨hk.2, ⟨(by simp [Value.ownBlock]), (by simp [Value.ownBlock])⟩⟩)⟩, ⟨by first | exact Kd.R_nil _ _ _ _ _ | exact Kd.N_nil _ _ _ _ _ | exact Kd.V_nil _ _ _ _ _ | exact Kd.Q_nil _ _ _ _ _ | exact Kd.S_nil _ _ _ _ _⟩, ⟨by first | exact Kd.R_nil _ _ _ _ _ | exact Kd.N_nil _ _ _ _ _ | exact Kd.V_nil _ _ _ _ _ | exact Kd.Q_nil _ _ _ _ _ | exact Kd.S_nil _ _ _ _ _⟩, ⟨by repeat (first | (with_reducible first | exact HB.out | apply zBa | apply zBn | apply zBd) | exact HB.out)⟩⟩
  clear H'
  obtain ⟨x7_1, x8_1, x9_1, rfl, HA, HK1, HO_5, HO_6, HO_7, HO_8, HB⟩ := hrel
  rcases gk with _ | k1
  · exact absurd HA.out (by simp [r1_Mul.l0])
  have H := HA.out
  clear HA
  simp only [r1_Mul.l0] at H
  by_cases c13 : x9_1 < (t498.length : Int)
  · rw [if_pos c13] at H
    have c13b0 : decide (x9_1 < (t498.length : Int)) = true := decide_eq_true c13
    clear c13
    by_cases c14 : 0 ≤ x9_1
    rotate_left
    · rw [if_neg c14] at H; exact absurd H (by simp)
    rw [if_pos c14] at H
    have c14b0 : decide (0 ≤ x9_1) = true := decide_eq_true c14
    clear c14
    by_cases c15 : (rd t498 x9_1) = 1
    · rw [if_pos c15] at H
      have c15b0 : ((rd t498 x9_1) == 1) = true := beq_iff_eq.mpr c15
      have c15b1 : ((rd t498 x9_1) != 1) = false := bne_eq_false_iff_eq.mpr c15
      clear c15
      obtain ⟨y502, hy502⟩ : ∃ y_ : List Int, y_ = (([] : List Int)) := ⟨_, rfl⟩
      replace H : (if y502.length + x8_1.length < 140737488355328 then ((some (y502 ++ x8_1 : List Int)).bind fun y505 => (if y505.length + t492.length < 140737488355328 then ((r1_sum.f k1 x7_1 (y505 ++ t492)).bind fun t511 => (if x8_1.length < 140737488355328 then (r1_Mul.l0 k1 t492 t498 t511 (x8_1 ++ [0]) (wrap64 (x9_1 + 1))) else (none))) else (none))) else (none)) = some r := by first | (rw [hy502]; with_reducible exact H) | (have H2_ := (zOb _ _).symm.trans H; rw [hy502]; with_reducible exact H2_) | (have H2_ := (zOb _ _).symm.trans H; with_reducible exact H2_) | with_reducible exact H | (rw [hy502]; exact H) | exact H
      have Ny502 := zMk hy502
      clear hy502
      by_cases c16 : y502.length + x8_1.length < 140737488355328
      rotate_left
      · rw [if_neg c16] at H; exact absurd H (by simp)
      rw [if_pos c16] at H
      have LMc16 := zMk c16
      clear c16
      obtain ⟨y505, hy505⟩ : ∃ y_ : List Int, y_ = (y502 ++ x8_1) := ⟨_, rfl⟩
      replace H : (if y505.length + t492.length < 140737488355328 then ((r1_sum.f k1 x7_1 (y505 ++ t492)).bind fun t511 => (if x8_1.length < 140737488355328 then (r1_Mul.l0 k1 t492 t498 t511 (x8_1 ++ [0]) (wrap64 (x9_1 + 1))) else (none))) else (none)) = some r := by first | (rw [hy505]; with_reducible exact H) | (have H2_ := (zOb _ _).symm.trans H; rw [hy505]; with_reducible exact H2_) | (have H2_ := (zOb _ _).symm.trans H; with_reducible exact H2_) | with_reducible exact H | (rw [hy505]; exact H) | exact H
      have Ny505 := zMk hy505
      clear hy505
      by_cases c17 : y505.length + t492.length < 140737488355328
      rotate_left
      · rw [if_neg c17] at H; exact absurd H (by simp)
      rw [if_pos c17] at H
      have LMc17 := zMk c17
      clear c17
      obtain ⟨y508, hy508⟩ : ∃ y_ : List Int, y_ = (y505 ++ t492) := ⟨_, rfl⟩
      replace H : ((r1_sum.f k1 x7_1 y508).bind fun t511 => (if x8_1.length < 140737488355328 then (r1_Mul.l0 k1 t492 t498 t511 (x8_1 ++ [0]) (wrap64 (x9_1 + 1))) else (none))) = some r := by first | (rw [hy508]; with_reducible exact H) | (have H2_ := (zOb _ _).symm.trans H; rw [hy508]; with_reducible exact H2_) | (have H2_ := (zOb _ _).symm.trans H; with_reducible exact H2_) | with_reducible exact H | (rw [hy508]; exact H) | exact H
      have Ny508 := zMk hy508
      clear hy508
      replace H := Option.bind_eq_some_iff.mp H
      obtain ⟨t511, A180, H⟩ := H
      have A18 := zMk A180
      clear A180
      by_cases c19 : x8_1.length < 140737488355328
      rotate_left
      · rw [if_neg c19] at H; exact absurd H (by simp)
      rw [if_pos c19] at H
      have LMc19 := zMk c19
      clear c19
      obtain ⟨y514, hy514⟩ : ∃ y_ : List Int, y_ = (x8_1 ++ [0]) := ⟨_, rfl⟩
      replace H : (r1_Mul.l0 k1 t492 t498 t511 y514 (wrap64 (x9_1 + 1))) = some r := by first | (rw [hy514]; with_reducible exact H) | (have H2_ := (zOb _ _).symm.trans H; rw [hy514]; with_reducible exact H2_) | (have H2_ := (zOb _ _).symm.trans H; with_reducible exact H2_) | with_reducible exact H | (rw [hy514]; exact H) | exact H
      have Ny514 := zMk hy514
      clear hy514
      have H' := zMk H
      clear H
      obtain ⟨Ao20, co20, eo20⟩ := Kd.R_slice HO_6.out
      subst eo20
      have p501 : 0 ≤ (x9_1 : Int) := of_decide_eq_true (by first | (with_reducible assumption) | assumption)
      have q501 : x9_1 < (t498.length : Int) := of_decide_eq_true (by first | (with_reducible assumption) | assumption)
      obtain ⟨ad501, e501, hx501_0⟩ := zAi (Kd.R_reads' HO_6.out).2.2 x9_1 p501 q501
      cases e501
      replace p501 := eq_true p501
      replace q501 := eq_true q501
      go_wp2_with (first | ((with_reducible refine gate_dst (N := 28) rfl ?_); refine Kd.R_lit (Kd.int .u8) _ 5 ?hg (N := 28) ?hd (xs := ([] : List Int)) (inner := []) (ok := fun _ => True) (okp := fun _ => True) ?hr ?hp (fun _ hk => hk) trivial (Below.refl _ _) (Nat.le_refl _) (by simp) ?_; (case hd => rfl); (case hg => rfl); (case hr => first | (go_simp; done) | (go_simp; rfl) | (go_simp; rw [show ∀ x : Int, IntKind.u32.wrap (IntKind.u8.wrap x) = x % 256 from fun x => (by show (x % 256) % 4294967296 = x % 256; omega)])); (case hp => exact (Reps.none _ _)); intro v503 w21 ho22 hb hg_ hnew_; clear hg_ hnew_; (first | rw [← Ny502.out] at ho22 | (simp only [Int.reduceToNat] at ho22; rw [← Ny502.out] at ho22)); have n0_ := zMk (Kd.R_elder' (by (with_reducible repeat (first | apply zRa | apply zRn | apply zRd)); exact HO_5.out) (Kd.R_base ho22) hb); have n1_ := zMk (Kd.R_elder' (by (with_reducible repeat (first | apply zRa | apply zRn | apply zRd)); exact HO_6.out) (Kd.R_base ho22) hb); have n2_ := zMk (Kd.R_elder' (by (with_reducible repeat (first | apply zRa | apply zRn | apply zRd)); exact HO_7.out) (Kd.R_base ho22) hb); have n3_ := zMk (Kd.R_elder' (by (with_reducible repeat (first | apply zRa | apply zRn | apply zRd)); exact HO_8.out) (Kd.R_base ho22) hb); have n4_ := zMk (Kd.R_lower (Kd.R_new' (Kd.R_new' (Kd.R_new' (Kd.R_new' ho22 (Kd.R_lt (by (with_reducible repeat (first | apply zRa | apply zRn | apply zRd)); exact HO_5.out))) (Kd.R_lt (by (with_reducible repeat (first | apply zRa | apply zRn | apply zRd)); exact HO_6.out))) (Kd.R_lt (by (with_reducible repeat (first | apply zRa | apply zRn | apply zRd)); exact HO_7.out))) (Kd.R_lt (by (with_reducible repeat (first | apply zRa | apply zRn | apply zRd)); exact HO_8.out))) (zBs (by repeat (first | (with_reducible first | exact HB.out | apply zBa | apply zBn | apply zBd) | exact HB.out)))); have n5_ := zMk (zBt (by repeat (first | (with_reducible first | exact HB.out | apply zBa | apply zBn | apply zBd) | exact HB.out)) hb); clear HO_5; clear HO_6; clear HO_7; clear HO_8; clear HB; have HO_5 := n0_; have HO_6 := n1_; have HO_7 := n2_; have HO_8 := n3_; have HO504 := n4_; have HB := n5_; clear n0_ n1_ n2_ n3_ n4_ n5_; clear hb ho22; obtain ⟨Ao24, co24, eo24⟩ := Kd.R_slice HO_8.out; subst eo24) | ((with_reducible refine gate_builtin (b := .append) (xs := #[.tmp 28, .tmp 29]) rfl ?_); at_builtin; refine Kd.R_append_rows (Kd.int .u8) (w0 := w) w.heap.size rfl (.tmp 28) (.tmp 29) 50 5 (.int .u8 0) 1 rfl Tryd.underlying50 info5 rfl (by decide) (by omega) v503 y502 x8_1 _ _ _ (fun k_ => some k_ ≠ (v493 : Value).ownBlock ∧ some k_ ≠ (.slice (some ad501) t498.length co20 : Value).ownBlock ∧ some k_ ≠ (u7 : Value).ownBlock ∧ some k_ ≠ (.slice Ao24 x8_1.length co24 : Value).ownBlock) (fun _ => False) rfl rfl ?aO ?aR (fun _ _ h => h) (fun _ h => h.elim) ?aF ?aB ?aS ?aL ?_; (case aR => repeat (first | exact (Kd.R_reads' HO_8.out).2.2 | (with_reducible refine zCa ?_ _) | (with_reducible refine zCn ?_ _) | (with_reducible refine zCd ?_))); (case aB => exact (by repeat (first | (with_reducible first | exact HB.out | apply zBa | apply zBn | apply zBd) | exact HB.out))); (case aF => exact (fun k_ hk => ⟨Kd.fresh' (Kd.R_lt (by (with_reducible repeat (first | apply zRa | apply zRn | apply zRd)); exact HO_5.out)) k_ hk, Kd.fresh' (Kd.R_lt (by (with_reducible repeat (first | apply zRa | apply zRn | apply zRd)); exact HO_6.out)) k_ hk, Kd.fresh' (Kd.R_lt (by (with_reducible repeat (first | apply zRa | apply zRn | apply zRd)); exact HO_7.out)) k_ hk, Kd.fresh' (Kd.R_lt (by (with_reducible repeat (first | apply zRa | apply zRn | apply zRd)); exact HO_8.out)) k_ hk⟩)); (case aO => exact (by (with_reducible repeat (first | apply zRa | apply zRn | apply zRd)); exact zRm HO504.out (fun _ hk => ⟨hk.1.1.1.2, ⟨hk.1.1.2, ⟨hk.1.2, hk.2⟩⟩⟩))); (case aS => exact (zBs (by repeat (first | (with_reducible first | exact HB.out | apply zBa | apply zBn | apply zBd) | exact HB.out)))); (case aL => have := LMc16.out; omega); intro v506 w23 ho hb hg hat; rw [← Ny505.out] at ho; have n0_ := zMk (Kd.R_after (ok := (fun k_ => some k_ ≠ (.slice (some ad501) t498.length co20 : Value).ownBlock ∧ some k_ ≠ (u7 : Value).ownBlock ∧ some k_ ≠ (.slice Ao24 x8_1.length co24 : Value).ownBlock)) (by (with_reducible repeat (first | apply zRa | apply zRn | apply zRd)); exact HO_5.out) hg hat); have n1_ := zMk (Kd.R_after (ok := (fun k_ => some k_ ≠ (v493 : Value).ownBlock ∧ some k_ ≠ (u7 : Value).ownBlock ∧ some k_ ≠ (.slice Ao24 x8_1.length co24 : Value).ownBlock)) (by (with_reducible repeat (first | apply zRa | apply zRn | apply zRd)); exact HO_6.out) hg hat); have n2_ := zMk (Kd.R_after (ok := (fun k_ => some k_ ≠ (v493 : Value).ownBlock ∧ some k_ ≠ (.slice (some ad501) t498.length co20 : Value).ownBlock ∧ some k_ ≠ (.slice Ao24 x8_1.length co24 : Value).ownBlock)) (by (with_reducible repeat (first | apply zRa | apply zRn | apply zRd)); exact HO_7.out) hg hat); have n3_ := zMk (Kd.R_after (ok := (fun k_ => some k_ ≠ (v493 : Value).ownBlock ∧ some k_ ≠ (.slice (some ad501) t498.length co20 : Value).ownBlock ∧ some k_ ≠ (u7 : Value).ownBlock)) (by (with_reducible repeat (first | apply zRa | apply zRn | apply zRd)); exact HO_8.out) hg hat); have n4_ := zMk (hb); have n5_ := zMk (ho); clear HO_5; clear HO_6; clear HO_7; clear HO_8; clear HB; clear HO504; have HO_5 := n0_; have HO_6 := n1_; have HO_7 := n2_; have HO_8 := n3_; have HB := n4_; have HO507 := n5_; clear n0_ n1_ n2_ n3_ n4_ n5_; clear ho hb hg hat; obtain ⟨Ao26, co26, eo26⟩ := Kd.R_slice HO_5.out; subst eo26) | ((with_reducible refine gate_builtin (b := .append) (xs := #[.tmp 30, .tmp 31]) rfl ?_); at_builtin; refine Kd.R_append_rows (Kd.int .u8) (w0 := w) w.heap.size rfl (.tmp 30) (.tmp 31) 50 5 (.int .u8 0) 1 rfl Tryd.underlying50 info5 rfl (by decide) (by omega) v506 y505 t492 _ _ _ (fun k_ => some k_ ≠ (.slice Ao26 t492.length co26 : Value).ownBlock ∧ some k_ ≠ (.slice (some ad501) t498.length co20 : Value).ownBlock ∧ some k_ ≠ (u7 : Value).ownBlock ∧ some k_ ≠ (.slice Ao24 x8_1.length co24 : Value).ownBlock) (fun _ => False) rfl rfl ?aO ?aR (fun _ _ h => h) (fun _ h => h.elim) ?aF ?aB ?aS ?aL ?_; (case aR => repeat (first | exact (Kd.R_reads' HO_5.out).2.2 | (with_reducible refine zCa ?_ _) | (with_reducible refine zCn ?_ _) | (with_reducible refine zCd ?_))); (case aB => exact (by repeat (first | (with_reducible first | exact HB.out | apply zBa | apply zBn | apply zBd) | exact HB.out))); (case aF => exact (fun k_ hk => ⟨Kd.fresh' (Kd.R_lt (by (with_reducible repeat (first | apply zRa | apply zRn | apply zRd)); exact HO_5.out)) k_ hk, Kd.fresh' (Kd.R_lt (by (with_reducible repeat (first | apply zRa | apply zRn | apply zRd)); exact HO_6.out)) k_ hk, Kd.fresh' (Kd.R_lt (by (with_reducible repeat (first | apply zRa | apply zRn | apply zRd)); exact HO_7.out)) k_ hk, Kd.fresh' (Kd.R_lt (by (with_reducible repeat (first | apply zRa | apply zRn | apply zRd)); exact HO_8.out)) k_ hk⟩)); (case aO => exact (by (with_reducible repeat (first | apply zRa | apply zRn | apply zRd)); exact HO507.out)); (case aS => exact (zBs (by repeat (first | (with_reducible first | exact HB.out | apply zBa | apply zBn | apply zBd) | exact HB.out)))); (case aL => have := LMc17.out; omega); intro v509 w25 ho hb hg hat; rw [← Ny508.out] at ho; have n0_ := zMk (Kd.R_after (ok := (fun k_ => some k_ ≠ (.slice (some ad501) t498.length co20 : Value).ownBlock ∧ some k_ ≠ (u7 : Value).ownBlock ∧ some k_ ≠ (.slice Ao24 x8_1.length co24 : Value).ownBlock)) (by (with_reducible repeat (first | apply zRa | apply zRn | apply zRd)); exact HO_5.out) hg hat); have n1_ := zMk (Kd.R_after (ok := (fun k_ => some k_ ≠ (.slice Ao26 t492.length co26 : Value).ownBlock ∧ some k_ ≠ (u7 : Value).ownBlock ∧ some k_ ≠ (.slice Ao24 x8_1.length co24 : Value).ownBlock)) (by (with_reducible repeat (first | apply zRa | apply zRn | apply zRd)); exact HO_6.out) hg hat); have n2_ := zMk (Kd.R_after (ok := (fun k_ => some k_ ≠ (.slice Ao26 t492.length co26 : Value).ownBlock ∧ some k_ ≠ (.slice (some ad501) t498.length co20 : Value).ownBlock ∧ some k_ ≠ (.slice Ao24 x8_1.length co24 : Value).ownBlock)) (by (with_reducible repeat (first | apply zRa | apply zRn | apply zRd)); exact HO_7.out) hg hat); have n3_ := zMk (Kd.R_after (ok := (fun k_ => some k_ ≠ (.slice Ao26 t492.length co26 : Value).ownBlock ∧ some k_ ≠ (.slice (some ad501) t498.length co20 : Value).ownBlock ∧ some k_ ≠ (u7 : Value).ownBlock)) (by (with_reducible repeat (first | apply zRa | apply zRn | apply zRd)); exact HO_8.out) hg hat); have n4_ := zMk (hb); have n5_ := zMk (ho); clear HO_5; clear HO_6; clear HO_7; clear HO_8; clear HB; clear HO507; have HO_5 := n0_; have HO_6 := n1_; have HO_7 := n2_; have HO_8 := n3_; have HB := n4_; have HO510 := n5_; clear n0_ n1_ n2_ n3_ n4_ n5_; clear ho hb hg hat; obtain ⟨Ao27, co27, eo27⟩ := Kd.R_slice HO_7.out; subst eo27; obtain ⟨Ao28, co28, eo28⟩ := Kd.R_slice HO510.out; subst eo28) | ((with_reducible refine gate_callee (f := 44) rfl ?_); refine goesL_ (some 33) rfl rfl Tryd.func44 (by kernel_rfl) rfl #[.slice Ao27 x7_1.length co27, .slice Ao28 y508.length co28] rfl (by (try simp only [List.map_toArray, List.map_cons, List.map_nil]); first | done | rfl | (simp only [zLd, zLt]; rfl)) ?_; (with_reducible refine (r1_sum.calls k1 _ _ x7_1 _ _ y508 t511 _ ?side1 ?side2 ?side3 ?side4 A18.out).mono ?_); (case side1 => repeat (first | exact (Kd.R_reads' HO_7.out).2.2 | (with_reducible refine zCa ?_ _) | (with_reducible refine zCn ?_ _) | (with_reducible refine zCd ?_))); (case side2 => exact (Kd.R_reads' HO_7.out).2.1); (case side3 => repeat (first | exact (Kd.R_reads' HO510.out).2.2 | (with_reducible refine zCa ?_ _) | (with_reducible refine zCn ?_ _) | (with_reducible refine zCd ?_))); (case side4 => exact (Kd.R_reads' HO510.out).2.1); rintro e w29 ⟨v512, rfl, ho0, hb⟩; refine ⟨_, rfl, ?_⟩; have n0_ := zMk (Kd.R_elder' (by (with_reducible repeat (first | apply zRa | apply zRn | apply zRd)); exact HO_5.out) (Kd.R_base ho0) hb); have n1_ := zMk (Kd.R_elder' (by (with_reducible repeat (first | apply zRa | apply zRn | apply zRd)); exact HO_6.out) (Kd.R_base ho0) hb); have n2_ := zMk (Kd.R_elder' (by (with_reducible repeat (first | apply zRa | apply zRn | apply zRd)); exact HO_7.out) (Kd.R_base ho0) hb); have n3_ := zMk (Kd.R_elder' (by (with_reducible repeat (first | apply zRa | apply zRn | apply zRd)); exact HO_8.out) (Kd.R_base ho0) hb); have n4_ := zMk (Kd.R_elder' (by (with_reducible repeat (first | apply zRa | apply zRn | apply zRd)); exact HO510.out) (Kd.R_base ho0) hb); have n5_ := zMk (Kd.R_lower (Kd.R_new' (Kd.R_new' (Kd.R_new' (Kd.R_new' (Kd.R_new' ho0 (Kd.R_lt (by (with_reducible repeat (first | apply zRa | apply zRn | apply zRd)); exact HO_5.out))) (Kd.R_lt (by (with_reducible repeat (first | apply zRa | apply zRn | apply zRd)); exact HO_6.out))) (Kd.R_lt (by (with_reducible repeat (first | apply zRa | apply zRn | apply zRd)); exact HO_7.out))) (Kd.R_lt (by (with_reducible repeat (first | apply zRa | apply zRn | apply zRd)); exact HO_8.out))) (Kd.R_lt (by (with_reducible repeat (first | apply zRa | apply zRn | apply zRd)); exact HO510.out))) (zBs (by repeat (first | (with_reducible first | exact HB.out | apply zBa | apply zBn | apply zBd) | exact HB.out)))); have n6_ := zMk (zBt (by repeat (first | (with_reducible first | exact HB.out | apply zBa | apply zBn | apply zBd) | exact HB.out)) hb); clear HO_5; clear HO_6; clear HO_7; clear HO_8; clear HO510; clear HB; have HO_5 := n0_; have HO_6 := n1_; have HO_7 := n2_; have HO_8 := n3_; have HO510 := n4_; have HO513 := n5_; have HB := n6_; clear n0_ n1_ n2_ n3_ n4_ n5_ n6_; (try clear hb); (try clear hb2); (try clear hk); (try clear hi); (try clear ho0)) | ((with_reducible refine gate_builtin (b := .append) (xs := #[.tmp 34, .tmp 35]) rfl ?_); at_builtin; refine Kd.R_append (Kd.int .u8) (w0 := w) w.heap.size rfl (.tmp 34) (.tmp 35) 50 5 (.int .u8 0) 1 rfl Tryd.underlying50 info5 rfl (by decide) (by omega) (.slice Ao24 x8_1.length co24) x8_1 0 [.int .u8 0] (fun k_ => some k_ ≠ (.slice Ao26 t492.length co26 : Value).ownBlock ∧ some k_ ≠ (.slice (some ad501) t498.length co20 : Value).ownBlock ∧ some k_ ≠ (.slice Ao27 x7_1.length co27 : Value).ownBlock ∧ some k_ ≠ (.slice Ao28 y508.length co28 : Value).ownBlock ∧ some k_ ≠ (v512 : Value).ownBlock) (fun _ => False) rfl rfl ?aP (fun _ hk => hk.elim) ?aF ?aO ?aB ?aS ?aL ?_; (case aP => exact rfl); (case aB => exact (by repeat (first | (with_reducible first | exact HB.out | apply zBa | apply zBn | apply zBd) | exact HB.out))); (case aF => exact (fun k_ hk => ⟨Kd.fresh' (Kd.R_lt (by (with_reducible repeat (first | apply zRa | apply zRn | apply zRd)); exact HO_5.out)) k_ hk, Kd.fresh' (Kd.R_lt (by (with_reducible repeat (first | apply zRa | apply zRn | apply zRd)); exact HO_6.out)) k_ hk, Kd.fresh' (Kd.R_lt (by (with_reducible repeat (first | apply zRa | apply zRn | apply zRd)); exact HO_7.out)) k_ hk, Kd.fresh' (Kd.R_lt (by (with_reducible repeat (first | apply zRa | apply zRn | apply zRd)); exact HO510.out)) k_ hk, Kd.fresh' (Kd.R_lt (by (with_reducible repeat (first | apply zRa | apply zRn | apply zRd)); exact HO513.out)) k_ hk⟩)); (case aO => exact (by (with_reducible repeat (first | apply zRa | apply zRn | apply zRd)); exact zRm HO_8.out (fun _ hk => ⟨hk.1.1.1, ⟨hk.1.1.2.1, ⟨hk.1.1.2.2, ⟨hk.1.2, hk.2⟩⟩⟩⟩))); (case aS => exact (zBs (by repeat (first | (with_reducible first | exact HB.out | apply zBa | apply zBn | apply zBd) | exact HB.out)))); (case aL => have := LMc19.out; omega); intro v515 w30 ho hb hg hat; rw [← Ny514.out] at ho; have n0_ := zMk (Kd.R_after (ok := (fun k_ => some k_ ≠ (.slice (some ad501) t498.length co20 : Value).ownBlock ∧ some k_ ≠ (.slice Ao27 x7_1.length co27 : Value).ownBlock ∧ some k_ ≠ (.slice Ao28 y508.length co28 : Value).ownBlock ∧ some k_ ≠ (v512 : Value).ownBlock)) (by (with_reducible repeat (first | apply zRa | apply zRn | apply zRd)); exact zRm HO_5.out (fun _ hk => ⟨⟨hk.1.1.1, ⟨hk.1.1.2.1, ⟨hk.1.2, hk.2⟩⟩⟩, hk.1.1.2.2⟩)) hg hat); have n1_ := zMk (Kd.R_after (ok := (fun k_ => some k_ ≠ (.slice Ao26 t492.length co26 : Value).ownBlock ∧ some k_ ≠ (.slice Ao27 x7_1.length co27 : Value).ownBlock ∧ some k_ ≠ (.slice Ao28 y508.length co28 : Value).ownBlock ∧ some k_ ≠ (v512 : Value).ownBlock)) (by (with_reducible repeat (first | apply zRa | apply zRn | apply zRd)); exact zRm HO_6.out (fun _ hk => ⟨⟨hk.1.1.1, ⟨hk.1.1.2.1, ⟨hk.1.2, hk.2⟩⟩⟩, hk.1.1.2.2⟩)) hg hat); have n2_ := zMk (Kd.R_after (ok := (fun k_ => some k_ ≠ (.slice Ao26 t492.length co26 : Value).ownBlock ∧ some k_ ≠ (.slice (some ad501) t498.length co20 : Value).ownBlock ∧ some k_ ≠ (.slice Ao28 y508.length co28 : Value).ownBlock ∧ some k_ ≠ (v512 : Value).ownBlock)) (by (with_reducible repeat (first | apply zRa | apply zRn | apply zRd)); exact zRm HO_7.out (fun _ hk => ⟨⟨hk.1.1.1, ⟨hk.1.1.2.1, ⟨hk.1.2, hk.2⟩⟩⟩, hk.1.1.2.2⟩)) hg hat); have n3_ := zMk (Kd.R_after (ok := (fun k_ => some k_ ≠ (.slice Ao26 t492.length co26 : Value).ownBlock ∧ some k_ ≠ (.slice (some ad501) t498.length co20 : Value).ownBlock ∧ some k_ ≠ (.slice Ao27 x7_1.length co27 : Value).ownBlock ∧ some k_ ≠ (v512 : Value).ownBlock)) (by (with_reducible repeat (first | apply zRa | apply zRn | apply zRd)); exact zRm HO510.out (fun _ hk => ⟨⟨hk.1.1, ⟨hk.1.2.1, ⟨hk.1.2.2.1, hk.2⟩⟩⟩, hk.1.2.2.2⟩)) hg hat); have n4_ := zMk (Kd.R_after (ok := (fun k_ => some k_ ≠ (.slice Ao26 t492.length co26 : Value).ownBlock ∧ some k_ ≠ (.slice (some ad501) t498.length co20 : Value).ownBlock ∧ some k_ ≠ (.slice Ao27 x7_1.length co27 : Value).ownBlock ∧ some k_ ≠ (.slice Ao28 y508.length co28 : Value).ownBlock)) (by (with_reducible repeat (first | apply zRa | apply zRn | apply zRd)); exact zRm HO513.out (fun _ hk => ⟨⟨hk.1.1.1.1.2, ⟨hk.1.1.1.2, ⟨hk.1.1.2, hk.2⟩⟩⟩, hk.1.2⟩)) hg hat); have n5_ := zMk (hb); have n6_ := zMk (ho); clear HO_5; clear HO_6; clear HO_7; clear HO510; clear HO513; clear HB; clear HO_8; have HO_5 := n0_; have HO_6 := n1_; have HO_7 := n2_; have HO510 := n3_; have HO513 := n4_; have HB := n5_; have HO516 := n6_; clear n0_ n1_ n2_ n3_ n4_ n5_ n6_; clear ho hb hg hat))
      go_roundg k1
      case measure => have := HK1.out; omega
      case rel => exact ⟨(t511), (y514), (wrap64 (x9_1 + 1)), (by first | rfl | (simp; done) | (simp [*]; done)), H', ⟨by have := HK1.out; omega⟩, ⟨by (with_reducible repeat (first | apply zRa | apply zRn | apply zRd)); exact zRm HO_5.out (fun _ hk => ⟨hk.1.1, ⟨hk.1.2.2.2, hk.2⟩⟩)⟩, ⟨by (with_reducible repeat (first | apply zRa | apply zRn | apply zRd)); exact zRm HO_6.out (fun _ hk => ⟨hk.1.1, ⟨hk.1.2.2.2, hk.2⟩⟩)⟩, ⟨by (with_reducible repeat (first | apply zRa | apply zRn | apply zRd)); exact zRm HO513.out (fun _ hk => ⟨hk.1.1, ⟨hk.1.2.1, hk.2⟩⟩)⟩, ⟨by (with_reducible repeat (first | apply zRa | apply zRn | apply zRd)); exact zRm HO516.out (fun _ hk => ⟨hk.1, ⟨hk.2.1, hk.2.2.2.2⟩⟩)⟩, ⟨by repeat (first | (with_reducible first | exact HB.out | apply zBa | apply zBn | apply zBd) | exact HB.out)⟩⟩
    · rw [if_neg c15] at H
      have c15b0 : ((rd t498 x9_1) == 1) = false := beq_eq_false_iff_ne.mpr c15
      have c15b1 : ((rd t498 x9_1) != 1) = true := bne_iff_ne.mpr c15
      by_cases c31 : x8_1.length < 140737488355328
      rotate_left
      · rw [if_neg c31] at H; exact absurd H (by simp)
      rw [if_pos c31] at H
      have LMc31 := zMk c31
      clear c31
      obtain ⟨y517, hy517⟩ : ∃ y_ : List Int, y_ = (x8_1 ++ [0]) := ⟨_, rfl⟩
      replace H : (r1_Mul.l0 k1 t492 t498 x7_1 y517 (wrap64 (x9_1 + 1))) = some r := by first | (rw [hy517]; with_reducible exact H) | (have H2_ := (zOb _ _).symm.trans H; rw [hy517]; with_reducible exact H2_) | (have H2_ := (zOb _ _).symm.trans H; with_reducible exact H2_) | with_reducible exact H | (rw [hy517]; exact H) | exact H
      have Ny517 := zMk hy517
      clear hy517
      have H' := zMk H
      clear H
      obtain ⟨Ao32, co32, eo32⟩ := Kd.R_slice HO_6.out
      subst eo32
      have p501 : 0 ≤ (x9_1 : Int) := of_decide_eq_true (by first | (with_reducible assumption) | assumption)
      have q501 : x9_1 < (t498.length : Int) := of_decide_eq_true (by first | (with_reducible assumption) | assumption)
      obtain ⟨ad501, e501, hx501_0⟩ := zAi (Kd.R_reads' HO_6.out).2.2 x9_1 p501 q501
      cases e501
      replace p501 := eq_true p501
      replace q501 := eq_true q501
      go_wp2_with (first | ((with_reducible refine gate_builtin (b := .append) (xs := #[.tmp 34, .tmp 35]) rfl ?_); at_builtin; refine Kd.R_append (Kd.int .u8) (w0 := w) w.heap.size rfl (.tmp 34) (.tmp 35) 50 5 (.int .u8 0) 1 rfl Tryd.underlying50 info5 rfl (by decide) (by omega) u8 x8_1 0 [.int .u8 0] (fun k_ => some k_ ≠ (v493 : Value).ownBlock ∧ some k_ ≠ (.slice (some ad501) t498.length co32 : Value).ownBlock ∧ some k_ ≠ (u7 : Value).ownBlock) (fun _ => False) rfl rfl ?aP (fun _ hk => hk.elim) ?aF ?aO ?aB ?aS ?aL ?_; (case aP => exact rfl); (case aB => exact (by repeat (first | (with_reducible first | exact HB.out | apply zBa | apply zBn | apply zBd) | exact HB.out))); (case aF => exact (fun k_ hk => ⟨Kd.fresh' (Kd.R_lt (by (with_reducible repeat (first | apply zRa | apply zRn | apply zRd)); exact HO_5.out)) k_ hk, Kd.fresh' (Kd.R_lt (by (with_reducible repeat (first | apply zRa | apply zRn | apply zRd)); exact HO_6.out)) k_ hk, Kd.fresh' (Kd.R_lt (by (with_reducible repeat (first | apply zRa | apply zRn | apply zRd)); exact HO_7.out)) k_ hk⟩)); (case aO => exact (by (with_reducible repeat (first | apply zRa | apply zRn | apply zRd)); exact HO_8.out)); (case aS => exact (zBs (by repeat (first | (with_reducible first | exact HB.out | apply zBa | apply zBn | apply zBd) | exact HB.out)))); (case aL => have := LMc31.out; omega); intro v518 w33 ho hb hg hat; rw [← Ny517.out] at ho; have n0_ := zMk (Kd.R_after (ok := (fun k_ => some k_ ≠ (.slice (some ad501) t498.length co32 : Value).ownBlock ∧ some k_ ≠ (u7 : Value).ownBlock)) (by (with_reducible repeat (first | apply zRa | apply zRn | apply zRd)); exact zRm HO_5.out (fun _ hk => ⟨⟨hk.1, hk.2.1⟩, hk.2.2⟩)) hg hat); have n1_ := zMk (Kd.R_after (ok := (fun k_ => some k_ ≠ (v493 : Value).ownBlock ∧ some k_ ≠ (u7 : Value).ownBlock)) (by (with_reducible repeat (first | apply zRa | apply zRn | apply zRd)); exact zRm HO_6.out (fun _ hk => ⟨⟨hk.1, hk.2.1⟩, hk.2.2⟩)) hg hat); have n2_ := zMk (Kd.R_after (ok := (fun k_ => some k_ ≠ (v493 : Value).ownBlock ∧ some k_ ≠ (.slice (some ad501) t498.length co32 : Value).ownBlock)) (by (with_reducible repeat (first | apply zRa | apply zRn | apply zRd)); exact zRm HO_7.out (fun _ hk => ⟨⟨hk.1, hk.2.1⟩, hk.2.2⟩)) hg hat); have n3_ := zMk (hb); have n4_ := zMk (ho); clear HO_5; clear HO_6; clear HO_7; clear HB; clear HO_8; have HO_5 := n0_; have HO_6 := n1_; have HO_7 := n2_; have HB := n3_; have HO519 := n4_; clear n0_ n1_ n2_ n3_ n4_; clear ho hb hg hat))
      go_roundg k1
      case measure => have := HK1.out; omega
      case rel => exact ⟨(x7_1), (y517), (wrap64 (x9_1 + 1)), (by first | rfl | (simp; done) | (simp [*]; done)), H', ⟨by have := HK1.out; omega⟩, ⟨by (with_reducible repeat (first | apply zRa | apply zRn | apply zRd)); exact zRm HO_5.out (fun _ hk => ⟨hk.1.1, ⟨hk.1.2, hk.2⟩⟩)⟩, ⟨by (with_reducible repeat (first | apply zRa | apply zRn | apply zRd)); exact zRm HO_6.out (fun _ hk => ⟨hk.1.1, ⟨hk.1.2, hk.2⟩⟩)⟩, ⟨by (with_reducible repeat (first | apply zRa | apply zRn | apply zRd)); exact zRm HO_7.out (fun _ hk => ⟨hk.1.1, ⟨hk.1.2, hk.2⟩⟩)⟩, ⟨by (with_reducible repeat (first | apply zRa | apply zRn | apply zRd)); exact HO519.out⟩, ⟨by repeat (first | (with_reducible first | exact HB.out | apply zBa | apply zBn | apply zBd) | exact HB.out)⟩⟩
  · rw [if_neg c13] at H
    have c13b0 : decide (x9_1 < (t498.length : Int)) = false := decide_eq_false c13
    clear c13
    replace H := Option.bind_eq_some_iff.mp H
    obtain ⟨t520, A340, H⟩ := H
    have A34 := zMk A340
    clear A340
    obtain rfl := zOi H
    obtain ⟨Ao35, co35, eo35⟩ := Kd.R_slice HO_6.out
    subst eo35
    obtain ⟨Ao36, co36, eo36⟩ := Kd.R_slice HO_7.out
    subst eo36
    go_wp2_with (first | ((with_reducible refine gate_callee (f := 45) rfl ?_); refine goesL_ (some 38) rfl rfl Tryd.func45 (by kernel_rfl) rfl #[.slice Ao36 x7_1.length co36] rfl (by (try simp only [List.map_toArray, List.map_cons, List.map_nil]); first | done | rfl | (simp only [zLd, zLt]; rfl)) ?_; (with_reducible refine (r1_limbs.calls k1 _ _ x7_1 t520 _ ?side1 ?side2 A34.out).mono ?_); (case side1 => repeat (first | exact (Kd.R_reads' HO_7.out).2.2 | (with_reducible refine zCa ?_ _) | (with_reducible refine zCn ?_ _) | (with_reducible refine zCd ?_))); (case side2 => exact (Kd.R_reads' HO_7.out).2.1); rintro e w37 ⟨v521, rfl, ho0, hb⟩; refine ⟨_, rfl, ?_⟩; have n0_ := zMk (Kd.R_below (by (with_reducible repeat (first | apply zRa | apply zRn | apply zRd)); exact HO_5.out) hb); have n1_ := zMk (Kd.R_below (by (with_reducible repeat (first | apply zRa | apply zRn | apply zRd)); exact HO_6.out) hb); have n2_ := zMk (Kd.R_below (by (with_reducible repeat (first | apply zRa | apply zRn | apply zRd)); exact HO_7.out) hb); have n3_ := zMk (Kd.R_below (by (with_reducible repeat (first | apply zRa | apply zRn | apply zRd)); exact HO_8.out) hb); have n4_ := zMk (Kd.R_lower ho0 (zBs (by repeat (first | (with_reducible first | exact HB.out | apply zBa | apply zBn | apply zBd) | exact HB.out)))); have n5_ := zMk (zBt (by repeat (first | (with_reducible first | exact HB.out | apply zBa | apply zBn | apply zBd) | exact HB.out)) hb); clear HO_5; clear HO_6; clear HO_7; clear HO_8; clear HB; have HO_5 := n0_; have HO_6 := n1_; have HO_7 := n2_; have HO_8 := n3_; have HO522 := n4_; have HB := n5_; clear n0_ n1_ n2_ n3_ n4_ n5_; (try clear hb); (try clear hb2); (try clear hk); (try clear hi); (try clear ho0)))
    go_ret
    exact ⟨_, by first | rfl | (simp [errW_none, errW_some] <;> rfl) | (simp [*, errW_none, errW_some] <;> rfl), by (with_reducible repeat (first | apply zRa | apply zRn | apply zRd)); exact HO522.out, by repeat (first | (with_reducible first | exact HB.out | apply zBa | apply zBn | apply zBd) | exact HB.out)⟩

/- The plain law of the document's product. -/
theorem bits_zeros (n : Nat) : Bits (List.replicate n 0) := fun x hx => .inl (List.eq_of_mem_replicate hx)
theorem bval_zeros (n : Nat) : bval (List.replicate n 0) = 0 := by
  induction n with
  | zero => rfl
  | succ n ih => simp only [List.replicate_succ, bval, ih]; rfl
theorem rmul_l0 (x y : List Int) (hx : Bits x) (hy : Bits y) (hl : x.length + 2 * y.length < 1000000000) :
    ∀ (j m k : Nat) (A : List Int), m + j = y.length → Bits A → A.length ≤ x.length + 2 * m → bval A = bval x * bval (y.take m) →
    ∃ r, r1_Mul.l0 (k + 2 * (x.length + 2 * y.length) + 10 + j + 1) x y A (List.replicate m 0) (m : Int) = some r ∧ IsNum r (bval x * bval y) := by
  intro j
  induction j with
  | zero =>
    intro m k A hm hA lA hv
    obtain ⟨r, h1, h2, _⟩ := limbs_f A hA (by omega) (k + 2 * (x.length + 2 * y.length) + 10) (by omega)
    refine ⟨r, ?_, ?_⟩
    · rw [Nat.add_zero, r1_Mul.l0, if_neg (by omega), h1]
      rfl
    · rw [hv, List.take_of_length_le (by omega)] at h2
      exact h2
  | succ j ih =>
    intro m k A hm hA lA hv
    have hz : List.replicate m (0 : Int) ++ [0] = List.replicate (m + 1) 0 := List.replicate_succ'.symm
    have hlz : (List.replicate m (0 : Int)).length = m := List.length_replicate
    have hS : Bits (List.replicate m 0 ++ x) := (bits_zeros m).append hx
    have hSl : (List.replicate m (0 : Int) ++ x).length = m + x.length := by rw [List.length_append, hlz]
    obtain ⟨t, h1, h2, h3, h4⟩ := sum_f A (List.replicate m 0 ++ x) hA hS (by omega) (k + 2 * (x.length + 2 * y.length) + 10 + j + 1) (by omega)
    rcases hy.getD m with h0 | h0
    · obtain ⟨r, h5, h6⟩ := ih (m + 1) k A (by omega) hA (by omega) (by rw [bval_take_succ, h0, hv, Int.mul_zero, Int.add_zero])
      refine ⟨r, ?_, h6⟩
      rw [show k + 2 * (x.length + 2 * y.length) + 10 + (j + 1) + 1 = (k + 2 * (x.length + 2 * y.length) + 10 + j + 1) + 1 by omega, r1_Mul.l0, if_pos (by omega), if_pos (by omega), rd_nat, h0, if_neg (by decide), if_pos (by omega), hz, w64 (by omega) (by omega)]
      exact h5
    · obtain ⟨r, h5, h6⟩ := ih (m + 1) k t (by omega) h2 (by omega) (by
        rw [h4, hv, bval_append, bval_zeros, hlz, bval_take_succ, h0, Int.zero_add, Int.mul_one, Int.mul_add, Int.mul_comm (bval x) (2 ^ m)])
      refine ⟨r, ?_, h6⟩
      rw [show k + 2 * (x.length + 2 * y.length) + 10 + (j + 1) + 1 = (k + 2 * (x.length + 2 * y.length) + 10 + j + 1) + 1 by omega, r1_Mul.l0, if_pos (by omega), if_pos (by omega), rd_nat, h0, if_pos rfl]
      simp only [zOb, List.nil_append]
      rw [if_pos (by simp only [List.length_nil]; omega), if_pos (by omega), h1, zOb, if_pos (by omega), hz, w64 (by omega) (by omega)]
      exact h5
theorem rmul_f (a b : List Int) (ha : Limbs a) (hb : Limbs b) (la : a.length < 1000000) (lb : b.length < 1000000) (k : Nat) (hk : 200 * a.length + 200 * b.length + 100 ≤ k) :
    ∃ r, r1_Mul.f k a b = some r ∧ IsNum r (val a * val b) := by
  have ca := cut_length a
  have cb := cut_length b
  have la2 := bitsOf_length (cut a)
  have lb2 := bitsOf_length (cut b)
  obtain ⟨d, hd⟩ : ∃ d, k = d + 2 * ((bitsOf (cut a)).length + 2 * (bitsOf (cut b)).length) + 10 + (bitsOf (cut b)).length + 1 := ⟨k - (2 * ((bitsOf (cut a)).length + 2 * (bitsOf (cut b)).length) + 10 + (bitsOf (cut b)).length + 1), by omega⟩
  obtain ⟨r, h1, h2⟩ := rmul_l0 (bitsOf (cut a)) (bitsOf (cut b)) (bitsOf_bits _) (bitsOf_bits _) (by omega) (bitsOf (cut b)).length 0 d [] (by omega) Bits.nil (by simp) (by simp [bval])
  refine ⟨r, ?_, by rw [bval_bitsOf (cut_limbs ha), bval_bitsOf (cut_limbs hb), cut_val, cut_val] at h2; exact h2⟩
  rw [← hd] at h1
  unfold r1_Mul.f
  rw [norm_f a (by omega) k (by omega), zOb, bits_f _ (cut_limbs ha) (by omega) k (by omega), zOb, norm_f b (by omega) k (by omega), zOb, bits_f _ (cut_limbs hb) (by omega) k (by omega), zOb]
  exact h1

/-! ### r1_Sqrt: function 28 -/
def r1_Sqrt.l0 : Nat → List Int → List Int → Int → Option (List Int)
  | 0, _, _, _ => none
  | k + 1, x0, x3, x4 => if x4 ≥ 0 then (if 0 ≤ x4 then (if x4 < (x3.length : Int) then ((some (x3.set (x4 : Int).toNat 1 : List Int)).bind fun y681 => ((r1_limbs.f k y681).bind fun t682 => ((r1_Mul.f k t682 t682).bind fun t685 => ((r1_Cmp.f k t685 x0).bind fun t688 => (if t688 > 0 then (r1_Sqrt.l0 k x0 (y681.set (x4 : Int).toNat 0) (wrap64 (x4 - 1))) else (r1_Sqrt.l0 k x0 y681 (wrap64 (x4 - 1)))))))) else (none)) else (none)) else ((r1_limbs.f k x3).bind fun t678 => (some t678))
def r1_Sqrt.f (k : Nat) (l0 : List Int) : Option (List Int) := (r1_bits.f k l0).bind fun t672 => (if 0 ≤ (wrap64 ((wrap64 ((t672.length : Int) / 2)) + 1)) then (if (wrap64 ((wrap64 ((t672.length : Int) / 2)) + 1) : Int).toNat ≤ 281474976710656 then ((some (List.replicate (wrap64 ((wrap64 ((t672.length : Int) / 2)) + 1) : Int).toNat 0 : List Int)).bind fun y675 => (r1_Sqrt.l0 k l0 y675 (wrap64 ((y675.length : Int) - 1)))) else (none)) else (none))
set_option maxHeartbeats 8000000 in
set_option maxRecDepth 100000 in
theorem r1_Sqrt.calls (k : Nat) (A0 : Option Addr) (c0 : Nat) (l0 : List Int) (r : List Int) (w : World) (hr0 : Kd.C (Kd.int .u32) w A0 l0.length l0) (hc0 : l0.length ≤ c0) (h : r1_Sqrt.f k l0 = some r) :
    Calls Tryd.prog 28 #[.slice A0 l0.length c0] w fun e w' => ∃ v0_ : Value, e = .returned (v0_) ∧ Kd.R (Kd.int .u32) 36 w' w.heap.size (fun _ => True) v0_ r ∧ Below w.heap.size w w' := by
  have HR0 := zMk hr0
  have HC0 := zMk hc0
  clear hr0 hc0
  have HB := zMk (Below.refl w.heap.size w)
  have H : ((r1_bits.f k l0).bind fun t672 => (if 0 ≤ (wrap64 ((wrap64 ((t672.length : Int) / 2)) + 1)) then (if (wrap64 ((wrap64 ((t672.length : Int) / 2)) + 1) : Int).toNat ≤ 281474976710656 then ((some (List.replicate (wrap64 ((wrap64 ((t672.length : Int) / 2)) + 1) : Int).toNat 0 : List Int)).bind fun y675 => (r1_Sqrt.l0 k l0 y675 (wrap64 ((y675.length : Int) - 1)))) else (none)) else (none))) = some r := h
  clear h
  replace H := Option.bind_eq_some_iff.mp H
  obtain ⟨t672, A20, H⟩ := H
  have A2 := zMk A20
  clear A20
  obtain ⟨ji3, hji3⟩ : ∃ j_ : Int, (wrap64 ((wrap64 ((t672.length : Int) / 2)) + 1)) = j_ := ⟨_, rfl⟩
  replace H : (if 0 ≤ (ji3) then (if (ji3 : Int).toNat ≤ 281474976710656 then ((some (List.replicate (ji3 : Int).toNat 0 : List Int)).bind fun y675 => (r1_Sqrt.l0 k l0 y675 (wrap64 ((y675.length : Int) - 1)))) else (none)) else (none)) = some r := by first | (rw [hji3] at H; exact H) | (simp only [hji3] at H ⊢; exact H)
  (try rw [hji3] at A2)
  have hji3w : (IntKind.i64.wrap ((wrap64 ((t672.length : Int) / 2)) + 1)) = ji3 := (i64_w _).trans hji3
  by_cases c4 : 0 ≤ (ji3)
  · rw [if_pos c4] at H
    have c4b0 := eq_true c4
    have c4b1 : decide (0 ≤ (ji3)) = true := decide_eq_true c4
    clear c4
    by_cases c5 : (ji3 : Int).toNat ≤ 281474976710656
    rotate_left
    · rw [if_neg c5] at H; exact absurd H (by simp)
    rw [if_pos c5] at H
    have c5b0 := eq_true c5
    have c5b1 : decide ((ji3 : Int).toNat ≤ 281474976710656) = true := decide_eq_true c5
    clear c5
    obtain ⟨y675, hy675⟩ : ∃ y_ : List Int, y_ = (List.replicate (ji3 : Int).toNat 0) := ⟨_, rfl⟩
    replace H : (r1_Sqrt.l0 k l0 y675 (wrap64 ((y675.length : Int) - 1))) = some r := by first | (rw [hy675]; with_reducible exact H) | (have H2_ := (zOb _ _).symm.trans H; rw [hy675]; with_reducible exact H2_) | (have H2_ := (zOb _ _).symm.trans H; with_reducible exact H2_) | with_reducible exact H | (rw [hy675]; exact H) | exact H
    have Ny675 := zMk hy675
    clear hy675
    have H' := zMk H
    clear H
    go_enter Tryd.func28, Tryd.ntmps28
    go_wp2_with (first | ((with_reducible refine gate_callee (f := 42) rfl ?_); refine goesL_ (some 7) rfl rfl Tryd.func42 (by kernel_rfl) rfl #[.slice A0 l0.length c0] rfl (by (try simp only [List.map_toArray, List.map_cons, List.map_nil]); first | done | rfl | (simp only [zLd, zLt]; rfl)) ?_; (with_reducible refine (r1_bits.calls k _ _ l0 t672 _ ?side1 ?side2 A2.out).mono ?_); (case side1 => repeat (first | exact HR0.out | (with_reducible refine zCa ?_ _) | (with_reducible refine zCn ?_ _) | (with_reducible refine zCd ?_))); (case side2 => exact HC0.out); rintro e w6 ⟨v673, rfl, ho0, hb⟩; refine ⟨_, rfl, ?_⟩; have n0_ := zMk (Kd.R_lower ho0 (zBs (by repeat (first | (with_reducible first | exact HB.out | apply zBa | apply zBn | apply zBd) | exact HB.out)))); have n1_ := zMk (zBt (by repeat (first | (with_reducible first | exact HB.out | apply zBa | apply zBn | apply zBd) | exact HB.out)) hb); clear HB; have HO674 := n0_; have HB := n1_; clear n0_ n1_; (try clear hb); (try clear hb2); (try clear hk); (try clear hi); (try clear ho0); obtain ⟨Ao7, co7, eo7⟩ := Kd.R_slice HO674.out; subst eo7) | ((with_reducible refine gate_dst (N := 11) rfl ?_); refine Kd.R_make (Kd.int .u8) _ 5 rfl (N := 11) rfl 50 _ _ rfl ji3 rfl rfl Tryd.underlying50 (.int .u8 0) 1 info5 rfl (by decide) (by omega) 0 (ok := fun _ => True) (okp := fun _ => True) rfl (fun _ hk => hk) trivial (of_decide_eq_true (by first | (with_reducible assumption) | assumption)) (Nat.le_trans (Nat.mul_le_mul_right _ (of_decide_eq_true (by first | (with_reducible assumption) | assumption) : ji3.toNat ≤ 281474976710656)) (by omega)) (Below.refl _ _) (Nat.le_refl _) ?_; intro v676 w8 ho9 hb hg_ hnew_; clear hg_ hnew_; (first | rw [← Ny675.out] at ho9 | (simp only [Int.reduceToNat] at ho9; rw [← Ny675.out] at ho9)); have n0_ := zMk (Kd.R_elder' (by (with_reducible repeat (first | apply zRa | apply zRn | apply zRd)); exact HO674.out) (Kd.R_base ho9) hb); have n1_ := zMk (Kd.R_lower (Kd.R_new' ho9 (Kd.R_lt (by (with_reducible repeat (first | apply zRa | apply zRn | apply zRd)); exact HO674.out))) (zBs (by repeat (first | (with_reducible first | exact HB.out | apply zBa | apply zBn | apply zBd) | exact HB.out)))); have n2_ := zMk (zBt (by repeat (first | (with_reducible first | exact HB.out | apply zBa | apply zBn | apply zBd) | exact HB.out)) hb); clear HO674; clear HB; have HO674 := n0_; have HO677 := n1_; have HB := n2_; clear n0_ n1_ n2_; clear hb ho9; obtain ⟨Ao10, co10, eo10⟩ := Kd.R_slice HO677.out; subst eo10))
    go_loopg [4] k (fun kq v4 w' => ∃ (x3_1 : List Int) (x4_1 : Int), v4 = .int .i64 x4_1 ∧ Aside0 (r1_Sqrt.l0 kq l0 x3_1 x4_1 = some r) ∧ Aside0 (kq ≤ k) ∧ Aside0 (Kd.R (Kd.int .u8) 5 w' w.heap.size (fun _ => True) (.slice Ao10 y675.length co10) x3_1) ∧ Aside0 (Below w.heap.size w w'))
    case atStart => exact ⟨(y675), (wrap64 ((y675.length : Int) - 1)), (by first | rfl | (simp; done) | (simp [*]; done)), H', ⟨Nat.le_refl _⟩, ⟨by (with_reducible repeat (first | apply zRa | apply zRn | apply zRd)); exact zRm HO677.out (fun _ hk => trivial)⟩, ⟨by repeat (first | (with_reducible first | exact HB.out | apply zBa | apply zBn | apply zBd) | exact HB.out)⟩⟩
    clear H'
    obtain ⟨x3_1, x4_1, rfl, HA, HK1, HO_3, HB⟩ := hrel
    have hl3_1 := (Kd.R_reads' HO_3.out).1
    rw [hl3_1] at HO_3
    (try simp only [hl3_1])
    rcases gk with _ | k1
    · exact absurd HA.out (by simp [r1_Sqrt.l0])
    have H := HA.out
    clear HA
    simp only [r1_Sqrt.l0] at H
    by_cases c11 : x4_1 ≥ 0
    · rw [if_pos c11] at H
      have c11b0 : decide (0 ≤ x4_1) = true := decide_eq_true c11
      (try (have c11b0l := c11b0; simp only [hl3_1] at c11b0l))
      clear c11
      by_cases c12 : 0 ≤ x4_1
      rotate_left
      · rw [if_neg c12] at H; exact absurd H (by simp)
      rw [if_pos c12] at H
      have c12b0 : decide (0 ≤ x4_1) = true := decide_eq_true c12
      (try (have c12b0l := c12b0; simp only [hl3_1] at c12b0l))
      clear c12
      by_cases c13 : x4_1 < (x3_1.length : Int)
      rotate_left
      · rw [if_neg c13] at H; exact absurd H (by simp)
      rw [if_pos c13] at H
      have c13b0 : decide (x4_1 < (x3_1.length : Int)) = true := decide_eq_true c13
      (try (have c13b0l := c13b0; simp only [hl3_1] at c13b0l))
      clear c13
      obtain ⟨y681, hy681⟩ : ∃ y_ : List Int, y_ = (x3_1.set (x4_1 : Int).toNat 1) := ⟨_, rfl⟩
      replace H : ((r1_limbs.f k1 y681).bind fun t682 => ((r1_Mul.f k1 t682 t682).bind fun t685 => ((r1_Cmp.f k1 t685 l0).bind fun t688 => (if t688 > 0 then (r1_Sqrt.l0 k1 l0 (y681.set (x4_1 : Int).toNat 0) (wrap64 (x4_1 - 1))) else (r1_Sqrt.l0 k1 l0 y681 (wrap64 (x4_1 - 1))))))) = some r := by first | (rw [hy681]; with_reducible exact H) | (have H2_ := (zOb _ _).symm.trans H; rw [hy681]; with_reducible exact H2_) | (have H2_ := (zOb _ _).symm.trans H; with_reducible exact H2_) | with_reducible exact H | (rw [hy681]; exact H) | exact H
      have Ny681 := zMk hy681
      clear hy681
      replace H := Option.bind_eq_some_iff.mp H
      obtain ⟨t682, A150, H⟩ := H
      have A15 := zMk A150
      clear A150
      replace H := Option.bind_eq_some_iff.mp H
      obtain ⟨t685, A160, H⟩ := H
      have A16 := zMk A160
      clear A160
      replace H := Option.bind_eq_some_iff.mp H
      obtain ⟨t688, A170, H⟩ := H
      have A17 := zMk A170
      clear A170
      by_cases c18 : t688 > 0
      · rw [if_pos c18] at H
        have c18b0 : decide (0 < t688) = true := decide_eq_true c18
        (try (have c18b0l := c18b0; simp only [hl3_1] at c18b0l))
        clear c18
        obtain ⟨y689, hy689⟩ : ∃ y_ : List Int, y_ = (y681.set (x4_1 : Int).toNat 0) := ⟨_, rfl⟩
        replace H : (r1_Sqrt.l0 k1 l0 y689 (wrap64 (x4_1 - 1))) = some r := by first | (rw [hy689]; with_reducible exact H) | (have H2_ := (zOb _ _).symm.trans H; rw [hy689]; with_reducible exact H2_) | (have H2_ := (zOb _ _).symm.trans H; with_reducible exact H2_) | with_reducible exact H | (rw [hy689]; exact H) | exact H
        have Ny689 := zMk hy689
        clear hy689
        have H' := zMk H
        clear H
        have p14 : 0 ≤ (x4_1 : Int) := of_decide_eq_true (by first | (with_reducible assumption) | assumption)
        have q14 : (x4_1 : Int) < ((x3_1.length : Int) : Int) := of_decide_eq_true (by first | (with_reducible assumption) | assumption)
        obtain ⟨go14, co14, eo14, gb14, gl14, cl14, HG14⟩ := Kd.R_form HO_3.out (by omega)
        (first | cases eo14 | (injection eo14 with ea_ en_ ec_; (first | subst ea_ | (injection ea_ with ea_; subst ea_)); subst ec_; clear en_))
        have GB14 := zMk gb14
        have GG14 := zMk HG14
        clear gb14 gl14 HG14
        obtain ⟨hx14_0, hf14_0⟩ := Kd.R_celln 0 HO_3.out (x4_1 : Int) p14 q14
        replace p14 := eq_true p14
        replace q14 := eq_true q14
        have HP20 := Kd.R_putg HO_3.out (x4_1 : Int) 1
        go_wp2_with (first | ((with_reducible refine gate_store (t := 5) (p := 21) rfl ?_); refine store_event (t := 5) (p := 21) (v := ?vo_w21) (w1 := (wr.setCell ⟨go14, (x4_1 : Int).toNat, none⟩ (.int .u8 1))) ?hg ?ho ?hn ?hr ?_; (case ho => rfl); (case hg => rfl); (case hn => rfl); (case hr => first | (go_simp; done) | (go_simp; rfl) | (go_simp; rw [show ∀ x : Int, IntKind.u32.wrap (IntKind.u8.wrap x) = x % 256 from fun x => (by show (x % 256) % 4294967296 = x % 256; omega)])); intro w21 hw; have hg : wr.grownBy w21 (some go14) := (by rw [hw]; exact HP20.2); have hp_ : Kd.R (Kd.int .u8) 5 w21 w.heap.size (fun _ => True) (.slice (some ⟨go14, 0, none⟩) x3_1.length co10) y681 := (by rw [hw, Ny681.out]; exact HP20.1); clear HP20; have n0_ := zMk (hp_); have n1_ := zMk ((by rw [hw]; exact below_set (HB.out) GB14.out : Below w.heap.size w w21)); clear HO_3; clear HB; have HO_3 := n0_; have HB := n1_; clear n0_ n1_; clear hg hw hp_) | ((with_reducible refine gate_callee (f := 45) rfl ?_); refine goesL_ (some 23) rfl rfl Tryd.func45 (by kernel_rfl) rfl #[.slice (some ⟨go14, 0, none⟩) y681.length co10] rfl (by (try simp only [List.map_toArray, List.map_cons, List.map_nil]); first | done | (rw [show y681.length = x3_1.length from (Kd.R_reads' HO_3.out).1.symm] <;> rfl) | rfl | (simp only [zLd, zLt]; rfl)) ?_; (with_reducible refine (r1_limbs.calls k1 _ _ y681 t682 _ ?side1 ?side2 A15.out).mono ?_); (case side1 => repeat (first | exact (Kd.R_reads' HO_3.out).2.2 | (with_reducible refine zCa ?_ _) | (with_reducible refine zCn ?_ _) | (with_reducible refine zCd ?_))); (case side2 => rw [show y681.length = x3_1.length from (Kd.R_reads' HO_3.out).1.symm]; exact (Kd.R_reads' HO_3.out).2.1); rintro e w22 ⟨v683, rfl, ho0, hb⟩; refine ⟨_, rfl, ?_⟩; have n0_ := zMk (Kd.R_below (by (with_reducible repeat (first | apply zRa | apply zRn | apply zRd)); exact HO_3.out) hb); have n1_ := zMk (Kd.R_lower ho0 (zBs (by repeat (first | (with_reducible first | exact HB.out | apply zBa | apply zBn | apply zBd) | exact HB.out)))); have n2_ := zMk (zBt (by repeat (first | (with_reducible first | exact HB.out | apply zBa | apply zBn | apply zBd) | exact HB.out)) hb); clear HO_3; clear HB; have HO_3 := n0_; have HO684 := n1_; have HB := n2_; clear n0_ n1_ n2_; (try clear hb); (try clear hb2); (try clear hk); (try clear hi); (try clear ho0); obtain ⟨Ao23, co23, eo23⟩ := Kd.R_slice HO684.out; subst eo23) | ((with_reducible refine gate_callee (f := 24) rfl ?_); refine goesL_ (some 26) rfl rfl Tryd.func24 (by kernel_rfl) rfl #[.slice Ao23 t682.length co23, .slice Ao23 t682.length co23] rfl (by (try simp only [List.map_toArray, List.map_cons, List.map_nil]); first | done | rfl | (simp only [zLd, zLt]; rfl)) ?_; (with_reducible refine (r1_Mul.calls k1 _ _ t682 _ _ t682 t685 _ ?side1 ?side2 ?side3 ?side4 A16.out).mono ?_); (case side1 => repeat (first | exact (Kd.R_reads' HO684.out).2.2 | (with_reducible refine zCa ?_ _) | (with_reducible refine zCn ?_ _) | (with_reducible refine zCd ?_))); (case side2 => exact (Kd.R_reads' HO684.out).2.1); (case side3 => repeat (first | exact (Kd.R_reads' HO684.out).2.2 | (with_reducible refine zCa ?_ _) | (with_reducible refine zCn ?_ _) | (with_reducible refine zCd ?_))); (case side4 => exact (Kd.R_reads' HO684.out).2.1); rintro e w24 ⟨v686, rfl, ho0, hb⟩; refine ⟨_, rfl, ?_⟩; have n0_ := zMk (Kd.R_below (by (with_reducible repeat (first | apply zRa | apply zRn | apply zRd)); exact HO_3.out) hb); have n1_ := zMk (Kd.R_elder' (by (with_reducible repeat (first | apply zRa | apply zRn | apply zRd)); exact HO684.out) (Kd.R_base ho0) hb); have n2_ := zMk (Kd.R_lower (Kd.R_new' ho0 (Kd.R_lt (by (with_reducible repeat (first | apply zRa | apply zRn | apply zRd)); exact HO684.out))) (zBs (by repeat (first | (with_reducible first | exact HB.out | apply zBa | apply zBn | apply zBd) | exact HB.out)))); have n3_ := zMk (zBt (by repeat (first | (with_reducible first | exact HB.out | apply zBa | apply zBn | apply zBd) | exact HB.out)) hb); clear HO_3; clear HO684; clear HB; have HO_3 := n0_; have HO684 := n1_; have HO687 := n2_; have HB := n3_; clear n0_ n1_ n2_ n3_; (try clear hb); (try clear hb2); (try clear hk); (try clear hi); (try clear ho0); obtain ⟨Ao25, co25, eo25⟩ := Kd.R_slice HO687.out; subst eo25) | ((with_reducible refine gate_callee (f := 22) rfl ?_); refine goesL_ (some 28) rfl rfl Tryd.func22 (by kernel_rfl) rfl #[.slice Ao25 t685.length co25, .slice A0 l0.length c0] rfl (by (try simp only [List.map_toArray, List.map_cons, List.map_nil]); first | done | rfl | (simp only [zLd, zLt]; rfl)) ?_; (with_reducible refine (r1_Cmp.calls k1 _ _ t685 _ _ l0 t688 _ ?side1 ?side2 ?side3 ?side4 A17.out).mono ?_); (case side1 => repeat (first | exact (Kd.R_reads' HO687.out).2.2 | (with_reducible refine zCa ?_ _) | (with_reducible refine zCn ?_ _) | (with_reducible refine zCd ?_))); (case side2 => exact (Kd.R_reads' HO687.out).2.1); (case side3 => repeat (first | exact (Kd.C_below HR0.out HB.out) | (with_reducible refine zCa ?_ _) | (with_reducible refine zCn ?_ _) | (with_reducible refine zCd ?_))); (case side4 => exact HC0.out); rintro e w26 ⟨rfl, hb⟩; refine ⟨_, rfl, ?_⟩; have n0_ := zMk (Kd.R_below (by (with_reducible repeat (first | apply zRa | apply zRn | apply zRd)); exact HO_3.out) hb); have n1_ := zMk (Kd.R_below (by (with_reducible repeat (first | apply zRa | apply zRn | apply zRd)); exact HO684.out) hb); have n2_ := zMk (Kd.R_below (by (with_reducible repeat (first | apply zRa | apply zRn | apply zRd)); exact HO687.out) hb); have n3_ := zMk (zBt (by repeat (first | (with_reducible first | exact HB.out | apply zBa | apply zBn | apply zBd) | exact HB.out)) hb); clear HO_3; clear HO684; clear HO687; clear HB; have HO_3 := n0_; have HO684 := n1_; have HO687 := n2_; have HB := n3_; clear n0_ n1_ n2_ n3_; (try clear hb); (try clear hb2); (try clear hk); (try clear hi); have p19 : 0 ≤ (x4_1 : Int) := of_decide_eq_true (by first | (with_reducible assumption) | assumption); have q19 : (x4_1 : Int) < ((x3_1.length : Int) : Int) := of_decide_eq_true (by first | (with_reducible assumption) | assumption); obtain ⟨hx19_0, hf19_0⟩ := Kd.R_celln 0 HO_3.out (x4_1 : Int) p19 q19; replace p19 := eq_true p19; replace q19 := eq_true q19; obtain ⟨hy27_, hz27_⟩ := Kd.R_celln 0 HO_3.out (x4_1 : Int) (of_decide_eq_true (by first | (with_reducible assumption) | assumption)) (of_decide_eq_true (by first | (with_reducible assumption) | assumption)); have HP27 := Kd.R_putg HO_3.out (x4_1 : Int) 0) | ((with_reducible refine gate_store (t := 5) (p := 32) rfl ?_); refine store_event (t := 5) (p := 32) (v := ?vo_w28) (w1 := (w26.setCell ⟨go14, (x4_1 : Int).toNat, none⟩ (.int .u8 0))) ?hg ?ho ?hn ?hr ?_; (case ho => rfl); (case hg => rfl); (case hn => rfl); (case hr => first | (go_simp; done) | (go_simp; rfl) | (go_simp; rw [show ∀ x : Int, IntKind.u32.wrap (IntKind.u8.wrap x) = x % 256 from fun x => (by show (x % 256) % 4294967296 = x % 256; omega)])); intro w28 hw; have hg : w26.grownBy w28 (some go14) := (by rw [hw]; exact HP27.2); have hp_ : Kd.R (Kd.int .u8) 5 w28 w.heap.size (fun _ => True) (.slice (some ⟨go14, 0, none⟩) x3_1.length co10) y689 := (by rw [hw, Ny689.out]; exact HP27.1); clear HP27; have n0_ := zMk (hp_); have n1_ := zMk (Kd.R_over' (v := (.slice (some ⟨go14, 0, none⟩) x3_1.length co10)) (by (with_reducible repeat (first | apply zRa | apply zRn | apply zRd)); exact HO684.out) (Kd.R_typed HO_3.out) (by decide) hg); have n2_ := zMk (Kd.R_over' (v := (.slice (some ⟨go14, 0, none⟩) x3_1.length co10)) (by (with_reducible repeat (first | apply zRa | apply zRn | apply zRd)); exact HO687.out) (Kd.R_typed HO_3.out) (by decide) hg); have n3_ := zMk ((by rw [hw]; exact below_set (HB.out) GB14.out : Below w.heap.size w w28)); clear HO_3; clear HO684; clear HO687; clear HB; have HO_3 := n0_; have HO684 := n1_; have HO687 := n2_; have HB := n3_; clear n0_ n1_ n2_ n3_; clear hg hw hp_))
        (try simp only [← hl3_1])
        go_roundg k1
        case measure => have := HK1.out; omega
        case rel => exact ⟨(y689), (wrap64 (x4_1 - 1)), (by first | rfl | (simp; done) | (simp [*]; done)), H', ⟨by have := HK1.out; omega⟩, ⟨by (try simp only [hl3_1]); (with_reducible repeat (first | apply zRa | apply zRn | apply zRd)); exact HO_3.out⟩, ⟨by repeat (first | (with_reducible first | exact HB.out | apply zBa | apply zBn | apply zBd) | exact HB.out)⟩⟩
      · rw [if_neg c18] at H
        have c18b0 : decide (0 < t688) = false := decide_eq_false c18
        (try (have c18b0l := c18b0; simp only [hl3_1] at c18b0l))
        clear c18
        have H' := zMk H
        clear H
        have p14 : 0 ≤ (x4_1 : Int) := of_decide_eq_true (by first | (with_reducible assumption) | assumption)
        have q14 : (x4_1 : Int) < ((x3_1.length : Int) : Int) := of_decide_eq_true (by first | (with_reducible assumption) | assumption)
        obtain ⟨go14, co14, eo14, gb14, gl14, cl14, HG14⟩ := Kd.R_form HO_3.out (by omega)
        (first | cases eo14 | (injection eo14 with ea_ en_ ec_; (first | subst ea_ | (injection ea_ with ea_; subst ea_)); subst ec_; clear en_))
        have GB14 := zMk gb14
        have GG14 := zMk HG14
        clear gb14 gl14 HG14
        obtain ⟨hx14_0, hf14_0⟩ := Kd.R_celln 0 HO_3.out (x4_1 : Int) p14 q14
        replace p14 := eq_true p14
        replace q14 := eq_true q14
        have HP29 := Kd.R_putg HO_3.out (x4_1 : Int) 1
        go_wp2_with (first | ((with_reducible refine gate_store (t := 5) (p := 21) rfl ?_); refine store_event (t := 5) (p := 21) (v := ?vo_w30) (w1 := (wr.setCell ⟨go14, (x4_1 : Int).toNat, none⟩ (.int .u8 1))) ?hg ?ho ?hn ?hr ?_; (case ho => rfl); (case hg => rfl); (case hn => rfl); (case hr => first | (go_simp; done) | (go_simp; rfl) | (go_simp; rw [show ∀ x : Int, IntKind.u32.wrap (IntKind.u8.wrap x) = x % 256 from fun x => (by show (x % 256) % 4294967296 = x % 256; omega)])); intro w30 hw; have hg : wr.grownBy w30 (some go14) := (by rw [hw]; exact HP29.2); have hp_ : Kd.R (Kd.int .u8) 5 w30 w.heap.size (fun _ => True) (.slice (some ⟨go14, 0, none⟩) x3_1.length co10) y681 := (by rw [hw, Ny681.out]; exact HP29.1); clear HP29; have n0_ := zMk (hp_); have n1_ := zMk ((by rw [hw]; exact below_set (HB.out) GB14.out : Below w.heap.size w w30)); clear HO_3; clear HB; have HO_3 := n0_; have HB := n1_; clear n0_ n1_; clear hg hw hp_) | ((with_reducible refine gate_callee (f := 45) rfl ?_); refine goesL_ (some 23) rfl rfl Tryd.func45 (by kernel_rfl) rfl #[.slice (some ⟨go14, 0, none⟩) y681.length co10] rfl (by (try simp only [List.map_toArray, List.map_cons, List.map_nil]); first | done | (rw [show y681.length = x3_1.length from (Kd.R_reads' HO_3.out).1.symm] <;> rfl) | rfl | (simp only [zLd, zLt]; rfl)) ?_; (with_reducible refine (r1_limbs.calls k1 _ _ y681 t682 _ ?side1 ?side2 A15.out).mono ?_); (case side1 => repeat (first | exact (Kd.R_reads' HO_3.out).2.2 | (with_reducible refine zCa ?_ _) | (with_reducible refine zCn ?_ _) | (with_reducible refine zCd ?_))); (case side2 => rw [show y681.length = x3_1.length from (Kd.R_reads' HO_3.out).1.symm]; exact (Kd.R_reads' HO_3.out).2.1); rintro e w31 ⟨v683, rfl, ho0, hb⟩; refine ⟨_, rfl, ?_⟩; have n0_ := zMk (Kd.R_below (by (with_reducible repeat (first | apply zRa | apply zRn | apply zRd)); exact HO_3.out) hb); have n1_ := zMk (Kd.R_lower ho0 (zBs (by repeat (first | (with_reducible first | exact HB.out | apply zBa | apply zBn | apply zBd) | exact HB.out)))); have n2_ := zMk (zBt (by repeat (first | (with_reducible first | exact HB.out | apply zBa | apply zBn | apply zBd) | exact HB.out)) hb); clear HO_3; clear HB; have HO_3 := n0_; have HO684 := n1_; have HB := n2_; clear n0_ n1_ n2_; (try clear hb); (try clear hb2); (try clear hk); (try clear hi); (try clear ho0); obtain ⟨Ao32, co32, eo32⟩ := Kd.R_slice HO684.out; subst eo32) | ((with_reducible refine gate_callee (f := 24) rfl ?_); refine goesL_ (some 26) rfl rfl Tryd.func24 (by kernel_rfl) rfl #[.slice Ao32 t682.length co32, .slice Ao32 t682.length co32] rfl (by (try simp only [List.map_toArray, List.map_cons, List.map_nil]); first | done | rfl | (simp only [zLd, zLt]; rfl)) ?_; (with_reducible refine (r1_Mul.calls k1 _ _ t682 _ _ t682 t685 _ ?side1 ?side2 ?side3 ?side4 A16.out).mono ?_); (case side1 => repeat (first | exact (Kd.R_reads' HO684.out).2.2 | (with_reducible refine zCa ?_ _) | (with_reducible refine zCn ?_ _) | (with_reducible refine zCd ?_))); (case side2 => exact (Kd.R_reads' HO684.out).2.1); (case side3 => repeat (first | exact (Kd.R_reads' HO684.out).2.2 | (with_reducible refine zCa ?_ _) | (with_reducible refine zCn ?_ _) | (with_reducible refine zCd ?_))); (case side4 => exact (Kd.R_reads' HO684.out).2.1); rintro e w33 ⟨v686, rfl, ho0, hb⟩; refine ⟨_, rfl, ?_⟩; have n0_ := zMk (Kd.R_below (by (with_reducible repeat (first | apply zRa | apply zRn | apply zRd)); exact HO_3.out) hb); have n1_ := zMk (Kd.R_elder' (by (with_reducible repeat (first | apply zRa | apply zRn | apply zRd)); exact HO684.out) (Kd.R_base ho0) hb); have n2_ := zMk (Kd.R_lower (Kd.R_new' ho0 (Kd.R_lt (by (with_reducible repeat (first | apply zRa | apply zRn | apply zRd)); exact HO684.out))) (zBs (by repeat (first | (with_reducible first | exact HB.out | apply zBa | apply zBn | apply zBd) | exact HB.out)))); have n3_ := zMk (zBt (by repeat (first | (with_reducible first | exact HB.out | apply zBa | apply zBn | apply zBd) | exact HB.out)) hb); clear HO_3; clear HO684; clear HB; have HO_3 := n0_; have HO684 := n1_; have HO687 := n2_; have HB := n3_; clear n0_ n1_ n2_ n3_; (try clear hb); (try clear hb2); (try clear hk); (try clear hi); (try clear ho0); obtain ⟨Ao34, co34, eo34⟩ := Kd.R_slice HO687.out; subst eo34) | ((with_reducible refine gate_callee (f := 22) rfl ?_); refine goesL_ (some 28) rfl rfl Tryd.func22 (by kernel_rfl) rfl #[.slice Ao34 t685.length co34, .slice A0 l0.length c0] rfl (by (try simp only [List.map_toArray, List.map_cons, List.map_nil]); first | done | rfl | (simp only [zLd, zLt]; rfl)) ?_; (with_reducible refine (r1_Cmp.calls k1 _ _ t685 _ _ l0 t688 _ ?side1 ?side2 ?side3 ?side4 A17.out).mono ?_); (case side1 => repeat (first | exact (Kd.R_reads' HO687.out).2.2 | (with_reducible refine zCa ?_ _) | (with_reducible refine zCn ?_ _) | (with_reducible refine zCd ?_))); (case side2 => exact (Kd.R_reads' HO687.out).2.1); (case side3 => repeat (first | exact (Kd.C_below HR0.out HB.out) | (with_reducible refine zCa ?_ _) | (with_reducible refine zCn ?_ _) | (with_reducible refine zCd ?_))); (case side4 => exact HC0.out); rintro e w35 ⟨rfl, hb⟩; refine ⟨_, rfl, ?_⟩; have n0_ := zMk (Kd.R_below (by (with_reducible repeat (first | apply zRa | apply zRn | apply zRd)); exact HO_3.out) hb); have n1_ := zMk (Kd.R_below (by (with_reducible repeat (first | apply zRa | apply zRn | apply zRd)); exact HO684.out) hb); have n2_ := zMk (Kd.R_below (by (with_reducible repeat (first | apply zRa | apply zRn | apply zRd)); exact HO687.out) hb); have n3_ := zMk (zBt (by repeat (first | (with_reducible first | exact HB.out | apply zBa | apply zBn | apply zBd) | exact HB.out)) hb); clear HO_3; clear HO684; clear HO687; clear HB; have HO_3 := n0_; have HO684 := n1_; have HO687 := n2_; have HB := n3_; clear n0_ n1_ n2_ n3_; (try clear hb); (try clear hb2); (try clear hk); (try clear hi)))
        (try simp only [← hl3_1])
        go_roundg k1
        case measure => have := HK1.out; omega
        case rel => exact ⟨(y681), (wrap64 (x4_1 - 1)), (by first | rfl | (simp; done) | (simp [*]; done)), H', ⟨by have := HK1.out; omega⟩, ⟨by (try simp only [hl3_1]); (with_reducible repeat (first | apply zRa | apply zRn | apply zRd)); exact HO_3.out⟩, ⟨by repeat (first | (with_reducible first | exact HB.out | apply zBa | apply zBn | apply zBd) | exact HB.out)⟩⟩
    · rw [if_neg c11] at H
      have c11b0 : decide (0 ≤ x4_1) = false := decide_eq_false c11
      (try (have c11b0l := c11b0; simp only [hl3_1] at c11b0l))
      clear c11
      replace H := Option.bind_eq_some_iff.mp H
      obtain ⟨t678, A360, H⟩ := H
      have A36 := zMk A360
      clear A360
      obtain rfl := zOi H
      go_wp2_with (first | ((with_reducible refine gate_callee (f := 45) rfl ?_); refine goesL_ (some 34) rfl rfl Tryd.func45 (by kernel_rfl) rfl #[.slice Ao10 x3_1.length co10] rfl (by (try simp only [List.map_toArray, List.map_cons, List.map_nil]); first | done | rfl | (simp only [zLd, zLt]; rfl)) ?_; (with_reducible refine (r1_limbs.calls k1 _ _ x3_1 t678 _ ?side1 ?side2 A36.out).mono ?_); (case side1 => repeat (first | exact (Kd.R_reads' HO_3.out).2.2 | (with_reducible refine zCa ?_ _) | (with_reducible refine zCn ?_ _) | (with_reducible refine zCd ?_))); (case side2 => exact (Kd.R_reads' HO_3.out).2.1); rintro e w37 ⟨v679, rfl, ho0, hb⟩; refine ⟨_, rfl, ?_⟩; have n0_ := zMk (Kd.R_below (by (with_reducible repeat (first | apply zRa | apply zRn | apply zRd)); exact HO_3.out) hb); have n1_ := zMk (Kd.R_lower ho0 (zBs (by repeat (first | (with_reducible first | exact HB.out | apply zBa | apply zBn | apply zBd) | exact HB.out)))); have n2_ := zMk (zBt (by repeat (first | (with_reducible first | exact HB.out | apply zBa | apply zBn | apply zBd) | exact HB.out)) hb); clear HO_3; clear HB; have HO_3 := n0_; have HO680 := n1_; have HB := n2_; clear n0_ n1_ n2_; (try clear hb); (try clear hb2); (try clear hk); (try clear hi); (try clear ho0)))
      go_ret
      exact ⟨_, by first | rfl | (simp [errW_none, errW_some] <;> rfl) | (simp only [← hji3]; first | rfl | (simp [errW_none, errW_some] <;> rfl)) | (simp [*, errW_none, errW_some] <;> rfl), by (with_reducible repeat (first | apply zRa | apply zRn | apply zRd)); exact HO680.out, by repeat (first | (with_reducible first | exact HB.out | apply zBa | apply zBn | apply zBd) | exact HB.out)⟩
  · rw [if_neg c4] at H
    exact absurd H (by simp)

/- The plain law of the document's root. -/
theorem rsqrt_l0 (a : List Int) (ha : Limbs a) (la : a.length ≤ 20) (W : Nat) (hW : W ≤ 500) :
    ∀ (m k : Nat) (R : List Int), m ≤ W → R.length = W → Bits R → (∀ i, i < m → R.getD i 0 = 0) → Aside0 (bval R * bval R ≤ val a) → Aside0 (val a < (bval R + Tp m) * (bval R + Tp m)) → 20000 + m ≤ k →
    ∃ r s, r1_Sqrt.l0 k a R ((m : Int) - 1) = some r ∧ IsNum r s ∧ IsRoot s (val a) := by
  intro m
  induction m with
  | zero =>
    intro k R _ hR bR _ h1 h2 hk
    obtain ⟨k, rfl⟩ : ∃ d, k = d + 1 := ⟨k - 1, by omega⟩
    obtain ⟨q, e1, n1, _⟩ := limbs_f R bR (by omega) k (by omega)
    have h3 := h2.out
    rw [Tp_zero] at h3
    exact ⟨q, bval R, by rw [r1_Sqrt.l0, if_neg (by omega), e1]; rfl, n1, (bval_bounds bR).1, h1.out, h3⟩
  | succ m ih =>
    intro k R hm hR bR hz h1 h2 hk
    obtain ⟨k, rfl⟩ : ∃ d, k = d + 1 := ⟨k - 1, by omega⟩
    have bS : Bits (R.set m 1) := bR.set m (.inr rfl)
    have hSl : (R.set m 1).length = W := by rw [List.length_set]; exact hR
    have hS : bval (R.set m 1) = bval R + Tp m := by rw [bval_set _ _ _ (by omega), hz m (by omega)]; omega
    obtain ⟨t, e1, n1, l1⟩ := limbs_f (R.set m 1) bS (by omega) k (by omega)
    obtain ⟨p, e2, n2⟩ := rmul_f t t n1.limbs n1.limbs (by omega) (by omega) k (by omega)
    rw [n1.eq, hS] at n2
    have hpl : p.length ≤ 40 := by
      refine len_of_lt n2 ?_
      have h3 := val_ltB n1.limbs
      rw [n1.eq, hS] at h3
      have h4 : Bp t.length ≤ Bp 20 := pow_upB (by omega)
      have h5 := (bval_bounds bR).1
      have h6 := Tp_pos m
      have h7 := sq_lt (a := bval R + Tp m) (b := Bp 20) (by omega) (by omega)
      rw [← Bp_add] at h7
      exact h7
    have hl0 : r1_Sqrt.l0 (k + 1) a R (((m + 1 : Nat) : Int) - 1) = if cmpI (val p) (val a) > 0 then r1_Sqrt.l0 k a ((R.set m 1).set m 0) ((m : Int) - 1) else r1_Sqrt.l0 k a (R.set m 1) ((m : Int) - 1) := by
      rw [show ((m + 1 : Nat) : Int) - 1 = (m : Int) by omega, r1_Sqrt.l0, if_pos (by omega), if_pos (by omega), if_pos (by omega), zOb, zTn, e1, zOb, e2, zOb, rcmp_f p a n2.limbs ha (by omega) (by omega) k (by omega), zOb, w64 (n := (m : Int) - 1) (by omega) (by omega)]
    have hp2 := Tp_succ m
    rw [hl0, n2.eq]
    by_cases hc : val a < (bval R + Tp m) * (bval R + Tp m)
    · have hcm : cmpI ((bval R + Tp m) * (bval R + Tp m)) (val a) > 0 := by
        unfold cmpI
        rw [if_neg (by omega), if_pos hc]
        decide
      rw [if_pos hcm]
      have hb : bval ((R.set m 1).set m 0) = bval R := by
        rw [bval_set _ _ _ (by omega), hS, getD_set_eq _ _ (by omega)]
        grind
      exact ih k ((R.set m 1).set m 0) (by omega) (by rw [List.length_set]; exact hSl) (bS.set m (.inl rfl)) (fun i hi => by rw [getD_set_ne _ _ (by omega), getD_set_ne _ _ (by omega)]; exact hz i (by omega)) ⟨by rw [hb]; exact h1.out⟩ ⟨by rw [hb]; exact hc⟩ (by omega)
    · have hcm : ¬ cmpI ((bval R + Tp m) * (bval R + Tp m)) (val a) > 0 := by
        unfold cmpI
        split <;> (first | decide | (rw [if_neg hc]; decide))
      rw [if_neg hcm]
      refine ih k (R.set m 1) (by omega) hSl bS (fun i hi => by rw [getD_set_ne _ _ (by omega)]; exact hz i (by omega)) ⟨by rw [hS]; omega⟩ ⟨?_⟩ (by omega)
      rw [hS, show bval R + Tp m + Tp m = bval R + Tp (m + 1) by omega]
      exact h2.out
theorem rsqrt_f (a : List Int) (ha : Limbs a) (la : a.length ≤ 20) (k : Nat) (hk : 30000 ≤ k) : ∃ r s, r1_Sqrt.f k a = some r ∧ IsNum r s ∧ IsRoot s (val a) := by
  have hbl := bitsOf_length a
  obtain ⟨W, hW⟩ : ∃ W, W = (bitsOf a).length / 2 + 1 := ⟨_, rfl⟩
  have e1 : Aside0 (wrap64 ((wrap64 (((bitsOf a).length : Int) / 2)) + 1) = ((W : Nat) : Int)) := ⟨by
    have h2 : wrap64 (((bitsOf a).length : Int) / 2) = (((bitsOf a).length / 2 : Nat) : Int) := w64e (by omega) (by omega)
    rw [h2]
    exact w64e (by omega) (by omega)⟩
  have hA : Aside0 (val a < (bval (List.replicate W 0) + Tp W) * (bval (List.replicate W 0) + Tp W)) := ⟨by
    have h1 := bval_lt (bitsOf_bits a)
    rw [bval_bitsOf ha] at h1
    rw [bval_zero, Int.zero_add, ← Tp_add]
    have h2 : Tp (W + W) = Tp (bitsOf a).length * Tp (W + W - (bitsOf a).length) := by rw [← Tp_add]; congr 1; omega
    have h3 := Tp_pos (W + W - (bitsOf a).length)
    have h4 : Tp (bitsOf a).length * 1 ≤ Tp (bitsOf a).length * Tp (W + W - (bitsOf a).length) := Int.mul_le_mul_of_nonneg_left (by omega) (Int.le_of_lt (Tp_pos _))
    rw [h2]
    omega⟩
  obtain ⟨r, s, h1, h2, h3⟩ := rsqrt_l0 a ha la W (by omega) W k (List.replicate W 0) (Nat.le_refl _) (by simp) (bits_zero _) (fun i _ => zeros_getD _ i) ⟨by rw [bval_zero]; have := val_nonneg ha; omega⟩ hA (by omega)
  refine ⟨r, s, ?_, h2, h3⟩
  unfold r1_Sqrt.f
  rw [bits_f a ha (by omega) k (by omega), zOb, e1.out, if_pos (by omega), zTn, if_pos (by omega), zOb, List.length_replicate, w64 (by omega) (by omega)]
  exact h1

/-! ### w1_NaturalRoots: function 6 -/
def w1_NaturalRoots.f (k : Nat) (l0 : List Int) : Option (Bool) := if (l0.length : Int) > 6 then (some true) else ((n_Sqrt.f k l0).bind fun t690 => ((r1_Sqrt.f k l0).bind fun t693 => ((r1_Same.f k t690 t693).bind fun t696 => (if t696 = true then ((w1_alive.f k).bind fun t697 => (some t697)) else (some false)))))
set_option maxHeartbeats 8000000 in
set_option maxRecDepth 100000 in
theorem w1_NaturalRoots.calls (k : Nat) (A0 : Option Addr) (c0 : Nat) (l0 : List Int) (r : Bool) (w : World) (hr0 : Kd.C (Kd.int .u32) w A0 l0.length l0) (hc0 : l0.length ≤ c0) (h : w1_NaturalRoots.f k l0 = some r) (hr_ : r = true) :
    Calls Tryd.prog 6 #[.slice A0 l0.length c0] w fun e w' => e = .returned (.bool r) ∧ Below w.heap.size w w' := by
  have HRT := zMk hr_
  clear hr_
  have HR0 := zMk hr0
  have HC0 := zMk hc0
  clear hr0 hc0
  have HB := zMk (Below.refl w.heap.size w)
  have H : (if (l0.length : Int) > 6 then (some true) else ((n_Sqrt.f k l0).bind fun t690 => ((r1_Sqrt.f k l0).bind fun t693 => ((r1_Same.f k t690 t693).bind fun t696 => (if t696 = true then ((w1_alive.f k).bind fun t697 => (some t697)) else (some false)))))) = some r := h
  clear h
  by_cases c2 : (l0.length : Int) > 6
  · rw [if_pos c2] at H
    have c2b0 : decide (6 < (l0.length : Int)) = true := decide_eq_true c2
    have c2b1 : decide (6 < l0.length) = true := decide_eq_true (by omega)
    clear c2
    obtain rfl := zOi H
    go_enter Tryd.func6, Tryd.ntmps6
    go_wp2
    go_ret
    exact ⟨by first | rfl | (simp [errW_none, errW_some] <;> rfl) | (simp [*, errW_none, errW_some] <;> rfl), by repeat (first | (with_reducible first | exact HB.out | apply zBa | apply zBn | apply zBd) | exact HB.out)⟩
  · rw [if_neg c2] at H
    have c2b0 : decide (6 < (l0.length : Int)) = false := decide_eq_false c2
    have c2b1 : decide (6 < l0.length) = false := decide_eq_false (by omega)
    clear c2
    replace H := Option.bind_eq_some_iff.mp H
    obtain ⟨t690, A30, H⟩ := H
    have A3 := zMk A30
    clear A30
    replace H := Option.bind_eq_some_iff.mp H
    obtain ⟨t693, A40, H⟩ := H
    have A4 := zMk A40
    clear A40
    replace H := Option.bind_eq_some_iff.mp H
    obtain ⟨t696, A50, H⟩ := H
    have A5 := zMk A50
    clear A50
    by_cases c6 : t696 = true
    · subst c6
      have H1 : ((w1_alive.f k).bind fun t697 => (some t697)) = some r := by rw [if_pos rfl] at H; exact H
      clear H
      have H := H1
      clear H1
      replace H := Option.bind_eq_some_iff.mp H
      obtain ⟨t697, A70, H⟩ := H
      have A7 := zMk A70
      clear A70
      obtain rfl := zOi H
      go_enter Tryd.func6, Tryd.ntmps6
      go_wp2_with (first | (go_at_call 27; (with_reducible refine (n_Sqrt.calls k (fun k_ => k_ < w.heap.size) _ _ l0 t690 _ ?side1 A3.out).mono ?_); (case side1 => exact Kd.V_mk HC0.out (Kd.F_below (Kd.C_F (Kd.heap_int .u32) HR0.out) (by repeat (first | (with_reducible first | exact HB.out | apply zBa | apply zBn | apply zBd) | exact HB.out)))); rintro e w8 ⟨v691, rfl, ho0, hb⟩; have n0_ := zMk (Kd.V_lower (zVm (ok' := fun k_ => True) ho0 (fun k_ hk_ => trivial)) (zBs (by repeat (first | (with_reducible first | exact HB.out | apply zBa | apply zBn | apply zBd) | exact HB.out)))); have n1_ := zMk (zBt (by repeat (first | (with_reducible first | exact HB.out | apply zBa | apply zBn | apply zBd) | exact HB.out)) hb); clear HB; have HO692 := n0_; have HB := n1_; clear n0_ n1_; (try clear hb); (try clear hb2); (try clear hk); (try clear hi); (try clear ho0)) | (go_at_call 28; (with_reducible refine (r1_Sqrt.calls k _ _ l0 t693 _ ?side1 ?side2 A4.out).mono ?_); (case side1 => repeat (first | exact (Kd.C_below HR0.out HB.out) | (with_reducible refine zCa ?_ _) | (with_reducible refine zCn ?_ _) | (with_reducible refine zCd ?_))); (case side2 => exact HC0.out); rintro e w9 ⟨v694, rfl, ho0, hb⟩; have n0_ := zMk (Kd.V_elder' (by (with_reducible repeat (first | apply zVa | apply zVn | apply zVd)); exact HO692.out) (Kd.R_base ho0) hb); have n1_ := zMk (Kd.R_lower ho0 (zBs (by repeat (first | (with_reducible first | exact HB.out | apply zBa | apply zBn | apply zBd) | exact HB.out)))); have n2_ := zMk (zBt (by repeat (first | (with_reducible first | exact HB.out | apply zBa | apply zBn | apply zBd) | exact HB.out)) hb); clear HO692; clear HB; have HO692 := n0_; have HO695 := n1_; have HB := n2_; clear n0_ n1_ n2_; (try clear hb); (try clear hb2); (try clear hk); (try clear hi); (try clear ho0); obtain ⟨Ao10, co10, eo10⟩ := Kd.V_slice HO692.out; subst eo10; obtain ⟨Ao11, co11, eo11⟩ := Kd.R_slice HO695.out; subst eo11) | (go_at_call 16; (with_reducible refine (r1_Same.calls k _ _ t690 _ _ t693 true _ ?side1 ?side2 ?side3 ?side4 A5.out).mono ?_); (case side1 => repeat (first | exact (Kd.V_reads' HO692.out).2.2 | (with_reducible refine zCa ?_ _) | (with_reducible refine zCn ?_ _) | (with_reducible refine zCd ?_))); (case side2 => exact (Kd.V_reads' HO692.out).2.1); (case side3 => repeat (first | exact (Kd.R_reads' HO695.out).2.2 | (with_reducible refine zCa ?_ _) | (with_reducible refine zCn ?_ _) | (with_reducible refine zCd ?_))); (case side4 => exact (Kd.R_reads' HO695.out).2.1); rintro e w' ⟨rfl, ⟨nd, rfl⟩⟩) | (go_at_call 15; (with_reducible refine (w1_alive.calls k  t697 _ A7.out).mono ?_); rintro e w12 ⟨rfl, hb⟩; have n0_ := zMk (zVb (by (with_reducible repeat (first | apply zVa | apply zVn | apply zVd)); exact HO692.out) hb); have n1_ := zMk (Kd.R_below (by (with_reducible repeat (first | apply zRa | apply zRn | apply zRd)); exact HO695.out) hb); have n2_ := zMk (zBt (by repeat (first | (with_reducible first | exact HB.out | apply zBa | apply zBn | apply zBd) | exact HB.out)) hb); clear HO692; clear HO695; clear HB; have HO692 := n0_; have HO695 := n1_; have HB := n2_; clear n0_ n1_ n2_; (try clear hb); (try clear hb2); (try clear hk); (try clear hi)))
      go_ret
      exact ⟨by first | rfl | (simp [errW_none, errW_some] <;> rfl) | (simp [*, errW_none, errW_some] <;> rfl), by repeat (first | (with_reducible first | exact HB.out | apply zBa | apply zBn | apply zBd) | exact HB.out)⟩
    · replace c6 := Bool.eq_false_iff.mpr c6
      subst c6
      have H1 : (some false) = some r := by rw [if_neg (show ¬ (false = true) by decide)] at H; exact H
      clear H
      have H := H1
      clear H1
      exact absurd ((zOi H).trans HRT.out) (by decide)

/-- What the walk leaves: a statement of plain lists and numbers. -/
def w1_NaturalRoots.Pure : Prop := ∀ (l0 : List Int), l0.length ≤ maxLen → l0.length * 4 ≤ 140737488351232 → (∀ x ∈ l0, (Lit.int .u32 x).wf = true) → ∃ k, w1_NaturalRoots.f k l0 = some true
/- The plain law of NaturalRoots. -/
theorem pure_NaturalRoots : w1_NaturalRoots.Pure := by
  intro a m1 _ h1
  have A := limbs_of_wf h1
  obtain ⟨k, hk⟩ : ∃ k : Nat, k = 1000000 := ⟨_, rfl⟩
  refine ⟨k, ?_⟩
  unfold w1_NaturalRoots.f
  by_cases ha : (a.length : Int) > 6
  · rw [if_pos ha]
  · rw [if_neg ha]
    obtain ⟨r, s, e1, n1, r1⟩ := sqrt_f a A (by omega) k (by omega)
    obtain ⟨t, u, e2, n2, r2⟩ := rsqrt_f a A (by omega) k (by omega)
    have hs : s = u := r1.unique r2
    rw [← hs] at n2
    obtain rfl := n1.unique n2
    have va := val_nonneg A
    have hs2 : s ≤ val a := by
      obtain ⟨b1, b2, b3⟩ := r1
      rcases Int.lt_or_le (val a) s with h | h
      · have h3 : s * 1 ≤ s * s := Int.mul_le_mul_of_nonneg_left (by omega) b1
        omega
      · exact h
    have hrl : r.length ≤ a.length := len_of_lt n1 (Int.lt_of_le_of_lt hs2 (val_ltB A))
    rw [e1, zOb, e2, zOb, same_f r (by omega) k (by omega), zOb, if_pos rfl, alive_f k (by omega)]
    rfl
end Go.Proofs.YtihlelniaiadgaaDoor.D
