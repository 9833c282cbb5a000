/- Lemmas for the statement: the walks of the functions that it reaches, and plain laws. -/
import Derived.Test.YtihlelniaiadgaaDoorDm3
import Derived.Test.YtihlelniaiadgaaDoorDm1
set_option linter.unusedVariables false
set_option linter.unusedSimpArgs false
namespace Go.Proofs.YtihlelniaiadgaaDoor.D
open Go Go.RowKit Go.Proofs.YtihlelniaiadgaaDoorW.PrintWords Go.Proofs.YtihlelniaiadgaaDoorW.PrintLast Go.Proofs.YtihlelniaiadgaaDoorW.PrintMore
attribute [local go_sem] max2_int min2_int max_two min_two max_three min_three max_four min_four
open Go.Proofs.YtihlelniaiadgaaDoorW.PrintWords.Kd renaming R_alloc → zRa, R_drewN → zRn, R_drew → zRd, V_alloc → zVa, V_drewN → zVn, V_drew → zVd, V_below → zVb, C_alloc → zCa, C_drewN → zCn, C_drew → zCd, R_mono → zRm, V_mono → zVm, at_int → zAi
open Go.Proofs.YtihlelniaiadgaaDoorW.PrintWords renaming pw_below_drewN → zBn, below_alloc → zBa, below_drew1 → zBd, below_size → zBs, below_step → zBt
open List renaming setIfInBounds_toArray → zSa, set_cons_zero → zSb, set_cons_succ → zSc, length_drop → zLd, length_take → zLt
open Go.Proofs.YtihlelniaiadgaaDoorW.PrintWords.Aside0 renaming mk → zMk
open Option renaming bind_eq_some_iff → zBi, bind_some → zOb
open Option.some renaming inj → zOi
open Int renaming toNat_natCast → zTn
/- The plain law of the program's quotient and rest. -/
/-- A limb's weight: a word of its own, so that no tactic reckons with the power. -/
@[irreducible] def Bp (n : Nat) : Int := (4294967296 : Int) ^ n
theorem Bp_zero : Bp 0 = 1 := by unfold Bp; rfl
theorem Bp_succ (n : Nat) : Bp (n + 1) = Bp n * 4294967296 := by unfold Bp; exact Int.pow_succ 4294967296 n
theorem Bp_add (m n : Nat) : Bp (m + n) = Bp m * Bp n := by unfold Bp; exact Int.pow_add 4294967296 m n
theorem Bp_pos (n : Nat) : 0 < Bp n := by unfold Bp; exact Int.pow_pos (by decide)
theorem pow_upB {m n : Nat} (h : m ≤ n) : Bp m ≤ Bp n := by unfold Bp; exact pow_up h
theorem val_appendB (a b : List Int) : val (a ++ b) = val a + Bp a.length * val b := by unfold Bp; exact val_append a b
theorem val_setB (l : List Int) (n : Nat) (v : Int) (h : n < l.length) : val (l.set n v) = val l + Bp n * (v - l.getD n 0) := by unfold Bp; exact val_set l n v h
theorem val_take_succB (l : List Int) (n : Nat) : val (l.take (n + 1)) = val (l.take n) + Bp n * l.getD n 0 := by unfold Bp; exact val_take_succ' l n
theorem val_ltB {l : List Int} (h : Limbs l) : val l < Bp l.length := by unfold Bp; exact val_lt h
theorem val_geB {l : List Int} (h : Limbs l) (ht : Trim l) (hn : l ≠ []) : Bp (l.length - 1) ≤ val l := by unfold Bp; exact val_ge h ht hn
theorem val_splitB (l : List Int) (n : Nat) (h : n ≤ l.length) : val l = val (l.take n) + Bp n * val (l.drop n) := by
  have h0 := val_appendB (l.take n) (l.drop n)
  rw [List.take_append_drop, zLt, Nat.min_eq_left h] at h0
  exact h0
theorem less_l0B (b : List Int) (hb : Limbs b) (N : Nat) (hN : N < 4611686018427387904) (k : Nat) (X : List Int) (hX : X.length = N) (lX : Limbs X) :
    ∃ X' c', n_less.l0 (k + N + 1) X b 0 (N : Int) 0 = some (c', X') ∧ X'.length = N ∧ Limbs X' ∧ (c' = 0 ∨ c' = 1) ∧ val X' - c' * Bp N + val (b.take N) = val X := by unfold Bp; exact less_l0 b hb N hN (val X) N 0 k X 0 (by omega) hX lX (.inl rfl) (by simp [val])
theorem w64e {x : Int} {m : Nat} (h : x = (m : Int)) (hm : m < 4611686018427387904) : wrap64 x = (m : Int) := by rw [h]; exact w64 (by omega) (by omega)
theorem Limbs.drop {l : List Int} (h : Limbs l) (n : Nat) : Limbs (l.drop n) := fun x hx => h x (List.mem_of_mem_drop hx)
theorem Limbs.append {a b : List Int} (ha : Limbs a) (hb : Limbs b) : Limbs (a ++ b) := fun x hx => by
  rcases List.mem_append.1 hx with h | h
  · exact ha x h
  · exact hb x h
theorem len_of_lt {l : List Int} {v : Int} {m : Nat} (h : IsNum l v) (hv : v < Bp m) : l.length ≤ m := by
  rcases Nat.lt_or_ge m l.length with hlt | hge
  · have h1 := val_geB h.limbs h.trim (by intro h0; rw [h0] at hlt; exact absurd hlt (by simp))
    have h2 : Bp m ≤ Bp (l.length - 1) := pow_upB (by omega)
    rw [h.eq] at h1
    omega
  · exact hge
theorem of2_num (a : Int) (h0 : 0 ≤ a) (h1 : a < 18446744073709551616) : IsNum (of2 a) a := by
  have hl : Limbs [a % 4294967296, a / 4294967296] := Limbs.mk (by omega) (by omega) (Limbs.mk (by omega) (by omega) Limbs.nil)
  have := IsNum.cut hl
  rw [show val [a % 4294967296, a / 4294967296] = a by simp only [val]; omega] at this
  exact this
theorem IsNum.nil : IsNum [] 0 := ⟨Limbs.nil, .inl rfl, rfl⟩
theorem less_at_f (u p : List Int) (hu : Limbs u) (hp : Limbs p) (j n : Nat) (hj : j + n + 1 ≤ u.length) (hum : u.length < 35184372088832) (hpl : p.length ≤ n + 1) (hz : val (u.drop (j + n + 1)) = 0) (k : Nat) (hk : n + 2 ≤ k) :
    ∃ c u', n_less_at.f k u (j : Int) ((j + n + 1 : Nat) : Int) p = some (c, u') ∧ u'.length = u.length ∧ Limbs u' ∧ (c = 0 ∨ c = 1) ∧ val u' - c * Bp (j + n + 1) + Bp j * val p = val u ∧ val (u'.drop (j + n + 1)) = 0 := by
  obtain ⟨s, hs⟩ : ∃ s, s = (u.take (j + n + 1)).drop j := ⟨_, rfl⟩
  have hsl : s.length = n + 1 := by rw [hs, zLd, zLt]; omega
  have hsL : Limbs s := by rw [hs]; exact (hu.take _).drop _
  obtain ⟨d, rfl⟩ : ∃ d, k = d + (n + 1) + 1 := ⟨k - (n + 2), by omega⟩
  obtain ⟨s', c, h1, h2, h3, h4, h5⟩ := less_l0B p hp (n + 1) (by omega) d s hsl hsL
  rw [List.take_of_length_le hpl] at h5
  have hv1 : val u = val (u.take j) + Bp j * val s := by
    have g1 := val_splitB u (j + n + 1) hj
    rw [hz, Int.mul_zero, Int.add_zero] at g1
    have g2 := val_splitB (u.take (j + n + 1)) j (by rw [zLt]; omega)
    rw [List.take_take, Nat.min_eq_left (by omega), ← hs] at g2
    rw [g1, g2]
  have htl : (u.take j).length = j := by rw [zLt]; omega
  refine ⟨c, u.take j ++ (s' ++ u.drop (j + n + 1)), ?_, ?_, ?_, h4, ?_, ?_⟩
  · unfold n_less_at.f
    rw [zTn, zTn, if_pos (by omega), if_pos hj, ← hs]
    unfold n_less.f
    rw [hsl, h1]
    rfl
  · rw [List.length_append, List.length_append, htl, h2, zLd]; omega
  · exact (hu.take _).append (h3.append (hu.drop _))
  · rw [val_appendB, val_appendB, htl, hz, Int.mul_zero, Int.add_zero, hv1, show j + n + 1 = j + (n + 1) by omega, Bp_add]
    rw [← h5]
    grind
  · rw [← List.append_assoc, List.drop_append_of_le_length (by rw [List.length_append, htl, h2]; omega), List.drop_of_length_le (by rw [List.length_append, htl, h2]; omega), List.nil_append, hz]
theorem back_l2 (Q v : List Int) (x9 g : Int) (n j L : Nat) (hv : Limbs v) (hn : v.length = n) (hj : j + n + 1 ≤ L) (hL : L < 35184372088832) (hQ : j < Q.length) (hQm : Q.length < 35184372088832) (W : Int) :
    ∀ (d i k : Nat) (X : List Int) (c : Int), i + d = n + 1 → X.length = L → Limbs X → (c = 0 ∨ c = 1) → Aside0 (val X + c * Bp (j + i) = W + Bp j * val (v.take i)) → Aside0 (val (X.drop (j + n + 1)) = 0) →
    ∃ X' c', n_DivMod.l2 (k + d + 1) Q x9 X v (n : Int) (j : Int) g c ((n + 1 : Nat) : Int) (i : Int) = n_DivMod.l0 k (Q.set j (g % 4294967296)) x9 X' v (n : Int) ((j : Int) - 1) ∧ X'.length = L ∧ Limbs X' ∧ (c' = 0 ∨ c' = 1) ∧ val X' + c' * Bp (j + n + 1) = W + Bp j * val v ∧ val (X'.drop (j + n + 1)) = 0 := by
  intro d
  induction d with
  | zero =>
    intro i k X c hi hX lX hc hT hz
    obtain rfl : i = n + 1 := by omega
    refine ⟨X, c, ?_, hX, lX, hc, ?_, hz.out⟩
    · rw [n_DivMod.l2, if_neg (by omega), if_pos (by omega), if_pos (by omega), zTn, w64 (by omega) (by omega)]
    · have h_ := hT.out
      rw [List.take_of_length_le (by omega)] at h_
      exact h_
  | succ d ih =>
    intro i k X c hi hX lX hc hT hz
    have e1 : Aside0 (wrap64 ((j : Int) + (i : Int)) = ((j + i : Nat) : Int)) := ⟨w64e (by omega) (by omega)⟩
    have e2 : Aside0 (wrap64 ((i : Int) + 1) = ((i + 1 : Nat) : Int)) := ⟨w64e (by omega) (by omega)⟩
    obtain ⟨s, c', e, d0, d1, hc', hd⟩ := add32_f (X.getD (j + i) 0) (v.getD i 0) c (lX.getD _) (hv.getD i) hc
    obtain ⟨X', c'', h1, h2, h3, h4, h5, h6⟩ := ih (i + 1) k (X.set (j + i) s) c' (by omega) (by rw [List.length_set]; exact hX) (lX.set _ d0 d1) hc' (by
        refine ⟨?_⟩
        rw [val_setB _ _ _ (by omega), val_take_succB v i, show j + (i + 1) = (j + i) + 1 by omega, Bp_succ, Bp_add]
        have h_ := hT.out
        rw [Bp_add] at h_
        generalize Bp j = P at *
        generalize Bp i = R at *
        generalize val (v.take i) = Z at *
        clear ih hT hz
        grind) ⟨by rw [List.drop_set, if_pos (by omega)]; exact hz.out⟩
    refine ⟨X', c'', ?_, h2, h3, h4, h5, h6⟩
    rw [show k + (d + 1) + 1 = (k + d + 1) + 1 by omega, n_DivMod.l2, if_pos (by omega)]
    by_cases hin : (i : Int) < (n : Int)
    · rw [if_pos hin, if_pos (by omega), if_pos (by omega), e1.out, if_pos (by omega), if_pos (by omega), rd_nat, rd_nat, e, zOb, zTn, e2.out]
      exact h1
    · rw [getD_ge v (by omega)] at e
      rw [if_neg hin, e1.out, if_pos (by omega), if_pos (by omega), rd_nat, e, zOb, zTn, e2.out]
      exact h1
theorem round_j3 (Q u v : List Int) (x9 : Int) (n j : Nat) (hv : Limbs v) (hu : Limbs u) (hn : v.length = n) (hj : j + n + 1 ≤ u.length) (hum : u.length < 35184372088832) (hQ : j < Q.length) (hQm : Q.length < 35184372088832) (hz : Aside0 (val (u.drop (j + n + 1)) = 0)) (hnm : n < 1000000)
    (qd g : Int) (hq0 : 0 ≤ qd) (hqg : qd ≤ g) (hgq : g ≤ qd + 1) (hg : g < 4294967296) (h0_ : 0 ≤ val u - Bp j * (val v * qd)) (h1_ : val u - Bp j * (val v * qd) < Bp j * val v) (k : Nat) (hk : 5 * n + 20 ≤ k) :
    ∃ u' k', n_DivMod.j3 k Q x9 u v (n : Int) (j : Int) g = n_DivMod.l0 k' (Q.set j qd) x9 u' v (n : Int) ((j : Int) - 1) ∧ u'.length = u.length ∧ Limbs u' ∧ val u' = val u - Bp j * (val v * qd) ∧ k ≤ k' + n + 4 := by
  have h01 : Aside0 (0 ≤ val u - Bp j * (val v * qd) ∧ val u - Bp j * (val v * qd) < Bp j * val v) := ⟨h0_, h1_⟩
  clear h0_ h1_
  obtain ⟨k, rfl⟩ : ∃ d, k = d + n + 4 := ⟨k - (n + 4), by omega⟩
  have e1 : Aside0 (wrap64 ((j : Int) + (n : Int)) = ((j + n : Nat) : Int)) := ⟨w64e (by omega) (by omega)⟩
  have e6 : Aside0 (wrap64 (((j + n : Nat) : Int) + 1) = ((j + n + 1 : Nat) : Int)) := ⟨w64e (by omega) (by omega)⟩
  have e7 : Aside0 (wrap64 ((n : Int) + 1) = ((n + 1 : Nat) : Int)) := ⟨w64e (by omega) (by omega)⟩
  obtain ⟨o, og, ogl, hof⟩ : ∃ o, IsNum o g ∧ o.length ≤ 2 ∧ n_Of.f g = some o := ⟨of2 g, of2_num g (by omega) (by omega), cut_length _, of_f g (by omega) (by omega)⟩
  have hmk : (o.length + 2) * v.length + 1 ≤ k + n + 3 := by
    have : (o.length + 2) * v.length ≤ 4 * n := Nat.mul_le_mul (by omega) (by omega)
    omega
  obtain ⟨p, f1, f2, f3⟩ := mul_f v o hv og.limbs (by omega) (k + n + 3) hmk
  clear hmk
  rw [og.eq] at f2
  have hpl : p.length ≤ n + 1 := by
    refine len_of_lt f2 ?_
    have hV0 := val_nonneg hv
    have hV1 := val_ltB hv
    rw [hn] at hV1
    have h5 : val v * g ≤ val v * 4294967296 := Int.mul_le_mul_of_nonneg_left (by omega) hV0
    rw [Bp_succ]
    omega
  obtain ⟨c, u1, a1, a2, a3, a4, a5, a6⟩ := less_at_f u p hu f2.limbs j n hj hum hpl hz.out (k + n + 3) (by omega)
  rw [f2.eq] at a5
  have A5 := zMk a5
  have A6 := zMk a6
  clear a5 a6
  have hj3 : n_DivMod.j3 (k + n + 4) Q x9 u v (n : Int) (j : Int) g = if c > 0 then n_DivMod.l2 (k + n + 3) Q x9 u1 v (n : Int) (j : Int) (IntKind.u64.wrap (g - 1)) 0 ((n + 1 : Nat) : Int) 0 else n_DivMod.l0 (k + n + 3) (Q.set j (g % 4294967296)) x9 u1 v (n : Int) ((j : Int) - 1) := by
    rw [show k + n + 4 = (k + n + 3) + 1 from rfl, n_DivMod.j3, hof, zOb, f1, zOb, if_pos (by omega), e1.out, e6.out, if_pos (by omega), if_pos (by omega), a1, zOb, e7.out, zTn, if_pos (show ((j : Int)) < (Q.length : Int) by omega), w64 (n := (j : Int) - 1) (by omega) (by omega)]
  have bound : ∀ X : List Int, Limbs X → X.length = u.length → Aside0 (val (X.drop (j + n + 1)) = 0) → val X < Bp (j + n + 1) := by
    intro X hX hXl hXz
    have hmin : (X.take (j + n + 1)).length = j + n + 1 := by rw [zLt]; omega
    have g1 := val_splitB X (j + n + 1) (by omega)
    rw [hXz.out, Int.mul_zero, Int.add_zero] at g1
    have g2 := val_ltB (hX.take (j + n + 1))
    rw [hmin, ← g1] at g2
    exact g2
  have hV0 := val_nonneg hv
  have hu1 := val_nonneg a3
  have hPj := Int.le_of_lt (Bp_pos j)
  have hle : Bp j * (val v * qd) ≤ Bp j * (val v * g) := Int.mul_le_mul_of_nonneg_left (Int.mul_le_mul_of_nonneg_left hqg hV0) hPj
  have hsplit : Bp j * (val v * (qd + 1)) = Bp j * (val v * qd) + Bp j * val v := by rw [Int.mul_add, Int.mul_add, Int.mul_one]
  have hle2 : qd < g → Bp j * (val v * qd) + Bp j * val v ≤ Bp j * (val v * g) := fun hlt => by
    rw [← hsplit]
    exact Int.mul_le_mul_of_nonneg_left (Int.mul_le_mul_of_nonneg_left (by omega) hV0) hPj
  have HS := zMk hsplit
  have HL := zMk hle
  have HL2 := zMk hle2
  clear hsplit hle hle2
  rcases a4 with rfl | rfl
  · have hgq2 : g = qd := by
      rcases Int.lt_or_le qd g with hlt | _
      · exfalso
        have h1 := HL2.out hlt
        have h2 := A5.out
        rw [Int.zero_mul, Int.sub_zero] at h2
        obtain ⟨h3, h4⟩ := h01.out
        generalize Bp j * (val v * g) = a at *
        generalize Bp j * (val v * qd) = b at *
        generalize Bp j * val v = c at *
        omega
      · omega
    refine ⟨u1, k + n + 3, ?_, a2, a3, ?_, by omega⟩
    · rw [hj3, if_neg (by omega), show g % 4294967296 = g by omega, hgq2]
    · have h2 := A5.out
      rw [Int.zero_mul, Int.sub_zero, hgq2] at h2
      generalize Bp j * (val v * qd) = b at *
      omega
  · have hgq2 : g = qd + 1 := by
      rcases Int.lt_or_le qd g with hlt | _
      · omega
      · exfalso
        have hgq : g = qd := by omega
        have h2 := A5.out
        have h5 := bound u1 a3 a2 A6
        obtain ⟨h3, h4⟩ := h01.out
        rw [hgq, Int.one_mul] at h2
        generalize Bp j * (val v * qd) = b at *
        generalize Bp (j + n + 1) = d at *
        omega
    obtain ⟨X, c, b1, b2, b3, b4, b5, b6⟩ := back_l2 Q v x9 qd n j u.length hv hn hj hum hQ hQm (val u1) (n + 1) 0 (k + 1) u1 0 (by omega) a2 a3 (.inl rfl) ⟨by simp [val]⟩ A6
    have hX0 := val_nonneg b3
    have hX1 := bound X b3 b2 ⟨b6⟩
    have h2 := A5.out
    rw [hgq2, HS.out, Int.one_mul] at h2
    have h34 := h01.out
    have hres : val X = val u - Bp j * (val v * qd) := by
      obtain ⟨h3, h4⟩ := h34
      rcases b4 with rfl | rfl
      · exfalso
        rw [Int.zero_mul] at b5
        generalize Bp j * (val v * qd) = b at *
        generalize Bp j * val v = c at *
        generalize Bp (j + n + 1) = d at *
        omega
      · rw [Int.one_mul] at b5
        generalize Bp j * (val v * qd) = b at *
        generalize Bp j * val v = c at *
        generalize Bp (j + n + 1) = d at *
        omega
    clear h34 h2 hX1 b5 b6
    refine ⟨X, k + 1, ?_, b2, b3, hres, by omega⟩
    clear hres
    rw [hj3, if_pos (by omega), wraps_u64 (g - 1) (by omega) (by omega), show g - 1 = qd by omega]
    rw [show k + 1 + (n + 1) + 1 = k + n + 3 by omega, show ((0 : Nat) : Int) = 0 from rfl, show qd % 4294967296 = qd by omega] at b1
    exact b1
/- The plain law of the program's quotient and rest: the rounds, the shift back, the whole. -/
theorem lt_pow_drop {u : List Int} (hu : Limbs u) (N : Nat) (h : N ≤ u.length) (hv : val u < Bp N) : val (u.drop N) = 0 := by
  have h1 := val_splitB u N h
  have h2 := val_nonneg (hu.drop N)
  have h3 := val_nonneg (hu.take N)
  have hp := Bp_pos N
  rcases Int.lt_or_le 0 (val (u.drop N)) with h4 | h4
  · have h5 : Bp N * 1 ≤ Bp N * val (u.drop N) := Int.mul_le_mul_of_nonneg_left (by omega) (Int.le_of_lt hp)
    rw [Int.mul_one] at h5
    rw [h1] at hv
    generalize Bp N * val (u.drop N) = z at *
    omega
  · omega
/-- The state of a round: what the three top limbs say. -/
theorem top_limbs (v : List Int) (hv : Limbs v) (p : Nat) (hn : v.length = p + 2) : (v.getD (p + 1) 0 * 4294967296 + v.getD p 0) * Bp p ≤ val v ∧ val v ≤ (v.getD (p + 1) 0 * 4294967296 + v.getD p 0 + 1) * Bp p := by
  have h1 := val_take_succB v (p + 1)
  have h2 := val_take_succB v p
  rw [show p + 1 + 1 = v.length by omega, List.take_length, h2, Bp_succ] at h1
  have h3 := val_nonneg (hv.take p)
  have h4 := val_ltB (hv.take p)
  rw [zLt, Nat.min_eq_left (by omega)] at h4
  have e : Bp p * 4294967296 * v.getD (p + 1) 0 = v.getD (p + 1) 0 * 4294967296 * Bp p := by grind
  have e2 : Bp p * v.getD p 0 = v.getD p 0 * Bp p := Int.mul_comm _ _
  rw [e, e2] at h1
  rw [Int.add_mul, Int.add_mul (v.getD (p + 1) 0 * 4294967296 + v.getD p 0), Int.add_mul, Int.one_mul]
  generalize v.getD (p + 1) 0 * 4294967296 * Bp p = x at *
  generalize v.getD p 0 * Bp p = y at *
  omega
theorem top_three (u : List Int) (hu : Limbs u) (q : Nat) (hq : q + 3 ≤ u.length) (hz : val (u.drop (q + 3)) = 0) : ((u.getD (q + 2) 0 * 4294967296 + u.getD (q + 1) 0) * 4294967296 + u.getD q 0) * Bp q ≤ val u ∧ val u < ((u.getD (q + 2) 0 * 4294967296 + u.getD (q + 1) 0) * 4294967296 + u.getD q 0 + 1) * Bp q := by
  have h0 := val_splitB u (q + 3) hq
  rw [hz, Int.mul_zero, Int.add_zero] at h0
  have h1 := val_take_succB u (q + 2)
  have h2 := val_take_succB u (q + 1)
  have h3 := val_take_succB u q
  rw [← h0, h2, h3, show q + 2 = q + 1 + 1 from rfl, Bp_succ (q + 1), Bp_succ q] at h1
  have h4 := val_nonneg (hu.take q)
  have h5 := val_ltB (hu.take q)
  rw [zLt, Nat.min_eq_left (by omega)] at h5
  have e : val (u.take q) + Bp q * u.getD q 0 + Bp q * 4294967296 * u.getD (q + 1) 0 + Bp q * 4294967296 * 4294967296 * u.getD (q + 1 + 1) 0 = val (u.take q) + ((u.getD (q + 1 + 1) 0 * 4294967296 + u.getD (q + 1) 0) * 4294967296 + u.getD q 0) * Bp q := by grind
  rw [e] at h1
  rw [show q + 2 = q + 1 + 1 from rfl, Int.add_mul ((u.getD (q + 1 + 1) 0 * 4294967296 + u.getD (q + 1) 0) * 4294967296 + u.getD q 0) 1, Int.one_mul]
  generalize ((u.getD (q + 1 + 1) 0 * 4294967296 + u.getD (q + 1) 0) * 4294967296 + u.getD q 0) * Bp q = x at *
  omega
/-- What the guess of a round needs, on numbers alone. -/
theorem guess_facts (vt v2 T V S head u2 : Int) (hT : 0 < T) (hvt : 2147483648 ≤ vt) (hvt2 : vt < 4294967296) (hv2 : 0 ≤ v2) (hv22 : v2 < 4294967296) (hu2 : 0 ≤ u2) (hu22 : u2 < 4294967296) (hh0 : 0 ≤ head)
    (hV : (vt * 4294967296 + v2) * T ≤ V) (hV2 : V ≤ (vt * 4294967296 + v2 + 1) * T) (hS : (head * 4294967296 + u2) * T ≤ S) (hS2 : S < (head * 4294967296 + u2 + 1) * T) (hSV : S < 4294967296 * V) :
    0 < V ∧ 0 ≤ S / V ∧ S / V < 4294967296 ∧ head < 4294967296 * vt + 4294967296 ∧ head / vt < 4294967298 ∧ S / V ≤ head / vt ∧
    (∀ g r, 0 ≤ g → g * vt + r = head → g * v2 > r * 4294967296 + u2 → S / V < g) ∧
    (∀ g r, 0 ≤ g → g < 4294967296 → g * vt + r = head → (g * v2 ≤ r * 4294967296 + u2 ∨ 4294967296 ≤ r) → g ≤ S / V + 1) := by
  have hV0 : 0 < V := by
    have h1 : 1 * T ≤ (vt * 4294967296 + v2) * T := Int.mul_le_mul_of_nonneg_right (by omega) (by omega)
    rw [Int.one_mul] at h1
    omega
  have hS0 : 0 ≤ S := by
    have h1 : 0 ≤ (head * 4294967296 + u2) * T := Int.mul_nonneg (by omega) (by omega)
    omega
  have hhd : head < 4294967296 * vt + 4294967296 := by
    have h1 : 4294967296 * V ≤ 4294967296 * ((vt * 4294967296 + v2 + 1) * T) := Int.mul_le_mul_of_nonneg_left hV2 (by omega)
    rw [← Int.mul_assoc] at h1
    have h2 : (head * 4294967296 + u2) * T < 4294967296 * (vt * 4294967296 + v2 + 1) * T := by omega
    have h3 := Int.lt_of_mul_lt_mul_right h2 (by omega)
    omega
  have hle : S / V * V ≤ S := Int.ediv_mul_le _ (by omega)
  refine ⟨hV0, Int.ediv_nonneg hS0 (by omega), Int.ediv_lt_of_lt_mul hV0 hSV, hhd, Int.ediv_lt_of_lt_mul (by omega) (by omega), ?_, ?_, ?_⟩
  · refine Int.le_ediv_of_mul_le (by omega) ?_
    have hq : 0 ≤ S / V := Int.ediv_nonneg hS0 (by omega)
    generalize S / V = q at *
    have h1 : q * ((vt * 4294967296 + v2) * T) ≤ q * V := Int.mul_le_mul_of_nonneg_left hV hq
    have h2 : q * (vt * 4294967296 * T) ≤ q * ((vt * 4294967296 + v2) * T) := Int.mul_le_mul_of_nonneg_left (Int.mul_le_mul_of_nonneg_right (by omega) (by omega)) hq
    have h3 : q * (vt * 4294967296 * T) = (q * vt * 4294967296) * T := by grind
    have h4 : (q * vt * 4294967296) * T < (head * 4294967296 + u2 + 1) * T := by omega
    have h5 := Int.lt_of_mul_lt_mul_right h4 (by omega)
    omega
  · intro g r hg hh hc
    refine Int.ediv_lt_of_lt_mul hV0 ?_
    exact knuth_lower vt v2 T V S head u2 g r hT hV hS2 hg hh hc
  · intro g r hg hg2 hh hc
    rcases hc with hc | hc
    · have := Int.le_ediv_of_mul_le hV0 (knuth_upper vt v2 T V S head u2 g r hT (by omega) hv2 hV hV2 hS hg hg2 hh hc)
      omega
    · have := Int.le_ediv_of_mul_le hV0 (knuth_break vt v2 T V S head u2 g r hT hv22 hu2 hV2 hS hg hg2 hh hc)
      omega
theorem outer_l0 (v : List Int) (hv : Limbs v) (n p : Nat) (hn : v.length = n) (hp : n = p + 2) (hnm : n < 1000000) (x9 : Int) (hvt : 2147483648 ≤ v.getD (n - 1) 0) (A : Int) (L qn : Nat) (hLq : L = qn + n) (hL : L < 10000000) :
    ∀ (m k : Nat) (Q u : List Int), m ≤ qn → Q.length = qn → u.length = L → Limbs Q → Limbs u → Aside0 (val u < Bp m * val v) → (∀ i, i < m → Q.getD i 0 = 0) → Aside0 (val u + val v * val Q = A) → m * (n + 12) + 5 * n + 30 ≤ k →
    ∃ Q' u' k', n_DivMod.l0 k Q x9 u v (n : Int) ((m : Int) - 1) = n_DivMod.l0 k' Q' x9 u' v (n : Int) (-1) ∧ Limbs Q' ∧ Q'.length = qn ∧ Limbs u' ∧ u'.length = L ∧ Aside0 (val u' < val v) ∧ Aside0 (val u' + val v * val Q' = A) ∧ 5 * n + 30 ≤ k' := by
  intro m
  induction m with
  | zero =>
    intro k Q u _ hQ hu lQ lu h1 _ h2 hk
    refine ⟨Q, u, k, rfl, lQ, hQ, lu, hu, ⟨?_⟩, h2, by omega⟩
    have := h1.out
    rw [Bp_zero, Int.one_mul] at this
    exact this
  | succ m ih =>
    intro k Q u hm hQ hu lQ lu h1 hz h2 hk
    rw [Nat.add_mul, Nat.one_mul] at hk
    obtain ⟨k, rfl⟩ : ∃ d, k = d + 1 := ⟨k - 1, by omega⟩
    have e1 : Aside0 (wrap64 ((m : Int) + (n : Int)) = ((m + n : Nat) : Int)) := ⟨w64e (by omega) (by omega)⟩
    have e2 : Aside0 (wrap64 (((m + n : Nat) : Int) - 1) = ((m + n - 1 : Nat) : Int)) := ⟨w64e (by omega) (by omega)⟩
    have e3 : Aside0 (wrap64 ((n : Int) - 1) = ((n - 1 : Nat) : Int)) := ⟨w64e (by omega) (by omega)⟩
    have HZ : Aside0 (val (u.drop (m + n + 1)) = 0) := ⟨lt_pow_drop lu (m + n + 1) (by omega) (by
      have h3 := h1.out
      have h4 := val_ltB hv
      rw [hn] at h4
      have h5 : Bp (m + 1) * val v < Bp (m + 1) * Bp n := Int.mul_lt_mul_of_pos_left h4 (Bp_pos _)
      rw [← Bp_add, show m + 1 + n = m + n + 1 by omega] at h5
      exact Int.lt_trans h3 h5)⟩
    have bvt := hv.getD (n - 1)
    have bv2 := hv.getD (n - 2)
    have bhi := lu.getD (m + n)
    have blo := lu.getD (m + n - 1)
    have bu2 := lu.getD (m + n - 2)
    obtain ⟨head, hhead⟩ : ∃ head, u.getD (m + n) 0 * 4294967296 + u.getD (m + n - 1) 0 = head := ⟨_, rfl⟩
    have hh0 : 0 ≤ head := by omega
    have HV := top_limbs v hv p (by omega)
    have HU := top_three u lu (m + p) (by omega) (by rw [show m + p + 3 = m + n + 1 by omega]; exact HZ.out)
    rw [show p + 1 = n - 1 by omega] at HV
    rw [show m + p + 2 = m + n by omega, show m + p + 1 = m + n - 1 by omega, hhead, Bp_add] at HU
    have HU2 := zMk HU
    have HV2 := zMk HV
    have hpm := Bp_pos m
    have hpp := Bp_pos p
    clear HU HV
    have GF := guess_facts (v.getD (n - 1) 0) (v.getD (n - 2) 0) (Bp m * Bp p) (Bp m * val v) (val u) head (u.getD (m + n - 2) 0) (Int.mul_pos hpm hpp) hvt bvt.2 bv2.1 bv2.2 bu2.1 bu2.2 hh0
      (by
        have h3 := Int.mul_le_mul_of_nonneg_left HV2.out.1 (Int.le_of_lt hpm)
        rw [show p = n - 2 by omega] at h3 ⊢
        rw [show Bp m * ((v.getD (n - 1) 0 * 4294967296 + v.getD (n - 2) 0) * Bp (n - 2)) = (v.getD (n - 1) 0 * 4294967296 + v.getD (n - 2) 0) * (Bp m * Bp (n - 2)) by grind] at h3
        exact h3)
      (by
        have h3 := Int.mul_le_mul_of_nonneg_left HV2.out.2 (Int.le_of_lt hpm)
        rw [show p = n - 2 by omega] at h3 ⊢
        rw [show Bp m * ((v.getD (n - 1) 0 * 4294967296 + v.getD (n - 2) 0 + 1) * Bp (n - 2)) = (v.getD (n - 1) 0 * 4294967296 + v.getD (n - 2) 0 + 1) * (Bp m * Bp (n - 2)) by grind] at h3
        exact h3)
      (by rw [show m + n - 2 = m + p by omega]; exact HU2.out.1)
      (by rw [show m + n - 2 = m + p by omega]; exact HU2.out.2)
      (by
        have h3 := h1.out
        rw [Bp_succ, Int.mul_comm (Bp m), Int.mul_assoc] at h3
        exact h3)
    obtain ⟨g1, g2, g3, g4, g5, g6, g7, g8⟩ := GF
    have hmod := Int.emod_add_mul_ediv (val u) (Bp m * val v)
    have hm0 := Int.emod_nonneg (val u) (show Bp m * val v ≠ 0 from Int.ne_of_gt g1)
    have hm1 := Int.emod_lt_of_pos (val u) g1
    have H01 : Aside0 (0 ≤ val u - Bp m * (val v * (val u / (Bp m * val v))) ∧ val u - Bp m * (val v * (val u / (Bp m * val v))) < Bp m * val v) := ⟨by
      rw [← Int.mul_assoc]
      generalize Bp m * val v * (val u / (Bp m * val v)) = x at *
      generalize Bp m * val v = y at *
      omega⟩
    clear hmod hm0 hm1 g1
    obtain ⟨qd, hqd⟩ : ∃ qd, val u / (Bp m * val v) = qd := ⟨_, rfl⟩
    rw [hqd] at g2 g3 g6 g7 g8 H01
    clear hqd
    have hr0 := Int.emod_nonneg head (show v.getD (n - 1) 0 ≠ 0 by omega)
    have hr1 := Int.emod_lt_of_pos head (show 0 < v.getD (n - 1) 0 by omega)
    have hgr : head / v.getD (n - 1) 0 * v.getD (n - 1) 0 + head % v.getD (n - 1) 0 = head := by have := Int.emod_add_mul_ediv head (v.getD (n - 1) 0); rw [Int.mul_comm] at this; omega
    have hg0 : 0 ≤ head / v.getD (n - 1) 0 := Int.ediv_nonneg hh0 (by omega)
    obtain ⟨g', k2, c1, c2, c3, c4, r', c5, c6⟩ := guess_l1 Q u v x9 n m hv lu hn (by omega) (by omega) (by omega) qd head g2 g3 hvt g7 g4 2 k (head / v.getD (n - 1) 0) (head % v.getD (n - 1) 0) g5 hgr g6 hr0 (by omega) (by omega) (by omega)
    obtain ⟨u', k3, d1, d2, d3, d4, d5⟩ := round_j3 Q u v x9 n m hv lu hn (by omega) (by omega) (by omega) (by omega) HZ hnm qd g' g2 c2 (g8 g' r' (by omega) c3 c5 c6) c3 H01.out.1 H01.out.2 k2 (by omega)
    have hlast : Aside0 (val u' < Bp m * val v) := ⟨by rw [d4]; exact H01.out.2⟩
    have hA : Aside0 (val u' + val v * val (Q.set m qd) = A) := ⟨by
      have h3 := h2.out
      rw [d4, val_setB _ _ _ (by omega), hz m (by omega), ← h3]
      grind⟩
    clear d4 H01 HU2 HV2
    obtain ⟨Q', u'', k', f1, f2, f3, f4, f5, f6, f7, f8⟩ := ih k3 (Q.set m qd) u' (by omega) (by rw [List.length_set]; exact hQ) (by omega) (lQ.set _ g2 g3) d3 hlast (fun i hi => by rw [getD_set_ne _ _ (by omega)]; exact hz i (by omega)) hA (by omega)
    refine ⟨Q', u'', k', ?_, f2, f3, f4, f5, f6, f7, f8⟩
    rw [show ((m + 1 : Nat) : Int) - 1 = (m : Int) by omega, n_DivMod.l0, if_pos (by omega), e1.out, if_pos (by omega), if_pos (by omega), e2.out, if_pos (by omega), if_pos (by omega), e3.out, if_pos (by omega), if_pos (by omega), rd_nat, rd_nat, rd_nat, wraps_u64 (v.getD (n - 1) 0) (by omega) (by omega), if_neg (by omega), wraps_u64 (u.getD (m + n) 0) (by omega) (by omega), or64 _ _ bhi blo, hhead]
    rw [Int.tdiv_eq_ediv_of_nonneg hh0, Int.tmod_eq_emod_of_nonneg hh0, wraps_u64 (head / v.getD (n - 1) 0) (by omega) (by omega), c1, d1]
    exact f1
/- The plain law of the program's quotient and rest: the shift back, the whole. -/
theorem shr64 (x : Int) (s : Nat) (hs : s ≤ 31) : shr .u64 x (s : Int) = x / 2 ^ s := by
  unfold shr
  rw [show min ((s : Int)).toNat (IntKind.bits .u64) = s from by rw [zTn]; exact Nat.min_eq_left (Nat.le_trans hs (by decide))]
theorem mod_next (x a b : Int) (ha : 0 ≤ a) : x % (a * b) = x % a + a * (x / a % b) := by
  rw [Int.emod_def x (a * b), ← Int.ediv_ediv_of_nonneg ha, Int.emod_def x a, Int.emod_def (x / a) b, Int.mul_sub, Int.mul_assoc]
  generalize a * (b * (x / a / b)) = z
  omega
theorem digit_shift (u : List Int) (hu : Limbs u) (i : Nat) (hi : i + 1 < u.length) (s : Nat) (hs : s ≤ 31) : val u / 2 ^ s / Bp i % 4294967296 = (u.getD (i + 1) 0 * 4294967296 + u.getD i 0) / 2 ^ s % 4294967296 := by
  have hP : (0 : Int) < 2 ^ s := Int.pow_pos (by decide)
  have h1 := val_splitB u i (by omega)
  have h2 : u.drop i = u.getD i 0 :: u.getD (i + 1) 0 :: u.drop (i + 2) := by rw [List.drop_eq_getElem_cons (by omega), List.drop_eq_getElem_cons (by omega), getD_lt _ (by omega), getD_lt _ (by omega)]
  rw [h2] at h1
  simp only [val] at h1
  have h3 := val_nonneg (hu.take i)
  have h4 := val_ltB (hu.take i)
  rw [zLt, Nat.min_eq_left (by omega)] at h4
  rw [Int.ediv_ediv_of_nonneg (Int.le_of_lt hP), Int.mul_comm (2 ^ s) (Bp i), ← Int.ediv_ediv_of_nonneg (Int.le_of_lt (Bp_pos i))]
  have h5 : val u / Bp i = u.getD i 0 + 4294967296 * (u.getD (i + 1) 0 + 4294967296 * val (u.drop (i + 2))) := by
    rw [h1, Int.add_mul_ediv_left _ _ (Int.ne_of_gt (Bp_pos i)), Int.ediv_eq_zero_of_lt h3 h4, Int.zero_add]
  rw [h5]
  have hB : (4294967296 : Int) = 2 ^ s * 2 ^ (32 - s) := by rw [← Int.pow_add, show s + (32 - s) = 32 by omega]; rfl
  have h6 : u.getD i 0 + 4294967296 * (u.getD (i + 1) 0 + 4294967296 * val (u.drop (i + 2))) = (u.getD (i + 1) 0 * 4294967296 + u.getD i 0) + 2 ^ s * (2 ^ (32 - s) * 4294967296 * val (u.drop (i + 2))) := by
    rw [← Int.mul_assoc (2 ^ s), ← Int.mul_assoc (2 ^ s), ← hB]
    generalize val (u.drop (i + 2)) = z
    omega
  rw [h6, Int.add_mul_ediv_left _ _ (Int.ne_of_gt hP), Int.mul_comm (2 ^ (32 - s)) 4294967296, Int.mul_assoc, Int.add_mul_emod_self_left]
theorem l3_f (Q u : List Int) (hu : Limbs u) (n s : Nat) (hs : s ≤ 31) (hun : n < u.length) (hum : u.length < 35184372088832) :
    ∀ (d i k : Nat) (O : List Int), i + d = n → O.length = n → Limbs O → Aside0 (val O = val u / 2 ^ s % Bp i) → (∀ t, i ≤ t → O.getD t 0 = 0) → d + 1 ≤ k →
    ∃ r, n_DivMod.l3 k Q (s : Int) u O (n : Int) (i : Int) = some (cut Q, r, 0) ∧ IsNum r (val u / 2 ^ s % Bp n) := by
  intro d
  induction d with
  | zero =>
    intro i k O hi hO lO hv hz hk
    obtain ⟨k, rfl⟩ : ∃ e, k = e + 1 := ⟨k - 1, by omega⟩
    obtain rfl : i = n := by omega
    refine ⟨cut O, ?_, ?_⟩
    · rw [n_DivMod.l3, if_neg (by omega), cut_f, zOb, cut_f, zOb]
    · have := IsNum.cut lO
      rw [hv.out] at this
      exact this
  | succ d ih =>
    intro i k O hi hO lO hv hz hk
    obtain ⟨k, rfl⟩ : ∃ e, k = e + 1 := ⟨k - 1, by omega⟩
    have e1 : Aside0 (wrap64 ((i : Int) + 1) = ((i + 1 : Nat) : Int)) := ⟨w64e (by omega) (by omega)⟩
    have bhi := hu.getD (i + 1)
    have blo := hu.getD i
    obtain ⟨dg, hdg⟩ : ∃ dg, (u.getD (i + 1) 0 * 4294967296 + u.getD i 0) / 2 ^ s % 4294967296 = dg := ⟨_, rfl⟩
    have hds := digit_shift u hu i (by omega) s hs
    rw [hdg] at hds
    have hdg0 : 0 ≤ dg ∧ dg < 4294967296 := by
      rw [← hdg]
      generalize (u.getD (i + 1) 0 * 4294967296 + u.getD i 0) / 2 ^ s = z
      omega
    obtain ⟨r, h1, h2⟩ := ih (i + 1) k (O.set i dg) (by omega) (by rw [List.length_set]; exact hO) (lO.set _ hdg0.1 hdg0.2) ⟨by
        rw [val_setB _ _ _ (by omega), hz i (Nat.le_refl _), hv.out, Bp_succ, mod_next _ _ _ (Int.le_of_lt (Bp_pos i)), hds, Int.sub_zero]⟩ (fun t ht => by rw [getD_set_ne _ _ (by omega)]; exact hz t (by omega)) (by omega)
    refine ⟨r, ?_, h2⟩
    clear hds hv
    rw [n_DivMod.l3, if_pos (by omega), e1.out, if_pos (by omega), if_pos (by omega), if_pos (by omega), if_pos (by omega), if_pos (by omega), if_pos (by omega), rd_nat, rd_nat, wraps_u64 (u.getD (i + 1) 0) (by omega) (by omega), or64 _ _ bhi blo, shr64 _ s hs, hdg, zTn]
    exact h1
theorem zeros_getD (n i : Nat) : (List.replicate n (0 : Int)).getD i 0 = 0 := by
  by_cases hi : i < n
  · rw [getD_lt _ (by simpa using hi)]; simp
  · rw [getD_ge _ (by simp; omega)]
theorem knuth_f (a b : List Int) (ha : Limbs a) (hb : Limbs b) (tb : Trim b) (n p : Nat) (hn : b.length = n) (hp : n = p + 2) (hab : val b ≤ val a) (la : a.length ≤ 600) (hlen : n ≤ a.length) (k : Nat) (hk : 500000 ≤ k) :
    ∃ t172 t173 t176, bits_LeadingZeros32.f (b.getD (n - 1) 0) = some t172 ∧ n_shift.f k a (IntKind.u64.wrap t172) = some t173 ∧ n_shift.f k b (IntKind.u64.wrap t172) = some t176 ∧ t173.length = a.length + 1 ∧ (cut t176).length = n ∧
    ∃ q r, n_DivMod.l0 k (List.replicate (a.length + 1 - n) 0) (IntKind.u64.wrap t172) t173 (cut t176) (n : Int) (((a.length + 1 - n : Nat) : Int) - 1) = some (q, r, 0) ∧ IsNum q (val a / val b) ∧ IsNum r (val a % val b) := by
  have htop : b.getD (n - 1) 0 ≠ 0 := by
    rcases tb with h | h
    · rw [h] at hn; simp at hn; omega
    · rw [hn] at h; exact h
  have bt := hb.getD (n - 1)
  obtain ⟨s, s1, s2, s3, s4⟩ := lz_f (b.getD (n - 1) 0) (by omega) bt.2
  have hsw : IntKind.u64.wrap (s : Int) = (s : Int) := wraps_u64 _ (by omega) (by omega)
  have hP : (0 : Int) < 2 ^ s := Int.pow_pos (by decide)
  have hP31 := (pow_le31 s s2).2
  obtain ⟨u, u1, u2, u3, u4⟩ := shift_f a ha (by omega) s s2 k (by omega)
  obtain ⟨w, w1, w2, w3, w4⟩ := shift_f b hb (by omega) s s2 k (by omega)
  have hv := IsNum.cut w2
  rw [w4] at hv
  obtain ⟨v, hvd⟩ : ∃ v, cut w = v := ⟨_, rfl⟩
  rw [hvd] at hv
  -- the top limb of b, shifted
  have hb1 := val_take_succB b (n - 1)
  rw [show n - 1 + 1 = b.length by omega, List.take_length] at hb1
  have hb2 := val_nonneg (hb.take (n - 1))
  have hb3 := val_ltB (hb.take (n - 1))
  rw [zLt, Nat.min_eq_left (by omega)] at hb3
  have hBp := Bp_pos (n - 1)
  have hvlo : 2147483648 * Bp (n - 1) ≤ val v := by
    rw [hv.eq, hb1, Int.add_mul, Int.mul_assoc]
    have h1 : 2147483648 * Bp (n - 1) ≤ b.getD (n - 1) 0 * 2 ^ s * Bp (n - 1) := Int.mul_le_mul_of_nonneg_right s3 (Int.le_of_lt hBp)
    have h2 : 0 ≤ val (b.take (n - 1)) * 2 ^ s := Int.mul_nonneg hb2 (Int.le_of_lt hP)
    rw [Int.mul_comm (b.getD (n - 1) 0 * 2 ^ s)] at h1
    generalize Bp (n - 1) * (b.getD (n - 1) 0 * 2 ^ s) = x at *
    omega
  have hvhi : val v < Bp n := by
    rw [hv.eq, show Bp n = Bp (n - 1) * 4294967296 from by rw [← Bp_succ, show n - 1 + 1 = n by omega]]
    have h1 : val b < Bp (n - 1) * (b.getD (n - 1) 0 + 1) := by rw [Int.mul_add, Int.mul_one]; omega
    have h2 : val b * 2 ^ s < Bp (n - 1) * (b.getD (n - 1) 0 + 1) * 2 ^ s := Int.mul_lt_mul_of_pos_right h1 hP
    have h3 : (b.getD (n - 1) 0 + 1) * 2 ^ s ≤ 4294967296 := by
      have hB : (4294967296 : Int) = 2 ^ s * 2 ^ (32 - s) := by rw [← Int.pow_add, show s + (32 - s) = 32 by omega]; rfl
      have h9 : 2 ^ s * b.getD (n - 1) 0 < 2 ^ s * 2 ^ (32 - s) := by rw [← hB, Int.mul_comm]; exact s4
      have h8 := Int.lt_of_mul_lt_mul_left h9 (Int.le_of_lt hP)
      have h7 : 2 ^ s * (b.getD (n - 1) 0 + 1) ≤ 2 ^ s * 2 ^ (32 - s) := Int.mul_le_mul_of_nonneg_left (by omega) (Int.le_of_lt hP)
      rw [← hB, Int.mul_comm] at h7
      exact h7
    have h4 : Bp (n - 1) * ((b.getD (n - 1) 0 + 1) * 2 ^ s) ≤ Bp (n - 1) * 4294967296 := Int.mul_le_mul_of_nonneg_left h3 (Int.le_of_lt hBp)
    rw [Int.mul_assoc] at h2
    exact Int.lt_of_lt_of_le h2 h4
  have hvl : v.length = n := by
    have h1 := len_of_lt hv (m := n) (by rw [← hv.eq]; exact hvhi)
    rcases Nat.lt_or_ge v.length n with h2 | h2
    · have h3 := val_ltB hv.limbs
      have h4 : Bp v.length ≤ Bp (n - 1) := pow_upB (by omega)
      omega
    · omega
  have hvt : 2147483648 ≤ v.getD (n - 1) 0 := by
    have g1 := val_take_succB v (n - 1)
    rw [show n - 1 + 1 = v.length by omega, List.take_length] at g1
    have g3 := val_ltB (hv.limbs.take (n - 1))
    rw [zLt, Nat.min_eq_left (by omega)] at g3
    rcases Int.lt_or_le (v.getD (n - 1) 0) 2147483648 with h | h
    · have h1 : Bp (n - 1) * (v.getD (n - 1) 0 + 1) ≤ Bp (n - 1) * 2147483648 := Int.mul_le_mul_of_nonneg_left (by omega) (Int.le_of_lt hBp)
      rw [Int.mul_add, Int.mul_one, Int.mul_comm _ 2147483648] at h1
      generalize Bp (n - 1) * v.getD (n - 1) 0 = x at *
      omega
    · exact h
  -- the dividend lies below the divisor's shifted value
  have hua : Aside0 (val u < Bp (a.length + 1 - n) * val v) := ⟨by
    have h1 : val u < Bp a.length * 2 ^ s := by rw [u4]; exact Int.mul_lt_mul_of_pos_right (val_ltB ha) hP
    have h2 : Bp a.length * 2 ^ s ≤ Bp a.length * 2147483648 := Int.mul_le_mul_of_nonneg_left hP31 (Int.le_of_lt (Bp_pos _))
    have h3 : Bp (a.length + 1 - n) * (2147483648 * Bp (n - 1)) ≤ Bp (a.length + 1 - n) * val v := Int.mul_le_mul_of_nonneg_left hvlo (Int.le_of_lt (Bp_pos _))
    have h4 : Bp (a.length + 1 - n) * (2147483648 * Bp (n - 1)) = Bp a.length * 2147483648 := by
      rw [Int.mul_comm 2147483648, ← Int.mul_assoc, ← Bp_add, show a.length + 1 - n + (n - 1) = a.length by omega]
    omega⟩
  have hfu : (a.length + 1 - n) * (n + 12) + 5 * n + 30 ≤ k := by
    have : (a.length + 1 - n) * (n + 12) ≤ 601 * 612 := Nat.mul_le_mul (by omega) (by omega)
    omega
  obtain ⟨Q', u', k', f1, f2, f3, f4, f5, f6, f7, f8⟩ := outer_l0 v hv.limbs n p hvl hp (by omega) (s : Int) hvt (val a * 2 ^ s) (a.length + 1) (a.length + 1 - n) (by omega) (by omega) (a.length + 1 - n) k (List.replicate (a.length + 1 - n) 0) u (Nat.le_refl _) (by simp) u3 (limbs_replicate _) u2 hua (fun i _ => zeros_getD _ i) ⟨by rw [val_replicate, u4, Int.mul_zero, Int.add_zero]⟩ hfu
  have hu0 := val_nonneg f4
  have h6 := f6.out
  have h7 := f7.out
  rw [hv.eq] at h6 h7
  have hvp : 0 < val b * 2 ^ s := by rw [← hv.eq]; have : 0 < 2147483648 * Bp (n - 1) := Int.mul_pos (by decide) hBp; omega
  have hq : val Q' = val a / val b := by
    have h1 : val a * 2 ^ s / (val b * 2 ^ s) = val Q' := by
      rw [← h7, Int.add_mul_ediv_left _ _ (Int.ne_of_gt hvp), Int.ediv_eq_zero_of_lt hu0 h6, Int.zero_add]
    rw [← h1, Int.mul_comm (val a), Int.mul_comm (val b), Int.mul_ediv_mul_of_pos _ _ hP]
  have hr : val u' = 2 ^ s * (val a % val b) := by
    have h1 : val a * 2 ^ s % (val b * 2 ^ s) = val u' := by
      rw [← h7, Int.add_mul_emod_self_left, Int.emod_eq_of_lt hu0 h6]
    rw [← h1, Int.mul_comm (val a), Int.mul_comm (val b), Int.mul_emod_mul_of_pos _ _ hP]
  obtain ⟨k'', rfl⟩ : ∃ d, k' = d + 1 := ⟨k' - 1, by omega⟩
  obtain ⟨r, r1, r2⟩ := l3_f Q' u' f4 n s s2 (by omega) (by omega) n 0 k'' (List.replicate n 0) (by omega) (by simp) (limbs_replicate _) ⟨by rw [val_replicate, Bp_zero]; omega⟩ (fun t _ => zeros_getD _ t) (by omega)
  have hvb : 0 < val b := val_pos hb tb (fun h => by rw [h] at hn; simp at hn; omega)
  rw [hr, Int.mul_ediv_cancel_left _ (Int.ne_of_gt hP)] at r2
  have hrl : val a % val b < Bp n := by
    have h1 := Int.emod_lt_of_pos (val a) hvb
    have h2 := val_ltB hb
    rw [hn] at h2
    omega
  rw [Int.emod_eq_of_lt (Int.emod_nonneg _ (Int.ne_of_gt hvb)) hrl] at r2
  refine ⟨s, u, w, s1, by rw [hsw]; exact u1, by rw [hsw]; exact w1, u3, by rw [hvd]; exact hvl, cut Q', r, ?_, ?_, r2⟩
  · rw [hsw, hvd, f1, n_DivMod.l0, if_neg (by omega), if_pos (by omega), zTn, if_pos (by omega)]
    exact r1
  · rw [← hq]
    exact IsNum.cut f2
theorem divmod_f (a b : List Int) (ha : Limbs a) (hb : Limbs b) (la : a.length ≤ 600) (lb : b.length ≤ 600) (k : Nat) (hk : 500000 ≤ k) :
    (val b = 0 ∧ n_DivMod.f k a b = some ([], [], 15)) ∨ (0 < val b ∧ ∃ q r, n_DivMod.f k a b = some (q, r, 0) ∧ IsNum q (val a / val b) ∧ IsNum r (val a % val b)) := by
  have ca := cut_length a
  have cb := cut_length b
  have va := val_nonneg ha
  have vb := val_nonneg hb
  unfold n_DivMod.f
  rw [cut_f, zOb, cut_f, zOb]
  by_cases h0 : ((cut b).length : Int) = 0
  · refine .inl ⟨?_, by rw [if_pos h0]⟩
    have h1 : cut b = [] := List.eq_nil_of_length_eq_zero (by omega)
    rw [← cut_val b, h1]
    rfl
  · have hne : cut b ≠ [] := fun h => h0 (by rw [h]; rfl)
    have hbp : 0 < val b := by have := val_pos (cut_limbs hb) (cut_trim b) hne; rw [cut_val] at this; exact this
    refine .inr ⟨hbp, ?_⟩
    rw [if_neg h0, cmp_f _ _ (cut_limbs ha) (cut_limbs hb), zOb, cut_val, cut_val]
    by_cases hlt : val a < val b
    · have hc : cmpI (val a) (val b) < 0 := by unfold cmpI; rw [if_pos hlt]; decide
      rw [if_pos hc, nnorm_f (cut a) (by omega), zOb]
      refine ⟨[], cut (cut a), rfl, ?_, ?_⟩
      · rw [Int.ediv_eq_zero_of_lt va hlt]
        exact IsNum.nil
      · rw [Int.emod_eq_of_lt va hlt]
        have := IsNum.cut (cut_limbs ha)
        rw [cut_val] at this
        exact this
    · have hc : ¬ cmpI (val a) (val b) < 0 := by unfold cmpI; rw [if_neg hlt]; split <;> omega
      rw [if_neg hc]
      by_cases h1 : ((cut b).length : Int) = 1
      · obtain ⟨x, hx⟩ : ∃ x, cut b = [x] := by
          rcases hcb : cut b with _ | ⟨x, _ | ⟨y, l⟩⟩
          · exact absurd hcb hne
          · exact ⟨x, rfl⟩
          · rw [hcb] at h1; simp at h1; omega
        have hxv : x = val b := by rw [← cut_val b, hx]; simp [val]
        have hxl := cut_limbs hb
        rw [hx] at hxl
        have hxb := hxl.cons.1
        obtain ⟨q, q1, q2, q3⟩ := small_f (cut a) (cut_limbs ha) (by omega) x (by omega) (by omega)
        rw [if_pos h1, if_pos (by omega), hx, show rd [x] 0 = x from rfl, q1, zOb]
        rw [cut_val] at q2
        have hm0 := Int.emod_nonneg (val a) (show x ≠ 0 by omega)
        have hm1 := Int.emod_lt_of_pos (val a) (show 0 < x by omega)
        simp only [cut_val]
        rw [wraps_u64 _ hm0 (by omega), of_f _ hm0 (by omega), zOb]
        exact ⟨q, _, rfl, by rw [← hxv]; exact q2, by rw [← hxv]; exact of2_num _ hm0 (by omega)⟩
      · have hlm := cut_len_mono ha hb (by omega)
        obtain ⟨p, hp⟩ : ∃ p, (cut b).length = p + 2 := ⟨(cut b).length - 2, by omega⟩
        obtain ⟨t1, t2, t3, x1, x2, x3, x4, x5, q, r, x6, x7, x8⟩ := knuth_f (cut a) (cut b) (cut_limbs ha) (cut_limbs hb) (cut_trim b) (cut b).length p rfl hp (by rw [cut_val, cut_val]; omega) (by omega) hlm k hk
        rw [cut_val, cut_val] at x7 x8
        have e1 : wrap64 (((cut b).length : Int) - 1) = (((cut b).length - 1 : Nat) : Int) := w64e (by omega) (by omega)
        rw [if_neg h1, e1, if_pos (by omega), if_pos (by omega), rd_nat, x1, zOb, x2, zOb, x3, zOb, cut_f, zOb]
        clear e1
        have e2 : wrap64 ((t2.length : Int) - ((cut t3).length : Int)) = (((cut a).length + 1 - (cut b).length : Nat) : Int) := w64e (by omega) (by omega)
        rw [e2, if_pos (by omega), zTn, if_pos (by omega), zOb]
        clear e2
        have e3 : wrap64 (((List.replicate ((cut a).length + 1 - (cut b).length) (0 : Int)).length : Int) - 1) = (((cut a).length + 1 - (cut b).length : Nat) : Int) - 1 := by rw [List.length_replicate]; exact w64 (by omega) (by omega)
        rw [e3, x5, x6]
        exact ⟨q, r, rfl, x7, x8⟩
/- The plain law of the program's root: Newton's steps from above. -/
theorem root_exists : ∀ n : Nat, ∃ s : Nat, s * s ≤ n ∧ n < (s + 1) * (s + 1)
  | 0 => ⟨0, by decide, by decide⟩
  | n + 1 => by
    obtain ⟨s, h1, h2⟩ := root_exists n
    rcases Nat.lt_or_ge (n + 1) ((s + 1) * (s + 1)) with h | h
    · exact ⟨s, by omega, h⟩
    · refine ⟨s + 1, h, ?_⟩
      have : (s + 1 + 1) * (s + 1 + 1) = (s + 1) * (s + 1) + 2 * s + 3 := by grind
      omega
/-- The root of n: the greatest number whose square is not above n. -/
def IsRoot (s n : Int) : Prop := 0 ≤ s ∧ s * s ≤ n ∧ n < (s + 1) * (s + 1)
theorem IsRoot.exists {n : Int} (h : 0 ≤ n) : ∃ s, IsRoot s n := by
  obtain ⟨m, rfl⟩ := Int.eq_ofNat_of_zero_le h
  obtain ⟨s, h1, h2⟩ := root_exists m
  exact ⟨s, by omega, by exact_mod_cast h1, by exact_mod_cast h2⟩
theorem sq_lt {a b : Int} (ha : 0 ≤ a) (h : a < b) : a * a < b * b := Int.lt_of_le_of_lt (Int.mul_le_mul_of_nonneg_left (Int.le_of_lt h) ha) (Int.mul_lt_mul_of_pos_right h (by omega))
theorem sq_le {a b : Int} (ha : 0 ≤ a) (h : a ≤ b) : a * a ≤ b * b := Int.mul_le_mul h h ha (by omega)
theorem IsRoot.unique {s t n : Int} (h1 : IsRoot s n) (h2 : IsRoot t n) : s = t := by
  obtain ⟨a1, a2, a3⟩ := h1
  obtain ⟨b1, b2, b3⟩ := h2
  rcases Int.lt_trichotomy s t with h | h | h
  · have := sq_le (a := s + 1) (b := t) (by omega) (by omega); omega
  · exact h
  · have := sq_le (a := t + 1) (b := s) (by omega) (by omega); omega
theorem newton_ge {s A x : Int} (hs : IsRoot s A) (hx : 0 < x) : s ≤ (x + A / x) / 2 := by
  obtain ⟨h0, h1, _⟩ := hs
  rcases Int.lt_or_le ((x + A / x) / 2) s with h | h
  · exfalso
    have h2 : x + A / x ≤ 2 * s - 1 := by omega
    have h3 := Int.emod_add_mul_ediv A x
    have h4 := Int.emod_lt_of_pos A hx
    have h5 : x * (A / x + 1) ≤ x * (2 * s - x) := Int.mul_le_mul_of_nonneg_left (by omega) (Int.le_of_lt hx)
    have h6 : x * (2 * s - x) = s * s - (s - x) * (s - x) := by grind
    have h7 : 0 ≤ (s - x) * (s - x) := by
      rcases Int.le_total 0 (s - x) with h | h
      · exact Int.mul_nonneg h h
      · have := Int.mul_nonneg (show 0 ≤ -(s - x) by omega) (show 0 ≤ -(s - x) by omega)
        rw [Int.neg_mul_neg] at this
        exact this
    rw [Int.mul_add, Int.mul_one, h6] at h5
    generalize x * (A / x) = z at *
    generalize s * s = y at *
    generalize (s - x) * (s - x) = w at *
    omega
  · exact h
theorem newton_quot {s A x : Int} (hs : IsRoot s A) (hx : s < x) : A / x ≤ s := by
  obtain ⟨h0, _, h2⟩ := hs
  have h3 : A < (s + 1) * x := Int.lt_of_lt_of_le h2 (Int.mul_le_mul_of_nonneg_left (by omega) (by omega))
  have := Int.ediv_lt_of_lt_mul (show 0 < x by omega) h3
  omega
theorem newton_root {s A : Int} (hs : IsRoot s A) (h1 : 1 ≤ s) : s ≤ A / s := Int.le_ediv_of_mul_le (by omega) hs.2.1
theorem sqrt_l0 (a : List Int) (ha : Limbs a) (la : a.length ≤ 300) (s : Int) (hs : IsRoot s (val a)) (h1 : 1 ≤ s) (N : Nat) (hN : N ≤ 400) :
    ∀ (t k : Nat) (X : List Int), Limbs X → X.length ≤ N → Aside0 (val X < Bp N) → s ≤ val X → Aside0 (val X - s < 2 ^ t) → 500000 + t + 1 ≤ k →
    ∃ r, n_Sqrt.l0 k a X = some r ∧ IsNum r s := by
  intro t
  induction t with
  | zero =>
    intro k X lX hX hXB hsX hE hk
    obtain ⟨k, rfl⟩ : ∃ d, k = d + 1 := ⟨k - 1, by omega⟩
    have hx : val X = s := by have := hE.out; simp at this; omega
    rcases divmod_f a X ha lX (by omega) (by omega) k (by omega) with ⟨h, _⟩ | ⟨_, q, r, e1, q1, _⟩
    · omega
    · have hql : q.length ≤ 400 := by
        have h3 := len_of_lt q1 (m := a.length) (by
          have h4 := val_ltB ha
          have h5 := Int.ediv_le_self (val X) (val_nonneg ha)
          omega)
        omega
      obtain ⟨z, e2, z1, z2⟩ := add_f X q lX q1.limbs (by omega) (by omega) k (by omega) (by omega)
      obtain ⟨y, e3, y1, y2⟩ := small_f z z1.limbs (by omega) 2 (by decide) (by decide)
      rw [q1.eq, hx] at z1
      have hy := newton_root hs h1
      refine ⟨cut X, ?_, by rw [← hx]; exact IsNum.cut lX⟩
      rw [n_Sqrt.l0, e1, zOb, e2, zOb, e3, zOb]
      simp only
      rw [cmp_f y X y1.limbs lX, zOb, y1.eq, z1.eq, hx, if_pos, cut_f]
      · rfl
      · unfold cmpI
        rw [if_neg (by omega)]
        split <;> omega
  | succ t ih =>
    intro k X lX hX hXB hsX hE hk
    obtain ⟨k, rfl⟩ : ∃ d, k = d + 1 := ⟨k - 1, by omega⟩
    rcases divmod_f a X ha lX (by omega) (by omega) k (by omega) with ⟨h, _⟩ | ⟨hpos, q, r, e1, q1, _⟩
    · omega
    · have hql : q.length ≤ 400 := by
        have h3 := len_of_lt q1 (m := a.length) (by
          have h4 := val_ltB ha
          have h5 := Int.ediv_le_self (val X) (val_nonneg ha)
          omega)
        omega
      obtain ⟨z, e2, z1, z2⟩ := add_f X q lX q1.limbs (by omega) (by omega) k (by omega) (by omega)
      obtain ⟨y, e3, y1, y2⟩ := small_f z z1.limbs (by omega) 2 (by decide) (by decide)
      rw [q1.eq] at z1
      rw [z1.eq] at y1
      have hge := newton_ge hs hpos
      have hl0 : n_Sqrt.l0 (k + 1) a X = if cmpI ((val X + val a / val X) / 2) (val X) ≥ 0 then some (cut X) else n_Sqrt.l0 k a y := by
        rw [n_Sqrt.l0, e1, zOb, e2, zOb, e3, zOb]
        simp only
        rw [cmp_f y X y1.limbs lX, zOb, y1.eq, cut_f]
        rfl
      rw [hl0]
      rcases Int.lt_or_le s (val X) with hlt | hle
      · have hq := newton_quot hs hlt
        generalize val a / val X = u at *
        have hyx : (val X + u) / 2 < val X := by omega
        have hc : ¬ cmpI ((val X + u) / 2) (val X) ≥ 0 := by
          unfold cmpI
          rw [if_pos hyx]
          decide
        rw [if_neg hc]
        have hyB : (val X + u) / 2 < Bp N := Int.lt_trans hyx hXB.out
        refine ih k y y1.limbs (len_of_lt y1 hyB) ⟨by rw [y1.eq]; exact hyB⟩ (by rw [y1.eq]; exact hge) ⟨?_⟩ (by omega)
        rw [y1.eq]
        have h9 := hE.out
        rw [Int.pow_succ] at h9
        generalize (2 : Int) ^ t = p at *
        omega
      · have hx : val X = s := by omega
        have hy := newton_root hs h1
        rw [← hx] at hy
        have hc : cmpI ((val X + val a / val X) / 2) (val X) ≥ 0 := by
          unfold cmpI
          rw [if_neg (by omega)]
          split <;> omega
        rw [if_pos hc]
        exact ⟨cut X, rfl, by rw [← hx]; exact IsNum.cut lX⟩
theorem Bp_two (n : Nat) : Bp n = 2 ^ (32 * n) := by unfold Bp; rw [Int.pow_mul]; rfl
theorem sqrt_f (a : List Int) (ha : Limbs a) (la : a.length ≤ 300) (k : Nat) (hk : 600000 ≤ k) : ∃ r s, n_Sqrt.f k a = some r ∧ IsNum r s ∧ IsRoot s (val a) := by
  have ca := cut_length a
  unfold n_Sqrt.f
  rw [cut_f, zOb]
  by_cases h0 : ((cut a).length : Int) = 0
  · have h1 : cut a = [] := List.eq_nil_of_length_eq_zero (by omega)
    have hv : val a = 0 := by rw [← cut_val a, h1]; rfl
    exact ⟨[], 0, by rw [if_pos h0], IsNum.nil, by rw [hv]; exact ⟨by decide, by decide, by decide⟩⟩
  · have hne : cut a ≠ [] := fun h => h0 (by rw [h]; rfl)
    have hap := val_pos (cut_limbs ha) (cut_trim a) hne
    obtain ⟨s, hs⟩ := IsRoot.exists (val_nonneg (cut_limbs ha))
    have hs1 : 1 ≤ s := by
      rcases Int.lt_or_le 0 s with h | h
      · omega
      · exfalso
        obtain ⟨b1, b2, b3⟩ := hs
        have : s = 0 := by omega
        subst this
        omega
    obtain ⟨m, hm⟩ : ∃ m, m = (cut a).length / 2 + 1 := ⟨_, rfl⟩
    have hm2 : Aside0 (wrap64 ((wrap64 (((cut a).length : Int) / 2)) + 2) = ((m + 1 : Nat) : Int)) := ⟨by
      have h2 : wrap64 (((cut a).length : Int) / 2) = (((cut a).length / 2 : Nat) : Int) := w64e (by omega) (by omega)
      rw [h2]
      exact w64e (by omega) (by omega)⟩
    have hm3 : Aside0 (wrap64 (((List.replicate (m + 1) (0 : Int)).length : Int) - 1) = ((m : Nat) : Int)) := ⟨by rw [List.length_replicate]; exact w64e (by omega) (by omega)⟩
    rw [if_neg h0, hm2.out, if_pos (by omega), zTn, if_pos (by omega), zOb, hm3.out, if_pos (by omega), if_pos (by rw [List.length_replicate]; omega), zTn]
    clear hm2 hm3
    have lX : Limbs ((List.replicate (m + 1) (0 : Int)).set m 1) := (limbs_replicate _).set _ (by decide) (by decide)
    have vX : val ((List.replicate (m + 1) (0 : Int)).set m 1) = Bp m := by
      rw [val_setB _ _ _ (by rw [List.length_replicate]; omega), val_replicate, zeros_getD]
      omega
    have hsq : val (cut a) < Bp m * Bp m := by
      have h1 := val_ltB (cut_limbs ha)
      have h2 : Bp (cut a).length ≤ Bp (m + m) := pow_upB (by omega)
      rw [Bp_add] at h2
      exact Int.lt_of_lt_of_le h1 h2
    have hsB : s < Bp m := by
      rcases Int.lt_or_le s (Bp m) with h | h
      · exact h
      · have h1 := sq_le (Int.le_of_lt (Bp_pos m)) h
        have h2 := hs.2.1
        omega
    obtain ⟨r, r1, r2⟩ := sqrt_l0 (cut a) (cut_limbs ha) (by omega) s hs hs1 (m + 1) (by omega) (32 * m) k ((List.replicate (m + 1) (0 : Int)).set m 1) lX (by rw [List.length_set, List.length_replicate]; omega) ⟨by
        rw [vX, Bp_succ]
        have := Bp_pos m
        omega⟩ (by rw [vX]; omega) ⟨by rw [vX, Bp_two]; omega⟩ (by omega)
    rw [cut_val] at hs
    exact ⟨r, s, r1, r2, hs⟩

/-! ### w1_NaturalSquares: function 8 -/
def w1_NaturalSquares.f (k : Nat) (l0 : List Int) : Option (Bool) := if (l0.length : Int) > 100 then ((w1_alive.f k).bind fun t698 => (some t698)) else ((n_Sqrt.f k l0).bind fun t699 => ((n_Add.f k t699 (([1] : List Int))).bind fun t705 => ((n_Mul.f k t699 t699).bind fun t708 => ((n_Cmp.f t708 l0).bind fun t711 => (if t711 ≤ 0 then ((n_Mul.f k t705 t705).bind fun t712 => ((n_Cmp.f t712 l0).bind fun t715 => (if t715 > 0 then ((n_Mul.f k l0 l0).bind fun t716 => ((n_Sqrt.f k t716).bind fun t719 => ((r1_Norm.f k l0).bind fun t722 => ((r1_Same.f k t719 t722).bind fun t725 => (if t725 = true then ((w1_alive.f k).bind fun t726 => (some t726)) else (some false)))))) else (some false)))) else (some false))))))
set_option maxHeartbeats 8000000 in
set_option maxRecDepth 100000 in
theorem w1_NaturalSquares.calls (k : Nat) (A0 : Option Addr) (c0 : Nat) (l0 : List Int) (r : Bool) (w : World) (hr0 : Kd.C (Kd.int .u32) w A0 l0.length l0) (hc0 : l0.length ≤ c0) (h : w1_NaturalSquares.f k l0 = some r) (hr_ : r = true) :
    Calls Tryd.prog 8 #[.slice A0 l0.length c0] w fun e w' => e = .returned (.bool r) ∧ Below w.heap.size w w' := by
  have HRT := zMk hr_
  clear hr_
  have HR0 := zMk hr0
  have HC0 := zMk hc0
  clear hr0 hc0
  have HB := zMk (Below.refl w.heap.size w)
  have H : (if (l0.length : Int) > 100 then ((w1_alive.f k).bind fun t698 => (some t698)) else ((n_Sqrt.f k l0).bind fun t699 => ((n_Add.f k t699 (([1] : List Int))).bind fun t705 => ((n_Mul.f k t699 t699).bind fun t708 => ((n_Cmp.f t708 l0).bind fun t711 => (if t711 ≤ 0 then ((n_Mul.f k t705 t705).bind fun t712 => ((n_Cmp.f t712 l0).bind fun t715 => (if t715 > 0 then ((n_Mul.f k l0 l0).bind fun t716 => ((n_Sqrt.f k t716).bind fun t719 => ((r1_Norm.f k l0).bind fun t722 => ((r1_Same.f k t719 t722).bind fun t725 => (if t725 = true then ((w1_alive.f k).bind fun t726 => (some t726)) else (some false)))))) else (some false)))) else (some false))))))) = some r := h
  clear h
  by_cases c2 : (l0.length : Int) > 100
  · rw [if_pos c2] at H
    have c2b0 : decide (100 < (l0.length : Int)) = true := decide_eq_true c2
    have c2b1 : decide (100 < l0.length) = true := decide_eq_true (by omega)
    clear c2
    replace H := Option.bind_eq_some_iff.mp H
    obtain ⟨t698, A30, H⟩ := H
    have A3 := zMk A30
    clear A30
    obtain rfl := zOi H
    go_enter Tryd.func8, Tryd.ntmps8
    go_wp2_with (first | ((with_reducible refine gate_callee (f := 15) rfl ?_); refine goesL_ (some 8) rfl rfl Tryd.func15 (by kernel_rfl) rfl #[] rfl (by (try simp only [List.map_toArray, List.map_cons, List.map_nil]); first | done | rfl | (simp only [zLd, zLt]; rfl)) ?_; (with_reducible refine (w1_alive.calls k  t698 _ A3.out).mono ?_); rintro e w4 ⟨rfl, hb⟩; refine ⟨_, rfl, ?_⟩; have n0_ := zMk (zBt (by repeat (first | (with_reducible first | exact HB.out | apply zBa | apply zBn | apply zBd) | exact HB.out)) hb); clear HB; have HB := n0_; clear n0_; (try clear hb); (try clear hb2); (try clear hk); (try clear hi)))
    go_ret
    exact ⟨by first | rfl | (simp [errW_none, errW_some] <;> rfl) | (simp [*, errW_none, errW_some] <;> rfl), by repeat (first | (with_reducible first | exact HB.out | apply zBa | apply zBn | apply zBd) | exact HB.out)⟩
  · rw [if_neg c2] at H
    have c2b0 : decide (100 < (l0.length : Int)) = false := decide_eq_false c2
    have c2b1 : decide (100 < l0.length) = false := decide_eq_false (by omega)
    clear c2
    replace H := Option.bind_eq_some_iff.mp H
    obtain ⟨t699, A50, H⟩ := H
    have A5 := zMk A50
    clear A50
    obtain ⟨y702, hy702⟩ : ∃ y_ : List Int, y_ = (([1] : List Int)) := ⟨_, rfl⟩
    replace H : ((n_Add.f k t699 y702).bind fun t705 => ((n_Mul.f k t699 t699).bind fun t708 => ((n_Cmp.f t708 l0).bind fun t711 => (if t711 ≤ 0 then ((n_Mul.f k t705 t705).bind fun t712 => ((n_Cmp.f t712 l0).bind fun t715 => (if t715 > 0 then ((n_Mul.f k l0 l0).bind fun t716 => ((n_Sqrt.f k t716).bind fun t719 => ((r1_Norm.f k l0).bind fun t722 => ((r1_Same.f k t719 t722).bind fun t725 => (if t725 = true then ((w1_alive.f k).bind fun t726 => (some t726)) else (some false)))))) else (some false)))) else (some false))))) = some r := by first | (rw [hy702]; with_reducible exact H) | (have H2_ := (zOb _ _).symm.trans H; rw [hy702]; with_reducible exact H2_) | (have H2_ := (zOb _ _).symm.trans H; with_reducible exact H2_) | with_reducible exact H | (rw [hy702]; exact H) | exact H
    have Ny702 := zMk hy702
    clear hy702
    replace H := Option.bind_eq_some_iff.mp H
    obtain ⟨t705, A60, H⟩ := H
    have A6 := zMk A60
    clear A60
    replace H := Option.bind_eq_some_iff.mp H
    obtain ⟨t708, A70, H⟩ := H
    have A7 := zMk A70
    clear A70
    replace H := Option.bind_eq_some_iff.mp H
    obtain ⟨t711, A80, H⟩ := H
    have A8 := zMk A80
    clear A80
    by_cases c9 : t711 ≤ 0
    · rw [if_pos c9] at H
      have c9b0 : decide (t711 ≤ 0) = true := decide_eq_true c9
      clear c9
      replace H := Option.bind_eq_some_iff.mp H
      obtain ⟨t712, A100, H⟩ := H
      have A10 := zMk A100
      clear A100
      replace H := Option.bind_eq_some_iff.mp H
      obtain ⟨t715, A110, H⟩ := H
      have A11 := zMk A110
      clear A110
      by_cases c12 : t715 > 0
      · rw [if_pos c12] at H
        have c12b0 : decide (0 < t715) = true := decide_eq_true c12
        clear c12
        replace H := Option.bind_eq_some_iff.mp H
        obtain ⟨t716, A130, H⟩ := H
        have A13 := zMk A130
        clear A130
        replace H := Option.bind_eq_some_iff.mp H
        obtain ⟨t719, A140, H⟩ := H
        have A14 := zMk A140
        clear A140
        replace H := Option.bind_eq_some_iff.mp H
        obtain ⟨t722, A150, H⟩ := H
        have A15 := zMk A150
        clear A150
        replace H := Option.bind_eq_some_iff.mp H
        obtain ⟨t725, A160, H⟩ := H
        have A16 := zMk A160
        clear A160
        by_cases c17 : t725 = true
        · subst c17
          have H1 : ((w1_alive.f k).bind fun t726 => (some t726)) = some r := by rw [if_pos rfl] at H; exact H
          clear H
          have H := H1
          clear H1
          replace H := Option.bind_eq_some_iff.mp H
          obtain ⟨t726, A180, H⟩ := H
          have A18 := zMk A180
          clear A180
          obtain rfl := zOi H
          go_enter Tryd.func8, Tryd.ntmps8
          go_wp2_with (first | ((with_reducible refine gate_callee (f := 27) rfl ?_); refine goesL_ (some 10) rfl rfl Tryd.func27 (by kernel_rfl) rfl #[.slice A0 l0.length c0] rfl (by (try simp only [List.map_toArray, List.map_cons, List.map_nil]); first | done | rfl | (simp only [zLd, zLt]; rfl)) ?_; (with_reducible refine (n_Sqrt.calls k (fun k_ => k_ < w.heap.size) _ _ l0 t699 _ ?side1 A5.out).mono ?_); (case side1 => exact Kd.V_mk HC0.out (Kd.F_below (Kd.C_F (Kd.heap_int .u32) HR0.out) (by repeat (first | (with_reducible first | exact HB.out | apply zBa | apply zBn | apply zBd) | exact HB.out)))); rintro e w19 ⟨v700, rfl, ho0, hb⟩; refine ⟨_, rfl, ?_⟩; have n0_ := zMk (Kd.V_lower (zVm (ok' := fun k_ => True) ho0 (fun k_ hk_ => trivial)) (zBs (by repeat (first | (with_reducible first | exact HB.out | apply zBa | apply zBn | apply zBd) | exact HB.out)))); have n1_ := zMk (zBt (by repeat (first | (with_reducible first | exact HB.out | apply zBa | apply zBn | apply zBd) | exact HB.out)) hb); clear HB; have HO701 := n0_; have HB := n1_; clear n0_ n1_; (try clear hb); (try clear hb2); (try clear hk); (try clear hi); (try clear ho0)) | ((with_reducible refine gate_dst (N := 12) rfl ?_); refine Kd.R_lit (Kd.int .u32) _ 36 ?hg (N := 12) ?hd (xs := ([1] : List Int)) (inner := [.int .u32 1]) (ok := fun _ => True) (okp := fun _ => True) ?hr ?hp (fun _ hk => hk) trivial (Below.refl _ _) (Nat.le_refl _) (by simp) ?_; (case hd => rfl); (case hg => rfl); (case hr => first | (go_simp; done) | (go_simp; rfl) | (go_simp; rw [show ∀ x : Int, IntKind.u32.wrap (IntKind.u8.wrap x) = x % 256 from fun x => (by show (x % 256) % 4294967296 = x % 256; omega)])); (case hp => exact (Reps.one (show Kd.M (Kd.int .u32) _ _ _ 1 [.int .u32 1] from rfl) (Reps.none _ _))); intro v703 w20 ho21 hb hg_ hnew_; clear hg_ hnew_; (first | rw [← Ny702.out] at ho21 | (simp only [Int.reduceToNat] at ho21; rw [← Ny702.out] at ho21)); have n0_ := zMk (Kd.V_elder' (by (with_reducible repeat (first | apply zVa | apply zVn | apply zVd)); exact HO701.out) (Kd.R_base ho21) hb); have n1_ := zMk (Kd.R_lower ho21 (zBs (by repeat (first | (with_reducible first | exact HB.out | apply zBa | apply zBn | apply zBd) | exact HB.out)))); have n2_ := zMk (zBt (by repeat (first | (with_reducible first | exact HB.out | apply zBa | apply zBn | apply zBd) | exact HB.out)) hb); clear HO701; clear HB; have HO701 := n0_; have HO704 := n1_; have HB := n2_; clear n0_ n1_ n2_; clear hb ho21; obtain ⟨Ao22, co22, eo22⟩ := Kd.V_slice HO701.out; subst eo22; obtain ⟨Ao23, co23, eo23⟩ := Kd.R_slice HO704.out; subst eo23) | ((with_reducible refine gate_callee (f := 29) rfl ?_); refine goesL_ (some 13) rfl rfl Tryd.func29 (by kernel_rfl) rfl #[.slice Ao22 t699.length co22, .slice Ao23 y702.length co23] rfl (by (try simp only [List.map_toArray, List.map_cons, List.map_nil]); first | done | rfl | (simp only [zLd, zLt]; rfl)) ?_; (with_reducible refine (n_Add.calls k (fun k_ => (True ∧ some k_ ≠ (.slice Ao23 y702.length co23 : Value).ownBlock)) _ _ t699 (fun k_ => some k_ = (.slice Ao23 y702.length co23 : Value).ownBlock) _ _ y702 t705 _ ?side1 ?side2 A6.out).mono ?_); (case side1 => exact HO701.out); (case side2 => exact Kd.R_V (Kd.R_tight rfl (HO704.out))); rintro e w24 ⟨v706, rfl, ho0, hb⟩; refine ⟨_, rfl, ?_⟩; have n0_ := zMk (zVb (by (with_reducible repeat (first | apply zVa | apply zVn | apply zVd)); exact HO701.out) hb); have n1_ := zMk (Kd.R_below (by (with_reducible repeat (first | apply zRa | apply zRn | apply zRd)); exact HO704.out) hb); have n2_ := zMk (Kd.V_lower (zVm (ok' := fun k_ => True) ho0 (fun k_ hk_ => trivial)) (zBs (by repeat (first | (with_reducible first | exact HB.out | apply zBa | apply zBn | apply zBd) | exact HB.out)))); have n3_ := zMk (zBt (by repeat (first | (with_reducible first | exact HB.out | apply zBa | apply zBn | apply zBd) | exact HB.out)) hb); clear HO701; clear HO704; clear HB; have HO701 := n0_; have HO704 := n1_; have HO707 := n2_; have HB := n3_; clear n0_ n1_ n2_ n3_; (try clear hb); (try clear hb2); (try clear hk); (try clear hi); (try clear ho0)) | ((with_reducible refine gate_callee (f := 23) rfl ?_); refine goesL_ (some 16) rfl rfl Tryd.func23 (by kernel_rfl) rfl #[.slice Ao22 t699.length co22, .slice Ao22 t699.length co22] rfl (by (try simp only [List.map_toArray, List.map_cons, List.map_nil]); first | done | rfl | (simp only [zLd, zLt]; rfl)) ?_; (with_reducible refine (n_Mul.calls k (fun k_ => (True ∧ some k_ ≠ (.slice Ao23 y702.length co23 : Value).ownBlock)) _ _ t699 (fun k_ => (True ∧ some k_ ≠ (.slice Ao23 y702.length co23 : Value).ownBlock)) _ _ t699 t708 _ ?side1 ?side2 A7.out).mono ?_); (case side1 => exact HO701.out); (case side2 => exact HO701.out); rintro e w25 ⟨v709, rfl, ho0, hb⟩; refine ⟨_, rfl, ?_⟩; have n0_ := zMk (zVb (by (with_reducible repeat (first | apply zVa | apply zVn | apply zVd)); exact HO701.out) hb); have n1_ := zMk (Kd.R_below (by (with_reducible repeat (first | apply zRa | apply zRn | apply zRd)); exact HO704.out) hb); have n2_ := zMk (zVb (by (with_reducible repeat (first | apply zVa | apply zVn | apply zVd)); exact HO707.out) hb); have n3_ := zMk (Kd.V_lower (zVm (ok' := fun k_ => some k_ ≠ (.slice Ao23 y702.length co23 : Value).ownBlock) ho0 (fun k_ hk_ => Or.elim hk_ (fun hs_ => Or.elim hs_ (fun hs_ => hs_.2) (fun hs_ => hs_.2)) (fun hn_ => (Kd.fresh' (Kd.R_lt (by (with_reducible repeat (first | apply zRa | apply zRn | apply zRd)); exact HO704.out)) k_ hn_)))) (zBs (by repeat (first | (with_reducible first | exact HB.out | apply zBa | apply zBn | apply zBd) | exact HB.out)))); have n4_ := zMk (zBt (by repeat (first | (with_reducible first | exact HB.out | apply zBa | apply zBn | apply zBd) | exact HB.out)) hb); clear HO701; clear HO704; clear HO707; clear HB; have HO701 := n0_; have HO704 := n1_; have HO707 := n2_; have HO710 := n3_; have HB := n4_; clear n0_ n1_ n2_ n3_ n4_; (try clear hb); (try clear hb2); (try clear hk); (try clear hi); (try clear ho0); obtain ⟨Ao26, co26, eo26⟩ := Kd.V_slice HO710.out; subst eo26) | ((with_reducible refine gate_callee (f := 21) rfl ?_); refine goesL_ (some 18) rfl rfl Tryd.func21 (by kernel_rfl) rfl #[.slice Ao26 t708.length co26, .slice A0 l0.length c0] rfl (by (try simp only [List.map_toArray, List.map_cons, List.map_nil]); first | done | rfl | (simp only [zLd, zLt]; rfl)) ?_; (with_reducible refine (n_Cmp.calls _ _ t708 _ _ l0 t711 _ ?side1 ?side2 ?side3 ?side4 A8.out).mono ?_); (case side1 => repeat (first | exact (Kd.V_reads' HO710.out).2.2 | (with_reducible refine zCa ?_ _) | (with_reducible refine zCn ?_ _) | (with_reducible refine zCd ?_))); (case side2 => exact (Kd.V_reads' HO710.out).2.1); (case side3 => repeat (first | exact (Kd.C_below HR0.out HB.out) | (with_reducible refine zCa ?_ _) | (with_reducible refine zCn ?_ _) | (with_reducible refine zCd ?_))); (case side4 => exact HC0.out); rintro e w27 ⟨rfl, hb⟩; refine ⟨_, rfl, ?_⟩; have n0_ := zMk (zVb (by (with_reducible repeat (first | apply zVa | apply zVn | apply zVd)); exact HO701.out) hb); have n1_ := zMk (Kd.R_below (by (with_reducible repeat (first | apply zRa | apply zRn | apply zRd)); exact HO704.out) hb); have n2_ := zMk (zVb (by (with_reducible repeat (first | apply zVa | apply zVn | apply zVd)); exact HO707.out) hb); have n3_ := zMk (zVb (by (with_reducible repeat (first | apply zVa | apply zVn | apply zVd)); exact HO710.out) hb); have n4_ := zMk (zBt (by repeat (first | (with_reducible first | exact HB.out | apply zBa | apply zBn | apply zBd) | exact HB.out)) hb); clear HO701; clear HO704; clear HO707; clear HO710; clear HB; have HO701 := n0_; have HO704 := n1_; have HO707 := n2_; have HO710 := n3_; have HB := n4_; clear n0_ n1_ n2_ n3_ n4_; (try clear hb); (try clear hb2); (try clear hk); (try clear hi); obtain ⟨Ao28, co28, eo28⟩ := Kd.V_slice HO707.out; subst eo28) | (go_at_call 23; (with_reducible refine (n_Mul.calls k (fun k_ => True) _ _ t705 (fun k_ => True) _ _ t705 t712 _ ?side1 ?side2 A10.out).mono ?_); (case side1 => exact HO707.out); (case side2 => exact HO707.out); rintro e w29 ⟨v713, rfl, ho0, hb⟩; have n0_ := zMk (zVb (by (with_reducible repeat (first | apply zVa | apply zVn | apply zVd)); exact HO701.out) hb); have n1_ := zMk (Kd.R_below (by (with_reducible repeat (first | apply zRa | apply zRn | apply zRd)); exact HO704.out) hb); have n2_ := zMk (zVb (by (with_reducible repeat (first | apply zVa | apply zVn | apply zVd)); exact HO707.out) hb); have n3_ := zMk (zVb (by (with_reducible repeat (first | apply zVa | apply zVn | apply zVd)); exact HO710.out) hb); have n4_ := zMk (Kd.V_lower (zVm (ok' := fun k_ => True) ho0 (fun k_ hk_ => trivial)) (zBs (by repeat (first | (with_reducible first | exact HB.out | apply zBa | apply zBn | apply zBd) | exact HB.out)))); have n5_ := zMk (zBt (by repeat (first | (with_reducible first | exact HB.out | apply zBa | apply zBn | apply zBd) | exact HB.out)) hb); clear HO701; clear HO704; clear HO707; clear HO710; clear HB; have HO701 := n0_; have HO704 := n1_; have HO707 := n2_; have HO710 := n3_; have HO714 := n4_; have HB := n5_; clear n0_ n1_ n2_ n3_ n4_ n5_; (try clear hb); (try clear hb2); (try clear hk); (try clear hi); (try clear ho0); obtain ⟨Ao30, co30, eo30⟩ := Kd.V_slice HO714.out; subst eo30) | (go_at_call 21; (with_reducible refine (n_Cmp.calls _ _ t712 _ _ l0 t715 _ ?side1 ?side2 ?side3 ?side4 A11.out).mono ?_); (case side1 => repeat (first | exact (Kd.V_reads' HO714.out).2.2 | (with_reducible refine zCa ?_ _) | (with_reducible refine zCn ?_ _) | (with_reducible refine zCd ?_))); (case side2 => exact (Kd.V_reads' HO714.out).2.1); (case side3 => repeat (first | exact (Kd.C_below HR0.out HB.out) | (with_reducible refine zCa ?_ _) | (with_reducible refine zCn ?_ _) | (with_reducible refine zCd ?_))); (case side4 => exact HC0.out); rintro e w31 ⟨rfl, hb⟩; have n0_ := zMk (zVb (by (with_reducible repeat (first | apply zVa | apply zVn | apply zVd)); exact HO701.out) hb); have n1_ := zMk (Kd.R_below (by (with_reducible repeat (first | apply zRa | apply zRn | apply zRd)); exact HO704.out) hb); have n2_ := zMk (zVb (by (with_reducible repeat (first | apply zVa | apply zVn | apply zVd)); exact HO707.out) hb); have n3_ := zMk (zVb (by (with_reducible repeat (first | apply zVa | apply zVn | apply zVd)); exact HO710.out) hb); have n4_ := zMk (zVb (by (with_reducible repeat (first | apply zVa | apply zVn | apply zVd)); exact HO714.out) hb); have n5_ := zMk (zBt (by repeat (first | (with_reducible first | exact HB.out | apply zBa | apply zBn | apply zBd) | exact HB.out)) hb); clear HO701; clear HO704; clear HO707; clear HO710; clear HO714; clear HB; have HO701 := n0_; have HO704 := n1_; have HO707 := n2_; have HO710 := n3_; have HO714 := n4_; have HB := n5_; clear n0_ n1_ n2_ n3_ n4_ n5_; (try clear hb); (try clear hb2); (try clear hk); (try clear hi)) | (go_at_call 23; (with_reducible refine (n_Mul.calls k (fun k_ => k_ < w.heap.size) _ _ l0 (fun k_ => k_ < w.heap.size) _ _ l0 t716 _ ?side1 ?side2 A13.out).mono ?_); (case side1 => exact Kd.V_mk HC0.out (Kd.F_below (Kd.C_F (Kd.heap_int .u32) HR0.out) (by repeat (first | (with_reducible first | exact HB.out | apply zBa | apply zBn | apply zBd) | exact HB.out)))); (case side2 => exact Kd.V_mk HC0.out (Kd.F_below (Kd.C_F (Kd.heap_int .u32) HR0.out) (by repeat (first | (with_reducible first | exact HB.out | apply zBa | apply zBn | apply zBd) | exact HB.out)))); rintro e w32 ⟨v717, rfl, ho0, hb⟩; have n0_ := zMk (zVb (by (with_reducible repeat (first | apply zVa | apply zVn | apply zVd)); exact HO701.out) hb); have n1_ := zMk (Kd.R_below (by (with_reducible repeat (first | apply zRa | apply zRn | apply zRd)); exact HO704.out) hb); have n2_ := zMk (zVb (by (with_reducible repeat (first | apply zVa | apply zVn | apply zVd)); exact HO707.out) hb); have n3_ := zMk (zVb (by (with_reducible repeat (first | apply zVa | apply zVn | apply zVd)); exact HO710.out) hb); have n4_ := zMk (zVb (by (with_reducible repeat (first | apply zVa | apply zVn | apply zVd)); exact HO714.out) hb); have n5_ := zMk (Kd.V_lower (zVm (ok' := fun k_ => some k_ ≠ (.slice Ao23 y702.length co23 : Value).ownBlock) ho0 (fun k_ hk_ => Or.elim hk_ (fun hs_ => Or.elim hs_ (fun hs_ => fun e_ => Nat.not_le.2 hs_ (Kd.R_base HO704.out k_ e_.symm)) (fun hs_ => fun e_ => Nat.not_le.2 hs_ (Kd.R_base HO704.out k_ e_.symm))) (fun hn_ => (Kd.fresh' (Kd.R_lt (by (with_reducible repeat (first | apply zRa | apply zRn | apply zRd)); exact HO704.out)) k_ hn_)))) (zBs (by repeat (first | (with_reducible first | exact HB.out | apply zBa | apply zBn | apply zBd) | exact HB.out)))); have n6_ := zMk (zBt (by repeat (first | (with_reducible first | exact HB.out | apply zBa | apply zBn | apply zBd) | exact HB.out)) hb); clear HO701; clear HO704; clear HO707; clear HO710; clear HO714; clear HB; have HO701 := n0_; have HO704 := n1_; have HO707 := n2_; have HO710 := n3_; have HO714 := n4_; have HO718 := n5_; have HB := n6_; clear n0_ n1_ n2_ n3_ n4_ n5_ n6_; (try clear hb); (try clear hb2); (try clear hk); (try clear hi); (try clear ho0); obtain ⟨Ao33, co33, eo33⟩ := Kd.V_slice HO718.out; subst eo33) | (go_at_call 27; (with_reducible refine (n_Sqrt.calls k (fun k_ => some k_ ≠ (.slice Ao23 y702.length co23 : Value).ownBlock) _ _ t716 t719 _ ?side1 A14.out).mono ?_); (case side1 => exact HO718.out); rintro e w34 ⟨v720, rfl, ho0, hb⟩; have n0_ := zMk (zVb (by (with_reducible repeat (first | apply zVa | apply zVn | apply zVd)); exact HO701.out) hb); have n1_ := zMk (Kd.R_below (by (with_reducible repeat (first | apply zRa | apply zRn | apply zRd)); exact HO704.out) hb); have n2_ := zMk (zVb (by (with_reducible repeat (first | apply zVa | apply zVn | apply zVd)); exact HO707.out) hb); have n3_ := zMk (zVb (by (with_reducible repeat (first | apply zVa | apply zVn | apply zVd)); exact HO710.out) hb); have n4_ := zMk (zVb (by (with_reducible repeat (first | apply zVa | apply zVn | apply zVd)); exact HO714.out) hb); have n5_ := zMk (zVb (by (with_reducible repeat (first | apply zVa | apply zVn | apply zVd)); exact HO718.out) hb); have n6_ := zMk (Kd.V_lower (zVm (ok' := fun k_ => some k_ ≠ (.slice Ao23 y702.length co23 : Value).ownBlock) ho0 (fun k_ hk_ => Or.elim hk_ (fun hs_ => hs_) (fun hn_ => (Kd.fresh' (Kd.R_lt (by (with_reducible repeat (first | apply zRa | apply zRn | apply zRd)); exact HO704.out)) k_ hn_)))) (zBs (by repeat (first | (with_reducible first | exact HB.out | apply zBa | apply zBn | apply zBd) | exact HB.out)))); have n7_ := zMk (zBt (by repeat (first | (with_reducible first | exact HB.out | apply zBa | apply zBn | apply zBd) | exact HB.out)) hb); clear HO701; clear HO704; clear HO707; clear HO710; clear HO714; clear HO718; clear HB; have HO701 := n0_; have HO704 := n1_; have HO707 := n2_; have HO710 := n3_; have HO714 := n4_; have HO718 := n5_; have HO721 := n6_; have HB := n7_; clear n0_ n1_ n2_ n3_ n4_ n5_ n6_ n7_; (try clear hb); (try clear hb2); (try clear hk); (try clear hi); (try clear ho0)) | (go_at_call 20; (with_reducible refine (r1_Norm.calls k _ _ l0 t722 _ ?side1 ?side2 A15.out).mono ?_); (case side1 => repeat (first | exact (Kd.C_below HR0.out HB.out) | (with_reducible refine zCa ?_ _) | (with_reducible refine zCn ?_ _) | (with_reducible refine zCd ?_))); (case side2 => exact HC0.out); rintro e w35 ⟨v723, rfl, ho0, hb⟩; have n0_ := zMk (Kd.V_elder' (by (with_reducible repeat (first | apply zVa | apply zVn | apply zVd)); exact HO701.out) (Kd.R_base ho0) hb); have n1_ := zMk (Kd.R_elder' (by (with_reducible repeat (first | apply zRa | apply zRn | apply zRd)); exact HO704.out) (Kd.R_base ho0) hb); have n2_ := zMk (Kd.V_elder' (by (with_reducible repeat (first | apply zVa | apply zVn | apply zVd)); exact HO707.out) (Kd.R_base ho0) hb); have n3_ := zMk (Kd.V_elder' (by (with_reducible repeat (first | apply zVa | apply zVn | apply zVd)); exact HO710.out) (Kd.R_base ho0) hb); have n4_ := zMk (Kd.V_elder' (by (with_reducible repeat (first | apply zVa | apply zVn | apply zVd)); exact HO714.out) (Kd.R_base ho0) hb); have n5_ := zMk (Kd.V_elder' (by (with_reducible repeat (first | apply zVa | apply zVn | apply zVd)); exact HO718.out) (Kd.R_base ho0) hb); have n6_ := zMk (Kd.V_elder' (by (with_reducible repeat (first | apply zVa | apply zVn | apply zVd)); exact HO721.out) (Kd.R_base ho0) hb); have n7_ := zMk (Kd.R_lower (Kd.R_new' ho0 (Kd.R_lt (by (with_reducible repeat (first | apply zRa | apply zRn | apply zRd)); exact HO704.out))) (zBs (by repeat (first | (with_reducible first | exact HB.out | apply zBa | apply zBn | apply zBd) | exact HB.out)))); have n8_ := zMk (zBt (by repeat (first | (with_reducible first | exact HB.out | apply zBa | apply zBn | apply zBd) | exact HB.out)) hb); clear HO701; clear HO704; clear HO707; clear HO710; clear HO714; clear HO718; clear HO721; clear HB; have HO701 := n0_; have HO704 := n1_; have HO707 := n2_; have HO710 := n3_; have HO714 := n4_; have HO718 := n5_; have HO721 := n6_; have HO724 := n7_; have HB := n8_; clear n0_ n1_ n2_ n3_ n4_ n5_ n6_ n7_ n8_; (try clear hb); (try clear hb2); (try clear hk); (try clear hi); (try clear ho0); obtain ⟨Ao36, co36, eo36⟩ := Kd.V_slice HO721.out; subst eo36; obtain ⟨Ao37, co37, eo37⟩ := Kd.R_slice HO724.out; subst eo37) | (go_at_call 16; (with_reducible refine (r1_Same.calls k _ _ t719 _ _ t722 true _ ?side1 ?side2 ?side3 ?side4 A16.out).mono ?_); (case side1 => repeat (first | exact (Kd.V_reads' HO721.out).2.2 | (with_reducible refine zCa ?_ _) | (with_reducible refine zCn ?_ _) | (with_reducible refine zCd ?_))); (case side2 => exact (Kd.V_reads' HO721.out).2.1); (case side3 => repeat (first | exact (Kd.R_reads' HO724.out).2.2 | (with_reducible refine zCa ?_ _) | (with_reducible refine zCn ?_ _) | (with_reducible refine zCd ?_))); (case side4 => exact (Kd.R_reads' HO724.out).2.1); rintro e w' ⟨rfl, ⟨nd, rfl⟩⟩) | (go_at_call 15; (with_reducible refine (w1_alive.calls k  t726 _ A18.out).mono ?_); rintro e w38 ⟨rfl, hb⟩; have n0_ := zMk (zVb (by (with_reducible repeat (first | apply zVa | apply zVn | apply zVd)); exact HO701.out) hb); have n1_ := zMk (Kd.R_below (by (with_reducible repeat (first | apply zRa | apply zRn | apply zRd)); exact HO704.out) hb); have n2_ := zMk (zVb (by (with_reducible repeat (first | apply zVa | apply zVn | apply zVd)); exact HO707.out) hb); have n3_ := zMk (zVb (by (with_reducible repeat (first | apply zVa | apply zVn | apply zVd)); exact HO710.out) hb); have n4_ := zMk (zVb (by (with_reducible repeat (first | apply zVa | apply zVn | apply zVd)); exact HO714.out) hb); have n5_ := zMk (zVb (by (with_reducible repeat (first | apply zVa | apply zVn | apply zVd)); exact HO718.out) hb); have n6_ := zMk (zVb (by (with_reducible repeat (first | apply zVa | apply zVn | apply zVd)); exact HO721.out) hb); have n7_ := zMk (Kd.R_below (by (with_reducible repeat (first | apply zRa | apply zRn | apply zRd)); exact HO724.out) hb); have n8_ := zMk (zBt (by repeat (first | (with_reducible first | exact HB.out | apply zBa | apply zBn | apply zBd) | exact HB.out)) hb); clear HO701; clear HO704; clear HO707; clear HO710; clear HO714; clear HO718; clear HO721; clear HO724; clear HB; have HO701 := n0_; have HO704 := n1_; have HO707 := n2_; have HO710 := n3_; have HO714 := n4_; have HO718 := n5_; have HO721 := n6_; have HO724 := n7_; have HB := n8_; clear n0_ n1_ n2_ n3_ n4_ n5_ n6_ n7_ n8_; (try clear hb); (try clear hb2); (try clear hk); (try clear hi)))
          go_ret
          exact ⟨by first | rfl | (simp [errW_none, errW_some] <;> rfl) | (simp [*, errW_none, errW_some] <;> rfl), by repeat (first | (with_reducible first | exact HB.out | apply zBa | apply zBn | apply zBd) | exact HB.out)⟩
        · replace c17 := Bool.eq_false_iff.mpr c17
          subst c17
          have H1 : (some false) = some r := by rw [if_neg (show ¬ (false = true) by decide)] at H; exact H
          clear H
          have H := H1
          clear H1
          exact absurd ((zOi H).trans HRT.out) (by decide)
      · rw [if_neg c12] at H
        have c12b0 : decide (0 < t715) = false := decide_eq_false c12
        clear c12
        exact absurd ((zOi H).trans HRT.out) (by decide)
    · rw [if_neg c9] at H
      have c9b0 : decide (t711 ≤ 0) = false := decide_eq_false c9
      clear c9
      exact absurd ((zOi H).trans HRT.out) (by decide)

/-- What the walk leaves: a statement of plain lists and numbers. -/
def w1_NaturalSquares.Pure : Prop := ∀ (l0 : List Int), l0.length ≤ maxLen → l0.length * 4 ≤ 140737488351232 → (∀ x ∈ l0, (Lit.int .u32 x).wf = true) → ∃ k, w1_NaturalSquares.f k l0 = some true
/- The plain law of NaturalSquares. -/
theorem root_sq {s : Int} (h : 0 ≤ s) : IsRoot s (s * s) := ⟨h, Int.le_refl _, sq_lt h (by omega)⟩
theorem pure_NaturalSquares : w1_NaturalSquares.Pure := by
  intro a m1 _ h1
  have A := limbs_of_wf h1
  obtain ⟨k, hk⟩ : ∃ k : Nat, k = 1000000 := ⟨_, rfl⟩
  refine ⟨k, ?_⟩
  unfold w1_NaturalSquares.f
  by_cases ha : (a.length : Int) > 100
  · rw [if_pos ha, alive_f k (by omega)]
    rfl
  · rw [if_neg ha]
    have mb : ∀ x y : Nat, x ≤ 300 → y ≤ 300 → (y + 2) * x + 1 ≤ k := fun x y hx hy => by
      have : (y + 2) * x ≤ 302 * 300 := Nat.mul_le_mul (by omega) hx
      omega
    have ca := cut_length a
    have va := val_nonneg A
    obtain ⟨r, s, e1, n1, rt⟩ := sqrt_f a A (by omega) k (by omega)
    have hs2 : s ≤ val a := by
      obtain ⟨b1, b2, b3⟩ := rt
      rcases Int.lt_or_le (val a) s with h | h
      · have h3 : s * 1 ≤ s * s := Int.mul_le_mul_of_nonneg_left (by omega) b1
        omega
      · exact h
    have hrl : r.length ≤ a.length := len_of_lt n1 (Int.lt_of_le_of_lt hs2 (val_ltB A))
    have l1 : Limbs [1] := Limbs.mk (by decide) (by decide) Limbs.nil
    obtain ⟨t, e2, n2, q2⟩ := add_f r [1] n1.limbs l1 (by omega) (by simp) k (by omega) (by simp; omega)
    have v1 : val [1] = 1 := rfl
    rw [n1.eq, v1] at n2
    have htl : t.length ≤ 102 := by
      have : ([1] : List Int).length = 1 := rfl
      omega
    obtain ⟨ss, e3, n3, q3⟩ := mul_f r r n1.limbs n1.limbs (by omega) k (mb _ _ (by omega) (by omega))
    obtain ⟨tt, e4, n4, q4⟩ := mul_f t t n2.limbs n2.limbs (by omega) k (mb _ _ (by omega) (by omega))
    obtain ⟨aa, e5, n5, q5⟩ := mul_f a a A A (by omega) k (mb _ _ (by omega) (by omega))
    obtain ⟨r2, s2, e6, n6, rt2⟩ := sqrt_f aa n5.limbs (by omega) k (by omega)
    rw [n5.eq] at rt2
    have hs3 : s2 = val a := rt2.unique (root_sq va)
    rw [hs3] at n6
    have hr2 : r2 = cut a := n6.unique (IsNum.cut A)
    have hc1 : cmpI (val ss) (val a) ≤ 0 := by
      rw [n3.eq, n1.eq]
      have := rt.2.1
      unfold cmpI
      split
      · decide
      · split <;> omega
    have hc2 : cmpI (val tt) (val a) > 0 := by
      rw [n4.eq, n2.eq]
      have := rt.2.2
      unfold cmpI
      rw [if_neg (by omega), if_pos (by omega)]
      decide
    rw [e1, zOb, e2, zOb, e3, zOb, cmp_f ss a n3.limbs A, zOb, if_pos hc1, e4, zOb, cmp_f tt a n4.limbs A, zOb, if_pos hc2, e5, zOb, e6, zOb, norm_f a (by omega) k (by omega), zOb, hr2, same_f (cut a) (by omega) k (by omega), zOb, if_pos rfl, alive_f k (by omega)]
    rfl
end Go.Proofs.YtihlelniaiadgaaDoor.D
