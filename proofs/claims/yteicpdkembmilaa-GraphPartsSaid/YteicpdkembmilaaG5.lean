/- Lemmas for the statement: the walks of the functions that it reaches, and plain laws. -/
import Derived.Test.YteicpdkembmilaaG2
import Derived.Test.YteicpdkembmilaaG3
import Derived.Test.YteicpdkembmilaaG4
import Derived.Test.YteicpdkembmilaaG1
set_option linter.unusedVariables false
set_option linter.unusedSimpArgs false
namespace Go.Proofs.Yteicpdkembmilaa.A
open Go Go.RowKit Go.Proofs.YteicpdkembmilaaW.PrintWords Go.Proofs.YteicpdkembmilaaW.PrintLast Go.Proofs.YteicpdkembmilaaW.PrintMore
attribute [local go_sem] max2_int min2_int max_two min_two max_three min_three max_four min_four
open Go.Proofs.YteicpdkembmilaaW.PrintWords.Kd renaming R_alloc → zRa, R_drewN → zRn, R_drew → zRd, V_alloc → zVa, V_drewN → zVn, V_drew → zVd, V_below → zVb, C_alloc → zCa, C_drewN → zCn, C_drew → zCd, R_mono → zRm, V_mono → zVm, at_int → zAi, R_elder' → zRe, R_lower → zRl, R_new' → zRw, R_lt → zRt, R_below → zRb, R_base → zRz, R_reads' → zRr, R_slice → zRs, V_elder' → zVe, V_lower → zVl, V_slice → zVs, V_reads' → zVr
open Go.Proofs.YteicpdkembmilaaW.PrintWords renaming pw_below_drewN → zBn, below_alloc → zBa, below_drew1 → zBd, below_size → zBs, below_step → zBt, blk_drewN → zKn, blk_drew → zKd, blk_alloc → zKa, blk_below → zKb, blk_cell → zKc, blk_frozen → zKf
open List renaming setIfInBounds_toArray → zSa, set_cons_zero → zSb, set_cons_succ → zSc, length_drop → zLd, length_take → zLt, map_toArray → zMa, map_cons → zMc, map_nil → zMn, length_cons → zLc, length_nil → zLn
open Go.Proofs.YteicpdkembmilaaW.PrintWords.Aside0 renaming mk → zMk
open Option renaming bind_eq_some_iff → zBi, bind_some → zOb
open Option.some renaming inj → zOi
open Int renaming toNat_natCast → zTn
/- Chapter 04: some of a graph's edges. -/
/-- the edges of which P says yes, the first at place i -/
def selE (P : Nat → S36 → Bool) : Nat → List S36 → List S36
  | _, [] => []
  | i, e :: l => if P i e = true then e :: selE P (i + 1) l else selE P (i + 1) l
theorem selE_len (P : Nat → S36 → Bool) : ∀ (i : Nat) (l : List S36), (selE P i l).length ≤ l.length
  | _, [] => Nat.le_refl _
  | i, e :: l => by
    unfold selE
    have := selE_len P (i + 1) l
    split <;> simp <;> omega
theorem selE_congr {P Q : Nat → S36 → Bool} : ∀ (i : Nat) (l : List S36), (∀ j (hj : j < l.length), P (i + j) l[j] = Q (i + j) l[j]) → selE P i l = selE Q i l
  | _, [], _ => rfl
  | i, e :: l, h => by
    unfold selE
    have h0 := h 0 (by simp)
    simp only [Nat.add_zero, List.getElem_cons_zero] at h0
    rw [h0, selE_congr (i + 1) l fun j hj => by have := h (j + 1) (by simpa using hj); simpa [Nat.add_assoc, Nat.add_comm 1 j] using this]
theorem some_l0 (pf : Int → Int → Int → Int → Option Bool) (P : Nat → S36 → Bool) (n : Int) (E : List S36) (hm : E.length ≤ 1000000) (hp : ∀ i (hi : i < E.length), pf (i : Nat) E[i].f0 E[i].f1 E[i].f2 = some (P i E[i])) (d : Nat) :
    ∀ (k i : Nat) (acc : List S36), E.length - i = d → i ≤ E.length → d + 1 ≤ k → acc.length ≤ i → graph_some.l0 pf k E (E.length : Int) i n acc = some (n, acc ++ selE P i (E.drop i)) := by
  induction d with
  | zero =>
    intro k i acc hd hi hk ha
    obtain ⟨k, rfl⟩ : ∃ m, k = m + 1 := ⟨k - 1, by omega⟩
    obtain rfl : i = E.length := by omega
    rw [List.drop_length]
    simp only [graph_some.l0]
    rw [if_neg (by omega)]
    simp [selE]
  | succ d ih =>
    intro k i acc hd hi hk ha
    obtain ⟨k, rfl⟩ : ∃ m, k = m + 1 := ⟨k - 1, by omega⟩
    have hlt : i < E.length := by omega
    rw [dropE E i hlt]
    simp only [graph_some.l0, selE]
    have hq := hp i hlt
    rw [← rdE_get E i hlt] at hq
    rw [if_pos (by omega), if_pos (by omega), if_pos (by omega), hq, zOb, show wrap64 ((i : Int) + 1) = ((i + 1 : Nat) : Int) by rw [w64 (by omega) (by omega)]; omega]
    cases hP : P i (rd_T36 E (i : Int)) with
    | true =>
      rw [if_pos rfl, if_pos (by omega), ih k (i + 1) _ (by omega) (by omega) (by omega) (by simp; omega), if_pos rfl]
      simp
    | false =>
      rw [if_neg (by simp), ih k (i + 1) _ (by omega) (by omega) (by omega) (by omega), if_neg (by simp)]
theorem some_eq (pf : Int → Int → Int → Int → Option Bool) (P : Nat → S36 → Bool) (k : Nat) (n : Int) (E : List S36) (hm : E.length ≤ 1000000) (hk : E.length + 8 ≤ k) (hp : rightI n E = 0 → ∀ i (hi : i < E.length), pf (i : Nat) E[i].f0 E[i].f1 E[i].f2 = some (P i E[i])) :
    graph_some.f pf k n E = some (if rightI n E = 0 then (n, selE P 0 E) else (0, [])) := by
  unfold graph_some.f
  rw [Right_eq k n E (by omega), zOb]
  by_cases h : rightI n E = 0
  · rw [if_pos h, if_pos h]
    have := some_l0 pf P n E hm (hp h) E.length k 0 [] (by omega) (by omega) (by omega) (by simp)
    simpa using this
  · rw [if_neg h, if_neg h]
theorem rdOf_getD (l : List Bool) (x : Int) : rdOf false l x = l.getD x.toNat false := rfl
theorem Only_eq (k : Nat) (n : Int) (E : List S36) (keep : List Bool) (hm : E.length ≤ 1000000) (hk : E.length + 8 ≤ k) : graph_Only.f k n E keep = some (if rightI n E = 0 then (n, selE (fun _ e => inK keep e.f0 && inK keep e.f1) 0 E) else (0, [])) := by
  unfold graph_Only.f
  refine some_eq _ _ k n E hm hk fun hr i hi => ?_
  obtain ⟨a1, _, b1, _, _⟩ := alone_ends ((((right_iff n E).1 hr).2.1 _ (List.getElem_mem hi)).1)
  unfold graph_Only.p
  rw [if_pos a1, if_pos b1]
theorem refOnly_l0 (n m : Int) (E : List S36) (keep : List Bool) (hm : E.length ≤ 1000000) (hE : ∀ e ∈ E, 0 ≤ e.f0 ∧ 0 ≤ e.f1) (d : Nat) : ∀ (k i : Nat) (acc : List S36), E.length - i = d → i ≤ E.length → d + 1 ≤ k → acc.length ≤ i →
    filigreeref04_Only.l0 k keep i n E m acc = some (m, acc ++ selE (fun _ e => inK keep e.f0 && inK keep e.f1) i (E.drop i)) := by
  induction d with
  | zero =>
    intro k i acc hd hi hk ha
    obtain ⟨k, rfl⟩ : ∃ m, k = m + 1 := ⟨k - 1, by omega⟩
    obtain rfl : i = E.length := by omega
    rw [List.drop_length]
    simp only [filigreeref04_Only.l0]
    rw [if_neg (by omega)]
    simp [selE]
  | succ d ih =>
    intro k i acc hd hi hk ha
    obtain ⟨k, rfl⟩ : ∃ m, k = m + 1 := ⟨k - 1, by omega⟩
    have hlt : i < E.length := by omega
    have he := hE _ (rdE_mem E i hlt)
    have h1 : (i : Int) < (E.length : Int) := by omega
    have h2 : (0 : Int) ≤ i := by omega
    have h3 : acc.length < 5864062014805 := by omega
    have hn0 := ih k (i + 1) acc (by omega) (by omega) (by omega) (by omega)
    have hn1 := ih k (i + 1) (acc ++ [rd_T36 E (i : Int)]) (by omega) (by omega) (by omega) (by simp; omega)
    rw [dropE E i hlt]
    simp only [filigreeref04_Only.l0, selE]
    rw [if_pos h1, if_pos h2, show wrap64 ((i : Int) + 1) = ((i + 1 : Nat) : Int) by rw [w64 (by omega) (by omega)]; omega]
    generalize rd_T36 E (i : Int) = e at *
    simp only [rdOf_getD, if_pos he.1, if_pos he.2, if_pos h3, hn0]
    rw [show acc ++ [(⟨e.f0, e.f1, e.f2⟩ : S36)] = acc ++ [e] from rfl, hn1]
    generalize selE (fun _ e => inK keep e.f0 && inK keep e.f1) (i + 1) (E.drop (i + 1)) = T
    have hik : ∀ x : Int, inK keep x = if x < (keep.length : Int) then keep.getD x.toNat false else false := fun x => by
      unfold inK
      by_cases a : x < (keep.length : Int)
      · rw [if_pos a, decide_eq_true a, Bool.true_and]
      · rw [if_neg a, decide_eq_false a, Bool.false_and]
    simp only [hik]
    by_cases a : e.f0 < (keep.length : Int)
    · simp only [if_pos a]
      cases b : keep.getD e.f0.toNat false with
      | false => simp
      | true =>
        by_cases c : e.f1 < (keep.length : Int)
        · simp only [if_pos c]
          cases keep.getD e.f1.toNat false with
          | false => simp
          | true => simp
        · simp only [if_neg c]; simp
    · simp only [if_neg a]; simp
theorem refOnly_eq (k : Nat) (n : Int) (E : List S36) (keep : List Bool) (hm : E.length ≤ 1000000) (hE : ∀ e ∈ E, 0 ≤ e.f0 ∧ 0 ≤ e.f1) (hk : E.length + 1 ≤ k) : filigreeref04_Only.f k n E keep = some (n, selE (fun _ e => inK keep e.f0 && inK keep e.f1) 0 E) := by
  unfold filigreeref04_Only.f
  have := refOnly_l0 n n E keep hm hE E.length k 0 [] rfl (Nat.zero_le _) hk (Nat.le_refl _)
  simpa using this
theorem lessM_get : ∀ (t : List Int) (m : List Bool) (j : Nat), j < m.length → (lessM m t).getD j false = (m.getD j false || decide ((j : Int) ∈ t))
  | [], m, j, _ => by simp [lessM]
  | x :: t, m, j, hj => by
    unfold lessM
    rw [lessM_get t _ j (by (repeat' split) <;> simp [hj])]
    by_cases h0 : 0 ≤ x
    · rw [if_pos h0]
      by_cases h1 : x < (m.length : Int)
      · rw [if_pos h1]
        by_cases hx : x.toNat = j
        · have : (j : Int) = x := by omega
          subst hx
          simp [List.getD_eq_getElem?_getD, hj, this]
        · have : ¬ (j : Int) = x := by omega
          simp [List.getD_eq_getElem?_getD, hx, this]
      · rw [if_neg h1]
        have : ¬ (j : Int) = x := by omega
        simp [this]
    · rw [if_neg h0]
      have : ¬ (j : Int) = x := by omega
      simp [this]
theorem Less_eq (k : Nat) (n : Int) (E : List S36) (gone : List Int) (hm : E.length ≤ 1000000) (hk : E.length + 8 ≤ k) : graph_Less.f k n E gone = some (if rightI n E = 0 then (n, selE (fun i _ => !decide ((i : Int) ∈ gone)) 0 E) else (0, [])) := by
  unfold graph_Less.f
  rw [if_pos (by omega)]
  refine some_eq _ _ k n E hm hk fun hr i hi => ?_
  unfold graph_Less.p
  rw [lessM_len, List.length_replicate, if_pos (by omega), if_pos (by omega), zTn, lessM_get _ _ _ (by simpa using hi)]
  simp [List.getD_eq_getElem?_getD, hi]
theorem refLess_l0 (n m : Int) (E : List S36) (gone : List Int) (hm : E.length ≤ 1000000) (hg : gone.length ≤ 1000000) (d : Nat) : ∀ (k i : Nat) (acc : List S36), E.length - i = d → i ≤ E.length → d + gone.length + 2 ≤ k → acc.length ≤ i →
    filigreeref04_Less.l0 k gone i n E m acc = some (m, acc ++ selE (fun i _ => !decide ((i : Int) ∈ gone)) i (E.drop i)) := by
  induction d with
  | zero =>
    intro k i acc hd hi hk ha
    obtain ⟨k, rfl⟩ : ∃ m, k = m + 1 := ⟨k - 1, by omega⟩
    obtain rfl : i = E.length := by omega
    rw [List.drop_length]
    simp only [filigreeref04_Less.l0]
    rw [if_neg (by omega)]
    simp [selE]
  | succ d ih =>
    intro k i acc hd hi hk ha
    obtain ⟨k, rfl⟩ : ∃ m, k = m + 1 := ⟨k - 1, by omega⟩
    have hlt : i < E.length := by omega
    have h1 : (i : Int) < (E.length : Int) := by omega
    have h2 : (0 : Int) ≤ i := by omega
    have h3 : acc.length < 5864062014805 := by omega
    have hn0 := ih k (i + 1) acc (by omega) (by omega) (by omega) (by omega)
    have hn1 := ih k (i + 1) (acc ++ [rd_T36 E (i : Int)]) (by omega) (by omega) (by omega) (by simp; omega)
    rw [dropE E i hlt]
    simp only [filigreeref04_Less.l0, selE]
    rw [if_pos h1, Has_eq k gone i hg (by omega), zOb, show wrap64 ((i : Int) + 1) = ((i + 1 : Nat) : Int) by rw [w64 (by omega) (by omega)]; omega]
    generalize rd_T36 E (i : Int) = e at *
    rw [show acc ++ [(⟨e.f0, e.f1, e.f2⟩ : S36)] = acc ++ [e] from rfl, hn0, hn1, if_pos h2, if_pos h3]
    by_cases hc : (i : Int) ∈ gone
    · rw [if_pos (decide_eq_true hc), if_neg (by simp [hc])]
    · rw [if_neg (by simpa using hc), if_pos (by simp [hc])]; simp
theorem refLess_eq (k : Nat) (n : Int) (E : List S36) (gone : List Int) (hm : E.length ≤ 1000000) (hg : gone.length ≤ 1000000) (hk : E.length + gone.length + 2 ≤ k) : filigreeref04_Less.f k n E gone = some (n, selE (fun i _ => !decide ((i : Int) ∈ gone)) 0 E) := by
  unfold filigreeref04_Less.f
  have := refLess_l0 n n E gone hm hg E.length k 0 [] rfl (Nat.zero_le _) hk (Nat.le_refl _)
  simpa using this
/- Chapter 04: are two graphs the same. -/
def eqE (a b : S36) : Bool := a.f0 == b.f0 && (a.f1 == b.f1 && a.f2 == b.f2)
theorem eqE_iff {a b : S36} : eqE a b = true ↔ a = b := by
  obtain ⟨a0, a1, a2⟩ := a
  obtain ⟨b0, b1, b2⟩ := b
  simp [eqE]
def sameL : List S36 → List S36 → Bool
  | [], [] => true
  | a :: l, b :: m => eqE a b && sameL l m
  | _, _ => false
theorem sameL_iff : ∀ {l m : List S36}, sameL l m = true ↔ l = m
  | [], [] => by simp [sameL]
  | [], _ :: _ => by simp [sameL]
  | _ :: _, [] => by simp [sameL]
  | a :: l, b :: m => by simp [sameL, eqE_iff, sameL_iff]
theorem not_eqE (a b : S36) : (!(a.f0 == b.f0) || (!(a.f1 == b.f1) || (!(a.f2 == b.f2)))) = !eqE a b := by
  unfold eqE
  cases a.f0 == b.f0 <;> cases a.f1 == b.f1 <;> cases a.f2 == b.f2 <;> rfl
theorem edges_same (E D : List S36) (hl : E.length = D.length) (hm : E.length ≤ 1000000) (d : Nat) : ∀ (k i : Nat), E.length - i = d → i ≤ E.length → d + 1 ≤ k → api_Edge_40.l0 k E D (E.length : Int) i = some (sameL (E.drop i) (D.drop i)) := by
  induction d with
  | zero =>
    intro k i hd hi hk
    obtain ⟨k, rfl⟩ : ∃ m, k = m + 1 := ⟨k - 1, by omega⟩
    obtain rfl : i = E.length := by omega
    simp only [api_Edge_40.l0]
    rw [if_neg (by omega), List.drop_length, hl, List.drop_length]
    rfl
  | succ d ih =>
    intro k i hd hi hk
    obtain ⟨k, rfl⟩ : ∃ m, k = m + 1 := ⟨k - 1, by omega⟩
    simp only [api_Edge_40.l0]
    rw [if_pos (by omega), if_pos (by omega), if_pos (by omega), if_pos (by omega), not_eqE, show wrap64 ((i : Int) + 1) = ((i + 1 : Nat) : Int) by rw [w64 (by omega) (by omega)]; omega, ih k (i + 1) (by omega) (by omega) (by omega), dropE E i (by omega), dropE D i (by omega)]
    show _ = some (eqE (rd_T36 E (i : Int)) (rd_T36 D (i : Int)) && sameL (E.drop (i + 1)) (D.drop (i + 1)))
    cases eqE (rd_T36 E (i : Int)) (rd_T36 D (i : Int)) <;> simp
theorem ref_same (n m : Int) (E D : List S36) (hl : E.length = D.length) (hm : E.length ≤ 1000000) (d : Nat) : ∀ (k i : Nat), E.length - i = d → i ≤ E.length → d + 1 ≤ k → filigreeref04_Same.l0 k i n E m D = some (sameL (E.drop i) (D.drop i)) := by
  induction d with
  | zero =>
    intro k i hd hi hk
    obtain ⟨k, rfl⟩ : ∃ m, k = m + 1 := ⟨k - 1, by omega⟩
    obtain rfl : i = E.length := by omega
    simp only [filigreeref04_Same.l0]
    rw [if_neg (by omega), List.drop_length, hl, List.drop_length]
    rfl
  | succ d ih =>
    intro k i hd hi hk
    obtain ⟨k, rfl⟩ : ∃ m, k = m + 1 := ⟨k - 1, by omega⟩
    simp only [filigreeref04_Same.l0]
    rw [if_pos (by omega), if_pos (by omega), if_pos (by omega), not_eqE, show wrap64 ((i : Int) + 1) = ((i + 1 : Nat) : Int) by rw [w64 (by omega) (by omega)]; omega, ih k (i + 1) (by omega) (by omega) (by omega), dropE E i (by omega), dropE D i (by omega)]
    show _ = some (eqE (rd_T36 E (i : Int)) (rd_T36 D (i : Int)) && sameL (E.drop (i + 1)) (D.drop (i + 1)))
    cases eqE (rd_T36 E (i : Int)) (rd_T36 D (i : Int)) <;> simp
def sameB (n : Int) (E : List S36) (m : Int) (D : List S36) : Bool := decide (n = m) && (decide (E.length = D.length) && sameL E D)
theorem Same_eq (k : Nat) (n m : Int) (E D : List S36) (hm : E.length ≤ 1000000) (hk : E.length + 3 ≤ k) : graph_Same.f k n E m D = some (sameB n E m D) := by
  unfold graph_Same.f api_Edge_40.f sameB
  by_cases h : n = m
  · rw [if_pos h, decide_eq_true h, Bool.true_and]
    by_cases hl : E.length = D.length
    · rw [if_pos (by omega), decide_eq_true hl, Bool.true_and]
      have := edges_same E D hl hm E.length k 0 rfl (Nat.zero_le _) (by omega)
      have h2 : api_Edge_40.l0 k E D (E.length : Int) 0 = some (sameL E D) := by simpa using this
      rw [h2]
      rfl
    · rw [if_neg (by omega), decide_eq_false hl]; rfl
  · rw [if_neg h, decide_eq_false h]; rfl
theorem refSame_eq (k : Nat) (n m : Int) (E D : List S36) (hm : E.length ≤ 1000000) (hk : E.length + 3 ≤ k) : filigreeref04_Same.f k n E m D = some (sameB n E m D) := by
  obtain ⟨k, rfl⟩ : ∃ m, k = m + 1 := ⟨k - 1, by omega⟩
  unfold filigreeref04_Same.f sameB
  simp only [filigreeref04_Same.j0]
  by_cases h : n = m
  · rw [if_pos h, decide_eq_true h, Bool.true_and]
    by_cases hl : E.length = D.length
    · have := ref_same n m E D hl hm E.length k 0 rfl (Nat.zero_le _) (by omega)
      have h2 : filigreeref04_Same.l0 k 0 n E m D = some (sameL E D) := by simpa using this
      rw [if_neg (by simp [hl]), h2, decide_eq_true hl, Bool.true_and]
    · rw [if_pos (by rw [bne_iff_ne]; omega), decide_eq_false hl]; rfl
  · rw [if_neg h, decide_eq_false h]; rfl
theorem sameB_self (n : Int) (E : List S36) : sameB n E n E = true := by simp [sameB, sameL_iff.2 rfl]

/-! ### filigreelaw04_Light: function 17 -/
def filigreelaw04_Light.f (a0_0 : Int) (l0_1 : List (S36)) (a1 : Int) : Option (Bool) := if a0_0 ≤ a1 then (some (decide ((l0_1.length : Int) ≤ (wrap64 (4 * a1))))) else (some false)
set_option maxHeartbeats 8000000 in
set_option maxRecDepth 100000 in
theorem filigreelaw04_Light.calls (a0_0 : Int) (A0_1 : Option Addr) (c0_1 : Nat) (l0_1 : List (S36)) (a1 : Int) (r : Bool) (w : World) (hr0_1 : Kd.C k36 w A0_1 l0_1.length l0_1) (hc0_1 : l0_1.length ≤ c0_1) (h : filigreelaw04_Light.f a0_0 l0_1 a1 = some r) :
    Calls Try.prog 17 #[.agg #[.int .i64 a0_0, .slice A0_1 l0_1.length c0_1], .int .i64 a1] w fun e w' => e = .returned (.bool r) ∧ Below w.heap.size w w' := by
  have hu24 := Try.underlying24
  have HR0_1 := zMk hr0_1
  have HC0_1 := zMk hc0_1
  clear hr0_1 hc0_1
  have HB := zMk (Below.refl w.heap.size w)
  have H : (if a0_0 ≤ a1 then (some (decide ((l0_1.length : Int) ≤ (wrap64 (4 * a1))))) else (some false)) = some r := h
  clear h
  by_cases c3 : a0_0 ≤ a1
  · rw [if_pos c3] at H
    have c3b0 : decide (a0_0 ≤ a1) = true := decide_eq_true c3
    clear c3
    obtain rfl := zOi H
    go_enter Try.func17, Try.ntmps17
    go_wp2_with (first |  ((with_reducible refine gate_dst (N := 2) rfl ?_); (try (refine gate_guard (by rfl) ?_; dsimp only)); refine box_event ?hg (N := 2) ?hd (cs := #[.int .i64 a0_0, .slice A0_1 l0_1.length c0_1]) (t := 24) ?hr ?_; (case hd => rfl); (case hg => rfl); (case hr => first |  (go_simp; done)|  (go_simp; rfl)|  (go_simp; rw [show ∀ x : Int, IntKind.u32.wrap (IntKind.u8.wrap x) = x % 256 from fun x => (by show (x % 256) % 4294967296 = x % 256; omega)])); intro gb143 hg w4 hbox hb; have BK143 := zMk (hbox); have GW143 := zMk ((by rw [hg]; exact (zBs (by exact uT HB.out)) : w.heap.size ≤ gb143)); have GE143 := zMk ((by rw [hg]; exact (zBs (by exact uT HB.out)) : w.heap.size ≤ gb143)); have IGE143 := ownGe GE143.out; replace HB := zMk (zBt (by exact uT HB.out) hb); clear hb hbox hg; have hcz5_0 : w4.cell? ⟨gb143, 0, none⟩ = some (.int .i64 a0_0) := (zKc BK143.out 0).trans rfl; have hcz5_1 : w4.cell? ⟨gb143, 1, none⟩ = some (.slice A0_1 l0_1.length c0_1) := (zKc BK143.out 1).trans rfl; have hfz5_0 := zKf BK143.out 0; have hfz5_1 := zKf BK143.out 1))
    go_ret
    exact ⟨by first | rfl | (simp [errW_none, errW_some] <;> rfl) | (simp [*, errW_none, errW_some] <;> rfl), by exact uT HB.out⟩
  · rw [if_neg c3] at H
    have c3b0 : decide (a0_0 ≤ a1) = false := decide_eq_false c3
    clear c3
    obtain rfl := zOi H
    go_enter Try.func17, Try.ntmps17
    go_wp2_with (first |  ((with_reducible refine gate_dst (N := 2) rfl ?_); (try (refine gate_guard (by rfl) ?_; dsimp only)); refine box_event ?hg (N := 2) ?hd (cs := #[.int .i64 a0_0, .slice A0_1 l0_1.length c0_1]) (t := 24) ?hr ?_; (case hd => rfl); (case hg => rfl); (case hr => first |  (go_simp; done)|  (go_simp; rfl)|  (go_simp; rw [show ∀ x : Int, IntKind.u32.wrap (IntKind.u8.wrap x) = x % 256 from fun x => (by show (x % 256) % 4294967296 = x % 256; omega)])); intro gb143 hg w6 hbox hb; have BK143 := zMk (hbox); have GW143 := zMk ((by rw [hg]; exact (zBs (by exact uT HB.out)) : w.heap.size ≤ gb143)); have GE143 := zMk ((by rw [hg]; exact (zBs (by exact uT HB.out)) : w.heap.size ≤ gb143)); have IGE143 := ownGe GE143.out; replace HB := zMk (zBt (by exact uT HB.out) hb); clear hb hbox hg; have hcz7_0 : w6.cell? ⟨gb143, 0, none⟩ = some (.int .i64 a0_0) := (zKc BK143.out 0).trans rfl; have hcz7_1 : w6.cell? ⟨gb143, 1, none⟩ = some (.slice A0_1 l0_1.length c0_1) := (zKc BK143.out 1).trans rfl; have hfz7_0 := zKf BK143.out 0; have hfz7_1 := zKf BK143.out 1))
    go_ret
    exact ⟨by first | rfl | (simp [errW_none, errW_some] <;> rfl) | (simp [*, errW_none, errW_some] <;> rfl), by exact uT HB.out⟩


/-! ### filigreelaw04_GraphParts: function 7 -/
def filigreelaw04_GraphParts.j0 : Nat → List Bool → List Int → Bool → Int → List (S36) → Int → List (S36) → Option (Bool)
  | 0, _, _, _, _, _, _, _ => none
  | k + 1, x2, x3, x22, x470000, x470001, x471000, x471001 => if x22 = true then ((filigreelaw04_alive.f k).bind fun t472 => (some t472)) else ((graph_Same.f k x470000 x470001 x471000 x471001).bind fun t473 => ((filigreeref04_Same.f k x470000 x470001 x471000 x471001).bind fun t474 => (if (t473 != t474) = true then (some false) else ((filigreeref04_Right.f k x470000 x470001).bind fun t475 => (if t475 = 0 then ((graph_Only.f k x470000 x470001 x2).bind fun bt487 => ((filigreeref04_Only.f k x470000 x470001 x2).bind fun bt491 => ((filigreeref04_Same.f k bt487.1 bt487.2 bt491.1 bt491.2).bind fun t495 => (if t495 = true then ((graph_Less.f k x470000 x470001 x3).bind fun bt496 => ((filigreeref04_Less.f k x470000 x470001 x3).bind fun bt500 => ((filigreeref04_Same.f k bt496.1 bt496.2 bt500.1 bt500.2).bind fun t504 => (if t504 = true then ((filigreelaw04_alive.f k).bind fun t505 => (some t505)) else (some false))))) else (some false))))) else ((graph_Only.f k x470000 x470001 x2).bind fun bt476 => ((filigreeref04_Same.f k bt476.1 bt476.2 0 ([] : List (S36))).bind fun t480 => (if t480 = true then ((graph_Less.f k x470000 x470001 x3).bind fun bt481 => ((filigreeref04_Same.f k bt481.1 bt481.2 0 ([] : List (S36))).bind fun t485 => (if t485 = true then ((filigreelaw04_alive.f k).bind fun t486 => (some t486)) else (some false)))) else (some false)))))))))
def filigreelaw04_GraphParts.f (k : Nat) (a0_0 : Int) (l0_1 : List (S36)) (a1_0 : Int) (l1_1 : List (S36)) (l2 : List Bool) (l3 : List Int) : Option (Bool) := (filigreelaw04_Light.f a0_0 l0_1 60).bind fun t471 => (if t471 = true then (if (l1_1.length : Int) > 1000 then (filigreelaw04_GraphParts.j0 k l2 l3 true a0_0 l0_1 a1_0 l1_1) else (filigreelaw04_GraphParts.j0 k l2 l3 (decide ((l3.length : Int) > 500)) a0_0 l0_1 a1_0 l1_1)) else (filigreelaw04_GraphParts.j0 k l2 l3 true a0_0 l0_1 a1_0 l1_1))
def filigreelaw04_GraphParts.T7 : Bool × List (List Nat × List Nat) := (true, [([], []), ([], []), ([0, 1], [0, 1]), ([], []), ([], []), ([3, 4, 2], [3, 4]), ([2, 5, 5], [2, 5]), ([6, 6], [6]), ([7], [7]), ([7], [7]), ([8, 9, 7, 7], [7, 8, 9]), ([7], [7]), ([7], [7]), ([11, 12, 10, 7], [7, 11, 12]), ([10, 13, 13, 7], [7, 10, 13]), ([7, 14], [7, 14]), ([15, 14], [15]), ([16, 16], [16]), ([16, 17], [16, 17]), ([18, 17, 0, 1, 2, 3, 4, 5, 6, 7, 8, 9, 10, 11, 12, 13, 14, 15, 16, 17, 18], [18])])
def filigreelaw04_GraphParts.B7 : List Nat := [0, 0, 3, 0, 0, 31, 63, 127, 255, 255, 1023, 255, 255, 8191, 16383, 32767, 65535, 131071, 262143, 524287]
theorem filigreelaw04_GraphParts.tab7 : rtab .any (opsOf Try.f7 7) = filigreelaw04_GraphParts.T7 := by kernel_rfl
theorem filigreelaw04_GraphParts.bits7 : waitsOk filigreelaw04_GraphParts.T7.2 filigreelaw04_GraphParts.B7 = true := by kernel_rfl
set_option maxHeartbeats 8000000 in
set_option maxRecDepth 100000 in
theorem filigreelaw04_GraphParts.calls (k : Nat) (a0_0 : Int) (A0_1 : Option Addr) (c0_1 : Nat) (l0_1 : List (S36)) (a1_0 : Int) (A1_1 : Option Addr) (c1_1 : Nat) (l1_1 : List (S36)) (A2 : Option Addr) (c2 : Nat) (l2 : List Bool) (A3 : Option Addr) (c3 : Nat) (l3 : List Int) (r : Bool) (w : World) (hr0_1 : Kd.C k36 w A0_1 l0_1.length l0_1) (hc0_1 : l0_1.length ≤ c0_1) (hr1_1 : Kd.C k36 w A1_1 l1_1.length l1_1) (hc1_1 : l1_1.length ≤ c1_1) (hr2 : Kd.C Kd.bool w A2 l2.length l2) (hc2 : l2.length ≤ c2) (hr3 : Kd.C (Kd.int .i64) w A3 l3.length l3) (hc3 : l3.length ≤ c3) (h : filigreelaw04_GraphParts.f k a0_0 l0_1 a1_0 l1_1 l2 l3 = some r) (hr_ : r = true) :
    Calls Try.prog 7 #[.agg #[.int .i64 a0_0, .slice A0_1 l0_1.length c0_1], .agg #[.int .i64 a1_0, .slice A1_1 l1_1.length c1_1], .slice A2 l2.length c2, .slice A3 l3.length c3] w fun e w' => e = .returned (.bool r) ∧ Below w.heap.size w w' := by
  have HRT := zMk hr_
  clear hr_
  have hu24 := Try.underlying24
  have HR0_1 := zMk hr0_1
  have HC0_1 := zMk hc0_1
  clear hr0_1 hc0_1
  have HR1_1 := zMk hr1_1
  have HC1_1 := zMk hc1_1
  clear hr1_1 hc1_1
  have HR2 := zMk hr2
  have HC2 := zMk hc2
  clear hr2 hc2
  have HR3 := zMk hr3
  have HC3 := zMk hc3
  clear hr3 hc3
  have HB := zMk (Below.refl w.heap.size w)
  have H : ((filigreelaw04_Light.f a0_0 l0_1 60).bind fun t471 => (if t471 = true then (if (l1_1.length : Int) > 1000 then (filigreelaw04_GraphParts.j0 k l2 l3 true a0_0 l0_1 a1_0 l1_1) else (filigreelaw04_GraphParts.j0 k l2 l3 (decide ((l3.length : Int) > 500)) a0_0 l0_1 a1_0 l1_1)) else (filigreelaw04_GraphParts.j0 k l2 l3 true a0_0 l0_1 a1_0 l1_1))) = some r := h
  clear h
  have HC5 := zMk H
  clear H
  go_enter Try.func7, Try.ntmps7
  go_upto_region 1 with (first |  ((with_reducible refine gate_dst (N := 4) rfl ?_); (try (refine gate_guard (by rfl) ?_; dsimp only)); refine box_event ?hg (N := 4) ?hd (cs := #[.int .i64 a0_0, .slice A0_1 l0_1.length c0_1]) (t := 24) ?hr ?_; (case hd => rfl); (case hg => rfl); (case hr => first |  (go_simp; done)|  (go_simp; rfl)|  (go_simp; rw [show ∀ x : Int, IntKind.u32.wrap (IntKind.u8.wrap x) = x % 256 from fun x => (by show (x % 256) % 4294967296 = x % 256; omega)])); intro gb469 hg w6 hbox hb; have BK469 := zMk (hbox); have GW469 := zMk ((by rw [hg]; exact (zBs (by exact uT HB.out)) : w.heap.size ≤ gb469)); have GE469 := zMk ((by rw [hg]; exact (zBs (by exact uT HB.out)) : w.heap.size ≤ gb469)); have IGE469 := ownGe GE469.out; replace HB := zMk (zBt (by exact uT HB.out) hb); clear hb hbox hg)|  ((with_reducible refine gate_dst (N := 5) rfl ?_); (try (refine gate_guard (by rfl) ?_; dsimp only)); refine box_event ?hg (N := 5) ?hd (cs := #[.int .i64 a1_0, .slice A1_1 l1_1.length c1_1]) (t := 24) ?hr ?_; (case hd => rfl); (case hg => rfl); (case hr => first |  (go_simp; done)|  (go_simp; rfl)|  (go_simp; rw [show ∀ x : Int, IntKind.u32.wrap (IntKind.u8.wrap x) = x % 256 from fun x => (by show (x % 256) % 4294967296 = x % 256; omega)])); intro gb470 hg w7 hbox hb; have BK470 := zMk (hbox); have GW470 := zMk ((by rw [hg]; exact (zBs (by exact uT HB.out)) : w.heap.size ≤ gb470)); have GE470 := zMk ((by rw [hg]; exact (zBs (by exact uT HB.out)) : w.heap.size ≤ gb470)); have IGE470 := ownGe GE470.out; replace HB := zMk (zBt (by exact uT HB.out) hb); have NB469_470 := zMk ((by rw [hg]; exact Nat.ne_of_lt (blk_lt (g := gb469) (o := .cells #[.int .i64 a0_0, .slice A0_1 l0_1.length c0_1] 24 (0, 0)) (by (with_reducible repeat (first |  refine zKn ?_ _|  refine zKd ?_|  refine zKa ?_ _)); exact BK469.out)) : gb469 ≠ gb470)); have NB470_469 := zMk ((by rw [hg]; exact Nat.ne_of_gt (blk_lt (g := gb469) (o := .cells #[.int .i64 a0_0, .slice A0_1 l0_1.length c0_1] 24 (0, 0)) (by (with_reducible repeat (first |  refine zKn ?_ _|  refine zKd ?_|  refine zKa ?_ _)); exact BK469.out)) : gb470 ≠ gb469)); replace BK469 := zMk (zKb (g := gb469) (o := .cells #[.int .i64 a0_0, .slice A0_1 l0_1.length c0_1] 24 (0, 0)) (by (with_reducible repeat (first |  refine zKn ?_ _|  refine zKd ?_|  refine zKa ?_ _)); exact BK469.out) hb); clear hb hbox hg))
  (try simp only [Act.put, zSa, zSb, zSc])
  go_cut [22] (fun v22 wc => ∃ (kq : Nat) (x22_4 : Bool), v22 = .bool x22_4 ∧ Aside0 (filigreelaw04_GraphParts.j0 kq l2 l3 x22_4 a0_0 l0_1 a1_0 l1_1 = some r) ∧ Aside0 (kq ≤ k) ∧ Aside0 (wc.heap[gb469]? = some (.cells #[.int .i64 a0_0, (.slice A0_1 l0_1.length c0_1)] 24 (0, 0))) ∧ Aside0 (wc.heap[gb470]? = some (.cells #[.int .i64 a1_0, (.slice A1_1 l1_1.length c1_1)] 24 (0, 0))) ∧ Aside0 (Below w.heap.size w wc))
  case first =>
    have H := HC5.out
    clear HC5
    replace H := bnd H
    obtain ⟨t471, A80, H⟩ := H
    have A8 := zMk A80
    clear A80
    by_cases c9 : t471 = true
    · subst c9
      replace H : (if (l1_1.length : Int) > 1000 then (filigreelaw04_GraphParts.j0 k l2 l3 true a0_0 l0_1 a1_0 l1_1) else (filigreelaw04_GraphParts.j0 k l2 l3 (decide ((l3.length : Int) > 500)) a0_0 l0_1 a1_0 l1_1)) = some r := by rw [if_pos rfl] at H; exact H
      by_cases c10 : (l1_1.length : Int) > 1000
      · rw [if_pos c10] at H
        have c10b0 : decide (1000 < (l1_1.length : Int)) = true := decide_eq_true c10
        have c10b1 : decide (1000 < l1_1.length) = true := decide_eq_true (by omega)
        clear c10
        (first | rw [c10b0] | (simp only [i64_w, i32_w]; rw [c10b0]) | rw [c10b1] | skip)
        have H' := zMk H
        clear H
        have hnb11 := NB469_470.out
        have hnc11 := NB470_469.out
        have hcz12_0 : w7.cell? ⟨gb469, 0, none⟩ = some (.int .i64 a0_0) := (zKc BK469.out 0).trans rfl
        have hcz12_1 : w7.cell? ⟨gb469, 1, none⟩ = some (.slice A0_1 l0_1.length c0_1) := (zKc BK469.out 1).trans rfl
        have hfz12_0 := zKf BK469.out 0
        have hfz12_1 := zKf BK469.out 1
        go_wp2_with (first |  ((with_reducible refine gate_callee (f := 17) rfl ?_); refine goesL_ (some 10) rfl rfl Try.func17 (by kernel_rfl) rfl #[.agg #[.int .i64 a0_0, .slice A0_1 l0_1.length c0_1], .int .i64 60] rfl (by (try simp only [zMa, zMc, zMn]); first |  done|  rfl|  (simp only [zLd, zLt]; rfl)) ?_; (with_reducible refine (filigreelaw04_Light.calls a0_0 _ _ l0_1 60 true _ ?side1 ?side2 A8.out).mono ?_); (case side1 => repeat (first |  exact (Kd.C_below HR0_1.out HB.out)|  (with_reducible refine zCa ?_ _)|  (with_reducible refine zCn ?_ _)|  (with_reducible refine zCd ?_))); (case side2 => exact HC0_1.out); rintro e w13 ⟨rfl, hb⟩; refine ⟨_, rfl, ?_⟩; replace BK469 := zMk (zKb (g := gb469) (o := .cells #[.int .i64 a0_0, .slice A0_1 l0_1.length c0_1] 24 (0, 0)) (by (with_reducible repeat (first |  refine zKn ?_ _|  refine zKd ?_|  refine zKa ?_ _)); exact BK469.out) hb); replace BK470 := zMk (zKb (g := gb470) (o := .cells #[.int .i64 a1_0, .slice A1_1 l1_1.length c1_1] 24 (0, 0)) (by (with_reducible repeat (first |  refine zKn ?_ _|  refine zKd ?_|  refine zKa ?_ _)); exact BK470.out) hb); replace HB := zMk (zBt (by exact uT HB.out) hb); (try clear hb); (try clear hb2); (try clear hk); (try clear hi); have hcz14_0 : w13.cell? ⟨gb470, 0, none⟩ = some (.int .i64 a1_0) := (zKc BK470.out 0).trans rfl; have hcz14_1 : w13.cell? ⟨gb470, 1, none⟩ = some (.slice A1_1 l1_1.length c1_1) := (zKc BK470.out 1).trans rfl; have hfz14_0 := zKf BK470.out 0; have hfz14_1 := zKf BK470.out 1))
        go_meet
        case rel => exact ⟨_, (true), (by first | rfl | (simp; done) | (simp [*]; done)), H', ⟨by first | omega | exact Nat.le_refl _⟩, ⟨by (with_reducible repeat (first | refine zKn ?_ _ | refine zKd ?_ | refine zKa ?_ _)); exact BK469.out⟩, ⟨by (with_reducible repeat (first | refine zKn ?_ _ | refine zKd ?_ | refine zKa ?_ _)); exact BK470.out⟩, ⟨by exact uT HB.out⟩⟩
      · rw [if_neg c10] at H
        have c10b0 : decide (1000 < (l1_1.length : Int)) = false := decide_eq_false c10
        have c10b1 : decide (1000 < l1_1.length) = false := decide_eq_false (by omega)
        clear c10
        (first | rw [c10b0] | (simp only [i64_w, i32_w]; rw [c10b0]) | rw [c10b1] | skip)
        have H' := zMk H
        clear H
        have hnb15 := NB469_470.out
        have hnc15 := NB470_469.out
        have hcz16_0 : w7.cell? ⟨gb469, 0, none⟩ = some (.int .i64 a0_0) := (zKc BK469.out 0).trans rfl
        have hcz16_1 : w7.cell? ⟨gb469, 1, none⟩ = some (.slice A0_1 l0_1.length c0_1) := (zKc BK469.out 1).trans rfl
        have hfz16_0 := zKf BK469.out 0
        have hfz16_1 := zKf BK469.out 1
        go_wp2_with (first |  ((with_reducible refine gate_callee (f := 17) rfl ?_); refine goesL_ (some 10) rfl rfl Try.func17 (by kernel_rfl) rfl #[.agg #[.int .i64 a0_0, .slice A0_1 l0_1.length c0_1], .int .i64 60] rfl (by (try simp only [zMa, zMc, zMn]); first |  done|  rfl|  (simp only [zLd, zLt]; rfl)) ?_; (with_reducible refine (filigreelaw04_Light.calls a0_0 _ _ l0_1 60 true _ ?side1 ?side2 A8.out).mono ?_); (case side1 => repeat (first |  exact (Kd.C_below HR0_1.out HB.out)|  (with_reducible refine zCa ?_ _)|  (with_reducible refine zCn ?_ _)|  (with_reducible refine zCd ?_))); (case side2 => exact HC0_1.out); rintro e w17 ⟨rfl, hb⟩; refine ⟨_, rfl, ?_⟩; replace BK469 := zMk (zKb (g := gb469) (o := .cells #[.int .i64 a0_0, .slice A0_1 l0_1.length c0_1] 24 (0, 0)) (by (with_reducible repeat (first |  refine zKn ?_ _|  refine zKd ?_|  refine zKa ?_ _)); exact BK469.out) hb); replace BK470 := zMk (zKb (g := gb470) (o := .cells #[.int .i64 a1_0, .slice A1_1 l1_1.length c1_1] 24 (0, 0)) (by (with_reducible repeat (first |  refine zKn ?_ _|  refine zKd ?_|  refine zKa ?_ _)); exact BK470.out) hb); replace HB := zMk (zBt (by exact uT HB.out) hb); (try clear hb); (try clear hb2); (try clear hk); (try clear hi); have hcz18_0 : w17.cell? ⟨gb470, 0, none⟩ = some (.int .i64 a1_0) := (zKc BK470.out 0).trans rfl; have hcz18_1 : w17.cell? ⟨gb470, 1, none⟩ = some (.slice A1_1 l1_1.length c1_1) := (zKc BK470.out 1).trans rfl; have hfz18_0 := zKf BK470.out 0; have hfz18_1 := zKf BK470.out 1))
        go_meet
        case rel => exact ⟨_, (decide ((l3.length : Int) > 500)), (by first | rfl | (simp; done) | (simp [*]; done)), H', ⟨by first | omega | exact Nat.le_refl _⟩, ⟨by (with_reducible repeat (first | refine zKn ?_ _ | refine zKd ?_ | refine zKa ?_ _)); exact BK469.out⟩, ⟨by (with_reducible repeat (first | refine zKn ?_ _ | refine zKd ?_ | refine zKa ?_ _)); exact BK470.out⟩, ⟨by exact uT HB.out⟩⟩
    · replace c9 := Bool.eq_false_iff.mpr c9
      subst c9
      replace H : (filigreelaw04_GraphParts.j0 k l2 l3 true a0_0 l0_1 a1_0 l1_1) = some r := by rw [if_neg (show ¬ (false = true) by decide)] at H; exact H
      have H' := zMk H
      clear H
      have hnb19 := NB469_470.out
      have hnc19 := NB470_469.out
      have hcz20_0 : w7.cell? ⟨gb469, 0, none⟩ = some (.int .i64 a0_0) := (zKc BK469.out 0).trans rfl
      have hcz20_1 : w7.cell? ⟨gb469, 1, none⟩ = some (.slice A0_1 l0_1.length c0_1) := (zKc BK469.out 1).trans rfl
      have hfz20_0 := zKf BK469.out 0
      have hfz20_1 := zKf BK469.out 1
      go_wp2_with (first |  ((with_reducible refine gate_callee (f := 17) rfl ?_); refine goesL_ (some 10) rfl rfl Try.func17 (by kernel_rfl) rfl #[.agg #[.int .i64 a0_0, .slice A0_1 l0_1.length c0_1], .int .i64 60] rfl (by (try simp only [zMa, zMc, zMn]); first |  done|  rfl|  (simp only [zLd, zLt]; rfl)) ?_; (with_reducible refine (filigreelaw04_Light.calls a0_0 _ _ l0_1 60 false _ ?side1 ?side2 A8.out).mono ?_); (case side1 => repeat (first |  exact (Kd.C_below HR0_1.out HB.out)|  (with_reducible refine zCa ?_ _)|  (with_reducible refine zCn ?_ _)|  (with_reducible refine zCd ?_))); (case side2 => exact HC0_1.out); rintro e w21 ⟨rfl, hb⟩; refine ⟨_, rfl, ?_⟩; replace BK469 := zMk (zKb (g := gb469) (o := .cells #[.int .i64 a0_0, .slice A0_1 l0_1.length c0_1] 24 (0, 0)) (by (with_reducible repeat (first |  refine zKn ?_ _|  refine zKd ?_|  refine zKa ?_ _)); exact BK469.out) hb); replace BK470 := zMk (zKb (g := gb470) (o := .cells #[.int .i64 a1_0, .slice A1_1 l1_1.length c1_1] 24 (0, 0)) (by (with_reducible repeat (first |  refine zKn ?_ _|  refine zKd ?_|  refine zKa ?_ _)); exact BK470.out) hb); replace HB := zMk (zBt (by exact uT HB.out) hb); (try clear hb); (try clear hb2); (try clear hk); (try clear hi)))
      go_meet
      case rel => exact ⟨_, (true), (by first | rfl | (simp; done) | (simp [*]; done)), H', ⟨by first | omega | exact Nat.le_refl _⟩, ⟨by (with_reducible repeat (first | refine zKn ?_ _ | refine zKd ?_ | refine zKa ?_ _)); exact BK469.out⟩, ⟨by (with_reducible repeat (first | refine zKn ?_ _ | refine zKd ?_ | refine zKa ?_ _)); exact BK470.out⟩, ⟨by exact uT HB.out⟩⟩
  case rest =>
    clear HC5
    obtain ⟨kq, x22_4, rfl, HA, HJ4, BK469, BK470, HB⟩ := hcut
    rcases kq with _ | kj4
    · exact absurd HA.out (by simp [filigreelaw04_GraphParts.j0])
    have H := HA.out
    clear HA
    simp only [filigreelaw04_GraphParts.j0] at H
    by_cases c22 : x22_4 = true
    · subst c22
      replace H : ((filigreelaw04_alive.f kj4).bind fun t472 => (some t472)) = some r := by rw [if_pos rfl] at H; exact H
      replace H := bnd H
      obtain ⟨t472, A230, H⟩ := H
      have A23 := zMk A230
      clear A230
      obtain rfl := zOi H
      go_wp2_with (first |  ((with_reducible refine gate_callee (f := 13) rfl ?_); refine goesL_ (some 23) rfl rfl Try.func13 (by kernel_rfl) rfl #[] rfl (by (try simp only [zMa, zMc, zMn]); first |  done|  rfl|  (simp only [zLd, zLt]; rfl)) ?_; (with_reducible refine (filigreelaw04_alive.calls kj4  t472 _ A23.out).mono ?_); rintro e w24 ⟨rfl, hb⟩; refine ⟨_, rfl, ?_⟩; replace BK469 := zMk (zKb (g := gb469) (o := .cells #[.int .i64 a0_0, .slice A0_1 l0_1.length c0_1] 24 (0, 0)) (by (with_reducible repeat (first |  refine zKn ?_ _|  refine zKd ?_|  refine zKa ?_ _)); exact BK469.out) hb); replace BK470 := zMk (zKb (g := gb470) (o := .cells #[.int .i64 a1_0, .slice A1_1 l1_1.length c1_1] 24 (0, 0)) (by (with_reducible repeat (first |  refine zKn ?_ _|  refine zKd ?_|  refine zKa ?_ _)); exact BK470.out) hb); replace HB := zMk (zBt (by exact uT HB.out) hb); (try clear hb); (try clear hb2); (try clear hk); (try clear hi)))
      go_ret
      exact ⟨by first | rfl | (simp [errW_none, errW_some] <;> rfl) | (simp [*, errW_none, errW_some] <;> rfl), by exact uT HB.out⟩
    · replace c22 := Bool.eq_false_iff.mpr c22
      subst c22
      replace H : ((graph_Same.f kj4 a0_0 l0_1 a1_0 l1_1).bind fun t473 => ((filigreeref04_Same.f kj4 a0_0 l0_1 a1_0 l1_1).bind fun t474 => (if (t473 != t474) = true then (some false) else ((filigreeref04_Right.f kj4 a0_0 l0_1).bind fun t475 => (if t475 = 0 then ((graph_Only.f kj4 a0_0 l0_1 l2).bind fun bt487 => ((filigreeref04_Only.f kj4 a0_0 l0_1 l2).bind fun bt491 => ((filigreeref04_Same.f kj4 bt487.1 bt487.2 bt491.1 bt491.2).bind fun t495 => (if t495 = true then ((graph_Less.f kj4 a0_0 l0_1 l3).bind fun bt496 => ((filigreeref04_Less.f kj4 a0_0 l0_1 l3).bind fun bt500 => ((filigreeref04_Same.f kj4 bt496.1 bt496.2 bt500.1 bt500.2).bind fun t504 => (if t504 = true then ((filigreelaw04_alive.f kj4).bind fun t505 => (some t505)) else (some false))))) else (some false))))) else ((graph_Only.f kj4 a0_0 l0_1 l2).bind fun bt476 => ((filigreeref04_Same.f kj4 bt476.1 bt476.2 0 ([] : List (S36))).bind fun t480 => (if t480 = true then ((graph_Less.f kj4 a0_0 l0_1 l3).bind fun bt481 => ((filigreeref04_Same.f kj4 bt481.1 bt481.2 0 ([] : List (S36))).bind fun t485 => (if t485 = true then ((filigreelaw04_alive.f kj4).bind fun t486 => (some t486)) else (some false)))) else (some false))))))))) = some r := by rw [if_neg (show ¬ (false = true) by decide)] at H; exact H
      replace H := bnd H
      obtain ⟨t473, A250, H⟩ := H
      have A25 := zMk A250
      clear A250
      replace H := bnd H
      obtain ⟨t474, A260, H⟩ := H
      have A26 := zMk A260
      clear A260
      by_cases c27 : (t473 != t474) = true
      · rw [if_pos c27] at H
        have c27b0 : (t473 != t474) = true := c27
        (try (have c27b1 : decide (t473 = t474) = false := by simpa using c27))
        (try (have c27b2 : (t473 == t474) = false := by simpa using c27))
        (try (have c27b3 : ¬ (t473 = t474) := by simpa using c27))
        clear c27
        obtain rfl := zOi H
        try go_wp2
        replace BK469 := zMk (zKd BK469.out)
        replace BK470 := zMk (zKd BK470.out)
        replace HB := zMk (zBd HB.out)
        refine start_ (n := 7) (S := fun w' => w'.cell? ⟨gb469, 0, none⟩ = some (.int .i64 a0_0) ∧ w'.cell? ⟨gb469, 1, none⟩ = some (.slice A0_1 l0_1.length c0_1) ∧ w'.cell? ⟨gb470, 0, none⟩ = some (.int .i64 a1_0) ∧ w'.cell? ⟨gb470, 1, none⟩ = some (.slice A1_1 l1_1.length c1_1)) (ds := []) #[false, false, false, false, false, false, false] (by kernel_rfl) rfl rfl ⟨(zKc BK469.out 0).trans rfl, (zKc BK469.out 1).trans rfl, (zKc BK470.out 0).trans rfl, (zKc BK470.out 1).trans rfl⟩ (fun hHeld => ?_)
        generalize wc.drew = w28 at BK469 BK470 HB hHeld ⊢
        refine take_ (i := 0) (N := some 24) (v := ?_) (a' := ?_) #[true, false, false, false, false, false, false] rfl rfl (by kernel_rfl) (fun _ _ _ h => h) (Or.inl ⟨by rfl, ?_⟩) hHeld ?_ ?_
        rotate_left
        · rintro w' ⟨s0, s1, s2, s3⟩
          go_simp
          with_reducible rfl
        rotate_left
        · simp only [Act.put, zSa, zSb, zSc, i64_w, i32_w]
          rfl
        refine take_ (i := 1) (N := some 25) (v := ?_) (a' := ?_) #[true, true, false, false, false, false, false] rfl rfl (by kernel_rfl) (fun _ _ _ h => h) (Or.inl ⟨by rfl, ?_⟩) hHeld ?_ ?_
        rotate_left
        · rintro w' ⟨s0, s1, s2, s3⟩
          go_simp
          with_reducible rfl
        rotate_left
        · simp only [Act.put, zSa, zSb, zSc, i64_w, i32_w]
          rfl
        refine take_ (i := 3) (N := some 27) (v := ?_) (a' := ?_) #[true, true, false, true, false, false, false] rfl rfl (by kernel_rfl) (fun _ _ _ h => h) (Or.inl ⟨by rfl, ?_⟩) hHeld ?_ ?_
        rotate_left
        · rintro w' ⟨s0, s1, s2, s3⟩
          go_simp
          with_reducible rfl
        rotate_left
        · simp only [Act.put, zSa, zSb, zSc, i64_w, i32_w]
          rfl
        refine take_ (i := 4) (N := some 28) (v := ?_) (a' := ?_) #[true, true, false, true, true, false, false] rfl rfl (by kernel_rfl) (fun _ _ _ h => h) (Or.inl ⟨by rfl, ?_⟩) hHeld ?_ ?_
        rotate_left
        · rintro w' ⟨s0, s1, s2, s3⟩
          go_simp
          with_reducible rfl
        rotate_left
        · simp only [Act.put, zSa, zSb, zSc, i64_w, i32_w]
          rfl
        refine one_ (i := 2) (N := some 26) #[true, true, true, true, true, false, false] rfl rfl (by kernel_rfl) (by decide) (fun K hK => ?_)
        refine goes_ Try.func18 (by kernel_rfl) rfl #[.agg #[.int .i64 a0_0, .slice A0_1 l0_1.length c0_1], .agg #[.int .i64 a1_0, .slice A1_1 l1_1.length c1_1]] (by rfl) rfl rfl (by (try simp only [zMa, zMc, zMn]); first | done | rfl | (simp only [zLd, zLt]; rfl)) ?_
        with_reducible refine (graph_Same.calls kj4 a0_0 _ _ l0_1 a1_0 _ _ l1_1 t473 _ ?side1 ?side2 ?side3 ?side4 A25.out).mono ?_
        (case side1 => repeat (first | exact (Kd.C_below HR0_1.out HB.out) | (with_reducible refine zCa ?_ _) | (with_reducible refine zCn ?_ _) | (with_reducible refine zCd ?_)))
        (case side2 => exact HC0_1.out)
        (case side3 => repeat (first | exact (Kd.C_below HR1_1.out HB.out) | (with_reducible refine zCa ?_ _) | (with_reducible refine zCn ?_ _) | (with_reducible refine zCd ?_)))
        (case side4 => exact HC1_1.out)
        rintro e w29 ⟨rfl, hb⟩
        refine ⟨_, rfl, ?_⟩
        replace BK469 := zMk (zKb (g := gb469) (o := .cells #[.int .i64 a0_0, .slice A0_1 l0_1.length c0_1] 24 (0, 0)) (by (with_reducible repeat (first | refine zKn ?_ _ | refine zKd ?_ | refine zKa ?_ _)); exact BK469.out) hb)
        replace BK470 := zMk (zKb (g := gb470) (o := .cells #[.int .i64 a1_0, .slice A1_1 l1_1.length c1_1] 24 (0, 0)) (by (with_reducible repeat (first | refine zKn ?_ _ | refine zKd ?_ | refine zKa ?_ _)); exact BK470.out) hb)
        replace HB := zMk (zBt (by exact uT HB.out) hb)
        (try clear hb)
        (try clear hb2)
        (try clear hk)
        (try clear hi)
        refine hK.out _ _ ⟨(zKc BK469.out 0).trans rfl, (zKc BK469.out 1).trans rfl, (zKc BK470.out 0).trans rfl, (zKc BK470.out 1).trans rfl⟩ (fun hHeld => ?_)
        clear hK K
        refine norm_ (a' := ?_) ?_ ?_
        rotate_left
        · show Act.put _ (some 26) _ = _
          simp only [Act.put, zSa, zSb, zSc, i64_w, i32_w]
          rfl
        refine one_ (i := 5) (N := some 29) #[true, true, true, true, true, true, false] rfl rfl (by kernel_rfl) (by decide) (fun K hK => ?_)
        refine goes_ Try.func16 (by kernel_rfl) rfl #[.agg #[.int .i64 a0_0, .slice A0_1 l0_1.length c0_1], .agg #[.int .i64 a1_0, .slice A1_1 l1_1.length c1_1]] (by rfl) rfl rfl (by (try simp only [zMa, zMc, zMn]); first | done | rfl | (simp only [zLd, zLt]; rfl)) ?_
        with_reducible refine (filigreeref04_Same.calls kj4 a0_0 _ _ l0_1 a1_0 _ _ l1_1 t474 _ ?side1 ?side2 ?side3 ?side4 A26.out).mono ?_
        (case side1 => repeat (first | exact (Kd.C_below HR0_1.out HB.out) | (with_reducible refine zCa ?_ _) | (with_reducible refine zCn ?_ _) | (with_reducible refine zCd ?_)))
        (case side2 => exact HC0_1.out)
        (case side3 => repeat (first | exact (Kd.C_below HR1_1.out HB.out) | (with_reducible refine zCa ?_ _) | (with_reducible refine zCn ?_ _) | (with_reducible refine zCd ?_)))
        (case side4 => exact HC1_1.out)
        rintro e w30 ⟨rfl, hb⟩
        refine ⟨_, rfl, ?_⟩
        replace BK469 := zMk (zKb (g := gb469) (o := .cells #[.int .i64 a0_0, .slice A0_1 l0_1.length c0_1] 24 (0, 0)) (by (with_reducible repeat (first | refine zKn ?_ _ | refine zKd ?_ | refine zKa ?_ _)); exact BK469.out) hb)
        replace BK470 := zMk (zKb (g := gb470) (o := .cells #[.int .i64 a1_0, .slice A1_1 l1_1.length c1_1] 24 (0, 0)) (by (with_reducible repeat (first | refine zKn ?_ _ | refine zKd ?_ | refine zKa ?_ _)); exact BK470.out) hb)
        replace HB := zMk (zBt (by exact uT HB.out) hb)
        (try clear hb)
        (try clear hb2)
        (try clear hk)
        (try clear hi)
        refine hK.out _ _ ⟨(zKc BK469.out 0).trans rfl, (zKc BK469.out 1).trans rfl, (zKc BK470.out 0).trans rfl, (zKc BK470.out 1).trans rfl⟩ (fun hHeld => ?_)
        clear hK K
        refine norm_ (a' := ?_) ?_ ?_
        rotate_left
        · show Act.put _ (some 29) _ = _
          simp only [Act.put, zSa, zSb, zSc, i64_w, i32_w]
          rfl
        refine pure_ (i := 6) (N := some 30) (v := ?_) (a' := ?_) #[true, true, true, true, true, true, true] rfl rfl (by kernel_rfl) (fun _ _ _ h => h) (Or.inl ⟨by rfl, ?_⟩) ?_ ?_
        rotate_left
        · intro w'
          go_simp
          with_reducible rfl
        rotate_left
        · simp only [Act.put, zSa, zSb, zSc, i64_w, i32_w]
          rfl
        refine done_ (by kernel_rfl) ?_
        try go_wp2
        go_ret
        exact ⟨by first | rfl | (simp [errW_none, errW_some] <;> rfl) | (simp [*, errW_none, errW_some] <;> rfl), by exact uT HB.out⟩
      · rw [if_neg c27] at H
        have c27b0 : (t473 != t474) = false := by simpa using c27
        (try (have c27b1 : decide (t473 = t474) = true := by simpa using c27))
        (try (have c27b2 : (t473 == t474) = true := by simpa using c27))
        clear c27
        replace H := bnd H
        obtain ⟨t475, A310, H⟩ := H
        have A31 := zMk A310
        clear A310
        by_cases c32 : t475 = 0
        · rw [if_pos c32] at H
          have c32b0 : (t475 == 0) = true := beq_iff_eq.mpr c32
          have c32b1 : (t475 != 0) = false := bne_eq_false_iff_eq.mpr c32
          clear c32
          replace H := bnd H
          obtain ⟨⟨t487, t488⟩, A330, H⟩ := H
          replace H : ((filigreeref04_Only.f kj4 a0_0 l0_1 l2).bind fun bt491 => ((filigreeref04_Same.f kj4 t487 t488 bt491.1 bt491.2).bind fun t495 => (if t495 = true then ((graph_Less.f kj4 a0_0 l0_1 l3).bind fun bt496 => ((filigreeref04_Less.f kj4 a0_0 l0_1 l3).bind fun bt500 => ((filigreeref04_Same.f kj4 bt496.1 bt496.2 bt500.1 bt500.2).bind fun t504 => (if t504 = true then ((filigreelaw04_alive.f kj4).bind fun t505 => (some t505)) else (some false))))) else (some false)))) = some r := H
          have A33 := zMk A330
          clear A330
          replace H := bnd H
          obtain ⟨⟨t491, t492⟩, A340, H⟩ := H
          replace H : ((filigreeref04_Same.f kj4 t487 t488 t491 t492).bind fun t495 => (if t495 = true then ((graph_Less.f kj4 a0_0 l0_1 l3).bind fun bt496 => ((filigreeref04_Less.f kj4 a0_0 l0_1 l3).bind fun bt500 => ((filigreeref04_Same.f kj4 bt496.1 bt496.2 bt500.1 bt500.2).bind fun t504 => (if t504 = true then ((filigreelaw04_alive.f kj4).bind fun t505 => (some t505)) else (some false))))) else (some false))) = some r := H
          have A34 := zMk A340
          clear A340
          replace H := bnd H
          obtain ⟨t495, A350, H⟩ := H
          have A35 := zMk A350
          clear A350
          by_cases c36 : t495 = true
          · subst c36
            replace H : ((graph_Less.f kj4 a0_0 l0_1 l3).bind fun bt496 => ((filigreeref04_Less.f kj4 a0_0 l0_1 l3).bind fun bt500 => ((filigreeref04_Same.f kj4 bt496.1 bt496.2 bt500.1 bt500.2).bind fun t504 => (if t504 = true then ((filigreelaw04_alive.f kj4).bind fun t505 => (some t505)) else (some false))))) = some r := by rw [if_pos rfl] at H; exact H
            replace H := bnd H
            obtain ⟨⟨t496, t497⟩, A370, H⟩ := H
            replace H : ((filigreeref04_Less.f kj4 a0_0 l0_1 l3).bind fun bt500 => ((filigreeref04_Same.f kj4 t496 t497 bt500.1 bt500.2).bind fun t504 => (if t504 = true then ((filigreelaw04_alive.f kj4).bind fun t505 => (some t505)) else (some false)))) = some r := H
            have A37 := zMk A370
            clear A370
            replace H := bnd H
            obtain ⟨⟨t500, t501⟩, A380, H⟩ := H
            replace H : ((filigreeref04_Same.f kj4 t496 t497 t500 t501).bind fun t504 => (if t504 = true then ((filigreelaw04_alive.f kj4).bind fun t505 => (some t505)) else (some false))) = some r := H
            have A38 := zMk A380
            clear A380
            replace H := bnd H
            obtain ⟨t504, A390, H⟩ := H
            have A39 := zMk A390
            clear A390
            by_cases c40 : t504 = true
            · subst c40
              replace H : ((filigreelaw04_alive.f kj4).bind fun t505 => (some t505)) = some r := by rw [if_pos rfl] at H; exact H
              replace H := bnd H
              obtain ⟨t505, A410, H⟩ := H
              have A41 := zMk A410
              clear A410
              obtain rfl := zOi H
              try go_wp2
              replace BK469 := zMk (zKd BK469.out)
              replace BK470 := zMk (zKd BK470.out)
              replace HB := zMk (zBd HB.out)
              refine start_ (n := 7) (S := fun w' => w'.cell? ⟨gb469, 0, none⟩ = some (.int .i64 a0_0) ∧ w'.cell? ⟨gb469, 1, none⟩ = some (.slice A0_1 l0_1.length c0_1) ∧ w'.cell? ⟨gb470, 0, none⟩ = some (.int .i64 a1_0) ∧ w'.cell? ⟨gb470, 1, none⟩ = some (.slice A1_1 l1_1.length c1_1)) (ds := []) #[false, false, false, false, false, false, false] (by kernel_rfl) rfl rfl ⟨(zKc BK469.out 0).trans rfl, (zKc BK469.out 1).trans rfl, (zKc BK470.out 0).trans rfl, (zKc BK470.out 1).trans rfl⟩ (fun hHeld => ?_)
              generalize wc.drew = w42 at BK469 BK470 HB hHeld ⊢
              refine take_ (i := 0) (N := some 24) (v := ?_) (a' := ?_) #[true, false, false, false, false, false, false] rfl rfl (by kernel_rfl) (fun _ _ _ h => h) (Or.inl ⟨by rfl, ?_⟩) hHeld ?_ ?_
              rotate_left
              · rintro w' ⟨s0, s1, s2, s3⟩
                go_simp
                with_reducible rfl
              rotate_left
              · simp only [Act.put, zSa, zSb, zSc, i64_w, i32_w]
                rfl
              refine take_ (i := 1) (N := some 25) (v := ?_) (a' := ?_) #[true, true, false, false, false, false, false] rfl rfl (by kernel_rfl) (fun _ _ _ h => h) (Or.inl ⟨by rfl, ?_⟩) hHeld ?_ ?_
              rotate_left
              · rintro w' ⟨s0, s1, s2, s3⟩
                go_simp
                with_reducible rfl
              rotate_left
              · simp only [Act.put, zSa, zSb, zSc, i64_w, i32_w]
                rfl
              refine take_ (i := 3) (N := some 27) (v := ?_) (a' := ?_) #[true, true, false, true, false, false, false] rfl rfl (by kernel_rfl) (fun _ _ _ h => h) (Or.inl ⟨by rfl, ?_⟩) hHeld ?_ ?_
              rotate_left
              · rintro w' ⟨s0, s1, s2, s3⟩
                go_simp
                with_reducible rfl
              rotate_left
              · simp only [Act.put, zSa, zSb, zSc, i64_w, i32_w]
                rfl
              refine take_ (i := 4) (N := some 28) (v := ?_) (a' := ?_) #[true, true, false, true, true, false, false] rfl rfl (by kernel_rfl) (fun _ _ _ h => h) (Or.inl ⟨by rfl, ?_⟩) hHeld ?_ ?_
              rotate_left
              · rintro w' ⟨s0, s1, s2, s3⟩
                go_simp
                with_reducible rfl
              rotate_left
              · simp only [Act.put, zSa, zSb, zSc, i64_w, i32_w]
                rfl
              refine one_ (i := 2) (N := some 26) #[true, true, true, true, true, false, false] rfl rfl (by kernel_rfl) (by decide) (fun K hK => ?_)
              refine goes_ Try.func18 (by kernel_rfl) rfl #[.agg #[.int .i64 a0_0, .slice A0_1 l0_1.length c0_1], .agg #[.int .i64 a1_0, .slice A1_1 l1_1.length c1_1]] (by rfl) rfl rfl (by (try simp only [zMa, zMc, zMn]); first | done | rfl | (simp only [zLd, zLt]; rfl)) ?_
              with_reducible refine (graph_Same.calls kj4 a0_0 _ _ l0_1 a1_0 _ _ l1_1 t473 _ ?side1 ?side2 ?side3 ?side4 A25.out).mono ?_
              (case side1 => repeat (first | exact (Kd.C_below HR0_1.out HB.out) | (with_reducible refine zCa ?_ _) | (with_reducible refine zCn ?_ _) | (with_reducible refine zCd ?_)))
              (case side2 => exact HC0_1.out)
              (case side3 => repeat (first | exact (Kd.C_below HR1_1.out HB.out) | (with_reducible refine zCa ?_ _) | (with_reducible refine zCn ?_ _) | (with_reducible refine zCd ?_)))
              (case side4 => exact HC1_1.out)
              rintro e w43 ⟨rfl, hb⟩
              refine ⟨_, rfl, ?_⟩
              replace BK469 := zMk (zKb (g := gb469) (o := .cells #[.int .i64 a0_0, .slice A0_1 l0_1.length c0_1] 24 (0, 0)) (by (with_reducible repeat (first | refine zKn ?_ _ | refine zKd ?_ | refine zKa ?_ _)); exact BK469.out) hb)
              replace BK470 := zMk (zKb (g := gb470) (o := .cells #[.int .i64 a1_0, .slice A1_1 l1_1.length c1_1] 24 (0, 0)) (by (with_reducible repeat (first | refine zKn ?_ _ | refine zKd ?_ | refine zKa ?_ _)); exact BK470.out) hb)
              replace HB := zMk (zBt (by exact uT HB.out) hb)
              (try clear hb)
              (try clear hb2)
              (try clear hk)
              (try clear hi)
              refine hK.out _ _ ⟨(zKc BK469.out 0).trans rfl, (zKc BK469.out 1).trans rfl, (zKc BK470.out 0).trans rfl, (zKc BK470.out 1).trans rfl⟩ (fun hHeld => ?_)
              clear hK K
              refine norm_ (a' := ?_) ?_ ?_
              rotate_left
              · show Act.put _ (some 26) _ = _
                simp only [Act.put, zSa, zSb, zSc, i64_w, i32_w]
                rfl
              refine one_ (i := 5) (N := some 29) #[true, true, true, true, true, true, false] rfl rfl (by kernel_rfl) (by decide) (fun K hK => ?_)
              refine goes_ Try.func16 (by kernel_rfl) rfl #[.agg #[.int .i64 a0_0, .slice A0_1 l0_1.length c0_1], .agg #[.int .i64 a1_0, .slice A1_1 l1_1.length c1_1]] (by rfl) rfl rfl (by (try simp only [zMa, zMc, zMn]); first | done | rfl | (simp only [zLd, zLt]; rfl)) ?_
              with_reducible refine (filigreeref04_Same.calls kj4 a0_0 _ _ l0_1 a1_0 _ _ l1_1 t474 _ ?side1 ?side2 ?side3 ?side4 A26.out).mono ?_
              (case side1 => repeat (first | exact (Kd.C_below HR0_1.out HB.out) | (with_reducible refine zCa ?_ _) | (with_reducible refine zCn ?_ _) | (with_reducible refine zCd ?_)))
              (case side2 => exact HC0_1.out)
              (case side3 => repeat (first | exact (Kd.C_below HR1_1.out HB.out) | (with_reducible refine zCa ?_ _) | (with_reducible refine zCn ?_ _) | (with_reducible refine zCd ?_)))
              (case side4 => exact HC1_1.out)
              rintro e w44 ⟨rfl, hb⟩
              refine ⟨_, rfl, ?_⟩
              replace BK469 := zMk (zKb (g := gb469) (o := .cells #[.int .i64 a0_0, .slice A0_1 l0_1.length c0_1] 24 (0, 0)) (by (with_reducible repeat (first | refine zKn ?_ _ | refine zKd ?_ | refine zKa ?_ _)); exact BK469.out) hb)
              replace BK470 := zMk (zKb (g := gb470) (o := .cells #[.int .i64 a1_0, .slice A1_1 l1_1.length c1_1] 24 (0, 0)) (by (with_reducible repeat (first | refine zKn ?_ _ | refine zKd ?_ | refine zKa ?_ _)); exact BK470.out) hb)
              replace HB := zMk (zBt (by exact uT HB.out) hb)
              (try clear hb)
              (try clear hb2)
              (try clear hk)
              (try clear hi)
              refine hK.out _ _ ⟨(zKc BK469.out 0).trans rfl, (zKc BK469.out 1).trans rfl, (zKc BK470.out 0).trans rfl, (zKc BK470.out 1).trans rfl⟩ (fun hHeld => ?_)
              clear hK K
              refine norm_ (a' := ?_) ?_ ?_
              rotate_left
              · show Act.put _ (some 29) _ = _
                simp only [Act.put, zSa, zSb, zSc, i64_w, i32_w]
                rfl
              refine pure_ (i := 6) (N := some 30) (v := ?_) (a' := ?_) #[true, true, true, true, true, true, true] rfl rfl (by kernel_rfl) (fun _ _ _ h => h) (Or.inl ⟨by rfl, ?_⟩) ?_ ?_
              rotate_left
              · intro w'
                go_simp
                with_reducible rfl
              rotate_left
              · simp only [Act.put, zSa, zSb, zSc, i64_w, i32_w]
                rfl
              refine done_ (by kernel_rfl) ?_
              have hnb45 := NB469_470.out
              have hnc45 := NB470_469.out
              have hcz46_0 : w44.cell? ⟨gb469, 0, none⟩ = some (.int .i64 a0_0) := (zKc BK469.out 0).trans rfl
              have hcz46_1 : w44.cell? ⟨gb469, 1, none⟩ = some (.slice A0_1 l0_1.length c0_1) := (zKc BK469.out 1).trans rfl
              have hfz46_0 := zKf BK469.out 0
              have hfz46_1 := zKf BK469.out 1
              try go_wp2_with (first |  ((with_reducible refine gate_callee (f := 12) rfl ?_); refine goesL_ (some 32) rfl rfl Try.func12 (by kernel_rfl) rfl #[.agg #[.int .i64 a0_0, .slice A0_1 l0_1.length c0_1]] rfl (by (try simp only [zMa, zMc, zMn]); first |  done|  rfl|  (simp only [zLd, zLt]; rfl)) ?_; (with_reducible refine (filigreeref04_Right.calls kj4 a0_0 _ _ l0_1 t475 _ ?side1 ?side2 A31.out).mono ?_); (case side1 => repeat (first |  exact (Kd.C_below HR0_1.out HB.out)|  (with_reducible refine zCa ?_ _)|  (with_reducible refine zCn ?_ _)|  (with_reducible refine zCd ?_))); (case side2 => exact HC0_1.out); rintro e w47 ⟨rfl, hb⟩; refine ⟨_, rfl, ?_⟩; replace BK469 := zMk (zKb (g := gb469) (o := .cells #[.int .i64 a0_0, .slice A0_1 l0_1.length c0_1] 24 (0, 0)) (by (with_reducible repeat (first |  refine zKn ?_ _|  refine zKd ?_|  refine zKa ?_ _)); exact BK469.out) hb); replace BK470 := zMk (zKb (g := gb470) (o := .cells #[.int .i64 a1_0, .slice A1_1 l1_1.length c1_1] 24 (0, 0)) (by (with_reducible repeat (first |  refine zKn ?_ _|  refine zKd ?_|  refine zKa ?_ _)); exact BK470.out) hb); replace HB := zMk (zBt (by exact uT HB.out) hb); (try clear hb); (try clear hb2); (try clear hk); (try clear hi)))
              replace BK469 := zMk (zKd BK469.out)
              replace BK470 := zMk (zKd BK470.out)
              replace HB := zMk (zBd HB.out)
              refine start_ (n := 20) (S := fun w' => w'.cell? ⟨gb469, 0, none⟩ = some (.int .i64 a0_0) ∧ w'.cell? ⟨gb469, 1, none⟩ = some (.slice A0_1 l0_1.length c0_1)) (ds := []) #[false, false, false, false, false, false, false, false, false, false, false, false, false, false, false, false, false, false, false, false] (by kernel_rfl) rfl rfl ⟨(zKc BK469.out 0).trans rfl, (zKc BK469.out 1).trans rfl⟩ (fun hHeld => ?_); refine with_tabW filigreelaw04_GraphParts.tab7 filigreelaw04_GraphParts.bits7 (fun HT_ HW_ => ?_)
              generalize w47.drew = w48 at BK469 BK470 HB hHeld ⊢
              refine pure_ (i := 1) (N := some 50) (v := ?_) (a' := ?_) #[false, true, false, false, false, false, false, false, false, false, false, false, false, false, false, false, false, false, false, false] rfl rfl (any_of HT_.out (by kernel_rfl)) (fun _ _ _ h => h) (Or.inl ⟨by rfl, ?_⟩) ?_ ?_
              rotate_left
              · intro w'
                go_simp
                with_reducible rfl
              rotate_left
              · simp only [Act.put, zSa, zSb, zSc, i64_w, i32_w]
                rfl
              refine pure_ (i := 4) (N := some 53) (v := ?_) (a' := ?_) #[false, true, false, false, true, false, false, false, false, false, false, false, false, false, false, false, false, false, false, false] rfl rfl (any_of HT_.out (by kernel_rfl)) (fun _ _ _ h => h) (Or.inl ⟨by rfl, ?_⟩) ?_ ?_
              rotate_left
              · intro w'
                go_simp
                with_reducible rfl
              rotate_left
              · simp only [Act.put, zSa, zSb, zSc, i64_w, i32_w]
                rfl
              refine take_ (i := 0) (N := some 49) (v := ?_) (a' := ?_) #[true, true, false, false, true, false, false, false, false, false, false, false, false, false, false, false, false, false, false, false] rfl rfl (take_ofW HT_.out HW_.out (by kernel_rfl)) (fun _ _ _ h => h) (Or.inl ⟨by rfl, ?_⟩) hHeld ?_ ?_
              rotate_left
              · rintro w' ⟨s0, s1⟩
                go_simp
                with_reducible rfl
              rotate_left
              · simp only [Act.put, zSa, zSb, zSc, i64_w, i32_w]
                rfl
              refine take_ (i := 3) (N := some 52) (v := ?_) (a' := ?_) #[true, true, false, true, true, false, false, false, false, false, false, false, false, false, false, false, false, false, false, false] rfl rfl (take_ofW HT_.out HW_.out (by kernel_rfl)) (fun _ _ _ h => h) (Or.inl ⟨by rfl, ?_⟩) hHeld ?_ ?_
              rotate_left
              · rintro w' ⟨s0, s1⟩
                go_simp
                with_reducible rfl
              rotate_left
              · simp only [Act.put, zSa, zSb, zSc, i64_w, i32_w]
                rfl
              refine one_ (i := 2) (N := some 51) #[true, true, true, true, true, false, false, false, false, false, false, false, false, false, false, false, false, false, false, false] rfl rfl (one_of HT_.out (by kernel_rfl)) (by decide) (fun K hK => ?_)
              refine goes_ Try.func21 (by kernel_rfl) rfl #[.agg #[.int .i64 a0_0, .slice A0_1 l0_1.length c0_1], .slice A2 l2.length c2] (by rfl) rfl rfl (by (try simp only [zMa, zMc, zMn]); first | done | rfl | (simp only [zLd, zLt]; rfl)) ?_
              with_reducible refine (graph_Only.calls kj4 a0_0 _ _ l0_1 _ _ l2 t487 t488 _ ?side1 ?side2 ?side3 ?side4 A33.out).mono ?_
              (case side1 => repeat (first | exact (Kd.C_below HR0_1.out HB.out) | (with_reducible refine zCa ?_ _) | (with_reducible refine zCn ?_ _) | (with_reducible refine zCd ?_)))
              (case side2 => exact HC0_1.out)
              (case side3 => repeat (first | exact (Kd.C_below HR2.out HB.out) | (with_reducible refine zCa ?_ _) | (with_reducible refine zCn ?_ _) | (with_reducible refine zCd ?_)))
              (case side4 => exact HC2.out)
              rintro e w49 ⟨v489, rfl, ho0, hb⟩
              refine ⟨_, rfl, ?_⟩
              have HO490 := zMk (zRl ho0 (zBs (by exact uT HB.out)))
              replace BK469 := zMk (zKb (g := gb469) (o := .cells #[.int .i64 a0_0, .slice A0_1 l0_1.length c0_1] 24 (0, 0)) (by (with_reducible repeat (first | refine zKn ?_ _ | refine zKd ?_ | refine zKa ?_ _)); exact BK469.out) hb)
              replace BK470 := zMk (zKb (g := gb470) (o := .cells #[.int .i64 a1_0, .slice A1_1 l1_1.length c1_1] 24 (0, 0)) (by (with_reducible repeat (first | refine zKn ?_ _ | refine zKd ?_ | refine zKa ?_ _)); exact BK470.out) hb)
              replace HB := zMk (zBt (by exact uT HB.out) hb)
              (try clear hb)
              (try clear hb2)
              (try clear hk)
              (try clear hi)
              (try clear ho0)
              refine hK.out _ _ ⟨(zKc BK469.out 0).trans rfl, (zKc BK469.out 1).trans rfl⟩ (fun hHeld => ?_)
              clear hK K
              refine norm_ (a' := ?_) ?_ ?_
              rotate_left
              · show Act.put _ (some 51) _ = _
                simp only [Act.put, zSa, zSb, zSc, i64_w, i32_w]
                rfl
              refine one_ (i := 5) (N := some 54) #[true, true, true, true, true, true, false, false, false, false, false, false, false, false, false, false, false, false, false, false] rfl rfl (one_of HT_.out (by kernel_rfl)) (by decide) (fun K hK => ?_)
              refine goes_ Try.func23 (by kernel_rfl) rfl #[.agg #[.int .i64 a0_0, .slice A0_1 l0_1.length c0_1], .slice A2 l2.length c2] (by rfl) rfl rfl (by (try simp only [zMa, zMc, zMn]); first | done | rfl | (simp only [zLd, zLt]; rfl)) ?_
              with_reducible refine (filigreeref04_Only.calls kj4 a0_0 _ _ l0_1 _ _ l2 t491 t492 _ ?side1 ?side2 ?side3 ?side4 A34.out).mono ?_
              (case side1 => repeat (first | exact (Kd.C_below HR0_1.out HB.out) | (with_reducible refine zCa ?_ _) | (with_reducible refine zCn ?_ _) | (with_reducible refine zCd ?_)))
              (case side2 => exact HC0_1.out)
              (case side3 => repeat (first | exact (Kd.C_below HR2.out HB.out) | (with_reducible refine zCa ?_ _) | (with_reducible refine zCn ?_ _) | (with_reducible refine zCd ?_)))
              (case side4 => exact HC2.out)
              rintro e w50 ⟨v493, rfl, ho0, hb⟩
              refine ⟨_, rfl, ?_⟩
              have HO494 := zMk (zRl (zRw ho0 (zRt (by exact uR HO490.out))) (zBs (by exact uT HB.out)))
              replace HO490 := zMk (zRe (by exact uR HO490.out) (zRz ho0) hb)
              replace BK469 := zMk (zKb (g := gb469) (o := .cells #[.int .i64 a0_0, .slice A0_1 l0_1.length c0_1] 24 (0, 0)) (by (with_reducible repeat (first | refine zKn ?_ _ | refine zKd ?_ | refine zKa ?_ _)); exact BK469.out) hb)
              replace BK470 := zMk (zKb (g := gb470) (o := .cells #[.int .i64 a1_0, .slice A1_1 l1_1.length c1_1] 24 (0, 0)) (by (with_reducible repeat (first | refine zKn ?_ _ | refine zKd ?_ | refine zKa ?_ _)); exact BK470.out) hb)
              replace HB := zMk (zBt (by exact uT HB.out) hb)
              (try clear hb)
              (try clear hb2)
              (try clear hk)
              (try clear hi)
              (try clear ho0)
              obtain ⟨Ao51, co51, eo51⟩ := zRs HO490.out
              (first |  subst eo51|  (injection eo51 with f1_ f2_ f3_; have f4_ := f1_.symm; have f5_ := f3_.symm; clear f1_ f2_ f3_; subst f4_; subst f5_))
              obtain ⟨Ao52, co52, eo52⟩ := zRs HO494.out
              (first |  subst eo52|  (injection eo52 with f1_ f2_ f3_; have f4_ := f1_.symm; have f5_ := f3_.symm; clear f1_ f2_ f3_; subst f4_; subst f5_))
              refine hK.out _ _ ⟨(zKc BK469.out 0).trans rfl, (zKc BK469.out 1).trans rfl⟩ (fun hHeld => ?_)
              clear hK K
              refine norm_ (a' := ?_) ?_ ?_
              rotate_left
              · show Act.put _ (some 54) _ = _
                simp only [Act.put, zSa, zSb, zSc, i64_w, i32_w]
                rfl
              refine one_ (i := 6) (N := some 55) #[true, true, true, true, true, true, true, false, false, false, false, false, false, false, false, false, false, false, false, false] rfl rfl (one_of HT_.out (by kernel_rfl)) (by decide) (fun K hK => ?_)
              refine goes_ Try.func16 (by kernel_rfl) rfl #[.agg #[.int .i64 t487, .slice Ao51 t488.length co51], .agg #[.int .i64 t491, .slice Ao52 t492.length co52]] (by rfl) rfl rfl (by (try simp only [zMa, zMc, zMn]); first | done | rfl | (simp only [zLd, zLt]; rfl)) ?_
              with_reducible refine (filigreeref04_Same.calls kj4 t487 _ _ t488 t491 _ _ t492 true _ ?side1 ?side2 ?side3 ?side4 A35.out).mono ?_
              (case side1 => exact uC (zRr HO490.out).2.2)
              (case side2 => exact (zRr HO490.out).2.1)
              (case side3 => exact uC (zRr HO494.out).2.2)
              (case side4 => exact (zRr HO494.out).2.1)
              rintro e w53 ⟨rfl, hb⟩
              refine ⟨_, rfl, ?_⟩
              replace HO490 := zMk (zRb (by exact uR HO490.out) hb)
              replace HO494 := zMk (zRb (by exact uR HO494.out) hb)
              replace BK469 := zMk (zKb (g := gb469) (o := .cells #[.int .i64 a0_0, .slice A0_1 l0_1.length c0_1] 24 (0, 0)) (by (with_reducible repeat (first | refine zKn ?_ _ | refine zKd ?_ | refine zKa ?_ _)); exact BK469.out) hb)
              replace BK470 := zMk (zKb (g := gb470) (o := .cells #[.int .i64 a1_0, .slice A1_1 l1_1.length c1_1] 24 (0, 0)) (by (with_reducible repeat (first | refine zKn ?_ _ | refine zKd ?_ | refine zKa ?_ _)); exact BK470.out) hb)
              replace HB := zMk (zBt (by exact uT HB.out) hb)
              (try clear hb)
              (try clear hb2)
              (try clear hk)
              (try clear hi)
              refine hK.out _ _ ⟨(zKc BK469.out 0).trans rfl, (zKc BK469.out 1).trans rfl⟩ (fun hHeld => ?_)
              clear hK K
              refine norm_ (a' := ?_) ?_ ?_
              rotate_left
              · show Act.put _ (some 55) _ = _
                simp only [Act.put, zSa, zSb, zSc, i64_w, i32_w]
                rfl
              refine pure_ (i := 7) (N := some 56) (v := ?_) (a' := ?_) #[true, true, true, true, true, true, true, true, false, false, false, false, false, false, false, false, false, false, false, false] rfl rfl (any_of HT_.out (by kernel_rfl)) (fun _ _ _ h => h) (Or.inl ⟨by rfl, ?_⟩) ?_ ?_
              rotate_left
              · intro w'
                go_simp
                with_reducible rfl
              rotate_left
              · simp only [Act.put, zSa, zSb, zSc, i64_w, i32_w]
                rfl
              refine pure_ (i := 9) (N := some 58) (v := ?_) (a' := ?_) #[true, true, true, true, true, true, true, true, false, true, false, false, false, false, false, false, false, false, false, false] rfl rfl (any_of HT_.out (by kernel_rfl)) (fun _ _ _ h => h) (Or.inl ⟨by rfl, ?_⟩) ?_ ?_
              rotate_left
              · intro w'
                go_simp
                with_reducible rfl
              rotate_left
              · simp only [Act.put, zSa, zSb, zSc, i64_w, i32_w]
                rfl
              refine pure_ (i := 12) (N := some 61) (v := ?_) (a' := ?_) #[true, true, true, true, true, true, true, true, false, true, false, false, true, false, false, false, false, false, false, false] rfl rfl (any_of HT_.out (by kernel_rfl)) (fun _ _ _ h => h) (Or.inl ⟨by rfl, ?_⟩) ?_ ?_
              rotate_left
              · intro w'
                go_simp
                with_reducible rfl
              rotate_left
              · simp only [Act.put, zSa, zSb, zSc, i64_w, i32_w]
                rfl
              refine take_ (i := 8) (N := some 57) (v := ?_) (a' := ?_) #[true, true, true, true, true, true, true, true, true, true, false, false, true, false, false, false, false, false, false, false] rfl rfl (take_ofW HT_.out HW_.out (by kernel_rfl)) (fun _ _ _ h => h) (Or.inl ⟨by rfl, ?_⟩) hHeld ?_ ?_
              rotate_left
              · rintro w' ⟨s0, s1⟩
                go_simp
                with_reducible rfl
              rotate_left
              · simp only [Act.put, zSa, zSb, zSc, i64_w, i32_w]
                rfl
              refine take_ (i := 11) (N := some 60) (v := ?_) (a' := ?_) #[true, true, true, true, true, true, true, true, true, true, false, true, true, false, false, false, false, false, false, false] rfl rfl (take_ofW HT_.out HW_.out (by kernel_rfl)) (fun _ _ _ h => h) (Or.inl ⟨by rfl, ?_⟩) hHeld ?_ ?_
              rotate_left
              · rintro w' ⟨s0, s1⟩
                go_simp
                with_reducible rfl
              rotate_left
              · simp only [Act.put, zSa, zSb, zSc, i64_w, i32_w]
                rfl
              refine one_ (i := 10) (N := some 59) #[true, true, true, true, true, true, true, true, true, true, true, true, true, false, false, false, false, false, false, false] rfl rfl (one_of HT_.out (by kernel_rfl)) (by decide) (fun K hK => ?_)
              refine goes_ Try.func22 (by kernel_rfl) rfl #[.agg #[.int .i64 a0_0, .slice A0_1 l0_1.length c0_1], .slice A3 l3.length c3] (by rfl) rfl rfl (by (try simp only [zMa, zMc, zMn]); first | done | rfl | (simp only [zLd, zLt]; rfl)) ?_
              with_reducible refine (graph_Less.calls kj4 a0_0 _ _ l0_1 _ _ l3 t496 t497 _ ?side1 ?side2 ?side3 ?side4 A37.out).mono ?_
              (case side1 => repeat (first | exact (Kd.C_below HR0_1.out HB.out) | (with_reducible refine zCa ?_ _) | (with_reducible refine zCn ?_ _) | (with_reducible refine zCd ?_)))
              (case side2 => exact HC0_1.out)
              (case side3 => repeat (first | exact (Kd.C_below HR3.out HB.out) | (with_reducible refine zCa ?_ _) | (with_reducible refine zCn ?_ _) | (with_reducible refine zCd ?_)))
              (case side4 => exact HC3.out)
              rintro e w54 ⟨v498, rfl, ho0, hb⟩
              refine ⟨_, rfl, ?_⟩
              have HO499 := zMk (zRl (zRw (zRw ho0 (zRt (by exact uR HO490.out))) (zRt (by exact uR HO494.out))) (zBs (by exact uT HB.out)))
              replace HO490 := zMk (zRe (by exact uR HO490.out) (zRz ho0) hb)
              replace HO494 := zMk (zRe (by exact uR HO494.out) (zRz ho0) hb)
              replace BK469 := zMk (zKb (g := gb469) (o := .cells #[.int .i64 a0_0, .slice A0_1 l0_1.length c0_1] 24 (0, 0)) (by (with_reducible repeat (first | refine zKn ?_ _ | refine zKd ?_ | refine zKa ?_ _)); exact BK469.out) hb)
              replace BK470 := zMk (zKb (g := gb470) (o := .cells #[.int .i64 a1_0, .slice A1_1 l1_1.length c1_1] 24 (0, 0)) (by (with_reducible repeat (first | refine zKn ?_ _ | refine zKd ?_ | refine zKa ?_ _)); exact BK470.out) hb)
              replace HB := zMk (zBt (by exact uT HB.out) hb)
              (try clear hb)
              (try clear hb2)
              (try clear hk)
              (try clear hi)
              (try clear ho0)
              refine hK.out _ _ ⟨(zKc BK469.out 0).trans rfl, (zKc BK469.out 1).trans rfl⟩ (fun hHeld => ?_)
              clear hK K
              refine norm_ (a' := ?_) ?_ ?_
              rotate_left
              · show Act.put _ (some 59) _ = _
                simp only [Act.put, zSa, zSb, zSc, i64_w, i32_w]
                rfl
              refine one_ (i := 13) (N := some 62) #[true, true, true, true, true, true, true, true, true, true, true, true, true, true, false, false, false, false, false, false] rfl rfl (one_of HT_.out (by kernel_rfl)) (by decide) (fun K hK => ?_)
              refine goes_ Try.func24 (by kernel_rfl) rfl #[.agg #[.int .i64 a0_0, .slice A0_1 l0_1.length c0_1], .slice A3 l3.length c3] (by rfl) rfl rfl (by (try simp only [zMa, zMc, zMn]); first | done | rfl | (simp only [zLd, zLt]; rfl)) ?_
              with_reducible refine (filigreeref04_Less.calls kj4 a0_0 _ _ l0_1 _ _ l3 t500 t501 _ ?side1 ?side2 ?side3 ?side4 A38.out).mono ?_
              (case side1 => repeat (first | exact (Kd.C_below HR0_1.out HB.out) | (with_reducible refine zCa ?_ _) | (with_reducible refine zCn ?_ _) | (with_reducible refine zCd ?_)))
              (case side2 => exact HC0_1.out)
              (case side3 => repeat (first | exact (Kd.C_below HR3.out HB.out) | (with_reducible refine zCa ?_ _) | (with_reducible refine zCn ?_ _) | (with_reducible refine zCd ?_)))
              (case side4 => exact HC3.out)
              rintro e w55 ⟨v502, rfl, ho0, hb⟩
              refine ⟨_, rfl, ?_⟩
              have HO503 := zMk (zRl (zRw (zRw (zRw ho0 (zRt (by exact uR HO490.out))) (zRt (by exact uR HO494.out))) (zRt (by exact uR HO499.out))) (zBs (by exact uT HB.out)))
              replace HO490 := zMk (zRe (by exact uR HO490.out) (zRz ho0) hb)
              replace HO494 := zMk (zRe (by exact uR HO494.out) (zRz ho0) hb)
              replace HO499 := zMk (zRe (by exact uR HO499.out) (zRz ho0) hb)
              replace BK469 := zMk (zKb (g := gb469) (o := .cells #[.int .i64 a0_0, .slice A0_1 l0_1.length c0_1] 24 (0, 0)) (by (with_reducible repeat (first | refine zKn ?_ _ | refine zKd ?_ | refine zKa ?_ _)); exact BK469.out) hb)
              replace BK470 := zMk (zKb (g := gb470) (o := .cells #[.int .i64 a1_0, .slice A1_1 l1_1.length c1_1] 24 (0, 0)) (by (with_reducible repeat (first | refine zKn ?_ _ | refine zKd ?_ | refine zKa ?_ _)); exact BK470.out) hb)
              replace HB := zMk (zBt (by exact uT HB.out) hb)
              (try clear hb)
              (try clear hb2)
              (try clear hk)
              (try clear hi)
              (try clear ho0)
              obtain ⟨Ao56, co56, eo56⟩ := zRs HO499.out
              (first |  subst eo56|  (injection eo56 with f1_ f2_ f3_; have f4_ := f1_.symm; have f5_ := f3_.symm; clear f1_ f2_ f3_; subst f4_; subst f5_))
              obtain ⟨Ao57, co57, eo57⟩ := zRs HO503.out
              (first |  subst eo57|  (injection eo57 with f1_ f2_ f3_; have f4_ := f1_.symm; have f5_ := f3_.symm; clear f1_ f2_ f3_; subst f4_; subst f5_))
              refine hK.out _ _ ⟨(zKc BK469.out 0).trans rfl, (zKc BK469.out 1).trans rfl⟩ (fun hHeld => ?_)
              clear hK K
              refine norm_ (a' := ?_) ?_ ?_
              rotate_left
              · show Act.put _ (some 62) _ = _
                simp only [Act.put, zSa, zSb, zSc, i64_w, i32_w]
                rfl
              refine one_ (i := 14) (N := some 63) #[true, true, true, true, true, true, true, true, true, true, true, true, true, true, true, false, false, false, false, false] rfl rfl (one_of HT_.out (by kernel_rfl)) (by decide) (fun K hK => ?_)
              refine goes_ Try.func16 (by kernel_rfl) rfl #[.agg #[.int .i64 t496, .slice Ao56 t497.length co56], .agg #[.int .i64 t500, .slice Ao57 t501.length co57]] (by rfl) rfl rfl (by (try simp only [zMa, zMc, zMn]); first | done | rfl | (simp only [zLd, zLt]; rfl)) ?_
              with_reducible refine (filigreeref04_Same.calls kj4 t496 _ _ t497 t500 _ _ t501 true _ ?side1 ?side2 ?side3 ?side4 A39.out).mono ?_
              (case side1 => exact uC (zRr HO499.out).2.2)
              (case side2 => exact (zRr HO499.out).2.1)
              (case side3 => exact uC (zRr HO503.out).2.2)
              (case side4 => exact (zRr HO503.out).2.1)
              rintro e w58 ⟨rfl, hb⟩
              refine ⟨_, rfl, ?_⟩
              replace HO490 := zMk (zRb (by exact uR HO490.out) hb)
              replace HO494 := zMk (zRb (by exact uR HO494.out) hb)
              replace HO499 := zMk (zRb (by exact uR HO499.out) hb)
              replace HO503 := zMk (zRb (by exact uR HO503.out) hb)
              replace BK469 := zMk (zKb (g := gb469) (o := .cells #[.int .i64 a0_0, .slice A0_1 l0_1.length c0_1] 24 (0, 0)) (by (with_reducible repeat (first | refine zKn ?_ _ | refine zKd ?_ | refine zKa ?_ _)); exact BK469.out) hb)
              replace BK470 := zMk (zKb (g := gb470) (o := .cells #[.int .i64 a1_0, .slice A1_1 l1_1.length c1_1] 24 (0, 0)) (by (with_reducible repeat (first | refine zKn ?_ _ | refine zKd ?_ | refine zKa ?_ _)); exact BK470.out) hb)
              replace HB := zMk (zBt (by exact uT HB.out) hb)
              (try clear hb)
              (try clear hb2)
              (try clear hk)
              (try clear hi)
              refine hK.out _ _ ⟨(zKc BK469.out 0).trans rfl, (zKc BK469.out 1).trans rfl⟩ (fun hHeld => ?_)
              clear hK K
              refine norm_ (a' := ?_) ?_ ?_
              rotate_left
              · show Act.put _ (some 63) _ = _
                simp only [Act.put, zSa, zSb, zSc, i64_w, i32_w]
                rfl
              refine pure_ (i := 15) (N := some 64) (v := ?_) (a' := ?_) #[true, true, true, true, true, true, true, true, true, true, true, true, true, true, true, true, false, false, false, false] rfl rfl (any_of HT_.out (by kernel_rfl)) (fun _ _ _ h => h) (Or.inl ⟨by rfl, ?_⟩) ?_ ?_
              rotate_left
              · intro w'
                go_simp
                with_reducible rfl
              rotate_left
              · simp only [Act.put, zSa, zSb, zSc, i64_w, i32_w]
                rfl
              refine pure_ (i := 16) (N := some 65) (v := ?_) (a' := ?_) #[true, true, true, true, true, true, true, true, true, true, true, true, true, true, true, true, true, false, false, false] rfl rfl (any_of HT_.out (by kernel_rfl)) (fun _ _ _ h => h) (Or.inl ⟨by rfl, ?_⟩) ?_ ?_
              rotate_left
              · intro w'
                go_simp
                with_reducible rfl
              rotate_left
              · simp only [Act.put, zSa, zSb, zSc, i64_w, i32_w]
                rfl
              refine one_ (i := 17) (N := some 66) #[true, true, true, true, true, true, true, true, true, true, true, true, true, true, true, true, true, true, false, false] rfl rfl (one_of HT_.out (by kernel_rfl)) (by decide) (fun K hK => ?_)
              refine goes_ Try.func13 (by kernel_rfl) rfl #[] (by rfl) rfl rfl (by (try simp only [zMa, zMc, zMn]); first | done | rfl | (simp only [zLd, zLt]; rfl)) ?_
              with_reducible refine (filigreelaw04_alive.calls kj4  t505 _ A41.out).mono ?_
              rintro e w59 ⟨rfl, hb⟩
              refine ⟨_, rfl, ?_⟩
              replace HO490 := zMk (zRb (by exact uR HO490.out) hb)
              replace HO494 := zMk (zRb (by exact uR HO494.out) hb)
              replace HO499 := zMk (zRb (by exact uR HO499.out) hb)
              replace HO503 := zMk (zRb (by exact uR HO503.out) hb)
              replace BK469 := zMk (zKb (g := gb469) (o := .cells #[.int .i64 a0_0, .slice A0_1 l0_1.length c0_1] 24 (0, 0)) (by (with_reducible repeat (first | refine zKn ?_ _ | refine zKd ?_ | refine zKa ?_ _)); exact BK469.out) hb)
              replace BK470 := zMk (zKb (g := gb470) (o := .cells #[.int .i64 a1_0, .slice A1_1 l1_1.length c1_1] 24 (0, 0)) (by (with_reducible repeat (first | refine zKn ?_ _ | refine zKd ?_ | refine zKa ?_ _)); exact BK470.out) hb)
              replace HB := zMk (zBt (by exact uT HB.out) hb)
              (try clear hb)
              (try clear hb2)
              (try clear hk)
              (try clear hi)
              refine hK.out _ _ ⟨(zKc BK469.out 0).trans rfl, (zKc BK469.out 1).trans rfl⟩ (fun hHeld => ?_)
              clear hK K
              refine norm_ (a' := ?_) ?_ ?_
              rotate_left
              · show Act.put _ (some 66) _ = _
                simp only [Act.put, zSa, zSb, zSc, i64_w, i32_w]
                rfl
              refine pure_ (i := 18) (N := some 67) (v := ?_) (a' := ?_) #[true, true, true, true, true, true, true, true, true, true, true, true, true, true, true, true, true, true, true, false] rfl rfl (any_of HT_.out (by kernel_rfl)) (fun _ _ _ h => h) (Or.inl ⟨by rfl, ?_⟩) ?_ ?_
              rotate_left
              · intro w'
                go_simp
                with_reducible rfl
              rotate_left
              · simp only [Act.put, zSa, zSb, zSc, i64_w, i32_w]
                rfl
              refine pure_ (i := 19) (N := some 8) (v := ?_) (a' := ?_) #[true, true, true, true, true, true, true, true, true, true, true, true, true, true, true, true, true, true, true, true] rfl rfl (any_of HT_.out (by kernel_rfl)) (fun _ _ _ h => h) (Or.inl ⟨by rfl, ?_⟩) ?_ ?_
              rotate_left
              · intro w'
                go_simp
                with_reducible rfl
              rotate_left
              · simp only [Act.put, zSa, zSb, zSc, i64_w, i32_w]
                rfl
              refine done_ (done_of HT_.out (by kernel_rfl)) ?_
              try go_wp2
              go_ret
              exact ⟨by first | rfl | (simp [errW_none, errW_some] <;> rfl) | (simp [*, errW_none, errW_some] <;> rfl), by exact uT HB.out⟩
            · replace c40 := Bool.eq_false_iff.mpr c40
              subst c40
              replace H : (some false) = some r := by rw [if_neg (show ¬ (false = true) by decide)] at H; exact H
              exact absurd ((zOi H).trans HRT.out) (by decide)
          · replace c36 := Bool.eq_false_iff.mpr c36
            subst c36
            replace H : (some false) = some r := by rw [if_neg (show ¬ (false = true) by decide)] at H; exact H
            exact absurd ((zOi H).trans HRT.out) (by decide)
        · rw [if_neg c32] at H
          have c32b0 : (t475 == 0) = false := beq_eq_false_iff_ne.mpr c32
          have c32b1 : (t475 != 0) = true := bne_iff_ne.mpr c32
          replace H := bnd H
          obtain ⟨⟨t476, t477⟩, A890, H⟩ := H
          replace H : ((filigreeref04_Same.f kj4 t476 t477 0 ([] : List (S36))).bind fun t480 => (if t480 = true then ((graph_Less.f kj4 a0_0 l0_1 l3).bind fun bt481 => ((filigreeref04_Same.f kj4 bt481.1 bt481.2 0 ([] : List (S36))).bind fun t485 => (if t485 = true then ((filigreelaw04_alive.f kj4).bind fun t486 => (some t486)) else (some false)))) else (some false))) = some r := H
          have A89 := zMk A890
          clear A890
          replace H := bnd H
          obtain ⟨t480, A900, H⟩ := H
          have A90 := zMk A900
          clear A900
          by_cases c91 : t480 = true
          · subst c91
            replace H : ((graph_Less.f kj4 a0_0 l0_1 l3).bind fun bt481 => ((filigreeref04_Same.f kj4 bt481.1 bt481.2 0 ([] : List (S36))).bind fun t485 => (if t485 = true then ((filigreelaw04_alive.f kj4).bind fun t486 => (some t486)) else (some false)))) = some r := by rw [if_pos rfl] at H; exact H
            replace H := bnd H
            obtain ⟨⟨t481, t482⟩, A920, H⟩ := H
            replace H : ((filigreeref04_Same.f kj4 t481 t482 0 ([] : List (S36))).bind fun t485 => (if t485 = true then ((filigreelaw04_alive.f kj4).bind fun t486 => (some t486)) else (some false))) = some r := H
            have A92 := zMk A920
            clear A920
            replace H := bnd H
            obtain ⟨t485, A930, H⟩ := H
            have A93 := zMk A930
            clear A930
            by_cases c94 : t485 = true
            · subst c94
              replace H : ((filigreelaw04_alive.f kj4).bind fun t486 => (some t486)) = some r := by rw [if_pos rfl] at H; exact H
              replace H := bnd H
              obtain ⟨t486, A950, H⟩ := H
              have A95 := zMk A950
              clear A950
              obtain rfl := zOi H
              try go_wp2
              replace BK469 := zMk (zKd BK469.out)
              replace BK470 := zMk (zKd BK470.out)
              replace HB := zMk (zBd HB.out)
              refine start_ (n := 7) (S := fun w' => w'.cell? ⟨gb469, 0, none⟩ = some (.int .i64 a0_0) ∧ w'.cell? ⟨gb469, 1, none⟩ = some (.slice A0_1 l0_1.length c0_1) ∧ w'.cell? ⟨gb470, 0, none⟩ = some (.int .i64 a1_0) ∧ w'.cell? ⟨gb470, 1, none⟩ = some (.slice A1_1 l1_1.length c1_1)) (ds := []) #[false, false, false, false, false, false, false] (by kernel_rfl) rfl rfl ⟨(zKc BK469.out 0).trans rfl, (zKc BK469.out 1).trans rfl, (zKc BK470.out 0).trans rfl, (zKc BK470.out 1).trans rfl⟩ (fun hHeld => ?_)
              generalize wc.drew = w96 at BK469 BK470 HB hHeld ⊢
              refine take_ (i := 0) (N := some 24) (v := ?_) (a' := ?_) #[true, false, false, false, false, false, false] rfl rfl (by kernel_rfl) (fun _ _ _ h => h) (Or.inl ⟨by rfl, ?_⟩) hHeld ?_ ?_
              rotate_left
              · rintro w' ⟨s0, s1, s2, s3⟩
                go_simp
                with_reducible rfl
              rotate_left
              · simp only [Act.put, zSa, zSb, zSc, i64_w, i32_w]
                rfl
              refine take_ (i := 1) (N := some 25) (v := ?_) (a' := ?_) #[true, true, false, false, false, false, false] rfl rfl (by kernel_rfl) (fun _ _ _ h => h) (Or.inl ⟨by rfl, ?_⟩) hHeld ?_ ?_
              rotate_left
              · rintro w' ⟨s0, s1, s2, s3⟩
                go_simp
                with_reducible rfl
              rotate_left
              · simp only [Act.put, zSa, zSb, zSc, i64_w, i32_w]
                rfl
              refine take_ (i := 3) (N := some 27) (v := ?_) (a' := ?_) #[true, true, false, true, false, false, false] rfl rfl (by kernel_rfl) (fun _ _ _ h => h) (Or.inl ⟨by rfl, ?_⟩) hHeld ?_ ?_
              rotate_left
              · rintro w' ⟨s0, s1, s2, s3⟩
                go_simp
                with_reducible rfl
              rotate_left
              · simp only [Act.put, zSa, zSb, zSc, i64_w, i32_w]
                rfl
              refine take_ (i := 4) (N := some 28) (v := ?_) (a' := ?_) #[true, true, false, true, true, false, false] rfl rfl (by kernel_rfl) (fun _ _ _ h => h) (Or.inl ⟨by rfl, ?_⟩) hHeld ?_ ?_
              rotate_left
              · rintro w' ⟨s0, s1, s2, s3⟩
                go_simp
                with_reducible rfl
              rotate_left
              · simp only [Act.put, zSa, zSb, zSc, i64_w, i32_w]
                rfl
              refine one_ (i := 2) (N := some 26) #[true, true, true, true, true, false, false] rfl rfl (by kernel_rfl) (by decide) (fun K hK => ?_)
              refine goes_ Try.func18 (by kernel_rfl) rfl #[.agg #[.int .i64 a0_0, .slice A0_1 l0_1.length c0_1], .agg #[.int .i64 a1_0, .slice A1_1 l1_1.length c1_1]] (by rfl) rfl rfl (by (try simp only [zMa, zMc, zMn]); first | done | rfl | (simp only [zLd, zLt]; rfl)) ?_
              with_reducible refine (graph_Same.calls kj4 a0_0 _ _ l0_1 a1_0 _ _ l1_1 t473 _ ?side1 ?side2 ?side3 ?side4 A25.out).mono ?_
              (case side1 => repeat (first | exact (Kd.C_below HR0_1.out HB.out) | (with_reducible refine zCa ?_ _) | (with_reducible refine zCn ?_ _) | (with_reducible refine zCd ?_)))
              (case side2 => exact HC0_1.out)
              (case side3 => repeat (first | exact (Kd.C_below HR1_1.out HB.out) | (with_reducible refine zCa ?_ _) | (with_reducible refine zCn ?_ _) | (with_reducible refine zCd ?_)))
              (case side4 => exact HC1_1.out)
              rintro e w97 ⟨rfl, hb⟩
              refine ⟨_, rfl, ?_⟩
              replace BK469 := zMk (zKb (g := gb469) (o := .cells #[.int .i64 a0_0, .slice A0_1 l0_1.length c0_1] 24 (0, 0)) (by (with_reducible repeat (first | refine zKn ?_ _ | refine zKd ?_ | refine zKa ?_ _)); exact BK469.out) hb)
              replace BK470 := zMk (zKb (g := gb470) (o := .cells #[.int .i64 a1_0, .slice A1_1 l1_1.length c1_1] 24 (0, 0)) (by (with_reducible repeat (first | refine zKn ?_ _ | refine zKd ?_ | refine zKa ?_ _)); exact BK470.out) hb)
              replace HB := zMk (zBt (by exact uT HB.out) hb)
              (try clear hb)
              (try clear hb2)
              (try clear hk)
              (try clear hi)
              refine hK.out _ _ ⟨(zKc BK469.out 0).trans rfl, (zKc BK469.out 1).trans rfl, (zKc BK470.out 0).trans rfl, (zKc BK470.out 1).trans rfl⟩ (fun hHeld => ?_)
              clear hK K
              refine norm_ (a' := ?_) ?_ ?_
              rotate_left
              · show Act.put _ (some 26) _ = _
                simp only [Act.put, zSa, zSb, zSc, i64_w, i32_w]
                rfl
              refine one_ (i := 5) (N := some 29) #[true, true, true, true, true, true, false] rfl rfl (by kernel_rfl) (by decide) (fun K hK => ?_)
              refine goes_ Try.func16 (by kernel_rfl) rfl #[.agg #[.int .i64 a0_0, .slice A0_1 l0_1.length c0_1], .agg #[.int .i64 a1_0, .slice A1_1 l1_1.length c1_1]] (by rfl) rfl rfl (by (try simp only [zMa, zMc, zMn]); first | done | rfl | (simp only [zLd, zLt]; rfl)) ?_
              with_reducible refine (filigreeref04_Same.calls kj4 a0_0 _ _ l0_1 a1_0 _ _ l1_1 t474 _ ?side1 ?side2 ?side3 ?side4 A26.out).mono ?_
              (case side1 => repeat (first | exact (Kd.C_below HR0_1.out HB.out) | (with_reducible refine zCa ?_ _) | (with_reducible refine zCn ?_ _) | (with_reducible refine zCd ?_)))
              (case side2 => exact HC0_1.out)
              (case side3 => repeat (first | exact (Kd.C_below HR1_1.out HB.out) | (with_reducible refine zCa ?_ _) | (with_reducible refine zCn ?_ _) | (with_reducible refine zCd ?_)))
              (case side4 => exact HC1_1.out)
              rintro e w98 ⟨rfl, hb⟩
              refine ⟨_, rfl, ?_⟩
              replace BK469 := zMk (zKb (g := gb469) (o := .cells #[.int .i64 a0_0, .slice A0_1 l0_1.length c0_1] 24 (0, 0)) (by (with_reducible repeat (first | refine zKn ?_ _ | refine zKd ?_ | refine zKa ?_ _)); exact BK469.out) hb)
              replace BK470 := zMk (zKb (g := gb470) (o := .cells #[.int .i64 a1_0, .slice A1_1 l1_1.length c1_1] 24 (0, 0)) (by (with_reducible repeat (first | refine zKn ?_ _ | refine zKd ?_ | refine zKa ?_ _)); exact BK470.out) hb)
              replace HB := zMk (zBt (by exact uT HB.out) hb)
              (try clear hb)
              (try clear hb2)
              (try clear hk)
              (try clear hi)
              refine hK.out _ _ ⟨(zKc BK469.out 0).trans rfl, (zKc BK469.out 1).trans rfl, (zKc BK470.out 0).trans rfl, (zKc BK470.out 1).trans rfl⟩ (fun hHeld => ?_)
              clear hK K
              refine norm_ (a' := ?_) ?_ ?_
              rotate_left
              · show Act.put _ (some 29) _ = _
                simp only [Act.put, zSa, zSb, zSc, i64_w, i32_w]
                rfl
              refine pure_ (i := 6) (N := some 30) (v := ?_) (a' := ?_) #[true, true, true, true, true, true, true] rfl rfl (by kernel_rfl) (fun _ _ _ h => h) (Or.inl ⟨by rfl, ?_⟩) ?_ ?_
              rotate_left
              · intro w'
                go_simp
                with_reducible rfl
              rotate_left
              · simp only [Act.put, zSa, zSb, zSc, i64_w, i32_w]
                rfl
              refine done_ (by kernel_rfl) ?_
              have hnb99 := NB469_470.out
              have hnc99 := NB470_469.out
              have hcz100_0 : w98.cell? ⟨gb469, 0, none⟩ = some (.int .i64 a0_0) := (zKc BK469.out 0).trans rfl
              have hcz100_1 : w98.cell? ⟨gb469, 1, none⟩ = some (.slice A0_1 l0_1.length c0_1) := (zKc BK469.out 1).trans rfl
              have hfz100_0 := zKf BK469.out 0
              have hfz100_1 := zKf BK469.out 1
              try go_wp2_with (first |  ((with_reducible refine gate_callee (f := 12) rfl ?_); refine goesL_ (some 32) rfl rfl Try.func12 (by kernel_rfl) rfl #[.agg #[.int .i64 a0_0, .slice A0_1 l0_1.length c0_1]] rfl (by (try simp only [zMa, zMc, zMn]); first |  done|  rfl|  (simp only [zLd, zLt]; rfl)) ?_; (with_reducible refine (filigreeref04_Right.calls kj4 a0_0 _ _ l0_1 t475 _ ?side1 ?side2 A31.out).mono ?_); (case side1 => repeat (first |  exact (Kd.C_below HR0_1.out HB.out)|  (with_reducible refine zCa ?_ _)|  (with_reducible refine zCn ?_ _)|  (with_reducible refine zCd ?_))); (case side2 => exact HC0_1.out); rintro e w101 ⟨rfl, hb⟩; refine ⟨_, rfl, ?_⟩; replace BK469 := zMk (zKb (g := gb469) (o := .cells #[.int .i64 a0_0, .slice A0_1 l0_1.length c0_1] 24 (0, 0)) (by (with_reducible repeat (first |  refine zKn ?_ _|  refine zKd ?_|  refine zKa ?_ _)); exact BK469.out) hb); replace BK470 := zMk (zKb (g := gb470) (o := .cells #[.int .i64 a1_0, .slice A1_1 l1_1.length c1_1] 24 (0, 0)) (by (with_reducible repeat (first |  refine zKn ?_ _|  refine zKd ?_|  refine zKa ?_ _)); exact BK470.out) hb); replace HB := zMk (zBt (by exact uT HB.out) hb); (try clear hb); (try clear hb2); (try clear hk); (try clear hi); have hcz102_0 : w101.cell? ⟨gb469, 0, none⟩ = some (.int .i64 a0_0) := (zKc BK469.out 0).trans rfl; have hcz102_1 : w101.cell? ⟨gb469, 1, none⟩ = some (.slice A0_1 l0_1.length c0_1) := (zKc BK469.out 1).trans rfl; have hfz102_0 := zKf BK469.out 0; have hfz102_1 := zKf BK469.out 1)|  ((with_reducible refine gate_callee (f := 21) rfl ?_); refine goesL_ (some 36) rfl rfl Try.func21 (by kernel_rfl) rfl #[.agg #[.int .i64 a0_0, .slice A0_1 l0_1.length c0_1], .slice A2 l2.length c2] rfl (by (try simp only [zMa, zMc, zMn]); first |  done|  rfl|  (simp only [zLd, zLt]; rfl)) ?_; (with_reducible refine (graph_Only.calls kj4 a0_0 _ _ l0_1 _ _ l2 t476 t477 _ ?side1 ?side2 ?side3 ?side4 A89.out).mono ?_); (case side1 => repeat (first |  exact (Kd.C_below HR0_1.out HB.out)|  (with_reducible refine zCa ?_ _)|  (with_reducible refine zCn ?_ _)|  (with_reducible refine zCd ?_))); (case side2 => exact HC0_1.out); (case side3 => repeat (first |  exact (Kd.C_below HR2.out HB.out)|  (with_reducible refine zCa ?_ _)|  (with_reducible refine zCn ?_ _)|  (with_reducible refine zCd ?_))); (case side4 => exact HC2.out); rintro e w103 ⟨v478, rfl, ho0, hb⟩; refine ⟨_, rfl, ?_⟩; have HO479 := zMk (zRl ho0 (zBs (by exact uT HB.out))); replace BK469 := zMk (zKb (g := gb469) (o := .cells #[.int .i64 a0_0, .slice A0_1 l0_1.length c0_1] 24 (0, 0)) (by (with_reducible repeat (first |  refine zKn ?_ _|  refine zKd ?_|  refine zKa ?_ _)); exact BK469.out) hb); replace BK470 := zMk (zKb (g := gb470) (o := .cells #[.int .i64 a1_0, .slice A1_1 l1_1.length c1_1] 24 (0, 0)) (by (with_reducible repeat (first |  refine zKn ?_ _|  refine zKd ?_|  refine zKa ?_ _)); exact BK470.out) hb); replace HB := zMk (zBt (by exact uT HB.out) hb); (try clear hb); (try clear hb2); (try clear hk); (try clear hi); (try clear ho0); obtain ⟨Ao104, co104, eo104⟩ := zRs HO479.out; subst eo104)|  ((with_reducible refine gate_callee (f := 16) rfl ?_); refine goesL_ (some 38) rfl rfl Try.func16 (by kernel_rfl) rfl #[.agg #[.int .i64 t476, .slice Ao104 t477.length co104], .agg #[.int .i64 0, .slice none 0 0]] rfl (by (try simp only [zMa, zMc, zMn]); first |  done|  rfl|  (simp only [zLd, zLt]; rfl)) ?_; (refine (filigreeref04_Same.calls kj4 t476 _ _ t477 0 _ _ ([] : List (S36)) true _ ?side1 ?side2 ?side3 ?side4 A90.out).mono ?_); (case side1 => exact uC (zRr HO479.out).2.2); (case side2 => exact (zRr HO479.out).2.1); (case side3 => exact Kd.C_nil _ _); (case side4 => exact Nat.le_refl _); rintro e w105 ⟨rfl, hb⟩; refine ⟨_, rfl, ?_⟩; replace HO479 := zMk (zRb (by exact uR HO479.out) hb); replace BK469 := zMk (zKb (g := gb469) (o := .cells #[.int .i64 a0_0, .slice A0_1 l0_1.length c0_1] 24 (0, 0)) (by (with_reducible repeat (first |  refine zKn ?_ _|  refine zKd ?_|  refine zKa ?_ _)); exact BK469.out) hb); replace BK470 := zMk (zKb (g := gb470) (o := .cells #[.int .i64 a1_0, .slice A1_1 l1_1.length c1_1] 24 (0, 0)) (by (with_reducible repeat (first |  refine zKn ?_ _|  refine zKd ?_|  refine zKa ?_ _)); exact BK470.out) hb); replace HB := zMk (zBt (by exact uT HB.out) hb); (try clear hb); (try clear hb2); (try clear hk); (try clear hi); have hcz106_0 : w105.cell? ⟨gb469, 0, none⟩ = some (.int .i64 a0_0) := (zKc BK469.out 0).trans rfl; have hcz106_1 : w105.cell? ⟨gb469, 1, none⟩ = some (.slice A0_1 l0_1.length c0_1) := (zKc BK469.out 1).trans rfl; have hfz106_0 := zKf BK469.out 0; have hfz106_1 := zKf BK469.out 1)|  (go_at_call 22; (with_reducible refine (graph_Less.calls kj4 a0_0 _ _ l0_1 _ _ l3 t481 t482 _ ?side1 ?side2 ?side3 ?side4 A92.out).mono ?_); (case side1 => repeat (first |  exact (Kd.C_below HR0_1.out HB.out)|  (with_reducible refine zCa ?_ _)|  (with_reducible refine zCn ?_ _)|  (with_reducible refine zCd ?_))); (case side2 => exact HC0_1.out); (case side3 => repeat (first |  exact (Kd.C_below HR3.out HB.out)|  (with_reducible refine zCa ?_ _)|  (with_reducible refine zCn ?_ _)|  (with_reducible refine zCd ?_))); (case side4 => exact HC3.out); rintro e w107 ⟨v483, rfl, ho0, hb⟩; have HO484 := zMk (zRl (zRw ho0 (zRt (by exact uR HO479.out))) (zBs (by exact uT HB.out))); replace HO479 := zMk (zRe (by exact uR HO479.out) (zRz ho0) hb); replace BK469 := zMk (zKb (g := gb469) (o := .cells #[.int .i64 a0_0, .slice A0_1 l0_1.length c0_1] 24 (0, 0)) (by (with_reducible repeat (first |  refine zKn ?_ _|  refine zKd ?_|  refine zKa ?_ _)); exact BK469.out) hb); replace BK470 := zMk (zKb (g := gb470) (o := .cells #[.int .i64 a1_0, .slice A1_1 l1_1.length c1_1] 24 (0, 0)) (by (with_reducible repeat (first |  refine zKn ?_ _|  refine zKd ?_|  refine zKa ?_ _)); exact BK470.out) hb); replace HB := zMk (zBt (by exact uT HB.out) hb); (try clear hb); (try clear hb2); (try clear hk); (try clear hi); (try clear ho0); obtain ⟨Ao108, co108, eo108⟩ := zRs HO484.out; subst eo108)|  (go_at_call 16; (refine (filigreeref04_Same.calls kj4 t481 _ _ t482 0 _ _ ([] : List (S36)) true _ ?side1 ?side2 ?side3 ?side4 A93.out).mono ?_); (case side1 => exact uC (zRr HO484.out).2.2); (case side2 => exact (zRr HO484.out).2.1); (case side3 => exact Kd.C_nil _ _); (case side4 => exact Nat.le_refl _); rintro e w109 ⟨rfl, hb⟩; replace HO479 := zMk (zRb (by exact uR HO479.out) hb); replace HO484 := zMk (zRb (by exact uR HO484.out) hb); replace BK469 := zMk (zKb (g := gb469) (o := .cells #[.int .i64 a0_0, .slice A0_1 l0_1.length c0_1] 24 (0, 0)) (by (with_reducible repeat (first |  refine zKn ?_ _|  refine zKd ?_|  refine zKa ?_ _)); exact BK469.out) hb); replace BK470 := zMk (zKb (g := gb470) (o := .cells #[.int .i64 a1_0, .slice A1_1 l1_1.length c1_1] 24 (0, 0)) (by (with_reducible repeat (first |  refine zKn ?_ _|  refine zKd ?_|  refine zKa ?_ _)); exact BK470.out) hb); replace HB := zMk (zBt (by exact uT HB.out) hb); (try clear hb); (try clear hb2); (try clear hk); (try clear hi))|  (go_at_call 13; (with_reducible refine (filigreelaw04_alive.calls kj4  t486 _ A95.out).mono ?_); rintro e w110 ⟨rfl, hb⟩; replace HO479 := zMk (zRb (by exact uR HO479.out) hb); replace HO484 := zMk (zRb (by exact uR HO484.out) hb); replace BK469 := zMk (zKb (g := gb469) (o := .cells #[.int .i64 a0_0, .slice A0_1 l0_1.length c0_1] 24 (0, 0)) (by (with_reducible repeat (first |  refine zKn ?_ _|  refine zKd ?_|  refine zKa ?_ _)); exact BK469.out) hb); replace BK470 := zMk (zKb (g := gb470) (o := .cells #[.int .i64 a1_0, .slice A1_1 l1_1.length c1_1] 24 (0, 0)) (by (with_reducible repeat (first |  refine zKn ?_ _|  refine zKd ?_|  refine zKa ?_ _)); exact BK470.out) hb); replace HB := zMk (zBt (by exact uT HB.out) hb); (try clear hb); (try clear hb2); (try clear hk); (try clear hi)))
              go_ret
              exact ⟨by first | rfl | (simp [errW_none, errW_some] <;> rfl) | (simp [*, errW_none, errW_some] <;> rfl), by exact uT HB.out⟩
            · replace c94 := Bool.eq_false_iff.mpr c94
              subst c94
              replace H : (some false) = some r := by rw [if_neg (show ¬ (false = true) by decide)] at H; exact H
              exact absurd ((zOi H).trans HRT.out) (by decide)
          · replace c91 := Bool.eq_false_iff.mpr c91
            subst c91
            replace H : (some false) = some r := by rw [if_neg (show ¬ (false = true) by decide)] at H; exact H
            exact absurd ((zOi H).trans HRT.out) (by decide)

/-- What the walk leaves: a statement of plain lists and numbers. -/
def filigreelaw04_GraphParts.Pure : Prop := ∀ (a0_0 : Int) (l0_1 : List A.S36) (a1_0 : Int) (l1_1 : List A.S36) (l2 : List Bool) (l3 : List Int), (Lit.int .i64 a0_0).wf = true → l0_1.length ≤ maxLen → (∀ x ∈ l0_1, (Lit.int .i64 x.f0).wf = true ∧ (Lit.int .i64 x.f1).wf = true ∧ (Lit.int .i64 x.f2).wf = true) → (Lit.int .i64 a1_0).wf = true → l1_1.length ≤ maxLen → (∀ x ∈ l1_1, (Lit.int .i64 x.f0).wf = true ∧ (Lit.int .i64 x.f1).wf = true ∧ (Lit.int .i64 x.f2).wf = true) → l2.length ≤ maxLen → l2.length * 1 ≤ 140737488351232 → l3.length ≤ maxLen → l3.length * 8 ≤ 140737488351232 → (∀ x ∈ l3, (Lit.int .i64 x).wf = true) → ∃ k, filigreelaw04_GraphParts.f k a0_0 l0_1 a1_0 l1_1 l2 l3 = some true
/- The plain law of GraphParts. -/
theorem pure_GraphParts : filigreelaw04_GraphParts.Pure := by
  intro n E m D keep gone _ _ _ _ _ _ _ _ _ _ _
  obtain ⟨k, hk⟩ : ∃ k : Nat, 1000000 ≤ k := ⟨_, Nat.le_refl _⟩
  refine ⟨k + 1, ?_⟩
  have al := alive_eq k (by omega)
  unfold filigreelaw04_GraphParts.f filigreelaw04_Light.f
  rw [show wrap64 (4 * 60) = 240 from w64 (by omega) (by omega)]
  have yes : filigreelaw04_GraphParts.j0 (k + 1) keep gone true n E m D = some true := by
    simp only [filigreelaw04_GraphParts.j0, al, zOb, if_true]
  by_cases h1 : n ≤ 60
  · rw [if_pos h1, zOb]
    by_cases h2 : (E.length : Int) ≤ 240
    · rw [if_pos (decide_eq_true h2)]
      by_cases h3 : (D.length : Int) > 1000
      · rw [if_pos h3]; exact yes
      rw [if_neg h3]
      by_cases h4 : (gone.length : Int) > 500
      · rw [decide_eq_true h4]; exact yes
      rw [decide_eq_false h4]
      simp only [filigreelaw04_GraphParts.j0]
      have hs1 := selE_len (fun _ e => inK keep e.f0 && inK keep e.f1) 0 E
      have hs2 := selE_len (fun i _ => !decide ((i : Int) ∈ gone)) 0 E
      rw [if_neg (by simp), Same_eq k n m E D (by omega) (by omega), zOb, refSame_eq k n m E D (by omega) (by omega), zOb, if_neg (by simp), refRight_eq k n E (by omega), zOb, Only_eq k n E keep (by omega) (by omega), zOb, Less_eq k n E gone (by omega) (by omega), zOb]
      by_cases hr : rightI n E = 0
      · have hE : ∀ e ∈ E, 0 ≤ e.f0 ∧ 0 ≤ e.f1 := fun e he => by
          obtain ⟨a, _, b, _, _⟩ := alone_ends (((right_iff n E).1 hr).2.1 e he).1
          exact ⟨a, b⟩
        rw [if_pos hr, if_pos hr, if_pos hr, refOnly_eq k n E keep (by omega) hE (by omega), zOb]
        simp only
        rw [refSame_eq k _ _ _ _ (by omega) (by omega), sameB_self, zOb, if_pos rfl, refLess_eq k n E gone (by omega) (by omega) (by omega), zOb]
        simp only
        rw [refSame_eq k _ _ _ _ (by omega) (by omega), sameB_self, zOb, if_pos rfl, al]
        rfl
      · rw [if_neg hr, if_neg hr, if_neg hr]
        have h0 : filigreeref04_Same.f k 0 ([] : List S36) 0 ([] : List S36) = some true := by
          rw [refSame_eq k _ _ _ _ (by simp) (by simp; omega), sameB_self]
        simp only [zOb, h0, if_true, al]
    · rw [if_neg (by simpa using h2)]
      exact yes
  · rw [if_neg h1, zOb, if_neg (by simp)]
    exact yes
end Go.Proofs.Yteicpdkembmilaa.A
