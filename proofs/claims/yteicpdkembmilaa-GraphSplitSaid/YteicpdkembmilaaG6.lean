/- Lemmas for the statement: the walks of the functions that it reaches, and plain laws. -/
import Derived.Test.YteicpdkembmilaaG2
import Derived.Test.YteicpdkembmilaaG4
import Derived.Test.YteicpdkembmilaaG5
set_option linter.unusedVariables false
set_option linter.unusedSimpArgs false
set_option maxHeartbeats 8000000
set_option maxRecDepth 100000
namespace Go.Proofs.Yteicpdkembmilaa.A
open Go Go.RowKit Go.Proofs.YteicpdkembmilaaW.PrintWords Go.Proofs.YteicpdkembmilaaW.PrintLast Go.Proofs.YteicpdkembmilaaW.PrintMore
attribute [local go_sem] max2_int min2_int max_two min_two max_three min_three max_four min_four
open Go.Proofs.YteicpdkembmilaaW.PrintWords.Kd renaming R_alloc → zRa, R_drewN → zRn, R_drew → zRd, C_alloc → zCa, C_drewN → zCn, C_drew → zCd, R_mono → zRm, at_int → zAi, R_elder' → zRe, R_lower → zRl, R_new' → zRw, R_lt → zRt, R_below → zRb, R_base → zRz, R_reads' → zRr, R_slice → zRs
open Go.Proofs.YteicpdkembmilaaW.PrintWords renaming pw_below_drewN → zBn, below_alloc → zBa, below_drew1 → zBd, below_size → zBs, below_step → zBt, blk_drewN → zKn, blk_drew → zKd, blk_alloc → zKa, blk_below → zKb, blk_cell → zKc, blk_frozen → zKf
open List renaming setIfInBounds_toArray → zSa, set_cons_zero → zSb, set_cons_succ → zSc, length_drop → zLd, length_take → zLt, map_toArray → zMa, map_cons → zMc, map_nil → zMn, length_cons → zLc, length_nil → zLn
open Go.Proofs.YteicpdkembmilaaW.PrintWords.Aside0 renaming mk → zMk
open Option renaming bind_eq_some_iff → zBi, bind_some → zOb
open Option.some renaming inj → zOi
open Int renaming toNat_natCast → zTn
def spl (b : Nat → Bool) (m : Nat) : List Int := ((List.range m).filter b).map (fun j : Nat => (j : Int))
theorem spl_succ (b : Nat → Bool) (m : Nat) : spl b (m + 1) = if b m = true then spl b m ++ [(m : Int)] else spl b m := by
  unfold spl
  rw [List.range_succ, List.filter_append]
  by_cases h : b m = true
  · rw [if_pos h]; simp [h]
  · rw [if_neg h]; simp [h]
theorem mem_spl (b : Nat → Bool) (m i : Nat) : ((i : Int) ∈ spl b m) ↔ i < m ∧ b i = true := by
  unfold spl
  constructor
  · intro h
    obtain ⟨j, hj, e⟩ := List.mem_map.1 h
    rw [List.mem_filter, List.mem_range] at hj
    obtain rfl : j = i := by omega
    exact hj
  · rintro ⟨h1, h2⟩
    exact List.mem_map.2 ⟨i, List.mem_filter.2 ⟨List.mem_range.2 h1, h2⟩, rfl⟩
theorem spl_bound (b : Nat → Bool) (m : Nat) : ∀ x ∈ spl b m, 0 ≤ x ∧ x < (m : Int) := by
  intro x h
  obtain ⟨j, hj, rfl⟩ := List.mem_map.1 h
  rw [List.mem_filter, List.mem_range] at hj
  omega
theorem spl_len (b : Nat → Bool) (m : Nat) : (spl b m).length ≤ m := by
  unfold spl
  rw [List.length_map]
  have := List.length_filter_le b (List.range m)
  rw [List.length_range] at this
  exact this
theorem spl_nodup (b : Nat → Bool) (m : Nat) : (spl b m).Nodup := by
  unfold spl List.Nodup
  rw [List.pairwise_map]
  have h : ((List.range m).filter b).Nodup := List.Nodup.sublist List.filter_sublist List.nodup_range
  exact h.imp (fun h e => h (by omega))
theorem sel_perm (b : Nat → Bool) : ∀ (i : Nat) (l : List S36), (selE (fun j _ => !b j) i l ++ selE (fun j _ => b j) i l).Perm l
  | _, [] => List.Perm.refl _
  | i, e :: l => by
    have ih := sel_perm b (i + 1) l
    unfold selE
    cases h : b i with
    | true =>
      simp only [Bool.not_true, Bool.false_eq_true, if_false, if_true]
      exact (List.perm_middle).trans (List.Perm.cons e ih)
    | false =>
      simp only [Bool.not_false, Bool.false_eq_true, if_false, if_true]
      exact List.Perm.cons e ih
theorem sel_count (b : Nat → Bool) : ∀ (l : List S36) (i : Nat), (selE (fun j _ => b j) i l).length + (spl b i).length = (spl b (i + l.length)).length
  | [], i => by simp [selE]
  | e :: l, i => by
    have ih := sel_count b l (i + 1)
    rw [spl_succ, show i + 1 + l.length = i + (e :: l).length by simp; omega] at ih
    rw [← ih, show selE (fun j _ => b j) i (e :: l) = if b i = true then e :: selE (fun j _ => b j) (i + 1) l else selE (fun j _ => b j) (i + 1) l by rw [selE]]
    by_cases h : b i = true
    · rw [if_pos h, if_pos h, zLc, List.length_append, List.length_singleton]
      omega
    · rw [if_neg h, if_neg h]
def sumW (E : List S36) (w : Int) (l : List Int) : Int := l.foldl (fun a x => wrap64 (a + (rd_T36 E x).f2)) w
theorem wgt_sum (E : List S36) : ∀ (l seen : List Int) (w : Int), (seen ++ l).Nodup → (∀ x ∈ l, 0 ≤ x ∧ x < (E.length : Int)) → wgt E seen w l = (sumW E w l, 0)
  | [], _, _, _, _ => rfl
  | x :: l, seen, w, hn, hb => by
    have h1 := hb x (by simp)
    have h2 : x ∉ seen := by
      intro h
      have h3 := (List.nodup_append.1 hn).2.2
      exact h3 x h x (by simp) rfl
    rw [wgt, if_neg (by omega), if_neg (by omega), if_neg h2, wgt_sum E l (seen ++ [x]) _ (by rw [List.append_assoc, List.singleton_append]; exact hn) (fun y hy => hb y (List.mem_cons_of_mem _ hy))]
    rfl
def sumZ (E : List S36) (l : List Int) : Int := l.foldr (fun x a => (rd_T36 E x).f2 + a) 0
theorem sumW_Z (E : List S36) : ∀ (l : List Int) (w : Int), wrap64 w = w → sumW E w l = wrap64 (w + sumZ E l)
  | [], w, h => by
    show w = wrap64 (w + 0)
    rw [Int.add_zero, h]
  | x :: l, w, h => by
    show sumW E (wrap64 (w + (rd_T36 E x).f2)) l = wrap64 (w + ((rd_T36 E x).f2 + sumZ E l))
    rw [sumW_Z E l _ (by unfold wrap64; omega)]
    unfold wrap64
    omega
theorem sumZ_append (E : List S36) (l m : List Int) : sumZ E (l ++ m) = sumZ E l + sumZ E m := by
  induction l with
  | nil => simp [sumZ]
  | cons x l ih =>
    show (rd_T36 E x).f2 + sumZ E (l ++ m) = (rd_T36 E x).f2 + sumZ E l + sumZ E m
    rw [ih]; omega
theorem edges_l0s (E : List S36) (hm : E.length ≤ 1000000) (d : Nat) : ∀ (k i : Nat), E.length - i = d → i ≤ E.length → d + 1 ≤ k → api_Edge_40.l0 k E E (E.length : Int) i = some true := by
  induction d with
  | zero =>
    intro k i hd hi hk
    obtain ⟨k, rfl⟩ : ∃ m, k = m + 1 := ⟨k - 1, by omega⟩
    simp only [api_Edge_40.l0]
    rw [if_neg (by omega)]
  | succ d ih =>
    intro k i hd hi hk
    obtain ⟨k, rfl⟩ : ∃ m, k = m + 1 := ⟨k - 1, by omega⟩
    have hwn : wrap64 ((i : Int) + 1) = ((i + 1 : Nat) : Int) := by rw [w64 (by omega) (by omega)]; omega
    simp only [api_Edge_40.l0]
    rw [if_pos (by omega), if_pos (by omega), if_pos (by omega), if_pos (by omega), if_neg (by simp), hwn]
    exact ih k (i + 1) (by omega) (by omega) (by omega)
theorem Same_refl2 (k : Nat) (n : Int) (E : List S36) (hm : E.length ≤ 1000000) (hk : E.length + 2 ≤ k) : graph_Same.f k n E n E = some true := by
  unfold graph_Same.f api_Edge_40.f
  rw [if_pos rfl, if_pos rfl]
  have h2 : api_Edge_40.l0 k E E (E.length : Int) 0 = some true := edges_l0s E hm E.length k 0 (by omega) (by omega) (by omega)
  rw [h2]
  rfl
theorem Split_l0 (n : Int) (E : List S36) (l1 : List Bool) (hr : rightI n E = 0) (hE : E.length ≤ 800) (b : Nat → Bool) (hb : ∀ j : Nat, b j = (decide (j < l1.length) && l1.getD j false)) :
    ∀ (d k i : Nat), 10000 ≤ k → E.length - i = d → i ≤ E.length → filigreelaw04_GraphSplit.l0 (k + d + 1) l1 (spl b i) (spl (fun j => !b j) i) (i : Int) n E = some true := by
  intro d
  induction d with
  | zero =>
    intro k i hk hd hi
    obtain rfl : i = E.length := by omega
    have al := alive_eq k (by omega)
    have la := spl_len b E.length
    have lc := spl_len (fun j => !b j) E.length
    have X1 : selE (fun i _ => !decide ((i : Int) ∈ spl b E.length)) 0 E = selE (fun j _ => !b j) 0 E := selE_congr 0 E fun j hj => by
      have h := mem_spl b E.length j
      rw [Nat.zero_add]
      by_cases c : b j = true
      · rw [decide_eq_true (h.2 ⟨hj, c⟩), c]
      · rw [decide_eq_false (fun m => c (h.1 m).2), Bool.eq_false_iff.2 c]
    have X2 : selE (fun i _ => !decide ((i : Int) ∈ spl (fun j => !b j) E.length)) 0 E = selE (fun j _ => b j) 0 E := selE_congr 0 E fun j hj => by
      have h := mem_spl (fun j => !b j) E.length j
      rw [Nat.zero_add]
      by_cases c : b j = true
      · rw [decide_eq_false (fun m => by have := (h.1 m).2; simp [c] at this), c]; rfl
      · rw [decide_eq_true (h.2 ⟨hj, by simpa using c⟩), Bool.eq_false_iff.2 c]; rfl
    have hp := sel_perm b 0 E
    have hcnt := sel_count (fun j => !b j) E 0
    rw [Nat.zero_add, show (spl (fun j => !b j) 0).length = 0 from rfl, Nat.add_zero] at hcnt
    have hx := selE_len (fun j _ => !b j) 0 E
    have hy := selE_len (fun j _ => b j) 0 E
    have hnE : E.map nrmE = E := by
      have h6 := ((right_iff n E).1 hr).2.1
      have h7 : E.map nrmE = E.map id := List.map_congr_left fun e he => nrm_of_le (h6 e he).2
      rw [h7, List.map_id]
    have hmk : makeI n (selE (fun j _ => !b j) 0 E ++ selE (fun j _ => b j) 0 E) = (n, E, 0) := make_again n E _ hr (by
      have := hp.map nrmE
      rwa [hnE] at this)
    have hw0 : wrap64 0 = 0 := by unfold wrap64; omega
    have hba := spl_bound b E.length
    have hbc := spl_bound (fun j => !b j) E.length
    have hna := spl_nodup b E.length
    have hnc := spl_nodup (fun j => !b j) E.length
    have hnac : (spl b E.length ++ spl (fun j => !b j) E.length).Nodup := by
      rw [List.nodup_append]
      refine ⟨hna, hnc, fun x h1 y h2 e => ?_⟩
      subst e
      obtain ⟨j, hj⟩ : ∃ j : Nat, x = (j : Int) := ⟨x.toNat, by have := hba x h1; omega⟩
      subst hj
      have h3 := ((mem_spl _ _ _).1 h1).2
      have h4 := ((mem_spl _ _ _).1 h2).2
      simp [h3] at h4
    have hwa := wgt_sum E _ [] 0 (by simpa using hna) hba
    have hwc := wgt_sum E _ [] 0 (by simpa using hnc) hbc
    have hwb := wgt_sum E _ [] 0 (by simpa using hnac) (fun x hx => by
      rcases List.mem_append.1 hx with h | h
      · exact hba x h
      · exact hbc x h)
    rw [sumW_Z E _ 0 hw0] at hwa hwc hwb
    rw [sumZ_append] at hwb
    generalize spl b E.length = A at *
    generalize spl (fun j => !b j) E.length = C at *
    simp only [filigreelaw04_GraphSplit.l0]
    rw [if_neg (by omega)]
    rw [Less_eq k n E A (by omega) (by omega), if_pos hr, zOb, Less_eq k n E C (by omega) (by omega), if_pos hr, zOb, X1, X2]
    dsimp only
    generalize selE (fun j _ => !b j) 0 E = X at *
    generalize selE (fun j _ => b j) 0 E = Y at *
    simp only [zOb, List.nil_append, zLn, Nat.zero_add]
    rw [if_pos (by omega), if_pos (by omega), Make_eq k n _ (by omega) (by rw [List.length_append]; omega), hmk]
    simp only [zOb]
    rw [Weight_eq k n E A (by omega) (by omega) (by omega), if_pos hr, hwa]
    simp only [zOb]
    rw [Weight_eq k n E C (by omega) (by omega) (by omega), if_pos hr, hwc]
    simp only [zOb]
    rw [if_pos (by omega), if_pos (by omega), Weight_eq k n E (A ++ C) (by rw [List.length_append]; omega) (by omega) (by rw [List.length_append]; omega), if_pos hr, hwb]
    simp only [zOb, if_true]
    rw [Same_refl2 k n E (by omega) (by omega)]
    simp only [zOb, if_true]
    rw [if_pos (by unfold wrap64; omega), if_pos (by omega), al]
    rfl
  | succ d ih =>
    intro k i hk hd hi
    have hwn : wrap64 ((i : Int) + 1) = ((i + 1 : Nat) : Int) := by rw [w64 (by omega) (by omega)]; omega
    have la := spl_len b i
    have lc := spl_len (fun j => !b j) i
    have ih := ih k (i + 1) hk (by omega) (by omega)
    rw [spl_succ, spl_succ, ← hwn] at ih
    obtain ⟨q, hq⟩ : ∃ q, q = k + (d + 1) := ⟨_, rfl⟩
    rw [show k + d + 1 = q by omega] at ih
    rw [← hq]
    simp only [filigreelaw04_GraphSplit.l0]
    rw [if_pos (by omega)]
    have hbi := hb i
    by_cases h1 : (i : Int) < (l1.length : Int)
    · rw [if_pos h1, if_pos (by omega)]
      rw [decide_eq_true (by omega), Bool.true_and] at hbi
      have hrd : rdOf false l1 (i : Int) = b i := by rw [hbi]; rfl
      rw [hrd]
      by_cases h2 : b i = true
      · rw [if_pos h2, if_pos (by omega)]
        rw [if_pos h2, if_neg (by simp [h2])] at ih
        exact ih
      · rw [if_neg h2, if_pos (by omega)]
        rw [if_neg h2, if_pos (by simpa using h2)] at ih
        exact ih
    · rw [if_neg h1, if_pos (by omega)]
      rw [decide_eq_false (by omega), Bool.false_and] at hbi
      rw [if_neg (by simp [hbi]), if_pos (by simp [hbi])] at ih
      exact ih
theorem pure_GraphSplit : filigreelaw04_GraphSplit.Pure := by
  intro n E l1 _ _ _ _ _
  obtain ⟨k, hk⟩ : ∃ k : Nat, k = 10000 := ⟨_, rfl⟩
  refine ⟨k + E.length + 2, ?_⟩
  have al := alive_eq (k + E.length + 1) (by omega)
  have yes : ∀ m F, filigreelaw04_GraphSplit.j0 (k + E.length + 2) l1 true m F = some true := by
    intro m F
    simp only [filigreelaw04_GraphSplit.j0, al, zOb, if_true]
  unfold filigreelaw04_GraphSplit.f filigreelaw04_Light.f
  have h4 : wrap64 (4 * 200) = 800 := w64 (by omega) (by omega)
  rw [h4]
  by_cases h1 : n ≤ 200
  · rw [if_pos h1, zOb]
    by_cases h2 : (E.length : Int) ≤ 800
    · rw [if_pos (decide_eq_true h2), Right_eq _ n E (by omega), zOb]
      by_cases hr : rightI n E = 0
      · rw [hr]
        simp only [filigreelaw04_GraphSplit.j0]
        rw [if_neg (by simp)]
        exact Split_l0 n E l1 hr (by omega) _ (fun _ => rfl) E.length k 0 (by omega) (by omega) (by omega)
      · rw [bne_iff_ne.2 hr]
        exact yes _ _
    · rw [if_neg (by simpa using h2)]
      exact yes _ _
  · rw [if_neg h1, zOb, if_neg (by simp)]
    exact yes _ _
end Go.Proofs.Yteicpdkembmilaa.A
