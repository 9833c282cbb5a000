/- Lemmas for the statement: the walks of the functions that it reaches, and plain laws. -/
import Derived.Test.YteicpdkembmilaaG3
set_option linter.unusedVariables false
set_option linter.unusedSimpArgs false
namespace Go.Proofs.Yteicpdkembmilaa.A
open Go Go.RowKit Go.Proofs.YteicpdkembmilaaW.PrintWords Go.Proofs.YteicpdkembmilaaW.PrintLast Go.Proofs.YteicpdkembmilaaW.PrintMore
attribute [local go_sem] max2_int min2_int max_two min_two max_three min_three max_four min_four
open Go.Proofs.YteicpdkembmilaaW.PrintWords.Kd renaming R_alloc → zRa, R_drewN → zRn, R_drew → zRd, V_alloc → zVa, V_drewN → zVn, V_drew → zVd, V_below → zVb, C_alloc → zCa, C_drewN → zCn, C_drew → zCd, R_mono → zRm, V_mono → zVm, at_int → zAi, R_elder' → zRe, R_lower → zRl, R_new' → zRw, R_lt → zRt, R_below → zRb, R_base → zRz, R_reads' → zRr, R_slice → zRs, V_elder' → zVe, V_lower → zVl, V_slice → zVs, V_reads' → zVr
open Go.Proofs.YteicpdkembmilaaW.PrintWords renaming pw_below_drewN → zBn, below_alloc → zBa, below_drew1 → zBd, below_size → zBs, below_step → zBt, blk_drewN → zKn, blk_drew → zKd, blk_alloc → zKa, blk_below → zKb, blk_cell → zKc, blk_frozen → zKf
open List renaming setIfInBounds_toArray → zSa, set_cons_zero → zSb, set_cons_succ → zSc, length_drop → zLd, length_take → zLt, map_toArray → zMa, map_cons → zMc, map_nil → zMn, length_cons → zLc, length_nil → zLn
open Go.Proofs.YteicpdkembmilaaW.PrintWords.Aside0 renaming mk → zMk
open Option renaming bind_eq_some_iff → zBi, bind_some → zOb
open Option.some renaming inj → zOi
open Int renaming toNat_natCast → zTn
/- The plain law of GraphHands. -/
def sumN (f : Int → Int) : Nat → Int
  | 0 => 0
  | u + 1 => sumN f u + f (u : Nat)
theorem sumN_add (f g : Int → Int) : ∀ u, sumN (fun w => f w + g w) u = sumN f u + sumN g u
  | 0 => rfl
  | u + 1 => by simp only [sumN]; rw [sumN_add f g u]; omega
theorem sumN_congr {f g : Int → Int} : ∀ (u : Nat), (∀ w : Nat, w < u → f w = g w) → sumN f u = sumN g u
  | 0, _ => rfl
  | u + 1, h => by simp only [sumN]; rw [sumN_congr u (fun w hw => h w (by omega)), h u (by omega)]
theorem sumN_one (a : Int) (ha : 0 ≤ a) : ∀ u : Nat, sumN (fun w => if a = w then 1 else 0) u = if a < u then 1 else 0
  | 0 => by simp only [sumN]; rw [if_neg (by omega)]
  | u + 1 => by
    simp only [sumN]
    rw [sumN_one a ha u]
    by_cases h1 : a < (u : Int)
    · rw [if_pos h1, if_neg (by omega), if_pos (by omega)]; omega
    · rw [if_neg h1]
      by_cases h2 : a = (u : Int)
      · rw [if_pos h2, if_pos (by omega)]; omega
      · rw [if_neg h2, if_neg (by omega)]; omega
theorem sumN_zero : ∀ u : Nat, sumN (fun _ => 0) u = 0
  | 0 => rfl
  | u + 1 => by simp only [sumN]; rw [sumN_zero u]; omega
theorem sum_nbr (N : Nat) : ∀ E : List S36, (∀ e ∈ E, aloneI N e = 0) → sumN (fun v => ((nbr E v).length : Int)) N = 2 * E.length
  | [], _ => by simp [nbr, sumN_zero]
  | e :: E, h => by
    have ih := sum_nbr N E (fun e' he' => h e' (List.mem_cons_of_mem _ he'))
    obtain ⟨a1, a2, b1, b2, hab⟩ := alone_ends (h e (by simp))
    have h1 : (fun v => ((nbr (e :: E) v).length : Int)) = fun v => ((if e.f0 = v then (1 : Int) else 0) + (if e.f1 = v then 1 else 0)) + ((nbr E v).length : Int) := by
      funext v
      have : (nbr (e :: E) v) = nbe e v ++ nbr E v := by simp [nbr]
      rw [this, List.length_append]
      unfold nbe
      rw [List.length_append]
      repeat' split
      all_goals simp
      all_goals omega
    rw [h1, sumN_add, sumN_add, ih, sumN_one _ a1, sumN_one _ b1, if_pos a2, if_pos b2]
    simp
    omega
theorem sumN_mono (f : Int → Int) (hf : ∀ w, 0 ≤ f w) (d : Nat) : ∀ u, sumN f u ≤ sumN f (u + d) := by
  induction d with
  | zero => intro u; exact Int.le_refl _
  | succ d ih =>
    intro u
    have h1 := ih u
    have h2 := hf ((u + d : Nat) : Int)
    show sumN f u ≤ sumN f (u + d) + f ((u + d : Nat) : Int)
    omega
theorem nbr_sym {E : List S36} {u v : Int} (h : v ∈ nbr E u) : u ∈ nbr E v := by
  obtain ⟨e, he, h1⟩ := mem_nbr.1 h
  refine mem_nbr.2 ⟨e, he, ?_⟩
  rcases h1 with ⟨a, b⟩ | ⟨a, b⟩
  · exact .inr ⟨b, a⟩
  · exact .inl ⟨b, a⟩
theorem nbr_range {N : Nat} {E : List S36} (hE : ∀ e ∈ E, aloneI N e = 0) {u v : Int} (h : v ∈ nbr E u) : 0 ≤ v ∧ v < N ∧ v ≠ u := by
  obtain ⟨e, he, h1⟩ := mem_nbr.1 h
  obtain ⟨a1, a2, b1, b2, hab⟩ := alone_ends (hE e he)
  rcases h1 with ⟨a, b⟩ | ⟨a, b⟩
  · subst a b; exact ⟨b1, b2, fun h => hab h.symm⟩
  · subst a b; exact ⟨a1, a2, hab⟩
theorem Hands_l1 (N : Nat) (E : List S36) (hr : rightI N E = 0) (hm : E.length ≤ 1200) (D : List Int) (u : Nat) (hu : u < N) (s : Int) (r : Option Bool) (K : Nat) (hK : 3000 ≤ K) (hN : N ≤ 1048576)
    (hnext : ∀ k, K ≤ k → filigreelaw04_GraphHands.l0 k D (rows N (nbr E)) s ((u + 1 : Nat) : Int) N E = r) (L : List Int) (hL : nbr E u = L) (d : Nat) : ∀ (k i : Nat), L.length - i = d → i ≤ L.length → d + K + 1 ≤ k →
    filigreelaw04_GraphHands.l1 k D (rows N (nbr E)) s u i N E = r := by
  have hE : ∀ e ∈ E, aloneI N e = 0 := fun e he => (((right_iff _ _).1 hr).2.1 e he).1
  have hlen : ∀ v, (nbr E v).length ≤ 2400 := fun v => by have := nbr_len E v; omega
  have hlu : L.length ≤ 2400 := hL ▸ hlen u
  have hrow : rd_L5 (rows N (nbr E)) (u : Int) = L := by rw [rows_rd N _ _ (by omega) (by omega)]; exact hL
  have hup := nbr_up N E hr u
  rw [hL] at hup
  clear hr
  have hu0 : (0 : Int) ≤ u := by omega
  have hu1 : (u : Int) < N := by omega
  have hsz : (rows N (nbr E)).length = N := rows_len _ _
  have hrows : ∀ v : Int, 0 ≤ v → v < N → rd_L5 (rows N (nbr E)) v = nbr E v := fun v h0 h1 => rows_rd N _ v h0 h1
  generalize rows N (nbr E) = R at *
  induction d with
  | zero =>
    intro k i hd hi hk
    obtain ⟨k, rfl⟩ : ∃ m, k = m + 1 := ⟨k - 1, by omega⟩
    have h3 : ¬ (i : Int) < (L.length : Int) := by omega
    simp only [filigreelaw04_GraphHands.l1, hsz, hrow]
    rw [if_pos hu0, if_pos hu1, if_neg h3, show wrap64 ((u : Int) + 1) = ((u + 1 : Nat) : Int) by rw [w64 (by omega) (by omega)]; omega]
    exact hnext k (by omega)
  | succ d ih =>
    intro k i hd hi hk
    obtain ⟨k, rfl⟩ : ∃ m, k = m + 1 := ⟨k - 1, by omega⟩
    have hlt : i < L.length := by omega
    have hn := ih k (i + 1) (by omega) (by omega) (by omega)
    have hwn := zMk (show wrap64 ((i : Int) + 1) = ((i + 1 : Nat) : Int) by rw [w64 (by omega) (by omega)]; omega)
    have hget := rdI_get L i hlt
    have hv : rd L (i : Int) ∈ nbr E u := by rw [hget, hL]; exact List.getElem_mem hlt
    obtain ⟨v0, v1, v2⟩ := nbr_range hE hv
    have hsym := nbr_sym hv
    have hwm := zMk (show 0 < i → wrap64 ((i : Int) - 1) = ((i - 1 : Nat) : Int) from fun h => by rw [w64 (by omega) (by omega)]; omega)
    have hlo : 0 < i → ¬ rd L ((i - 1 : Nat) : Int) ≥ rd L (i : Int) := fun h => by
      have := List.pairwise_iff_getElem.1 hup (i - 1) i (by omega) hlt (by omega)
      rw [rdI_get L i hlt, rdI_get L (i - 1) (by omega)]
      omega
    have hil : (i : Int) < (L.length : Int) := by omega
    have hi0 : (0 : Int) ≤ i := by omega
    have hml : ((i - 1 : Nat) : Int) < (L.length : Int) := by omega
    have hlv := hlen (rd L (i : Int))
    simp only [filigreelaw04_GraphHands.l1, hsz, hrow]
    generalize rd L (i : Int) = v at *
    have hhas := Has_eq k (nbr E v) u (by omega) (by omega)
    rw [decide_eq_true hsym] at hhas
    rw [if_pos hu0, if_pos hu1, if_pos hil, if_pos hi0, if_neg (by omega : ¬ v < 0), if_neg (by omega : ¬ v ≥ (N : Int)), if_neg v2, if_pos v0, if_pos v1, hrows v v0 v1, hhas, zOb, if_pos rfl, hwn.out]
    by_cases h0 : 0 < i
    · rw [if_pos (by omega : (i : Int) > 0), hwm.out h0, if_pos (by omega : (0 : Int) ≤ ((i - 1 : Nat) : Int)), if_pos hml, if_neg (hlo h0)]
      exact hn
    · rw [if_neg (by omega : ¬ (i : Int) > 0)]
      exact hn
theorem Hands_l0 (N : Nat) (E : List S36) (hr : rightI N E = 0) (hm : E.length ≤ 1200) (hN : N ≤ 300) (d : Nat) : ∀ (k u : Nat), N - u = d → u ≤ N → d * 3000 + 3000 ≤ k →
    filigreelaw04_GraphHands.l0 k (degs N fun v => ((nbr E v).length : Int)) (rows N (nbr E)) (sumN (fun v => ((nbr E v).length : Int)) u) u N E = some true := by
  have hE : ∀ e ∈ E, aloneI N e = 0 := fun e he => (((right_iff _ _).1 hr).2.1 e he).1
  have hsum := sum_nbr N E hE
  have HR := zMk hr
  clear hr
  have hlen : ∀ v, (nbr E v).length ≤ 2400 := fun v => by have := nbr_len E v; omega
  induction d with
  | zero =>
    intro k u hd hu hk
    obtain ⟨k, rfl⟩ : ∃ m, k = m + 1 := ⟨k - 1, by omega⟩
    obtain rfl : u = N := by omega
    have h3 : ¬ (u : Int) < (u : Int) := by omega
    have h5 := zMk (show wrap64 (2 * (E.length : Int)) = 2 * E.length from w64 (by omega) (by omega))
    simp only [filigreelaw04_GraphHands.l0]
    rw [if_neg h3, hsum, h5.out, if_pos rfl, alive_eq k (by omega)]
    rfl
  | succ d ih =>
    intro k u hd hu hk
    obtain ⟨k, rfl⟩ : ∃ m, k = m + 1 := ⟨k - 1, by omega⟩
    have hlt : u < N := by omega
    have hs0 : 0 ≤ sumN (fun v => ((nbr E v).length : Int)) u := by
      have := sumN_mono (fun v => ((nbr E v).length : Int)) (fun w => by simp) u 0
      rw [Nat.zero_add] at this
      exact this
    have hs1 : sumN (fun v => ((nbr E v).length : Int)) u + ((nbr E u).length : Int) ≤ 2 * E.length := by
      have := sumN_mono (fun v => ((nbr E v).length : Int)) (fun w => by simp) (N - (u + 1)) (u + 1)
      rw [show u + 1 + (N - (u + 1)) = N by omega, hsum] at this
      exact this
    obtain ⟨K, hK⟩ : ∃ K, K = d * 3000 + 3000 := ⟨_, rfl⟩
    have hlu := hlen u
    have hnx : ∀ k', K ≤ k' → _ := fun k' hk' => ih k' (u + 1) (by omega) (by omega) (hK ▸ hk')
    have h1 : (u : Int) < (N : Int) := by omega
    have h2 : (0 : Int) ≤ u := by omega
    simp only [filigreelaw04_GraphHands.l0, degs_len]
    rw [if_pos h1, if_pos h2, if_pos h1, degs_rd N _ _ h2 h1, w64 (by omega) (by omega)]
    exact Hands_l1 N E HR.out hm _ u hlt _ _ K (by omega) (by omega) hnx (nbr E u) rfl (nbr E u).length k 0 rfl (Nat.zero_le _) (by omega)
theorem pure_GraphHands : filigreelaw04_GraphHands.Pure := by
  intro n E _ _ _
  obtain ⟨k, hk⟩ : ∃ k : Nat, 1000000 ≤ k := ⟨_, Nat.le_refl _⟩
  refine ⟨k + 2, ?_⟩
  unfold filigreelaw04_GraphHands.f filigreelaw04_Light.f
  have h4 : wrap64 (4 * 300) = 1200 := w64 (by omega) (by omega)
  have yes : filigreelaw04_GraphHands.j0 (k + 2) true n E = some true := by
    simp only [filigreelaw04_GraphHands.j0, alive_eq (k + 1) (by omega), zOb, if_true]
  rw [h4]
  by_cases h1 : n ≤ 300
  · rw [if_pos h1, zOb]
    by_cases h2 : (E.length : Int) ≤ 1200
    · rw [if_pos (decide_eq_true h2), Right_eq _ n E (by omega), zOb]
      by_cases hr : rightI n E = 0
      · rw [hr]
        simp only [filigreelaw04_GraphHands.j0]
        obtain ⟨n0, _, _⟩ := sizes_le ((right_iff n E).1 hr).1
        obtain ⟨N, rfl⟩ := Int.eq_ofNat_of_zero_le n0
        rw [if_neg (by simp), Degrees_eq _ _ E (by omega) (by omega), zOb, Near_eq _ _ E (by omega) (by omega), zOb, if_pos hr, if_pos hr, zTn, degs_len, rows_len, if_pos rfl]
        simp only [filigreelaw04_GraphHands.j1]
        rw [if_neg (by simp)]
        exact Hands_l0 N E hr (by omega) (by omega) N k 0 (by omega) (by omega) (by omega)
      · rw [show (rightI n E != 0) = true from bne_iff_ne.mpr hr]
        exact yes
    · rw [if_neg (by simpa using h2)]
      exact yes
  · rw [if_neg h1, zOb, if_neg (by simp)]
    exact yes
end Go.Proofs.Yteicpdkembmilaa.A
