/- Lemmas for the statement: the walks of the functions that it reaches, and plain laws. -/
import Derived.Test.YtnigaojboililaaG1
set_option linter.unusedVariables false
set_option linter.unusedSimpArgs false
set_option maxHeartbeats 8000000
set_option maxRecDepth 100000
namespace Go.Proofs.Ytnigaojboililaa.A
open Go Go.RowKit Go.Proofs.YtnigaojboililaaW.PrintWords Go.Proofs.YtnigaojboililaaW.PrintLast Go.Proofs.YtnigaojboililaaW.PrintMore
attribute [local go_sem] max2_int min2_int max_two min_two max_three min_three max_four min_four
open Go.Proofs.YtnigaojboililaaW.PrintWords.Kd renaming R_alloc → zRa, R_drewN → zRn, R_drew → zRd, C_alloc → zCa, C_drewN → zCn, C_drew → zCd, R_mono → zRm, at_int → zAi, R_elder' → zRe, R_lower → zRl, R_new' → zRw, R_lt → zRt, R_below → zRb, R_base → zRz, R_reads' → zRr, R_slice → zRs
open Go.Proofs.YtnigaojboililaaW.PrintWords renaming pw_below_drewN → zBn, below_alloc → zBa, below_drew1 → zBd, below_size → zBs, below_step → zBt, blk_drewN → zKn, blk_drew → zKd, blk_alloc → zKa, blk_below → zKb, blk_cell → zKc, blk_frozen → zKf
open List renaming setIfInBounds_toArray → zSa, set_cons_zero → zSb, set_cons_succ → zSc, length_drop → zLd, length_take → zLt, map_toArray → zMa, map_cons → zMc, map_nil → zMn, length_cons → zLc
open Go.Proofs.YtnigaojboililaaW.PrintWords.Aside0 renaming mk → zMk
open Option renaming bind_eq_some_iff → zBi, bind_some → zOb
open Option.some renaming inj → zOi
open Int renaming toNat_natCast → zTn
theorem far_get (xs : List S48) (i : Nat) (h : i < xs.length) : far xs i = xs[i].f0 := by unfold far; rw [rd_eq xs i h]
theorem swp_eq (xs : List S48) (i j : Nat) (hi : i < xs.length) (hj : j < xs.length) : swp xs i j = (xs.set i xs[j]).set j xs[i] := by
  unfold swp; rw [rd_eq xs i hi, rd_eq xs j hj]
theorem swp_perm (xs : List S48) (i j : Nat) (hi : i < xs.length) (hj : j < xs.length) : (swp xs i j).Perm xs := by
  rw [swp_eq xs i j hi hj]
  exact List.set_set_perm hi hj
theorem swp_get (xs : List S48) (i j t : Nat) (hi : i < xs.length) (hj : j < xs.length) (ht : t < xs.length) :
    far (swp xs i j) t = if t = j then far xs i else if t = i then far xs j else far xs t := by
  rw [far_get _ _ (by rw [swp_length]; exact ht)]
  simp only [swp_eq xs i j hi hj, List.getElem_set]
  by_cases h1 : t = j
  · subst h1; simp [far_get xs i hi]
  · rw [if_neg (fun h : j = t => h1 h.symm), if_neg h1]
    by_cases h2 : t = i
    · subst h2; simp [far_get xs j hj]
    · rw [if_neg (fun h : i = t => h2 h.symm), if_neg h2, far_get xs t ht]
theorem rd_swp_other (xs : List S48) (i j t : Nat) (hi : i < xs.length) (hj : j < xs.length) (ht : t < xs.length) (h1 : t ≠ i) (h2 : t ≠ j) :
    (swp xs i j)[t]'(by rw [swp_length]; exact ht) = xs[t] := by
  simp only [swp_eq xs i j hi hj, List.getElem_set]
  rw [if_neg (fun h => h2 h.symm), if_neg (fun h => h1 h.symm)]
def HeapN (xs : List S48) (n : Nat) : Prop := ∀ j, 0 < j → j < n → far xs ((j - 1) / 2) ≤ far xs j
def HeapUp (xs : List S48) (j : Nat) : Prop := (∀ t, 0 < t → t < xs.length → t ≠ j → far xs ((t - 1) / 2) ≤ far xs t) ∧ ∀ t, 0 < t → t < xs.length → (t - 1) / 2 = j → 0 < j → far xs ((j - 1) / 2) ≤ far xs t
theorem hup_heap : ∀ (k : Nat) (xs : List S48) (j : Nat), j < k → j < xs.length → HeapUp xs j → HeapN (hup k xs j) xs.length ∧ (hup k xs j).Perm xs
  | 0, _, _, h, _, _ => absurd h (by omega)
  | k + 1, xs, j, hk, hj, h => by
    simp only [hup]
    by_cases h0 : j = 0
    · rw [if_pos h0]
      refine ⟨fun t h1 h2 => h.1 t h1 h2 (by omega), List.Perm.refl _⟩
    · rw [if_neg h0]
      have hp : (j - 1) / 2 < xs.length := by omega
      by_cases h1 : far xs j < far xs ((j - 1) / 2)
      · rw [if_pos h1]
        have hl := swp_length xs ((j - 1) / 2) j
        have ih := hup_heap k (swp xs ((j - 1) / 2) j) ((j - 1) / 2) (by omega) (by omega) ?_
        · rw [hl] at ih
          exact ⟨ih.1, ih.2.trans (swp_perm xs _ _ hp hj)⟩
        · rw [HeapUp, hl]
          refine ⟨fun t t0 t1 t2 => ?_, fun t t0 t1 t2 t3 => ?_⟩
          · rw [swp_get xs _ _ t hp hj t1, swp_get xs _ _ ((t - 1) / 2) hp hj (by omega)]
            by_cases e1 : t = j
            · subst e1; rw [if_pos rfl, if_neg (by omega), if_pos rfl]; omega
            · rw [if_neg e1, if_neg t2]
              by_cases e2 : (t - 1) / 2 = j
              · rw [if_pos e2]; exact h.2 t t0 t1 e2 (by omega)
              · rw [if_neg e2]
                by_cases e3 : (t - 1) / 2 = (j - 1) / 2
                · rw [if_pos e3]
                  have := h.1 t t0 t1 e1
                  rw [e3] at this; omega
                · rw [if_neg e3]; exact h.1 t t0 t1 e1
          · rw [swp_get xs _ _ t hp hj t1, swp_get xs _ _ (((j - 1) / 2 - 1) / 2) hp hj (by omega)]
            have a1 : ((j - 1) / 2 - 1) / 2 ≠ j := by omega
            have a2 : ((j - 1) / 2 - 1) / 2 ≠ (j - 1) / 2 := by omega
            rw [if_neg a1, if_neg a2]
            have b := h.1 ((j - 1) / 2) t3 hp (by omega)
            by_cases e1 : t = j
            · rw [if_pos e1]; exact b
            · rw [if_neg e1, if_neg (by omega)]
              have c := h.1 t t0 t1 e1
              rw [t2] at c; omega
      · rw [if_neg h1]
        refine ⟨fun t h2 h3 => ?_, List.Perm.refl _⟩
        by_cases e : t = j
        · subst e; omega
        · exact h.1 t h2 h3 e
def HeapDn (xs : List S48) (n i : Nat) : Prop := (∀ t, 0 < t → t < n → (t - 1) / 2 ≠ i → far xs ((t - 1) / 2) ≤ far xs t) ∧ ∀ t, 0 < t → t < n → (t - 1) / 2 = i → 0 < i → far xs ((i - 1) / 2) ≤ far xs t
theorem hdown_heap : ∀ (k : Nat) (xs : List S48) (i n : Nat), n ≤ i + k → n ≤ xs.length → i < xs.length → HeapDn xs n i → HeapN (hdown k xs i n) n ∧ (hdown k xs i n).Perm xs ∧ (∀ t, n ≤ t → t ≠ i → ∀ (h : t < xs.length), (hdown k xs i n)[t]'(by rw [hdown_length]; exact h) = xs[t])
  | 0, xs, i, n, hk, hn, hi, h => ⟨fun t h1 h2 => h.1 t h1 h2 (by omega), List.Perm.refl _, fun _ _ _ _ => rfl⟩
  | k + 1, xs, i, n, hk, hn, hi, h => by
    by_cases h0 : 2 * i + 1 ≥ n
    · have e : hdown (k + 1) xs i n = xs := by simp only [hdown]; rw [if_pos h0]
      simp only [e]
      exact ⟨fun t h1 h2 => h.1 t h1 h2 (by omega), List.Perm.refl _, fun _ _ _ _ => trivial⟩
    · obtain ⟨j, hj⟩ : ∃ j, (if 2 * i + 2 < n then (if far xs (2 * i + 2) < far xs (2 * i + 1) then 2 * i + 2 else 2 * i + 1) else 2 * i + 1) = j := ⟨_, rfl⟩
      have hjn : (j = 2 * i + 1 ∨ j = 2 * i + 2) ∧ j < n := by rw [← hj]; repeat' split
                                                               all_goals omega
      have hmin : ∀ t, 0 < t → t < n → (t - 1) / 2 = i → far xs j ≤ far xs t := by
        intro t t0 t1 t2
        have : t = 2 * i + 1 ∨ t = 2 * i + 2 := by omega
        rw [← hj]
        rcases this with rfl | rfl
        · split
          · split <;> omega
          · omega
        · rw [if_pos t1]; split <;> omega
      have e0 : hdown (k + 1) xs i n = if far xs j < far xs i then hdown k (swp xs i j) j n else xs := by
        simp only [hdown]; rw [if_neg h0, hj]
      by_cases h1 : far xs j < far xs i
      · have e : hdown (k + 1) xs i n = hdown k (swp xs i j) j n := by rw [e0, if_pos h1]
        simp only [e]
        have hl := swp_length xs i j
        have hjl : j < xs.length := by omega
        have ih := hdown_heap k (swp xs i j) j n (by omega) (by omega) (by omega) ?_
        · refine ⟨ih.1, ih.2.1.trans (swp_perm xs i j hi hjl), fun t t0 t1 t2 => ?_⟩
          rw [ih.2.2 t t0 (by omega) (by omega)]
          exact rd_swp_other xs i j t hi hjl t2 t1 (by omega)
        · refine ⟨fun t t0 t1 t2 => ?_, fun t t0 t1 t2 t3 => ?_⟩
          · rw [swp_get xs i j t hi hjl (by omega), swp_get xs i j ((t - 1) / 2) hi hjl (by omega), if_neg t2]
            by_cases e1 : t = j
            · subst e1
              rw [if_pos rfl, if_pos (by omega)]; omega
            · rw [if_neg e1]
              by_cases e2 : (t - 1) / 2 = i
              · rw [if_pos e2, if_neg (by omega)]; exact hmin t t0 t1 e2
              · rw [if_neg e2]
                by_cases e3 : t = i
                · subst e3
                  rw [if_pos rfl]
                  exact h.2 j (by omega) hjn.2 (by omega) t0
                · rw [if_neg e3]; exact h.1 t t0 t1 e2
          · rw [swp_get xs i j t hi hjl (by omega), swp_get xs i j ((j - 1) / 2) hi hjl (by omega)]
            have a : (j - 1) / 2 = i := by omega
            rw [if_neg (by omega : (j - 1) / 2 ≠ j), if_pos a, if_neg (by omega : t ≠ j), if_neg (by omega : t ≠ i)]
            have := h.1 t t0 t1 (by omega)
            rw [t2] at this; exact this
      · have e : hdown (k + 1) xs i n = xs := by rw [e0, if_neg h1]
        simp only [e]
        refine ⟨fun t t0 t1 => ?_, List.Perm.refl _, fun _ _ _ _ => trivial⟩
        by_cases e2 : (t - 1) / 2 = i
        · rw [e2]; have := hmin t t0 t1 e2; omega
        · exact h.1 t t0 t1 e2
theorem heap_least (xs : List S48) (n : Nat) (h : HeapN xs n) : ∀ j, j < n → far xs 0 ≤ far xs j := by
  intro j
  induction j using Nat.strongRecOn with
  | _ j ih =>
    intro hj
    by_cases h0 : j = 0
    · rw [h0]; exact Int.le_refl _
    · have a := ih ((j - 1) / 2) (by omega) (by omega)
      have b := h j (by omega) hj
      omega
def Heap (xs : List S48) : Prop := HeapN xs xs.length
theorem far_append (xs : List S48) (x : S48) (t : Nat) (h : t < xs.length) : far (xs ++ [x]) t = far xs t := by
  rw [far_get _ _ (by simp; omega), far_get _ _ h]; simp [h]
theorem hpush_heap (xs : List S48) (x : S48) (h : Heap xs) : Heap (hpush xs x) ∧ (hpush xs x).Perm (x :: xs) := by
  have hh := hup_heap (xs.length + 1) (xs ++ [x]) xs.length (by omega) (by simp) ⟨fun t t0 t1 t2 => by
    rw [List.length_append, List.length_singleton] at t1
    rw [far_append xs x t (by omega), far_append xs x ((t - 1) / 2) (by omega)]
    exact h t t0 (by omega), fun t t0 t1 t2 => by
    rw [List.length_append, List.length_singleton] at t1
    omega⟩
  refine ⟨?_, hh.2.trans List.perm_append_comm⟩
  have e : (hpush xs x).length = (xs ++ [x]).length := by unfold hpush; rw [hup_length]
  unfold Heap
  rw [e]
  exact hh.1
theorem hpop_heap (xs : List S48) (h : Heap xs) (h0 : 0 < xs.length) : Heap (hpop xs) ∧ xs.Perm (hmin xs :: hpop xs) ∧ (∀ y ∈ xs, (hmin xs).f0 ≤ y.f0) ∧ (hpop xs).length = xs.length - 1 := by
  have hl := swp_length xs 0 (xs.length - 1)
  have hd := hdown_heap xs.length (swp xs 0 (xs.length - 1)) 0 (xs.length - 1) (by omega) (by omega) (by omega) ⟨fun t t0 t1 t2 => by
    rw [swp_get xs 0 _ t h0 (by omega) (by omega), swp_get xs 0 _ ((t - 1) / 2) h0 (by omega) (by omega), if_neg (by omega), if_neg (by omega), if_neg (by omega), if_neg (by omega)]
    exact h t t0 (by omega), fun t _ _ _ h => absurd h (by omega)⟩
  have hdl : (hdn xs).length = xs.length := by unfold hdn; rw [hdown_length, hl]
  have hml : ∀ (hq : xs.length - 1 < (hdn xs).length), hmin xs = (hdn xs)[xs.length - 1] := by
    intro hq
    unfold hmin lastOf
    rw [hdl, show ((xs.length : Int) - 1) = ((xs.length - 1 : Nat) : Int) by omega, rd_eq _ _ hq]
  have hlast : hmin xs = xs[0] := by
    rw [hml (by omega)]
    by_cases e : xs.length = 1
    · have hp : (hdn xs).Perm xs := hd.2.1.trans (swp_perm xs 0 _ h0 (by omega))
      obtain ⟨a, ha⟩ : ∃ a, xs = [a] := List.length_eq_one_iff.1 e
      subst ha
      have := hp.eq_singleton
      simp only [this]
      rfl
    · have := hd.2.2 (xs.length - 1) (Nat.le_refl _) (by omega) (by omega)
      show (hdn xs)[xs.length - 1] = _
      unfold hdn
      rw [this]
      simp only [swp_eq xs 0 (xs.length - 1) h0 (by omega), List.getElem_set]
      simp
  have hperm : xs.Perm (hmin xs :: hpop xs) := by
    have hp : (hdn xs).Perm xs := hd.2.1.trans (swp_perm xs 0 _ h0 (by omega))
    refine hp.symm.trans ?_
    have hne : hdn xs ≠ [] := by intro e; rw [e] at hdl; simp at hdl; omega
    have e : hdn xs = hpop xs ++ [hmin xs] := by
      unfold hpop
      rw [hml (by omega)]
      have := List.dropLast_concat_getLast hne
      rw [List.getLast_eq_getElem] at this
      simp only [hdl] at this
      exact this.symm
    rw [e]
    exact List.perm_append_comm
  have hpl : (hpop xs).length = xs.length - 1 := by unfold hpop; rw [List.length_dropLast, hdl]
  refine ⟨fun t t0 t1 => ?_, hperm, fun y hy => ?_, hpl⟩
  · have g : ∀ s, s < xs.length - 1 → far (hpop xs) s = far (hdn xs) s := by
      intro s hs
      rw [far_get _ _ (by omega), far_get _ _ (by omega)]
      simp [hpop]
    rw [g t (by omega), g ((t - 1) / 2) (by omega)]
    exact hd.1 t t0 (by omega)
  · obtain ⟨j, hj, rfl⟩ := List.mem_iff_getElem.1 hy
    have := heap_least xs xs.length h j hj
    rw [far_get xs 0 h0, far_get xs j hj] at this
    rw [hlast]; exact this

mutual
def filigreeref12_Right.j0 : Nat → Bool → Int → List (S39) → Option (Int)
  | 0, _, _, _ => none
  | k + 1, x16, x187000, x187001 => if x16 = true then (some 4) else (filigreeref12_Right.l0 k 0 x187000 x187001)
def filigreeref12_Right.l0 : Nat → Int → Int → List (S39) → Option (Int)
  | 0, _, _, _ => none
  | k + 1, x3, x187000, x187001 => if x3 < (x187001.length : Int) then (if 0 ≤ x3 then (if ((rd_T39 x187001 x3).f0) < 0 then (filigreeref12_Right.j2 k x3 true x187000 x187001 ((rd_T39 x187001 x3).f0) ((rd_T39 x187001 x3).f1) ((rd_T39 x187001 x3).f2)) else (if ((rd_T39 x187001 x3).f0) ≥ x187000 then (filigreeref12_Right.j2 k x3 true x187000 x187001 ((rd_T39 x187001 x3).f0) ((rd_T39 x187001 x3).f1) ((rd_T39 x187001 x3).f2)) else (if ((rd_T39 x187001 x3).f1) < 0 then (filigreeref12_Right.j2 k x3 true x187000 x187001 ((rd_T39 x187001 x3).f0) ((rd_T39 x187001 x3).f1) ((rd_T39 x187001 x3).f2)) else (filigreeref12_Right.j2 k x3 (decide (((rd_T39 x187001 x3).f1) ≥ x187000)) x187000 x187001 ((rd_T39 x187001 x3).f0) ((rd_T39 x187001 x3).f1) ((rd_T39 x187001 x3).f2))))) else (none)) else (some 0)
def filigreeref12_Right.j2 : Nat → Int → Bool → Int → List (S39) → Int → Int → Int → Option (Int)
  | 0, _, _, _, _, _, _, _ => none
  | k + 1, x3, x50, x187000, x187001, x189000, x189001, x189002 => if x50 = true then (some 5) else (if x189002 < 0 then (some 10) else (if x189002 ≥ 2147483648 then (some 8) else (filigreeref12_Right.l0 k (wrap64 (x3 + 1)) x187000 x187001)))
end
def filigreeref12_Right.f (k : Nat) (a0_0 : Int) (l0_1 : List (S39)) : Option (Int) := if a0_0 < 0 then (some 1) else (if a0_0 > 1048576 then (filigreeref12_Right.j0 k true a0_0 l0_1) else (filigreeref12_Right.j0 k (decide ((l0_1.length : Int) > 4194304)) a0_0 l0_1))
theorem filigreeref12_Right.calls (k : Nat) (a0_0 : Int) (A0_1 : Option Addr) (c0_1 : Nat) (l0_1 : List (S39)) (r : Int) (w : World) (hr0_1 : Kd.C k39 w A0_1 l0_1.length l0_1) (hc0_1 : l0_1.length ≤ c0_1) (h : filigreeref12_Right.f k a0_0 l0_1 = some r) :
    Calls Try.prog 8 #[.agg #[.int .i64 a0_0, .slice A0_1 l0_1.length c0_1]] w fun e w' => e = .returned (.int .i64 r) ∧ Below w.heap.size w w' := by
  have hu24 := Try.underlying24
  have hu39 := Try.underlying39
  have HR0_1 := zMk hr0_1
  have HC0_1 := zMk hc0_1
  clear hr0_1 hc0_1
  have HB := zMk (Below.refl w.heap.size w)
  have H : (if a0_0 < 0 then (some 1) else (if a0_0 > 1048576 then (filigreeref12_Right.j0 k true a0_0 l0_1) else (filigreeref12_Right.j0 k (decide ((l0_1.length : Int) > 4194304)) a0_0 l0_1))) = some r := h
  clear h
  by_cases c2 : a0_0 < 0
  · rw [if_pos c2] at H
    have c2b0 : decide (a0_0 < 0) = true := decide_eq_true c2
    clear c2
    obtain rfl := zOi H
    go_enter Try.func8, Try.ntmps8
    go_wp2_with (first | ((with_reducible refine gate_dst (N := 1) rfl ?_); (try (refine gate_guard (by rfl) ?_; dsimp only)); refine box_event ?hg (N := 1) ?hd (cs := #[.int .i64 a0_0, .slice A0_1 l0_1.length c0_1]) (t := 24) ?hr ?_; (case hd => rfl); (case hg => rfl); (case hr => first | (go_simp; done)|(go_simp; rfl)|(go_simp; rw [show ∀ x : Int, IntKind.u32.wrap (IntKind.u8.wrap x) = x % 256 from fun x => (by show (x % 256) % 4294967296 = x % 256; omega)])); intro gb186 hg w3 hbox hb; have BK186 := zMk (hbox); have GW186 := zMk ((by rw [hg]; exact (zBs (by exact uT HB.out)) : w.heap.size ≤ gb186)); have GE186 := zMk ((by rw [hg]; exact (zBs (by exact uT HB.out)) : w.heap.size ≤ gb186)); have IGE186 := ownGe GE186.out; replace HB := zMk (zBt (by exact uT HB.out) hb); clear hb hbox hg; have hcz4_0 : w3.cell? ⟨gb186, 0, none⟩ = some (.int .i64 a0_0) := (zKc BK186.out 0).trans rfl; have hcz4_1 : w3.cell? ⟨gb186, 1, none⟩ = some (.slice A0_1 l0_1.length c0_1) := (zKc BK186.out 1).trans rfl; have hfz4_0 := zKf BK186.out 0; have hfz4_1 := zKf BK186.out 1))
    go_ret
    exact ⟨by first | rfl | (simp [errW_none, errW_some] <;> rfl) | (simp [*, errW_none, errW_some] <;> rfl), by exact uT HB.out⟩
  · rw [if_neg c2] at H
    have c2b0 : decide (a0_0 < 0) = false := decide_eq_false c2
    clear c2
    have HC5 := zMk H
    clear H
    go_enter Try.func8, Try.ntmps8
    go_upto_region 3 with (first | ((with_reducible refine gate_dst (N := 1) rfl ?_); (try (refine gate_guard (by rfl) ?_; dsimp only)); refine box_event ?hg (N := 1) ?hd (cs := #[.int .i64 a0_0, .slice A0_1 l0_1.length c0_1]) (t := 24) ?hr ?_; (case hd => rfl); (case hg => rfl); (case hr => first | (go_simp; done)|(go_simp; rfl)|(go_simp; rw [show ∀ x : Int, IntKind.u32.wrap (IntKind.u8.wrap x) = x % 256 from fun x => (by show (x % 256) % 4294967296 = x % 256; omega)])); intro gb186 hg w6 hbox hb; have BK186 := zMk (hbox); have GW186 := zMk ((by rw [hg]; exact (zBs (by exact uT HB.out)) : w.heap.size ≤ gb186)); have GE186 := zMk ((by rw [hg]; exact (zBs (by exact uT HB.out)) : w.heap.size ≤ gb186)); have IGE186 := ownGe GE186.out; replace HB := zMk (zBt (by exact uT HB.out) hb); clear hb hbox hg; have hcz7_0 : w6.cell? ⟨gb186, 0, none⟩ = some (.int .i64 a0_0) := (zKc BK186.out 0).trans rfl; have hcz7_1 : w6.cell? ⟨gb186, 1, none⟩ = some (.slice A0_1 l0_1.length c0_1) := (zKc BK186.out 1).trans rfl; have hfz7_0 := zKf BK186.out 0; have hfz7_1 := zKf BK186.out 1))
    (try simp only [Act.put, zSa, zSb, zSc])
    go_cut [16] (fun v16 wc => ∃ (kq : Nat) (x16_4 : Bool), v16 = .bool x16_4 ∧ Aside0 (filigreeref12_Right.j0 kq x16_4 a0_0 l0_1 = some r) ∧ Aside0 (kq ≤ k) ∧ Aside0 (wc.heap[gb186]? = some (.cells #[.int .i64 a0_0, (.slice A0_1 l0_1.length c0_1)] 24 (0, 0))) ∧ Aside0 (Below w.heap.size w wc))
    case first =>
      have H := HC5.out
      clear HC5
      by_cases c8 : a0_0 > 1048576
      · rw [if_pos c8] at H
        have c8b0 : decide (1048576 < a0_0) = true := decide_eq_true c8
        clear c8
        (first | rw [c8b0] | (simp only [i64_w, i32_w]; rw [c8b0]) | rw [c8b1] | skip)
        have H' := zMk H
        clear H
        have hcz9_0 : w6.cell? ⟨gb186, 0, none⟩ = some (.int .i64 a0_0) := (zKc BK186.out 0).trans rfl
        have hcz9_1 : w6.cell? ⟨gb186, 1, none⟩ = some (.slice A0_1 l0_1.length c0_1) := (zKc BK186.out 1).trans rfl
        have hfz9_0 := zKf BK186.out 0
        have hfz9_1 := zKf BK186.out 1
        go_wp2
        go_meet
        case rel => exact ⟨_, (true), (by first | rfl | (simp; done) | (simp [*]; done)), H', ⟨by first | omega | exact Nat.le_refl _⟩, ⟨by (with_reducible repeat (first | refine zKn ?_ _ | refine zKd ?_ | refine zKa ?_ _)); exact BK186.out⟩, ⟨by exact uT HB.out⟩⟩
      · rw [if_neg c8] at H
        have c8b0 : decide (1048576 < a0_0) = false := decide_eq_false c8
        clear c8
        (first | rw [c8b0] | (simp only [i64_w, i32_w]; rw [c8b0]) | rw [c8b1] | skip)
        have H' := zMk H
        clear H
        have hcz10_0 : w6.cell? ⟨gb186, 0, none⟩ = some (.int .i64 a0_0) := (zKc BK186.out 0).trans rfl
        have hcz10_1 : w6.cell? ⟨gb186, 1, none⟩ = some (.slice A0_1 l0_1.length c0_1) := (zKc BK186.out 1).trans rfl
        have hfz10_0 := zKf BK186.out 0
        have hfz10_1 := zKf BK186.out 1
        go_wp2
        go_meet
        case rel => exact ⟨_, (decide ((l0_1.length : Int) > 4194304)), (by first | rfl | (simp; done) | (simp [*]; done)), H', ⟨by first | omega | exact Nat.le_refl _⟩, ⟨by (with_reducible repeat (first | refine zKn ?_ _ | refine zKd ?_ | refine zKa ?_ _)); exact BK186.out⟩, ⟨by exact uT HB.out⟩⟩
    case rest =>
      clear HC5
      obtain ⟨kq, x16_4, rfl, HA, HJ4, BK186, HB⟩ := hcut
      rcases kq with _ | kj4
      · exact absurd HA.out (by simp [filigreeref12_Right.j0])
      have H := HA.out
      clear HA
      simp only [filigreeref12_Right.j0] at H
      by_cases c11 : x16_4 = true
      · subst c11
        replace H : (some 4) = some r := by rw [if_pos rfl] at H; exact H
        obtain rfl := zOi H
        go_wp2
        go_ret
        exact ⟨by first | rfl | (simp [errW_none, errW_some] <;> rfl) | (simp [*, errW_none, errW_some] <;> rfl), by exact uT HB.out⟩
      · replace c11 := Bool.eq_false_iff.mpr c11
        subst c11
        replace H : (filigreeref12_Right.l0 kj4 0 a0_0 l0_1) = some r := by rw [if_neg (show ¬ (false = true) by decide)] at H; exact H
        have H' := zMk H
        clear H
        go_wp2
        go_loopg [3] kj4 (fun kq v3 w' => ∃ (x3_2 : Int), v3 = .int .i64 x3_2 ∧ Aside0 (filigreeref12_Right.l0 kq x3_2 a0_0 l0_1 = some r) ∧ Aside0 (kq ≤ kj4) ∧ Aside0 (w'.heap[gb186]? = some (.cells #[.int .i64 a0_0, (.slice A0_1 l0_1.length c0_1)] 24 (0, 0))) ∧ Aside0 (Below w.heap.size w w'))
        case atStart => exact ⟨(0), (by first | rfl | (simp; done) | (simp [*]; done)), H', ⟨Nat.le_refl _⟩, ⟨by (with_reducible repeat (first | refine zKn ?_ _ | refine zKd ?_ | refine zKa ?_ _)); exact BK186.out⟩, ⟨by exact uT HB.out⟩⟩
        clear H'
        obtain ⟨x3_2, rfl, HA, HK2, BK186, HB⟩ := hrel
        rcases gk with _ | k2
        · exact absurd HA.out (by simp [filigreeref12_Right.l0])
        have H := HA.out
        clear HA
        simp only [filigreeref12_Right.l0] at H
        by_cases c12 : x3_2 < (l0_1.length : Int)
        · rw [if_pos c12] at H
          have c12b0 : decide (x3_2 < (l0_1.length : Int)) = true := decide_eq_true c12
          clear c12
          by_cases c13 : 0 ≤ x3_2
          rotate_left
          · rw [if_neg c13] at H; exact absurd H (by simp)
          rw [if_pos c13] at H
          have c13b0 : decide (0 ≤ x3_2) = true := decide_eq_true c13
          clear c13
          have HC14 := zMk H
          clear H
          have hcz15_0 : wr.cell? ⟨gb186, 0, none⟩ = some (.int .i64 a0_0) := (zKc BK186.out 0).trans rfl
          have hcz15_1 : wr.cell? ⟨gb186, 1, none⟩ = some (.slice A0_1 l0_1.length c0_1) := (zKc BK186.out 1).trans rfl
          have hfz15_0 := zKf BK186.out 0
          have hfz15_1 := zKf BK186.out 1
          have p187 : 0 ≤ (x3_2 : Int) := of_decide_eq_true (by assumption)
          have q187 : x3_2 < (l0_1.length : Int) := of_decide_eq_true (by assumption)
          obtain ⟨ad187, e187, hx187_0, hx187_1, hx187_2⟩ := at_T39 HR0_1.out x3_2 p187 q187
          cases e187
          replace hx187_0 := (HB.out.cell (World.block_lt_of_cell? w _ hx187_0)).trans hx187_0
          replace hx187_1 := (HB.out.cell (World.block_lt_of_cell? w _ hx187_1)).trans hx187_1
          replace hx187_2 := (HB.out.cell (World.block_lt_of_cell? w _ hx187_2)).trans hx187_2
          replace p187 := eq_true p187
          replace q187 := eq_true q187
          go_upto_region 9 with (first | ((with_reducible refine gate_dst (N := 4) rfl ?_); (try (refine gate_guard (by rfl) ?_; dsimp only)); refine box_event ?hg (N := 4) ?hd (cs := #[.int .i64 0, .int .i64 0, .int .i64 0]) (t := 39) ?hr ?_; (case hd => rfl); (case hg => rfl); (case hr => first | (go_simp; done)|(go_simp; rfl)|(go_simp; rw [show ∀ x : Int, IntKind.u32.wrap (IntKind.u8.wrap x) = x % 256 from fun x => (by show (x % 256) % 4294967296 = x % 256; omega)])); intro gb188 hg w16 hbox hb; have BK188 := zMk (hbox); have GW188 := zMk ((by rw [hg]; exact (zBs (by exact uT HB.out)) : w.heap.size ≤ gb188)); have GE188 := zMk ((by rw [hg]; exact (zBs (by exact uT HB.out)) : w.heap.size ≤ gb188)); have IGE188 := ownGe GE188.out; replace HB := zMk (zBt (by exact uT HB.out) hb); have NB186_188 := zMk ((by rw [hg]; exact Nat.ne_of_lt (blk_lt (g := gb186) (o := .cells #[.int .i64 a0_0, .slice (some ad187) l0_1.length c0_1] 24 (0, 0)) (by (with_reducible repeat (first |  refine zKn ?_ _|  refine zKd ?_|  refine zKa ?_ _)); exact BK186.out)) : gb186 ≠ gb188)); have NB188_186 := zMk ((by rw [hg]; exact Nat.ne_of_gt (blk_lt (g := gb186) (o := .cells #[.int .i64 a0_0, .slice (some ad187) l0_1.length c0_1] 24 (0, 0)) (by (with_reducible repeat (first |  refine zKn ?_ _|  refine zKd ?_|  refine zKa ?_ _)); exact BK186.out)) : gb188 ≠ gb186)); replace BK186 := zMk (zKb (g := gb186) (o := .cells #[.int .i64 a0_0, .slice (some ad187) l0_1.length c0_1] 24 (0, 0)) (by (with_reducible repeat (first |  refine zKn ?_ _|  refine zKd ?_|  refine zKa ?_ _)); exact BK186.out) hb); clear hb hbox hg; have hnb17 := NB188_186.out; have hnc17 := NB186_188.out; have hcz18_0 : w16.cell? ⟨gb188, 0, none⟩ = some (.int .i64 0) := (zKc BK188.out 0).trans rfl; have hcz18_1 : w16.cell? ⟨gb188, 1, none⟩ = some (.int .i64 0) := (zKc BK188.out 1).trans rfl; have hcz18_2 : w16.cell? ⟨gb188, 2, none⟩ = some (.int .i64 0) := (zKc BK188.out 2).trans rfl; have hfz18_0 := zKf BK188.out 0; have hfz18_1 := zKf BK188.out 1; have hfz18_2 := zKf BK188.out 2))
          (try simp only [Act.put, zSa, zSb, zSc])
          go_cut [50] (fun v50 wc => ∃ (kq : Nat) (x50_13 : Bool), v50 = .bool x50_13 ∧ Aside0 (filigreeref12_Right.j2 kq x3_2 x50_13 a0_0 l0_1 ((rd_T39 l0_1 x3_2).f0) ((rd_T39 l0_1 x3_2).f1) ((rd_T39 l0_1 x3_2).f2) = some r) ∧ Aside0 (kq ≤ k2) ∧ Aside0 (wc.heap[gb186]? = some (.cells #[.int .i64 a0_0, (.slice (some ad187) l0_1.length c0_1)] 24 (0, 0))) ∧ Aside0 (wc.heap[gb188]? = some (.cells #[.int .i64 ((rd_T39 l0_1 x3_2).f0), .int .i64 ((rd_T39 l0_1 x3_2).f1), .int .i64 ((rd_T39 l0_1 x3_2).f2)] 39 (0, 0))) ∧ Aside0 (Below w.heap.size w wc))
          case first =>
            have H := HC14.out
            clear HC14
            by_cases c19 : ((rd_T39 l0_1 x3_2).f0) < 0
            · rw [if_pos c19] at H
              have c19b0 : decide (((rd_T39 l0_1 x3_2).f0) < 0) = true := decide_eq_true c19
              clear c19
              (first | rw [c19b0] | (simp only [i64_w, i32_w]; rw [c19b0]) | rw [c19b1] | skip)
              have H' := zMk H
              clear H
              have hnb20 := NB188_186.out
              have hnc20 := NB186_188.out
              have hcz21_0 : w16.cell? ⟨gb188, 0, none⟩ = some (.int .i64 0) := (zKc BK188.out 0).trans rfl
              have hcz21_1 : w16.cell? ⟨gb188, 1, none⟩ = some (.int .i64 0) := (zKc BK188.out 1).trans rfl
              have hcz21_2 : w16.cell? ⟨gb188, 2, none⟩ = some (.int .i64 0) := (zKc BK188.out 2).trans rfl
              have hfz21_0 := zKf BK188.out 0
              have hfz21_1 := zKf BK188.out 1
              have hfz21_2 := zKf BK188.out 2
              go_wp2
              go_meet
              case rel => exact ⟨_, (true), (by first | rfl | (simp; done) | (simp [*]; done)), H', ⟨by have := HJ4.out; have := HK2.out; first | omega | exact Nat.le_refl _⟩, ⟨by (with_reducible repeat (first | refine zKn ?_ _ | refine zKd ?_ | refine zKa ?_ _)); refine blk_far ?_ NB186_188.out _; (with_reducible repeat (first | refine zKn ?_ _ | refine zKd ?_ | refine zKa ?_ _)); refine blk_far ?_ NB186_188.out _; (with_reducible repeat (first | refine zKn ?_ _ | refine zKd ?_ | refine zKa ?_ _)); refine blk_far ?_ NB186_188.out _; (with_reducible repeat (first | refine zKn ?_ _ | refine zKd ?_ | refine zKa ?_ _)); exact BK186.out⟩, ⟨by (with_reducible repeat (first | refine zKn ?_ _ | refine zKd ?_ | refine zKa ?_ _)); refine blk_put (cs := #[.int .i64 ((rd_T39 l0_1 x3_2).f0), .int .i64 ((rd_T39 l0_1 x3_2).f1), .int .i64 0]) ?_ 2 _ rfl; (with_reducible repeat (first | refine zKn ?_ _ | refine zKd ?_ | refine zKa ?_ _)); refine blk_put (cs := #[.int .i64 ((rd_T39 l0_1 x3_2).f0), .int .i64 0, .int .i64 0]) ?_ 1 _ rfl; (with_reducible repeat (first | refine zKn ?_ _ | refine zKd ?_ | refine zKa ?_ _)); refine blk_put (cs := #[.int .i64 0, .int .i64 0, .int .i64 0]) ?_ 0 _ rfl; (with_reducible repeat (first | refine zKn ?_ _ | refine zKd ?_ | refine zKa ?_ _)); exact BK188.out⟩, ⟨by exact uT HB.out⟩⟩
            · rw [if_neg c19] at H
              have c19b0 : decide (((rd_T39 l0_1 x3_2).f0) < 0) = false := decide_eq_false c19
              clear c19
              (first | rw [c19b0] | (simp only [i64_w, i32_w]; rw [c19b0]) | rw [c19b1] | skip)
              by_cases c22 : ((rd_T39 l0_1 x3_2).f0) ≥ a0_0
              · rw [if_pos c22] at H
                have c22b0 : decide (a0_0 ≤ ((rd_T39 l0_1 x3_2).f0)) = true := decide_eq_true c22
                clear c22
                have H' := zMk H
                clear H
                have hnb23 := NB188_186.out
                have hnc23 := NB186_188.out
                have hcz24_0 : w16.cell? ⟨gb188, 0, none⟩ = some (.int .i64 0) := (zKc BK188.out 0).trans rfl
                have hcz24_1 : w16.cell? ⟨gb188, 1, none⟩ = some (.int .i64 0) := (zKc BK188.out 1).trans rfl
                have hcz24_2 : w16.cell? ⟨gb188, 2, none⟩ = some (.int .i64 0) := (zKc BK188.out 2).trans rfl
                have hfz24_0 := zKf BK188.out 0
                have hfz24_1 := zKf BK188.out 1
                have hfz24_2 := zKf BK188.out 2
                have hcz25_0 : w16.cell? ⟨gb186, 0, none⟩ = some (.int .i64 a0_0) := (zKc BK186.out 0).trans rfl
                have hcz25_1 : w16.cell? ⟨gb186, 1, none⟩ = some (.slice (some ad187) l0_1.length c0_1) := (zKc BK186.out 1).trans rfl
                have hfz25_0 := zKf BK186.out 0
                have hfz25_1 := zKf BK186.out 1
                go_wp2
                go_meet
                case rel => exact ⟨_, (true), (by first | rfl | (simp; done) | (simp [*]; done)), H', ⟨by have := HJ4.out; have := HK2.out; first | omega | exact Nat.le_refl _⟩, ⟨by (with_reducible repeat (first | refine zKn ?_ _ | refine zKd ?_ | refine zKa ?_ _)); refine blk_far ?_ NB186_188.out _; (with_reducible repeat (first | refine zKn ?_ _ | refine zKd ?_ | refine zKa ?_ _)); refine blk_far ?_ NB186_188.out _; (with_reducible repeat (first | refine zKn ?_ _ | refine zKd ?_ | refine zKa ?_ _)); refine blk_far ?_ NB186_188.out _; (with_reducible repeat (first | refine zKn ?_ _ | refine zKd ?_ | refine zKa ?_ _)); exact BK186.out⟩, ⟨by (with_reducible repeat (first | refine zKn ?_ _ | refine zKd ?_ | refine zKa ?_ _)); refine blk_put (cs := #[.int .i64 ((rd_T39 l0_1 x3_2).f0), .int .i64 ((rd_T39 l0_1 x3_2).f1), .int .i64 0]) ?_ 2 _ rfl; (with_reducible repeat (first | refine zKn ?_ _ | refine zKd ?_ | refine zKa ?_ _)); refine blk_put (cs := #[.int .i64 ((rd_T39 l0_1 x3_2).f0), .int .i64 0, .int .i64 0]) ?_ 1 _ rfl; (with_reducible repeat (first | refine zKn ?_ _ | refine zKd ?_ | refine zKa ?_ _)); refine blk_put (cs := #[.int .i64 0, .int .i64 0, .int .i64 0]) ?_ 0 _ rfl; (with_reducible repeat (first | refine zKn ?_ _ | refine zKd ?_ | refine zKa ?_ _)); exact BK188.out⟩, ⟨by exact uT HB.out⟩⟩
              · rw [if_neg c22] at H
                have c22b0 : decide (a0_0 ≤ ((rd_T39 l0_1 x3_2).f0)) = false := decide_eq_false c22
                clear c22
                by_cases c26 : ((rd_T39 l0_1 x3_2).f1) < 0
                · rw [if_pos c26] at H
                  have c26b0 : decide (((rd_T39 l0_1 x3_2).f1) < 0) = true := decide_eq_true c26
                  clear c26
                  have H' := zMk H
                  clear H
                  have hnb27 := NB188_186.out
                  have hnc27 := NB186_188.out
                  have hcz28_0 : w16.cell? ⟨gb188, 0, none⟩ = some (.int .i64 0) := (zKc BK188.out 0).trans rfl
                  have hcz28_1 : w16.cell? ⟨gb188, 1, none⟩ = some (.int .i64 0) := (zKc BK188.out 1).trans rfl
                  have hcz28_2 : w16.cell? ⟨gb188, 2, none⟩ = some (.int .i64 0) := (zKc BK188.out 2).trans rfl
                  have hfz28_0 := zKf BK188.out 0
                  have hfz28_1 := zKf BK188.out 1
                  have hfz28_2 := zKf BK188.out 2
                  have hcz29_0 : w16.cell? ⟨gb186, 0, none⟩ = some (.int .i64 a0_0) := (zKc BK186.out 0).trans rfl
                  have hcz29_1 : w16.cell? ⟨gb186, 1, none⟩ = some (.slice (some ad187) l0_1.length c0_1) := (zKc BK186.out 1).trans rfl
                  have hfz29_0 := zKf BK186.out 0
                  have hfz29_1 := zKf BK186.out 1
                  go_wp2
                  go_meet
                  case rel => exact ⟨_, (true), (by first | rfl | (simp; done) | (simp [*]; done)), H', ⟨by have := HJ4.out; have := HK2.out; first | omega | exact Nat.le_refl _⟩, ⟨by (with_reducible repeat (first | refine zKn ?_ _ | refine zKd ?_ | refine zKa ?_ _)); refine blk_far ?_ NB186_188.out _; (with_reducible repeat (first | refine zKn ?_ _ | refine zKd ?_ | refine zKa ?_ _)); refine blk_far ?_ NB186_188.out _; (with_reducible repeat (first | refine zKn ?_ _ | refine zKd ?_ | refine zKa ?_ _)); refine blk_far ?_ NB186_188.out _; (with_reducible repeat (first | refine zKn ?_ _ | refine zKd ?_ | refine zKa ?_ _)); exact BK186.out⟩, ⟨by (with_reducible repeat (first | refine zKn ?_ _ | refine zKd ?_ | refine zKa ?_ _)); refine blk_put (cs := #[.int .i64 ((rd_T39 l0_1 x3_2).f0), .int .i64 ((rd_T39 l0_1 x3_2).f1), .int .i64 0]) ?_ 2 _ rfl; (with_reducible repeat (first | refine zKn ?_ _ | refine zKd ?_ | refine zKa ?_ _)); refine blk_put (cs := #[.int .i64 ((rd_T39 l0_1 x3_2).f0), .int .i64 0, .int .i64 0]) ?_ 1 _ rfl; (with_reducible repeat (first | refine zKn ?_ _ | refine zKd ?_ | refine zKa ?_ _)); refine blk_put (cs := #[.int .i64 0, .int .i64 0, .int .i64 0]) ?_ 0 _ rfl; (with_reducible repeat (first | refine zKn ?_ _ | refine zKd ?_ | refine zKa ?_ _)); exact BK188.out⟩, ⟨by exact uT HB.out⟩⟩
                · rw [if_neg c26] at H
                  have c26b0 : decide (((rd_T39 l0_1 x3_2).f1) < 0) = false := decide_eq_false c26
                  clear c26
                  have H' := zMk H
                  clear H
                  have hnb30 := NB188_186.out
                  have hnc30 := NB186_188.out
                  have hcz31_0 : w16.cell? ⟨gb188, 0, none⟩ = some (.int .i64 0) := (zKc BK188.out 0).trans rfl
                  have hcz31_1 : w16.cell? ⟨gb188, 1, none⟩ = some (.int .i64 0) := (zKc BK188.out 1).trans rfl
                  have hcz31_2 : w16.cell? ⟨gb188, 2, none⟩ = some (.int .i64 0) := (zKc BK188.out 2).trans rfl
                  have hfz31_0 := zKf BK188.out 0
                  have hfz31_1 := zKf BK188.out 1
                  have hfz31_2 := zKf BK188.out 2
                  have hcz32_0 : w16.cell? ⟨gb186, 0, none⟩ = some (.int .i64 a0_0) := (zKc BK186.out 0).trans rfl
                  have hcz32_1 : w16.cell? ⟨gb186, 1, none⟩ = some (.slice (some ad187) l0_1.length c0_1) := (zKc BK186.out 1).trans rfl
                  have hfz32_0 := zKf BK186.out 0
                  have hfz32_1 := zKf BK186.out 1
                  go_wp2
                  go_meet
                  case rel => exact ⟨_, (decide (((rd_T39 l0_1 x3_2).f1) ≥ a0_0)), (by first | rfl | (simp; done) | (simp [*]; done)), H', ⟨by have := HJ4.out; have := HK2.out; first | omega | exact Nat.le_refl _⟩, ⟨by (with_reducible repeat (first | refine zKn ?_ _ | refine zKd ?_ | refine zKa ?_ _)); refine blk_far ?_ NB186_188.out _; (with_reducible repeat (first | refine zKn ?_ _ | refine zKd ?_ | refine zKa ?_ _)); refine blk_far ?_ NB186_188.out _; (with_reducible repeat (first | refine zKn ?_ _ | refine zKd ?_ | refine zKa ?_ _)); refine blk_far ?_ NB186_188.out _; (with_reducible repeat (first | refine zKn ?_ _ | refine zKd ?_ | refine zKa ?_ _)); exact BK186.out⟩, ⟨by (with_reducible repeat (first | refine zKn ?_ _ | refine zKd ?_ | refine zKa ?_ _)); refine blk_put (cs := #[.int .i64 ((rd_T39 l0_1 x3_2).f0), .int .i64 ((rd_T39 l0_1 x3_2).f1), .int .i64 0]) ?_ 2 _ rfl; (with_reducible repeat (first | refine zKn ?_ _ | refine zKd ?_ | refine zKa ?_ _)); refine blk_put (cs := #[.int .i64 ((rd_T39 l0_1 x3_2).f0), .int .i64 0, .int .i64 0]) ?_ 1 _ rfl; (with_reducible repeat (first | refine zKn ?_ _ | refine zKd ?_ | refine zKa ?_ _)); refine blk_put (cs := #[.int .i64 0, .int .i64 0, .int .i64 0]) ?_ 0 _ rfl; (with_reducible repeat (first | refine zKn ?_ _ | refine zKd ?_ | refine zKa ?_ _)); exact BK188.out⟩, ⟨by exact uT HB.out⟩⟩
          case rest =>
            clear HC14
            obtain ⟨kq, x50_13, rfl, HA, HJ13, BK186, BK188, HB⟩ := hcut
            rcases kq with _ | kj13
            · exact absurd HA.out (by simp [filigreeref12_Right.j2])
            have H := HA.out
            clear HA
            simp only [filigreeref12_Right.j2] at H
            by_cases c33 : x50_13 = true
            · subst c33
              replace H : (some 5) = some r := by rw [if_pos rfl] at H; exact H
              obtain rfl := zOi H
              go_wp2
              go_ret
              exact ⟨by first | rfl | (simp [errW_none, errW_some] <;> rfl) | (simp [*, errW_none, errW_some] <;> rfl), by exact uT HB.out⟩
            · replace c33 := Bool.eq_false_iff.mpr c33
              subst c33
              replace H : (if ((rd_T39 l0_1 x3_2).f2) < 0 then (some 10) else (if ((rd_T39 l0_1 x3_2).f2) ≥ 2147483648 then (some 8) else (filigreeref12_Right.l0 kj13 (wrap64 (x3_2 + 1)) a0_0 l0_1))) = some r := by rw [if_neg (show ¬ (false = true) by decide)] at H; exact H
              by_cases c34 : ((rd_T39 l0_1 x3_2).f2) < 0
              · rw [if_pos c34] at H
                have c34b0 : decide (((rd_T39 l0_1 x3_2).f2) < 0) = true := decide_eq_true c34
                clear c34
                obtain rfl := zOi H
                have hnb35 := NB188_186.out
                have hnc35 := NB186_188.out
                have hcz36_0 : wc.cell? ⟨gb188, 0, none⟩ = some (.int .i64 ((rd_T39 l0_1 x3_2).f0)) := (zKc BK188.out 0).trans rfl
                have hcz36_1 : wc.cell? ⟨gb188, 1, none⟩ = some (.int .i64 ((rd_T39 l0_1 x3_2).f1)) := (zKc BK188.out 1).trans rfl
                have hcz36_2 : wc.cell? ⟨gb188, 2, none⟩ = some (.int .i64 ((rd_T39 l0_1 x3_2).f2)) := (zKc BK188.out 2).trans rfl
                have hfz36_0 := zKf BK188.out 0
                have hfz36_1 := zKf BK188.out 1
                have hfz36_2 := zKf BK188.out 2
                go_wp2
                go_ret
                exact ⟨by first | rfl | (simp [errW_none, errW_some] <;> rfl) | (simp [*, errW_none, errW_some] <;> rfl), by exact uT HB.out⟩
              · rw [if_neg c34] at H
                have c34b0 : decide (((rd_T39 l0_1 x3_2).f2) < 0) = false := decide_eq_false c34
                clear c34
                by_cases c37 : ((rd_T39 l0_1 x3_2).f2) ≥ 2147483648
                · rw [if_pos c37] at H
                  have c37b0 : decide (2147483648 ≤ ((rd_T39 l0_1 x3_2).f2)) = true := decide_eq_true c37
                  clear c37
                  obtain rfl := zOi H
                  have hnb38 := NB188_186.out
                  have hnc38 := NB186_188.out
                  have hcz39_0 : wc.cell? ⟨gb188, 0, none⟩ = some (.int .i64 ((rd_T39 l0_1 x3_2).f0)) := (zKc BK188.out 0).trans rfl
                  have hcz39_1 : wc.cell? ⟨gb188, 1, none⟩ = some (.int .i64 ((rd_T39 l0_1 x3_2).f1)) := (zKc BK188.out 1).trans rfl
                  have hcz39_2 : wc.cell? ⟨gb188, 2, none⟩ = some (.int .i64 ((rd_T39 l0_1 x3_2).f2)) := (zKc BK188.out 2).trans rfl
                  have hfz39_0 := zKf BK188.out 0
                  have hfz39_1 := zKf BK188.out 1
                  have hfz39_2 := zKf BK188.out 2
                  go_wp2
                  go_ret
                  exact ⟨by first | rfl | (simp [errW_none, errW_some] <;> rfl) | (simp [*, errW_none, errW_some] <;> rfl), by exact uT HB.out⟩
                · rw [if_neg c37] at H
                  have c37b0 : decide (2147483648 ≤ ((rd_T39 l0_1 x3_2).f2)) = false := decide_eq_false c37
                  clear c37
                  have H' := zMk H
                  clear H
                  have hnb40 := NB188_186.out
                  have hnc40 := NB186_188.out
                  have hcz41_0 : wc.cell? ⟨gb188, 0, none⟩ = some (.int .i64 ((rd_T39 l0_1 x3_2).f0)) := (zKc BK188.out 0).trans rfl
                  have hcz41_1 : wc.cell? ⟨gb188, 1, none⟩ = some (.int .i64 ((rd_T39 l0_1 x3_2).f1)) := (zKc BK188.out 1).trans rfl
                  have hcz41_2 : wc.cell? ⟨gb188, 2, none⟩ = some (.int .i64 ((rd_T39 l0_1 x3_2).f2)) := (zKc BK188.out 2).trans rfl
                  have hfz41_0 := zKf BK188.out 0
                  have hfz41_1 := zKf BK188.out 1
                  have hfz41_2 := zKf BK188.out 2
                  go_wp2
                  go_roundg kj13
                  case measure => have := HJ4.out; have := HK2.out; have := HJ13.out; omega
                  case rel => exact ⟨(wrap64 (x3_2 + 1)), (by first | rfl | (simp; done) | (simp [*]; done)), H', ⟨by have := HJ4.out; have := HK2.out; have := HJ13.out; omega⟩, ⟨by (with_reducible repeat (first | refine zKn ?_ _ | refine zKd ?_ | refine zKa ?_ _)); exact BK186.out⟩, ⟨by exact uT HB.out⟩⟩
        · rw [if_neg c12] at H
          have c12b0 : decide (x3_2 < (l0_1.length : Int)) = false := decide_eq_false c12
          clear c12
          obtain rfl := zOi H
          have hcz42_0 : wr.cell? ⟨gb186, 0, none⟩ = some (.int .i64 a0_0) := (zKc BK186.out 0).trans rfl
          have hcz42_1 : wr.cell? ⟨gb186, 1, none⟩ = some (.slice A0_1 l0_1.length c0_1) := (zKc BK186.out 1).trans rfl
          have hfz42_0 := zKf BK186.out 0
          have hfz42_1 := zKf BK186.out 1
          go_wp2
          go_ret
          exact ⟨by first | rfl | (simp [errW_none, errW_some] <;> rfl) | (simp [*, errW_none, errW_some] <;> rfl), by exact uT HB.out⟩


def slices_Equal_int64_int64.l0 : Nat → List Int → List Int → Int → Int → Option (Bool)
  | 0, _, _, _, _ => none
  | k + 1, x0, x1, x12, x13 => if x13 < x12 then (if 0 ≤ x13 then (if x13 < (x0.length : Int) then (if x13 < (x1.length : Int) then (if (rd x0 x13) = (rd x1 x13) then (slices_Equal_int64_int64.l0 k x0 x1 x12 (wrap64 (x13 + 1))) else (some false)) else (none)) else (none)) else (none)) else (some true)
def slices_Equal_int64_int64.f (k : Nat) (l0 : List Int) (l1 : List Int) : Option (Bool) := if (l0.length : Int) = (l1.length : Int) then (slices_Equal_int64_int64.l0 k l0 l1 (l0.length : Int) 0) else (some false)
theorem slices_Equal_int64_int64.calls (k : Nat) (A0 : Option Addr) (c0 : Nat) (l0 : List Int) (A1 : Option Addr) (c1 : Nat) (l1 : List Int) (r : Bool) (w : World) (hr0 : Kd.C (Kd.int .i64) w A0 l0.length l0) (hc0 : l0.length ≤ c0) (hr1 : Kd.C (Kd.int .i64) w A1 l1.length l1) (hc1 : l1.length ≤ c1) (h : slices_Equal_int64_int64.f k l0 l1 = some r) :
    Calls Try.prog 24 #[.slice A0 l0.length c0, .slice A1 l1.length c1] w fun e w' => e = .returned (.bool r) ∧ Drawn0 w w' := by
  have HR0 := zMk hr0
  have HC0 := zMk hc0
  clear hr0 hc0
  have HR1 := zMk hr1
  have HC1 := zMk hc1
  clear hr1 hc1
  have H : (if (l0.length : Int) = (l1.length : Int) then (slices_Equal_int64_int64.l0 k l0 l1 (l0.length : Int) 0) else (some false)) = some r := h
  clear h
  by_cases c3 : (l0.length : Int) = (l1.length : Int)
  · rw [if_pos c3] at H
    have c3b0 : ((l0.length : Int) == (l1.length : Int)) = true := beq_iff_eq.mpr c3
    have c3b1 : ((l0.length : Int) != (l1.length : Int)) = false := bne_eq_false_iff_eq.mpr c3
    have c3b2 : (l0.length == l1.length) = true := by first | simpa using c3 | (simp at c3 ⊢; omega)
    clear c3
    have H' := zMk H
    clear H
    go_enter Try.func24, Try.ntmps24
    go_wp2
    repeat (go_quiet (fail); try go_wp2)
    go_loopg [13] k (fun kq v13 w' => ∃ (x13_1 : Int), v13 = .int .i64 x13_1 ∧ Aside0 (slices_Equal_int64_int64.l0 kq l0 l1 (l0.length : Int) x13_1 = some r) ∧ Aside0 (kq ≤ k) ∧ Drawn0 w w')
    case atStart => exact ⟨(0), (by first | rfl | (simp; done) | (simp [*]; done)), H', ⟨Nat.le_refl _⟩, by repeat (first | exact Drawn0.refl _ | apply Drawn0.step)⟩
    clear H'
    obtain ⟨x13_1, rfl, HA, HK1, ⟨m1, rfl⟩⟩ := hrel
    rcases gk with _ | k1
    · exact absurd HA.out (by simp [slices_Equal_int64_int64.l0])
    have H := HA.out
    clear HA
    simp only [slices_Equal_int64_int64.l0] at H
    by_cases c4 : x13_1 < (l0.length : Int)
    · rw [if_pos c4] at H
      have c4b0 : decide (x13_1 < (l0.length : Int)) = true := decide_eq_true c4
      clear c4
      by_cases c5 : 0 ≤ x13_1
      rotate_left
      · rw [if_neg c5] at H; exact absurd H (by simp)
      rw [if_pos c5] at H
      have c5b0 : decide (0 ≤ x13_1) = true := decide_eq_true c5
      clear c5
      by_cases c6 : x13_1 < (l0.length : Int)
      rotate_left
      · rw [if_neg c6] at H; exact absurd H (by simp)
      rw [if_pos c6] at H
      have c6b0 : decide (x13_1 < (l0.length : Int)) = true := decide_eq_true c6
      clear c6
      by_cases c7 : x13_1 < (l1.length : Int)
      rotate_left
      · rw [if_neg c7] at H; exact absurd H (by simp)
      rw [if_pos c7] at H
      have c7b0 : decide (x13_1 < (l1.length : Int)) = true := decide_eq_true c7
      clear c7
      by_cases c8 : (rd l0 x13_1) = (rd l1 x13_1)
      · rw [if_pos c8] at H
        have c8b0 : ((rd l0 x13_1) == (rd l1 x13_1)) = true := beq_iff_eq.mpr c8
        have c8b1 : ((rd l0 x13_1) != (rd l1 x13_1)) = false := bne_eq_false_iff_eq.mpr c8
        clear c8
        have H' := zMk H
        clear H
        have p106 : 0 ≤ (x13_1 : Int) := of_decide_eq_true (by assumption)
        have q106 : x13_1 < (l0.length : Int) := of_decide_eq_true (by assumption)
        obtain ⟨ad106, e106, hx106_0⟩ := zAi HR0.out x13_1 p106 q106
        cases e106
        replace p106 := eq_true p106
        replace q106 := eq_true q106
        have p107 : 0 ≤ (x13_1 : Int) := of_decide_eq_true (by assumption)
        have q107 : x13_1 < (l1.length : Int) := of_decide_eq_true (by assumption)
        obtain ⟨ad107, e107, hx107_0⟩ := zAi HR1.out x13_1 p107 q107
        cases e107
        replace p107 := eq_true p107
        replace q107 := eq_true q107
        go_wp2
        repeat (go_quiet (fail); try go_wp2)
        go_roundg k1
        case measure => have := HK1.out; omega
        case rel => exact ⟨(wrap64 (x13_1 + 1)), (by first | rfl | (simp; done) | (simp [*]; done)), H', ⟨by have := HK1.out; omega⟩, by repeat (first | exact Drawn0.refl _ | apply Drawn0.step)⟩
      · rw [if_neg c8] at H
        have c8b0 : ((rd l0 x13_1) == (rd l1 x13_1)) = false := beq_eq_false_iff_ne.mpr c8
        have c8b1 : ((rd l0 x13_1) != (rd l1 x13_1)) = true := bne_iff_ne.mpr c8
        obtain rfl := zOi H
        have p106 : 0 ≤ (x13_1 : Int) := of_decide_eq_true (by assumption)
        have q106 : x13_1 < (l0.length : Int) := of_decide_eq_true (by assumption)
        obtain ⟨ad106, e106, hx106_0⟩ := zAi HR0.out x13_1 p106 q106
        cases e106
        replace p106 := eq_true p106
        replace q106 := eq_true q106
        have p107 : 0 ≤ (x13_1 : Int) := of_decide_eq_true (by assumption)
        have q107 : x13_1 < (l1.length : Int) := of_decide_eq_true (by assumption)
        obtain ⟨ad107, e107, hx107_0⟩ := zAi HR1.out x13_1 p107 q107
        cases e107
        replace p107 := eq_true p107
        replace q107 := eq_true q107
        go_wp2
        repeat (go_quiet (fail); try go_wp2)
        go_ret
        exact ⟨by first | rfl | (simp; done) | (simp [*]; done), by repeat (first | exact Drawn0.refl _ | apply Drawn0.step)⟩
    · rw [if_neg c4] at H
      have c4b0 : decide (x13_1 < (l0.length : Int)) = false := decide_eq_false c4
      clear c4
      obtain rfl := zOi H
      go_wp2
      repeat (go_quiet (fail); try go_wp2)
      go_ret
      exact ⟨by first | rfl | (simp; done) | (simp [*]; done), by repeat (first | exact Drawn0.refl _ | apply Drawn0.step)⟩
  · rw [if_neg c3] at H
    have c3b0 : ((l0.length : Int) == (l1.length : Int)) = false := beq_eq_false_iff_ne.mpr c3
    have c3b1 : ((l0.length : Int) != (l1.length : Int)) = true := bne_iff_ne.mpr c3
    have c3b2 : (l0.length == l1.length) = false := by first | simpa using c3 | (simp at c3 ⊢; omega)
    obtain rfl := zOi H
    go_enter Try.func24, Try.ntmps24
    go_wp2
    repeat (go_quiet (fail); try go_wp2)
    go_ret
    exact ⟨by first | rfl | (simp; done) | (simp [*]; done), by repeat (first | exact Drawn0.refl _ | apply Drawn0.step)⟩


def paths_other.j0 : Nat → Int → Int → Bool → Int → List (S39) → Option (Int × Bool)
  | 0, _, _, _, _, _ => none
  | k + 1, x1, x2, x17, x109000, x109001 => if x17 = true then (some (0, false)) else (if 0 ≤ x1 then (if x1 < (x109001.length : Int) then (if x2 = ((rd_T39 x109001 x1).f1) then (some ((rd_T39 x109001 x1).f0, true)) else (if x2 = ((rd_T39 x109001 x1).f0) then (some ((rd_T39 x109001 x1).f1, true)) else (some (0, false)))) else (none)) else (none))
def paths_other.f (k : Nat) (a0_0 : Int) (l0_1 : List (S39)) (a1 : Int) (a2 : Int) : Option (Int × Bool) := if a1 < 0 then (paths_other.j0 k a1 a2 true a0_0 l0_1) else (paths_other.j0 k a1 a2 (decide (a1 ≥ (l0_1.length : Int))) a0_0 l0_1)
theorem paths_other.calls (k : Nat) (a0_0 : Int) (A0_1 : Option Addr) (c0_1 : Nat) (l0_1 : List (S39)) (a1 : Int) (a2 : Int) (r1 : Int) (r2 : Bool) (w : World) (hr0_1 : Kd.C k39 w A0_1 l0_1.length l0_1) (hc0_1 : l0_1.length ≤ c0_1) (h : paths_other.f k a0_0 l0_1 a1 a2 = some (r1, r2)) :
    Calls Try.prog 25 #[.agg #[.int .i64 a0_0, .slice A0_1 l0_1.length c0_1], .int .i64 a1, .int .i64 a2] w fun e w' => e = .returned (.tuple #[.int .i64 r1, .bool r2]) ∧ Below w.heap.size w w' := by
  have hu24 := Try.underlying24
  have hu39 := Try.underlying39
  have HR0_1 := zMk hr0_1
  have HC0_1 := zMk hc0_1
  clear hr0_1 hc0_1
  have HB := zMk (Below.refl w.heap.size w)
  have H : (if a1 < 0 then (paths_other.j0 k a1 a2 true a0_0 l0_1) else (paths_other.j0 k a1 a2 (decide (a1 ≥ (l0_1.length : Int))) a0_0 l0_1)) = some (r1, r2) := h
  clear h
  have HC4 := zMk H
  clear H
  go_enter Try.func25, Try.ntmps25
  go_upto_region 1 with (first | ((with_reducible refine gate_dst (N := 3) rfl ?_); (try (refine gate_guard (by rfl) ?_; dsimp only)); refine box_event ?hg (N := 3) ?hd (cs := #[.int .i64 a0_0, .slice A0_1 l0_1.length c0_1]) (t := 24) ?hr ?_; (case hd => rfl); (case hg => rfl); (case hr => first | (go_simp; done)|(go_simp; rfl)|(go_simp; rw [show ∀ x : Int, IntKind.u32.wrap (IntKind.u8.wrap x) = x % 256 from fun x => (by show (x % 256) % 4294967296 = x % 256; omega)])); intro gb108 hg w5 hbox hb; have BK108 := zMk (hbox); have GW108 := zMk ((by rw [hg]; exact (zBs (by exact uT HB.out)) : w.heap.size ≤ gb108)); have GE108 := zMk ((by rw [hg]; exact (zBs (by exact uT HB.out)) : w.heap.size ≤ gb108)); have IGE108 := ownGe GE108.out; replace HB := zMk (zBt (by exact uT HB.out) hb); clear hb hbox hg))
  (try simp only [Act.put, zSa, zSb, zSc])
  go_cut [17] (fun v17 wc => ∃ (kq : Nat) (x17_3 : Bool), v17 = .bool x17_3 ∧ Aside0 (paths_other.j0 kq a1 a2 x17_3 a0_0 l0_1 = some (r1, r2)) ∧ Aside0 (kq ≤ k) ∧ Aside0 (wc.heap[gb108]? = some (.cells #[.int .i64 a0_0, (.slice A0_1 l0_1.length c0_1)] 24 (0, 0))) ∧ Aside0 (Below w.heap.size w wc))
  case first =>
    have H := HC4.out
    clear HC4
    by_cases c6 : a1 < 0
    · rw [if_pos c6] at H
      have c6b0 : decide (a1 < 0) = true := decide_eq_true c6
      clear c6
      (first | rw [c6b0] | (simp only [i64_w, i32_w]; rw [c6b0]) | rw [c6b1] | skip)
      have H' := zMk H
      clear H
      go_wp2
      go_meet
      case rel => exact ⟨_, (true), (by first | rfl | (simp; done) | (simp [*]; done)), H', ⟨by first | omega | exact Nat.le_refl _⟩, ⟨by (with_reducible repeat (first | refine zKn ?_ _ | refine zKd ?_ | refine zKa ?_ _)); exact BK108.out⟩, ⟨by exact uT HB.out⟩⟩
    · rw [if_neg c6] at H
      have c6b0 : decide (a1 < 0) = false := decide_eq_false c6
      clear c6
      (first | rw [c6b0] | (simp only [i64_w, i32_w]; rw [c6b0]) | rw [c6b1] | skip)
      have H' := zMk H
      clear H
      have hcz7_0 : w5.cell? ⟨gb108, 0, none⟩ = some (.int .i64 a0_0) := (zKc BK108.out 0).trans rfl
      have hcz7_1 : w5.cell? ⟨gb108, 1, none⟩ = some (.slice A0_1 l0_1.length c0_1) := (zKc BK108.out 1).trans rfl
      have hfz7_0 := zKf BK108.out 0
      have hfz7_1 := zKf BK108.out 1
      go_wp2
      go_meet
      case rel => exact ⟨_, (decide (a1 ≥ (l0_1.length : Int))), (by first | rfl | (simp; done) | (simp [*]; done)), H', ⟨by first | omega | exact Nat.le_refl _⟩, ⟨by (with_reducible repeat (first | refine zKn ?_ _ | refine zKd ?_ | refine zKa ?_ _)); exact BK108.out⟩, ⟨by exact uT HB.out⟩⟩
  case rest =>
    clear HC4
    obtain ⟨kq, x17_3, rfl, HA, HJ3, BK108, HB⟩ := hcut
    rcases kq with _ | kj3
    · exact absurd HA.out (by simp [paths_other.j0])
    have H := HA.out
    clear HA
    simp only [paths_other.j0] at H
    by_cases c8 : x17_3 = true
    · subst c8
      replace H : (some (0, false)) = some (r1, r2) := by rw [if_pos rfl] at H; exact H
      simp only [Option.some.injEq, Prod.mk.injEq] at H
      obtain ⟨rfl, rfl⟩ := H
      go_wp2
      go_ret2
      exact ⟨by first | rfl | (simp [errW_none, errW_some] <;> rfl) | (simp [*, errW_none, errW_some] <;> rfl), by exact uT HB.out⟩
    · replace c8 := Bool.eq_false_iff.mpr c8
      subst c8
      replace H : (if 0 ≤ a1 then (if a1 < (l0_1.length : Int) then (if a2 = ((rd_T39 l0_1 a1).f1) then (some ((rd_T39 l0_1 a1).f0, true)) else (if a2 = ((rd_T39 l0_1 a1).f0) then (some ((rd_T39 l0_1 a1).f1, true)) else (some (0, false)))) else (none)) else (none)) = some (r1, r2) := by rw [if_neg (show ¬ (false = true) by decide)] at H; exact H
      by_cases c9 : 0 ≤ a1
      · rw [if_pos c9] at H
        have c9b0 : decide (0 ≤ a1) = true := decide_eq_true c9
        clear c9
        by_cases c10 : a1 < (l0_1.length : Int)
        rotate_left
        · rw [if_neg c10] at H; exact absurd H (by simp)
        rw [if_pos c10] at H
        have c10b0 : decide (a1 < (l0_1.length : Int)) = true := decide_eq_true c10
        clear c10
        by_cases c11 : a2 = ((rd_T39 l0_1 a1).f1)
        · rw [if_pos c11] at H
          have c11b0 : (a2 == ((rd_T39 l0_1 a1).f1)) = true := beq_iff_eq.mpr c11
          have c11b1 : (a2 != ((rd_T39 l0_1 a1).f1)) = false := bne_eq_false_iff_eq.mpr c11
          clear c11
          simp only [Option.some.injEq, Prod.mk.injEq] at H
          obtain ⟨rfl, rfl⟩ := H
          have hcz12_0 : wc.cell? ⟨gb108, 0, none⟩ = some (.int .i64 a0_0) := (zKc BK108.out 0).trans rfl
          have hcz12_1 : wc.cell? ⟨gb108, 1, none⟩ = some (.slice A0_1 l0_1.length c0_1) := (zKc BK108.out 1).trans rfl
          have hfz12_0 := zKf BK108.out 0
          have hfz12_1 := zKf BK108.out 1
          have p109 : 0 ≤ (a1 : Int) := of_decide_eq_true (by assumption)
          have q109 : a1 < (l0_1.length : Int) := of_decide_eq_true (by assumption)
          obtain ⟨ad109, e109, hx109_0, hx109_1, hx109_2⟩ := at_T39 HR0_1.out a1 p109 q109
          cases e109
          replace hx109_0 := (HB.out.cell (World.block_lt_of_cell? w _ hx109_0)).trans hx109_0
          replace hx109_1 := (HB.out.cell (World.block_lt_of_cell? w _ hx109_1)).trans hx109_1
          replace hx109_2 := (HB.out.cell (World.block_lt_of_cell? w _ hx109_2)).trans hx109_2
          replace p109 := eq_true p109
          replace q109 := eq_true q109
          go_wp2_with (first | ((with_reducible refine gate_dst (N := 8) rfl ?_); (try (refine gate_guard (by rfl) ?_; dsimp only)); refine box_event ?hg (N := 8) ?hd (cs := #[.int .i64 0, .int .i64 0, .int .i64 0]) (t := 39) ?hr ?_; (case hd => rfl); (case hg => rfl); (case hr => first | (go_simp; done)|(go_simp; rfl)|(go_simp; rw [show ∀ x : Int, IntKind.u32.wrap (IntKind.u8.wrap x) = x % 256 from fun x => (by show (x % 256) % 4294967296 = x % 256; omega)])); intro gb110 hg w13 hbox hb; have BK110 := zMk (hbox); have GW110 := zMk ((by rw [hg]; exact (zBs (by exact uT HB.out)) : w.heap.size ≤ gb110)); have GE110 := zMk ((by rw [hg]; exact (zBs (by exact uT HB.out)) : w.heap.size ≤ gb110)); have IGE110 := ownGe GE110.out; replace HB := zMk (zBt (by exact uT HB.out) hb); have NB108_110 := zMk ((by rw [hg]; exact Nat.ne_of_lt (blk_lt (g := gb108) (o := .cells #[.int .i64 a0_0, .slice (some ad109) l0_1.length c0_1] 24 (0, 0)) (by (with_reducible repeat (first |  refine zKn ?_ _|  refine zKd ?_|  refine zKa ?_ _)); exact BK108.out)) : gb108 ≠ gb110)); have NB110_108 := zMk ((by rw [hg]; exact Nat.ne_of_gt (blk_lt (g := gb108) (o := .cells #[.int .i64 a0_0, .slice (some ad109) l0_1.length c0_1] 24 (0, 0)) (by (with_reducible repeat (first |  refine zKn ?_ _|  refine zKd ?_|  refine zKa ?_ _)); exact BK108.out)) : gb110 ≠ gb108)); replace BK108 := zMk (zKb (g := gb108) (o := .cells #[.int .i64 a0_0, .slice (some ad109) l0_1.length c0_1] 24 (0, 0)) (by (with_reducible repeat (first |  refine zKn ?_ _|  refine zKd ?_|  refine zKa ?_ _)); exact BK108.out) hb); clear hb hbox hg; have hnb14 := NB110_108.out; have hnc14 := NB108_110.out; have hcz15_0 : w13.cell? ⟨gb110, 0, none⟩ = some (.int .i64 0) := (zKc BK110.out 0).trans rfl; have hcz15_1 : w13.cell? ⟨gb110, 1, none⟩ = some (.int .i64 0) := (zKc BK110.out 1).trans rfl; have hcz15_2 : w13.cell? ⟨gb110, 2, none⟩ = some (.int .i64 0) := (zKc BK110.out 2).trans rfl; have hfz15_0 := zKf BK110.out 0; have hfz15_1 := zKf BK110.out 1; have hfz15_2 := zKf BK110.out 2))
          go_ret2
          exact ⟨by first | rfl | (simp [errW_none, errW_some] <;> rfl) | (simp [*, errW_none, errW_some] <;> rfl), by exact uT HB.out⟩
        · rw [if_neg c11] at H
          have c11b0 : (a2 == ((rd_T39 l0_1 a1).f1)) = false := beq_eq_false_iff_ne.mpr c11
          have c11b1 : (a2 != ((rd_T39 l0_1 a1).f1)) = true := bne_iff_ne.mpr c11
          by_cases c16 : a2 = ((rd_T39 l0_1 a1).f0)
          · rw [if_pos c16] at H
            have c16b0 : (a2 == ((rd_T39 l0_1 a1).f0)) = true := beq_iff_eq.mpr c16
            have c16b1 : (a2 != ((rd_T39 l0_1 a1).f0)) = false := bne_eq_false_iff_eq.mpr c16
            clear c16
            simp only [Option.some.injEq, Prod.mk.injEq] at H
            obtain ⟨rfl, rfl⟩ := H
            have hcz17_0 : wc.cell? ⟨gb108, 0, none⟩ = some (.int .i64 a0_0) := (zKc BK108.out 0).trans rfl
            have hcz17_1 : wc.cell? ⟨gb108, 1, none⟩ = some (.slice A0_1 l0_1.length c0_1) := (zKc BK108.out 1).trans rfl
            have hfz17_0 := zKf BK108.out 0
            have hfz17_1 := zKf BK108.out 1
            have p109 : 0 ≤ (a1 : Int) := of_decide_eq_true (by assumption)
            have q109 : a1 < (l0_1.length : Int) := of_decide_eq_true (by assumption)
            obtain ⟨ad109, e109, hx109_0, hx109_1, hx109_2⟩ := at_T39 HR0_1.out a1 p109 q109
            cases e109
            replace hx109_0 := (HB.out.cell (World.block_lt_of_cell? w _ hx109_0)).trans hx109_0
            replace hx109_1 := (HB.out.cell (World.block_lt_of_cell? w _ hx109_1)).trans hx109_1
            replace hx109_2 := (HB.out.cell (World.block_lt_of_cell? w _ hx109_2)).trans hx109_2
            replace p109 := eq_true p109
            replace q109 := eq_true q109
            go_wp2_with (first | ((with_reducible refine gate_dst (N := 8) rfl ?_); (try (refine gate_guard (by rfl) ?_; dsimp only)); refine box_event ?hg (N := 8) ?hd (cs := #[.int .i64 0, .int .i64 0, .int .i64 0]) (t := 39) ?hr ?_; (case hd => rfl); (case hg => rfl); (case hr => first | (go_simp; done)|(go_simp; rfl)|(go_simp; rw [show ∀ x : Int, IntKind.u32.wrap (IntKind.u8.wrap x) = x % 256 from fun x => (by show (x % 256) % 4294967296 = x % 256; omega)])); intro gb110 hg w18 hbox hb; have BK110 := zMk (hbox); have GW110 := zMk ((by rw [hg]; exact (zBs (by exact uT HB.out)) : w.heap.size ≤ gb110)); have GE110 := zMk ((by rw [hg]; exact (zBs (by exact uT HB.out)) : w.heap.size ≤ gb110)); have IGE110 := ownGe GE110.out; replace HB := zMk (zBt (by exact uT HB.out) hb); have NB108_110 := zMk ((by rw [hg]; exact Nat.ne_of_lt (blk_lt (g := gb108) (o := .cells #[.int .i64 a0_0, .slice (some ad109) l0_1.length c0_1] 24 (0, 0)) (by (with_reducible repeat (first |  refine zKn ?_ _|  refine zKd ?_|  refine zKa ?_ _)); exact BK108.out)) : gb108 ≠ gb110)); have NB110_108 := zMk ((by rw [hg]; exact Nat.ne_of_gt (blk_lt (g := gb108) (o := .cells #[.int .i64 a0_0, .slice (some ad109) l0_1.length c0_1] 24 (0, 0)) (by (with_reducible repeat (first |  refine zKn ?_ _|  refine zKd ?_|  refine zKa ?_ _)); exact BK108.out)) : gb110 ≠ gb108)); replace BK108 := zMk (zKb (g := gb108) (o := .cells #[.int .i64 a0_0, .slice (some ad109) l0_1.length c0_1] 24 (0, 0)) (by (with_reducible repeat (first |  refine zKn ?_ _|  refine zKd ?_|  refine zKa ?_ _)); exact BK108.out) hb); clear hb hbox hg; have hnb19 := NB110_108.out; have hnc19 := NB108_110.out; have hcz20_0 : w18.cell? ⟨gb110, 0, none⟩ = some (.int .i64 0) := (zKc BK110.out 0).trans rfl; have hcz20_1 : w18.cell? ⟨gb110, 1, none⟩ = some (.int .i64 0) := (zKc BK110.out 1).trans rfl; have hcz20_2 : w18.cell? ⟨gb110, 2, none⟩ = some (.int .i64 0) := (zKc BK110.out 2).trans rfl; have hfz20_0 := zKf BK110.out 0; have hfz20_1 := zKf BK110.out 1; have hfz20_2 := zKf BK110.out 2))
            go_ret2
            exact ⟨by first | rfl | (simp [errW_none, errW_some] <;> rfl) | (simp [*, errW_none, errW_some] <;> rfl), by exact uT HB.out⟩
          · rw [if_neg c16] at H
            have c16b0 : (a2 == ((rd_T39 l0_1 a1).f0)) = false := beq_eq_false_iff_ne.mpr c16
            have c16b1 : (a2 != ((rd_T39 l0_1 a1).f0)) = true := bne_iff_ne.mpr c16
            simp only [Option.some.injEq, Prod.mk.injEq] at H
            obtain ⟨rfl, rfl⟩ := H
            have hcz21_0 : wc.cell? ⟨gb108, 0, none⟩ = some (.int .i64 a0_0) := (zKc BK108.out 0).trans rfl
            have hcz21_1 : wc.cell? ⟨gb108, 1, none⟩ = some (.slice A0_1 l0_1.length c0_1) := (zKc BK108.out 1).trans rfl
            have hfz21_0 := zKf BK108.out 0
            have hfz21_1 := zKf BK108.out 1
            have p109 : 0 ≤ (a1 : Int) := of_decide_eq_true (by assumption)
            have q109 : a1 < (l0_1.length : Int) := of_decide_eq_true (by assumption)
            obtain ⟨ad109, e109, hx109_0, hx109_1, hx109_2⟩ := at_T39 HR0_1.out a1 p109 q109
            cases e109
            replace hx109_0 := (HB.out.cell (World.block_lt_of_cell? w _ hx109_0)).trans hx109_0
            replace hx109_1 := (HB.out.cell (World.block_lt_of_cell? w _ hx109_1)).trans hx109_1
            replace hx109_2 := (HB.out.cell (World.block_lt_of_cell? w _ hx109_2)).trans hx109_2
            replace p109 := eq_true p109
            replace q109 := eq_true q109
            go_wp2_with (first | ((with_reducible refine gate_dst (N := 8) rfl ?_); (try (refine gate_guard (by rfl) ?_; dsimp only)); refine box_event ?hg (N := 8) ?hd (cs := #[.int .i64 0, .int .i64 0, .int .i64 0]) (t := 39) ?hr ?_; (case hd => rfl); (case hg => rfl); (case hr => first | (go_simp; done)|(go_simp; rfl)|(go_simp; rw [show ∀ x : Int, IntKind.u32.wrap (IntKind.u8.wrap x) = x % 256 from fun x => (by show (x % 256) % 4294967296 = x % 256; omega)])); intro gb110 hg w22 hbox hb; have BK110 := zMk (hbox); have GW110 := zMk ((by rw [hg]; exact (zBs (by exact uT HB.out)) : w.heap.size ≤ gb110)); have GE110 := zMk ((by rw [hg]; exact (zBs (by exact uT HB.out)) : w.heap.size ≤ gb110)); have IGE110 := ownGe GE110.out; replace HB := zMk (zBt (by exact uT HB.out) hb); have NB108_110 := zMk ((by rw [hg]; exact Nat.ne_of_lt (blk_lt (g := gb108) (o := .cells #[.int .i64 a0_0, .slice (some ad109) l0_1.length c0_1] 24 (0, 0)) (by (with_reducible repeat (first |  refine zKn ?_ _|  refine zKd ?_|  refine zKa ?_ _)); exact BK108.out)) : gb108 ≠ gb110)); have NB110_108 := zMk ((by rw [hg]; exact Nat.ne_of_gt (blk_lt (g := gb108) (o := .cells #[.int .i64 a0_0, .slice (some ad109) l0_1.length c0_1] 24 (0, 0)) (by (with_reducible repeat (first |  refine zKn ?_ _|  refine zKd ?_|  refine zKa ?_ _)); exact BK108.out)) : gb110 ≠ gb108)); replace BK108 := zMk (zKb (g := gb108) (o := .cells #[.int .i64 a0_0, .slice (some ad109) l0_1.length c0_1] 24 (0, 0)) (by (with_reducible repeat (first |  refine zKn ?_ _|  refine zKd ?_|  refine zKa ?_ _)); exact BK108.out) hb); clear hb hbox hg; have hnb23 := NB110_108.out; have hnc23 := NB108_110.out; have hcz24_0 : w22.cell? ⟨gb110, 0, none⟩ = some (.int .i64 0) := (zKc BK110.out 0).trans rfl; have hcz24_1 : w22.cell? ⟨gb110, 1, none⟩ = some (.int .i64 0) := (zKc BK110.out 1).trans rfl; have hcz24_2 : w22.cell? ⟨gb110, 2, none⟩ = some (.int .i64 0) := (zKc BK110.out 2).trans rfl; have hfz24_0 := zKf BK110.out 0; have hfz24_1 := zKf BK110.out 1; have hfz24_2 := zKf BK110.out 2))
            go_ret2
            exact ⟨by first | rfl | (simp [errW_none, errW_some] <;> rfl) | (simp [*, errW_none, errW_some] <;> rfl), by exact uT HB.out⟩
      · rw [if_neg c9] at H
        exact absurd H (by simp)


def slices_Index_int_int.l0 : Nat → List Int → Int → Int → Int → Option (Int)
  | 0, _, _, _, _ => none
  | k + 1, x0, x1, x7, x8 => if x8 < x7 then (if 0 ≤ x8 then (if x8 < (x0.length : Int) then (if x1 = (rd x0 x8) then (some x8) else (slices_Index_int_int.l0 k x0 x1 x7 (wrap64 (x8 + 1)))) else (none)) else (none)) else (some (-1))
def slices_Index_int_int.f (k : Nat) (l0 : List Int) (a1 : Int) : Option (Int) := slices_Index_int_int.l0 k l0 a1 (l0.length : Int) 0
theorem slices_Index_int_int.calls (k : Nat) (A0 : Option Addr) (c0 : Nat) (l0 : List Int) (a1 : Int) (r : Int) (w : World) (hr0 : Kd.C (Kd.int .i64) w A0 l0.length l0) (hc0 : l0.length ≤ c0) (h : slices_Index_int_int.f k l0 a1 = some r) :
    Calls Try.prog 31 #[.slice A0 l0.length c0, .int .i64 a1] w fun e w' => e = .returned (.int .i64 r) ∧ Drawn0 w w' := by
  have HR0 := zMk hr0
  have HC0 := zMk hc0
  clear hr0 hc0
  have H : (slices_Index_int_int.l0 k l0 a1 (l0.length : Int) 0) = some r := h
  clear h
  have H' := zMk H
  clear H
  go_enter Try.func31, Try.ntmps31
  go_wp2
  go_loopg [8] k (fun kq v8 w' => ∃ (x8_1 : Int), v8 = .int .i64 x8_1 ∧ Aside0 (slices_Index_int_int.l0 kq l0 a1 (l0.length : Int) x8_1 = some r) ∧ Aside0 (kq ≤ k) ∧ Drawn0 w w')
  case atStart => exact ⟨(0), (by first | rfl | (simp; done) | (simp [*]; done)), H', ⟨Nat.le_refl _⟩, by repeat (first | exact Drawn0.refl _ | apply Drawn0.step)⟩
  clear H'
  obtain ⟨x8_1, rfl, HA, HK1, ⟨m1, rfl⟩⟩ := hrel
  rcases gk with _ | k1
  · exact absurd HA.out (by simp [slices_Index_int_int.l0])
  have H := HA.out
  clear HA
  simp only [slices_Index_int_int.l0] at H
  by_cases c3 : x8_1 < (l0.length : Int)
  · rw [if_pos c3] at H
    have c3b0 : decide (x8_1 < (l0.length : Int)) = true := decide_eq_true c3
    clear c3
    by_cases c4 : 0 ≤ x8_1
    rotate_left
    · rw [if_neg c4] at H; exact absurd H (by simp)
    rw [if_pos c4] at H
    have c4b0 : decide (0 ≤ x8_1) = true := decide_eq_true c4
    clear c4
    by_cases c5 : x8_1 < (l0.length : Int)
    rotate_left
    · rw [if_neg c5] at H; exact absurd H (by simp)
    rw [if_pos c5] at H
    have c5b0 : decide (x8_1 < (l0.length : Int)) = true := decide_eq_true c5
    clear c5
    by_cases c6 : a1 = (rd l0 x8_1)
    · rw [if_pos c6] at H
      have c6b0 : (a1 == (rd l0 x8_1)) = true := beq_iff_eq.mpr c6
      have c6b1 : (a1 != (rd l0 x8_1)) = false := bne_eq_false_iff_eq.mpr c6
      clear c6
      obtain rfl := zOi H
      have p111 : 0 ≤ (x8_1 : Int) := of_decide_eq_true (by assumption)
      have q111 : x8_1 < (l0.length : Int) := of_decide_eq_true (by assumption)
      obtain ⟨ad111, e111, hx111_0⟩ := zAi HR0.out x8_1 p111 q111
      cases e111
      replace p111 := eq_true p111
      replace q111 := eq_true q111
      go_wp2
      go_ret
      exact ⟨by first | rfl | (simp; done) | (simp [*]; done), by repeat (first | exact Drawn0.refl _ | apply Drawn0.step)⟩
    · rw [if_neg c6] at H
      have c6b0 : (a1 == (rd l0 x8_1)) = false := beq_eq_false_iff_ne.mpr c6
      have c6b1 : (a1 != (rd l0 x8_1)) = true := bne_iff_ne.mpr c6
      have H' := zMk H
      clear H
      have p111 : 0 ≤ (x8_1 : Int) := of_decide_eq_true (by assumption)
      have q111 : x8_1 < (l0.length : Int) := of_decide_eq_true (by assumption)
      obtain ⟨ad111, e111, hx111_0⟩ := zAi HR0.out x8_1 p111 q111
      cases e111
      replace p111 := eq_true p111
      replace q111 := eq_true q111
      go_wp2
      go_roundg k1
      case measure => have := HK1.out; omega
      case rel => exact ⟨(wrap64 (x8_1 + 1)), (by first | rfl | (simp; done) | (simp [*]; done)), H', ⟨by have := HK1.out; omega⟩, by repeat (first | exact Drawn0.refl _ | apply Drawn0.step)⟩
  · rw [if_neg c3] at H
    have c3b0 : decide (x8_1 < (l0.length : Int)) = false := decide_eq_false c3
    clear c3
    obtain rfl := zOi H
    go_wp2
    go_ret
    exact ⟨by first | rfl | (simp; done) | (simp [*]; done), by repeat (first | exact Drawn0.refl _ | apply Drawn0.step)⟩


def slices_Contains_int_int.f (k : Nat) (l0 : List Int) (a1 : Int) : Option (Bool) := (slices_Index_int_int.f k l0 a1).bind fun t112 => (some (decide (t112 ≥ 0)))
theorem slices_Contains_int_int.calls (k : Nat) (A0 : Option Addr) (c0 : Nat) (l0 : List Int) (a1 : Int) (r : Bool) (w : World) (hr0 : Kd.C (Kd.int .i64) w A0 l0.length l0) (hc0 : l0.length ≤ c0) (h : slices_Contains_int_int.f k l0 a1 = some r) :
    Calls Try.prog 26 #[.slice A0 l0.length c0, .int .i64 a1] w fun e w' => e = .returned (.bool r) ∧ Drawn0 w w' := by
  have HR0 := zMk hr0
  have HC0 := zMk hc0
  clear hr0 hc0
  have H : ((slices_Index_int_int.f k l0 a1).bind fun t112 => (some (decide (t112 ≥ 0)))) = some r := h
  clear h
  replace H := bnd H
  obtain ⟨t112, A30, H⟩ := H
  have A3 := zMk A30
  clear A30
  obtain rfl := zOi H
  go_enter Try.func26, Try.ntmps26
  go_wp2_with (first | ((with_reducible refine gate_callee (f := 31) rfl ?_); refine goesL_ (some 7) rfl rfl Try.func31 (by kernel_rfl) rfl #[.slice A0 l0.length c0, .int .i64 a1] rfl (by (try simp only [zMa, zMc, zMn]); first | done | rfl | (simp only [zLd, zLt]; rfl)) ?_; (with_reducible refine (slices_Index_int_int.calls k _ _ l0 a1 t112 _ ?side1 ?side2 A3.out).mono ?_); (case side1 => repeat (first | exact HR0.out | (with_reducible refine zCa ?_ _) | (with_reducible refine zCn ?_ _) | (with_reducible refine zCd ?_))); (case side2 => exact HC0.out); rintro e w' ⟨rfl, ⟨nd, rfl⟩⟩; refine ⟨_, rfl, ?_⟩))
  go_ret
  exact ⟨by first | rfl | (simp; done) | (simp [*]; done), by repeat (first | exact Drawn0.refl _ | apply Drawn0.step)⟩

end Go.Proofs.Ytnigaojboililaa.A
