/- Lemmas for the statement: the walks of the functions that it reaches, and plain laws. -/
import Derived.Test.YtnigaojboililaaG4
import Derived.Test.YtnigaojboililaaG5
import Derived.Test.YtnigaojboililaaG3
import Derived.Test.YtnigaojboililaaG1
set_option linter.unusedVariables false
set_option linter.unusedSimpArgs false
set_option maxHeartbeats 8000000
set_option maxRecDepth 100000
namespace Go.Proofs.Ytnigaojboililaa.A
open Go Go.RowKit Go.Proofs.YtnigaojboililaaW.PrintWords Go.Proofs.YtnigaojboililaaW.PrintLast Go.Proofs.YtnigaojboililaaW.PrintMore
attribute [local go_sem] max2_int min2_int max_two min_two max_three min_three max_four min_four
open Go.Proofs.YtnigaojboililaaW.PrintWords.Kd renaming R_alloc → zRa, R_drewN → zRn, R_drew → zRd, C_alloc → zCa, C_drewN → zCn, C_drew → zCd, R_mono → zRm, at_int → zAi, R_elder' → zRe, R_lower → zRl, R_new' → zRw, R_lt → zRt, R_below → zRb, R_base → zRz, R_reads' → zRr, R_slice → zRs
open Go.Proofs.YtnigaojboililaaW.PrintWords renaming pw_below_drewN → zBn, below_alloc → zBa, below_drew1 → zBd, below_size → zBs, below_step → zBt, blk_drewN → zKn, blk_drew → zKd, blk_alloc → zKa, blk_below → zKb, blk_cell → zKc, blk_frozen → zKf
open List renaming setIfInBounds_toArray → zSa, set_cons_zero → zSb, set_cons_succ → zSc, length_drop → zLd, length_take → zLt, map_toArray → zMa, map_cons → zMc, map_nil → zMn, length_cons → zLc
open Go.Proofs.YtnigaojboililaaW.PrintWords.Aside0 renaming mk → zMk
open Option renaming bind_eq_some_iff → zBi, bind_some → zOb
open Option.some renaming inj → zOi
open Int renaming toNat_natCast → zTn
def parI (E : List S39) (via : List Int) (x : Int) : Int := oth (rd_T39 E (rd via x)) x
def itr (E : List S39) (via : List Int) : Nat → Int → Int
  | 0, x => x
  | s + 1, x => itr E via s (parI E via x)
def okV (v : Int) (E : List S39) (d via : List Int) (x : Int) : Prop :=
  x = v ∨ (rd d x < 0 ∧ rd via x = -1) ∨ (0 ≤ rd d x ∧ 0 ≤ rd via x ∧ rd via x < E.length ∧ inc (rd_T39 E (rd via x)) x ∧ 0 ≤ rd d (parI E via x) ∧ rd d (parI E via x) = rd d x - (rd_T39 E (rd via x)).f2)
def reachN (v : Int) (E : List S39) (via : List Int) (t : Nat) (x : Int) : Prop := ∃ s, s ≤ t ∧ itr E via s x = v
section
variable {v n : Int} {E : List S39} {d via : List Int}
theorem other_in {e : S39} {x : Int} (hi : inc e x) : filigreeref12_other.f e.f0 e.f1 e.f2 x = some (oth e x) := by
  unfold filigreeref12_other.f oth
  unfold inc at hi
  by_cases h : e.f1 = x
  · rw [if_pos h]; congr 1; omega
  · rw [if_neg h, if_pos (by omega)]; congr 1; omega
theorem other_out {e : S39} {x : Int} (hi : ¬ inc e x) : filigreeref12_other.f e.f0 e.f1 e.f2 x = some (-1) := by
  unfold filigreeref12_other.f
  unfold inc at hi
  rw [if_neg (by omega), if_neg (by omega)]
theorem par_std (hE : okE n E) (hok : ∀ x, 0 ≤ x → x < n → okV v E d via x) {x : Int} (hx : Std n d x) (hv : x ≠ v) : Std n d (parI E via x) ∧ 0 ≤ rd via x ∧ rd via x < E.length ∧ inc (rd_T39 E (rd via x)) x := by
  rcases hok x hx.1 hx.2.1 with h | ⟨h, _⟩ | ⟨h0, h1, h2, h3, h4, h5⟩
  · exact absurd h hv
  · have := hx.2.2; omega
  · have hm : rd_T39 E (rd via x) ∈ E := by
      have := rdE_get E (rd via x).toNat (by omega)
      rw [Int.toNat_of_nonneg h1] at this
      rw [this]; exact List.getElem_mem _
    have ho := oth_range (hE _ hm) h3
    exact ⟨⟨ho.1, ho.2.1, h4⟩, h1, h2, h3⟩
theorem refC_l2 (hE : okE n E) (hn : 0 ≤ n ∧ n ≤ 40) (hvl : via.length = n.toNat) (hok : ∀ x, 0 ≤ x → x < n → okV v E d via x) (i : Nat) (hi : (i : Int) < n) (K : Nat) (r : Int) (hr : ∀ k, K ≤ k → filigreeref12_Check.l1 k v via d ((i + 1 : Nat) : Int) n E = some r) (dd : Nat) :
    ∀ (k c : Nat) (x : Int), n.toNat - c = dd → c ≤ n.toNat → K + dd + 2 ≤ k → Std n d x → (reachN v E via dd x → filigreeref12_Check.l2 k v via d (i : Int) x (c : Int) n E = some r) ∧ (¬ reachN v E via dd x → filigreeref12_Check.l2 k v via d (i : Int) x (c : Int) n E = some 13) := by
  have wi : ∀ q, wrap64 ((i : Int) + 1) = q → q = ((i + 1 : Nat) : Int) := by
    intro q hq; rw [w64 (by omega) (by omega)] at hq; omega
  induction dd with
  | zero =>
    intro k c x hd hc hk hx
    obtain ⟨k, rfl⟩ : ∃ m, k = m + 1 := ⟨k - 1, by omega⟩
    have h0 : reachN v E via 0 x ↔ x = v := by
      constructor
      · rintro ⟨s, hs, e⟩
        obtain rfl : s = 0 := by omega
        exact e
      · intro e; exact ⟨0, Nat.le_refl _, e⟩
    rw [h0]
    simp only [filigreeref12_Check.l2]
    rw [if_neg (by omega)]
    refine ⟨fun h => ?_, fun h => ?_⟩
    · rw [if_pos h, wi _ rfl]; exact hr k (by omega)
    · rw [if_neg h]
  | succ dd ih =>
    intro k c x hd hc hk hx
    obtain ⟨k, rfl⟩ : ∃ m, k = m + 1 := ⟨k - 1, by omega⟩
    simp only [filigreeref12_Check.l2]
    rw [if_pos (by omega)]
    by_cases hxv : x = v
    · refine ⟨fun _ => ?_, fun h => absurd ⟨0, Nat.zero_le _, hxv⟩ h⟩
      rw [if_pos hxv, wi _ rfl]; exact hr k (by omega)
    · obtain ⟨p1, p2, p3, p4⟩ := par_std hE hok hx hxv
      have h := ih k (c + 1) (parI E via x) (by omega) (by omega) (by omega) p1
      have hreach : reachN v E via (dd + 1) x ↔ reachN v E via dd (parI E via x) := by
        constructor
        · rintro ⟨s, hs, e⟩
          obtain ⟨s, rfl⟩ : ∃ t, s = t + 1 := by
            rcases s with _ | s
            · exact absurd e hxv
            · exact ⟨s, rfl⟩
          exact ⟨s, by omega, e⟩
        · rintro ⟨s, hs, e⟩; exact ⟨s + 1, by omega, e⟩
      rw [hreach]
      have wc := zMk (show wrap64 ((c : Int) + 1) = ((c + 1 : Nat) : Int) by rw [w64 (by omega) (by omega)]; omega)
      rw [if_neg hxv, if_pos hx.1, if_pos (by have := hx.2.1; omega), if_pos p2, if_pos p3, other_in p4, zOb, wc.out]
      exact h
theorem refC_l1 (hE : okE n E) (hn : 0 ≤ n ∧ n ≤ 40) (hvl : via.length = n.toNat) (hdl : d.length = n.toNat) (hok : ∀ x, 0 ≤ x → x < n → okV v E d via x) (dd : Nat) :
    ∀ (k i : Nat), n.toNat - i = dd → i ≤ n.toNat → dd * (n.toNat + 5) + 1 ≤ k →
      ((∀ x, (i : Int) ≤ x → Std n d x → reachN v E via n.toNat x) → filigreeref12_Check.l1 k v via d (i : Int) n E = some 0) ∧
      (¬ (∀ x, (i : Int) ≤ x → Std n d x → reachN v E via n.toNat x) → filigreeref12_Check.l1 k v via d (i : Int) n E = some 13) := by
  induction dd with
  | zero =>
    intro k i hd hi hk
    obtain ⟨k, rfl⟩ : ∃ m, k = m + 1 := ⟨k - 1, by omega⟩
    simp only [filigreeref12_Check.l1]
    rw [if_neg (by omega)]
    exact ⟨fun _ => rfl, fun h => absurd (fun x h1 h2 => by have := h2.2.1; omega) h⟩
  | succ dd ih =>
    intro k i hd hi hk
    rw [Nat.succ_mul] at hk
    obtain ⟨k, rfl⟩ : ∃ m, k = m + 1 := ⟨k - 1, by omega⟩
    simp only [filigreeref12_Check.l1]
    rw [if_pos (by omega), if_pos (by omega), if_pos (by omega)]
    have wi := zMk (show wrap64 ((i : Int) + 1) = ((i + 1 : Nat) : Int) by rw [w64 (by omega) (by omega)]; omega)
    by_cases hs : rd d (i : Int) < 0
    · rw [if_pos hs, wi.out]
      have h := ih k (i + 1) (by omega) (by omega) (by omega)
      have e : (∀ x, (i : Int) ≤ x → Std n d x → reachN v E via n.toNat x) ↔ (∀ x, ((i + 1 : Nat) : Int) ≤ x → Std n d x → reachN v E via n.toNat x) := by
        constructor
        · intro h x h1 h2; exact h x (by omega) h2
        · intro h x h1 h2
          by_cases hx : x = i
          · subst hx; have := h2.2.2; omega
          · exact h x (by omega) h2
      rw [e]; exact h
    · rw [if_neg hs]
      have hx : Std n d (i : Int) := ⟨by omega, by omega, by omega⟩
      by_cases hrest : ∀ x, ((i + 1 : Nat) : Int) ≤ x → Std n d x → reachN v E via n.toNat x
      · have h2 := refC_l2 hE hn hvl hok i (by omega) (dd * (n.toNat + 5) + 1) 0 (fun k hk => (ih k (i + 1) (by omega) (by omega) hk).1 hrest) n.toNat k 0 (i : Int) (by omega) (by omega) (by omega) hx
        refine ⟨fun h => h2.1 (h _ (Int.le_refl _) hx), fun h => h2.2 (fun hr => h (fun x h1 hstd => ?_))⟩
        by_cases hxi : x = i
        · subst hxi; exact hr
        · exact hrest x (by omega) hstd
      · have h2 := refC_l2 hE hn hvl hok i (by omega) (dd * (n.toNat + 5) + 1) 13 (fun k hk => (ih k (i + 1) (by omega) (by omega) hk).2 hrest) n.toNat k 0 (i : Int) (by omega) (by omega) (by omega) hx
        refine ⟨fun h => absurd (fun x h1 hstd => h x (by omega) hstd) hrest, fun _ => ?_⟩
        by_cases hr : reachN v E via n.toNat (i : Int)
        · exact h2.1 hr
        · exact h2.2 hr
def GoodV (v n : Int) (E : List S39) (d via : List Int) : Prop := (∀ x, 0 ≤ x → x < n → okV v E d via x) ∧ ∀ x, Std n d x → reachN v E via n.toNat x
theorem refC_l0 (hE : okE n E) (hn : 0 ≤ n ∧ n ≤ 40) (hvl : via.length = n.toNat) (hdl : d.length = n.toNat) (dist : List Int) (hdi : dist.length = n.toNat) (hdb : ∀ x, 0 ≤ x → x < n → -1 ≤ rd d x ∧ rd d x ≤ 1000000000000000) (K : Nat) (r : Int) (dd : Nat) :
    ∀ (k i : Nat), n.toNat - i = dd → i ≤ n.toNat → K + 2 * dd + 1 ≤ k →
      ((∀ x, (i : Int) ≤ x → x < n → rd dist x = rd d x ∧ okV v E d via x) → (∀ k, K ≤ k → filigreeref12_Check.l1 k v via d 0 n E = some r) → filigreeref12_Check.l0 k v dist via d (i : Int) n E = some r) ∧
      (¬ (∀ x, (i : Int) ≤ x → x < n → rd dist x = rd d x ∧ okV v E d via x) → filigreeref12_Check.l0 k v dist via d (i : Int) n E = some 13) := by
  induction dd with
  | zero =>
    intro k i hd hi hk
    obtain ⟨k, rfl⟩ : ∃ m, k = m + 1 := ⟨k - 1, by omega⟩
    simp only [filigreeref12_Check.l0]
    rw [if_neg (by omega)]
    exact ⟨fun _ hr => hr k (by omega), fun h => absurd (fun x h1 h2 => by omega) h⟩
  | succ dd ih =>
    intro k i hd hi hk
    obtain ⟨k, rfl⟩ : ∃ m, k = m + 2 := ⟨k - 2, by omega⟩
    have wi := zMk (show wrap64 ((i : Int) + 1) = ((i + 1 : Nat) : Int) by rw [w64 (by omega) (by omega)]; omega)
    obtain ⟨y, hy⟩ : ∃ y : Int, (i : Int) = y := ⟨_, rfl⟩
    have hy0 : 0 ≤ y ∧ y < n := by omega
    have wy := zMk (show wrap64 (y + 1) = ((i + 1 : Nat) : Int) by rw [w64 (by omega) (by omega)]; omega)
    have nxt : ∀ kk, k ≤ kk → (rd dist y = rd d y ∧ okV v E d via y) →
        ((∀ x, y ≤ x → x < n → rd dist x = rd d x ∧ okV v E d via x) → (∀ k, K ≤ k → filigreeref12_Check.l1 k v via d 0 n E = some r) → filigreeref12_Check.l0 kk v dist via d ((i + 1 : Nat) : Int) n E = some r) ∧
        (¬ (∀ x, y ≤ x → x < n → rd dist x = rd d x ∧ okV v E d via x) → filigreeref12_Check.l0 kk v dist via d ((i + 1 : Nat) : Int) n E = some 13) := by
      intro kk hkk hh
      have h := ih kk (i + 1) (by omega) (by omega) (by omega)
      have e : (∀ x, y ≤ x → x < n → rd dist x = rd d x ∧ okV v E d via x) ↔ (∀ x, ((i + 1 : Nat) : Int) ≤ x → x < n → rd dist x = rd d x ∧ okV v E d via x) := by
        constructor
        · intro h x h1 h2; exact h x (by omega) h2
        · intro h x h1 h2
          by_cases hx : x = y
          · subst hx; exact hh
          · exact h x (by omega) h2
      rw [e]; exact h
    have bad : ¬ (rd dist y = rd d y ∧ okV v E d via y) → ((∀ x, y ≤ x → x < n → rd dist x = rd d x ∧ okV v E d via x) → (∀ k, K ≤ k → filigreeref12_Check.l1 k v via d 0 n E = some r) → (some 13 : Option Int) = some r) ∧ (¬ (∀ x, y ≤ x → x < n → rd dist x = rd d x ∧ okV v E d via x) → (some 13 : Option Int) = some 13) :=
      fun hb => ⟨fun h => absurd (h y (Int.le_refl _) hy0.2) hb, fun _ => rfl⟩
    simp only [filigreeref12_Check.l0]
    rw [wi.out, hy]
    rw [if_pos (by omega), if_pos (by omega), if_pos (by omega), if_pos (by omega)]
    by_cases h1 : rd dist y = rd d y
    · rw [if_pos h1]
      by_cases h2 : y = v
      · rw [if_pos h2]; exact nxt (k + 1) (by omega) ⟨h1, .inl h2⟩
      · rw [if_neg h2]
        by_cases h3 : rd d y < 0
        · rw [if_pos h3, if_pos (by omega)]
          by_cases h4 : rd via y = -1
          · rw [if_pos h4]; exact nxt (k + 1) (by omega) ⟨h1, .inr (.inl ⟨h3, h4⟩)⟩
          · rw [if_neg h4]
            exact bad (fun hh => by rcases hh.2 with h | ⟨_, h⟩ | ⟨h, _⟩ <;> first | exact h2 h | exact h4 h | omega)
        · rw [if_neg h3, if_pos (by omega)]
          have j13 : ∀ kk, filigreeref12_Check.j3 (kk + 1) v dist via d y true n E = some 13 := fun kk => by simp only [filigreeref12_Check.j3]; rfl
          have notok : ∀ (_ : ¬ (0 ≤ rd via y ∧ rd via y < E.length ∧ inc (rd_T39 E (rd via y)) y ∧ 0 ≤ rd d (parI E via y) ∧ rd d (parI E via y) = rd d y - (rd_T39 E (rd via y)).f2)), ¬ (rd dist y = rd d y ∧ okV v E d via y) := by
            intro hn' hh
            rcases hh.2 with h | ⟨h, _⟩ | ⟨_, h⟩
            · exact h2 h
            · omega
            · exact hn' h
          by_cases h5 : rd via y < 0
          · rw [if_pos h5, j13]; exact bad (notok (fun h => by omega))
          · rw [if_neg h5]
            by_cases h6 : rd via y ≥ (E.length : Int)
            · rw [decide_eq_true h6, j13]; exact bad (notok (fun h => by omega))
            · rw [decide_eq_false h6]
              have hm : rd_T39 E (rd via y) ∈ E := by
                have := rdE_get E (rd via y).toNat (by omega)
                rw [Int.toNat_of_nonneg (by omega)] at this
                rw [this]; exact List.getElem_mem _
              have hEe := hE _ hm
              simp only [filigreeref12_Check.j3]
              rw [if_neg (by decide), if_pos (by omega), if_pos (by omega), if_pos (by omega), if_pos (by omega)]
              obtain ⟨e, hee⟩ : ∃ e, rd_T39 E (rd via y) = e := ⟨_, rfl⟩
              have hpar : parI E via y = oth e y := by unfold parI; rw [hee]
              rw [hee] at hEe notok ⊢
              rw [hpar] at notok
              by_cases h7 : inc e y
              · have hr := oth_range hEe h7
                rw [other_in h7, zOb, if_neg (by omega), if_pos hr.1, if_pos (by omega)]
                by_cases h8 : rd d (oth e y) < 0
                · rw [if_pos h8]; exact bad (notok (fun h => by omega))
                · have hb := hdb y hy0.1 hy0.2
                  rw [if_neg h8, if_pos (by omega), w64 (by omega) (by omega)]
                  by_cases h9 : rd d (oth e y) = rd d y - e.f2
                  · rw [if_pos h9, wy.out]
                    exact nxt k (by omega) ⟨h1, .inr (.inr ⟨by omega, by omega, by omega, by rw [hee]; exact h7, by rw [hpar]; omega, by rw [hpar, hee]; exact h9⟩)⟩
                  · rw [if_neg h9]; exact bad (notok (fun h => h9 h.2.2.2.2))
              · rw [other_out h7, zOb, if_pos (by omega)]
                exact bad (notok (fun h => h7 h.2.2.1))
    · rw [if_neg h1]; exact bad (fun h => h1 h.1)
end
section
variable {v n : Int} {E : List S39} {d p : List Int} {rk : Int → Nat}
theorem list_rd_ext (a b : List Int) (h : a.length = b.length) (he : ∀ x : Int, 0 ≤ x → x < a.length → rd a x = rd b x) : a = b := by
  apply List.ext_getElem h
  intro i h1 h2
  have := he (i : Int) (by omega) (by omega)
  rw [rd_nat a i h1, rd_nat b i h2] at this
  exact this
theorem Inv.big (hn : 0 ≤ n ∧ n ≤ 40) (I : Inv v n E d p [] rk (fun _ _ => True)) : ∀ x, 0 ≤ x → x < n → -1 ≤ rd d x ∧ rd d x ≤ 1000000000000000 := by
  intro x h0 h1
  have a := I.dlo x h0 h1
  by_cases hs : 0 ≤ rd d x
  · have b := (I.st x ⟨h0, h1, hs⟩).2
    have c := nset_le d
    have e := I.dl
    omega
  · omega
theorem Inv.good (hE : okE n E) (I : Inv v n E d p [] rk (fun _ _ => True)) : GoodV v n E d p := by
  have par : ∀ x, Std n d x → x ≠ v → ∃ j : Nat, rd p x = (j : Int) ∧ ∃ h : j < E.length, inc E[j] x ∧ Std n d (oth E[j] x) ∧ rd d x = rd d (oth E[j] x) + E[j].f2 ∧ rk (oth E[j] x) < rk x := by
    intro x hx hxv
    rcases (I.st x hx).2.2.2 with ⟨h, _⟩ | ⟨_, j, e1, hj, u, hu, hi, e2, e3, e4⟩
    · exact absurd h hxv
    · have ho := oth_range (hE _ (List.getElem_mem hj)) hi
      have eu : oth E[j] x = u := by rw [e2]; unfold oth; omega
      exact ⟨j, e1, hj, by rw [e2]; exact ho.2.2, by rw [eu]; exact hu, by rw [eu]; exact e3, by rw [eu]; exact e4⟩
  refine ⟨fun x h0 h1 => ?_, fun x hx => ?_⟩
  · by_cases hxv : x = v
    · exact .inl hxv
    · by_cases hs : 0 ≤ rd d x
      · obtain ⟨j, e1, hj, hi, hstd, e2, _⟩ := par x ⟨h0, h1, hs⟩ hxv
        have e0 : rd_T39 E (rd p x) = E[j] := by rw [e1, rdE_get E j hj]
        refine .inr (.inr ⟨hs, by omega, by omega, by rw [e0]; exact hi, ?_, ?_⟩)
        · unfold parI; rw [e0]; exact hstd.2.2
        · unfold parI; rw [e0]; omega
      · exact .inr (.inl ⟨by omega, I.un x h0 h1 (by omega)⟩)
  · have key : ∀ r x, Std n d x → rk x = r → reachN v E p (rk x) x := by
      intro r
      induction r using Nat.strongRecOn with
      | _ r ih =>
        intro x hx hr
        by_cases hxv : x = v
        · exact ⟨0, Nat.zero_le _, hxv⟩
        · obtain ⟨j, e1, hj, hi, hstd, e2, e3⟩ := par x hx hxv
          have e0 : parI E p x = oth E[j] x := by unfold parI; rw [e1, rdE_get E j hj]
          obtain ⟨s, hs, e⟩ := ih (rk (oth E[j] x)) (by omega) _ hstd rfl
          exact ⟨s + 1, by omega, by show itr E p s (parI E p x) = v; rw [e0]; exact e⟩
    obtain ⟨s, hs, e⟩ := key _ x hx rfl
    have b := (I.st x hx).2.1
    have c := nset_le d
    have f := I.dl
    exact ⟨s, by omega, e⟩
theorem refCheck_in (h : rightP n E = 0) (hv : 0 ≤ v ∧ v < n) (hm : E.length ≤ 160) (hn : n ≤ 40) (I : Inv v n E d p [] rk (fun _ _ => True)) (dist via : List Int) (k : Nat) (hk : 200000 ≤ k) :
    ((dist = d ∧ (via.length : Int) = n ∧ rd via v = -1 ∧ GoodV v n E d via) → filigreeref12_Check.f k n E v dist via = some 0) ∧
    (¬ (dist = d ∧ (via.length : Int) = n ∧ rd via v = -1 ∧ GoodV v n E d via) → filigreeref12_Check.f k n E v dist via = some 13) := by
  obtain ⟨h0, h1, hE⟩ := right_ok n E h
  have hdl := I.dl
  unfold filigreeref12_Check.f
  rw [refRight_eq k n E (by omega), zOb, h, if_pos rfl, if_neg (by omega), decide_eq_false (by omega)]
  obtain ⟨k, rfl⟩ : ∃ m, k = m + 2 := ⟨k - 2, by omega⟩
  have jT : ∀ q, filigreeref12_Check.j1 (q + 1) v dist via true n E = some 13 := fun q => by simp only [filigreeref12_Check.j1]; rfl
  simp only [filigreeref12_Check.j0]
  rw [if_neg (by decide)]
  by_cases h2 : (dist.length : Int) = n
  · rw [if_pos h2]
    by_cases h3 : (via.length : Int) = n
    · rw [if_pos h3, if_pos hv.1, if_pos (by omega)]
      by_cases h4 : rd via v = -1
      · have e4 : (rd via v != -1) = false := by rw [h4]; rfl
        rw [e4]
        simp only [filigreeref12_Check.j1]
        rw [if_neg (by decide), Dist_eq hE hm ⟨h0, hn⟩ I hv k (by omega), zOb]
        have hb : n.toNat * (n.toNat + 5) ≤ 40 * 45 := Nat.mul_le_mul (by omega) (by omega)
        by_cases hok : ∀ x, ((0 : Nat) : Int) ≤ x → x < n → rd dist x = rd d x ∧ okV v E d via x
        · have hdd : dist = d := list_rd_ext dist d (by omega) (fun x a b => (hok x a (by omega)).1)
          have hokv : ∀ x, 0 ≤ x → x < n → okV v E d via x := fun x a b => (hok x a b).2
          by_cases hr : ∀ x, Std n d x → reachN v E via n.toNat x
          · refine ⟨fun _ => ?_, fun hh => absurd ⟨hdd, h3, h4, hokv, hr⟩ hh⟩
            exact (refC_l0 hE ⟨h0, hn⟩ (by omega) hdl dist (by omega) (I.big ⟨h0, hn⟩) (n.toNat * (n.toNat + 5) + 1) 0 n.toNat k 0 (by omega) (by omega) (by omega)).1 hok (fun k hk => (refC_l1 hE ⟨h0, hn⟩ (by omega) hdl hokv n.toNat k 0 (by omega) (by omega) hk).1 (fun x _ hx => hr x hx))
          · refine ⟨fun hh => absurd hh.2.2.2.2 hr, fun _ => ?_⟩
            exact (refC_l0 hE ⟨h0, hn⟩ (by omega) hdl dist (by omega) (I.big ⟨h0, hn⟩) (n.toNat * (n.toNat + 5) + 1) 13 n.toNat k 0 (by omega) (by omega) (by omega)).1 hok (fun k hk => (refC_l1 hE ⟨h0, hn⟩ (by omega) hdl hokv n.toNat k 0 (by omega) (by omega) hk).2 (fun hh => hr (fun x hx => hh x (by have := hx.1; omega) hx)))
        · refine ⟨fun hh => absurd (fun x a b => ⟨by rw [hh.1], hh.2.2.2.1 x a b⟩) hok, fun _ => ?_⟩
          exact (refC_l0 hE ⟨h0, hn⟩ (by omega) hdl dist (by omega) (I.big ⟨h0, hn⟩) 0 0 n.toNat k 0 (by omega) (by omega) (by omega)).2 hok
      · have e4 : (rd via v != -1) = true := by rw [bne_iff_ne]; exact h4
        rw [e4, jT]
        exact ⟨fun hh => absurd hh.2.2.1 h4, fun _ => rfl⟩
    · rw [if_neg h3, jT]
      exact ⟨fun hh => absurd hh.2.1 h3, fun _ => rfl⟩
  · rw [if_neg h2, jT]
    exact ⟨fun hh => absurd (by rw [hh.1]; omega) h2, fun _ => rfl⟩
theorem refCheck_bad (k : Nat) (n : Int) (E : List S39) (v : Int) (dist via : List Int) (hm : E.length ≤ 160) (hk : 1000 ≤ k) (h : rightP n E ≠ 0) : filigreeref12_Check.f k n E v dist via = some (rightP n E) := by
  unfold filigreeref12_Check.f
  rw [refRight_eq k n E (by omega), zOb, if_neg h]
theorem refCheck_out (k : Nat) (n : Int) (E : List S39) (v : Int) (dist via : List Int) (hm : E.length ≤ 160) (hk : 1000 ≤ k) (h : rightP n E = 0) (hv : v < 0 ∨ n ≤ v) : filigreeref12_Check.f k n E v dist via = some 5 := by
  unfold filigreeref12_Check.f
  rw [refRight_eq k n E (by omega), zOb, h, if_pos rfl]
  obtain ⟨k', rfl⟩ : ∃ k', k = k' + 1 := ⟨k - 1, by omega⟩
  by_cases h0 : v < 0
  · rw [if_pos h0]; simp only [filigreeref12_Check.j0]; rfl
  · rw [if_neg h0, decide_eq_true (by omega)]; simp only [filigreeref12_Check.j0]; rfl
end
theorem nodup_bound (m : Nat) : ∀ (l : List Int), l.Nodup → (∀ x ∈ l, 0 ≤ x ∧ x < m) → l.length ≤ m := by
  induction m with
  | zero =>
    intro l _ h
    match l with
    | [] => exact Nat.le_refl _
    | a :: l => have := h a List.mem_cons_self; omega
  | succ m ih =>
    intro l hnd h
    by_cases hm : (m : Int) ∈ l
    · have h2 := ih (l.erase (m : Int)) (hnd.erase _) (fun x hx => by
        have hx' := (hnd.mem_erase_iff).1 hx
        have := h x hx'.2
        have := hx'.1
        omega)
      rw [List.length_erase_of_mem hm] at h2
      omega
    · have h2 := ih l hnd (fun x hx => by
        have := h x hx
        by_cases e : x = (m : Int)
        · exact absurd (e ▸ hx) hm
        · omega)
      omega
section
variable {v n : Int} {E : List S39} {d via : List Int}
def Rch (v : Int) (E : List S39) (via : List Int) (x : Int) : Prop := ∃ s, itr E via s x = v
theorem Rch_par {x : Int} (h : Rch v E via (parI E via x)) : Rch v E via x := by
  obtain ⟨s, e⟩ := h
  exact ⟨s + 1, e⟩
theorem least_nat (P : Nat → Prop) (s : Nat) : P s → ∃ t, P t ∧ ∀ q, q < t → ¬ P q := by
  induction s using Nat.strongRecOn with
  | _ s ih =>
    intro h
    by_cases hb : ∃ q, q < s ∧ P q
    · obtain ⟨q, hq, hp⟩ := hb
      exact ih q hq hp
    · exact ⟨s, h, fun q hq hp => hb ⟨q, hq, hp⟩⟩
theorem itr_add (E : List S39) (via : List Int) : ∀ (a b : Nat) (y : Int), itr E via (a + b) y = itr E via b (itr E via a y)
  | 0, b, y => by rw [Nat.zero_add]; rfl
  | a + 1, b, y => by rw [show a + 1 + b = (a + b) + 1 by omega]; exact itr_add E via a b (parI E via y)
theorem Rch_bound (hE : okE n E) (hok : ∀ x, 0 ≤ x → x < n → okV v E d via x) {x : Int} (hx : Std n d x) (h : Rch v E via x) : reachN v E via n.toNat x := by
  obtain ⟨s0, e0⟩ := h
  obtain ⟨s, e, hmin⟩ := least_nat (fun s => itr E via s x = v) s0 e0
  have std : ∀ q, q ≤ s → Std n d (itr E via q x) := by
    intro q
    induction q with
    | zero => intro _; exact hx
    | succ q ih =>
      intro hq
      have := (par_std hE hok (ih (by omega)) (hmin q (by omega))).1
      rw [itr_add E via q 1 x]; exact this
  have hnd : ((List.range (s + 1)).map (fun q => itr E via q x)).Nodup := by
    show List.Pairwise _ _
    rw [List.pairwise_map]
    refine List.Pairwise.imp_of_mem (fun {a b} ha hb hab he => ?_) List.pairwise_lt_range
    have hb' := List.mem_range.1 hb
    have h1 := itr_add E via b (s - b) x
    rw [← he, show b + (s - b) = s by omega, ← itr_add E via a (s - b) x] at h1
    exact hmin (a + (s - b)) (by omega) (by rw [← h1]; exact e)
  have := nodup_bound n.toNat _ hnd (fun y hy => by
    obtain ⟨q, hq, rfl⟩ := List.mem_map.1 hy
    have h1 := (std q (by have := List.mem_range.1 hq; omega)).1
    have h2 := (std q (by have := List.mem_range.1 hq; omega)).2.1
    exact ⟨h1, by omega⟩)
  rw [List.length_map, List.length_range] at this
  exact ⟨s, by omega, e⟩
theorem other_good {k : Nat} {i x : Int} (h0 : 0 ≤ i) (h1 : i < E.length) (hi : inc (rd_T39 E i) x) : paths_other.f (k + 1) n E i x = some (oth (rd_T39 E i) x, true) := by
  unfold paths_other.f
  rw [if_neg (by omega), decide_eq_false (by omega)]
  simp only [paths_other.j0]
  rw [if_neg (by decide), if_pos h0, if_pos h1]
  unfold inc at hi
  unfold oth
  by_cases h : x = (rd_T39 E i).f1
  · rw [if_pos h]; congr 2; omega
  · rw [if_neg h, if_pos (by omega)]; congr 2; omega
theorem other_bad {k : Nat} {i x : Int} (h : ¬ (0 ≤ i ∧ i < E.length ∧ inc (rd_T39 E i) x)) : paths_other.f (k + 1) n E i x = some (0, false) := by
  unfold paths_other.f
  by_cases h0 : i < 0
  · rw [if_pos h0]; simp only [paths_other.j0]; rfl
  · rw [if_neg h0]
    by_cases h1 : i ≥ (E.length : Int)
    · rw [decide_eq_true h1]; simp only [paths_other.j0]; rfl
    · rw [decide_eq_false h1]
      simp only [paths_other.j0]
      have hi : ¬ inc (rd_T39 E i) x := fun hi => h ⟨by omega, by omega, hi⟩
      unfold inc at hi
      rw [if_neg (by decide), if_pos (by omega), if_pos (by omega), if_neg (by omega), if_neg (by omega)]
theorem contains_eq (l : List Int) (x : Int) (hl : l.length ≤ 1000000) (k : Nat) (hk : l.length + 1 ≤ k) : slices_Contains_int_int.f k l x = some (decide (x ∈ l)) := by
  have key : ∀ (dd k i : Nat), l.length - i = dd → i ≤ l.length → dd + 1 ≤ k → ∃ q, slices_Index_int_int.l0 k l x (l.length : Int) (i : Int) = some q ∧ (0 ≤ q ↔ x ∈ l.drop i) := by
    intro dd
    induction dd with
    | zero =>
      intro k i hd hi hk
      obtain ⟨k, rfl⟩ : ∃ m, k = m + 1 := ⟨k - 1, by omega⟩
      refine ⟨-1, ?_, ?_⟩
      · simp only [slices_Index_int_int.l0]; rw [if_neg (by omega)]
      · rw [List.drop_of_length_le (by omega)]; simp
    | succ dd ih =>
      intro k i hd hi hk
      obtain ⟨k, rfl⟩ : ∃ m, k = m + 1 := ⟨k - 1, by omega⟩
      have hlt : i < l.length := by omega
      obtain ⟨q, e, hq⟩ := ih k (i + 1) (by omega) (by omega) (by omega)
      simp only [slices_Index_int_int.l0]
      rw [if_pos (by omega), if_pos (by omega), if_pos (by omega), rd_nat l i hlt]
      have hdr : x ∈ l.drop i ↔ x = l[i] ∨ x ∈ l.drop (i + 1) := by rw [List.drop_eq_getElem_cons hlt, List.mem_cons]
      by_cases h : x = l[i]
      · refine ⟨(i : Int), by rw [if_pos h], ?_⟩
        rw [hdr]
        exact ⟨fun _ => .inl h, fun _ => by omega⟩
      · refine ⟨q, ?_, ?_⟩
        · rw [if_neg h, w64 (by omega) (by omega)]; exact e
        · rw [hq, hdr]
          exact ⟨.inr, fun h' => h'.resolve_left h⟩
  obtain ⟨q, e, hq⟩ := key l.length k 0 (by omega) (by omega) (by omega)
  unfold slices_Contains_int_int.f slices_Index_int_int.f
  have e' : slices_Index_int_int.l0 k l x (l.length : Int) 0 = some q := e
  rw [e', zOb]
  rw [List.drop_zero] at hq
  congr 1
  exact decide_eq_decide.2 hq
end
section
variable {v n : Int} {E : List S39} {d via : List Int}
theorem rdB_set (l : List Bool) (a : Int) (b : Int) (ha : 0 ≤ a) (ha2 : a < l.length) (hb : 0 ≤ b) : rdOf false (l.set a.toNat true) b = if b = a then true else rdOf false l b := by
  unfold rdOf
  by_cases h : b = a
  · subst h
    rw [if_pos rfl]
    simp [List.getD, show b.toNat < l.length by omega]
  · rw [if_neg h]
    simp only [List.getD, List.getElem?_set]
    rw [if_neg (by omega)]
structure GI (v n : Int) (E : List S39) (d via : List Int) (good : List Bool) : Prop where
  gl : good.length = n.toNat
  gv : rdOf false good v = true
  gr : ∀ x, 0 ≤ x → x < n → rdOf false good x = true → Rch v E via x
theorem GI.set {good : List Bool} (G : GI v n E d via good) {y : Int} (hy : 0 ≤ y ∧ y < n) (hr : Rch v E via y) : GI v n E d via (good.set y.toNat true) := by
  have hl := G.gl
  refine ⟨by rw [List.length_set]; exact hl, ?_, fun x h0 h1 hx => ?_⟩
  · by_cases hv : 0 ≤ v
    · rw [rdB_set good y v hy.1 (by omega) hv]
      split
      · rfl
      · exact G.gv
    · have := G.gv
      unfold rdOf at this ⊢
      by_cases h : v.toNat = y.toNat
      · simp [List.getD, h, show y.toNat < good.length by omega]
      · simp only [List.getD, List.getElem?_set]
        rw [if_neg (by omega)]
        exact this
  · rw [rdB_set good y x hy.1 (by omega) h0] at hx
    split at hx
    · rename_i h; subst h; exact hr
    · exact G.gr x h0 h1 hx
theorem pC_l3 (way : List Int) (hw : ∀ y ∈ way, (0 ≤ y ∧ y < n) ∧ Rch v E via y) (hwl : way.length ≤ 1000000) (i : Nat) (hi : i ≤ 1000000) (K : Nat) (r : Int)
    (hr : ∀ k good, K ≤ k → GI v n E d via good → paths_Check.l1 k via good d (d.length : Int) ((i + 1 : Nat) : Int) n E = some r) (dd : Nat) :
    ∀ (k j : Nat) (good : List Bool), way.length - j = dd → j ≤ way.length → K + dd + 1 ≤ k → GI v n E d via good → paths_Check.l3 k via good d (d.length : Int) (i : Int) way (way.length : Int) (j : Int) n E = some r := by
  induction dd with
  | zero =>
    intro k j good hd hj hk G
    obtain ⟨k, rfl⟩ : ∃ m, k = m + 1 := ⟨k - 1, by omega⟩
    simp only [paths_Check.l3]
    rw [if_neg (by omega), w64 (by omega) (by omega)]
    exact hr k good (by omega) G
  | succ dd ih =>
    intro k j good hd hj hk G
    obtain ⟨k, rfl⟩ : ∃ m, k = m + 1 := ⟨k - 1, by omega⟩
    have hlt : j < way.length := by omega
    have hy := hw way[j] (List.getElem_mem hlt)
    have hgl := G.gl
    simp only [paths_Check.l3]
    rw [if_pos (by omega), if_pos (by omega), if_pos (by omega), rd_nat way j hlt, if_pos hy.1.1, if_pos (by omega), w64 (by omega) (by omega)]
    exact ih k (j + 1) _ (by omega) (by omega) (by omega) (G.set hy.1 hy.2)
theorem pC_l2 (hE : okE n E) (hn : 0 ≤ n ∧ n ≤ 40) (hvl : via.length = n.toNat) (hok : ∀ x, 0 ≤ x → x < n → okV v E d via x) (i : Nat) (hi : Std n d (i : Int)) (K : Nat) (r : Int)
    (hr : ∀ k good, K ≤ k → GI v n E d via good → paths_Check.l1 k via good d (d.length : Int) ((i + 1 : Nat) : Int) n E = some r) (good : List Bool) (G : GI v n E d via good) (dd : Nat) :
    ∀ (k : Nat) (way : List Int) (x : Int), n.toNat - way.length = dd → K + 2 * dd + n.toNat + 10 ≤ k → Std n d x → way.Nodup → (∀ y ∈ way, Std n d y ∧ y ≠ v ∧ (parI E via y ∈ way ∨ parI E via y = x) ∧ (Rch v E via x → Rch v E via y)) → ((i : Int) ∈ way ∨ ((i : Int) = x ∧ way = [])) →
      (Rch v E via (i : Int) → paths_Check.l2 k via good (rd d (i : Int)) way x d (d.length : Int) (i : Int) n E = some r) ∧ (¬ Rch v E via (i : Int) → paths_Check.l2 k via good (rd d (i : Int)) way x d (d.length : Int) (i : Int) n E = some 13) := by
  induction dd using Nat.strongRecOn with
  | _ dd ih =>
    intro k way x hd hk hx hnd hw hiw
    obtain ⟨k, rfl⟩ : ∃ m, k = m + 2 := ⟨k - 2, by omega⟩
    have hgl := G.gl
    have hwb : way.length ≤ n.toNat := nodup_bound n.toNat way hnd (fun y hy => by have := (hw y hy).1; unfold Std at this; omega)
    have hi3 := hi.2.2
    have hx1 := hx.1
    have hx2 := hx.2.1
    have closed : x ∈ way → ¬ Rch v E via (i : Int) := by
      intro hxw
      have hin : ∀ s y, y ∈ way → itr E via s y ∈ way := by
        intro s
        induction s with
        | zero => intro y hy; exact hy
        | succ s ihs =>
          intro y hy
          show itr E via s (parI E via y) ∈ way
          rcases (hw y hy).2.2.1 with h | h
          · exact ihs _ h
          · rw [h]; exact ihs _ hxw
      rintro ⟨s, e⟩
      have hii : (i : Int) ∈ way := by
        rcases hiw with h | ⟨_, h⟩
        · exact h
        · rw [h] at hxw; simp at hxw
      have := hin s _ hii
      rw [e] at this
      exact (hw v this).2.1 rfl
    simp only [paths_Check.l2]
    rw [if_pos (by omega), if_pos hx1, if_pos (by omega)]
    simp only [paths_Check.j3]
    by_cases hg : rdOf false good x = true
    · rw [hg, if_neg (by decide)]
      have hRx := G.gr x hx1 hx2 hg
      have hRi : Rch v E via (i : Int) := by
        rcases hiw with h | ⟨h, _⟩
        · exact (hw _ h).2.2.2 hRx
        · rw [h]; exact hRx
      refine ⟨fun _ => ?_, fun h => absurd hRi h⟩
      exact pC_l3 way (fun y hy => ⟨⟨(hw y hy).1.1, (hw y hy).1.2.1⟩, (hw y hy).2.2.2 hRx⟩) (by omega) i (by have := hi.2.1; omega) K r hr way.length k 0 good (by omega) (by omega) (by omega) G
    · have hg' : rdOf false good x = false := Bool.eq_false_iff.mpr hg
      rw [hg', if_pos (by decide), contains_eq way x (by omega) k (by omega), zOb]
      by_cases hxw : x ∈ way
      · rw [decide_eq_true hxw, if_pos rfl]
        exact ⟨fun h => absurd h (closed hxw), fun _ => rfl⟩
      · rw [decide_eq_false hxw, if_neg (by decide)]
        have hxv : x ≠ v := by
          intro e; rw [e] at hg; exact hg G.gv
        obtain ⟨p1, p2, p3, p4⟩ := par_std hE hok hx hxv
        have hnd2 : (way ++ [x]).Nodup := by
          rw [List.nodup_append]
          refine ⟨hnd, by simp, fun a ha b hb e => ?_⟩
          rw [List.mem_singleton] at hb
          subst hb; subst e; exact hxw ha
        have hlen := nodup_bound n.toNat (way ++ [x]) hnd2 (fun y hy => by
          rcases List.mem_append.1 hy with h | h
          · have := (hw y h).1; unfold Std at this; omega
          · rw [List.mem_singleton] at h; subst h; omega)
        rw [List.length_append, List.length_singleton] at hlen
        obtain ⟨k', rfl⟩ : ∃ m, k = m + 1 := ⟨k - 1, by omega⟩
        rw [if_pos (by omega), if_pos hx1, if_pos (by omega), other_good p2 p3 p4, zOb]
        refine ih (dd - 1) (by omega) (k' + 1) (way ++ [x]) (parI E via x) (by rw [List.length_append, List.length_singleton]; omega) (by omega) p1 hnd2 (fun y hy => ?_) ?_
        · rcases List.mem_append.1 hy with h | h
          · obtain ⟨a, b, c, e⟩ := hw y h
            refine ⟨a, b, ?_, fun hp => e (Rch_par hp)⟩
            left
            rcases c with c | c
            · exact List.mem_append_left _ c
            · rw [c]; exact List.mem_append_right _ (List.mem_singleton.2 rfl)
          · rw [List.mem_singleton] at h
            subst h
            exact ⟨hx, hxv, .inr rfl, Rch_par⟩
        · left
          rcases hiw with h | ⟨h, _⟩
          · exact List.mem_append_left _ h
          · rw [h]; exact List.mem_append_right _ (List.mem_singleton.2 rfl)
theorem pC_l1 (hE : okE n E) (hn : 0 ≤ n ∧ n ≤ 40) (hvl : via.length = n.toNat) (hdl : d.length = n.toNat) (hok : ∀ x, 0 ≤ x → x < n → okV v E d via x) (dd : Nat) :
    ∀ (k i : Nat) (good : List Bool), n.toNat - i = dd → i ≤ n.toNat → dd * (3 * n.toNat + 20) + 1 ≤ k → GI v n E d via good →
      ((∀ x, (i : Int) ≤ x → Std n d x → Rch v E via x) → paths_Check.l1 k via good d (d.length : Int) (i : Int) n E = some 0) ∧
      (¬ (∀ x, (i : Int) ≤ x → Std n d x → Rch v E via x) → paths_Check.l1 k via good d (d.length : Int) (i : Int) n E = some 13) := by
  induction dd with
  | zero =>
    intro k i good hd hi hk G
    obtain ⟨k, rfl⟩ : ∃ m, k = m + 1 := ⟨k - 1, by omega⟩
    simp only [paths_Check.l1]
    rw [if_neg (by omega)]
    exact ⟨fun _ => rfl, fun h => absurd (fun x h1 h2 => by have := h2.2.1; omega) h⟩
  | succ dd ih =>
    intro k i good hd hi hk G
    rw [Nat.succ_mul] at hk
    obtain ⟨k, rfl⟩ : ∃ m, k = m + 1 := ⟨k - 1, by omega⟩
    simp only [paths_Check.l1]
    rw [if_pos (by omega), if_pos (by omega), if_pos (by omega)]
    by_cases hs : rd d (i : Int) < 0
    · obtain ⟨k, rfl⟩ : ∃ m, k = m + 2 := ⟨k - 2, by omega⟩
      have e : (∀ x, (i : Int) ≤ x → Std n d x → Rch v E via x) ↔ (∀ x, ((i + 1 : Nat) : Int) ≤ x → Std n d x → Rch v E via x) := by
        constructor
        · intro h x h1 h2; exact h x (by omega) h2
        · intro h x h1 h2
          by_cases hx : x = i
          · subst hx; have := h2.2.2; omega
          · exact h x (by omega) h2
      rw [e]
      simp only [paths_Check.l2]
      rw [if_neg (by omega)]
      simp only [paths_Check.j3]
      rw [if_neg (by decide)]
      constructor
      · intro h
        exact pC_l3 (v := v) [] (fun y hy => by simp at hy) (by simp) i (by omega) (dd * (3 * n.toNat + 20) + 1) 0 (fun k good hk G => (ih k (i + 1) good (by omega) (by omega) hk G).1 h) 0 k 0 good (by simp) (by simp) (by omega) G
      · intro h
        exact pC_l3 (v := v) [] (fun y hy => by simp at hy) (by simp) i (by omega) (dd * (3 * n.toNat + 20) + 1) 13 (fun k good hk G => (ih k (i + 1) good (by omega) (by omega) hk G).2 h) 0 k 0 good (by simp) (by simp) (by omega) G
    · have hx : Std n d (i : Int) := ⟨by omega, by omega, by omega⟩
      by_cases hrest : ∀ x, ((i + 1 : Nat) : Int) ≤ x → Std n d x → Rch v E via x
      · have h2 := pC_l2 hE hn hvl hok i hx (dd * (3 * n.toNat + 20) + 1) 0 (fun k good hk G => (ih k (i + 1) good (by omega) (by omega) hk G).1 hrest) good G n.toNat k [] (i : Int) (by simp) (by omega) hx (by simp) (fun y hy => by simp at hy) (.inr ⟨rfl, rfl⟩)
        refine ⟨fun h => h2.1 (h _ (Int.le_refl _) hx), fun h => h2.2 (fun hr => h (fun x h1 hstd => ?_))⟩
        by_cases hxi : x = i
        · subst hxi; exact hr
        · exact hrest x (by omega) hstd
      · have h2 := pC_l2 hE hn hvl hok i hx (dd * (3 * n.toNat + 20) + 1) 13 (fun k good hk G => (ih k (i + 1) good (by omega) (by omega) hk G).2 hrest) good G n.toNat k [] (i : Int) (by simp) (by omega) hx (by simp) (fun y hy => by simp at hy) (.inr ⟨rfl, rfl⟩)
        refine ⟨fun h => absurd (fun x h1 hstd => h x (by omega) hstd) hrest, fun _ => ?_⟩
        by_cases hr : Rch v E via (i : Int)
        · exact h2.1 hr
        · exact h2.2 hr
theorem pC_l0 (hE : okE n E) (hn : 0 ≤ n ∧ n ≤ 40) (hvl : via.length = n.toNat) (hdl : d.length = n.toNat) (hdb : ∀ x, 0 ≤ x → x < n → -1 ≤ rd d x ∧ rd d x ≤ 1000000000000000) (good : List Bool) (K : Nat) (r : Int) (dd : Nat) :
    ∀ (k i : Nat), n.toNat - i = dd → i ≤ n.toNat → K + dd + 2 ≤ k →
      ((∀ x, (i : Int) ≤ x → x < n → okV v E d via x) → (∀ k, K ≤ k → paths_Check.l1 k via good d (d.length : Int) 0 n E = some r) → paths_Check.l0 k v via d good d (d.length : Int) (i : Int) n E = some r) ∧
      (¬ (∀ x, (i : Int) ≤ x → x < n → okV v E d via x) → paths_Check.l0 k v via d good d (d.length : Int) (i : Int) n E = some 13) := by
  induction dd with
  | zero =>
    intro k i hd hi hk
    obtain ⟨k, rfl⟩ : ∃ m, k = m + 1 := ⟨k - 1, by omega⟩
    simp only [paths_Check.l0]
    rw [if_neg (by omega)]
    exact ⟨fun _ hr => hr k (by omega), fun h => absurd (fun x h1 h2 => by omega) h⟩
  | succ dd ih =>
    intro k i hd hi hk
    obtain ⟨k, rfl⟩ : ∃ m, k = m + 2 := ⟨k - 2, by omega⟩
    obtain ⟨y, hy⟩ : ∃ y : Int, (i : Int) = y := ⟨_, rfl⟩
    have hy0 : 0 ≤ y ∧ y < n := by omega
    have wy := zMk (show wrap64 (y + 1) = ((i + 1 : Nat) : Int) by rw [w64 (by omega) (by omega)]; omega)
    have nxt : okV v E d via y →
        ((∀ x, y ≤ x → x < n → okV v E d via x) → (∀ k, K ≤ k → paths_Check.l1 k via good d (d.length : Int) 0 n E = some r) → paths_Check.l0 (k + 1) v via d good d (d.length : Int) ((i + 1 : Nat) : Int) n E = some r) ∧
        (¬ (∀ x, y ≤ x → x < n → okV v E d via x) → paths_Check.l0 (k + 1) v via d good d (d.length : Int) ((i + 1 : Nat) : Int) n E = some 13) := by
      intro hh
      have h := ih (k + 1) (i + 1) (by omega) (by omega) (by omega)
      have e : (∀ x, y ≤ x → x < n → okV v E d via x) ↔ (∀ x, ((i + 1 : Nat) : Int) ≤ x → x < n → okV v E d via x) := by
        constructor
        · intro h x h1 h2; exact h x (by omega) h2
        · intro h x h1 h2
          by_cases hx : x = y
          · subst hx; exact hh
          · exact h x (by omega) h2
      rw [e]; exact h
    have bad : ¬ okV v E d via y → ((∀ x, y ≤ x → x < n → okV v E d via x) → (∀ k, K ≤ k → paths_Check.l1 k via good d (d.length : Int) 0 n E = some r) → (some 13 : Option Int) = some r) ∧ (¬ (∀ x, y ≤ x → x < n → okV v E d via x) → (some 13 : Option Int) = some 13) :=
      fun hb => ⟨fun h => absurd (h y (Int.le_refl _) hy0.2) hb, fun _ => rfl⟩
    simp only [paths_Check.l0]
    rw [hy, if_pos (by omega), if_pos (by omega), if_pos (by omega), if_pos (by omega)]
    have oth_some : ∃ bt, paths_other.f (k + 1) n E (rd via y) y = some bt ∧ ((0 ≤ rd via y ∧ rd via y < E.length ∧ inc (rd_T39 E (rd via y)) y) ∧ bt = (parI E via y, true) ∨ ¬ (0 ≤ rd via y ∧ rd via y < E.length ∧ inc (rd_T39 E (rd via y)) y) ∧ bt = (0, false)) := by
      by_cases h : 0 ≤ rd via y ∧ rd via y < E.length ∧ inc (rd_T39 E (rd via y)) y
      · exact ⟨_, other_good h.1 h.2.1 h.2.2, .inl ⟨h, rfl⟩⟩
      · exact ⟨_, other_bad h, .inr ⟨h, rfl⟩⟩
    obtain ⟨bt, e, hbt⟩ := oth_some
    rw [e, zOb]
    by_cases h2 : y = v
    · rw [if_pos h2, wy.out]; exact nxt (.inl h2)
    · rw [if_neg h2]
      by_cases h3 : rd d y < 0
      · rw [if_pos h3]
        by_cases h4 : rd via y = -1
        · rw [if_pos h4, wy.out]; exact nxt (.inr (.inl ⟨h3, h4⟩))
        · rw [if_neg h4]
          exact bad (fun hh => by rcases hh with h | ⟨_, h⟩ | ⟨h, _⟩ <;> first | exact h2 h | exact h4 h | omega)
      · rw [if_neg h3]
        have notok : ∀ (_ : ¬ (0 ≤ rd via y ∧ rd via y < E.length ∧ inc (rd_T39 E (rd via y)) y ∧ 0 ≤ rd d (parI E via y) ∧ rd d (parI E via y) = rd d y - (rd_T39 E (rd via y)).f2)), ¬ okV v E d via y := by
          intro hn' hh
          rcases hh with h | ⟨h, _⟩ | ⟨_, h⟩
          · exact h2 h
          · omega
          · exact hn' h
        rcases hbt with ⟨⟨a1, a2, a3⟩, rfl⟩ | ⟨a1, rfl⟩
        · have hm : rd_T39 E (rd via y) ∈ E := by
            have := rdE_get E (rd via y).toNat (by omega)
            rw [Int.toNat_of_nonneg (by omega)] at this
            rw [this]; exact List.getElem_mem _
          have hEe := hE _ hm
          have hr := oth_range hEe a3
          have hpr : 0 ≤ parI E via y ∧ parI E via y < n := ⟨hr.1, hr.2.1⟩
          dsimp only
          rw [if_pos rfl, if_pos hpr.1, if_pos (by omega)]
          by_cases h8 : rd d (parI E via y) < 0
          · rw [if_pos h8]; exact bad (notok (fun h => by omega))
          · have hb := hdb y hy0.1 hy0.2
            rw [if_neg h8, if_pos a1, if_pos a2, w64 (x := rd d y - (rd_T39 E (rd via y)).f2) (by omega) (by omega)]
            by_cases h9 : rd d (parI E via y) = rd d y - (rd_T39 E (rd via y)).f2
            · rw [if_pos h9, wy.out]
              exact nxt (.inr (.inr ⟨by omega, a1, a2, a3, by omega, h9⟩))
            · rw [if_neg h9]; exact bad (notok (fun h => h9 h.2.2.2.2))
        · dsimp only
          rw [if_neg (by decide)]
          exact bad (notok (fun h => a1 ⟨h.1, h.2.1, h.2.2.1⟩))
theorem equal_l0 (d : List Int) (hl : d.length ≤ 1000000) (l : List Int) (hll : l.length = d.length) (dd : Nat) : ∀ (k i : Nat), l.length - i = dd → i ≤ l.length → dd + 1 ≤ k → slices_Equal_int64_int64.l0 k l d (l.length : Int) (i : Int) = some (decide (l.drop i = d.drop i)) := by
  induction dd with
  | zero =>
    intro k i hd hi hk
    obtain ⟨k, rfl⟩ : ∃ m, k = m + 1 := ⟨k - 1, by omega⟩
    simp only [slices_Equal_int64_int64.l0]
    rw [if_neg (by omega), List.drop_of_length_le (by omega), List.drop_of_length_le (by omega)]
    simp
  | succ dd ih =>
    intro k i hd hi hk
    obtain ⟨k, rfl⟩ : ∃ m, k = m + 1 := ⟨k - 1, by omega⟩
    have h1 : i < l.length := by omega
    have h2 : i < d.length := by omega
    simp only [slices_Equal_int64_int64.l0]
    rw [if_pos (by omega), if_pos (by omega), if_pos (by omega), if_pos (by omega), rd_nat l i h1, rd_nat d i h2]
    have hd1 : (l.drop i = d.drop i) ↔ (l[i] = d[i] ∧ l.drop (i + 1) = d.drop (i + 1)) := by rw [List.drop_eq_getElem_cons h1, List.drop_eq_getElem_cons h2, List.cons.injEq]
    by_cases h : l[i] = d[i]
    · rw [if_pos h, w64 (by omega) (by omega)]
      have := ih k (i + 1) (by omega) (by omega) (by omega)
      have e : ((i : Int) + 1) = ((i + 1 : Nat) : Int) := by omega
      rw [e, this]
      congr 1
      exact decide_eq_decide.2 ⟨fun q => hd1.2 ⟨h, q⟩, fun q => (hd1.1 q).2⟩
    · rw [if_neg h, decide_eq_false (fun q => h (hd1.1 q).1)]
theorem equal_eq (l d : List Int) (hl : d.length ≤ 1000000) (k : Nat) (hk : d.length + 1 ≤ k) : slices_Equal_int64_int64.f k l d = some (decide (l = d)) := by
  unfold slices_Equal_int64_int64.f
  by_cases h : (l.length : Int) = (d.length : Int)
  · rw [if_pos h]
    have := equal_l0 d hl l (by omega) l.length k 0 (by omega) (by omega) (by omega)
    simpa using this
  · rw [if_neg h, decide_eq_false (fun e => h (by rw [e]))]
end
theorem pCheck_in {v n : Int} {E : List S39} {d p : List Int} {rk : Int → Nat} (h : rightP n E = 0) (hv : 0 ≤ v ∧ v < n) (hm : E.length ≤ 160) (hn : n ≤ 40) (k : Nat) (hk : 200000 ≤ k) (I : Inv v n E d p [] rk (fun _ _ => True)) (hF : paths_From.f k n E v = some (d, p, 0)) (dist via : List Int) :
    ((dist = d ∧ (via.length : Int) = n ∧ rd via v = -1 ∧ GoodV v n E d via) → paths_Check.f k n E v dist via = some 0) ∧
    (¬ (dist = d ∧ (via.length : Int) = n ∧ rd via v = -1 ∧ GoodV v n E d via) → paths_Check.f k n E v dist via = some 13) := by
  obtain ⟨h0, h1, hE⟩ := right_ok n E h
  have hdl := I.dl
  unfold paths_Check.f
  rw [hF, zOb]
  dsimp only
  rw [if_pos rfl, equal_eq dist d (by omega) k (by omega), zOb]
  by_cases h2 : dist = d
  · rw [decide_eq_true h2, if_pos rfl]
    by_cases h3 : (via.length : Int) = n
    · rw [if_pos h3, if_pos hv.1, if_pos (by omega)]
      by_cases h4 : rd via v = -1
      · rw [if_pos h4, if_pos h0, if_pos (by omega), zOb, if_pos (by simp; omega)]
        have hb : n.toNat * (3 * n.toNat + 20) ≤ 40 * (3 * 40 + 20) := Nat.mul_le_mul (by omega) (by omega)
        have R : ∀ x, 0 ≤ x → rdOf false ((List.replicate n.toNat false).set v.toNat true) x = if x = v then true else rdOf false (List.replicate n.toNat false) x := fun x hx => rdB_set _ v x hv.1 (by simp; omega) hx
        have G : GI v n E d via ((List.replicate n.toNat false).set v.toNat true) := by
          refine ⟨by simp, by rw [R v hv.1, if_pos rfl], fun x a b c => ?_⟩
          rw [R x a] at c
          split at c
          · rename_i e; exact ⟨0, e⟩
          · unfold rdOf at c
            simp [List.getD, show x.toNat < n.toNat by omega] at c
        by_cases hok : ∀ x, ((0 : Nat) : Int) ≤ x → x < n → okV v E d via x
        · have hokv : ∀ x, 0 ≤ x → x < n → okV v E d via x := fun x a b => hok x a b
          by_cases hr : ∀ x, Std n d x → Rch v E via x
          · have hgood : GoodV v n E d via := ⟨hokv, fun x hx => Rch_bound hE hokv hx (hr x hx)⟩
            refine ⟨fun _ => ?_, fun hh => absurd ⟨h2, h3, h4, hgood⟩ hh⟩
            exact (pC_l0 hE ⟨h0, hn⟩ (by omega) hdl (I.big ⟨h0, hn⟩) _ (n.toNat * (3 * n.toNat + 20) + 1) 0 n.toNat k 0 (by omega) (by omega) (by omega)).1 hok (fun k hk => (pC_l1 hE ⟨h0, hn⟩ (by omega) hdl hokv n.toNat k 0 _ (by omega) (by omega) hk G).1 (fun x _ hx => hr x hx))
          · refine ⟨fun hh => absurd (fun x hx => by obtain ⟨s, _, e⟩ := hh.2.2.2.2 x hx; exact ⟨s, e⟩) hr, fun _ => ?_⟩
            exact (pC_l0 hE ⟨h0, hn⟩ (by omega) hdl (I.big ⟨h0, hn⟩) _ (n.toNat * (3 * n.toNat + 20) + 1) 13 n.toNat k 0 (by omega) (by omega) (by omega)).1 hok (fun k hk => (pC_l1 hE ⟨h0, hn⟩ (by omega) hdl hokv n.toNat k 0 _ (by omega) (by omega) hk G).2 (fun hh => hr (fun x hx => hh x (by have := hx.1; omega) hx)))
        · refine ⟨fun hh => absurd (fun x a b => hh.2.2.2.1 x a b) hok, fun _ => ?_⟩
          exact (pC_l0 hE ⟨h0, hn⟩ (by omega) hdl (I.big ⟨h0, hn⟩) _ 0 0 n.toNat k 0 (by omega) (by omega) (by omega)).2 hok
      · rw [if_neg h4]
        exact ⟨fun hh => absurd hh.2.2.1 h4, fun _ => rfl⟩
    · rw [if_neg h3]
      exact ⟨fun hh => absurd hh.2.1 h3, fun _ => rfl⟩
  · rw [decide_eq_false h2, if_neg (by decide)]
    exact ⟨fun hh => absurd hh.1 h2, fun _ => rfl⟩

def filigreelaw04_Light.f (a0_0 : Int) (l0_1 : List (S39)) (a1 : Int) : Option (Bool) := if a0_0 ≤ a1 then (some (decide ((l0_1.length : Int) ≤ (wrap64 (4 * a1))))) else (some false)
theorem filigreelaw04_Light.calls (a0_0 : Int) (A0_1 : Option Addr) (c0_1 : Nat) (l0_1 : List (S39)) (a1 : Int) (r : Bool) (w : World) (hr0_1 : Kd.C k39 w A0_1 l0_1.length l0_1) (hc0_1 : l0_1.length ≤ c0_1) (h : filigreelaw04_Light.f a0_0 l0_1 a1 = some r) :
    Calls Try.prog 10 #[.agg #[.int .i64 a0_0, .slice A0_1 l0_1.length c0_1], .int .i64 a1] w fun e w' => e = .returned (.bool r) ∧ Below w.heap.size w w' := by
  have hu24 := Try.underlying24
  have HR0_1 := zMk hr0_1
  have HC0_1 := zMk hc0_1
  clear hr0_1 hc0_1
  have HB := zMk (Below.refl w.heap.size w)
  have H : (if a0_0 ≤ a1 then (some (decide ((l0_1.length : Int) ≤ (wrap64 (4 * a1))))) else (some false)) = some r := h
  clear h
  by_cases c3 : a0_0 ≤ a1
  · rw [if_pos c3] at H
    have c3b0 : decide (a0_0 ≤ a1) = true := decide_eq_true c3
    clear c3
    obtain rfl := zOi H
    go_enter Try.func10, Try.ntmps10
    go_wp2_with (first | ((with_reducible refine gate_dst (N := 2) rfl ?_); (try (refine gate_guard (by rfl) ?_; dsimp only)); refine box_event ?hg (N := 2) ?hd (cs := #[.int .i64 a0_0, .slice A0_1 l0_1.length c0_1]) (t := 24) ?hr ?_; (case hd => rfl); (case hg => rfl); (case hr => first | (go_simp; done)|(go_simp; rfl)|(go_simp; rw [show ∀ x : Int, IntKind.u32.wrap (IntKind.u8.wrap x) = x % 256 from fun x => (by show (x % 256) % 4294967296 = x % 256; omega)])); intro gb185 hg w4 hbox hb; have BK185 := zMk (hbox); have GW185 := zMk ((by rw [hg]; exact (zBs (by exact uT HB.out)) : w.heap.size ≤ gb185)); have GE185 := zMk ((by rw [hg]; exact (zBs (by exact uT HB.out)) : w.heap.size ≤ gb185)); have IGE185 := ownGe GE185.out; replace HB := zMk (zBt (by exact uT HB.out) hb); clear hb hbox hg; have hcz5_0 : w4.cell? ⟨gb185, 0, none⟩ = some (.int .i64 a0_0) := (zKc BK185.out 0).trans rfl; have hcz5_1 : w4.cell? ⟨gb185, 1, none⟩ = some (.slice A0_1 l0_1.length c0_1) := (zKc BK185.out 1).trans rfl; have hfz5_0 := zKf BK185.out 0; have hfz5_1 := zKf BK185.out 1))
    go_ret
    exact ⟨by first | rfl | (simp [errW_none, errW_some] <;> rfl) | (simp [*, errW_none, errW_some] <;> rfl), by exact uT HB.out⟩
  · rw [if_neg c3] at H
    have c3b0 : decide (a0_0 ≤ a1) = false := decide_eq_false c3
    clear c3
    obtain rfl := zOi H
    go_enter Try.func10, Try.ntmps10
    go_wp2_with (first | ((with_reducible refine gate_dst (N := 2) rfl ?_); (try (refine gate_guard (by rfl) ?_; dsimp only)); refine box_event ?hg (N := 2) ?hd (cs := #[.int .i64 a0_0, .slice A0_1 l0_1.length c0_1]) (t := 24) ?hr ?_; (case hd => rfl); (case hg => rfl); (case hr => first | (go_simp; done)|(go_simp; rfl)|(go_simp; rw [show ∀ x : Int, IntKind.u32.wrap (IntKind.u8.wrap x) = x % 256 from fun x => (by show (x % 256) % 4294967296 = x % 256; omega)])); intro gb185 hg w6 hbox hb; have BK185 := zMk (hbox); have GW185 := zMk ((by rw [hg]; exact (zBs (by exact uT HB.out)) : w.heap.size ≤ gb185)); have GE185 := zMk ((by rw [hg]; exact (zBs (by exact uT HB.out)) : w.heap.size ≤ gb185)); have IGE185 := ownGe GE185.out; replace HB := zMk (zBt (by exact uT HB.out) hb); clear hb hbox hg; have hcz7_0 : w6.cell? ⟨gb185, 0, none⟩ = some (.int .i64 a0_0) := (zKc BK185.out 0).trans rfl; have hcz7_1 : w6.cell? ⟨gb185, 1, none⟩ = some (.slice A0_1 l0_1.length c0_1) := (zKc BK185.out 1).trans rfl; have hfz7_0 := zKf BK185.out 0; have hfz7_1 := zKf BK185.out 1))
    go_ret
    exact ⟨by first | rfl | (simp [errW_none, errW_some] <;> rfl) | (simp [*, errW_none, errW_some] <;> rfl), by exact uT HB.out⟩


def filigreelaw12_PathsChecks.j0 : Nat → Int → List Int → List Int → Bool → Int → List (S39) → Option (Bool)
  | 0, _, _, _, _, _, _ => none
  | k + 1, x1, x2, x3, x21, x215000, x215001 => if x21 = true then ((filigreelaw12_alive.f k).bind fun t216 => (some t216)) else ((paths_Check.f k x215000 x215001 x1 x2 x3).bind fun t217 => ((filigreeref12_Check.f k x215000 x215001 x1 x2 x3).bind fun t218 => (if t217 = t218 then ((filigreelaw12_alive.f k).bind fun t219 => (some t219)) else (some false))))
def filigreelaw12_PathsChecks.f (k : Nat) (a0_0 : Int) (l0_1 : List (S39)) (a1 : Int) (l2 : List Int) (l3 : List Int) : Option (Bool) := (filigreelaw04_Light.f a0_0 l0_1 30).bind fun t215 => (if t215 = true then (if (l2.length : Int) > 200 then (filigreelaw12_PathsChecks.j0 k a1 l2 l3 true a0_0 l0_1) else (filigreelaw12_PathsChecks.j0 k a1 l2 l3 (decide ((l3.length : Int) > 200)) a0_0 l0_1)) else (filigreelaw12_PathsChecks.j0 k a1 l2 l3 true a0_0 l0_1))
def filigreelaw12_PathsChecks.T3 : Bool × List (List Nat × List Nat) := (true, [([], []), ([], []), ([], []), ([], []), ([0, 1, 2, 3], [0, 1, 2, 3]), ([], []), ([], []), ([], []), ([], []), ([5, 6, 7, 8, 4], [5, 6, 7, 8]), ([4, 9], [4, 9]), ([10, 9], [10]), ([11, 11], [11]), ([11, 12], [11, 12]), ([13, 12, 0, 1, 2, 3, 4, 5, 6, 7, 8, 9, 10, 11, 12, 13], [13])])
def filigreelaw12_PathsChecks.B3 : List Nat := [0, 0, 0, 0, 15, 0, 0, 0, 0, 511, 1023, 2047, 4095, 8191, 16383]
theorem filigreelaw12_PathsChecks.tab3 : rtab .any (opsOf Try.f5 3) = filigreelaw12_PathsChecks.T3 := by kernel_rfl
theorem filigreelaw12_PathsChecks.bits3 : waitsOk filigreelaw12_PathsChecks.T3.2 filigreelaw12_PathsChecks.B3 = true := by kernel_rfl
theorem filigreelaw12_PathsChecks.calls (k : Nat) (a0_0 : Int) (A0_1 : Option Addr) (c0_1 : Nat) (l0_1 : List (S39)) (a1 : Int) (A2 : Option Addr) (c2 : Nat) (l2 : List Int) (A3 : Option Addr) (c3 : Nat) (l3 : List Int) (r : Bool) (w : World) (hr0_1 : Kd.C k39 w A0_1 l0_1.length l0_1) (hc0_1 : l0_1.length ≤ c0_1) (hr2 : Kd.C (Kd.int .i64) w A2 l2.length l2) (hc2 : l2.length ≤ c2) (hr3 : Kd.C (Kd.int .i64) w A3 l3.length l3) (hc3 : l3.length ≤ c3) (h : filigreelaw12_PathsChecks.f k a0_0 l0_1 a1 l2 l3 = some r) (hr_ : r = true) :
    Calls Try.prog 5 #[.agg #[.int .i64 a0_0, .slice A0_1 l0_1.length c0_1], .int .i64 a1, .slice A2 l2.length c2, .slice A3 l3.length c3] w fun e w' => e = .returned (.bool r) ∧ Below w.heap.size w w' := by
  have HRT := zMk hr_
  clear hr_
  have hu24 := Try.underlying24
  have HR0_1 := zMk hr0_1
  have HC0_1 := zMk hc0_1
  clear hr0_1 hc0_1
  have HR2 := zMk hr2
  have HC2 := zMk hc2
  clear hr2 hc2
  have HR3 := zMk hr3
  have HC3 := zMk hc3
  clear hr3 hc3
  have HB := zMk (Below.refl w.heap.size w)
  have H : ((filigreelaw04_Light.f a0_0 l0_1 30).bind fun t215 => (if t215 = true then (if (l2.length : Int) > 200 then (filigreelaw12_PathsChecks.j0 k a1 l2 l3 true a0_0 l0_1) else (filigreelaw12_PathsChecks.j0 k a1 l2 l3 (decide ((l3.length : Int) > 200)) a0_0 l0_1)) else (filigreelaw12_PathsChecks.j0 k a1 l2 l3 true a0_0 l0_1))) = some r := h
  clear h
  have HC5 := zMk H
  clear H
  go_enter Try.func5, Try.ntmps5
  go_upto_region 1 with (first | ((with_reducible refine gate_dst (N := 4) rfl ?_); (try (refine gate_guard (by rfl) ?_; dsimp only)); refine box_event ?hg (N := 4) ?hd (cs := #[.int .i64 a0_0, .slice A0_1 l0_1.length c0_1]) (t := 24) ?hr ?_; (case hd => rfl); (case hg => rfl); (case hr => first | (go_simp; done)|(go_simp; rfl)|(go_simp; rw [show ∀ x : Int, IntKind.u32.wrap (IntKind.u8.wrap x) = x % 256 from fun x => (by show (x % 256) % 4294967296 = x % 256; omega)])); intro gb214 hg w6 hbox hb; have BK214 := zMk (hbox); have GW214 := zMk ((by rw [hg]; exact (zBs (by exact uT HB.out)) : w.heap.size ≤ gb214)); have GE214 := zMk ((by rw [hg]; exact (zBs (by exact uT HB.out)) : w.heap.size ≤ gb214)); have IGE214 := ownGe GE214.out; replace HB := zMk (zBt (by exact uT HB.out) hb); clear hb hbox hg))
  (try simp only [Act.put, zSa, zSb, zSc])
  go_cut [21] (fun v21 wc => ∃ (kq : Nat) (x21_4 : Bool), v21 = .bool x21_4 ∧ Aside0 (filigreelaw12_PathsChecks.j0 kq a1 l2 l3 x21_4 a0_0 l0_1 = some r) ∧ Aside0 (kq ≤ k) ∧ Aside0 (wc.heap[gb214]? = some (.cells #[.int .i64 a0_0, (.slice A0_1 l0_1.length c0_1)] 24 (0, 0))) ∧ Aside0 (Below w.heap.size w wc))
  case first =>
    have H := HC5.out
    clear HC5
    replace H := bnd H
    obtain ⟨t215, A70, H⟩ := H
    have A7 := zMk A70
    clear A70
    by_cases c8 : t215 = true
    · subst c8
      replace H : (if (l2.length : Int) > 200 then (filigreelaw12_PathsChecks.j0 k a1 l2 l3 true a0_0 l0_1) else (filigreelaw12_PathsChecks.j0 k a1 l2 l3 (decide ((l3.length : Int) > 200)) a0_0 l0_1)) = some r := by rw [if_pos rfl] at H; exact H
      by_cases c9 : (l2.length : Int) > 200
      · rw [if_pos c9] at H
        have c9b0 : decide (200 < (l2.length : Int)) = true := decide_eq_true c9
        have c9b1 : decide (200 < l2.length) = true := decide_eq_true (by omega)
        clear c9
        (first | rw [c9b0] | (simp only [i64_w, i32_w]; rw [c9b0]) | rw [c9b1] | skip)
        have H' := zMk H
        clear H
        have hcz10_0 : w6.cell? ⟨gb214, 0, none⟩ = some (.int .i64 a0_0) := (zKc BK214.out 0).trans rfl
        have hcz10_1 : w6.cell? ⟨gb214, 1, none⟩ = some (.slice A0_1 l0_1.length c0_1) := (zKc BK214.out 1).trans rfl
        have hfz10_0 := zKf BK214.out 0
        have hfz10_1 := zKf BK214.out 1
        go_wp2_with (first | ((with_reducible refine gate_callee (f := 10) rfl ?_); refine goesL_ (some 10) rfl rfl Try.func10 (by kernel_rfl) rfl #[.agg #[.int .i64 a0_0, .slice A0_1 l0_1.length c0_1], .int .i64 30] rfl (by (try simp only [zMa, zMc, zMn]); first |  done|  rfl|  (simp only [zLd, zLt]; rfl)) ?_; (with_reducible refine (filigreelaw04_Light.calls a0_0 _ _ l0_1 30 true _ ?side1 ?side2 A7.out).mono ?_); (case side1 => repeat (first |  exact (Kd.C_below HR0_1.out HB.out)|(with_reducible refine zCa ?_ _)|(with_reducible refine zCn ?_ _)|(with_reducible refine zCd ?_))); (case side2 => exact HC0_1.out); rintro e w11 ⟨rfl, hb⟩; refine ⟨_, rfl, ?_⟩; replace BK214 := zMk (zKb (g := gb214) (o := .cells #[.int .i64 a0_0, .slice A0_1 l0_1.length c0_1] 24 (0, 0)) (by (with_reducible repeat (first |  refine zKn ?_ _|  refine zKd ?_|  refine zKa ?_ _)); exact BK214.out) hb); replace HB := zMk (zBt (by exact uT HB.out) hb)))
        go_meet
        case rel => exact ⟨_, (true), (by first | rfl | (simp; done) | (simp [*]; done)), H', ⟨by first | omega | exact Nat.le_refl _⟩, ⟨by (with_reducible repeat (first | refine zKn ?_ _ | refine zKd ?_ | refine zKa ?_ _)); exact BK214.out⟩, ⟨by exact uT HB.out⟩⟩
      · rw [if_neg c9] at H
        have c9b0 : decide (200 < (l2.length : Int)) = false := decide_eq_false c9
        have c9b1 : decide (200 < l2.length) = false := decide_eq_false (by omega)
        clear c9
        (first | rw [c9b0] | (simp only [i64_w, i32_w]; rw [c9b0]) | rw [c9b1] | skip)
        have H' := zMk H
        clear H
        have hcz12_0 : w6.cell? ⟨gb214, 0, none⟩ = some (.int .i64 a0_0) := (zKc BK214.out 0).trans rfl
        have hcz12_1 : w6.cell? ⟨gb214, 1, none⟩ = some (.slice A0_1 l0_1.length c0_1) := (zKc BK214.out 1).trans rfl
        have hfz12_0 := zKf BK214.out 0
        have hfz12_1 := zKf BK214.out 1
        go_wp2_with (first | ((with_reducible refine gate_callee (f := 10) rfl ?_); refine goesL_ (some 10) rfl rfl Try.func10 (by kernel_rfl) rfl #[.agg #[.int .i64 a0_0, .slice A0_1 l0_1.length c0_1], .int .i64 30] rfl (by (try simp only [zMa, zMc, zMn]); first |  done|  rfl|  (simp only [zLd, zLt]; rfl)) ?_; (with_reducible refine (filigreelaw04_Light.calls a0_0 _ _ l0_1 30 true _ ?side1 ?side2 A7.out).mono ?_); (case side1 => repeat (first |  exact (Kd.C_below HR0_1.out HB.out)|(with_reducible refine zCa ?_ _)|(with_reducible refine zCn ?_ _)|(with_reducible refine zCd ?_))); (case side2 => exact HC0_1.out); rintro e w13 ⟨rfl, hb⟩; refine ⟨_, rfl, ?_⟩; replace BK214 := zMk (zKb (g := gb214) (o := .cells #[.int .i64 a0_0, .slice A0_1 l0_1.length c0_1] 24 (0, 0)) (by (with_reducible repeat (first |  refine zKn ?_ _|  refine zKd ?_|  refine zKa ?_ _)); exact BK214.out) hb); replace HB := zMk (zBt (by exact uT HB.out) hb)))
        go_meet
        case rel => exact ⟨_, (decide ((l3.length : Int) > 200)), (by first | rfl | (simp; done) | (simp [*]; done)), H', ⟨by first | omega | exact Nat.le_refl _⟩, ⟨by (with_reducible repeat (first | refine zKn ?_ _ | refine zKd ?_ | refine zKa ?_ _)); exact BK214.out⟩, ⟨by exact uT HB.out⟩⟩
    · replace c8 := Bool.eq_false_iff.mpr c8
      subst c8
      replace H : (filigreelaw12_PathsChecks.j0 k a1 l2 l3 true a0_0 l0_1) = some r := by rw [if_neg (show ¬ (false = true) by decide)] at H; exact H
      have H' := zMk H
      clear H
      have hcz14_0 : w6.cell? ⟨gb214, 0, none⟩ = some (.int .i64 a0_0) := (zKc BK214.out 0).trans rfl
      have hcz14_1 : w6.cell? ⟨gb214, 1, none⟩ = some (.slice A0_1 l0_1.length c0_1) := (zKc BK214.out 1).trans rfl
      have hfz14_0 := zKf BK214.out 0
      have hfz14_1 := zKf BK214.out 1
      go_wp2_with (first | ((with_reducible refine gate_callee (f := 10) rfl ?_); refine goesL_ (some 10) rfl rfl Try.func10 (by kernel_rfl) rfl #[.agg #[.int .i64 a0_0, .slice A0_1 l0_1.length c0_1], .int .i64 30] rfl (by (try simp only [zMa, zMc, zMn]); first |  done|  rfl|  (simp only [zLd, zLt]; rfl)) ?_; (with_reducible refine (filigreelaw04_Light.calls a0_0 _ _ l0_1 30 false _ ?side1 ?side2 A7.out).mono ?_); (case side1 => repeat (first |  exact (Kd.C_below HR0_1.out HB.out)|(with_reducible refine zCa ?_ _)|(with_reducible refine zCn ?_ _)|(with_reducible refine zCd ?_))); (case side2 => exact HC0_1.out); rintro e w15 ⟨rfl, hb⟩; refine ⟨_, rfl, ?_⟩; replace BK214 := zMk (zKb (g := gb214) (o := .cells #[.int .i64 a0_0, .slice A0_1 l0_1.length c0_1] 24 (0, 0)) (by (with_reducible repeat (first |  refine zKn ?_ _|  refine zKd ?_|  refine zKa ?_ _)); exact BK214.out) hb); replace HB := zMk (zBt (by exact uT HB.out) hb)))
      go_meet
      case rel => exact ⟨_, (true), (by first | rfl | (simp; done) | (simp [*]; done)), H', ⟨by first | omega | exact Nat.le_refl _⟩, ⟨by (with_reducible repeat (first | refine zKn ?_ _ | refine zKd ?_ | refine zKa ?_ _)); exact BK214.out⟩, ⟨by exact uT HB.out⟩⟩
  case rest =>
    clear HC5
    obtain ⟨kq, x21_4, rfl, HA, HJ4, BK214, HB⟩ := hcut
    rcases kq with _ | kj4
    · exact absurd HA.out (by simp [filigreelaw12_PathsChecks.j0])
    have H := HA.out
    clear HA
    simp only [filigreelaw12_PathsChecks.j0] at H
    by_cases c16 : x21_4 = true
    · subst c16
      replace H : ((filigreelaw12_alive.f kj4).bind fun t216 => (some t216)) = some r := by rw [if_pos rfl] at H; exact H
      replace H := bnd H
      obtain ⟨t216, A170, H⟩ := H
      have A17 := zMk A170
      clear A170
      obtain rfl := zOi H
      go_wp2_with (first | ((with_reducible refine gate_callee (f := 9) rfl ?_); refine goesL_ (some 22) rfl rfl Try.func9 (by kernel_rfl) rfl #[] rfl (by (try simp only [zMa, zMc, zMn]); first |  done|  rfl|  (simp only [zLd, zLt]; rfl)) ?_; (with_reducible refine (filigreelaw12_alive.calls kj4  t216 _ A17.out).mono ?_); rintro e w18 ⟨rfl, hb⟩; refine ⟨_, rfl, ?_⟩; replace BK214 := zMk (zKb (g := gb214) (o := .cells #[.int .i64 a0_0, .slice A0_1 l0_1.length c0_1] 24 (0, 0)) (by (with_reducible repeat (first |  refine zKn ?_ _|  refine zKd ?_|  refine zKa ?_ _)); exact BK214.out) hb); replace HB := zMk (zBt (by exact uT HB.out) hb)))
      go_ret
      exact ⟨by first | rfl | (simp [errW_none, errW_some] <;> rfl) | (simp [*, errW_none, errW_some] <;> rfl), by exact uT HB.out⟩
    · replace c16 := Bool.eq_false_iff.mpr c16
      subst c16
      replace H : ((paths_Check.f kj4 a0_0 l0_1 a1 l2 l3).bind fun t217 => ((filigreeref12_Check.f kj4 a0_0 l0_1 a1 l2 l3).bind fun t218 => (if t217 = t218 then ((filigreelaw12_alive.f kj4).bind fun t219 => (some t219)) else (some false)))) = some r := by rw [if_neg (show ¬ (false = true) by decide)] at H; exact H
      replace H := bnd H
      obtain ⟨t217, A190, H⟩ := H
      have A19 := zMk A190
      clear A190
      replace H := bnd H
      obtain ⟨t218, A200, H⟩ := H
      have A20 := zMk A200
      clear A200
      by_cases c21 : t217 = t218
      · rw [if_pos c21] at H
        have c21b0 : (t217 == t218) = true := beq_iff_eq.mpr c21
        have c21b1 : (t217 != t218) = false := bne_eq_false_iff_eq.mpr c21
        clear c21
        replace H := bnd H
        obtain ⟨t219, A220, H⟩ := H
        have A22 := zMk A220
        clear A220
        obtain rfl := zOi H
        try go_wp2
        replace BK214 := zMk (zKd BK214.out)
        replace HB := zMk (zBd HB.out)
        refine start_ (n := 15) (S := fun w' => w'.cell? ⟨gb214, 0, none⟩ = some (.int .i64 a0_0) ∧ w'.cell? ⟨gb214, 1, none⟩ = some (.slice A0_1 l0_1.length c0_1)) (ds := []) #[false, false, false, false, false, false, false, false, false, false, false, false, false, false, false] (by kernel_rfl) rfl rfl ⟨(zKc BK214.out 0).trans rfl, (zKc BK214.out 1).trans rfl⟩ (fun hHeld => ?_); refine with_tabW filigreelaw12_PathsChecks.tab3 filigreelaw12_PathsChecks.bits3 (fun HT_ HW_ => ?_)
        generalize wc.drew = w23 at BK214 HB hHeld ⊢
        refine pure_ (i := 1) (N := some 24) (v := ?_) (a' := ?_) #[false, true, false, false, false, false, false, false, false, false, false, false, false, false, false] rfl rfl (any_of HT_.out (by kernel_rfl)) (fun _ _ _ h => h) (Or.inl ⟨by rfl, ?_⟩) ?_ ?_
        rotate_left
        · intro w'
          go_simp
          with_reducible rfl
        rotate_left
        · simp only [Act.put, zSa, zSb, zSc, i64_w, i32_w]
          rfl
        refine pure_ (i := 2) (N := some 25) (v := ?_) (a' := ?_) #[false, true, true, false, false, false, false, false, false, false, false, false, false, false, false] rfl rfl (any_of HT_.out (by kernel_rfl)) (fun _ _ _ h => h) (Or.inl ⟨by rfl, ?_⟩) ?_ ?_
        rotate_left
        · intro w'
          go_simp
          with_reducible rfl
        rotate_left
        · simp only [Act.put, zSa, zSb, zSc, i64_w, i32_w]
          rfl
        refine pure_ (i := 3) (N := some 26) (v := ?_) (a' := ?_) #[false, true, true, true, false, false, false, false, false, false, false, false, false, false, false] rfl rfl (any_of HT_.out (by kernel_rfl)) (fun _ _ _ h => h) (Or.inl ⟨by rfl, ?_⟩) ?_ ?_
        rotate_left
        · intro w'
          go_simp
          with_reducible rfl
        rotate_left
        · simp only [Act.put, zSa, zSb, zSc, i64_w, i32_w]
          rfl
        refine pure_ (i := 6) (N := some 29) (v := ?_) (a' := ?_) #[false, true, true, true, false, false, true, false, false, false, false, false, false, false, false] rfl rfl (any_of HT_.out (by kernel_rfl)) (fun _ _ _ h => h) (Or.inl ⟨by rfl, ?_⟩) ?_ ?_
        rotate_left
        · intro w'
          go_simp
          with_reducible rfl
        rotate_left
        · simp only [Act.put, zSa, zSb, zSc, i64_w, i32_w]
          rfl
        refine pure_ (i := 7) (N := some 30) (v := ?_) (a' := ?_) #[false, true, true, true, false, false, true, true, false, false, false, false, false, false, false] rfl rfl (any_of HT_.out (by kernel_rfl)) (fun _ _ _ h => h) (Or.inl ⟨by rfl, ?_⟩) ?_ ?_
        rotate_left
        · intro w'
          go_simp
          with_reducible rfl
        rotate_left
        · simp only [Act.put, zSa, zSb, zSc, i64_w, i32_w]
          rfl
        refine pure_ (i := 8) (N := some 31) (v := ?_) (a' := ?_) #[false, true, true, true, false, false, true, true, true, false, false, false, false, false, false] rfl rfl (any_of HT_.out (by kernel_rfl)) (fun _ _ _ h => h) (Or.inl ⟨by rfl, ?_⟩) ?_ ?_
        rotate_left
        · intro w'
          go_simp
          with_reducible rfl
        rotate_left
        · simp only [Act.put, zSa, zSb, zSc, i64_w, i32_w]
          rfl
        refine take_ (i := 0) (N := some 23) (v := ?_) (a' := ?_) #[true, true, true, true, false, false, true, true, true, false, false, false, false, false, false] rfl rfl (take_ofW HT_.out HW_.out (by kernel_rfl)) (fun _ _ _ h => h) (Or.inl ⟨by rfl, ?_⟩) hHeld ?_ ?_
        rotate_left
        · rintro w' ⟨s0, s1⟩
          go_simp
          with_reducible rfl
        rotate_left
        · simp only [Act.put, zSa, zSb, zSc, i64_w, i32_w]
          rfl
        refine take_ (i := 5) (N := some 28) (v := ?_) (a' := ?_) #[true, true, true, true, false, true, true, true, true, false, false, false, false, false, false] rfl rfl (take_ofW HT_.out HW_.out (by kernel_rfl)) (fun _ _ _ h => h) (Or.inl ⟨by rfl, ?_⟩) hHeld ?_ ?_
        rotate_left
        · rintro w' ⟨s0, s1⟩
          go_simp
          with_reducible rfl
        rotate_left
        · simp only [Act.put, zSa, zSb, zSc, i64_w, i32_w]
          rfl
        refine one_ (i := 4) (N := some 27) #[true, true, true, true, true, true, true, true, true, false, false, false, false, false, false] rfl rfl (one_of HT_.out (by kernel_rfl)) (by decide) (fun K hK => ?_)
        refine goes_ Try.func15 (by kernel_rfl) rfl #[.agg #[.int .i64 a0_0, .slice A0_1 l0_1.length c0_1], .int .i64 a1, .slice A2 l2.length c2, .slice A3 l3.length c3] (by rfl) rfl rfl (by (try simp only [zMa, zMc, zMn]); first | done | rfl | (simp only [zLd, zLt]; rfl)) ?_
        with_reducible refine (paths_Check.calls kj4 a0_0 _ _ l0_1 a1 _ _ l2 _ _ l3 t217 _ ?side1 ?side2 ?side3 ?side4 ?side5 ?side6 A19.out).mono ?_
        (case side1 => repeat (first | exact (Kd.C_below HR0_1.out HB.out) | (with_reducible refine zCa ?_ _) | (with_reducible refine zCn ?_ _) | (with_reducible refine zCd ?_)))
        (case side2 => exact HC0_1.out)
        (case side3 => repeat (first | exact (Kd.C_below HR2.out HB.out) | (with_reducible refine zCa ?_ _) | (with_reducible refine zCn ?_ _) | (with_reducible refine zCd ?_)))
        (case side4 => exact HC2.out)
        (case side5 => repeat (first | exact (Kd.C_below HR3.out HB.out) | (with_reducible refine zCa ?_ _) | (with_reducible refine zCn ?_ _) | (with_reducible refine zCd ?_)))
        (case side6 => exact HC3.out)
        rintro e w24 ⟨rfl, hb⟩
        refine ⟨_, rfl, ?_⟩
        replace BK214 := zMk (zKb (g := gb214) (o := .cells #[.int .i64 a0_0, .slice A0_1 l0_1.length c0_1] 24 (0, 0)) (by (with_reducible repeat (first | refine zKn ?_ _ | refine zKd ?_ | refine zKa ?_ _)); exact BK214.out) hb)
        replace HB := zMk (zBt (by exact uT HB.out) hb)
        refine hK.out _ _ ⟨(zKc BK214.out 0).trans rfl, (zKc BK214.out 1).trans rfl⟩ (fun hHeld => ?_)
        clear hK K
        refine norm_ (a' := ?_) ?_ ?_
        rotate_left
        · show Act.put _ (some 27) _ = _
          simp only [Act.put, zSa, zSb, zSc, i64_w, i32_w]
          rfl
        refine one_ (i := 9) (N := some 32) #[true, true, true, true, true, true, true, true, true, true, false, false, false, false, false] rfl rfl (one_of HT_.out (by kernel_rfl)) (by decide) (fun K hK => ?_)
        refine goes_ Try.func14 (by kernel_rfl) rfl #[.agg #[.int .i64 a0_0, .slice A0_1 l0_1.length c0_1], .int .i64 a1, .slice A2 l2.length c2, .slice A3 l3.length c3] (by rfl) rfl rfl (by (try simp only [zMa, zMc, zMn]); first | done | rfl | (simp only [zLd, zLt]; rfl)) ?_
        with_reducible refine (filigreeref12_Check.calls kj4 a0_0 _ _ l0_1 a1 _ _ l2 _ _ l3 t218 _ ?side1 ?side2 ?side3 ?side4 ?side5 ?side6 A20.out).mono ?_
        (case side1 => repeat (first | exact (Kd.C_below HR0_1.out HB.out) | (with_reducible refine zCa ?_ _) | (with_reducible refine zCn ?_ _) | (with_reducible refine zCd ?_)))
        (case side2 => exact HC0_1.out)
        (case side3 => repeat (first | exact (Kd.C_below HR2.out HB.out) | (with_reducible refine zCa ?_ _) | (with_reducible refine zCn ?_ _) | (with_reducible refine zCd ?_)))
        (case side4 => exact HC2.out)
        (case side5 => repeat (first | exact (Kd.C_below HR3.out HB.out) | (with_reducible refine zCa ?_ _) | (with_reducible refine zCn ?_ _) | (with_reducible refine zCd ?_)))
        (case side6 => exact HC3.out)
        rintro e w25 ⟨rfl, hb⟩
        refine ⟨_, rfl, ?_⟩
        replace BK214 := zMk (zKb (g := gb214) (o := .cells #[.int .i64 a0_0, .slice A0_1 l0_1.length c0_1] 24 (0, 0)) (by (with_reducible repeat (first | refine zKn ?_ _ | refine zKd ?_ | refine zKa ?_ _)); exact BK214.out) hb)
        replace HB := zMk (zBt (by exact uT HB.out) hb)
        refine hK.out _ _ ⟨(zKc BK214.out 0).trans rfl, (zKc BK214.out 1).trans rfl⟩ (fun hHeld => ?_)
        clear hK K
        refine norm_ (a' := ?_) ?_ ?_
        rotate_left
        · show Act.put _ (some 32) _ = _
          simp only [Act.put, zSa, zSb, zSc, i64_w, i32_w]
          rfl
        refine pure_ (i := 10) (N := some 33) (v := ?_) (a' := ?_) #[true, true, true, true, true, true, true, true, true, true, true, false, false, false, false] rfl rfl (any_of HT_.out (by kernel_rfl)) (fun _ _ _ h => h) (Or.inl ⟨by rfl, ?_⟩) ?_ ?_
        rotate_left
        · intro w'
          go_simp
          with_reducible rfl
        rotate_left
        · simp only [Act.put, zSa, zSb, zSc, i64_w, i32_w]
          rfl
        refine pure_ (i := 11) (N := some 34) (v := ?_) (a' := ?_) #[true, true, true, true, true, true, true, true, true, true, true, true, false, false, false] rfl rfl (any_of HT_.out (by kernel_rfl)) (fun _ _ _ h => h) (Or.inl ⟨by rfl, ?_⟩) ?_ ?_
        rotate_left
        · intro w'
          go_simp
          with_reducible rfl
        rotate_left
        · simp only [Act.put, zSa, zSb, zSc, i64_w, i32_w]
          rfl
        refine one_ (i := 12) (N := some 35) #[true, true, true, true, true, true, true, true, true, true, true, true, true, false, false] rfl rfl (one_of HT_.out (by kernel_rfl)) (by decide) (fun K hK => ?_)
        refine goes_ Try.func9 (by kernel_rfl) rfl #[] (by rfl) rfl rfl (by (try simp only [zMa, zMc, zMn]); first | done | rfl | (simp only [zLd, zLt]; rfl)) ?_
        with_reducible refine (filigreelaw12_alive.calls kj4  t219 _ A22.out).mono ?_
        rintro e w26 ⟨rfl, hb⟩
        refine ⟨_, rfl, ?_⟩
        replace BK214 := zMk (zKb (g := gb214) (o := .cells #[.int .i64 a0_0, .slice A0_1 l0_1.length c0_1] 24 (0, 0)) (by (with_reducible repeat (first | refine zKn ?_ _ | refine zKd ?_ | refine zKa ?_ _)); exact BK214.out) hb)
        replace HB := zMk (zBt (by exact uT HB.out) hb)
        refine hK.out _ _ ⟨(zKc BK214.out 0).trans rfl, (zKc BK214.out 1).trans rfl⟩ (fun hHeld => ?_)
        clear hK K
        refine norm_ (a' := ?_) ?_ ?_
        rotate_left
        · show Act.put _ (some 35) _ = _
          simp only [Act.put, zSa, zSb, zSc, i64_w, i32_w]
          rfl
        refine pure_ (i := 13) (N := some 36) (v := ?_) (a' := ?_) #[true, true, true, true, true, true, true, true, true, true, true, true, true, true, false] rfl rfl (any_of HT_.out (by kernel_rfl)) (fun _ _ _ h => h) (Or.inl ⟨by rfl, ?_⟩) ?_ ?_
        rotate_left
        · intro w'
          go_simp
          with_reducible rfl
        rotate_left
        · simp only [Act.put, zSa, zSb, zSc, i64_w, i32_w]
          rfl
        refine pure_ (i := 14) (N := some 8) (v := ?_) (a' := ?_) #[true, true, true, true, true, true, true, true, true, true, true, true, true, true, true] rfl rfl (any_of HT_.out (by kernel_rfl)) (fun _ _ _ h => h) (Or.inl ⟨by rfl, ?_⟩) ?_ ?_
        rotate_left
        · intro w'
          go_simp
          with_reducible rfl
        rotate_left
        · simp only [Act.put, zSa, zSb, zSc, i64_w, i32_w]
          rfl
        refine done_ (done_of HT_.out (by kernel_rfl)) ?_
        try go_wp2
        go_ret
        exact ⟨by first | rfl | (simp [errW_none, errW_some] <;> rfl) | (simp [*, errW_none, errW_some] <;> rfl), by exact uT HB.out⟩
      · rw [if_neg c21] at H
        have c21b0 : (t217 == t218) = false := beq_eq_false_iff_ne.mpr c21
        have c21b1 : (t217 != t218) = true := bne_iff_ne.mpr c21
        obtain rfl := zOi H
        try go_wp2
        replace BK214 := zMk (zKd BK214.out)
        replace HB := zMk (zBd HB.out)
        refine start_ (n := 15) (S := fun w' => w'.cell? ⟨gb214, 0, none⟩ = some (.int .i64 a0_0) ∧ w'.cell? ⟨gb214, 1, none⟩ = some (.slice A0_1 l0_1.length c0_1)) (ds := []) #[false, false, false, false, false, false, false, false, false, false, false, false, false, false, false] (by kernel_rfl) rfl rfl ⟨(zKc BK214.out 0).trans rfl, (zKc BK214.out 1).trans rfl⟩ (fun hHeld => ?_); refine with_tabW filigreelaw12_PathsChecks.tab3 filigreelaw12_PathsChecks.bits3 (fun HT_ HW_ => ?_)
        generalize wc.drew = w27 at BK214 HB hHeld ⊢
        refine pure_ (i := 1) (N := some 24) (v := ?_) (a' := ?_) #[false, true, false, false, false, false, false, false, false, false, false, false, false, false, false] rfl rfl (any_of HT_.out (by kernel_rfl)) (fun _ _ _ h => h) (Or.inl ⟨by rfl, ?_⟩) ?_ ?_
        rotate_left
        · intro w'
          go_simp
          with_reducible rfl
        rotate_left
        · simp only [Act.put, zSa, zSb, zSc, i64_w, i32_w]
          rfl
        refine pure_ (i := 2) (N := some 25) (v := ?_) (a' := ?_) #[false, true, true, false, false, false, false, false, false, false, false, false, false, false, false] rfl rfl (any_of HT_.out (by kernel_rfl)) (fun _ _ _ h => h) (Or.inl ⟨by rfl, ?_⟩) ?_ ?_
        rotate_left
        · intro w'
          go_simp
          with_reducible rfl
        rotate_left
        · simp only [Act.put, zSa, zSb, zSc, i64_w, i32_w]
          rfl
        refine pure_ (i := 3) (N := some 26) (v := ?_) (a' := ?_) #[false, true, true, true, false, false, false, false, false, false, false, false, false, false, false] rfl rfl (any_of HT_.out (by kernel_rfl)) (fun _ _ _ h => h) (Or.inl ⟨by rfl, ?_⟩) ?_ ?_
        rotate_left
        · intro w'
          go_simp
          with_reducible rfl
        rotate_left
        · simp only [Act.put, zSa, zSb, zSc, i64_w, i32_w]
          rfl
        refine pure_ (i := 6) (N := some 29) (v := ?_) (a' := ?_) #[false, true, true, true, false, false, true, false, false, false, false, false, false, false, false] rfl rfl (any_of HT_.out (by kernel_rfl)) (fun _ _ _ h => h) (Or.inl ⟨by rfl, ?_⟩) ?_ ?_
        rotate_left
        · intro w'
          go_simp
          with_reducible rfl
        rotate_left
        · simp only [Act.put, zSa, zSb, zSc, i64_w, i32_w]
          rfl
        refine pure_ (i := 7) (N := some 30) (v := ?_) (a' := ?_) #[false, true, true, true, false, false, true, true, false, false, false, false, false, false, false] rfl rfl (any_of HT_.out (by kernel_rfl)) (fun _ _ _ h => h) (Or.inl ⟨by rfl, ?_⟩) ?_ ?_
        rotate_left
        · intro w'
          go_simp
          with_reducible rfl
        rotate_left
        · simp only [Act.put, zSa, zSb, zSc, i64_w, i32_w]
          rfl
        refine pure_ (i := 8) (N := some 31) (v := ?_) (a' := ?_) #[false, true, true, true, false, false, true, true, true, false, false, false, false, false, false] rfl rfl (any_of HT_.out (by kernel_rfl)) (fun _ _ _ h => h) (Or.inl ⟨by rfl, ?_⟩) ?_ ?_
        rotate_left
        · intro w'
          go_simp
          with_reducible rfl
        rotate_left
        · simp only [Act.put, zSa, zSb, zSc, i64_w, i32_w]
          rfl
        refine take_ (i := 0) (N := some 23) (v := ?_) (a' := ?_) #[true, true, true, true, false, false, true, true, true, false, false, false, false, false, false] rfl rfl (take_ofW HT_.out HW_.out (by kernel_rfl)) (fun _ _ _ h => h) (Or.inl ⟨by rfl, ?_⟩) hHeld ?_ ?_
        rotate_left
        · rintro w' ⟨s0, s1⟩
          go_simp
          with_reducible rfl
        rotate_left
        · simp only [Act.put, zSa, zSb, zSc, i64_w, i32_w]
          rfl
        refine take_ (i := 5) (N := some 28) (v := ?_) (a' := ?_) #[true, true, true, true, false, true, true, true, true, false, false, false, false, false, false] rfl rfl (take_ofW HT_.out HW_.out (by kernel_rfl)) (fun _ _ _ h => h) (Or.inl ⟨by rfl, ?_⟩) hHeld ?_ ?_
        rotate_left
        · rintro w' ⟨s0, s1⟩
          go_simp
          with_reducible rfl
        rotate_left
        · simp only [Act.put, zSa, zSb, zSc, i64_w, i32_w]
          rfl
        refine one_ (i := 4) (N := some 27) #[true, true, true, true, true, true, true, true, true, false, false, false, false, false, false] rfl rfl (one_of HT_.out (by kernel_rfl)) (by decide) (fun K hK => ?_)
        refine goes_ Try.func15 (by kernel_rfl) rfl #[.agg #[.int .i64 a0_0, .slice A0_1 l0_1.length c0_1], .int .i64 a1, .slice A2 l2.length c2, .slice A3 l3.length c3] (by rfl) rfl rfl (by (try simp only [zMa, zMc, zMn]); first | done | rfl | (simp only [zLd, zLt]; rfl)) ?_
        with_reducible refine (paths_Check.calls kj4 a0_0 _ _ l0_1 a1 _ _ l2 _ _ l3 t217 _ ?side1 ?side2 ?side3 ?side4 ?side5 ?side6 A19.out).mono ?_
        (case side1 => repeat (first | exact (Kd.C_below HR0_1.out HB.out) | (with_reducible refine zCa ?_ _) | (with_reducible refine zCn ?_ _) | (with_reducible refine zCd ?_)))
        (case side2 => exact HC0_1.out)
        (case side3 => repeat (first | exact (Kd.C_below HR2.out HB.out) | (with_reducible refine zCa ?_ _) | (with_reducible refine zCn ?_ _) | (with_reducible refine zCd ?_)))
        (case side4 => exact HC2.out)
        (case side5 => repeat (first | exact (Kd.C_below HR3.out HB.out) | (with_reducible refine zCa ?_ _) | (with_reducible refine zCn ?_ _) | (with_reducible refine zCd ?_)))
        (case side6 => exact HC3.out)
        rintro e w28 ⟨rfl, hb⟩
        refine ⟨_, rfl, ?_⟩
        replace BK214 := zMk (zKb (g := gb214) (o := .cells #[.int .i64 a0_0, .slice A0_1 l0_1.length c0_1] 24 (0, 0)) (by (with_reducible repeat (first | refine zKn ?_ _ | refine zKd ?_ | refine zKa ?_ _)); exact BK214.out) hb)
        replace HB := zMk (zBt (by exact uT HB.out) hb)
        refine hK.out _ _ ⟨(zKc BK214.out 0).trans rfl, (zKc BK214.out 1).trans rfl⟩ (fun hHeld => ?_)
        clear hK K
        refine norm_ (a' := ?_) ?_ ?_
        rotate_left
        · show Act.put _ (some 27) _ = _
          simp only [Act.put, zSa, zSb, zSc, i64_w, i32_w]
          rfl
        refine one_ (i := 9) (N := some 32) #[true, true, true, true, true, true, true, true, true, true, false, false, false, false, false] rfl rfl (one_of HT_.out (by kernel_rfl)) (by decide) (fun K hK => ?_)
        refine goes_ Try.func14 (by kernel_rfl) rfl #[.agg #[.int .i64 a0_0, .slice A0_1 l0_1.length c0_1], .int .i64 a1, .slice A2 l2.length c2, .slice A3 l3.length c3] (by rfl) rfl rfl (by (try simp only [zMa, zMc, zMn]); first | done | rfl | (simp only [zLd, zLt]; rfl)) ?_
        with_reducible refine (filigreeref12_Check.calls kj4 a0_0 _ _ l0_1 a1 _ _ l2 _ _ l3 t218 _ ?side1 ?side2 ?side3 ?side4 ?side5 ?side6 A20.out).mono ?_
        (case side1 => repeat (first | exact (Kd.C_below HR0_1.out HB.out) | (with_reducible refine zCa ?_ _) | (with_reducible refine zCn ?_ _) | (with_reducible refine zCd ?_)))
        (case side2 => exact HC0_1.out)
        (case side3 => repeat (first | exact (Kd.C_below HR2.out HB.out) | (with_reducible refine zCa ?_ _) | (with_reducible refine zCn ?_ _) | (with_reducible refine zCd ?_)))
        (case side4 => exact HC2.out)
        (case side5 => repeat (first | exact (Kd.C_below HR3.out HB.out) | (with_reducible refine zCa ?_ _) | (with_reducible refine zCn ?_ _) | (with_reducible refine zCd ?_)))
        (case side6 => exact HC3.out)
        rintro e w29 ⟨rfl, hb⟩
        refine ⟨_, rfl, ?_⟩
        replace BK214 := zMk (zKb (g := gb214) (o := .cells #[.int .i64 a0_0, .slice A0_1 l0_1.length c0_1] 24 (0, 0)) (by (with_reducible repeat (first | refine zKn ?_ _ | refine zKd ?_ | refine zKa ?_ _)); exact BK214.out) hb)
        replace HB := zMk (zBt (by exact uT HB.out) hb)
        refine hK.out _ _ ⟨(zKc BK214.out 0).trans rfl, (zKc BK214.out 1).trans rfl⟩ (fun hHeld => ?_)
        clear hK K
        refine norm_ (a' := ?_) ?_ ?_
        rotate_left
        · show Act.put _ (some 32) _ = _
          simp only [Act.put, zSa, zSb, zSc, i64_w, i32_w]
          rfl
        refine pure_ (i := 10) (N := some 33) (v := ?_) (a' := ?_) #[true, true, true, true, true, true, true, true, true, true, true, false, false, false, false] rfl rfl (any_of HT_.out (by kernel_rfl)) (fun _ _ _ h => h) (Or.inl ⟨by rfl, ?_⟩) ?_ ?_
        rotate_left
        · intro w'
          go_simp
          with_reducible rfl
        rotate_left
        · simp only [Act.put, zSa, zSb, zSc, i64_w, i32_w]
          rfl
        refine pure_ (i := 11) (N := some 34) (v := ?_) (a' := ?_) #[true, true, true, true, true, true, true, true, true, true, true, true, false, false, false] rfl rfl (any_of HT_.out (by kernel_rfl)) (fun _ _ _ h => h) (Or.inl ⟨by rfl, ?_⟩) ?_ ?_
        rotate_left
        · intro w'
          go_simp
          with_reducible rfl
        rotate_left
        · simp only [Act.put, zSa, zSb, zSc, i64_w, i32_w]
          rfl
        refine pure_ (i := 12) (N := some 35) (v := undef) (a' := ?_) #[true, true, true, true, true, true, true, true, true, true, true, true, true, false, false] rfl rfl (any_of HT_.out (by kernel_rfl)) (fun _ _ _ h => h) (Or.inr ⟨by rfl, rfl⟩) ?_ ?_
        rotate_left
        · simp only [Act.put, zSa, zSb, zSc, i64_w, i32_w]
          rfl
        refine pure_ (i := 13) (N := some 36) (v := ?_) (a' := ?_) #[true, true, true, true, true, true, true, true, true, true, true, true, true, true, false] rfl rfl (any_of HT_.out (by kernel_rfl)) (fun _ _ _ h => h) (Or.inl ⟨by rfl, ?_⟩) ?_ ?_
        rotate_left
        · intro w'
          go_simp
          with_reducible rfl
        rotate_left
        · simp only [Act.put, zSa, zSb, zSc, i64_w, i32_w]
          rfl
        refine pure_ (i := 14) (N := some 8) (v := ?_) (a' := ?_) #[true, true, true, true, true, true, true, true, true, true, true, true, true, true, true] rfl rfl (any_of HT_.out (by kernel_rfl)) (fun _ _ _ h => h) (Or.inl ⟨by rfl, ?_⟩) ?_ ?_
        rotate_left
        · intro w'
          go_simp
          with_reducible rfl
        rotate_left
        · simp only [Act.put, zSa, zSb, zSc, i64_w, i32_w]
          rfl
        refine done_ (done_of HT_.out (by kernel_rfl)) ?_
        try go_wp2
        go_ret
        exact ⟨by first | rfl | (simp [errW_none, errW_some] <;> rfl) | (simp [*, errW_none, errW_some] <;> rfl), by exact uT HB.out⟩

def filigreelaw12_PathsChecks.Pure : Prop := ∀ (a0_0 : Int) (l0_1 : List A.S39) (a1 : Int) (l2 : List Int) (l3 : List Int), (Lit.int .i64 a0_0).wf = true → l0_1.length ≤ maxLen → (∀ x ∈ l0_1, (Lit.int .i64 x.f0).wf = true ∧ (Lit.int .i64 x.f1).wf = true ∧ (Lit.int .i64 x.f2).wf = true) → (Lit.int .i64 a1).wf = true → l2.length ≤ maxLen → l2.length * 8 ≤ 140737488351232 → (∀ x ∈ l2, (Lit.int .i64 x).wf = true) → l3.length ≤ maxLen → l3.length * 8 ≤ 140737488351232 → (∀ x ∈ l3, (Lit.int .i64 x).wf = true) → ∃ k, filigreelaw12_PathsChecks.f k a0_0 l0_1 a1 l2 l3 = some true
theorem pure_PathsChecks : filigreelaw12_PathsChecks.Pure := by
  intro n E v dist via _ _ _ _ _ _ _ _ _ _
  obtain ⟨k, hk⟩ : ∃ k : Nat, k = 1000001 := ⟨_, rfl⟩
  refine ⟨k, ?_⟩
  unfold filigreelaw12_PathsChecks.f filigreelaw04_Light.f
  have a1 : filigreelaw12_alive.f 1000000 = some true := alive_at0
  have w120 : wrap64 (4 * 30) = 120 := by decide +kernel
  have j0 : ∀ b, filigreelaw12_PathsChecks.j0 k v dist via b n E = (if b = true then ((filigreelaw12_alive.f 1000000).bind fun t246 => (some t246)) else ((paths_Check.f 1000000 n E v dist via).bind fun t247 => ((filigreeref12_Check.f 1000000 n E v dist via).bind fun t248 => (if t247 = t248 then ((filigreelaw12_alive.f 1000000).bind fun t249 => (some t249)) else (some false))))) := fun _ => by rw [hk]; rfl
  have jT : filigreelaw12_PathsChecks.j0 k v dist via true n E = some true := by rw [j0, if_pos rfl, a1]; rfl
  rw [w120]
  by_cases h1 : n ≤ 30
  rotate_left
  · rw [if_neg h1, zOb, if_neg (by decide)]; exact jT
  rw [if_pos h1, zOb]
  by_cases h2 : (E.length : Int) ≤ 120
  rotate_left
  · rw [decide_eq_false h2, if_neg (by decide)]; exact jT
  rw [decide_eq_true h2, if_pos rfl]
  have main : paths_Check.f 1000000 n E v dist via = filigreeref12_Check.f 1000000 n E v dist via ∧ ∃ q, filigreeref12_Check.f 1000000 n E v dist via = some q := by
    by_cases h3 : rightP n E = 0
    · by_cases hv : 0 ≤ v ∧ v < n
      · obtain ⟨d, p, rk, I, e⟩ := From_eq 1000000 h3 hv (by omega) (by omega) (by omega)
        have a := pCheck_in h3 hv (by omega) (by omega) 1000000 (by omega) I e dist via
        have b := refCheck_in h3 hv (by omega) (by omega) I dist via 1000000 (by omega)
        by_cases hc : dist = d ∧ (via.length : Int) = n ∧ rd via v = -1 ∧ GoodV v n E d via
        · rw [a.1 hc, b.1 hc]; exact ⟨rfl, _, rfl⟩
        · rw [a.2 hc, b.2 hc]; exact ⟨rfl, _, rfl⟩
      · rw [refCheck_out 1000000 n E v dist via (by omega) (by omega) h3 (by omega)]
        unfold paths_Check.f
        rw [From_out 1000000 n E v (by omega) (by omega) h3 (by omega), zOb]
        dsimp only
        rw [if_neg (by decide)]
        exact ⟨rfl, _, rfl⟩
    · rw [refCheck_bad 1000000 n E v dist via (by omega) (by omega) h3]
      unfold paths_Check.f
      rw [From_bad 1000000 n E v (by omega) (by omega) h3, zOb]
      dsimp only
      rw [if_neg h3]
      exact ⟨rfl, _, rfl⟩
  have jF : filigreelaw12_PathsChecks.j0 k v dist via false n E = some true := by
    obtain ⟨e1, q, e2⟩ := main
    rw [j0, if_neg (by decide), e1, e2, zOb, zOb, if_pos rfl, a1]
    rfl
  by_cases h4 : (dist.length : Int) > 200
  · rw [if_pos h4]; exact jT
  · rw [if_neg h4]
    by_cases h5 : (via.length : Int) > 200
    · rw [decide_eq_true h5]; exact jT
    · rw [decide_eq_false h5]; exact jF
end Go.Proofs.Ytnigaojboililaa.A
