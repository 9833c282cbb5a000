/- Lemmas for the statement: the walks of the functions that it reaches, and plain laws. -/
import Derived.Test.YtnigaojboililaaG4
import Derived.Test.YtnigaojboililaaG5
import Derived.Test.YtnigaojboililaaG1
import Derived.Test.YtnigaojboililaaG2
set_option linter.unusedVariables false
set_option linter.unusedSimpArgs false
set_option maxHeartbeats 8000000
set_option maxRecDepth 100000
namespace Go.Proofs.Ytnigaojboililaa.A
open Go Go.RowKit Go.Proofs.YtnigaojboililaaW.PrintWords Go.Proofs.YtnigaojboililaaW.PrintLast Go.Proofs.YtnigaojboililaaW.PrintMore
attribute [local go_sem] max2_int min2_int max_two min_two max_three min_three max_four min_four
open Go.Proofs.YtnigaojboililaaW.PrintWords.Kd renaming R_alloc → zRa, R_drewN → zRn, R_drew → zRd, C_alloc → zCa, C_drewN → zCn, C_drew → zCd, R_mono → zRm, at_int → zAi, R_elder' → zRe, R_lower → zRl, R_new' → zRw, R_lt → zRt, R_below → zRb, R_base → zRz, R_reads' → zRr, R_slice → zRs
open Go.Proofs.YtnigaojboililaaW.PrintWords renaming pw_below_drewN → zBn, below_alloc → zBa, below_drew1 → zBd, below_size → zBs, below_step → zBt, blk_drewN → zKn, blk_drew → zKd, blk_alloc → zKa, blk_below → zKb, blk_cell → zKc, blk_frozen → zKf
open List renaming setIfInBounds_toArray → zSa, set_cons_zero → zSb, set_cons_succ → zSc, length_drop → zLd, length_take → zLt, map_toArray → zMa, map_cons → zMc, map_nil → zMn, length_cons → zLc
open Go.Proofs.YtnigaojboililaaW.PrintWords.Aside0 renaming mk → zMk
open Option renaming bind_eq_some_iff → zBi, bind_some → zOb
open Option.some renaming inj → zOi
open Int renaming toNat_natCast → zTn
def parI (E : List S39) (via : List Int) (x : Int) : Int := oth (rd_T39 E (rd via x)) x
def itr (E : List S39) (via : List Int) : Nat → Int → Int
  | 0, x => x
  | s + 1, x => itr E via s (parI E via x)
def okV (v : Int) (E : List S39) (d via : List Int) (x : Int) : Prop :=
  x = v ∨ (rd d x < 0 ∧ rd via x = -1) ∨ (0 ≤ rd d x ∧ 0 ≤ rd via x ∧ rd via x < E.length ∧ inc (rd_T39 E (rd via x)) x ∧ 0 ≤ rd d (parI E via x) ∧ rd d (parI E via x) = rd d x - (rd_T39 E (rd via x)).f2)
def reachN (v : Int) (E : List S39) (via : List Int) (t : Nat) (x : Int) : Prop := ∃ s, s ≤ t ∧ itr E via s x = v
section
variable {v n : Int} {E : List S39} {d via : List Int}
theorem other_in {e : S39} {x : Int} (hi : inc e x) : filigreeref12_other.f e.f0 e.f1 e.f2 x = some (oth e x) := by
  unfold filigreeref12_other.f oth
  unfold inc at hi
  by_cases h : e.f1 = x
  · rw [if_pos h]; congr 1; omega
  · rw [if_neg h, if_pos (by omega)]; congr 1; omega
theorem other_out {e : S39} {x : Int} (hi : ¬ inc e x) : filigreeref12_other.f e.f0 e.f1 e.f2 x = some (-1) := by
  unfold filigreeref12_other.f
  unfold inc at hi
  rw [if_neg (by omega), if_neg (by omega)]
theorem par_std (hE : okE n E) (hok : ∀ x, 0 ≤ x → x < n → okV v E d via x) {x : Int} (hx : Std n d x) (hv : x ≠ v) : Std n d (parI E via x) ∧ 0 ≤ rd via x ∧ rd via x < E.length ∧ inc (rd_T39 E (rd via x)) x := by
  rcases hok x hx.1 hx.2.1 with h | ⟨h, _⟩ | ⟨h0, h1, h2, h3, h4, h5⟩
  · exact absurd h hv
  · have := hx.2.2; omega
  · have hm : rd_T39 E (rd via x) ∈ E := by
      have := rdE_get E (rd via x).toNat (by omega)
      rw [Int.toNat_of_nonneg h1] at this
      rw [this]; exact List.getElem_mem _
    have ho := oth_range (hE _ hm) h3
    exact ⟨⟨ho.1, ho.2.1, h4⟩, h1, h2, h3⟩
theorem refC_l2 (hE : okE n E) (hn : 0 ≤ n ∧ n ≤ 40) (hvl : via.length = n.toNat) (hok : ∀ x, 0 ≤ x → x < n → okV v E d via x) (i : Nat) (hi : (i : Int) < n) (K : Nat) (r : Int) (hr : ∀ k, K ≤ k → filigreeref12_Check.l1 k v via d ((i + 1 : Nat) : Int) n E = some r) (dd : Nat) :
    ∀ (k c : Nat) (x : Int), n.toNat - c = dd → c ≤ n.toNat → K + dd + 2 ≤ k → Std n d x → (reachN v E via dd x → filigreeref12_Check.l2 k v via d (i : Int) x (c : Int) n E = some r) ∧ (¬ reachN v E via dd x → filigreeref12_Check.l2 k v via d (i : Int) x (c : Int) n E = some 13) := by
  have wi : ∀ q, wrap64 ((i : Int) + 1) = q → q = ((i + 1 : Nat) : Int) := by
    intro q hq; rw [w64 (by omega) (by omega)] at hq; omega
  induction dd with
  | zero =>
    intro k c x hd hc hk hx
    obtain ⟨k, rfl⟩ : ∃ m, k = m + 1 := ⟨k - 1, by omega⟩
    have h0 : reachN v E via 0 x ↔ x = v := by
      constructor
      · rintro ⟨s, hs, e⟩
        obtain rfl : s = 0 := by omega
        exact e
      · intro e; exact ⟨0, Nat.le_refl _, e⟩
    rw [h0]
    simp only [filigreeref12_Check.l2]
    rw [if_neg (by omega)]
    refine ⟨fun h => ?_, fun h => ?_⟩
    · rw [if_pos h, wi _ rfl]; exact hr k (by omega)
    · rw [if_neg h]
  | succ dd ih =>
    intro k c x hd hc hk hx
    obtain ⟨k, rfl⟩ : ∃ m, k = m + 1 := ⟨k - 1, by omega⟩
    simp only [filigreeref12_Check.l2]
    rw [if_pos (by omega)]
    by_cases hxv : x = v
    · refine ⟨fun _ => ?_, fun h => absurd ⟨0, Nat.zero_le _, hxv⟩ h⟩
      rw [if_pos hxv, wi _ rfl]; exact hr k (by omega)
    · obtain ⟨p1, p2, p3, p4⟩ := par_std hE hok hx hxv
      have h := ih k (c + 1) (parI E via x) (by omega) (by omega) (by omega) p1
      have hreach : reachN v E via (dd + 1) x ↔ reachN v E via dd (parI E via x) := by
        constructor
        · rintro ⟨s, hs, e⟩
          obtain ⟨s, rfl⟩ : ∃ t, s = t + 1 := by
            rcases s with _ | s
            · exact absurd e hxv
            · exact ⟨s, rfl⟩
          exact ⟨s, by omega, e⟩
        · rintro ⟨s, hs, e⟩; exact ⟨s + 1, by omega, e⟩
      rw [hreach]
      have wc := zMk (show wrap64 ((c : Int) + 1) = ((c + 1 : Nat) : Int) by rw [w64 (by omega) (by omega)]; omega)
      rw [if_neg hxv, if_pos hx.1, if_pos (by have := hx.2.1; omega), if_pos p2, if_pos p3, other_in p4, zOb, wc.out]
      exact h
theorem refC_l1 (hE : okE n E) (hn : 0 ≤ n ∧ n ≤ 40) (hvl : via.length = n.toNat) (hdl : d.length = n.toNat) (hok : ∀ x, 0 ≤ x → x < n → okV v E d via x) (dd : Nat) :
    ∀ (k i : Nat), n.toNat - i = dd → i ≤ n.toNat → dd * (n.toNat + 5) + 1 ≤ k →
      ((∀ x, (i : Int) ≤ x → Std n d x → reachN v E via n.toNat x) → filigreeref12_Check.l1 k v via d (i : Int) n E = some 0) ∧
      (¬ (∀ x, (i : Int) ≤ x → Std n d x → reachN v E via n.toNat x) → filigreeref12_Check.l1 k v via d (i : Int) n E = some 13) := by
  induction dd with
  | zero =>
    intro k i hd hi hk
    obtain ⟨k, rfl⟩ : ∃ m, k = m + 1 := ⟨k - 1, by omega⟩
    simp only [filigreeref12_Check.l1]
    rw [if_neg (by omega)]
    exact ⟨fun _ => rfl, fun h => absurd (fun x h1 h2 => by have := h2.2.1; omega) h⟩
  | succ dd ih =>
    intro k i hd hi hk
    rw [Nat.succ_mul] at hk
    obtain ⟨k, rfl⟩ : ∃ m, k = m + 1 := ⟨k - 1, by omega⟩
    simp only [filigreeref12_Check.l1]
    rw [if_pos (by omega), if_pos (by omega), if_pos (by omega)]
    have wi := zMk (show wrap64 ((i : Int) + 1) = ((i + 1 : Nat) : Int) by rw [w64 (by omega) (by omega)]; omega)
    by_cases hs : rd d (i : Int) < 0
    · rw [if_pos hs, wi.out]
      have h := ih k (i + 1) (by omega) (by omega) (by omega)
      have e : (∀ x, (i : Int) ≤ x → Std n d x → reachN v E via n.toNat x) ↔ (∀ x, ((i + 1 : Nat) : Int) ≤ x → Std n d x → reachN v E via n.toNat x) := by
        constructor
        · intro h x h1 h2; exact h x (by omega) h2
        · intro h x h1 h2
          by_cases hx : x = i
          · subst hx; have := h2.2.2; omega
          · exact h x (by omega) h2
      rw [e]; exact h
    · rw [if_neg hs]
      have hx : Std n d (i : Int) := ⟨by omega, by omega, by omega⟩
      by_cases hrest : ∀ x, ((i + 1 : Nat) : Int) ≤ x → Std n d x → reachN v E via n.toNat x
      · have h2 := refC_l2 hE hn hvl hok i (by omega) (dd * (n.toNat + 5) + 1) 0 (fun k hk => (ih k (i + 1) (by omega) (by omega) hk).1 hrest) n.toNat k 0 (i : Int) (by omega) (by omega) (by omega) hx
        refine ⟨fun h => h2.1 (h _ (Int.le_refl _) hx), fun h => h2.2 (fun hr => h (fun x h1 hstd => ?_))⟩
        by_cases hxi : x = i
        · subst hxi; exact hr
        · exact hrest x (by omega) hstd
      · have h2 := refC_l2 hE hn hvl hok i (by omega) (dd * (n.toNat + 5) + 1) 13 (fun k hk => (ih k (i + 1) (by omega) (by omega) hk).2 hrest) n.toNat k 0 (i : Int) (by omega) (by omega) (by omega) hx
        refine ⟨fun h => absurd (fun x h1 hstd => h x (by omega) hstd) hrest, fun _ => ?_⟩
        by_cases hr : reachN v E via n.toNat (i : Int)
        · exact h2.1 hr
        · exact h2.2 hr
def GoodV (v n : Int) (E : List S39) (d via : List Int) : Prop := (∀ x, 0 ≤ x → x < n → okV v E d via x) ∧ ∀ x, Std n d x → reachN v E via n.toNat x
theorem refC_l0 (hE : okE n E) (hn : 0 ≤ n ∧ n ≤ 40) (hvl : via.length = n.toNat) (hdl : d.length = n.toNat) (dist : List Int) (hdi : dist.length = n.toNat) (hdb : ∀ x, 0 ≤ x → x < n → -1 ≤ rd d x ∧ rd d x ≤ 1000000000000000) (K : Nat) (r : Int) (dd : Nat) :
    ∀ (k i : Nat), n.toNat - i = dd → i ≤ n.toNat → K + 2 * dd + 1 ≤ k →
      ((∀ x, (i : Int) ≤ x → x < n → rd dist x = rd d x ∧ okV v E d via x) → (∀ k, K ≤ k → filigreeref12_Check.l1 k v via d 0 n E = some r) → filigreeref12_Check.l0 k v dist via d (i : Int) n E = some r) ∧
      (¬ (∀ x, (i : Int) ≤ x → x < n → rd dist x = rd d x ∧ okV v E d via x) → filigreeref12_Check.l0 k v dist via d (i : Int) n E = some 13) := by
  induction dd with
  | zero =>
    intro k i hd hi hk
    obtain ⟨k, rfl⟩ : ∃ m, k = m + 1 := ⟨k - 1, by omega⟩
    simp only [filigreeref12_Check.l0]
    rw [if_neg (by omega)]
    exact ⟨fun _ hr => hr k (by omega), fun h => absurd (fun x h1 h2 => by omega) h⟩
  | succ dd ih =>
    intro k i hd hi hk
    obtain ⟨k, rfl⟩ : ∃ m, k = m + 2 := ⟨k - 2, by omega⟩
    have wi := zMk (show wrap64 ((i : Int) + 1) = ((i + 1 : Nat) : Int) by rw [w64 (by omega) (by omega)]; omega)
    obtain ⟨y, hy⟩ : ∃ y : Int, (i : Int) = y := ⟨_, rfl⟩
    have hy0 : 0 ≤ y ∧ y < n := by omega
    have wy := zMk (show wrap64 (y + 1) = ((i + 1 : Nat) : Int) by rw [w64 (by omega) (by omega)]; omega)
    have nxt : ∀ kk, k ≤ kk → (rd dist y = rd d y ∧ okV v E d via y) →
        ((∀ x, y ≤ x → x < n → rd dist x = rd d x ∧ okV v E d via x) → (∀ k, K ≤ k → filigreeref12_Check.l1 k v via d 0 n E = some r) → filigreeref12_Check.l0 kk v dist via d ((i + 1 : Nat) : Int) n E = some r) ∧
        (¬ (∀ x, y ≤ x → x < n → rd dist x = rd d x ∧ okV v E d via x) → filigreeref12_Check.l0 kk v dist via d ((i + 1 : Nat) : Int) n E = some 13) := by
      intro kk hkk hh
      have h := ih kk (i + 1) (by omega) (by omega) (by omega)
      have e : (∀ x, y ≤ x → x < n → rd dist x = rd d x ∧ okV v E d via x) ↔ (∀ x, ((i + 1 : Nat) : Int) ≤ x → x < n → rd dist x = rd d x ∧ okV v E d via x) := by
        constructor
        · intro h x h1 h2; exact h x (by omega) h2
        · intro h x h1 h2
          by_cases hx : x = y
          · subst hx; exact hh
          · exact h x (by omega) h2
      rw [e]; exact h
    have bad : ¬ (rd dist y = rd d y ∧ okV v E d via y) → ((∀ x, y ≤ x → x < n → rd dist x = rd d x ∧ okV v E d via x) → (∀ k, K ≤ k → filigreeref12_Check.l1 k v via d 0 n E = some r) → (some 13 : Option Int) = some r) ∧ (¬ (∀ x, y ≤ x → x < n → rd dist x = rd d x ∧ okV v E d via x) → (some 13 : Option Int) = some 13) :=
      fun hb => ⟨fun h => absurd (h y (Int.le_refl _) hy0.2) hb, fun _ => rfl⟩
    simp only [filigreeref12_Check.l0]
    rw [wi.out, hy]
    rw [if_pos (by omega), if_pos (by omega), if_pos (by omega), if_pos (by omega)]
    by_cases h1 : rd dist y = rd d y
    · rw [if_pos h1]
      by_cases h2 : y = v
      · rw [if_pos h2]; exact nxt (k + 1) (by omega) ⟨h1, .inl h2⟩
      · rw [if_neg h2]
        by_cases h3 : rd d y < 0
        · rw [if_pos h3, if_pos (by omega)]
          by_cases h4 : rd via y = -1
          · rw [if_pos h4]; exact nxt (k + 1) (by omega) ⟨h1, .inr (.inl ⟨h3, h4⟩)⟩
          · rw [if_neg h4]
            exact bad (fun hh => by rcases hh.2 with h | ⟨_, h⟩ | ⟨h, _⟩ <;> first | exact h2 h | exact h4 h | omega)
        · rw [if_neg h3, if_pos (by omega)]
          have j13 : ∀ kk, filigreeref12_Check.j3 (kk + 1) v dist via d y true n E = some 13 := fun kk => by simp only [filigreeref12_Check.j3]; rfl
          have notok : ∀ (_ : ¬ (0 ≤ rd via y ∧ rd via y < E.length ∧ inc (rd_T39 E (rd via y)) y ∧ 0 ≤ rd d (parI E via y) ∧ rd d (parI E via y) = rd d y - (rd_T39 E (rd via y)).f2)), ¬ (rd dist y = rd d y ∧ okV v E d via y) := by
            intro hn' hh
            rcases hh.2 with h | ⟨h, _⟩ | ⟨_, h⟩
            · exact h2 h
            · omega
            · exact hn' h
          by_cases h5 : rd via y < 0
          · rw [if_pos h5, j13]; exact bad (notok (fun h => by omega))
          · rw [if_neg h5]
            by_cases h6 : rd via y ≥ (E.length : Int)
            · rw [decide_eq_true h6, j13]; exact bad (notok (fun h => by omega))
            · rw [decide_eq_false h6]
              have hm : rd_T39 E (rd via y) ∈ E := by
                have := rdE_get E (rd via y).toNat (by omega)
                rw [Int.toNat_of_nonneg (by omega)] at this
                rw [this]; exact List.getElem_mem _
              have hEe := hE _ hm
              simp only [filigreeref12_Check.j3]
              rw [if_neg (by decide), if_pos (by omega), if_pos (by omega), if_pos (by omega), if_pos (by omega)]
              obtain ⟨e, hee⟩ : ∃ e, rd_T39 E (rd via y) = e := ⟨_, rfl⟩
              have hpar : parI E via y = oth e y := by unfold parI; rw [hee]
              rw [hee] at hEe notok ⊢
              rw [hpar] at notok
              by_cases h7 : inc e y
              · have hr := oth_range hEe h7
                rw [other_in h7, zOb, if_neg (by omega), if_pos hr.1, if_pos (by omega)]
                by_cases h8 : rd d (oth e y) < 0
                · rw [if_pos h8]; exact bad (notok (fun h => by omega))
                · have hb := hdb y hy0.1 hy0.2
                  rw [if_neg h8, if_pos (by omega), w64 (by omega) (by omega)]
                  by_cases h9 : rd d (oth e y) = rd d y - e.f2
                  · rw [if_pos h9, wy.out]
                    exact nxt k (by omega) ⟨h1, .inr (.inr ⟨by omega, by omega, by omega, by rw [hee]; exact h7, by rw [hpar]; omega, by rw [hpar, hee]; exact h9⟩)⟩
                  · rw [if_neg h9]; exact bad (notok (fun h => h9 h.2.2.2.2))
              · rw [other_out h7, zOb, if_pos (by omega)]
                exact bad (notok (fun h => h7 h.2.2.1))
    · rw [if_neg h1]; exact bad (fun h => h1 h.1)
end
section
variable {v n : Int} {E : List S39} {d p : List Int} {rk : Int → Nat}
theorem list_rd_ext (a b : List Int) (h : a.length = b.length) (he : ∀ x : Int, 0 ≤ x → x < a.length → rd a x = rd b x) : a = b := by
  apply List.ext_getElem h
  intro i h1 h2
  have := he (i : Int) (by omega) (by omega)
  rw [rd_nat a i h1, rd_nat b i h2] at this
  exact this
theorem Inv.big (hn : 0 ≤ n ∧ n ≤ 40) (I : Inv v n E d p [] rk (fun _ _ => True)) : ∀ x, 0 ≤ x → x < n → -1 ≤ rd d x ∧ rd d x ≤ 1000000000000000 := by
  intro x h0 h1
  have a := I.dlo x h0 h1
  by_cases hs : 0 ≤ rd d x
  · have b := (I.st x ⟨h0, h1, hs⟩).2
    have c := nset_le d
    have e := I.dl
    omega
  · omega
theorem Inv.good (hE : okE n E) (I : Inv v n E d p [] rk (fun _ _ => True)) : GoodV v n E d p := by
  have par : ∀ x, Std n d x → x ≠ v → ∃ j : Nat, rd p x = (j : Int) ∧ ∃ h : j < E.length, inc E[j] x ∧ Std n d (oth E[j] x) ∧ rd d x = rd d (oth E[j] x) + E[j].f2 ∧ rk (oth E[j] x) < rk x := by
    intro x hx hxv
    rcases (I.st x hx).2.2.2 with ⟨h, _⟩ | ⟨_, j, e1, hj, u, hu, hi, e2, e3, e4⟩
    · exact absurd h hxv
    · have ho := oth_range (hE _ (List.getElem_mem hj)) hi
      have eu : oth E[j] x = u := by rw [e2]; unfold oth; omega
      exact ⟨j, e1, hj, by rw [e2]; exact ho.2.2, by rw [eu]; exact hu, by rw [eu]; exact e3, by rw [eu]; exact e4⟩
  refine ⟨fun x h0 h1 => ?_, fun x hx => ?_⟩
  · by_cases hxv : x = v
    · exact .inl hxv
    · by_cases hs : 0 ≤ rd d x
      · obtain ⟨j, e1, hj, hi, hstd, e2, _⟩ := par x ⟨h0, h1, hs⟩ hxv
        have e0 : rd_T39 E (rd p x) = E[j] := by rw [e1, rdE_get E j hj]
        refine .inr (.inr ⟨hs, by omega, by omega, by rw [e0]; exact hi, ?_, ?_⟩)
        · unfold parI; rw [e0]; exact hstd.2.2
        · unfold parI; rw [e0]; omega
      · exact .inr (.inl ⟨by omega, I.un x h0 h1 (by omega)⟩)
  · have key : ∀ r x, Std n d x → rk x = r → reachN v E p (rk x) x := by
      intro r
      induction r using Nat.strongRecOn with
      | _ r ih =>
        intro x hx hr
        by_cases hxv : x = v
        · exact ⟨0, Nat.zero_le _, hxv⟩
        · obtain ⟨j, e1, hj, hi, hstd, e2, e3⟩ := par x hx hxv
          have e0 : parI E p x = oth E[j] x := by unfold parI; rw [e1, rdE_get E j hj]
          obtain ⟨s, hs, e⟩ := ih (rk (oth E[j] x)) (by omega) _ hstd rfl
          exact ⟨s + 1, by omega, by show itr E p s (parI E p x) = v; rw [e0]; exact e⟩
    obtain ⟨s, hs, e⟩ := key _ x hx rfl
    have b := (I.st x hx).2.1
    have c := nset_le d
    have f := I.dl
    exact ⟨s, by omega, e⟩
theorem refCheck_in (h : rightP n E = 0) (hv : 0 ≤ v ∧ v < n) (hm : E.length ≤ 160) (hn : n ≤ 40) (I : Inv v n E d p [] rk (fun _ _ => True)) (dist via : List Int) (k : Nat) (hk : 200000 ≤ k) :
    ((dist = d ∧ (via.length : Int) = n ∧ rd via v = -1 ∧ GoodV v n E d via) → filigreeref12_Check.f k n E v dist via = some 0) ∧
    (¬ (dist = d ∧ (via.length : Int) = n ∧ rd via v = -1 ∧ GoodV v n E d via) → filigreeref12_Check.f k n E v dist via = some 13) := by
  obtain ⟨h0, h1, hE⟩ := right_ok n E h
  have hdl := I.dl
  unfold filigreeref12_Check.f
  rw [refRight_eq k n E (by omega), zOb, h, if_pos rfl, if_neg (by omega), decide_eq_false (by omega)]
  obtain ⟨k, rfl⟩ : ∃ m, k = m + 2 := ⟨k - 2, by omega⟩
  have jT : ∀ q, filigreeref12_Check.j1 (q + 1) v dist via true n E = some 13 := fun q => by simp only [filigreeref12_Check.j1]; rfl
  simp only [filigreeref12_Check.j0]
  rw [if_neg (by decide)]
  by_cases h2 : (dist.length : Int) = n
  · rw [if_pos h2]
    by_cases h3 : (via.length : Int) = n
    · rw [if_pos h3, if_pos hv.1, if_pos (by omega)]
      by_cases h4 : rd via v = -1
      · have e4 : (rd via v != -1) = false := by rw [h4]; rfl
        rw [e4]
        simp only [filigreeref12_Check.j1]
        rw [if_neg (by decide), Dist_eq hE hm ⟨h0, hn⟩ I hv k (by omega), zOb]
        have hb : n.toNat * (n.toNat + 5) ≤ 40 * 45 := Nat.mul_le_mul (by omega) (by omega)
        by_cases hok : ∀ x, ((0 : Nat) : Int) ≤ x → x < n → rd dist x = rd d x ∧ okV v E d via x
        · have hdd : dist = d := list_rd_ext dist d (by omega) (fun x a b => (hok x a (by omega)).1)
          have hokv : ∀ x, 0 ≤ x → x < n → okV v E d via x := fun x a b => (hok x a b).2
          by_cases hr : ∀ x, Std n d x → reachN v E via n.toNat x
          · refine ⟨fun _ => ?_, fun hh => absurd ⟨hdd, h3, h4, hokv, hr⟩ hh⟩
            exact (refC_l0 hE ⟨h0, hn⟩ (by omega) hdl dist (by omega) (I.big ⟨h0, hn⟩) (n.toNat * (n.toNat + 5) + 1) 0 n.toNat k 0 (by omega) (by omega) (by omega)).1 hok (fun k hk => (refC_l1 hE ⟨h0, hn⟩ (by omega) hdl hokv n.toNat k 0 (by omega) (by omega) hk).1 (fun x _ hx => hr x hx))
          · refine ⟨fun hh => absurd hh.2.2.2.2 hr, fun _ => ?_⟩
            exact (refC_l0 hE ⟨h0, hn⟩ (by omega) hdl dist (by omega) (I.big ⟨h0, hn⟩) (n.toNat * (n.toNat + 5) + 1) 13 n.toNat k 0 (by omega) (by omega) (by omega)).1 hok (fun k hk => (refC_l1 hE ⟨h0, hn⟩ (by omega) hdl hokv n.toNat k 0 (by omega) (by omega) hk).2 (fun hh => hr (fun x hx => hh x (by have := hx.1; omega) hx)))
        · refine ⟨fun hh => absurd (fun x a b => ⟨by rw [hh.1], hh.2.2.2.1 x a b⟩) hok, fun _ => ?_⟩
          exact (refC_l0 hE ⟨h0, hn⟩ (by omega) hdl dist (by omega) (I.big ⟨h0, hn⟩) 0 0 n.toNat k 0 (by omega) (by omega) (by omega)).2 hok
      · have e4 : (rd via v != -1) = true := by rw [bne_iff_ne]; exact h4
        rw [e4, jT]
        exact ⟨fun hh => absurd hh.2.2.1 h4, fun _ => rfl⟩
    · rw [if_neg h3, jT]
      exact ⟨fun hh => absurd hh.2.1 h3, fun _ => rfl⟩
  · rw [if_neg h2, jT]
    exact ⟨fun hh => absurd (by rw [hh.1]; omega) h2, fun _ => rfl⟩
end

def filigreelaw04_Light.f (a0_0 : Int) (l0_1 : List (S39)) (a1 : Int) : Option (Bool) := if a0_0 ≤ a1 then (some (decide ((l0_1.length : Int) ≤ (wrap64 (4 * a1))))) else (some false)
theorem filigreelaw04_Light.calls (a0_0 : Int) (A0_1 : Option Addr) (c0_1 : Nat) (l0_1 : List (S39)) (a1 : Int) (r : Bool) (w : World) (hr0_1 : Kd.C k39 w A0_1 l0_1.length l0_1) (hc0_1 : l0_1.length ≤ c0_1) (h : filigreelaw04_Light.f a0_0 l0_1 a1 = some r) :
    Calls Try.prog 10 #[.agg #[.int .i64 a0_0, .slice A0_1 l0_1.length c0_1], .int .i64 a1] w fun e w' => e = .returned (.bool r) ∧ Below w.heap.size w w' := by
  have hu24 := Try.underlying24
  have HR0_1 := zMk hr0_1
  have HC0_1 := zMk hc0_1
  clear hr0_1 hc0_1
  have HB := zMk (Below.refl w.heap.size w)
  have H : (if a0_0 ≤ a1 then (some (decide ((l0_1.length : Int) ≤ (wrap64 (4 * a1))))) else (some false)) = some r := h
  clear h
  by_cases c3 : a0_0 ≤ a1
  · rw [if_pos c3] at H
    have c3b0 : decide (a0_0 ≤ a1) = true := decide_eq_true c3
    clear c3
    obtain rfl := zOi H
    go_enter Try.func10, Try.ntmps10
    go_wp2_with (first | ((with_reducible refine gate_dst (N := 2) rfl ?_); (try (refine gate_guard (by rfl) ?_; dsimp only)); refine box_event ?hg (N := 2) ?hd (cs := #[.int .i64 a0_0, .slice A0_1 l0_1.length c0_1]) (t := 24) ?hr ?_; (case hd => rfl); (case hg => rfl); (case hr => first | (go_simp; done)|(go_simp; rfl)|(go_simp; rw [show ∀ x : Int, IntKind.u32.wrap (IntKind.u8.wrap x) = x % 256 from fun x => (by show (x % 256) % 4294967296 = x % 256; omega)])); intro gb185 hg w4 hbox hb; have BK185 := zMk (hbox); have GW185 := zMk ((by rw [hg]; exact (zBs (by exact uT HB.out)) : w.heap.size ≤ gb185)); have GE185 := zMk ((by rw [hg]; exact (zBs (by exact uT HB.out)) : w.heap.size ≤ gb185)); have IGE185 := ownGe GE185.out; replace HB := zMk (zBt (by exact uT HB.out) hb); clear hb hbox hg; have hcz5_0 : w4.cell? ⟨gb185, 0, none⟩ = some (.int .i64 a0_0) := (zKc BK185.out 0).trans rfl; have hcz5_1 : w4.cell? ⟨gb185, 1, none⟩ = some (.slice A0_1 l0_1.length c0_1) := (zKc BK185.out 1).trans rfl; have hfz5_0 := zKf BK185.out 0; have hfz5_1 := zKf BK185.out 1))
    go_ret
    exact ⟨by first | rfl | (simp [errW_none, errW_some] <;> rfl) | (simp [*, errW_none, errW_some] <;> rfl), by exact uT HB.out⟩
  · rw [if_neg c3] at H
    have c3b0 : decide (a0_0 ≤ a1) = false := decide_eq_false c3
    clear c3
    obtain rfl := zOi H
    go_enter Try.func10, Try.ntmps10
    go_wp2_with (first | ((with_reducible refine gate_dst (N := 2) rfl ?_); (try (refine gate_guard (by rfl) ?_; dsimp only)); refine box_event ?hg (N := 2) ?hd (cs := #[.int .i64 a0_0, .slice A0_1 l0_1.length c0_1]) (t := 24) ?hr ?_; (case hd => rfl); (case hg => rfl); (case hr => first | (go_simp; done)|(go_simp; rfl)|(go_simp; rw [show ∀ x : Int, IntKind.u32.wrap (IntKind.u8.wrap x) = x % 256 from fun x => (by show (x % 256) % 4294967296 = x % 256; omega)])); intro gb185 hg w6 hbox hb; have BK185 := zMk (hbox); have GW185 := zMk ((by rw [hg]; exact (zBs (by exact uT HB.out)) : w.heap.size ≤ gb185)); have GE185 := zMk ((by rw [hg]; exact (zBs (by exact uT HB.out)) : w.heap.size ≤ gb185)); have IGE185 := ownGe GE185.out; replace HB := zMk (zBt (by exact uT HB.out) hb); clear hb hbox hg; have hcz7_0 : w6.cell? ⟨gb185, 0, none⟩ = some (.int .i64 a0_0) := (zKc BK185.out 0).trans rfl; have hcz7_1 : w6.cell? ⟨gb185, 1, none⟩ = some (.slice A0_1 l0_1.length c0_1) := (zKc BK185.out 1).trans rfl; have hfz7_0 := zKf BK185.out 0; have hfz7_1 := zKf BK185.out 1))
    go_ret
    exact ⟨by first | rfl | (simp [errW_none, errW_some] <;> rfl) | (simp [*, errW_none, errW_some] <;> rfl), by exact uT HB.out⟩


def filigreelaw12_longs.l0 : Nat → List Int → List Int → Int → Option (Bool)
  | 0, _, _, _ => none
  | k + 1, x0, x1, x5 => if x5 < (x0.length : Int) then (if 0 ≤ x5 then (if x5 < (x1.length : Int) then (if (rd x0 x5) = (rd x1 x5) then (filigreelaw12_longs.l0 k x0 x1 (wrap64 (x5 + 1))) else (some false)) else (none)) else (none)) else (some true)
def filigreelaw12_longs.f (k : Nat) (l0 : List Int) (l1 : List Int) : Option (Bool) := if (l0.length : Int) = (l1.length : Int) then (filigreelaw12_longs.l0 k l0 l1 0) else (some false)
theorem filigreelaw12_longs.calls (k : Nat) (A0 : Option Addr) (c0 : Nat) (l0 : List Int) (A1 : Option Addr) (c1 : Nat) (l1 : List Int) (r : Bool) (w : World) (hr0 : Kd.C (Kd.int .i64) w A0 l0.length l0) (hc0 : l0.length ≤ c0) (hr1 : Kd.C (Kd.int .i64) w A1 l1.length l1) (hc1 : l1.length ≤ c1) (h : filigreelaw12_longs.f k l0 l1 = some r) :
    Calls Try.prog 12 #[.slice A0 l0.length c0, .slice A1 l1.length c1] w fun e w' => e = .returned (.bool r) ∧ Drawn0 w w' := by
  have HR0 := zMk hr0
  have HC0 := zMk hc0
  clear hr0 hc0
  have HR1 := zMk hr1
  have HC1 := zMk hc1
  clear hr1 hc1
  have H : (if (l0.length : Int) = (l1.length : Int) then (filigreelaw12_longs.l0 k l0 l1 0) else (some false)) = some r := h
  clear h
  by_cases c3 : (l0.length : Int) = (l1.length : Int)
  · rw [if_pos c3] at H
    have c3b0 : ((l0.length : Int) == (l1.length : Int)) = true := beq_iff_eq.mpr c3
    have c3b1 : ((l0.length : Int) != (l1.length : Int)) = false := bne_eq_false_iff_eq.mpr c3
    have c3b2 : (l0.length == l1.length) = true := by first | simpa using c3 | (simp at c3 ⊢; omega)
    clear c3
    have H' := zMk H
    clear H
    go_enter Try.func12, Try.ntmps12
    go_wp2
    repeat (go_quiet (fail); try go_wp2)
    go_loopg [5] k (fun kq v5 w' => ∃ (x5_1 : Int), v5 = .int .i64 x5_1 ∧ Aside0 (filigreelaw12_longs.l0 kq l0 l1 x5_1 = some r) ∧ Aside0 (kq ≤ k) ∧ Drawn0 w w')
    case atStart => exact ⟨(0), (by first | rfl | (simp; done) | (simp [*]; done)), H', ⟨Nat.le_refl _⟩, by repeat (first | exact Drawn0.refl _ | apply Drawn0.step)⟩
    clear H'
    obtain ⟨x5_1, rfl, HA, HK1, ⟨m1, rfl⟩⟩ := hrel
    rcases gk with _ | k1
    · exact absurd HA.out (by simp [filigreelaw12_longs.l0])
    have H := HA.out
    clear HA
    simp only [filigreelaw12_longs.l0] at H
    by_cases c4 : x5_1 < (l0.length : Int)
    · rw [if_pos c4] at H
      have c4b0 : decide (x5_1 < (l0.length : Int)) = true := decide_eq_true c4
      clear c4
      by_cases c5 : 0 ≤ x5_1
      rotate_left
      · rw [if_neg c5] at H; exact absurd H (by simp)
      rw [if_pos c5] at H
      have c5b0 : decide (0 ≤ x5_1) = true := decide_eq_true c5
      clear c5
      by_cases c6 : x5_1 < (l1.length : Int)
      rotate_left
      · rw [if_neg c6] at H; exact absurd H (by simp)
      rw [if_pos c6] at H
      have c6b0 : decide (x5_1 < (l1.length : Int)) = true := decide_eq_true c6
      clear c6
      by_cases c7 : (rd l0 x5_1) = (rd l1 x5_1)
      · rw [if_pos c7] at H
        have c7b0 : ((rd l0 x5_1) == (rd l1 x5_1)) = true := beq_iff_eq.mpr c7
        have c7b1 : ((rd l0 x5_1) != (rd l1 x5_1)) = false := bne_eq_false_iff_eq.mpr c7
        clear c7
        have H' := zMk H
        clear H
        have p220 : 0 ≤ (x5_1 : Int) := of_decide_eq_true (by assumption)
        have q220 : x5_1 < (l0.length : Int) := of_decide_eq_true (by assumption)
        obtain ⟨ad220, e220, hx220_0⟩ := zAi HR0.out x5_1 p220 q220
        cases e220
        replace p220 := eq_true p220
        replace q220 := eq_true q220
        have p221 : 0 ≤ (x5_1 : Int) := of_decide_eq_true (by assumption)
        have q221 : x5_1 < (l1.length : Int) := of_decide_eq_true (by assumption)
        obtain ⟨ad221, e221, hx221_0⟩ := zAi HR1.out x5_1 p221 q221
        cases e221
        replace p221 := eq_true p221
        replace q221 := eq_true q221
        go_wp2
        repeat (go_quiet (fail); try go_wp2)
        go_roundg k1
        case measure => have := HK1.out; omega
        case rel => exact ⟨(wrap64 (x5_1 + 1)), (by first | rfl | (simp; done) | (simp [*]; done)), H', ⟨by have := HK1.out; omega⟩, by repeat (first | exact Drawn0.refl _ | apply Drawn0.step)⟩
      · rw [if_neg c7] at H
        have c7b0 : ((rd l0 x5_1) == (rd l1 x5_1)) = false := beq_eq_false_iff_ne.mpr c7
        have c7b1 : ((rd l0 x5_1) != (rd l1 x5_1)) = true := bne_iff_ne.mpr c7
        obtain rfl := zOi H
        have p220 : 0 ≤ (x5_1 : Int) := of_decide_eq_true (by assumption)
        have q220 : x5_1 < (l0.length : Int) := of_decide_eq_true (by assumption)
        obtain ⟨ad220, e220, hx220_0⟩ := zAi HR0.out x5_1 p220 q220
        cases e220
        replace p220 := eq_true p220
        replace q220 := eq_true q220
        have p221 : 0 ≤ (x5_1 : Int) := of_decide_eq_true (by assumption)
        have q221 : x5_1 < (l1.length : Int) := of_decide_eq_true (by assumption)
        obtain ⟨ad221, e221, hx221_0⟩ := zAi HR1.out x5_1 p221 q221
        cases e221
        replace p221 := eq_true p221
        replace q221 := eq_true q221
        go_wp2
        repeat (go_quiet (fail); try go_wp2)
        go_ret
        exact ⟨by first | rfl | (simp; done) | (simp [*]; done), by repeat (first | exact Drawn0.refl _ | apply Drawn0.step)⟩
    · rw [if_neg c4] at H
      have c4b0 : decide (x5_1 < (l0.length : Int)) = false := decide_eq_false c4
      clear c4
      obtain rfl := zOi H
      go_wp2
      repeat (go_quiet (fail); try go_wp2)
      go_ret
      exact ⟨by first | rfl | (simp; done) | (simp [*]; done), by repeat (first | exact Drawn0.refl _ | apply Drawn0.step)⟩
  · rw [if_neg c3] at H
    have c3b0 : ((l0.length : Int) == (l1.length : Int)) = false := beq_eq_false_iff_ne.mpr c3
    have c3b1 : ((l0.length : Int) != (l1.length : Int)) = true := bne_iff_ne.mpr c3
    have c3b2 : (l0.length == l1.length) = false := by first | simpa using c3 | (simp at c3 ⊢; omega)
    obtain rfl := zOi H
    go_enter Try.func12, Try.ntmps12
    go_wp2
    repeat (go_quiet (fail); try go_wp2)
    go_ret
    exact ⟨by first | rfl | (simp; done) | (simp [*]; done), by repeat (first | exact Drawn0.refl _ | apply Drawn0.step)⟩


mutual
def filigreelaw12_PathsFrom.j0 : Nat → Int → List Int → List Int → Int → Int → Bool → Int → List (S39) → Option (Bool)
  | 0, _, _, _, _, _, _, _, _ => none
  | k + 1, x1, x5, x6, x7, x8, x33, x223000, x223001 => if x33 = true then (filigreelaw12_PathsFrom.j1 k x1 x5 x6 x7 5 x223000 x223001) else (filigreelaw12_PathsFrom.j1 k x1 x5 x6 x7 x8 x223000 x223001)
def filigreelaw12_PathsFrom.j1 : Nat → Int → List Int → List Int → Int → Int → Int → List (S39) → Option (Bool)
  | 0, _, _, _, _, _, _, _ => none
  | k + 1, x1, x5, x6, x7, x8, x223000, x223001 => if x8 = 0 then (if x7 = 0 then ((filigreeref12_Dist.f k x223000 x223001 x1).bind fun t234 => ((filigreelaw12_longs.f k x5 t234).bind fun t237 => (if t237 = true then ((filigreeref12_Check.f k x223000 x223001 x1 x5 x6).bind fun t238 => (if t238 = 0 then ((filigreelaw12_alive.f k).bind fun t239 => (some t239)) else (some false))) else (some false)))) else (some false)) else (if x7 = x8 then (if (wrap64 ((x5.length : Int) + (x6.length : Int))) = 0 then ((filigreelaw12_alive.f k).bind fun t233 => (some t233)) else (some false)) else (some false))
end
def filigreelaw12_PathsFrom.f (k : Nat) (a0_0 : Int) (l0_1 : List (S39)) (a1 : Int) : Option (Bool) := (filigreelaw04_Light.f a0_0 l0_1 40).bind fun t223 => (if t223 = true then ((paths_From.f k a0_0 l0_1 a1).bind fun bt225 => ((filigreeref12_Right.f k a0_0 l0_1).bind fun t232 => (if t232 = 0 then (if a1 < 0 then (filigreelaw12_PathsFrom.j0 k a1 bt225.1 bt225.2.1 bt225.2.2 t232 true a0_0 l0_1) else (filigreelaw12_PathsFrom.j0 k a1 bt225.1 bt225.2.1 bt225.2.2 t232 (decide (a1 ≥ a0_0)) a0_0 l0_1)) else (filigreelaw12_PathsFrom.j0 k a1 bt225.1 bt225.2.1 bt225.2.2 t232 false a0_0 l0_1)))) else ((filigreelaw12_alive.f k).bind fun t224 => (some t224)))
theorem filigreelaw12_PathsFrom.calls (k : Nat) (a0_0 : Int) (A0_1 : Option Addr) (c0_1 : Nat) (l0_1 : List (S39)) (a1 : Int) (r : Bool) (w : World) (hr0_1 : Kd.C k39 w A0_1 l0_1.length l0_1) (hc0_1 : l0_1.length ≤ c0_1) (h : filigreelaw12_PathsFrom.f k a0_0 l0_1 a1 = some r) (hr_ : r = true) :
    Calls Try.prog 4 #[.agg #[.int .i64 a0_0, .slice A0_1 l0_1.length c0_1], .int .i64 a1] w fun e w' => e = .returned (.bool r) ∧ Below w.heap.size w w' := by
  have HRT := zMk hr_
  clear hr_
  have hu24 := Try.underlying24
  have HR0_1 := zMk hr0_1
  have HC0_1 := zMk hc0_1
  clear hr0_1 hc0_1
  have HB := zMk (Below.refl w.heap.size w)
  have H : ((filigreelaw04_Light.f a0_0 l0_1 40).bind fun t223 => (if t223 = true then ((paths_From.f k a0_0 l0_1 a1).bind fun bt225 => ((filigreeref12_Right.f k a0_0 l0_1).bind fun t232 => (if t232 = 0 then (if a1 < 0 then (filigreelaw12_PathsFrom.j0 k a1 bt225.1 bt225.2.1 bt225.2.2 t232 true a0_0 l0_1) else (filigreelaw12_PathsFrom.j0 k a1 bt225.1 bt225.2.1 bt225.2.2 t232 (decide (a1 ≥ a0_0)) a0_0 l0_1)) else (filigreelaw12_PathsFrom.j0 k a1 bt225.1 bt225.2.1 bt225.2.2 t232 false a0_0 l0_1)))) else ((filigreelaw12_alive.f k).bind fun t224 => (some t224)))) = some r := h
  clear h
  replace H := bnd H
  obtain ⟨t223, A30, H⟩ := H
  have A3 := zMk A30
  clear A30
  by_cases c4 : t223 = true
  · subst c4
    replace H : ((paths_From.f k a0_0 l0_1 a1).bind fun bt225 => ((filigreeref12_Right.f k a0_0 l0_1).bind fun t232 => (if t232 = 0 then (if a1 < 0 then (filigreelaw12_PathsFrom.j0 k a1 bt225.1 bt225.2.1 bt225.2.2 t232 true a0_0 l0_1) else (filigreelaw12_PathsFrom.j0 k a1 bt225.1 bt225.2.1 bt225.2.2 t232 (decide (a1 ≥ a0_0)) a0_0 l0_1)) else (filigreelaw12_PathsFrom.j0 k a1 bt225.1 bt225.2.1 bt225.2.2 t232 false a0_0 l0_1)))) = some r := by rw [if_pos rfl] at H; exact H
    replace H := bnd H
    obtain ⟨⟨t225, t228, t231⟩, A50, H⟩ := H
    replace H : ((filigreeref12_Right.f k a0_0 l0_1).bind fun t232 => (if t232 = 0 then (if a1 < 0 then (filigreelaw12_PathsFrom.j0 k a1 t225 t228 t231 t232 true a0_0 l0_1) else (filigreelaw12_PathsFrom.j0 k a1 t225 t228 t231 t232 (decide (a1 ≥ a0_0)) a0_0 l0_1)) else (filigreelaw12_PathsFrom.j0 k a1 t225 t228 t231 t232 false a0_0 l0_1))) = some r := H
    have A5 := zMk A50
    clear A50
    replace H := bnd H
    obtain ⟨t232, A60, H⟩ := H
    have A6 := zMk A60
    clear A60
    have HC7 := zMk H
    clear H
    go_enter Try.func4, Try.ntmps4
    go_upto_region 5 with (first | ((with_reducible refine gate_dst (N := 2) rfl ?_); (try (refine gate_guard (by rfl) ?_; dsimp only)); refine box_event ?hg (N := 2) ?hd (cs := #[.int .i64 a0_0, .slice A0_1 l0_1.length c0_1]) (t := 24) ?hr ?_; (case hd => rfl); (case hg => rfl); (case hr => first | (go_simp; done)|(go_simp; rfl)|(go_simp; rw [show ∀ x : Int, IntKind.u32.wrap (IntKind.u8.wrap x) = x % 256 from fun x => (by show (x % 256) % 4294967296 = x % 256; omega)])); intro gb222 hg w8 hbox hb; have BK222 := zMk (hbox); have GW222 := zMk ((by rw [hg]; exact (zBs (by exact uT HB.out)) : w.heap.size ≤ gb222)); have GE222 := zMk ((by rw [hg]; exact (zBs (by exact uT HB.out)) : w.heap.size ≤ gb222)); have IGE222 := ownGe GE222.out; replace HB := zMk (zBt (by exact uT HB.out) hb); clear hb hbox hg; have hcz9_0 : w8.cell? ⟨gb222, 0, none⟩ = some (.int .i64 a0_0) := (zKc BK222.out 0).trans rfl; have hcz9_1 : w8.cell? ⟨gb222, 1, none⟩ = some (.slice A0_1 l0_1.length c0_1) := (zKc BK222.out 1).trans rfl; have hfz9_0 := zKf BK222.out 0; have hfz9_1 := zKf BK222.out 1)|((with_reducible refine gate_callee (f := 10) rfl ?_); refine goesL_ (some 10) rfl rfl Try.func10 (by kernel_rfl) rfl #[.agg #[.int .i64 a0_0, .slice A0_1 l0_1.length c0_1], .int .i64 40] rfl (by (try simp only [zMa, zMc, zMn]); first |  done|  rfl|  (simp only [zLd, zLt]; rfl)) ?_; (with_reducible refine (filigreelaw04_Light.calls a0_0 _ _ l0_1 40 true _ ?side1 ?side2 A3.out).mono ?_); (case side1 => repeat (first |  exact (Kd.C_below HR0_1.out HB.out)|(with_reducible refine zCa ?_ _)|(with_reducible refine zCn ?_ _)|(with_reducible refine zCd ?_))); (case side2 => exact HC0_1.out); rintro e w10 ⟨rfl, hb⟩; refine ⟨_, rfl, ?_⟩; replace BK222 := zMk (zKb (g := gb222) (o := .cells #[.int .i64 a0_0, .slice A0_1 l0_1.length c0_1] 24 (0, 0)) (by (with_reducible repeat (first |  refine zKn ?_ _|  refine zKd ?_|  refine zKa ?_ _)); exact BK222.out) hb); replace HB := zMk (zBt (by exact uT HB.out) hb); have hcz11_0 : w10.cell? ⟨gb222, 0, none⟩ = some (.int .i64 a0_0) := (zKc BK222.out 0).trans rfl; have hcz11_1 : w10.cell? ⟨gb222, 1, none⟩ = some (.slice A0_1 l0_1.length c0_1) := (zKc BK222.out 1).trans rfl; have hfz11_0 := zKf BK222.out 0; have hfz11_1 := zKf BK222.out 1)|((with_reducible refine gate_callee (f := 11) rfl ?_); refine goesL_ (some 16) rfl rfl Try.func11 (by kernel_rfl) rfl #[.agg #[.int .i64 a0_0, .slice A0_1 l0_1.length c0_1], .int .i64 a1] rfl (by (try simp only [zMa, zMc, zMn]); first |  done|  rfl|  (simp only [zLd, zLt]; rfl)) ?_; (with_reducible refine (paths_From.calls k a0_0 _ _ l0_1 a1 t225 t228 t231 _ ?side1 ?side2 A5.out).mono ?_); (case side1 => repeat (first |  exact (Kd.C_below HR0_1.out HB.out)|(with_reducible refine zCa ?_ _)|(with_reducible refine zCn ?_ _)|(with_reducible refine zCd ?_))); (case side2 => exact HC0_1.out); rintro e w12 ⟨v226, v229, rfl, ho0, ho1, hb⟩; refine ⟨_, rfl, ?_⟩; have HO227 := zMk (zRl ho0 (zBs (by exact uT HB.out))); have HO230 := zMk (zRl ho1 (zBs (by exact uT HB.out))); replace BK222 := zMk (zKb (g := gb222) (o := .cells #[.int .i64 a0_0, .slice A0_1 l0_1.length c0_1] 24 (0, 0)) (by (with_reducible repeat (first |  refine zKn ?_ _|  refine zKd ?_|  refine zKa ?_ _)); exact BK222.out) hb); replace HB := zMk (zBt (by exact uT HB.out) hb); have hcz13_0 : w12.cell? ⟨gb222, 0, none⟩ = some (.int .i64 a0_0) := (zKc BK222.out 0).trans rfl; have hcz13_1 : w12.cell? ⟨gb222, 1, none⟩ = some (.slice A0_1 l0_1.length c0_1) := (zKc BK222.out 1).trans rfl; have hfz13_0 := zKf BK222.out 0; have hfz13_1 := zKf BK222.out 1)|((with_reducible refine gate_callee (f := 8) rfl ?_); refine goesL_ (some 21) rfl rfl Try.func8 (by kernel_rfl) rfl #[.agg #[.int .i64 a0_0, .slice A0_1 l0_1.length c0_1]] rfl (by (try simp only [zMa, zMc, zMn]); first |  done|  rfl|  (simp only [zLd, zLt]; rfl)) ?_; (with_reducible refine (filigreeref12_Right.calls k a0_0 _ _ l0_1 t232 _ ?side1 ?side2 A6.out).mono ?_); (case side1 => repeat (first |  exact (Kd.C_below HR0_1.out HB.out)|(with_reducible refine zCa ?_ _)|(with_reducible refine zCn ?_ _)|(with_reducible refine zCd ?_))); (case side2 => exact HC0_1.out); rintro e w14 ⟨rfl, hb⟩; refine ⟨_, rfl, ?_⟩; replace HO227 := zMk (zRb (by exact uR HO227.out) hb); replace HO230 := zMk (zRb (by exact uR HO230.out) hb); replace BK222 := zMk (zKb (g := gb222) (o := .cells #[.int .i64 a0_0, .slice A0_1 l0_1.length c0_1] 24 (0, 0)) (by (with_reducible repeat (first |  refine zKn ?_ _|  refine zKd ?_|  refine zKa ?_ _)); exact BK222.out) hb); replace HB := zMk (zBt (by exact uT HB.out) hb)))
    (try simp only [Act.put, zSa, zSb, zSc])
    go_cut [33] (fun v33 wc => ∃ (kq : Nat) (x33_6 : Bool), v33 = .bool x33_6 ∧ Aside0 (filigreelaw12_PathsFrom.j0 kq a1 t225 t228 t231 t232 x33_6 a0_0 l0_1 = some r) ∧ Aside0 (kq ≤ k) ∧ Aside0 (Kd.R (Kd.int .i64) 2 wc w.heap.size (fun _ => True) v226 t225) ∧ Aside0 (Kd.R (Kd.int .i64) 3 wc w.heap.size (fun _ => True) v229 t228) ∧ Aside0 (wc.heap[gb222]? = some (.cells #[.int .i64 a0_0, (.slice A0_1 l0_1.length c0_1)] 24 (0, 0))) ∧ Aside0 (Below w.heap.size w wc))
    case first =>
      have H := HC7.out
      clear HC7
      by_cases c15 : t232 = 0
      · rw [if_pos c15] at H
        have c15b0 : (t232 == 0) = true := beq_iff_eq.mpr c15
        have c15b1 : (t232 != 0) = false := bne_eq_false_iff_eq.mpr c15
        clear c15
        (first | rw [c15b0] | (simp only [i64_w, i32_w]; rw [c15b0]) | rw [c15b1] | skip)
        by_cases c16 : a1 < 0
        · rw [if_pos c16] at H
          have c16b0 : decide (a1 < 0) = true := decide_eq_true c16
          clear c16
          have H' := zMk H
          clear H
          go_wp2
          go_meet
          case rel => exact ⟨_, (true), (by first | rfl | (simp; done) | (simp [*]; done)), H', ⟨by first | omega | exact Nat.le_refl _⟩, ⟨by exact uR HO227.out⟩, ⟨by exact uR HO230.out⟩, ⟨by (with_reducible repeat (first | refine zKn ?_ _ | refine zKd ?_ | refine zKa ?_ _)); exact BK222.out⟩, ⟨by exact uT HB.out⟩⟩
        · rw [if_neg c16] at H
          have c16b0 : decide (a1 < 0) = false := decide_eq_false c16
          clear c16
          have H' := zMk H
          clear H
          have hcz17_0 : w14.cell? ⟨gb222, 0, none⟩ = some (.int .i64 a0_0) := (zKc BK222.out 0).trans rfl
          have hcz17_1 : w14.cell? ⟨gb222, 1, none⟩ = some (.slice A0_1 l0_1.length c0_1) := (zKc BK222.out 1).trans rfl
          have hfz17_0 := zKf BK222.out 0
          have hfz17_1 := zKf BK222.out 1
          go_wp2
          go_meet
          case rel => exact ⟨_, (decide (a1 ≥ a0_0)), (by first | rfl | (simp; done) | (simp [*]; done)), H', ⟨by first | omega | exact Nat.le_refl _⟩, ⟨by exact uR HO227.out⟩, ⟨by exact uR HO230.out⟩, ⟨by (with_reducible repeat (first | refine zKn ?_ _ | refine zKd ?_ | refine zKa ?_ _)); exact BK222.out⟩, ⟨by exact uT HB.out⟩⟩
      · rw [if_neg c15] at H
        have c15b0 : (t232 == 0) = false := beq_eq_false_iff_ne.mpr c15
        have c15b1 : (t232 != 0) = true := bne_iff_ne.mpr c15
        (first | rw [c15b0] | (simp only [i64_w, i32_w]; rw [c15b0]) | rw [c15b1] | skip)
        have H' := zMk H
        clear H
        go_wp2
        go_meet
        case rel => exact ⟨_, (false), (by first | rfl | (simp; done) | (simp [*]; done)), H', ⟨by first | omega | exact Nat.le_refl _⟩, ⟨by exact uR HO227.out⟩, ⟨by exact uR HO230.out⟩, ⟨by (with_reducible repeat (first | refine zKn ?_ _ | refine zKd ?_ | refine zKa ?_ _)); exact BK222.out⟩, ⟨by exact uT HB.out⟩⟩
    case rest =>
      clear HC7
      obtain ⟨kq, x33_6, rfl, HA, HJ6, HO_5, HO_6, BK222, HB⟩ := hcut
      rcases kq with _ | kj6
      · exact absurd HA.out (by simp [filigreelaw12_PathsFrom.j0])
      have H := HA.out
      clear HA
      simp only [filigreelaw12_PathsFrom.j0] at H
      have HC18 := zMk H
      clear H
      go_upto_if 33 with (fail)
      go_cut [8] (fun v8 wc => ∃ (kq : Nat) (x8_17 : Int), v8 = .int .i64 x8_17 ∧ Aside0 (filigreelaw12_PathsFrom.j1 kq a1 t225 t228 t231 x8_17 a0_0 l0_1 = some r) ∧ Aside0 (kq ≤ kj6) ∧ Aside0 (Kd.R (Kd.int .i64) 2 wc w.heap.size (fun _ => True) v226 t225) ∧ Aside0 (Kd.R (Kd.int .i64) 3 wc w.heap.size (fun _ => True) v229 t228) ∧ Aside0 (wc.heap[gb222]? = some (.cells #[.int .i64 a0_0, (.slice A0_1 l0_1.length c0_1)] 24 (0, 0))) ∧ Aside0 (Below w.heap.size w wc))
      case first =>
        have H := HC18.out
        clear HC18
        by_cases c19 : x33_6 = true
        · subst c19
          replace H : (filigreelaw12_PathsFrom.j1 kj6 a1 t225 t228 t231 5 a0_0 l0_1) = some r := by rw [if_pos rfl] at H; exact H
          have H' := zMk H
          clear H
          go_wp2
          go_meet
          case rel => exact ⟨_, (5), (by first | rfl | (simp; done) | (simp [*]; done)), H', ⟨by have := HJ6.out; first | omega | exact Nat.le_refl _⟩, ⟨by exact uR HO_5.out⟩, ⟨by exact uR HO_6.out⟩, ⟨by (with_reducible repeat (first | refine zKn ?_ _ | refine zKd ?_ | refine zKa ?_ _)); exact BK222.out⟩, ⟨by exact uT HB.out⟩⟩
        · replace c19 := Bool.eq_false_iff.mpr c19
          subst c19
          replace H : (filigreelaw12_PathsFrom.j1 kj6 a1 t225 t228 t231 t232 a0_0 l0_1) = some r := by rw [if_neg (show ¬ (false = true) by decide)] at H; exact H
          have H' := zMk H
          clear H
          go_wp2
          go_meet
          case rel => exact ⟨_, (t232), (by first | rfl | (simp; done) | (simp [*]; done)), H', ⟨by have := HJ6.out; first | omega | exact Nat.le_refl _⟩, ⟨by exact uR HO_5.out⟩, ⟨by exact uR HO_6.out⟩, ⟨by (with_reducible repeat (first | refine zKn ?_ _ | refine zKd ?_ | refine zKa ?_ _)); exact BK222.out⟩, ⟨by exact uT HB.out⟩⟩
      case rest =>
        clear HC18
        obtain ⟨kq, x8_17, rfl, HA, HJ17, HO_5, HO_6, BK222, HB⟩ := hcut
        rcases kq with _ | kj17
        · exact absurd HA.out (by simp [filigreelaw12_PathsFrom.j1])
        have H := HA.out
        clear HA
        simp only [filigreelaw12_PathsFrom.j1] at H
        by_cases c20 : x8_17 = 0
        · rw [if_pos c20] at H
          have c20b0 : (x8_17 == 0) = true := beq_iff_eq.mpr c20
          have c20b1 : (x8_17 != 0) = false := bne_eq_false_iff_eq.mpr c20
          clear c20
          by_cases c21 : t231 = 0
          · rw [if_pos c21] at H
            have c21b0 : (t231 == 0) = true := beq_iff_eq.mpr c21
            have c21b1 : (t231 != 0) = false := bne_eq_false_iff_eq.mpr c21
            clear c21
            replace H := bnd H
            obtain ⟨t234, A220, H⟩ := H
            have A22 := zMk A220
            clear A220
            replace H := bnd H
            obtain ⟨t237, A230, H⟩ := H
            have A23 := zMk A230
            clear A230
            by_cases c24 : t237 = true
            · subst c24
              replace H : ((filigreeref12_Check.f kj17 a0_0 l0_1 a1 t225 t228).bind fun t238 => (if t238 = 0 then ((filigreelaw12_alive.f kj17).bind fun t239 => (some t239)) else (some false))) = some r := by rw [if_pos rfl] at H; exact H
              replace H := bnd H
              obtain ⟨t238, A250, H⟩ := H
              have A25 := zMk A250
              clear A250
              by_cases c26 : t238 = 0
              · rw [if_pos c26] at H
                have c26b0 : (t238 == 0) = true := beq_iff_eq.mpr c26
                have c26b1 : (t238 != 0) = false := bne_eq_false_iff_eq.mpr c26
                clear c26
                replace H := bnd H
                obtain ⟨t239, A270, H⟩ := H
                have A27 := zMk A270
                clear A270
                obtain rfl := zOi H
                have hcz28_0 : wc.cell? ⟨gb222, 0, none⟩ = some (.int .i64 a0_0) := (zKc BK222.out 0).trans rfl
                have hcz28_1 : wc.cell? ⟨gb222, 1, none⟩ = some (.slice A0_1 l0_1.length c0_1) := (zKc BK222.out 1).trans rfl
                have hfz28_0 := zKf BK222.out 0
                have hfz28_1 := zKf BK222.out 1
                go_wp2_with (first | (go_at_call 13; (with_reducible refine (filigreeref12_Dist.calls kj17 a0_0 _ _ l0_1 a1 t234 _ ?side1 ?side2 A22.out).mono ?_); (case side1 => repeat (first |  exact (Kd.C_below HR0_1.out HB.out)|(with_reducible refine zCa ?_ _)|(with_reducible refine zCn ?_ _)|(with_reducible refine zCd ?_))); (case side2 => exact HC0_1.out); rintro e w29 ⟨v235, rfl, ho0, hb⟩; replace HO_6 := zMk (zRb (by exact uR HO_6.out) hb); have HO236 := zMk (zRl (zRw ho0 (zRt (by exact uR HO_5.out))) (zBs (by exact uT HB.out))); replace HO_5 := zMk (zRe (by exact uR HO_5.out) (zRz ho0) hb); replace BK222 := zMk (zKb (g := gb222) (o := .cells #[.int .i64 a0_0, .slice A0_1 l0_1.length c0_1] 24 (0, 0)) (by (with_reducible repeat (first |  refine zKn ?_ _|  refine zKd ?_|  refine zKa ?_ _)); exact BK222.out) hb); replace HB := zMk (zBt (by exact uT HB.out) hb); obtain ⟨Ao30, co30, eo30⟩ := zRs HO_5.out; subst eo30; obtain ⟨Ao31, co31, eo31⟩ := zRs HO236.out; subst eo31)|(go_at_call 12; (with_reducible refine (filigreelaw12_longs.calls kj17 _ _ t225 _ _ t234 true _ ?side1 ?side2 ?side3 ?side4 A23.out).mono ?_); (case side1 => exact uC (zRr HO_5.out).2.2); (case side2 => exact (zRr HO_5.out).2.1); (case side3 => exact uC (zRr HO236.out).2.2); (case side4 => exact (zRr HO236.out).2.1); rintro e w' ⟨rfl, ⟨nd, rfl⟩⟩; have hcz32_0 : w29.cell? ⟨gb222, 0, none⟩ = some (.int .i64 a0_0) := (zKc BK222.out 0).trans rfl; have hcz32_1 : w29.cell? ⟨gb222, 1, none⟩ = some (.slice A0_1 l0_1.length c0_1) := (zKc BK222.out 1).trans rfl; have hfz32_0 := zKf BK222.out 0; have hfz32_1 := zKf BK222.out 1; obtain ⟨Ao33, co33, eo33⟩ := zRs HO_6.out; subst eo33)|(go_at_call 14; (with_reducible refine (filigreeref12_Check.calls kj17 a0_0 _ _ l0_1 a1 _ _ t225 _ _ t228 t238 _ ?side1 ?side2 ?side3 ?side4 ?side5 ?side6 A25.out).mono ?_); (case side1 => repeat (first |  exact (Kd.C_below HR0_1.out (by exact uT HB.out))|(with_reducible refine zCa ?_ _)|(with_reducible refine zCn ?_ _)|(with_reducible refine zCd ?_))); (case side2 => exact HC0_1.out); (case side3 => exact uC (zRr HO_5.out).2.2); (case side4 => exact (zRr HO_5.out).2.1); (case side5 => exact uC (zRr HO_6.out).2.2); (case side6 => exact (zRr HO_6.out).2.1); rintro e w34 ⟨rfl, hb⟩; replace HO_5 := zMk (zRb (by exact uR HO_5.out) hb); replace HO_6 := zMk (zRb (by exact uR HO_6.out) hb); replace HO236 := zMk (zRb (by exact uR HO236.out) hb); replace BK222 := zMk (zKb (g := gb222) (o := .cells #[.int .i64 a0_0, .slice A0_1 l0_1.length c0_1] 24 (0, 0)) (by (with_reducible repeat (first |  refine zKn ?_ _|  refine zKd ?_|  refine zKa ?_ _)); exact BK222.out) hb); replace HB := zMk (zBt (by exact uT HB.out) hb))|(go_at_call 9; (with_reducible refine (filigreelaw12_alive.calls kj17  t239 _ A27.out).mono ?_); rintro e w35 ⟨rfl, hb⟩; replace HO_5 := zMk (zRb (by exact uR HO_5.out) hb); replace HO_6 := zMk (zRb (by exact uR HO_6.out) hb); replace HO236 := zMk (zRb (by exact uR HO236.out) hb); replace BK222 := zMk (zKb (g := gb222) (o := .cells #[.int .i64 a0_0, .slice A0_1 l0_1.length c0_1] 24 (0, 0)) (by (with_reducible repeat (first |  refine zKn ?_ _|  refine zKd ?_|  refine zKa ?_ _)); exact BK222.out) hb); replace HB := zMk (zBt (by exact uT HB.out) hb)))
                go_ret
                exact ⟨by first | rfl | (simp [errW_none, errW_some] <;> rfl) | (simp [*, errW_none, errW_some] <;> rfl), by exact uT HB.out⟩
              · rw [if_neg c26] at H
                have c26b0 : (t238 == 0) = false := beq_eq_false_iff_ne.mpr c26
                have c26b1 : (t238 != 0) = true := bne_iff_ne.mpr c26
                obtain rfl := zOi H
                have hcz36_0 : wc.cell? ⟨gb222, 0, none⟩ = some (.int .i64 a0_0) := (zKc BK222.out 0).trans rfl
                have hcz36_1 : wc.cell? ⟨gb222, 1, none⟩ = some (.slice A0_1 l0_1.length c0_1) := (zKc BK222.out 1).trans rfl
                have hfz36_0 := zKf BK222.out 0
                have hfz36_1 := zKf BK222.out 1
                go_wp2_with (first | (go_at_call 13; (with_reducible refine (filigreeref12_Dist.calls kj17 a0_0 _ _ l0_1 a1 t234 _ ?side1 ?side2 A22.out).mono ?_); (case side1 => repeat (first |  exact (Kd.C_below HR0_1.out HB.out)|(with_reducible refine zCa ?_ _)|(with_reducible refine zCn ?_ _)|(with_reducible refine zCd ?_))); (case side2 => exact HC0_1.out); rintro e w37 ⟨v235, rfl, ho0, hb⟩; replace HO_6 := zMk (zRb (by exact uR HO_6.out) hb); have HO236 := zMk (zRl (zRw ho0 (zRt (by exact uR HO_5.out))) (zBs (by exact uT HB.out))); replace HO_5 := zMk (zRe (by exact uR HO_5.out) (zRz ho0) hb); replace BK222 := zMk (zKb (g := gb222) (o := .cells #[.int .i64 a0_0, .slice A0_1 l0_1.length c0_1] 24 (0, 0)) (by (with_reducible repeat (first |  refine zKn ?_ _|  refine zKd ?_|  refine zKa ?_ _)); exact BK222.out) hb); replace HB := zMk (zBt (by exact uT HB.out) hb); obtain ⟨Ao38, co38, eo38⟩ := zRs HO_5.out; subst eo38; obtain ⟨Ao39, co39, eo39⟩ := zRs HO236.out; subst eo39)|(go_at_call 12; (with_reducible refine (filigreelaw12_longs.calls kj17 _ _ t225 _ _ t234 true _ ?side1 ?side2 ?side3 ?side4 A23.out).mono ?_); (case side1 => exact uC (zRr HO_5.out).2.2); (case side2 => exact (zRr HO_5.out).2.1); (case side3 => exact uC (zRr HO236.out).2.2); (case side4 => exact (zRr HO236.out).2.1); rintro e w' ⟨rfl, ⟨nd, rfl⟩⟩; have hcz40_0 : w37.cell? ⟨gb222, 0, none⟩ = some (.int .i64 a0_0) := (zKc BK222.out 0).trans rfl; have hcz40_1 : w37.cell? ⟨gb222, 1, none⟩ = some (.slice A0_1 l0_1.length c0_1) := (zKc BK222.out 1).trans rfl; have hfz40_0 := zKf BK222.out 0; have hfz40_1 := zKf BK222.out 1; obtain ⟨Ao41, co41, eo41⟩ := zRs HO_6.out; subst eo41)|(go_at_call 14; (with_reducible refine (filigreeref12_Check.calls kj17 a0_0 _ _ l0_1 a1 _ _ t225 _ _ t228 t238 _ ?side1 ?side2 ?side3 ?side4 ?side5 ?side6 A25.out).mono ?_); (case side1 => repeat (first |  exact (Kd.C_below HR0_1.out (by exact uT HB.out))|(with_reducible refine zCa ?_ _)|(with_reducible refine zCn ?_ _)|(with_reducible refine zCd ?_))); (case side2 => exact HC0_1.out); (case side3 => exact uC (zRr HO_5.out).2.2); (case side4 => exact (zRr HO_5.out).2.1); (case side5 => exact uC (zRr HO_6.out).2.2); (case side6 => exact (zRr HO_6.out).2.1); rintro e w42 ⟨rfl, hb⟩; replace HO_5 := zMk (zRb (by exact uR HO_5.out) hb); replace HO_6 := zMk (zRb (by exact uR HO_6.out) hb); replace HO236 := zMk (zRb (by exact uR HO236.out) hb); replace BK222 := zMk (zKb (g := gb222) (o := .cells #[.int .i64 a0_0, .slice A0_1 l0_1.length c0_1] 24 (0, 0)) (by (with_reducible repeat (first |  refine zKn ?_ _|  refine zKd ?_|  refine zKa ?_ _)); exact BK222.out) hb); replace HB := zMk (zBt (by exact uT HB.out) hb)))
                go_ret
                exact ⟨by first | rfl | (simp [errW_none, errW_some] <;> rfl) | (simp [*, errW_none, errW_some] <;> rfl), by exact uT HB.out⟩
            · replace c24 := Bool.eq_false_iff.mpr c24
              subst c24
              replace H : (some false) = some r := by rw [if_neg (show ¬ (false = true) by decide)] at H; exact H
              exact absurd ((zOi H).trans HRT.out) (by decide)
          · rw [if_neg c21] at H
            have c21b0 : (t231 == 0) = false := beq_eq_false_iff_ne.mpr c21
            have c21b1 : (t231 != 0) = true := bne_iff_ne.mpr c21
            exact absurd ((zOi H).trans HRT.out) (by decide)
        · rw [if_neg c20] at H
          have c20b0 : (x8_17 == 0) = false := beq_eq_false_iff_ne.mpr c20
          have c20b1 : (x8_17 != 0) = true := bne_iff_ne.mpr c20
          by_cases c47 : t231 = x8_17
          · rw [if_pos c47] at H
            have c47b0 : (t231 == x8_17) = true := beq_iff_eq.mpr c47
            have c47b1 : (t231 != x8_17) = false := bne_eq_false_iff_eq.mpr c47
            clear c47
            by_cases c48 : (wrap64 ((t225.length : Int) + (t228.length : Int))) = 0
            · rw [if_pos c48] at H
              have c48b0 : ((wrap64 ((t225.length : Int) + (t228.length : Int))) == 0) = true := beq_iff_eq.mpr c48
              have c48b1 : ((wrap64 ((t225.length : Int) + (t228.length : Int))) != 0) = false := bne_eq_false_iff_eq.mpr c48
              clear c48
              replace H := bnd H
              obtain ⟨t233, A490, H⟩ := H
              have A49 := zMk A490
              clear A490
              obtain rfl := zOi H
              obtain ⟨Ao50, co50, eo50⟩ := zRs HO_5.out
              subst eo50
              obtain ⟨Ao51, co51, eo51⟩ := zRs HO_6.out
              subst eo51
              go_wp2_with (first | (go_at_call 9; (with_reducible refine (filigreelaw12_alive.calls kj17  t233 _ A49.out).mono ?_); rintro e w52 ⟨rfl, hb⟩; replace HO_5 := zMk (zRb (by exact uR HO_5.out) hb); replace HO_6 := zMk (zRb (by exact uR HO_6.out) hb); replace BK222 := zMk (zKb (g := gb222) (o := .cells #[.int .i64 a0_0, .slice A0_1 l0_1.length c0_1] 24 (0, 0)) (by (with_reducible repeat (first |  refine zKn ?_ _|  refine zKd ?_|  refine zKa ?_ _)); exact BK222.out) hb); replace HB := zMk (zBt (by exact uT HB.out) hb)))
              go_ret
              exact ⟨by first | rfl | (simp [errW_none, errW_some] <;> rfl) | (simp [*, errW_none, errW_some] <;> rfl), by exact uT HB.out⟩
            · rw [if_neg c48] at H
              have c48b0 : ((wrap64 ((t225.length : Int) + (t228.length : Int))) == 0) = false := beq_eq_false_iff_ne.mpr c48
              have c48b1 : ((wrap64 ((t225.length : Int) + (t228.length : Int))) != 0) = true := bne_iff_ne.mpr c48
              obtain rfl := zOi H
              obtain ⟨Ao53, co53, eo53⟩ := zRs HO_5.out
              subst eo53
              obtain ⟨Ao54, co54, eo54⟩ := zRs HO_6.out
              subst eo54
              go_wp2
              go_ret
              exact ⟨by first | rfl | (simp [errW_none, errW_some] <;> rfl) | (simp [*, errW_none, errW_some] <;> rfl), by exact uT HB.out⟩
          · rw [if_neg c47] at H
            have c47b0 : (t231 == x8_17) = false := beq_eq_false_iff_ne.mpr c47
            have c47b1 : (t231 != x8_17) = true := bne_iff_ne.mpr c47
            obtain rfl := zOi H
            go_wp2
            go_ret
            exact ⟨by first | rfl | (simp [errW_none, errW_some] <;> rfl) | (simp [*, errW_none, errW_some] <;> rfl), by exact uT HB.out⟩
  · replace c4 := Bool.eq_false_iff.mpr c4
    subst c4
    replace H : ((filigreelaw12_alive.f k).bind fun t224 => (some t224)) = some r := by rw [if_neg (show ¬ (false = true) by decide)] at H; exact H
    replace H := bnd H
    obtain ⟨t224, A550, H⟩ := H
    have A55 := zMk A550
    clear A550
    obtain rfl := zOi H
    go_enter Try.func4, Try.ntmps4
    go_wp2_with (first | ((with_reducible refine gate_dst (N := 2) rfl ?_); (try (refine gate_guard (by rfl) ?_; dsimp only)); refine box_event ?hg (N := 2) ?hd (cs := #[.int .i64 a0_0, .slice A0_1 l0_1.length c0_1]) (t := 24) ?hr ?_; (case hd => rfl); (case hg => rfl); (case hr => first | (go_simp; done)|(go_simp; rfl)|(go_simp; rw [show ∀ x : Int, IntKind.u32.wrap (IntKind.u8.wrap x) = x % 256 from fun x => (by show (x % 256) % 4294967296 = x % 256; omega)])); intro gb222 hg w56 hbox hb; have BK222 := zMk (hbox); have GW222 := zMk ((by rw [hg]; exact (zBs (by exact uT HB.out)) : w.heap.size ≤ gb222)); have GE222 := zMk ((by rw [hg]; exact (zBs (by exact uT HB.out)) : w.heap.size ≤ gb222)); have IGE222 := ownGe GE222.out; replace HB := zMk (zBt (by exact uT HB.out) hb); clear hb hbox hg; have hcz57_0 : w56.cell? ⟨gb222, 0, none⟩ = some (.int .i64 a0_0) := (zKc BK222.out 0).trans rfl; have hcz57_1 : w56.cell? ⟨gb222, 1, none⟩ = some (.slice A0_1 l0_1.length c0_1) := (zKc BK222.out 1).trans rfl; have hfz57_0 := zKf BK222.out 0; have hfz57_1 := zKf BK222.out 1)|((with_reducible refine gate_callee (f := 10) rfl ?_); refine goesL_ (some 10) rfl rfl Try.func10 (by kernel_rfl) rfl #[.agg #[.int .i64 a0_0, .slice A0_1 l0_1.length c0_1], .int .i64 40] rfl (by (try simp only [zMa, zMc, zMn]); first |  done|  rfl|  (simp only [zLd, zLt]; rfl)) ?_; (with_reducible refine (filigreelaw04_Light.calls a0_0 _ _ l0_1 40 false _ ?side1 ?side2 A3.out).mono ?_); (case side1 => repeat (first |  exact (Kd.C_below HR0_1.out HB.out)|(with_reducible refine zCa ?_ _)|(with_reducible refine zCn ?_ _)|(with_reducible refine zCd ?_))); (case side2 => exact HC0_1.out); rintro e w58 ⟨rfl, hb⟩; refine ⟨_, rfl, ?_⟩; replace BK222 := zMk (zKb (g := gb222) (o := .cells #[.int .i64 a0_0, .slice A0_1 l0_1.length c0_1] 24 (0, 0)) (by (with_reducible repeat (first |  refine zKn ?_ _|  refine zKd ?_|  refine zKa ?_ _)); exact BK222.out) hb); replace HB := zMk (zBt (by exact uT HB.out) hb))|((with_reducible refine gate_callee (f := 9) rfl ?_); refine goesL_ (some 12) rfl rfl Try.func9 (by kernel_rfl) rfl #[] rfl (by (try simp only [zMa, zMc, zMn]); first |  done|  rfl|  (simp only [zLd, zLt]; rfl)) ?_; (with_reducible refine (filigreelaw12_alive.calls k  t224 _ A55.out).mono ?_); rintro e w59 ⟨rfl, hb⟩; refine ⟨_, rfl, ?_⟩; replace BK222 := zMk (zKb (g := gb222) (o := .cells #[.int .i64 a0_0, .slice A0_1 l0_1.length c0_1] 24 (0, 0)) (by (with_reducible repeat (first |  refine zKn ?_ _|  refine zKd ?_|  refine zKa ?_ _)); exact BK222.out) hb); replace HB := zMk (zBt (by exact uT HB.out) hb)))
    go_ret
    exact ⟨by first | rfl | (simp [errW_none, errW_some] <;> rfl) | (simp [*, errW_none, errW_some] <;> rfl), by exact uT HB.out⟩

def filigreelaw12_PathsFrom.Pure : Prop := ∀ (a0_0 : Int) (l0_1 : List A.S39) (a1 : Int), (Lit.int .i64 a0_0).wf = true → l0_1.length ≤ maxLen → (∀ x ∈ l0_1, (Lit.int .i64 x.f0).wf = true ∧ (Lit.int .i64 x.f1).wf = true ∧ (Lit.int .i64 x.f2).wf = true) → (Lit.int .i64 a1).wf = true → ∃ k, filigreelaw12_PathsFrom.f k a0_0 l0_1 a1 = some true
theorem alive_at2 : filigreelaw12_alive.f 1000002 = some true := by decide +kernel
theorem longs_l0 (l : List Int) (hl : l.length ≤ 1000000) (d : Nat) : ∀ (k i : Nat), l.length - i = d → i ≤ l.length → d + 1 ≤ k → filigreelaw12_longs.l0 k l l (i : Int) = some true := by
  induction d with
  | zero =>
    intro k i hd hi hk
    obtain ⟨k, rfl⟩ : ∃ m, k = m + 1 := ⟨k - 1, by omega⟩
    simp only [filigreelaw12_longs.l0]
    rw [if_neg (by omega)]
  | succ d ih =>
    intro k i hd hi hk
    obtain ⟨k, rfl⟩ : ∃ m, k = m + 1 := ⟨k - 1, by omega⟩
    simp only [filigreelaw12_longs.l0]
    rw [if_pos (by omega), if_pos (by omega), if_pos (by omega), if_pos trivial, w64 (by omega) (by omega)]
    exact ih k (i + 1) (by omega) (by omega) (by omega)
theorem pure_PathsFrom : filigreelaw12_PathsFrom.Pure := by
  intro n E v _ _ _ _
  obtain ⟨k, hk⟩ : ∃ k : Nat, k = 1000002 := ⟨_, rfl⟩
  refine ⟨k, ?_⟩
  unfold filigreelaw12_PathsFrom.f filigreelaw04_Light.f
  have a0 : filigreelaw12_alive.f 1000000 = some true := alive_at0
  have a2 : filigreelaw12_alive.f k = some true := by rw [hk]; exact alive_at2
  have w160 : wrap64 (4 * 40) = 160 := by decide +kernel
  have wE : wrap64 ((([] : List Int).length : Int) + (([] : List Int).length : Int)) = 0 := by decide +kernel
  rw [w160]
  by_cases h1 : n ≤ 40
  rotate_left
  · rw [if_neg h1, zOb, if_neg (by decide), a2]; rfl
  rw [if_pos h1, zOb]
  by_cases h2 : (E.length : Int) ≤ 160
  rotate_left
  · rw [decide_eq_false h2, if_neg (by decide), a2]; rfl
  rw [decide_eq_true h2, if_pos rfl, refRight_eq k n E (by omega)]
  have j1 : ∀ (x5 x6 : List Int) (x7 x8 : Int), filigreelaw12_PathsFrom.j1 1000001 v x5 x6 x7 x8 n E = (if x8 = 0 then (if x7 = 0 then ((filigreeref12_Dist.f 1000000 n E v).bind fun t264 => ((filigreelaw12_longs.f 1000000 x5 t264).bind fun t267 => (if t267 = true then ((filigreeref12_Check.f 1000000 n E v x5 x6).bind fun t268 => (if t268 = 0 then ((filigreelaw12_alive.f 1000000).bind fun t269 => (some t269)) else (some false))) else (some false)))) else (some false)) else (if x7 = x8 then (if (wrap64 ((x5.length : Int) + (x6.length : Int))) = 0 then ((filigreelaw12_alive.f 1000000).bind fun t263 => (some t263)) else (some false)) else (some false))) := fun _ _ _ _ => rfl
  have j0 : ∀ (x5 x6 : List Int) (x7 x8 : Int) (b : Bool), filigreelaw12_PathsFrom.j0 k v x5 x6 x7 x8 b n E = (if b = true then filigreelaw12_PathsFrom.j1 1000001 v x5 x6 x7 5 n E else filigreelaw12_PathsFrom.j1 1000001 v x5 x6 x7 x8 n E) := fun _ _ _ _ _ => by rw [hk]; rfl
  by_cases h3 : rightP n E = 0
  · obtain ⟨q0, q1, hE⟩ := right_ok n E h3
    by_cases hv : 0 ≤ v ∧ v < n
    · obtain ⟨d, p, rk, I, e⟩ := From_eq k h3 hv (by omega) h1 (by omega)
      rw [e, zOb, zOb, if_pos h3, if_neg (by omega), decide_eq_false (by omega), j0, if_neg (by decide), j1, if_pos h3, if_pos rfl,
        Dist_eq hE (by omega) ⟨q0, h1⟩ I hv _ (by omega), zOb]
      have hl : filigreelaw12_longs.f 1000000 d d = some true := by
        unfold filigreelaw12_longs.f
        rw [if_pos rfl]
        have := I.dl
        exact longs_l0 d (by omega) d.length 1000000 0 (by omega) (by omega) (by omega)
      have hpv : rd p v = -1 := by
        rcases (I.st v (I.least v 0 Walk.nil).1).2.2.2 with ⟨_, _, h⟩ | ⟨h, _⟩
        · exact h
        · exact absurd rfl h
      have hc := (refCheck_in h3 hv (by omega) h1 I d p 1000000 (by omega)).1 ⟨rfl, by have := I.pl; omega, hpv, I.good hE⟩
      rw [hl, zOb, if_pos rfl, hc, zOb, if_pos rfl, a0]
      rfl
    · rw [From_out k n E v (by omega) (by omega) h3 (by omega), zOb, zOb, if_pos h3]
      have fin : filigreelaw12_PathsFrom.j0 k v [] [] 5 (rightP n E) true n E = some true := by
        rw [j0, if_pos rfl, j1, if_neg (by decide), if_pos rfl, if_pos wE, a0]
        rfl
      by_cases hv0 : v < 0
      · rw [if_pos hv0]; exact fin
      · rw [if_neg hv0, decide_eq_true (by omega)]; exact fin
  · rw [From_bad k n E v (by omega) (by omega) h3, zOb, zOb, if_neg h3]
    show filigreelaw12_PathsFrom.j0 k v [] [] (rightP n E) (rightP n E) false n E = some true
    rw [j0, if_neg (by decide), j1, if_neg h3, if_pos rfl, if_pos wE, a0]
    rfl
end Go.Proofs.Ytnigaojboililaa.A
