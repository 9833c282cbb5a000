/- Lemmas for the statement: the walks of the functions that it reaches, and plain laws. -/
import Derived.Test.YtkiemlbobcklpaaG3
import Derived.Test.YtkiemlbobcklpaaG2
import Derived.Test.YtkiemlbobcklpaaG1
set_option linter.unusedVariables false
set_option linter.unusedSimpArgs false
set_option maxHeartbeats 8000000
set_option maxRecDepth 100000
namespace Go.Proofs.Ytkiemlbobcklpaa.A
open Go Go.RowKit Go.Proofs.YtkiemlbobcklpaaW.PrintWords Go.Proofs.YtkiemlbobcklpaaW.PrintLast Go.Proofs.YtkiemlbobcklpaaW.PrintMore
attribute [local go_sem] max2_int min2_int max_two min_two max_three min_three max_four min_four
open Go.Proofs.YtkiemlbobcklpaaW.PrintWords.Kd renaming R_alloc → zRa, R_drewN → zRn, R_drew → zRd, C_alloc → zCa, C_drewN → zCn, C_drew → zCd, R_mono → zRm, at_int → zAi, R_elder' → zRe, R_lower → zRl, R_new' → zRw, R_lt → zRt, R_below → zRb, R_base → zRz, R_reads' → zRr, R_slice → zRs
open Go.Proofs.YtkiemlbobcklpaaW.PrintWords renaming pw_below_drewN → zBn, below_alloc → zBa, below_drew1 → zBd, below_size → zBs, below_step → zBt, blk_drewN → zKn, blk_drew → zKd, blk_alloc → zKa, blk_below → zKb, blk_cell → zKc, blk_frozen → zKf
open List renaming setIfInBounds_toArray → zSa, set_cons_zero → zSb, set_cons_succ → zSc, length_drop → zLd, length_take → zLt, map_toArray → zMa, map_cons → zMc, map_nil → zMn, length_cons → zLc, length_nil → zLn
open Go.Proofs.YtkiemlbobcklpaaW.PrintWords.Aside0 renaming mk → zMk
open Option renaming bind_eq_some_iff → zBi, bind_some → zOb
open Option.some renaming inj → zOi
open Int renaming toNat_natCast → zTn
def lowM (s : Wk) (c p : Fr) : List Int := s.low.set p.v.toNat (if rd s.low c.v < rd s.low p.v then rd s.low c.v else rd s.low p.v)
def hasMore (E : List S43) (s : Wk) (p : Int) : Bool := ((arcsOf E p).drop (rd s.next p).toNat).any fun a => !rdOf false s.taken a.f1
def stM (s : Wk) (c p : Fr) (R : List Fr) : Wk := { s with stack := stOf (p :: R), low := lowM s c p }
def cutB (E : List S43) (s : Wk) (p : Fr) (R : List Fr) : Bool := decide (1 < (p :: R).length) || hasMore E s p.v
def stE (E : List S43) (s : Wk) (c p : Fr) (R : List Fr) : Wk := { s with stack := stOf (p :: R), low := lowM s c p, edges := edOf (p :: R), blocks := s.blocks ++ [wkSorted c.seg], cut := if cutB E s p R = true then s.cut.set p.v.toNat true else s.cut }
def pM (c p : Fr) : Fr := { p with seg := p.seg ++ c.seg }
section
variable {N : Nat} {E : List S43} {s : Wk} {F R : List Fr} {p c : Fr}
theorem IA.endRoot (h : IA N E s [c]) (hn : rd s.next c.v = ((arcsOf E c.v).length : Int)) : IA N E { s with stack := s.stack.take 0 } [] := by
  have hs := h.root [] c rfl
  exact { h with
    stk := by show s.stack.take 0 = stOf []; rw [List.take_zero]; rfl
    edg := by show s.edges = _; rw [h.edg]; simp [edOf, hs]
    inF := fun f hf => by cases hf
    asc := List.Pairwise.nil
    fin := fun v v0 v1 hv _ => by
      by_cases e : c.v = v
      · rw [← e]; exact hn
      · exact h.fin v v0 v1 hv (fun f hf => by rw [List.mem_singleton] at hf; rw [hf]; exact e)
    tree := fun P a b R' eq => by simp at eq
    root := fun P f eq => by simp at eq
    low := fun P f R' eq => by simp at eq }
theorem lowM_rd (h : IA N E s (c :: p :: R)) (v : Int) (v0 : 0 ≤ v) : rd (lowM s c p) v = if v = p.v then (if rd s.low c.v < rd s.low p.v then rd s.low c.v else rd s.low p.v) else rd s.low v := by
  obtain ⟨p0, p1, p2⟩ := h.inF p (by simp)
  exact rd_set _ _ _ _ p0 (by rw [h.ll]; exact p1) v0
theorem IA.lowOk (h : IA N E s (c :: p :: R)) (q : Fr) (hq : q.v = p.v) (he : q.seg = p.seg ∨ rd s.low c.v < rd s.ord p.v ∨ True) : ∀ P f R', q :: R = P ++ f :: R' → rd (lowM s c p) f.v ≤ rd s.ord f.v ∧ ∃ g ∈ f :: R', rd s.ord g.v = rd (lowM s c p) f.v := by
  obtain ⟨p0, p1, p2⟩ := h.inF p (by simp)
  have hasc := List.pairwise_cons.1 h.asc
  have hasc2 := List.pairwise_cons.1 hasc.2
  intro P f R' eq
  cases P with
  | nil =>
    simp only [List.nil_append, List.cons.injEq] at eq
    obtain ⟨rfl, rfl⟩ := eq
    rw [lowM_rd h _ (by rw [hq]; exact p0), if_pos hq, hq]
    obtain ⟨h1, g1, hg1, h2⟩ := h.low [c] p R rfl
    obtain ⟨h3, g2, hg2, h4⟩ := h.low [] c (p :: R) rfl
    split
    · rename_i hlt
      refine ⟨by omega, ?_⟩
      rcases List.mem_cons.1 hg2 with rfl | hg2
      · have := hasc.1 p (by simp)
        omega
      · rcases List.mem_cons.1 hg2 with rfl | hg2
        · exact ⟨q, List.mem_cons_self .., by rw [hq]; exact h4⟩
        · exact ⟨g2, List.mem_cons_of_mem _ hg2, h4⟩
    · refine ⟨h1, ?_⟩
      rcases List.mem_cons.1 hg1 with rfl | hg1
      · exact ⟨q, List.mem_cons_self .., by rw [hq]; exact h2⟩
      · exact ⟨g1, List.mem_cons_of_mem _ hg1, h2⟩
  | cons y P =>
    simp only [List.cons_append, List.cons.injEq] at eq
    obtain ⟨-, rfl⟩ := eq
    obtain ⟨f0, f1, f2⟩ := h.inF f (by simp)
    have hlt := hasc2.1 f (by simp)
    rw [lowM_rd h _ f0, if_neg (fun e => by rw [e] at hlt; omega)]
    exact h.low (c :: p :: P) f R' rfl
theorem IA.finPop (h : IA N E s (c :: F)) (hn : rd s.next c.v = ((arcsOf E c.v).length : Int)) : ∀ v, 0 ≤ v → v < (N : Int) → rd s.ord v ≠ 0 → (∀ f ∈ F, f.v ≠ v) → rd s.next v = ((arcsOf E v).length : Int) := by
  intro v v0 v1 hv hF
  by_cases e : c.v = v
  · rw [← e]; exact hn
  · refine h.fin v v0 v1 hv (fun f hf => ?_)
    rcases List.mem_cons.1 hf with rfl | hf
    · exact e
    · exact hF f hf
theorem IA.merge (h : IA N E s (c :: p :: R)) (hn : rd s.next c.v = ((arcsOf E c.v).length : Int)) (hl : rd s.low c.v < rd s.ord p.v) : IA N E (stM s c p R) (pM c p :: R) := by
  obtain ⟨p0, p1, p2⟩ := h.inF p (by simp)
  have hasc := List.pairwise_cons.1 h.asc
  have hasc2 := List.pairwise_cons.1 hasc.2
  have hRne : ∃ g, g ∈ R := by
    obtain ⟨-, g, hg, h2⟩ := h.low [] c (p :: R) rfl
    rcases List.mem_cons.1 hg with rfl | hg
    · have := hasc.1 p (by simp); omega
    · rcases List.mem_cons.1 hg with rfl | hg
      · omega
      · exact ⟨g, hg⟩
  obtain ⟨g, hg⟩ := hRne
  exact { h with
    ll := (List.length_set ..).trans h.ll
    stk := rfl
    edg := by show s.edges = _; rw [h.edg, edOf_cons, edOf_cons, edOf_cons, List.append_assoc]; rfl
    inF := fun f hf => by
      rcases List.mem_cons.1 hf with rfl | hf
      · exact ⟨p0, p1, p2⟩
      · exact h.inF f (by simp [hf])
    asc := List.pairwise_cons.2 ⟨hasc2.1, hasc2.2⟩
    fin := fun v v0 v1 hv hF => h.finPop hn v v0 v1 hv (fun f hf => by
      rcases List.mem_cons.1 hf with rfl | hf
      · exact hF (pM c f) (List.mem_cons_self ..)
      · exact hF f (List.mem_cons_of_mem _ hf))
    tree := fun P x q R' eq => by
      cases P with
      | nil =>
        simp only [List.nil_append, List.cons.injEq] at eq
        obtain ⟨rfl, rfl⟩ := eq
        obtain ⟨h1, t, h2⟩ := h.tree [c] p q R' rfl
        exact ⟨h1, t ++ c.seg, by show p.seg ++ c.seg = _; rw [h2]; rfl⟩
      | cons y P =>
        simp only [List.cons_append, List.cons.injEq] at eq
        obtain ⟨-, rfl⟩ := eq
        exact h.tree (c :: p :: P) x q R' rfl
    root := fun P f eq => by
      obtain ⟨P', rfl, eq2⟩ := not_last hg P f eq
      exact h.root (c :: p :: P') f (by rw [eq2]; rfl)
    low := h.lowOk (pM c p) rfl (.inr (.inr trivial)) }
theorem sorted_up {l : List Int} (h : l.Nodup) : (wkSorted l).Pairwise (· < ·) := by
  have h1 : (wkSorted l).Pairwise (fun a b => a ≤ b) := isortBy_sorted (fun x => x) l
  have h2 : (wkSorted l).Nodup := (isortBy_perm _ l).nodup_iff.2 h
  exact (h1.and h2).imp (fun {a b} ⟨h3, h4⟩ => by omega)
theorem mem_sorted {l : List Int} {j : Int} : j ∈ wkSorted l ↔ j ∈ l := (isortBy_perm _ l).mem_iff
theorem IA.emit (h : IA N E s (c :: p :: R)) (hn : rd s.next c.v = ((arcsOf E c.v).length : Int)) : IA N E (stE E s c p R) (p :: R) := by
  have hasc := List.pairwise_cons.1 h.asc
  have he : s.edges = edOf (p :: R) ++ c.seg := by rw [h.edg, edOf_cons]
  have hnd := h.nd
  rw [he] at hnd
  have hseg : c.seg.Nodup := (List.nodup_append.1 (List.nodup_append.1 hnd).1).2.1
  have hperm : (edOf (p :: R) ++ (s.blocks ++ [wkSorted c.seg]).flatten).Perm (edOf (p :: R) ++ c.seg ++ s.blocks.flatten) := by
    rw [List.flatten_append, List.append_assoc]
    refine List.Perm.append_left _ ?_
    rw [List.flatten_cons, List.flatten_nil, List.append_nil]
    exact List.perm_append_comm.trans (List.Perm.append_right _ (isortBy_perm _ c.seg))
  exact { h with
    ll := (List.length_set ..).trans h.ll
    lc := by
      show (if cutB E s p R = true then s.cut.set p.v.toNat true else s.cut).length = N
      split
      · exact (List.length_set ..).trans h.lc
      · exact h.lc
    stk := rfl
    edg := rfl
    inF := fun f hf => h.inF f (List.mem_cons_of_mem _ hf)
    asc := hasc.2
    fin := h.finPop hn
    part := fun j j0 j1 => by
      show Tk s j ↔ j ∈ edOf (p :: R) ∨ ∃ b ∈ s.blocks ++ [wkSorted c.seg], j ∈ b
      rw [h.part j j0 j1, he, List.mem_append]
      constructor
      · rintro ((h1 | h1) | ⟨b, hb, h1⟩)
        · exact .inl h1
        · exact .inr ⟨_, List.mem_append_right _ (List.mem_singleton.2 rfl), mem_sorted.2 h1⟩
        · exact .inr ⟨b, List.mem_append_left _ hb, h1⟩
      · rintro (h1 | ⟨b, hb, h1⟩)
        · exact .inl (.inl h1)
        · rcases List.mem_append.1 hb with hb | hb
          · exact .inr ⟨b, hb, h1⟩
          · rw [List.mem_singleton] at hb
            subst hb
            exact .inl (.inr (mem_sorted.1 h1))
    nd := hperm.nodup_iff.2 hnd
    rng := fun j hj => h.rng j (by rw [he]; exact hperm.mem_iff.1 hj)
    tree := fun P x q R' eq => h.tree (c :: P) x q R' (by rw [eq]; rfl)
    root := fun P f eq => h.root (c :: P) f (by rw [eq]; rfl)
    low := h.lowOk p rfl (.inl rfl)
    bl := fun b hb => by
      rcases List.mem_append.1 hb with hb | hb
      · exact h.bl b hb
      · rw [List.mem_singleton] at hb
        subst hb
        refine ⟨fun e => ?_, sorted_up hseg⟩
        obtain ⟨-, t, ht⟩ := h.tree [] c p R rfl
        have h1 : c.by_ ∈ wkSorted c.seg := mem_sorted.2 (by rw [ht]; exact List.mem_cons_self ..)
        rw [e] at h1
        cases h1 }
theorem off_eq (hR : Rt N E) (h : IA N E s (c :: p :: R)) (s2 : Wk) (h1 : s2.edges = s.edges) (h2 : s2.blocks = s.blocks) : wkOff s2 c.by_ = some { s2 with edges := edOf (p :: R), blocks := s2.blocks ++ [wkSorted c.seg] } := by
  have he : s2.edges = edOf (p :: R) ++ c.seg := by rw [h1, h.edg, edOf_cons]
  obtain ⟨-, t, ht⟩ := h.tree [] c p R rfl
  obtain ⟨l1, l2⟩ := h.elen hR
  have hnd := h.nd
  rw [h.edg, edOf_cons, ht] at hnd
  have hnm : c.by_ ∉ edOf (p :: R) := fun hm => (List.nodup_append.1 (List.nodup_append.1 hnd).1).2.2 _ hm _ (List.mem_cons_self ..) rfl
  have hi : Lib.idxOf s2.edges c.by_ = ((edOf (p :: R)).length : Nat) := by
    have h3 := Lib.idxOf_hit s2.edges s2.edges.length (edOf (p :: R)).length c.by_ (by rw [he, ht, List.length_append, zLc]; omega) (Nat.le_refl _)
      (by rw [he, ht, List.getD_eq_getElem?_getD, List.getElem?_append_right (Nat.le_refl _), Nat.sub_self]; rfl)
      (fun j hj e => hnm (by
        rw [he, List.getD_eq_getElem?_getD, List.getElem?_append_left hj, List.getElem?_eq_getElem hj] at e
        rw [← e]; exact List.getElem_mem hj))
    rwa [List.take_length] at h3
  have hlen : (edOf (p :: R)).length < s2.edges.length := by rw [he, ht, List.length_append, zLc]; omega
  unfold wkOff
  rw [hi, zTn, if_pos ⟨by omega, by omega, by rw [h1]; omega, by rw [h2]; omega⟩]
  congr 1
  rw [he, List.take_left, List.drop_left]
theorem more_eq (h : IA N E s F) (s3 : Wk) (h1 : s3.next = s.next) (h2 : s3.taken = s.taken) {v : Int} (v0 : 0 ≤ v) (v1 : v < (N : Int)) (hlt : rd s.next v < ((arcsOf E v).length : Int)) : wkMore (rowsA N (arcsOf E)) s3 v = some (hasMore E s v) := by
  have hx := h.nx v v0 v1
  have hall : ((arcsOf E v).all fun a => decide (0 ≤ a.f1 ∧ a.f1 < (s.taken.length : Int))) = true := by
    refine List.all_eq_true.2 fun a ha => ?_
    have := (arc_at.1 ha).rng
    exact decide_eq_true ⟨this.1, by rw [h.lt]; exact this.2⟩
  unfold wkMore hasMore
  rw [h1, h2, rowsA_len, rowsA_rd N _ _ v0 v1, if_pos ⟨v0, by rw [h.ln]; exact v1, v1, hx.1, hlt, hall⟩]
theorem leave_eq (hR : Rt N E) (h : IA N E s (c :: F)) : wkLeave wkOff (wkMore (rowsA N (arcsOf E))) (rowsA N (arcsOf E)) s =
    match F with
    | [] => some { s with stack := s.stack.take 0 }
    | p :: R => if rd s.ord p.v ≤ rd s.low c.v then some (stE E s c p R) else some (stM s c p R) := by
  have hl : s.stack.length = F.length + 1 := by rw [h.stk, stOf_len, zLc]
  unfold wkLeave
  rw [if_neg (by omega)]
  cases F with
  | nil => rw [if_pos (by rw [hl]; rfl)]
  | cons p R =>
    obtain ⟨p0, p1, p2⟩ := h.inF p (by simp)
    obtain ⟨c0, c1, c2⟩ := h.inF c (by simp)
    have hasc := List.pairwise_cons.1 h.asc
    have hcp : c.v ≠ p.v := fun e => by have := hasc.1 p (by simp); rw [e] at this; omega
    rw [if_neg (by rw [hl, zLc]; omega)]
    have e1 : s.stack.length - 1 = (p :: R).length := by omega
    rw [e1]
    dsimp only
    rw [h.stk, stOf_top, zLc, Nat.add_sub_cancel, stOf_sec]
    have hlm := lowM_rd h
    show (if 0 ≤ p.v ∧ p.v < (s.low.length : Int) ∧ p.v < (s.ord.length : Int) ∧ 0 ≤ c.v ∧ c.v < (s.low.length : Int) then _ else _) = _
    rw [if_pos ⟨p0, by rw [h.ll]; exact p1, by rw [h.lo]; exact p1, c0, by rw [h.ll]; exact c1⟩]
    have e2 : (stOf (c :: p :: R)).take (R.length + 1) = stOf (p :: R) := stOf_take c (p :: R)
    show wkTail wkOff _ _ (rd s.ord p.v) p.v (frS c) { s with stack := (stOf (c :: p :: R)).take (R.length + 1), low := lowM s c p } = _
    rw [e2]
    unfold wkTail
    have e3 : rd (lowM s c p) (frS c).f0 = rd s.low c.v := by
      show rd (lowM s c p) c.v = _
      rw [hlm _ c0, if_neg hcp]
    show (if rd s.ord p.v ≤ rd (lowM s c p) (frS c).f0 then _ else _) = _
    rw [e3]
    by_cases hle : rd s.ord p.v ≤ rd s.low c.v
    · rw [if_pos hle, if_pos hle]
      show (wkOff _ c.by_).bind _ = _
      rw [off_eq hR h { s with stack := stOf (p :: R), low := lowM s c p } rfl rfl, zOb]
      unfold wkCut
      dsimp only
      rw [stOf_len]
      have hc : ∀ X : Wk, X.cut = s.cut → (if cutB E s p R = true then (if p.v < (X.cut.length : Int) then some { X with cut := X.cut.set p.v.toNat true } else none) else some X) = some { X with cut := if cutB E s p R = true then s.cut.set p.v.toNat true else s.cut } := by
        intro X hX
        by_cases hb : cutB E s p R = true
        · rw [if_pos hb, if_pos hb, if_pos (by rw [hX, h.lc]; exact p1), hX]
        · rw [if_neg hb, if_neg hb, ← hX]
      by_cases h1 : 1 < (p :: R).length
      · rw [if_pos h1, zOb]
        have hb : cutB E s p R = true := by unfold cutB; rw [decide_eq_true h1]; rfl
        have := hc { s with stack := stOf (p :: R), low := lowM s c p, edges := edOf (p :: R), blocks := s.blocks ++ [wkSorted c.seg] } rfl
        rw [if_pos hb] at this
        rw [if_pos rfl]
        exact this
      · have hx := h.nx p.v p0 p1
        rw [if_neg h1, if_pos ⟨by rw [h.ln]; exact p1, by rw [rowsA_len]; exact p1⟩, rowsA_rd N _ _ p0 p1]
        have hb : cutB E s p R = hasMore E s p.v := by unfold cutB; rw [decide_eq_false h1]; rfl
        by_cases h2 : rd s.next p.v < ((arcsOf E p.v).length : Int)
        · rw [if_pos h2, more_eq h { s with stack := stOf (p :: R), low := lowM s c p, edges := edOf (p :: R), blocks := s.blocks ++ [wkSorted c.seg] } rfl rfl p0 p1 h2, zOb, ← hb]
          exact hc { s with stack := stOf (p :: R), low := lowM s c p, edges := edOf (p :: R), blocks := s.blocks ++ [wkSorted c.seg] } rfl
        · have h3 : cutB E s p R = false := by
            rw [hb]; unfold hasMore
            rw [List.drop_of_length_le (by omega)]; rfl
          rw [if_neg h2, zOb]
          have := hc { s with stack := stOf (p :: R), low := lowM s c p, edges := edOf (p :: R), blocks := s.blocks ++ [wkSorted c.seg] } rfl
          rw [h3, if_neg Bool.false_ne_true] at this
          rw [if_neg Bool.false_ne_true, this]
          unfold stE
          rw [h3]
    · rw [if_neg hle, if_neg hle]
      rfl
end
-- WALKED
def wkStart (n m : Nat) : Wk := ⟨List.replicate n 0, List.replicate n 0, List.replicate n 0, [], List.replicate m false, List.replicate n false, [], 0, []⟩
def wkAll (run : Wk → Int → Option Wk) : Nat → Nat → Wk → Option Wk
  | 0, _, s => some s
  | d + 1, v, s => if (v : Int) < (s.ord.length : Int) then (if rd s.ord (v : Int) = 0 then (run s (v : Int)).bind (wkAll run d (v + 1)) else wkAll run d (v + 1) s) else none
def wkWalked (k : Nat) (n : Int) (E : List S43) : Option Wk :=
  if 0 ≤ n ∧ n ≤ 35184372088832 ∧ E.length ≤ 35184372088832 then (parts_arcs.f k n E).bind fun near => (wkAll (wkRun (wkLeave wkOff (wkMore near) near) near k) n.toNat 0 (wkStart n.toNat E.length)).bind wkSorts else none
def wkWalked.T2 : Bool × List (List Nat × List Nat) := (true, [([], []), ([0], [0]), ([], []), ([2, 2], [2]), ([], []), ([4, 4], [4]), ([], []), ([6, 6], [6]), ([], []), ([8, 8], [8]), ([], []), ([10, 10], [10]), ([1, 3, 5, 7, 9, 11], [1, 3, 5, 7, 9, 11]), ([12], [12]), ([13, 1, 0, 1, 2, 3, 4, 5, 6, 7, 8, 9, 10, 11, 12, 13], [13])])
def wkWalked.B2 : List Nat := [0, 1, 0, 4, 0, 16, 0, 64, 0, 256, 0, 1024, 4095, 8191, 16383]
theorem wkWalked.tab2 : rtab .any (opsOf Try.f31 2) = wkWalked.T2 := by kernel_rfl
theorem wkWalked.bits2 : waitsOk wkWalked.T2.2 wkWalked.B2 = true := by kernel_rfl
theorem wkWalked.calls (k : Nat) (n : Int) (A0 : Option Addr) (c0 : Nat) (E : List S43) (s' : Wk) (w : World) (hr0 : Kd.C k43 w A0 E.length E) (hc0 : E.length ≤ c0) (h : wkWalked k n E = some s') :
    Calls Try.prog 31 #[.agg #[.int .i64 n, .slice A0 E.length c0]] w fun e w' => ∃ (gw : Nat) (vn : Value) (V : WkV) (w0 wn : World), e = .returned (.pointer (some ⟨gw, 0, none⟩)) ∧ WkW w0 wn w' gw vn V s' ∧ Below w.heap.size w w0 := by
  have hu24 := Try.underlying24
  have hu55 := Try.underlying55
  have HR := zMk hr0
  have HC := zMk hc0
  unfold wkWalked at h
  by_cases hn : 0 ≤ n ∧ n ≤ 35184372088832 ∧ E.length ≤ 35184372088832
  rotate_left
  · rw [if_neg hn] at h; cases h
  rw [if_pos hn] at h
  obtain ⟨nn, rfl⟩ : ∃ nn : Nat, n = (nn : Int) := ⟨n.toNat, by omega⟩
  rw [zTn] at h
  obtain ⟨near, hN, h⟩ := Option.bind_eq_some_iff.1 h
  obtain ⟨sr, hA, h⟩ := Option.bind_eq_some_iff.1 h
  have HN := zMk hN
  have HA := zMk hA
  have HZ := zMk h
  have HNN := zMk (show nn ≤ 35184372088832 by omega)
  have HEL := zMk hn.2.2
  clear hr0 hc0 h hn hN hA
  go_enter Try.func31, Try.ntmps31
  go_upto_region 1 with (fail)
  have BM0 := heap_alloc_new w (.cells #[.int .i64 (nn : Int), .slice A0 E.length c0] 24)
  have HB10 := zBd (zBa (Below.refl w.heap.size w) (.cells #[.int .i64 (nn : Int), .slice A0 E.length c0] 24))
  generalize w.alloc (.cells #[.int .i64 (nn : Int), .slice A0 E.length c0] 24) = w0 at BM0 HB10 ⊢
  obtain ⟨gb, hgb⟩ : ∃ gb, gb = w.heap.size := ⟨_, rfl⟩
  rw [← hgb] at BM0 ⊢
  clear hgb
  have BM := zMk (zKd BM0)
  have HB1 := zMk HB10
  clear BM0 HB10
  refine start_ (n := 7) (S := fun w' => w'.cell? ⟨gb, 0, none⟩ = some (.int .i64 (nn : Int)) ∧ w'.cell? ⟨gb, 1, none⟩ = some (.slice A0 E.length c0)) (ds := []) #[false, false, false, false, false, false, false] (by kernel_rfl) rfl rfl ⟨(zKc BM.out 0).trans rfl, (zKc BM.out 1).trans rfl⟩ (fun hHeld => ?_)
  generalize w0.drew = w1 at BM HB1 hHeld ⊢
  refine pure_ (i := 0) (N := some 8) (v := ?_) (a' := ?_) #[true, false, false, false, false, false, false] rfl rfl (by kernel_rfl) (fun _ _ _ h => h) (Or.inl ⟨by rfl, ?_⟩) ?_ ?_
  rotate_left
  · intro w'
    go_simp
    with_reducible rfl
  rotate_left
  · simp only [Act.put, zSa, zSb, zSc, i64_w, i32_w]
    rfl
  refine pure_ (i := 2) (N := some 10) (v := ?_) (a' := ?_) #[true, false, true, false, false, false, false] rfl rfl (by kernel_rfl) (fun _ _ _ h => h) (Or.inl ⟨by rfl, ?_⟩) ?_ ?_
  rotate_left
  · intro w'
    go_simp
    with_reducible rfl
  rotate_left
  · simp only [Act.put, zSa, zSb, zSc, i64_w, i32_w]
    rfl
  refine take_ (i := 1) (N := some 9) (v := ?_) (a' := ?_) #[true, true, true, false, false, false, false] rfl rfl (by kernel_rfl) (fun _ _ _ h => h) (Or.inl ⟨by rfl, ?_⟩) hHeld ?_ ?_
  rotate_left
  · rintro w' ⟨s0, s1⟩
    go_simp
    with_reducible rfl
  rotate_left
  · simp only [Act.put, zSa, zSb, zSc, i64_w, i32_w]
    rfl
  refine pure_ (i := 5) (N := some 3) (v := ?_) (a' := ?_) #[true, true, true, false, false, true, false] rfl rfl (by kernel_rfl) (fun _ _ _ h => h) (Or.inl ⟨by rfl, ?_⟩) ?_ ?_
  rotate_left
  · intro w'
    go_simp
    with_reducible rfl
  rotate_left
  · simp only [Act.put, zSa, zSb, zSc, i64_w, i32_w]
    rfl
  refine take_ (i := 3) (N := some 11) (v := ?_) (a' := ?_) #[true, true, true, true, false, true, false] rfl rfl (by kernel_rfl) (fun _ _ _ h => h) (Or.inl ⟨by rfl, ?_⟩) hHeld ?_ ?_
  rotate_left
  · rintro w' ⟨s0, s1⟩
    go_simp
    with_reducible rfl
  rotate_left
  · simp only [Act.put, zSa, zSb, zSc, i64_w, i32_w]
    rfl
  refine pure_ (i := 4) (N := some 12) (v := ?_) (a' := ?_) #[true, true, true, true, true, true, false] rfl rfl (by kernel_rfl) (fun _ _ _ h => h) (Or.inl ⟨by rfl, ?_⟩) ?_ ?_
  rotate_left
  · intro w'
    go_simp
    with_reducible rfl
  rotate_left
  · simp only [Act.put, zSa, zSb, zSc, i64_w, i32_w]
    rfl
  refine pure_ (i := 6) (N := some 4) (v := ?_) (a' := ?_) #[true, true, true, true, true, true, true] rfl rfl (by kernel_rfl) (fun _ _ _ h => h) (Or.inl ⟨by rfl, ?_⟩) ?_ ?_
  rotate_left
  · intro w'
    go_simp
    with_reducible rfl
  rotate_left
  · simp only [Act.put, zSa, zSb, zSc, i64_w, i32_w]
    rfl
  refine done_ (by kernel_rfl) ?_
  replace BM := zMk (zKd BM.out)
  replace HB1 := zMk (zBd HB1.out)
  go_upto_region 2 with (fail)
  refine start_ (n := 15) (S := fun w' => True) (ds := []) #[false, false, false, false, false, false, false, false, false, false, false, false, false, false, false] (by kernel_rfl) rfl rfl trivial (fun hHeld => ?_)
  refine with_tabW wkWalked.tab2 wkWalked.bits2 (fun HT_ HW_ => ?_)
  generalize w1.drew = w2 at BM HB1 hHeld ⊢
  clear hHeld
  have HBr := Below.refl w2.heap.size w2
  have h0l : ∀ k_, (Value.bool false).ownBlock = some k_ → k_ < w2.heap.size := fun k_ hk => by cases hk
  have h0d : ∀ k_, (Value.bool false).ownBlock = some k_ → some k_ ≠ (Value.bool false).ownBlock := fun k_ hk => by cases hk
  refine pure_ (i := 2) (N := some 15) (v := ?_) (a' := ?_) #[false, false, true, false, false, false, false, false, false, false, false, false, false, false, false] rfl rfl (any_of HT_.out (by kernel_rfl)) (fun _ _ _ h => h) (Or.inl ⟨by rfl, ?_⟩) ?_ ?_
  rotate_left
  · intro w'
    go_simp
    with_reducible rfl
  rotate_left
  · simp only [Act.put, zSa, zSb, zSc, i64_w, i32_w]
    rfl
  refine pure_ (i := 4) (N := some 17) (v := ?_) (a' := ?_) #[false, false, true, false, true, false, false, false, false, false, false, false, false, false, false] rfl rfl (any_of HT_.out (by kernel_rfl)) (fun _ _ _ h => h) (Or.inl ⟨by rfl, ?_⟩) ?_ ?_
  rotate_left
  · intro w'
    go_simp
    with_reducible rfl
  rotate_left
  · simp only [Act.put, zSa, zSb, zSc, i64_w, i32_w]
    rfl
  refine pure_ (i := 6) (N := some 19) (v := ?_) (a' := ?_) #[false, false, true, false, true, false, true, false, false, false, false, false, false, false, false] rfl rfl (any_of HT_.out (by kernel_rfl)) (fun _ _ _ h => h) (Or.inl ⟨by rfl, ?_⟩) ?_ ?_
  rotate_left
  · intro w'
    go_simp
    with_reducible rfl
  rotate_left
  · simp only [Act.put, zSa, zSb, zSc, i64_w, i32_w]
    rfl
  refine pure_ (i := 8) (N := some 21) (v := ?_) (a' := ?_) #[false, false, true, false, true, false, true, false, true, false, false, false, false, false, false] rfl rfl (any_of HT_.out (by kernel_rfl)) (fun _ _ _ h => h) (Or.inl ⟨by rfl, ?_⟩) ?_ ?_
  rotate_left
  · intro w'
    go_simp
    with_reducible rfl
  rotate_left
  · simp only [Act.put, zSa, zSb, zSc, i64_w, i32_w]
    rfl
  refine pure_ (i := 10) (N := some 23) (v := ?_) (a' := ?_) #[false, false, true, false, true, false, true, false, true, false, true, false, false, false, false] rfl rfl (any_of HT_.out (by kernel_rfl)) (fun _ _ _ h => h) (Or.inl ⟨by rfl, ?_⟩) ?_ ?_
  rotate_left
  · intro w'
    go_simp
    with_reducible rfl
  rotate_left
  · simp only [Act.put, zSa, zSb, zSc, i64_w, i32_w]
    rfl
  refine inv_at [0, 1, 3, 5, 7, 9, 11, 12, 13, 14] (fun a0_ b a w' => ∃ (vA : Value) (va : Value) (vb : Value) (vc : Value) (vd : Value) (ve : Value) (gw : Nat) (m12_ : Value) (m13_ : Value) (m14_ : Value), a = putSel a0_ b [(0, 13, .agg #[.int .i64 (nn : Int), .slice A0 E.length c0]), (1, 14, vA), (3, 16, va), (5, 18, vb), (7, 20, vc), (9, 22, vd), (11, 24, ve), (12, 25, m12_), (13, 26, m13_), (14, 5, m14_)] ∧ (Below w2.heap.size w2 w') ∧ (b 1 = true → Kd.S (Kd.slice 51 k51) 49 w' w2.heap.size (fun _ => True) vA near) ∧ (b 3 = true → Kd.R wkI 3 w' w2.heap.size (fun _ => True) va (List.replicate nn 0)) ∧ (b 5 = true → Kd.R wkI 3 w' w2.heap.size (fun _ => True) vb (List.replicate nn 0)) ∧ (b 7 = true → Kd.R wkI 3 w' w2.heap.size (fun _ => True) vc (List.replicate nn 0)) ∧ (b 9 = true → Kd.R Kd.bool 4 w' w2.heap.size (fun _ => True) vd (List.replicate E.length false)) ∧ (b 11 = true → Kd.R Kd.bool 4 w' w2.heap.size (fun _ => True) ve (List.replicate nn false)) ∧ (∀ k_, va.ownBlock = some k_ → k_ < w'.heap.size) ∧ (∀ k_, vb.ownBlock = some k_ → k_ < w'.heap.size) ∧ (∀ k_, vc.ownBlock = some k_ → k_ < w'.heap.size) ∧ (∀ k_, vd.ownBlock = some k_ → k_ < w'.heap.size) ∧ (∀ k_, ve.ownBlock = some k_ → k_ < w'.heap.size) ∧ (∀ k_, va.ownBlock = some k_ → some k_ ≠ vb.ownBlock) ∧ (∀ k_, va.ownBlock = some k_ → some k_ ≠ vc.ownBlock) ∧ (∀ k_, vb.ownBlock = some k_ → some k_ ≠ vc.ownBlock) ∧ (∀ k_, vd.ownBlock = some k_ → some k_ ≠ ve.ownBlock) ∧ (b 13 = true → w'.heap[gw]? = some (.cells #[vA, va, vb, vc, .slice none 0 0, vd, ve, .slice none 0 0, .int .i64 0, .slice none 0 0] 55 (0, 0)) ∧ w2.heap.size ≤ gw) ∧ (b 12 = true → (m12_ : Value) = .agg #[vA, va, vb, vc, .slice none 0 0, vd, ve, .slice none 0 0, .int .i64 0, .slice none 0 0]) ∧ (b 13 = true → (m13_ : Value) = .pointer (some ⟨gw, 0, none⟩)) ∧ (b 14 = true → (m14_ : Value) = .pointer (some ⟨gw, 0, none⟩))) HT_.out HW_.out (by kernel_rfl) (by kernel_rfl) ?_ ?_ ?_
  · exact ⟨.bool false, .bool false, .bool false, .bool false, .bool false, .bool false, 0, .bool false, .bool false, .bool false, by simp only [putSel, Bool.false_eq_true, if_false], HBr, fun h_ => absurd h_ (by decide), fun h_ => absurd h_ (by decide), fun h_ => absurd h_ (by decide), fun h_ => absurd h_ (by decide), fun h_ => absurd h_ (by decide), fun h_ => absurd h_ (by decide), h0l, h0l, h0l, h0l, h0l, h0d, h0d, h0d, h0d, fun h_ => absurd h_ (by decide), fun h_ => absurd h_ (by decide), fun h_ => absurd h_ (by decide), fun h_ => absurd h_ (by decide)⟩
  · skip
    refine steps_cons ?_ ?_
    · rintro b a w' ⟨vA, va, vb, vc, vd, ve, gw, m12_, m13_, m14_, ha, Q_HB, Q_NA, Q_RA, Q_RB, Q_RC, Q_RD, Q_RE, Q_LA, Q_LB, Q_LC, Q_LD, Q_LE, Q_D12, Q_D13, Q_D23, Q_D56, Q_GW, Q_X12_, Q_X13_, Q_X14_⟩ hb_ hon hoff
      refine ⟨_, rfl, fun K hK => ?_⟩
      have e1 : a.tmps[1]? = some (.pointer (some ⟨gb, 0, none⟩)) := by rw [ha]; exact (putSel_off rfl).trans rfl
      replace ha := zMk ha
      have HB := zMk Q_HB
      have LA := zMk Q_LA
      have LB := zMk Q_LB
      have LC := zMk Q_LC
      have LD := zMk Q_LD
      have LE := zMk Q_LE
      have D12 := zMk Q_D12
      have D13 := zMk Q_D13
      have D23 := zMk Q_D23
      have D56 := zMk Q_D56
      have bm_ := zKb BM.out HB.out
      have z0_ := (zKc bm_ 0).trans rfl
      have z1_ := (zKc bm_ 1).trans rfl
      simp only [List.getElem?_toArray, List.getElem?_cons_succ, List.getElem?_cons_zero] at z0_ z1_
      refine value_ (w1 := w') (v := .agg #[.int .i64 (nn : Int), .slice A0 E.length c0]) (by rfl) rfl ?_ ?_
      · go_simp
        (try simp only [i64_w])
        try rfl
      refine hK.out _ _ ⟨vA, va, vb, vc, vd, ve, gw, m12_, m13_, m14_, (by rw [ha.out]; exact putSel_upk 0 hb_ rfl rfl rfl), Q_HB, fun h0_ => absurd ((hoff 1 (by kernel_rfl)).symm.trans h0_) (by decide), Q_RA, Q_RB, Q_RC, Q_RD, Q_RE, Q_LA, Q_LB, Q_LC, Q_LD, Q_LE, Q_D12, Q_D13, Q_D23, Q_D56, fun h0_ => absurd ((hoff 13 (by kernel_rfl)).symm.trans h0_) (by decide), fun h0_ => absurd ((hoff 12 (by kernel_rfl)).symm.trans h0_) (by decide), fun h0_ => absurd ((hoff 13 (by kernel_rfl)).symm.trans h0_) (by decide), fun h0_ => absurd ((hoff 14 (by kernel_rfl)).symm.trans h0_) (by decide)⟩
    refine steps_cons ?_ ?_
    · rintro b a w' ⟨vA, va, vb, vc, vd, ve, gw, m12_, m13_, m14_, ha, Q_HB, Q_NA, Q_RA, Q_RB, Q_RC, Q_RD, Q_RE, Q_LA, Q_LB, Q_LC, Q_LD, Q_LE, Q_D12, Q_D13, Q_D23, Q_D56, Q_GW, Q_X12_, Q_X13_, Q_X14_⟩ hb_ hon hoff
      refine ⟨_, rfl, fun K hK => ?_⟩
      have e13 : a.tmps[13]? = some (.agg #[.int .i64 (nn : Int), .slice A0 E.length c0]) := by rw [ha]; exact putSel_on (e := (0, 13, .agg #[.int .i64 (nn : Int), .slice A0 E.length c0])) 0 rfl rfl (hon 0 (by kernel_rfl)) rfl
      replace ha := zMk ha
      have HB := zMk Q_HB
      have LA := zMk Q_LA
      have LB := zMk Q_LB
      have LC := zMk Q_LC
      have LD := zMk Q_LD
      have LE := zMk Q_LE
      have D12 := zMk Q_D12
      have D13 := zMk Q_D13
      have D23 := zMk Q_D23
      have D56 := zMk Q_D56
      refine goes_ Try.func28 (by kernel_rfl) rfl #[.agg #[.int .i64 (nn : Int), .slice A0 E.length c0]] (by rfl) rfl rfl (by first | (simp only [zMa, zMc, zMn, Act.eval, Array.getD_eq_getD_getElem?, Option.getD_some, e13]; done) | (simp only [zMa, zMc, zMn, Act.eval, Array.getD_eq_getD_getElem?, Option.getD_some, e13]; rfl)) ?_
      with_reducible refine (parts_arcs.calls k (nn : Int) A0 c0 E near w' (Kd.C_below HR.out (zBt HB1.out HB.out)) HC.out HN.out).mono ?_
      rintro e w3_ ⟨vN_, rfl, ho, hb⟩
      refine ⟨_, rfl, ?_⟩
      have hbq := HB.out
      have hs_ := Kd.S_lower ho (zBs hbq)
      refine hK.out _ _ ⟨vN_, va, vb, vc, vd, ve, gw, m12_, m13_, m14_, (by rw [ha.out]; exact putSel_upk 1 hb_ rfl rfl rfl), zBt hbq hb, fun _ => hs_, fun h0_ => zRb (Q_RA h0_) hb, fun h0_ => zRb (Q_RB h0_) hb, fun h0_ => zRb (Q_RC h0_) hb, fun h0_ => zRb (Q_RD h0_) hb, fun h0_ => zRb (Q_RE h0_) hb, (fun k_ hk => Nat.lt_of_lt_of_le (LA.out k_ hk) (zBs hb)), (fun k_ hk => Nat.lt_of_lt_of_le (LB.out k_ hk) (zBs hb)), (fun k_ hk => Nat.lt_of_lt_of_le (LC.out k_ hk) (zBs hb)), (fun k_ hk => Nat.lt_of_lt_of_le (LD.out k_ hk) (zBs hb)), (fun k_ hk => Nat.lt_of_lt_of_le (LE.out k_ hk) (zBs hb)), Q_D12, Q_D13, Q_D23, Q_D56, fun h0_ => absurd ((hoff 13 (by kernel_rfl)).symm.trans h0_) (by decide), fun h0_ => absurd ((hoff 12 (by kernel_rfl)).symm.trans h0_) (by decide), fun h0_ => absurd ((hoff 13 (by kernel_rfl)).symm.trans h0_) (by decide), fun h0_ => absurd ((hoff 14 (by kernel_rfl)).symm.trans h0_) (by decide)⟩
    refine steps_cons ?_ ?_
    · rintro b a w' ⟨vA, va, vb, vc, vd, ve, gw, m12_, m13_, m14_, ha, Q_HB, Q_NA, Q_RA, Q_RB, Q_RC, Q_RD, Q_RE, Q_LA, Q_LB, Q_LC, Q_LD, Q_LE, Q_D12, Q_D13, Q_D23, Q_D56, Q_GW, Q_X12_, Q_X13_, Q_X14_⟩ hb_ hon hoff
      refine ⟨_, rfl, fun K hK => ?_⟩
      have e15 : a.tmps[15]? = some (.int .i64 (nn : Int)) := by rw [ha]; exact (putSel_off rfl).trans rfl
      replace ha := zMk ha
      have HB := zMk Q_HB
      have LA := zMk Q_LA
      have LB := zMk Q_LB
      have LC := zMk Q_LC
      have LD := zMk Q_LD
      have LE := zMk Q_LE
      have D12 := zMk Q_D12
      have D13 := zMk Q_D13
      have D23 := zMk Q_D23
      have D56 := zMk Q_D56
      have hbq := HB.out
      refine Kd.R_make_step wkI (w0 := w') w'.heap.size 3 (by rfl) (N := 16) rfl 33 _ _ rfl (nn : Int) (by simp only [Act.eval, Array.getD_eq_getD_getElem?, e15, Option.getD_some]) (by simp only [Act.eval, Array.getD_eq_getD_getElem?, e15, Option.getD_some]) Try.underlying33 (.int .i64 0) 8 info3 rfl (by decide) (by omega) (0 : Int) (ok := fun _ => True) (okp := fun _ => True) rfl (fun _ hk => hk) trivial (Int.natCast_nonneg _) (by rw [zTn]; have := HNN.out; omega) (Below.refl _ _) (Nat.le_refl _) ?_
      intro vN_ w3_ ho hb hg hnew
      clear hg
      rw [zTn] at ho
      have RX := zMk (zRl ho (zBs hbq))
      refine hK.out _ _ ⟨vA, vN_, vb, vc, vd, ve, gw, m12_, m13_, m14_, (by rw [ha.out]; exact putSel_upk 2 hb_ rfl rfl rfl), zBt hbq hb, fun h0_ => Kd.S_below (Q_NA h0_) hb, fun _ => RX.out, fun h0_ => zRb (Q_RB h0_) hb, fun h0_ => zRb (Q_RC h0_) hb, fun h0_ => zRb (Q_RD h0_) hb, fun h0_ => zRb (Q_RE h0_) hb, zRt RX.out, (fun k_ hk => Nat.lt_of_lt_of_le (LB.out k_ hk) (zBs hb)), (fun k_ hk => Nat.lt_of_lt_of_le (LC.out k_ hk) (zBs hb)), (fun k_ hk => Nat.lt_of_lt_of_le (LD.out k_ hk) (zBs hb)), (fun k_ hk => Nat.lt_of_lt_of_le (LE.out k_ hk) (zBs hb)), (fun k_ hk e_ => by have h1_ := LB.out k_ e_.symm; obtain ⟨b_, h2_, h3_⟩ := hnew; rw [h2_] at hk; injection hk with hk; omega), (fun k_ hk e_ => by have h1_ := LC.out k_ e_.symm; obtain ⟨b_, h2_, h3_⟩ := hnew; rw [h2_] at hk; injection hk with hk; omega), Q_D23, Q_D56, fun h0_ => absurd ((hoff 13 (by kernel_rfl)).symm.trans h0_) (by decide), fun h0_ => absurd ((hoff 12 (by kernel_rfl)).symm.trans h0_) (by decide), fun h0_ => absurd ((hoff 13 (by kernel_rfl)).symm.trans h0_) (by decide), fun h0_ => absurd ((hoff 14 (by kernel_rfl)).symm.trans h0_) (by decide)⟩
    refine steps_cons ?_ ?_
    · rintro b a w' ⟨vA, va, vb, vc, vd, ve, gw, m12_, m13_, m14_, ha, Q_HB, Q_NA, Q_RA, Q_RB, Q_RC, Q_RD, Q_RE, Q_LA, Q_LB, Q_LC, Q_LD, Q_LE, Q_D12, Q_D13, Q_D23, Q_D56, Q_GW, Q_X12_, Q_X13_, Q_X14_⟩ hb_ hon hoff
      refine ⟨_, rfl, fun K hK => ?_⟩
      have e17 : a.tmps[17]? = some (.int .i64 (nn : Int)) := by rw [ha]; exact (putSel_off rfl).trans rfl
      replace ha := zMk ha
      have HB := zMk Q_HB
      have LA := zMk Q_LA
      have LB := zMk Q_LB
      have LC := zMk Q_LC
      have LD := zMk Q_LD
      have LE := zMk Q_LE
      have D12 := zMk Q_D12
      have D13 := zMk Q_D13
      have D23 := zMk Q_D23
      have D56 := zMk Q_D56
      have hbq := HB.out
      refine Kd.R_make_step wkI (w0 := w') w'.heap.size 3 (by rfl) (N := 18) rfl 33 _ _ rfl (nn : Int) (by simp only [Act.eval, Array.getD_eq_getD_getElem?, e17, Option.getD_some]) (by simp only [Act.eval, Array.getD_eq_getD_getElem?, e17, Option.getD_some]) Try.underlying33 (.int .i64 0) 8 info3 rfl (by decide) (by omega) (0 : Int) (ok := fun _ => True) (okp := fun _ => True) rfl (fun _ hk => hk) trivial (Int.natCast_nonneg _) (by rw [zTn]; have := HNN.out; omega) (Below.refl _ _) (Nat.le_refl _) ?_
      intro vN_ w3_ ho hb hg hnew
      clear hg
      rw [zTn] at ho
      have RX := zMk (zRl ho (zBs hbq))
      refine hK.out _ _ ⟨vA, va, vN_, vc, vd, ve, gw, m12_, m13_, m14_, (by rw [ha.out]; exact putSel_upk 3 hb_ rfl rfl rfl), zBt hbq hb, fun h0_ => Kd.S_below (Q_NA h0_) hb, fun h0_ => zRb (Q_RA h0_) hb, fun _ => RX.out, fun h0_ => zRb (Q_RC h0_) hb, fun h0_ => zRb (Q_RD h0_) hb, fun h0_ => zRb (Q_RE h0_) hb, (fun k_ hk => Nat.lt_of_lt_of_le (LA.out k_ hk) (zBs hb)), zRt RX.out, (fun k_ hk => Nat.lt_of_lt_of_le (LC.out k_ hk) (zBs hb)), (fun k_ hk => Nat.lt_of_lt_of_le (LD.out k_ hk) (zBs hb)), (fun k_ hk => Nat.lt_of_lt_of_le (LE.out k_ hk) (zBs hb)), (fun k_ hk e_ => by have h1_ := LA.out k_ hk; obtain ⟨b_, h2_, h3_⟩ := hnew; rw [h2_] at e_; injection e_ with e_; omega), Q_D13, (fun k_ hk e_ => by have h1_ := LC.out k_ e_.symm; obtain ⟨b_, h2_, h3_⟩ := hnew; rw [h2_] at hk; injection hk with hk; omega), Q_D56, fun h0_ => absurd ((hoff 13 (by kernel_rfl)).symm.trans h0_) (by decide), fun h0_ => absurd ((hoff 12 (by kernel_rfl)).symm.trans h0_) (by decide), fun h0_ => absurd ((hoff 13 (by kernel_rfl)).symm.trans h0_) (by decide), fun h0_ => absurd ((hoff 14 (by kernel_rfl)).symm.trans h0_) (by decide)⟩
    refine steps_cons ?_ ?_
    · rintro b a w' ⟨vA, va, vb, vc, vd, ve, gw, m12_, m13_, m14_, ha, Q_HB, Q_NA, Q_RA, Q_RB, Q_RC, Q_RD, Q_RE, Q_LA, Q_LB, Q_LC, Q_LD, Q_LE, Q_D12, Q_D13, Q_D23, Q_D56, Q_GW, Q_X12_, Q_X13_, Q_X14_⟩ hb_ hon hoff
      refine ⟨_, rfl, fun K hK => ?_⟩
      have e19 : a.tmps[19]? = some (.int .i64 (nn : Int)) := by rw [ha]; exact (putSel_off rfl).trans rfl
      replace ha := zMk ha
      have HB := zMk Q_HB
      have LA := zMk Q_LA
      have LB := zMk Q_LB
      have LC := zMk Q_LC
      have LD := zMk Q_LD
      have LE := zMk Q_LE
      have D12 := zMk Q_D12
      have D13 := zMk Q_D13
      have D23 := zMk Q_D23
      have D56 := zMk Q_D56
      have hbq := HB.out
      refine Kd.R_make_step wkI (w0 := w') w'.heap.size 3 (by rfl) (N := 20) rfl 33 _ _ rfl (nn : Int) (by simp only [Act.eval, Array.getD_eq_getD_getElem?, e19, Option.getD_some]) (by simp only [Act.eval, Array.getD_eq_getD_getElem?, e19, Option.getD_some]) Try.underlying33 (.int .i64 0) 8 info3 rfl (by decide) (by omega) (0 : Int) (ok := fun _ => True) (okp := fun _ => True) rfl (fun _ hk => hk) trivial (Int.natCast_nonneg _) (by rw [zTn]; have := HNN.out; omega) (Below.refl _ _) (Nat.le_refl _) ?_
      intro vN_ w3_ ho hb hg hnew
      clear hg
      rw [zTn] at ho
      have RX := zMk (zRl ho (zBs hbq))
      refine hK.out _ _ ⟨vA, va, vb, vN_, vd, ve, gw, m12_, m13_, m14_, (by rw [ha.out]; exact putSel_upk 4 hb_ rfl rfl rfl), zBt hbq hb, fun h0_ => Kd.S_below (Q_NA h0_) hb, fun h0_ => zRb (Q_RA h0_) hb, fun h0_ => zRb (Q_RB h0_) hb, fun _ => RX.out, fun h0_ => zRb (Q_RD h0_) hb, fun h0_ => zRb (Q_RE h0_) hb, (fun k_ hk => Nat.lt_of_lt_of_le (LA.out k_ hk) (zBs hb)), (fun k_ hk => Nat.lt_of_lt_of_le (LB.out k_ hk) (zBs hb)), zRt RX.out, (fun k_ hk => Nat.lt_of_lt_of_le (LD.out k_ hk) (zBs hb)), (fun k_ hk => Nat.lt_of_lt_of_le (LE.out k_ hk) (zBs hb)), Q_D12, (fun k_ hk e_ => by have h1_ := LA.out k_ hk; obtain ⟨b_, h2_, h3_⟩ := hnew; rw [h2_] at e_; injection e_ with e_; omega), (fun k_ hk e_ => by have h1_ := LB.out k_ hk; obtain ⟨b_, h2_, h3_⟩ := hnew; rw [h2_] at e_; injection e_ with e_; omega), Q_D56, fun h0_ => absurd ((hoff 13 (by kernel_rfl)).symm.trans h0_) (by decide), fun h0_ => absurd ((hoff 12 (by kernel_rfl)).symm.trans h0_) (by decide), fun h0_ => absurd ((hoff 13 (by kernel_rfl)).symm.trans h0_) (by decide), fun h0_ => absurd ((hoff 14 (by kernel_rfl)).symm.trans h0_) (by decide)⟩
    refine steps_cons ?_ ?_
    · rintro b a w' ⟨vA, va, vb, vc, vd, ve, gw, m12_, m13_, m14_, ha, Q_HB, Q_NA, Q_RA, Q_RB, Q_RC, Q_RD, Q_RE, Q_LA, Q_LB, Q_LC, Q_LD, Q_LE, Q_D12, Q_D13, Q_D23, Q_D56, Q_GW, Q_X12_, Q_X13_, Q_X14_⟩ hb_ hon hoff
      refine ⟨_, rfl, fun K hK => ?_⟩
      have e21 : a.tmps[21]? = some (.int .i64 (E.length : Int)) := by rw [ha]; exact (putSel_off rfl).trans rfl
      replace ha := zMk ha
      have HB := zMk Q_HB
      have LA := zMk Q_LA
      have LB := zMk Q_LB
      have LC := zMk Q_LC
      have LD := zMk Q_LD
      have LE := zMk Q_LE
      have D12 := zMk Q_D12
      have D13 := zMk Q_D13
      have D23 := zMk Q_D23
      have D56 := zMk Q_D56
      have hbq := HB.out
      refine Kd.R_make_step Kd.bool (w0 := w') w'.heap.size 4 (by rfl) (N := 22) rfl 36 _ _ rfl (E.length : Int) (by simp only [Act.eval, Array.getD_eq_getD_getElem?, e21, Option.getD_some]) (by simp only [Act.eval, Array.getD_eq_getD_getElem?, e21, Option.getD_some]) Try.underlying36 (.bool false) 1 info4 rfl (by decide) (by omega) false (ok := fun _ => True) (okp := fun _ => True) rfl (fun _ hk => hk) trivial (Int.natCast_nonneg _) (by rw [zTn]; have := HEL.out; omega) (Below.refl _ _) (Nat.le_refl _) ?_
      intro vN_ w3_ ho hb hg hnew
      clear hg
      rw [zTn] at ho
      have RX := zMk (zRl ho (zBs hbq))
      refine hK.out _ _ ⟨vA, va, vb, vc, vN_, ve, gw, m12_, m13_, m14_, (by rw [ha.out]; exact putSel_upk 5 hb_ rfl rfl rfl), zBt hbq hb, fun h0_ => Kd.S_below (Q_NA h0_) hb, fun h0_ => zRb (Q_RA h0_) hb, fun h0_ => zRb (Q_RB h0_) hb, fun h0_ => zRb (Q_RC h0_) hb, fun _ => RX.out, fun h0_ => zRb (Q_RE h0_) hb, (fun k_ hk => Nat.lt_of_lt_of_le (LA.out k_ hk) (zBs hb)), (fun k_ hk => Nat.lt_of_lt_of_le (LB.out k_ hk) (zBs hb)), (fun k_ hk => Nat.lt_of_lt_of_le (LC.out k_ hk) (zBs hb)), zRt RX.out, (fun k_ hk => Nat.lt_of_lt_of_le (LE.out k_ hk) (zBs hb)), Q_D12, Q_D13, Q_D23, (fun k_ hk e_ => by have h1_ := LE.out k_ e_.symm; obtain ⟨b_, h2_, h3_⟩ := hnew; rw [h2_] at hk; injection hk with hk; omega), fun h0_ => absurd ((hoff 13 (by kernel_rfl)).symm.trans h0_) (by decide), fun h0_ => absurd ((hoff 12 (by kernel_rfl)).symm.trans h0_) (by decide), fun h0_ => absurd ((hoff 13 (by kernel_rfl)).symm.trans h0_) (by decide), fun h0_ => absurd ((hoff 14 (by kernel_rfl)).symm.trans h0_) (by decide)⟩
    refine steps_cons ?_ ?_
    · rintro b a w' ⟨vA, va, vb, vc, vd, ve, gw, m12_, m13_, m14_, ha, Q_HB, Q_NA, Q_RA, Q_RB, Q_RC, Q_RD, Q_RE, Q_LA, Q_LB, Q_LC, Q_LD, Q_LE, Q_D12, Q_D13, Q_D23, Q_D56, Q_GW, Q_X12_, Q_X13_, Q_X14_⟩ hb_ hon hoff
      refine ⟨_, rfl, fun K hK => ?_⟩
      have e23 : a.tmps[23]? = some (.int .i64 (nn : Int)) := by rw [ha]; exact (putSel_off rfl).trans rfl
      replace ha := zMk ha
      have HB := zMk Q_HB
      have LA := zMk Q_LA
      have LB := zMk Q_LB
      have LC := zMk Q_LC
      have LD := zMk Q_LD
      have LE := zMk Q_LE
      have D12 := zMk Q_D12
      have D13 := zMk Q_D13
      have D23 := zMk Q_D23
      have D56 := zMk Q_D56
      have hbq := HB.out
      refine Kd.R_make_step Kd.bool (w0 := w') w'.heap.size 4 (by rfl) (N := 24) rfl 36 _ _ rfl (nn : Int) (by simp only [Act.eval, Array.getD_eq_getD_getElem?, e23, Option.getD_some]) (by simp only [Act.eval, Array.getD_eq_getD_getElem?, e23, Option.getD_some]) Try.underlying36 (.bool false) 1 info4 rfl (by decide) (by omega) false (ok := fun _ => True) (okp := fun _ => True) rfl (fun _ hk => hk) trivial (Int.natCast_nonneg _) (by rw [zTn]; have := HNN.out; omega) (Below.refl _ _) (Nat.le_refl _) ?_
      intro vN_ w3_ ho hb hg hnew
      clear hg
      rw [zTn] at ho
      have RX := zMk (zRl ho (zBs hbq))
      refine hK.out _ _ ⟨vA, va, vb, vc, vd, vN_, gw, m12_, m13_, m14_, (by rw [ha.out]; exact putSel_upk 6 hb_ rfl rfl rfl), zBt hbq hb, fun h0_ => Kd.S_below (Q_NA h0_) hb, fun h0_ => zRb (Q_RA h0_) hb, fun h0_ => zRb (Q_RB h0_) hb, fun h0_ => zRb (Q_RC h0_) hb, fun h0_ => zRb (Q_RD h0_) hb, fun _ => RX.out, (fun k_ hk => Nat.lt_of_lt_of_le (LA.out k_ hk) (zBs hb)), (fun k_ hk => Nat.lt_of_lt_of_le (LB.out k_ hk) (zBs hb)), (fun k_ hk => Nat.lt_of_lt_of_le (LC.out k_ hk) (zBs hb)), (fun k_ hk => Nat.lt_of_lt_of_le (LD.out k_ hk) (zBs hb)), zRt RX.out, Q_D12, Q_D13, Q_D23, (fun k_ hk e_ => by have h1_ := LD.out k_ hk; obtain ⟨b_, h2_, h3_⟩ := hnew; rw [h2_] at e_; injection e_ with e_; omega), fun h0_ => absurd ((hoff 13 (by kernel_rfl)).symm.trans h0_) (by decide), fun h0_ => absurd ((hoff 12 (by kernel_rfl)).symm.trans h0_) (by decide), fun h0_ => absurd ((hoff 13 (by kernel_rfl)).symm.trans h0_) (by decide), fun h0_ => absurd ((hoff 14 (by kernel_rfl)).symm.trans h0_) (by decide)⟩
    refine steps_cons ?_ ?_
    · rintro b a w' ⟨vA, va, vb, vc, vd, ve, gw, m12_, m13_, m14_, ha, Q_HB, Q_NA, Q_RA, Q_RB, Q_RC, Q_RD, Q_RE, Q_LA, Q_LB, Q_LC, Q_LD, Q_LE, Q_D12, Q_D13, Q_D23, Q_D56, Q_GW, Q_X12_, Q_X13_, Q_X14_⟩ hb_ hon hoff
      refine ⟨_, rfl, fun K hK => ?_⟩
      have e14 : a.tmps[14]? = some (vA) := by rw [ha]; exact putSel_on (e := (1, 14, vA)) 1 rfl rfl (hon 1 (by kernel_rfl)) rfl
      have e16 : a.tmps[16]? = some (va) := by rw [ha]; exact putSel_on (e := (3, 16, va)) 2 rfl rfl (hon 3 (by kernel_rfl)) rfl
      have e18 : a.tmps[18]? = some (vb) := by rw [ha]; exact putSel_on (e := (5, 18, vb)) 3 rfl rfl (hon 5 (by kernel_rfl)) rfl
      have e20 : a.tmps[20]? = some (vc) := by rw [ha]; exact putSel_on (e := (7, 20, vc)) 4 rfl rfl (hon 7 (by kernel_rfl)) rfl
      have e22 : a.tmps[22]? = some (vd) := by rw [ha]; exact putSel_on (e := (9, 22, vd)) 5 rfl rfl (hon 9 (by kernel_rfl)) rfl
      have e24 : a.tmps[24]? = some (ve) := by rw [ha]; exact putSel_on (e := (11, 24, ve)) 6 rfl rfl (hon 11 (by kernel_rfl)) rfl
      replace ha := zMk ha
      have HB := zMk Q_HB
      have NA := zMk (Q_NA (hon 1 (by kernel_rfl)))
      have RA := zMk (Q_RA (hon 3 (by kernel_rfl)))
      have RB := zMk (Q_RB (hon 5 (by kernel_rfl)))
      have RC := zMk (Q_RC (hon 7 (by kernel_rfl)))
      have RD := zMk (Q_RD (hon 9 (by kernel_rfl)))
      have RE := zMk (Q_RE (hon 11 (by kernel_rfl)))
      have LA := zMk Q_LA
      have LB := zMk Q_LB
      have LC := zMk Q_LC
      have LD := zMk Q_LD
      have LE := zMk Q_LE
      have D12 := zMk Q_D12
      have D13 := zMk Q_D13
      have D23 := zMk Q_D23
      have D56 := zMk Q_D56
      obtain ⟨AvA_, cvA_, evA_⟩ := Kd.S_slice NA.out
      subst evA_
      obtain ⟨Ava_, cva_, eva_⟩ := zRs RA.out
      subst eva_
      obtain ⟨Avb_, cvb_, evb_⟩ := zRs RB.out
      subst evb_
      obtain ⟨Avc_, cvc_, evc_⟩ := zRs RC.out
      subst evc_
      obtain ⟨Avd_, cvd_, evd_⟩ := zRs RD.out
      subst evd_
      obtain ⟨Ave_, cve_, eve_⟩ := zRs RE.out
      subst eve_
      refine value_ (w1 := w') (v := .agg #[(.slice AvA_ near.length cvA_), (.slice Ava_ (List.replicate nn (0 : Int)).length cva_), (.slice Avb_ (List.replicate nn (0 : Int)).length cvb_), (.slice Avc_ (List.replicate nn (0 : Int)).length cvc_), .slice none 0 0, (.slice Avd_ (List.replicate E.length false).length cvd_), (.slice Ave_ (List.replicate nn false).length cve_), .slice none 0 0, .int .i64 0, .slice none 0 0]) (by rfl) rfl ?_ ?_
      · go_simp
        (try simp only [i64_w])
        try rfl
      refine hK.out _ _ ⟨(.slice AvA_ near.length cvA_), (.slice Ava_ (List.replicate nn (0 : Int)).length cva_), (.slice Avb_ (List.replicate nn (0 : Int)).length cvb_), (.slice Avc_ (List.replicate nn (0 : Int)).length cvc_), (.slice Avd_ (List.replicate E.length false).length cvd_), (.slice Ave_ (List.replicate nn false).length cve_), gw, (.agg #[(.slice AvA_ near.length cvA_), (.slice Ava_ (List.replicate nn (0 : Int)).length cva_), (.slice Avb_ (List.replicate nn (0 : Int)).length cvb_), (.slice Avc_ (List.replicate nn (0 : Int)).length cvc_), .slice none 0 0, (.slice Avd_ (List.replicate E.length false).length cvd_), (.slice Ave_ (List.replicate nn false).length cve_), .slice none 0 0, .int .i64 0, .slice none 0 0]), m13_, m14_, (by rw [ha.out]; exact putSel_upk 7 hb_ rfl rfl rfl), Q_HB, Q_NA, Q_RA, Q_RB, Q_RC, Q_RD, Q_RE, Q_LA, Q_LB, Q_LC, Q_LD, Q_LE, Q_D12, Q_D13, Q_D23, Q_D56, fun h0_ => absurd ((hoff 13 (by kernel_rfl)).symm.trans h0_) (by decide), fun _ => rfl, fun h0_ => absurd ((hoff 13 (by kernel_rfl)).symm.trans h0_) (by decide), fun h0_ => absurd ((hoff 14 (by kernel_rfl)).symm.trans h0_) (by decide)⟩
    refine steps_cons ?_ ?_
    · rintro b a w' ⟨vA, va, vb, vc, vd, ve, gw, m12_, m13_, m14_, ha, Q_HB, Q_NA, Q_RA, Q_RB, Q_RC, Q_RD, Q_RE, Q_LA, Q_LB, Q_LC, Q_LD, Q_LE, Q_D12, Q_D13, Q_D23, Q_D56, Q_GW, Q_X12_, Q_X13_, Q_X14_⟩ hb_ hon hoff
      refine ⟨_, rfl, fun K hK => ?_⟩
      have e25 : a.tmps[25]? = some (m12_) := by rw [ha]; exact putSel_on (e := (12, 25, m12_)) 7 rfl rfl (hon 12 (by kernel_rfl)) rfl
      rw [Q_X12_ (hon 12 (by kernel_rfl))] at e25
      replace ha := zMk ha
      have HB := zMk Q_HB
      have NA := zMk (Q_NA (hon 1 (by kernel_rfl)))
      have RA := zMk (Q_RA (hon 3 (by kernel_rfl)))
      have RB := zMk (Q_RB (hon 5 (by kernel_rfl)))
      have RC := zMk (Q_RC (hon 7 (by kernel_rfl)))
      have RD := zMk (Q_RD (hon 9 (by kernel_rfl)))
      have RE := zMk (Q_RE (hon 11 (by kernel_rfl)))
      have LA := zMk Q_LA
      have LB := zMk Q_LB
      have LC := zMk Q_LC
      have LD := zMk Q_LD
      have LE := zMk Q_LE
      have D12 := zMk Q_D12
      have D13 := zMk Q_D13
      have D23 := zMk Q_D23
      have D56 := zMk Q_D56
      have hbq := HB.out
      refine box_step (by rfl) (N := 26) rfl (cs := #[vA, va, vb, vc, .slice none 0 0, vd, ve, .slice none 0 0, .int .i64 0, .slice none 0 0]) (t := 55) ?hr ?_; (case hr => first | (go_simp; done) | (go_simp; rfl))
      intro gN_ hg w3_ hbox hb
      refine hK.out _ _ ⟨vA, va, vb, vc, vd, ve, gN_, m12_, (.pointer (some ⟨gN_, 0, none⟩)), m14_, (by rw [ha.out]; exact putSel_upk 8 hb_ rfl rfl rfl), zBt hbq hb, fun _ => Kd.S_below NA.out hb, fun _ => zRb RA.out hb, fun _ => zRb RB.out hb, fun _ => zRb RC.out hb, fun _ => zRb RD.out hb, fun _ => zRb RE.out hb, (fun k_ hk => Nat.lt_of_lt_of_le (LA.out k_ hk) (zBs hb)), (fun k_ hk => Nat.lt_of_lt_of_le (LB.out k_ hk) (zBs hb)), (fun k_ hk => Nat.lt_of_lt_of_le (LC.out k_ hk) (zBs hb)), (fun k_ hk => Nat.lt_of_lt_of_le (LD.out k_ hk) (zBs hb)), (fun k_ hk => Nat.lt_of_lt_of_le (LE.out k_ hk) (zBs hb)), Q_D12, Q_D13, Q_D23, Q_D56, fun _ => ⟨hbox, hg ▸ zBs hbq⟩, Q_X12_, fun _ => rfl, fun h0_ => absurd ((hoff 14 (by kernel_rfl)).symm.trans h0_) (by decide)⟩
    refine steps_cons ?_ ?_
    · rintro b a w' ⟨vA, va, vb, vc, vd, ve, gw, m12_, m13_, m14_, ha, Q_HB, Q_NA, Q_RA, Q_RB, Q_RC, Q_RD, Q_RE, Q_LA, Q_LB, Q_LC, Q_LD, Q_LE, Q_D12, Q_D13, Q_D23, Q_D56, Q_GW, Q_X12_, Q_X13_, Q_X14_⟩ hb_ hon hoff
      refine ⟨_, rfl, fun K hK => ?_⟩
      have e26 : a.tmps[26]? = some (m13_) := by rw [ha]; exact putSel_on (e := (13, 26, m13_)) 8 rfl rfl (hon 13 (by kernel_rfl)) rfl
      rw [Q_X13_ (hon 13 (by kernel_rfl))] at e26
      replace ha := zMk ha
      have HB := zMk Q_HB
      have NA := zMk (Q_NA (hon 1 (by kernel_rfl)))
      have RA := zMk (Q_RA (hon 3 (by kernel_rfl)))
      have RB := zMk (Q_RB (hon 5 (by kernel_rfl)))
      have RC := zMk (Q_RC (hon 7 (by kernel_rfl)))
      have RD := zMk (Q_RD (hon 9 (by kernel_rfl)))
      have RE := zMk (Q_RE (hon 11 (by kernel_rfl)))
      have LA := zMk Q_LA
      have LB := zMk Q_LB
      have LC := zMk Q_LC
      have LD := zMk Q_LD
      have LE := zMk Q_LE
      have D12 := zMk Q_D12
      have D13 := zMk Q_D13
      have D23 := zMk Q_D23
      have D56 := zMk Q_D56
      have GW := zMk (Q_GW (hon 13 (by kernel_rfl)))
      refine value_ (w1 := w') (v := .pointer (some ⟨gw, 0, none⟩)) (by rfl) rfl ?_ ?_
      · go_simp
        (try simp only [i64_w])
        try rfl
      refine hK.out _ _ ⟨vA, va, vb, vc, vd, ve, gw, m12_, m13_, (.pointer (some ⟨gw, 0, none⟩)), (by rw [ha.out]; exact putSel_upk 9 hb_ rfl rfl rfl), Q_HB, Q_NA, Q_RA, Q_RB, Q_RC, Q_RD, Q_RE, Q_LA, Q_LB, Q_LC, Q_LD, Q_LE, Q_D12, Q_D13, Q_D23, Q_D56, Q_GW, Q_X12_, Q_X13_, fun _ => rfl⟩
    exact steps_nil
  rintro b a w' hall ⟨vA, va, vb, vc, vd, ve, gw, m12_, m13_, m14_, ha, Q_HB, Q_NA, Q_RA, Q_RB, Q_RC, Q_RD, Q_RE, Q_LA, Q_LB, Q_LC, Q_LD, Q_LE, Q_D12, Q_D13, Q_D23, Q_D56, Q_GW, Q_X12_, Q_X13_, Q_X14_⟩
  have hb0_ := hall 0 (by kernel_rfl)
  have hb1_ := hall 1 (by kernel_rfl)
  have hb3_ := hall 3 (by kernel_rfl)
  have hb5_ := hall 5 (by kernel_rfl)
  have hb7_ := hall 7 (by kernel_rfl)
  have hb9_ := hall 9 (by kernel_rfl)
  have hb11_ := hall 11 (by kernel_rfl)
  have hb12_ := hall 12 (by kernel_rfl)
  have hb13_ := hall 13 (by kernel_rfl)
  have hb14_ := hall 14 (by kernel_rfl)
  subst ha
  obtain rfl := Q_X12_ hb12_
  obtain rfl := Q_X13_ hb13_
  obtain rfl := Q_X14_ hb14_
  simp only [putSel, hb0_, hb1_, hb3_, hb5_, hb7_, hb9_, hb11_, hb12_, hb13_, hb14_, if_true, Act.put, zSa, zSb, zSc]
  have HB := zMk Q_HB
  clear Q_HB
  have NA := zMk (Q_NA hb1_)
  clear Q_NA
  have RA := zMk (Q_RA hb3_)
  clear Q_RA
  have RB := zMk (Q_RB hb5_)
  clear Q_RB
  have RC := zMk (Q_RC hb7_)
  clear Q_RC
  have RD := zMk (Q_RD hb9_)
  clear Q_RD
  have RE := zMk (Q_RE hb11_)
  clear Q_RE
  have LA := zMk Q_LA
  clear Q_LA
  have LB := zMk Q_LB
  clear Q_LB
  have LC := zMk Q_LC
  clear Q_LC
  have LD := zMk Q_LD
  clear Q_LD
  have LE := zMk Q_LE
  clear Q_LE
  have D12 := zMk Q_D12
  clear Q_D12
  have D13 := zMk Q_D13
  clear Q_D13
  have D23 := zMk Q_D23
  clear Q_D23
  have D56 := zMk Q_D56
  clear Q_D56
  have GW := zMk (Q_GW hb13_)
  clear Q_GW
  clear hall hb0_ hb1_ hb3_ hb5_ hb7_ hb9_ hb11_ hb12_ hb13_ hb14_
  obtain ⟨An, cn, en⟩ := Kd.S_slice NA.out
  subst en
  have HW := zMk (show WkW w2 w' w' gw (.slice An near.length cn) ⟨va, vb, vc, .slice none 0 0, vd, ve, .slice none 0 0, .slice none 0 0⟩ (wkStart nn E.length) from
    { hBl := HB.out, hK := ⟨Nat.le_refl _, fun _ _ _ _ h => h⟩, hgw := GW.out.2, hw := GW.out.1, h1 := RA.out, h2 := RB.out, h3 := RC.out, hE := Kd.R_nil _ _ _ _ _, h5 := RD.out, h6 := RE.out, hB := Kd.S_nil _ _ _ _ _, hS := Kd.R_nil _ _ _ _ _, d12 := D12.out, d13 := D13.out, d23 := D23.out, dE1 := fun k hk => (by cases hk), dE2 := fun k hk => (by cases hk), dE3 := fun k hk => (by cases hk), d56 := D56.out })
  clear HB RA RB RC RD RE LA LB LC LD LE D12 D13 D23 D56 GW BM HN
  have HL0 := zMk (show (wkStart nn E.length).ord.length = nn from List.length_replicate)
  generalize wkStart nn E.length = s0 at HW HA HL0
  generalize ({ v1 := va, v2 := vb, v3 := vc, vE := .slice none 0 0, v5 := vd, v6 := ve, vB := .slice none 0 0, vS := .slice none 0 0 } : WkV) = V0 at HW
  go_wp2
  go_loopg [30] nn (fun kx s30 wr => ∃ (v : Nat) (V : WkV) (s : Wk), s30 = .int .i64 (v : Int) ∧ v ≤ nn ∧ nn - v ≤ kx ∧ Aside0 (WkW w2 w' wr gw (.slice An near.length cn) V s) ∧ Aside0 (wkAll (wkRun (wkLeave wkOff (wkMore near) near) near k) (nn - v) v s = some sr))
  case atStart => exact ⟨0, V0, s0, rfl, Nat.zero_le _, Nat.le_refl _, HW, HA⟩
  case round =>
    clear HW HA HL0
    obtain ⟨v, V, s, rfl, hv, hg3, HW, HA⟩ := hrel
    by_cases hlt : v < nn
    rotate_left
    · have h := HA.out
      rw [show nn - v = 0 by omega, wkAll] at h
      obtain rfl := zOi h
      have hvn : ((v : Int) < (nn : Int)) = False := eq_false (by omega)
      clear h HA
      obtain ⟨AB, cB, eB⟩ := Kd.S_slice HW.out.hB
      have z7 : wr.cell? ⟨gw, 7, none⟩ = some (.slice AB s.blocks.length cB) := (zKc HW.out.hw 7).trans (congrArg some eB)
      have EB := zMk eB
      clear eB
      go_wp2_with (go_at_call 46; refine (wkSorts.calls w2 w' _ gw _ V s s' AB cB HW.out EB.out HZ.out).mono ?_; rintro e wz ⟨rfl, hz⟩; have HF := zMk hz; clear hz)
      go_ret
      exact ⟨_, _, V, w2, w', rfl, HF.out, HB1.out⟩
    have h := HA.out
    clear HA
    rw [show nn - v = (nn - (v + 1)) + 1 by omega, wkAll] at h
    by_cases hvl : (v : Int) < (s.ord.length : Int)
    rotate_left
    · rw [if_neg hvl] at h; cases h
    rw [if_pos hvl] at h
    obtain ⟨g1, c1, e1, -, -, -⟩ := Kd.R_form HW.out.h1 (by omega)
    have z1 : wr.cell? ⟨gw, 1, none⟩ = some (.slice (some ⟨g1, 0, none⟩) s.ord.length c1) := (zKc HW.out.hw 1).trans (congrArg some e1)
    have h1' := HW.out.h1
    rw [e1] at h1'
    have p0 : 0 ≤ (v : Int) := Int.natCast_nonneg v
    have q0 : (v : Int) < (nn : Int) := by omega
    obtain ⟨hx, -⟩ := Kd.R_celln (0 : Int) h1' (v : Int) p0 hvl
    rw [zTn] at hx
    have zx : wr.cell? ⟨g1, v, none⟩ = some (.int .i64 (rd s.ord (v : Int))) := hx
    have hi64 : wrap64 ((v : Int) + 1) = ((v + 1 : Nat) : Int) := by have := HNN.out; unfold wrap64; omega
    have HH := zMk h
    clear hx h1' e1 h
    replace p0 := eq_true p0
    replace q0 := eq_true q0
    replace hvl := eq_true hvl
    have h := HH.out
    clear HH
    by_cases hz : rd s.ord (v : Int) = 0
    · rw [if_pos hz] at h
      obtain ⟨s2, h2, h⟩ := Option.bind_eq_some_iff.1 h
      have H2 := zMk h2
      have HA := zMk h
      rw [hz] at zx
      clear h h2 hz
      go_wp2_with (go_at_call 45; refine (wkRun2.calls near k w2 w' _ gw An cn V s s2 (v : Int) _ _ NA.out HW.out H2.out).mono ?_; rintro e wz ⟨rfl, V2, hz⟩; have HF := zMk hz; clear hz)
      go_roundg (nn - (v + 1))
      case measure => omega
      case rel => exact ⟨v + 1, V2, s2, by first | rfl | exact congrArg (Value.int .i64) (by omega) | exact congrArg (Value.int .i64) hi64 | exact congrArg (Value.int .i64) (by simp only [i64_w]; exact hi64), by omega, Nat.le_refl _, HF, HA⟩
    · rw [if_neg hz] at h
      have HA := zMk h
      have hd : (rd s.ord (v : Int) == 0) = false := beq_eq_false_iff_ne.mpr hz
      clear h hz
      go_wp2
      go_roundg (nn - (v + 1))
      case measure => omega
      case rel => exact ⟨v + 1, V, s, by first | rfl | exact congrArg (Value.int .i64) (by omega) | exact congrArg (Value.int .i64) hi64 | exact congrArg (Value.int .i64) (by simp only [i64_w]; exact hi64), by omega, Nat.le_refl _, HW, HA⟩
def sumTo (f : Int → Nat) : Nat → Nat
  | 0 => 0
  | n + 1 => sumTo f n + f n
theorem sum_same {f g : Int → Nat} : ∀ n : Nat, (∀ v : Int, 0 ≤ v → v < (n : Int) → f v = g v) → sumTo f n = sumTo g n
  | 0, _ => rfl
  | n + 1, h => by rw [sumTo, sumTo, sum_same n (fun v v0 v1 => h v v0 (by omega)), h n (by omega) (by omega)]
theorem sum_less {f g : Int → Nat} {p : Int} (p0 : 0 ≤ p) (hp : f p + 1 = g p) : ∀ n : Nat, p < (n : Int) → (∀ v : Int, 0 ≤ v → v < (n : Int) → v ≠ p → f v = g v) → sumTo f n + 1 = sumTo g n
  | 0, h, _ => by omega
  | n + 1, h, hs => by
    rw [sumTo, sumTo]
    by_cases e : p = n
    · rw [sum_same n (fun v v0 v1 => hs v v0 (by omega) (by omega)), ← e]; omega
    · have := sum_less p0 hp n (by omega) (fun v v0 v1 hv => hs v v0 (by omega) hv)
      rw [hs n (by omega) (by omega) (fun e2 => e e2.symm)]; omega
def remOf (E : List S43) (s : Wk) (v : Int) : Nat := (((arcsOf E v).length : Int) - rd s.next v).toNat
def aNx (s : Wk) (p : Fr) : Wk := { s with next := s.next.set p.v.toNat (rd s.next p.v + 1) }
def sBack (s : Wk) (p : Fr) (a e : Int) : Wk := { s with next := s.next.set p.v.toNat (rd s.next p.v + 1), taken := s.taken.set e.toNat true, edges := s.edges ++ [e], low := s.low.set p.v.toNat (if rd s.ord a < rd s.low p.v then rd s.ord a else rd s.low p.v) }
def sPush (s : Wk) (p : Fr) (x e : Int) : Wk := { s with next := s.next.set p.v.toNat (rd s.next p.v + 1), taken := s.taken.set e.toNat true, edges := s.edges ++ [e], clock := s.clock + 1, ord := s.ord.set x.toNat (s.clock + 1), low := s.low.set x.toNat (s.clock + 1), stack := s.stack ++ [⟨x, e⟩] }
def sRoot (s : Wk) (r : Int) : Wk := { s with clock := s.clock + 1, ord := s.ord.set r.toNat (s.clock + 1), low := s.low.set r.toNat (s.clock + 1), stack := s.stack ++ [⟨r, -1⟩] }
structure Keeps (N : Nat) (E : List S43) (J : Wk → List Fr → Prop) : Prop where
  skip : ∀ s p R, IA N E s (p :: R) → J s (p :: R) → rd s.next p.v < ((arcsOf E p.v).length : Int) → Tk s (rd_T51 (arcsOf E p.v) (rd s.next p.v)).f1 → J (aNx s p) (p :: R)
  back : ∀ s p R a e, IA N E s (p :: R) → J s (p :: R) → rd s.next p.v < ((arcsOf E p.v).length : Int) → rd_T51 (arcsOf E p.v) (rd s.next p.v) = ⟨a, e⟩ → At E e p.v a → ¬ Tk s e → rd s.ord a ≠ 0 → J (sBack s p a e) ({ p with seg := p.seg ++ [e] } :: R)
  push : ∀ s p R x e, IA N E s (p :: R) → J s (p :: R) → rd s.next p.v < ((arcsOf E p.v).length : Int) → rd_T51 (arcsOf E p.v) (rd s.next p.v) = ⟨x, e⟩ → At E e p.v x → ¬ Tk s e → rd s.ord x = 0 → J (sPush s p x e) (⟨x, e, [e]⟩ :: p :: R)
  root : ∀ s c, IA N E s [c] → J s [c] → rd s.next c.v = ((arcsOf E c.v).length : Int) → J { s with stack := s.stack.take 0 } []
  merge : ∀ s c p R, IA N E s (c :: p :: R) → J s (c :: p :: R) → rd s.next c.v = ((arcsOf E c.v).length : Int) → rd s.low c.v < rd s.ord p.v → J (stM s c p R) (pM c p :: R)
  emit : ∀ s c p R, IA N E s (c :: p :: R) → J s (c :: p :: R) → rd s.next c.v = ((arcsOf E c.v).length : Int) → rd s.ord p.v ≤ rd s.low c.v → J (stE E s c p R) (p :: R)
  begin : ∀ s r, IA N E s [] → J s [] → 0 ≤ r → r < (N : Int) → rd s.ord r = 0 → J (sRoot s r) [⟨r, -1, []⟩]
section
variable {N : Nat} {E : List S43} {s : Wk} {F R : List Fr} {p c : Fr}
theorem enter_eq (hN : N ≤ 1048576) (s1 : Wk) (x e : Int) (x0 : 0 ≤ x) (x1 : x < (N : Int)) (lo : s1.ord.length = N) (ll : s1.low.length = N) (hs : s1.stack.length ≤ N) (c0 : 0 ≤ s1.clock) (c1 : s1.clock ≤ N) :
    wkEnter s1 x e = some { s1 with clock := s1.clock + 1, ord := s1.ord.set x.toNat (s1.clock + 1), low := s1.low.set x.toNat (s1.clock + 1), stack := s1.stack ++ [⟨x, e⟩] } := by
  unfold wkEnter
  rw [if_pos ⟨x0, by rw [lo]; exact x1, by rw [ll]; exact x1, by omega⟩, w64 (by omega) (by omega)]
theorem arc_eq (hR : Rt N E) (h : IA N E s (p :: R)) (hlt : rd s.next p.v < ((arcsOf E p.v).length : Int)) :
    wkArc { s with next := s.next.set p.v.toNat (wrap64 (rd s.next p.v + 1)) } p.v (rd_T51 (arcsOf E p.v) (rd s.next p.v)) =
      if Tk s (rd_T51 (arcsOf E p.v) (rd s.next p.v)).f1 then some (aNx s p)
      else if rd s.ord (rd_T51 (arcsOf E p.v) (rd s.next p.v)).f0 = 0 then some (sPush s p (rd_T51 (arcsOf E p.v) (rd s.next p.v)).f0 (rd_T51 (arcsOf E p.v) (rd s.next p.v)).f1)
      else some (sBack s p (rd_T51 (arcsOf E p.v) (rd s.next p.v)).f0 (rd_T51 (arcsOf E p.v) (rd s.next p.v)).f1) := by
  obtain ⟨p0, p1, p2⟩ := h.inF p (List.mem_cons_self ..)
  have hx := h.nx p.v p0 p1
  have hal := arcsA_len E 0 p.v
  have hE1 := hR.E1
  have hN1 := hR.N1
  have hlen : ((arcsOf E p.v).length : Int) ≤ 10000000 := by unfold arcsOf; omega
  have hm := arc_at.1 (rd51_mem (arcsOf E p.v) (rd s.next p.v) hx.1 hlt)
  generalize rd_T51 (arcsOf E p.v) (rd s.next p.v) = a at hm ⊢
  obtain ⟨-, a0, a1⟩ := hm.inn hR.ends
  obtain ⟨e0, e1⟩ := hm.rng
  rw [w64 (by omega) (by omega)]
  unfold wkArc
  dsimp only
  rw [if_pos ⟨e0, by rw [h.lt]; exact e1⟩]
  by_cases ht : rdOf false s.taken a.f1 = true
  · rw [if_pos ht, if_pos (show Tk s a.f1 from ht)]; rfl
  · rw [if_neg ht, if_neg (show ¬ Tk s a.f1 from ht), if_pos (by have := (h.elen hR).1; omega)]
    unfold wkFar
    dsimp only
    rw [if_pos ⟨a0, by rw [h.lo]; exact a1, by rw [h.ll]; exact p1⟩]
    by_cases ho : rd s.ord a.f0 = 0
    · rw [if_pos ho, if_pos ho]
      exact enter_eq hN1 { s with next := s.next.set p.v.toNat (rd s.next p.v + 1), taken := s.taken.set a.f1.toNat true, edges := s.edges ++ [a.f1] } a.f0 a.f1 a0 a1 h.lo h.ll (by show s.stack.length ≤ N; rw [h.stk, stOf_len]; exact h.slen) h.c0 h.clkN
    · rw [if_neg ho, if_neg ho]; rfl
theorem loop_ev (hR : Rt N E) {J : Wk → List Fr → Prop} (hJ : Keeps N E J) : ∀ (n : Nat) (s : Wk) (F : List Fr), IA N E s F → J s F → 2 * sumTo (remOf E s) N + F.length ≤ n →
    ∃ s', Ev (fun k => wkLoop (wkLeave wkOff (wkMore (rowsA N (arcsOf E))) (rowsA N (arcsOf E))) (rowsA N (arcsOf E)) k s) s' ∧ IA N E s' [] ∧ J s' [] := by
  intro n
  induction n with
  | zero =>
    intro s F h hj hn
    obtain rfl : F = [] := List.eq_nil_of_length_eq_zero (by omega)
    refine ⟨s, Ev.step (fun k => ?_) (Ev.now _), h, hj⟩
    rw [wkLoop, if_pos (by rw [h.stk]; rfl)]
  | succ n ih =>
    intro s F h hj hn
    cases F with
    | nil =>
      refine ⟨s, Ev.step (fun k => ?_) (Ev.now _), h, hj⟩
      rw [wkLoop, if_pos (by rw [h.stk]; rfl)]
    | cons p R =>
      obtain ⟨p0, p1, p2⟩ := h.inF p (List.mem_cons_self ..)
      have hx := h.nx p.v p0 p1
      have hl : s.stack.length = R.length + 1 := by rw [h.stk, stOf_len, zLc]
      have htop : (rd_T51 s.stack ((s.stack.length - 1 : Nat) : Int)).f0 = p.v := by rw [hl, Nat.add_sub_cancel, h.stk, stOf_top]; rfl
      have step : ∀ k, wkLoop (wkLeave wkOff (wkMore (rowsA N (arcsOf E))) (rowsA N (arcsOf E))) (rowsA N (arcsOf E)) (k + 1) s =
          if rd s.next p.v = ((arcsOf E p.v).length : Int) then (wkLeave wkOff (wkMore (rowsA N (arcsOf E))) (rowsA N (arcsOf E)) s).bind (wkLoop (wkLeave wkOff (wkMore (rowsA N (arcsOf E))) (rowsA N (arcsOf E))) (rowsA N (arcsOf E)) k)
          else (wkArc { s with next := s.next.set p.v.toNat (wrap64 (rd s.next p.v + 1)) } p.v (rd_T51 (arcsOf E p.v) (rd s.next p.v))).bind (wkLoop (wkLeave wkOff (wkMore (rowsA N (arcsOf E))) (rowsA N (arcsOf E))) (rowsA N (arcsOf E)) k) := fun k => by
        rw [wkLoop, if_neg (by omega)]
        dsimp only
        rw [htop, if_pos ⟨p0, by rw [h.ln]; exact p1, by rw [rowsA_len]; exact p1⟩, rowsA_rd N _ _ p0 p1]
        by_cases hd : rd s.next p.v = ((arcsOf E p.v).length : Int)
        · rw [if_pos hd, if_pos hd]
        · rw [if_neg hd, if_neg hd, if_pos ⟨hx.1, by omega⟩]
      by_cases hd : rd s.next p.v = ((arcsOf E p.v).length : Int)
      · cases R with
        | nil =>
          obtain ⟨s', h1, h2, h3⟩ := ih { s with stack := s.stack.take 0 } [] (h.endRoot hd) (hJ.root s p h hj hd) (by
            simp only [zLn, zLc] at hn ⊢
            show 2 * sumTo (remOf E s) N + 0 ≤ n
            omega)
          refine ⟨s', Ev.step (fun k => ?_) h1, h2, h3⟩
          rw [step k, if_pos hd, leave_eq hR h, zOb]
        | cons q R =>
          by_cases hle : rd s.ord q.v ≤ rd s.low p.v
          · obtain ⟨s', h1, h2, h3⟩ := ih (stE E s p q R) (q :: R) (h.emit hd) (hJ.emit s p q R h hj hd hle) (by
              simp only [zLc] at hn ⊢
              show 2 * sumTo (remOf E s) N + _ ≤ n
              omega)
            refine ⟨s', Ev.step (fun k => ?_) h1, h2, h3⟩
            rw [step k, if_pos hd, leave_eq hR h]
            dsimp only
            rw [if_pos hle, zOb]
          · obtain ⟨s', h1, h2, h3⟩ := ih (stM s p q R) (pM p q :: R) (h.merge hd (by omega)) (hJ.merge s p q R h hj hd (by omega)) (by
              simp only [zLc] at hn ⊢
              show 2 * sumTo (remOf E s) N + _ ≤ n
              omega)
            refine ⟨s', Ev.step (fun k => ?_) h1, h2, h3⟩
            rw [step k, if_pos hd, leave_eq hR h]
            dsimp only
            rw [if_neg hle, zOb]
      · have hlt : rd s.next p.v < ((arcsOf E p.v).length : Int) := by omega
        have hm := arc_at.1 (rd51_mem (arcsOf E p.v) (rd s.next p.v) hx.1 hlt)
        have heq := arc_eq hR h hlt
        have rn : ∀ v, 0 ≤ v → rd (s.next.set p.v.toNat (rd s.next p.v + 1)) v = if v = p.v then rd s.next p.v + 1 else rd s.next v := fun v v0 => rd_set _ _ _ _ p0 (by rw [h.ln]; exact p1) v0
        have hsum : ∀ s2 : Wk, s2.next = s.next.set p.v.toNat (rd s.next p.v + 1) → sumTo (remOf E s2) N + 1 = sumTo (remOf E s) N := fun s2 h2 => by
          refine sum_less p0 ?_ N p1 (fun v v0 v1 hv => ?_)
          · unfold remOf; rw [h2, rn _ p0, if_pos rfl]; omega
          · unfold remOf; rw [h2, rn _ v0, if_neg hv]
        by_cases ht : Tk s (rd_T51 (arcsOf E p.v) (rd s.next p.v)).f1
        · rw [if_pos ht] at heq
          obtain ⟨s', h1, h2, h3⟩ := ih (aNx s p) (p :: R) (h.skip hlt ht) (hJ.skip s p R h hj hlt ht) (by have := hsum (aNx s p) rfl; omega)
          refine ⟨s', Ev.step (fun k => ?_) h1, h2, h3⟩
          rw [step k, if_neg hd, heq, zOb]
        · rw [if_neg ht] at heq
          by_cases ho : rd s.ord (rd_T51 (arcsOf E p.v) (rd s.next p.v)).f0 = 0
          · rw [if_pos ho] at heq
            obtain ⟨s', h1, h2, h3⟩ := ih (sPush s p (rd_T51 (arcsOf E p.v) (rd s.next p.v)).f0 (rd_T51 (arcsOf E p.v) (rd s.next p.v)).f1) (⟨(rd_T51 (arcsOf E p.v) (rd s.next p.v)).f0, (rd_T51 (arcsOf E p.v) (rd s.next p.v)).f1, [(rd_T51 (arcsOf E p.v) (rd s.next p.v)).f1]⟩ :: p :: R) (h.push hR hlt rfl hm ht ho) (hJ.push s p R _ _ h hj hlt rfl hm ht ho) (by
              have := hsum (sPush s p (rd_T51 (arcsOf E p.v) (rd s.next p.v)).f0 (rd_T51 (arcsOf E p.v) (rd s.next p.v)).f1) rfl
              simp only [zLc] at hn ⊢
              omega)
            refine ⟨s', Ev.step (fun k => ?_) h1, h2, h3⟩
            rw [step k, if_neg hd, heq, zOb]
          · rw [if_neg ho] at heq
            obtain ⟨s', h1, h2, h3⟩ := ih (sBack s p (rd_T51 (arcsOf E p.v) (rd s.next p.v)).f0 (rd_T51 (arcsOf E p.v) (rd s.next p.v)).f1) ({ p with seg := p.seg ++ [(rd_T51 (arcsOf E p.v) (rd s.next p.v)).f1] } :: R) (h.goBack hR hlt rfl hm ht ho) (hJ.back s p R _ _ h hj hlt rfl hm ht ho) (by
              have := hsum (sBack s p (rd_T51 (arcsOf E p.v) (rd s.next p.v)).f0 (rd_T51 (arcsOf E p.v) (rd s.next p.v)).f1) rfl
              simp only [zLc] at hn ⊢
              omega)
            refine ⟨s', Ev.step (fun k => ?_) h1, h2, h3⟩
            rw [step k, if_neg hd, heq, zOb]
theorem run_ev (hR : Rt N E) {J : Wk → List Fr → Prop} (hJ : Keeps N E J) (h : IA N E s []) (hj : J s []) {r : Int} (r0 : 0 ≤ r) (r1 : r < (N : Int)) (hr : rd s.ord r = 0) :
    ∃ s', Ev (fun k => wkRun (wkLeave wkOff (wkMore (rowsA N (arcsOf E))) (rowsA N (arcsOf E))) (rowsA N (arcsOf E)) k s r) s' ∧ IA N E s' [] ∧ J s' [] := by
  obtain ⟨s', h1, h2, h3⟩ := loop_ev hR hJ _ (sRoot s r) [⟨r, -1, []⟩] (h.begin hR r0 r1 hr) (hJ.begin s r h hj r0 r1 hr) (Nat.le_refl _)
  refine ⟨s', Ev.congr (fun k => ?_) h1, h2, h3⟩
  unfold wkRun
  rw [enter_eq hR.N1 s r (-1) r0 r1 h.lo h.ll (by rw [h.stk]; exact Nat.zero_le _) h.c0 h.clkN, zOb]
  rfl
theorem all_ev (hR : Rt N E) {J : Wk → List Fr → Prop} (hJ : Keeps N E J) (hmet : ∀ v, 0 ≤ v → Keeps N E (fun s F => J s F ∧ rd s.ord v ≠ 0)) : ∀ (d v : Nat) (s : Wk), N - v = d → v ≤ N → IA N E s [] → J s [] → (∀ u : Int, 0 ≤ u → u < (v : Int) → rd s.ord u ≠ 0) →
    ∃ s', Ev (fun k => wkAll (wkRun (wkLeave wkOff (wkMore (rowsA N (arcsOf E))) (rowsA N (arcsOf E))) (rowsA N (arcsOf E)) k) d v s) s' ∧ IA N E s' [] ∧ J s' [] ∧ ∀ u : Int, 0 ≤ u → u < (N : Int) → rd s'.ord u ≠ 0 := by
  intro d
  induction d with
  | zero =>
    intro v s hd hv h hj hm
    exact ⟨s, Ev.congr (fun k => by rw [wkAll]) (Ev.now _), h, hj, fun u u0 u1 => hm u u0 (by omega)⟩
  | succ d ih =>
    intro v s hd hv h hj hm
    have hlt : (v : Int) < (s.ord.length : Int) := by rw [h.lo]; omega
    by_cases hz : rd s.ord (v : Int) = 0
    · -- what was met stays met, whatever J keeps
      have key : ∃ s1, Ev (fun k => wkRun (wkLeave wkOff (wkMore (rowsA N (arcsOf E))) (rowsA N (arcsOf E))) (rowsA N (arcsOf E)) k s v) s1 ∧ IA N E s1 [] ∧ J s1 [] ∧ ∀ u : Int, 0 ≤ u → u < ((v + 1 : Nat) : Int) → rd s1.ord u ≠ 0 := by
        obtain ⟨s1, h1, h2, h3⟩ := run_ev hR hJ h hj (Int.natCast_nonneg v) (by omega) hz
        refine ⟨s1, h1, h2, h3, fun u u0 u1 => ?_⟩
        have hK := hmet u u0
        by_cases e : u = v
        · subst e
          obtain ⟨s2, g1, g2, g3⟩ := loop_ev hR hK _ (sRoot s v) [⟨v, -1, []⟩] (h.begin hR (Int.natCast_nonneg v) (by omega) hz) ⟨hJ.begin s v h hj (Int.natCast_nonneg v) (by omega) hz, by
            show rd (s.ord.set (v : Int).toNat (s.clock + 1)) v ≠ 0
            rw [rd_set _ _ _ _ (by omega) (by rw [h.lo]; omega) (by omega), if_pos rfl]
            have := h.c0; omega⟩ (Nat.le_refl _)
          have g4 : Ev (fun k => wkRun (wkLeave wkOff (wkMore (rowsA N (arcsOf E))) (rowsA N (arcsOf E))) (rowsA N (arcsOf E)) k s v) s2 := Ev.congr (fun k => by
            unfold wkRun
            rw [enter_eq hR.N1 s v (-1) (Int.natCast_nonneg v) (by omega) h.lo h.ll (by rw [h.stk]; exact Nat.zero_le _) h.c0 h.clkN, zOb]
            rfl) g1
          obtain ⟨K1, k1⟩ := h1
          obtain ⟨K2, k2⟩ := g4
          have e3 : s1 = s2 := zOi ((k1 (max K1 K2) (Nat.le_max_left _ _)).symm.trans (k2 (max K1 K2) (Nat.le_max_right _ _)))
          rw [e3]; exact g3.2
        · obtain ⟨s2, g1, g2, g3⟩ := run_ev hR hK h ⟨hj, hm u u0 (by omega)⟩ (Int.natCast_nonneg v) (by omega) hz
          obtain ⟨K1, k1⟩ := h1
          obtain ⟨K2, k2⟩ := g1
          have e3 : s1 = s2 := zOi ((k1 (max K1 K2) (Nat.le_max_left _ _)).symm.trans (k2 (max K1 K2) (Nat.le_max_right _ _)))
          rw [e3]; exact g3.2
      obtain ⟨s1, h1, h2, h3, h4⟩ := key
      obtain ⟨s', g1, g2⟩ := ih (v + 1) s1 (by omega) (by omega) h2 h3 h4
      refine ⟨s', Ev.congr (fun k => ?_) (Ev.bind h1 (f := fun k t => wkAll (wkRun (wkLeave wkOff (wkMore (rowsA N (arcsOf E))) (rowsA N (arcsOf E))) (rowsA N (arcsOf E)) k) d (v + 1) t) g1), g2⟩
      rw [wkAll, if_pos hlt, if_pos hz]
    · obtain ⟨s', g1, g2⟩ := ih (v + 1) s (by omega) (by omega) h hj (fun u u0 u1 => by
        by_cases e : u = v
        · rw [e]; exact hz
        · exact hm u u0 (by omega))
      refine ⟨s', Ev.congr (fun k => ?_) g1, g2⟩
      rw [wkAll, if_pos hlt, if_neg hz]
end
def dropV (E : List S43) (q : Int) : List S43 := E.filter fun e => !(e.f0 == q) && !(e.f1 == q)
theorem mem_dropV {E : List S43} {q : Int} {e : S43} : e ∈ dropV E q ↔ e ∈ E ∧ e.f0 ≠ q ∧ e.f1 ≠ q := by
  unfold dropV
  rw [List.mem_filter]
  simp
theorem At.avoid {E : List S43} {j v a q : Int} (h : At E j v a) (hv : v ≠ q) (ha : a ≠ q) : Cn (dropV E q) v a := by
  obtain ⟨i, hi, -, ⟨h1, h2⟩ | ⟨h1, h2⟩⟩ := h
  · rw [← h1, ← h2]; exact .fwd _ (mem_dropV.2 ⟨List.getElem_mem hi, by rw [h1]; exact hv, by rw [h2]; exact ha⟩) (.refl _)
  · rw [← h1, ← h2]; exact .bwd _ (mem_dropV.2 ⟨List.getElem_mem hi, by rw [h2]; exact ha, by rw [h1]; exact hv⟩) (.refl _)
def Rel (E : List S43) (i k : Int) : Prop := ∃ v a b, At E i v a ∧ At E k v b ∧ Cn (dropV E v) a b
theorem Rel.symm {E : List S43} {i k : Int} (h : Rel E i k) : Rel E k i := by
  obtain ⟨v, a, b, h1, h2, h3⟩ := h
  exact ⟨v, b, a, h2, h1, h3.symm⟩
inductive RC (E : List S43) : Int → Int → Prop
  | refl (i : Int) : RC E i i
  | step {i j k : Int} : RC E i j → Rel E j k → RC E i k
theorem RC.trans {E : List S43} {i j k : Int} (h1 : RC E i j) (h2 : RC E j k) : RC E i k := by
  induction h2 with
  | refl => exact h1
  | step _ hr ih => exact .step ih hr
theorem RC.symm {E : List S43} {i j : Int} (h : RC E i j) : RC E j i := by
  induction h with
  | refl => exact .refl _
  | step _ hr ih => exact RC.trans (.step (.refl _) hr.symm) ih
theorem RC.inn {E : List S43} {b : List Int} (hb : ∀ i ∈ b, ∀ k, Rel E i k → k ∈ b) {i k : Int} (h : RC E i k) (hi : i ∈ b) : k ∈ b := by
  induction h with
  | refl => exact hi
  | step _ hr ih => exact hb _ ih _ hr
structure IB (N : Nat) (E : List S43) (s : Wk) (F : List Fr) : Prop where
  sg : ∀ P f R, F = P ++ f :: R → ∀ j ∈ f.seg, RC E j f.by_ ∧ (∃ v a, At E j v a ∧ rd s.ord f.v ≤ rd s.ord v) ∧ ∀ v a, At E j v a → ∀ g ∈ P, rd s.ord v < rd s.ord g.v
  l1 : ∀ P f R, F = P ++ f :: R → ∃ g ∈ f :: R, rd s.ord g.v = rd s.low f.v ∧ ∀ q, 0 ≤ q → rd s.ord q < rd s.ord f.v → q ≠ g.v → Cn (dropV E q) f.v g.v
  l2 : ∀ P f R, F = P ++ f :: R → ∀ j x y, At E j x y → Tk s j → rd s.ord f.v ≤ rd s.ord x → j = f.by_ ∨ ∃ g ∈ f :: P, rd s.low g.v ≤ rd s.ord y
  nc : ∀ P c p R, F = P ++ c :: p :: R → ∀ z, 0 ≤ z → z < (N : Int) → rd s.ord p.v < rd s.ord z → rd s.ord z < rd s.ord c.v → ∀ j y, At E j z y → Tk s j ∧ rd s.ord y < rd s.ord c.v
  bk : ∀ b ∈ s.blocks, (∀ i ∈ b, ∀ k, Rel E i k → k ∈ b) ∧ ∀ i ∈ b, ∀ k ∈ b, RC E i k
  c1 : ∀ v, 0 ≤ v → v < (N : Int) → rdOf false s.cut v = true → ∃ b ∈ s.blocks, ∃ i a k a', i ∈ b ∧ At E i v a ∧ At E k v a' ∧ k ∉ b
  c2 : ∀ b ∈ s.blocks, ∀ v i a k a', i ∈ b → At E i v a → At E k v a' → k ∉ b → rdOf false s.cut v = true
section
variable {N : Nat} {E : List S43} {s : Wk} {F R : List Fr} {p c : Fr}
theorem tree_path {x : Int} : ∀ (R : List Fr) (q : Fr), (∀ P c p R', q :: R = P ++ c :: p :: R' → At E c.by_ p.v c.v) → (∀ f ∈ q :: R, f.v ≠ x) → ∀ g ∈ q :: R, Cn (dropV E x) g.v q.v
  | [], q, _, _, g, hg => by rw [List.mem_singleton] at hg; rw [hg]; exact .refl _
  | r :: R, q, ht, hx, g, hg => by
    rcases List.mem_cons.1 hg with rfl | hg
    · exact .refl _
    · have h1 := tree_path R r (fun P c p R' e => ht (q :: P) c p R' (by rw [e]; rfl)) (fun f hf => hx f (List.mem_cons_of_mem _ hf)) g hg
      exact h1.trans ((ht [] q r R rfl).avoid (hx r (by simp)) (hx q (by simp)))
theorem IB.skip (_ : IA N E s (p :: R)) (hj : IB N E s (p :: R)) : IB N E (aNx s p) (p :: R) := ⟨hj.sg, hj.l1, hj.l2, hj.nc, hj.bk, hj.c1, hj.c2⟩
theorem IB.root (hj : IB N E s [c]) : IB N E { s with stack := s.stack.take 0 } [] :=
  ⟨fun P f R e => by simp at e, fun P f R e => by simp at e, fun P f R e => by simp at e, fun P a b R e => by simp at e, hj.bk, hj.c1, hj.c2⟩
theorem IB.begin (hR : Rt N E) (h : IA N E s []) (hj : IB N E s []) {r : Int} (r0 : 0 ≤ r) (r1 : r < (N : Int)) (hr : rd s.ord r = 0) : IB N E (sRoot s r) [⟨r, -1, []⟩] := by
  have ro : ∀ v, 0 ≤ v → rd (s.ord.set r.toNat (s.clock + 1)) v = if v = r then s.clock + 1 else rd s.ord v := fun v v0 => rd_set _ _ _ _ r0 (by rw [h.lo]; exact r1) v0
  have rl : ∀ v, 0 ≤ v → rd (s.low.set r.toNat (s.clock + 1)) v = if v = r then s.clock + 1 else rd s.low v := fun v v0 => rd_set _ _ _ _ r0 (by rw [h.ll]; exact r1) v0
  have one : ∀ {P : List Fr} {f : Fr} {R : List Fr}, [(⟨r, -1, []⟩ : Fr)] = P ++ f :: R → P = [] ∧ f = ⟨r, -1, []⟩ ∧ R = [] := by
    intro P f R e
    cases P with
    | nil => simp at e; exact ⟨rfl, e.1.symm, e.2⟩
    | cons z P => simp at e
  refine ⟨fun P f R e => ?_, fun P f R e => ?_, fun P f R e => ?_, fun P a b R e => ?_, hj.bk, hj.c1, hj.c2⟩
  · obtain ⟨rfl, rfl, rfl⟩ := one e
    intro j hj; cases hj
  · obtain ⟨rfl, rfl, rfl⟩ := one e
    refine ⟨_, List.mem_cons_self .., ?_, fun q _ _ _ => .refl _⟩
    show rd (s.ord.set r.toNat (s.clock + 1)) r = rd (s.low.set r.toNat (s.clock + 1)) r
    rw [ro _ r0, rl _ r0, if_pos rfl, if_pos rfl]
  · obtain ⟨rfl, rfl, rfl⟩ := one e
    intro j x y hx ht hle
    exfalso
    have hle : rd (s.ord.set r.toNat (s.clock + 1)) r ≤ rd (s.ord.set r.toNat (s.clock + 1)) x := hle
    obtain ⟨⟨x0, x1⟩, -⟩ := hx.inn hR.ends
    rw [ro _ r0, ro _ x0, if_pos rfl] at hle
    by_cases ex : x = r
    · exact h.ent j x y hx ht (by rw [ex]; exact hr)
    · rw [if_neg ex] at hle
      have := h.ordr x x0 x1
      omega
  · have := congrArg List.length e
    simp at this
    omega
theorem IB.back (hR : Rt N E) (h : IA N E s (p :: R)) (hj : IB N E s (p :: R)) {a e : Int} (hlt : rd s.next p.v < ((arcsOf E p.v).length : Int)) (he : At E e p.v a) (hu : ¬ Tk s e) (ha : rd s.ord a ≠ 0) : IB N E (sBack s p a e) ({ p with seg := p.seg ++ [e] } :: R) := by
  obtain ⟨p0, p1, p2⟩ := h.inF p (List.mem_cons_self ..)
  obtain ⟨-, a0, a1⟩ := he.inn hR.ends
  obtain ⟨e0, e1⟩ := he.rng
  obtain ⟨g, hg, hga⟩ := h.back hR he hu ha
  have rt := rdb_tk h e0 e1
  have hasc := List.pairwise_cons.1 h.asc
  have rl : ∀ v x, 0 ≤ v → rd (s.low.set p.v.toNat x) v = if v = p.v then x else rd s.low v := fun v x v0 => rd_set _ _ _ _ p0 (by rw [h.ll]; exact p1) v0
  have hap : rd s.ord a < rd s.ord p.v := by rw [← hga]; exact hasc.1 g hg
  obtain ⟨L, hL⟩ : ∃ L, L = (if rd s.ord a < rd s.low p.v then rd s.ord a else rd s.low p.v) := ⟨_, rfl⟩
  have hL1 : L ≤ rd s.ord a ∧ L ≤ rd s.low p.v := by rw [hL]; split <;> omega
  have lp : rd (sBack s p a e).low p.v = L := by show rd (s.low.set p.v.toNat _) p.v = L; rw [rl _ _ p0, if_pos rfl, hL]
  have lf : ∀ f ∈ R, rd (sBack s p a e).low f.v = rd s.low f.v := fun f hf => by
    show rd (s.low.set p.v.toNat _) f.v = _
    rw [rl _ _ (h.inF f (List.mem_cons_of_mem _ hf)).1, if_neg (fun e => by have := hasc.1 f hf; rw [e] at this; omega)]
  -- the frame below
  obtain ⟨q, R', rfl⟩ : ∃ q R', R = q :: R' := by
    cases R with
    | nil => cases hg
    | cons q R' => exact ⟨q, R', rfl⟩
  have htree := h.tree [] p q R' rfl
  have hpby : Tk s p.by_ := by
    obtain ⟨hA, t, ht⟩ := htree
    refine (h.part _ hA.rng.1 hA.rng.2).2 (.inl ?_)
    rw [h.edg]
    exact mem_edOf.2 ⟨p, List.mem_cons_self .., by rw [ht]; exact List.mem_cons_self ..⟩
  have hqa : q.v ≠ a := fun e9 => by
    have h1 : e = p.by_ := At.one hR he (by rw [← e9]; exact htree.1.swap)
    exact hu (by rw [h1]; exact hpby)
  have hpath : Cn (dropV E p.v) a q.v := by
    rw [← hga]
    refine tree_path R' q (fun P c p' R'' e9 => (h.tree (p :: P) c p' R'' (by rw [e9]; rfl)).1) (fun f hf e9 => ?_) g hg
    have := hasc.1 f hf
    rw [e9] at this; omega
  have hrel : Rel E e p.by_ := ⟨p.v, a, q.v, he, htree.1.swap, hpath⟩
  have cases_ : ∀ {P : List Fr} {f : Fr} {R'' : List Fr}, (({ p with seg := p.seg ++ [e] } : Fr) :: q :: R') = P ++ f :: R'' → (P = [] ∧ f = { p with seg := p.seg ++ [e] } ∧ R'' = q :: R') ∨ ∃ P', P = { p with seg := p.seg ++ [e] } :: P' ∧ q :: R' = P' ++ f :: R'' := by
    intro P f R'' e9
    cases P with
    | nil => simp only [List.nil_append, List.cons.injEq] at e9; exact .inl ⟨rfl, e9.1.symm, e9.2.symm⟩
    | cons z P => simp only [List.cons_append, List.cons.injEq] at e9; exact .inr ⟨P, by rw [← e9.1], e9.2⟩
  refine ⟨fun P f R'' e9 => ?_, fun P f R'' e9 => ?_, fun P f R'' e9 => ?_, fun P x y R'' e9 => ?_, hj.bk, hj.c1, hj.c2⟩
  · rcases cases_ e9 with ⟨rfl, rfl, rfl⟩ | ⟨P', rfl, e8⟩
    · intro j hm
      rcases List.mem_append.1 hm with hm | hm
      · exact hj.sg [] p _ rfl j hm
      · rw [List.mem_singleton] at hm
        subst hm
        exact ⟨.step (.refl _) hrel, ⟨p.v, a, he, Int.le_refl _⟩, fun v b hv g hg => by cases hg⟩
    · intro j hm
      obtain ⟨h1, h2, h3⟩ := hj.sg (p :: P') f R'' (by rw [e8]; rfl) j hm
      refine ⟨h1, h2, fun v b hv g hg => ?_⟩
      rcases List.mem_cons.1 hg with rfl | hg
      · exact h3 v b hv p (List.mem_cons_self ..)
      · exact h3 v b hv g (List.mem_cons_of_mem _ hg)
  · rcases cases_ e9 with ⟨rfl, rfl, rfl⟩ | ⟨P', rfl, e8⟩
    · show ∃ g : Fr, g ∈ _ ∧ rd s.ord g.v = rd (sBack s p a e).low p.v ∧ ∀ x, 0 ≤ x → rd s.ord x < rd s.ord p.v → x ≠ g.v → Cn (dropV E x) p.v g.v
      rw [lp, hL]
      split
      · refine ⟨g, List.mem_cons_of_mem _ hg, by rw [hga], fun x x0 hx hxg => ?_⟩
        rw [hga] at hxg ⊢
        exact he.avoid (fun e8 => by rw [e8] at hx; omega) (fun e8 => hxg e8.symm)
      · obtain ⟨g2, hg2, h1, h2⟩ := hj.l1 [] p _ rfl
        rcases List.mem_cons.1 hg2 with rfl | hg2
        · exact ⟨_, List.mem_cons_self .., h1, h2⟩
        · exact ⟨g2, List.mem_cons_of_mem _ hg2, h1, h2⟩
    · show ∃ g : Fr, g ∈ f :: R'' ∧ rd s.ord g.v = rd (sBack s p a e).low f.v ∧ _
      rw [lf f (by rw [e8]; simp)]
      exact hj.l1 (p :: P') f R'' (by rw [e8]; rfl)
  · intro j x y hx ht hle
    have hle : rd s.ord f.v ≤ rd s.ord x := hle
    show j = f.by_ ∨ ∃ g : Fr, g ∈ f :: P ∧ rd (sBack s p a e).low g.v ≤ rd s.ord y
    rcases cases_ e9 with ⟨rfl, rfl, rfl⟩ | ⟨P', rfl, e8⟩
    · rcases (rt j hx.rng.1).1 ht with rfl | ht
      · right
        rcases he.two hx with ⟨h1, h2⟩ | ⟨h1, h2⟩
        · exact ⟨_, List.mem_cons_self .., by show rd (sBack s p a j).low p.v ≤ _; rw [lp, h2]; exact hL1.1⟩
        · exfalso; rw [h1] at hle; have hle : rd s.ord p.v ≤ rd s.ord a := hle; omega
      · rcases hj.l2 [] p _ rfl j x y hx ht hle with h1 | ⟨g2, hg2, h1⟩
        · exact .inl h1
        · right
          rw [List.mem_singleton] at hg2
          subst hg2
          exact ⟨_, List.mem_cons_self .., by show rd (sBack s g2 a e).low g2.v ≤ _; rw [lp]; omega⟩
    · have hfR : f ∈ q :: R' := by rw [e8]; simp
      rcases (rt j hx.rng.1).1 ht with rfl | ht
      · right
        rcases he.two hx with ⟨h1, h2⟩ | ⟨h1, h2⟩
        · exact ⟨_, List.mem_cons_of_mem _ (List.mem_cons_self ..), by show rd (sBack s p a j).low p.v ≤ _; rw [lp, h2]; exact hL1.1⟩
        · refine ⟨f, List.mem_cons_self .., ?_⟩
          rw [lf f hfR, h2]
          have := (h.low (p :: P') f R'' (by rw [e8]; rfl)).1
          have := hasc.1 f hfR
          omega
      · rcases hj.l2 (p :: P') f R'' (by rw [e8]; rfl) j x y hx ht hle with h1 | ⟨g2, hg2, h1⟩
        · exact .inl h1
        · right
          rcases List.mem_cons.1 hg2 with rfl | hg2
          · exact ⟨g2, List.mem_cons_self .., by rw [lf g2 hfR]; exact h1⟩
          · rcases List.mem_cons.1 hg2 with rfl | hg2
            · exact ⟨_, List.mem_cons_of_mem _ (List.mem_cons_self ..), by show rd (sBack s g2 a e).low g2.v ≤ _; rw [lp]; omega⟩
            · exact ⟨g2, List.mem_cons_of_mem _ (List.mem_cons_of_mem _ hg2), by rw [lf g2 (by rw [e8]; exact List.mem_append_left _ hg2)]; exact h1⟩
  · have htk : ∀ j z b, At E j z b → Tk s j → Tk (sBack s p a e) j := fun j z b hz ht => (rt j hz.rng.1).2 (.inr ht)
    rcases cases_ e9 with ⟨rfl, rfl, e8⟩ | ⟨P', rfl, e8⟩
    · simp only [List.cons.injEq] at e8
      obtain ⟨rfl, rfl⟩ := e8
      intro z z0 z1 h1 h2 j b hz
      obtain ⟨h3, h4⟩ := hj.nc [] p y R'' rfl z z0 z1 h1 h2 j b hz
      exact ⟨htk j z b hz h3, h4⟩
    · intro z z0 z1 h1 h2 j b hz
      obtain ⟨h3, h4⟩ := hj.nc (p :: P') x y R'' (by rw [e8]; rfl) z z0 z1 h1 h2 j b hz
      exact ⟨htk j z b hz h3, h4⟩
end
section
variable {N : Nat} {E : List S43} {s : Wk} {F R : List Fr} {p c : Fr}
theorem seg_tk (h : IA N E s F) {f : Fr} (hf : f ∈ F) {j : Int} (hj : j ∈ f.seg) : Tk s j := by
  have hm : j ∈ s.edges := by rw [h.edg]; exact mem_edOf.2 ⟨f, hf, hj⟩
  have hr := h.rng j (List.mem_append_left _ hm)
  exact (h.part j hr.1 hr.2).2 (.inl hm)
theorem IB.push (hR : Rt N E) (h : IA N E s (p :: R)) (hj : IB N E s (p :: R)) {x e : Int} (he : At E e p.v x) (hx : rd s.ord x = 0) : IB N E (sPush s p x e) (⟨x, e, [e]⟩ :: p :: R) := by
  obtain ⟨p0, p1, p2⟩ := h.inF p (List.mem_cons_self ..)
  obtain ⟨-, x0, x1⟩ := he.inn hR.ends
  obtain ⟨e0, e1⟩ := he.rng
  have c0 := h.c0
  have ro : ∀ v, 0 ≤ v → rd (sPush s p x e).ord v = if v = x then s.clock + 1 else rd s.ord v := fun v v0 => rd_set _ _ _ _ x0 (by rw [h.lo]; exact x1) v0
  have rl : ∀ v, 0 ≤ v → rd (sPush s p x e).low v = if v = x then s.clock + 1 else rd s.low v := fun v v0 => rd_set _ _ _ _ x0 (by rw [h.ll]; exact x1) v0
  have rt : ∀ j, 0 ≤ j → (Tk (sPush s p x e) j ↔ j = e ∨ Tk s j) := rdb_tk h e0 e1
  have rx : rd (sPush s p x e).ord x = s.clock + 1 := by rw [ro x x0, if_pos rfl]
  have fx : ∀ f ∈ p :: R, f.v ≠ x := fun f hf ex => (h.inF f hf).2.2 (by rw [ex]; exact hx)
  have rof : ∀ f ∈ p :: R, rd (sPush s p x e).ord f.v = rd s.ord f.v := fun f hf => by rw [ro _ (h.inF f hf).1, if_neg (fx f hf)]
  have rlf : ∀ f ∈ p :: R, rd (sPush s p x e).low f.v = rd s.low f.v := fun f hf => by rw [rl _ (h.inF f hf).1, if_neg (fx f hf)]
  have hclk : ∀ f ∈ p :: R, rd s.ord f.v ≤ s.clock := fun f hf => (h.ordr f.v (h.inF f hf).1 (h.inF f hf).2.1).2
  have hasc := List.pairwise_cons.1 h.asc
  have hle : ∀ f ∈ p :: R, rd s.ord f.v ≤ rd s.ord p.v := fun f hf => by
    rcases List.mem_cons.1 hf with rfl | hf
    · exact Int.le_refl _
    · have := hasc.1 f hf; omega
  have old : ∀ {j v a}, At E j v a → Tk s j → v ≠ x := fun hv ht ex => h.ent _ _ _ hv ht (by rw [ex]; exact hx)
  have cases_ : ∀ {P : List Fr} {f : Fr} {R'' : List Fr}, ((⟨x, e, [e]⟩ : Fr) :: p :: R) = P ++ f :: R'' → (P = [] ∧ f = ⟨x, e, [e]⟩ ∧ R'' = p :: R) ∨ ∃ P', P = ⟨x, e, [e]⟩ :: P' ∧ p :: R = P' ++ f :: R'' := by
    intro P f R'' e9
    cases P with
    | nil => simp only [List.nil_append, List.cons.injEq] at e9; exact .inl ⟨rfl, e9.1.symm, e9.2.symm⟩
    | cons z P => simp only [List.cons_append, List.cons.injEq] at e9; exact .inr ⟨P, by rw [← e9.1], e9.2⟩
  refine ⟨fun P f R'' e9 => ?_, fun P f R'' e9 => ?_, fun P f R'' e9 => ?_, fun P y q R'' e9 => ?_, hj.bk, hj.c1, hj.c2⟩
  · rcases cases_ e9 with ⟨rfl, rfl, rfl⟩ | ⟨P', rfl, e8⟩
    · intro j hm
      have hm : j ∈ [e] := hm
      rw [List.mem_singleton] at hm
      subst hm
      exact ⟨.refl _, ⟨x, p.v, he.swap, Int.le_refl _⟩, fun v b hv g hg => by cases hg⟩
    · intro j hm
      have hf : f ∈ p :: R := by rw [e8]; simp
      have htk := seg_tk h hf hm
      obtain ⟨h1, ⟨v, a, h2, h3⟩, h4⟩ := hj.sg P' f R'' e8 j hm
      refine ⟨h1, ⟨v, a, h2, ?_⟩, fun v b hv g hg => ?_⟩
      · rw [rof f hf, ro v (h2.inn hR.ends).1.1, if_neg (old h2 htk)]; exact h3
      · rw [ro v (hv.inn hR.ends).1.1, if_neg (old hv htk)]
        rcases List.mem_cons.1 hg with rfl | hg
        · rw [rx]
          have := h.ordr v (hv.inn hR.ends).1.1 (hv.inn hR.ends).1.2
          omega
        · rw [rof g (by rw [e8]; exact List.mem_append_left _ hg)]
          exact h4 v b hv g hg
  · rcases cases_ e9 with ⟨rfl, rfl, rfl⟩ | ⟨P', rfl, e8⟩
    · refine ⟨_, List.mem_cons_self .., ?_, fun q _ _ _ => .refl _⟩
      show rd (sPush s p x e).ord x = rd (sPush s p x e).low x
      rw [rx, rl x x0, if_pos rfl]
    · have hf : f ∈ p :: R := by rw [e8]; simp
      obtain ⟨g, hg, h1, h2⟩ := hj.l1 P' f R'' e8
      have hg2 : g ∈ p :: R := by rw [e8]; exact List.mem_append_right _ hg
      refine ⟨g, hg, by rw [rof g hg2, rlf f hf]; exact h1, fun q q0 hq hqg => ?_⟩
      rw [rof f hf, ro q q0] at hq
      by_cases eq : q = x
      · rw [if_pos eq] at hq
        have := hclk f hf
        omega
      · rw [if_neg eq] at hq
        exact h2 q q0 hq hqg
  · intro j y z hy ht hle2
    rcases cases_ e9 with ⟨rfl, rfl, rfl⟩ | ⟨P', rfl, e8⟩
    · left
      rcases (rt j hy.rng.1).1 ht with rfl | ht
      · rfl
      · exfalso
        have hle2 : rd (sPush s p x e).ord x ≤ rd (sPush s p x e).ord y := hle2
        rw [rx, ro y (hy.inn hR.ends).1.1, if_neg (old hy ht)] at hle2
        have := h.ordr y (hy.inn hR.ends).1.1 (hy.inn hR.ends).1.2
        omega
    · have hf : f ∈ p :: R := by rw [e8]; simp
      have hlo := (h.low P' f R'' e8).1
      have hfc := hclk f hf
      rw [rof f hf] at hle2
      rcases (rt j hy.rng.1).1 ht with rfl | ht
      · right
        refine ⟨f, List.mem_cons_self .., ?_⟩
        rw [rlf f hf]
        rcases he.two hy with ⟨h1, h2⟩ | ⟨h1, h2⟩
        · rw [h2, rx]; omega
        · rw [h2, rof p (List.mem_cons_self ..)]
          have := hle f hf
          omega
      · rw [ro y (hy.inn hR.ends).1.1, if_neg (old hy ht)] at hle2
        rcases hj.l2 P' f R'' e8 j y z hy ht hle2 with h1 | ⟨g, hg, h1⟩
        · exact .inl h1
        · right
          have hg2 : g ∈ p :: R := by
            rw [e8]
            rcases List.mem_cons.1 hg with rfl | hg
            · simp
            · exact List.mem_append_left _ hg
          refine ⟨g, ?_, ?_⟩
          · rcases List.mem_cons.1 hg with rfl | hg
            · exact List.mem_cons_self ..
            · exact List.mem_cons_of_mem _ (List.mem_cons_of_mem _ hg)
          · rw [rlf g hg2, ro z (hy.swap.inn hR.ends).1.1, if_neg (old hy.swap ht)]
            exact h1
  · intro z z0 z1 h1 h2 j b hz
    cases P with
    | nil =>
      simp only [List.nil_append, List.cons.injEq] at e9
      obtain ⟨rfl, rfl, rfl⟩ := e9
      have h2 : rd (sPush s p x e).ord z < rd (sPush s p x e).ord x := h2
      rw [rof p (List.mem_cons_self ..), ro z z0] at h1
      rw [rx, ro z z0] at h2
      by_cases ez : z = x
      · rw [if_pos ez] at h2; omega
      · rw [if_neg ez] at h1 h2
        have hzn : rd s.ord z ≠ 0 := by have := h.ordr p.v p0 p1; omega
        have hdone := h.fin z z0 z1 hzn (fun f hf e7 => by have := hle f hf; rw [e7] at this; omega)
        have htk := h.done hz z0 z1 hdone
        refine ⟨(rt j hz.rng.1).2 (.inr htk), ?_⟩
        show rd (sPush s p x e).ord b < rd (sPush s p x e).ord x
        rw [rx, ro b (hz.swap.inn hR.ends).1.1, if_neg (old hz.swap htk)]
        have := h.ordr b (hz.swap.inn hR.ends).1.1 (hz.swap.inn hR.ends).1.2
        omega
    | cons w P =>
      simp only [List.cons_append, List.cons.injEq] at e9
      obtain ⟨-, e8⟩ := e9
      have hy : y ∈ p :: R := by rw [e8]; simp
      have hq : q ∈ p :: R := by rw [e8]; simp
      rw [rof q hq, ro z z0] at h1
      rw [rof y hy, ro z z0] at h2
      have hyc := hclk y hy
      by_cases ez : z = x
      · rw [if_pos ez] at h2; omega
      · rw [if_neg ez] at h1 h2
        obtain ⟨h3, h4⟩ := hj.nc P y q R'' e8 z z0 z1 h1 h2 j b hz
        refine ⟨(rt j hz.rng.1).2 (.inr h3), ?_⟩
        rw [rof y hy, ro b (hz.swap.inn hR.ends).1.1, if_neg (old hz.swap h3)]
        exact h4
theorem IB.merge (h : IA N E s (c :: p :: R)) (hj : IB N E s (c :: p :: R)) (hl : rd s.low c.v < rd s.ord p.v) : IB N E (stM s c p R) (pM c p :: R) := by
  obtain ⟨p0, p1, p2⟩ := h.inF p (by simp)
  have hasc := List.pairwise_cons.1 h.asc
  have hasc2 := List.pairwise_cons.1 hasc.2
  have hcp := hasc.1 p (by simp)
  have rl := lowM_rd h
  have lp : rd (lowM s c p) p.v ≤ rd s.low c.v ∧ rd (lowM s c p) p.v ≤ rd s.low p.v := by
    rw [rl _ p0, if_pos rfl]
    split <;> omega
  have lf : ∀ f ∈ R, rd (lowM s c p) f.v = rd s.low f.v := fun f hf => by
    rw [rl _ (h.inF f (by simp [hf])).1, if_neg (fun e => by have := hasc2.1 f hf; rw [e] at this; omega)]
  obtain ⟨gl, hgl, hl1, hl2⟩ := hj.l1 [] c (p :: R) rfl
  have hglR : gl ∈ R := by
    rcases List.mem_cons.1 hgl with rfl | hgl
    · omega
    · rcases List.mem_cons.1 hgl with rfl | hgl
      · omega
      · exact hgl
  obtain ⟨q, R', rfl⟩ : ∃ q R', R = q :: R' := by
    cases R with
    | nil => cases hglR
    | cons q R' => exact ⟨q, R', rfl⟩
  have hcb := (h.tree [] c p (q :: R') rfl).1
  have hpb := (h.tree [c] p q R' rfl).1
  have hrel : Rel E c.by_ p.by_ := by
    refine ⟨p.v, c.v, q.v, hcb, hpb.swap, ?_⟩
    have h1 := hl2 p.v p0 hcp (fun e9 => by have := hasc2.1 gl hglR; rw [← e9] at this; omega)
    refine h1.trans (tree_path R' q (fun P a b R'' e9 => (h.tree (c :: p :: P) a b R'' (by rw [e9]; rfl)).1) (fun f hf e9 => ?_) gl hglR)
    have := hasc2.1 f hf
    rw [e9] at this; omega
  have cases_ : ∀ {P : List Fr} {f : Fr} {R'' : List Fr}, (pM c p :: q :: R') = P ++ f :: R'' → (P = [] ∧ f = pM c p ∧ R'' = q :: R') ∨ ∃ P', P = pM c p :: P' ∧ q :: R' = P' ++ f :: R'' := by
    intro P f R'' e9
    cases P with
    | nil => simp only [List.nil_append, List.cons.injEq] at e9; exact .inl ⟨rfl, e9.1.symm, e9.2.symm⟩
    | cons z P => simp only [List.cons_append, List.cons.injEq] at e9; exact .inr ⟨P, by rw [← e9.1], e9.2⟩
  refine ⟨fun P f R'' e9 => ?_, fun P f R'' e9 => ?_, fun P f R'' e9 => ?_, fun P x y R'' e9 => ?_, hj.bk, hj.c1, hj.c2⟩
  · rcases cases_ e9 with ⟨rfl, rfl, rfl⟩ | ⟨P', rfl, e8⟩
    · intro j hm
      rcases List.mem_append.1 hm with hm | hm
      · obtain ⟨h1, h2, h3⟩ := hj.sg [c] p _ rfl j hm
        exact ⟨h1, h2, fun v b hv g hg => by cases hg⟩
      · obtain ⟨h1, ⟨v, a, h2, h3⟩, -⟩ := hj.sg [] c _ rfl j hm
        exact ⟨.step h1 hrel, ⟨v, a, h2, by show rd s.ord p.v ≤ rd s.ord v; omega⟩, fun v b hv g hg => by cases hg⟩
    · intro j hm
      obtain ⟨h1, h2, h3⟩ := hj.sg (c :: p :: P') f R'' (by rw [e8]; rfl) j hm
      refine ⟨h1, h2, fun v b hv g hg => ?_⟩
      rcases List.mem_cons.1 hg with rfl | hg
      · exact h3 v b hv p (by simp)
      · exact h3 v b hv g (by simp [hg])
  · rcases cases_ e9 with ⟨rfl, rfl, rfl⟩ | ⟨P', rfl, e8⟩
    · show ∃ g : Fr, g ∈ _ ∧ rd s.ord g.v = rd (lowM s c p) p.v ∧ ∀ x, 0 ≤ x → rd s.ord x < rd s.ord p.v → x ≠ g.v → Cn (dropV E x) p.v g.v
      rw [rl _ p0, if_pos rfl]
      split
      · refine ⟨gl, List.mem_cons_of_mem _ hglR, hl1, fun x x0 hx hxg => ?_⟩
        exact (hcb.avoid (fun e7 => by rw [e7] at hx; omega) (fun e7 => by rw [← e7] at hx; omega)).trans (hl2 x x0 (by omega) hxg)
      · obtain ⟨g2, hg2, h1, h2⟩ := hj.l1 [c] p _ rfl
        rcases List.mem_cons.1 hg2 with rfl | hg2
        · exact ⟨pM c g2, List.mem_cons_self .., h1, h2⟩
        · exact ⟨g2, List.mem_cons_of_mem _ hg2, h1, h2⟩
    · show ∃ g : Fr, g ∈ f :: R'' ∧ rd s.ord g.v = rd (lowM s c p) f.v ∧ _
      rw [lf f (by rw [e8]; simp)]
      exact hj.l1 (c :: p :: P') f R'' (by rw [e8]; rfl)
  · intro j x y hx ht hle
    show j = f.by_ ∨ ∃ g : Fr, g ∈ f :: P ∧ rd (lowM s c p) g.v ≤ rd s.ord y
    rcases cases_ e9 with ⟨rfl, rfl, rfl⟩ | ⟨P', rfl, e8⟩
    · rcases hj.l2 [c] p _ rfl j x y hx ht hle with h1 | ⟨g2, hg2, h1⟩
      · exact .inl h1
      · right
        refine ⟨pM c p, List.mem_cons_self .., ?_⟩
        show rd (lowM s c p) p.v ≤ _
        rcases List.mem_cons.1 hg2 with rfl | hg2
        · omega
        · rw [List.mem_singleton] at hg2; subst hg2; omega
    · have hfR : f ∈ q :: R' := by rw [e8]; simp
      rcases hj.l2 (c :: p :: P') f R'' (by rw [e8]; rfl) j x y hx ht hle with h1 | ⟨g2, hg2, h1⟩
      · exact .inl h1
      · right
        rcases List.mem_cons.1 hg2 with rfl | hg2
        · exact ⟨g2, List.mem_cons_self .., by rw [lf g2 hfR]; exact h1⟩
        · rcases List.mem_cons.1 hg2 with rfl | hg2
          · exact ⟨pM g2 p, by simp, by show rd (lowM s g2 p) p.v ≤ _; omega⟩
          · rcases List.mem_cons.1 hg2 with rfl | hg2
            · exact ⟨pM c g2, by simp, by show rd (lowM s c g2) g2.v ≤ _; omega⟩
            · exact ⟨g2, by simp [hg2], by rw [lf g2 (by rw [e8]; exact List.mem_append_left _ hg2)]; exact h1⟩
  · rcases cases_ e9 with ⟨rfl, rfl, e8⟩ | ⟨P', rfl, e8⟩
    · simp only [List.cons.injEq] at e8
      obtain ⟨rfl, rfl⟩ := e8
      exact hj.nc [c] p y R'' rfl
    · exact hj.nc (c :: p :: P') x y R'' (by rw [e8]; rfl)
theorem em1 (h : IA N E s (c :: p :: R)) (hn : rd s.next c.v = ((arcsOf E c.v).length : Int)) {x : Int} (x0 : 0 ≤ x) (x1 : x < (N : Int)) (hx : rd s.ord c.v ≤ rd s.ord x) {j y : Int} (hj : At E j x y) : Tk s j := by
  obtain ⟨c0, c1, c2⟩ := h.inF c (by simp)
  have hasc := List.pairwise_cons.1 h.asc
  by_cases e : x = c.v
  · rw [e] at hj; exact h.done hj c0 c1 hn
  · refine h.done hj x0 x1 (h.fin x x0 x1 (by have := h.ordr c.v c0 c1; omega) (fun f hf e2 => ?_))
    rcases List.mem_cons.1 hf with rfl | hf
    · exact e e2.symm
    · have := hasc.1 f hf
      rw [e2] at this; omega
theorem em2 (hR : Rt N E) (h : IA N E s (c :: p :: R)) (hb : IB N E s (c :: p :: R)) (hn : rd s.next c.v = ((arcsOf E c.v).length : Int)) {x : Int} (hx : rd s.ord c.v ≤ rd s.ord x) {j y : Int} (hj : At E j x y) : j ∈ c.seg ∨ ∃ b ∈ s.blocks, j ∈ b := by
  obtain ⟨⟨x0, x1⟩, -⟩ := hj.inn hR.ends
  have ht := em1 h hn x0 x1 hx hj
  rcases (h.part j hj.rng.1 hj.rng.2).1 ht with h1 | h1
  · rw [h.edg] at h1
    obtain ⟨f, hf, h9⟩ := mem_edOf.1 h1
    rcases List.mem_cons.1 hf with e8 | hf
    · rw [e8] at h9; exact .inl h9
    · exfalso
      obtain ⟨P, R', e⟩ := List.append_of_mem hf
      obtain ⟨-, -, h2⟩ := hb.sg (c :: P) f R' (by rw [e]; rfl) j h9
      have := h2 x y hj c (List.mem_cons_self ..)
      omega
  · exact .inr h1
theorem em3 (hR : Rt N E) (h : IA N E s (c :: p :: R)) (hb : IB N E s (c :: p :: R)) (hn : rd s.next c.v = ((arcsOf E c.v).length : Int)) (hl : rd s.ord p.v ≤ rd s.low c.v) {x : Int} (hx : rd s.ord c.v ≤ rd s.ord x) {j y : Int} (hj : At E j x y) : rd s.ord c.v ≤ rd s.ord y ∨ y = p.v := by
  obtain ⟨⟨x0, x1⟩, y0, y1⟩ := hj.inn hR.ends
  obtain ⟨p0, p1, p2⟩ := h.inF p (by simp)
  have hasc := List.pairwise_cons.1 h.asc
  have hcp := hasc.1 p (by simp)
  have ht := em1 h hn x0 x1 hx hj
  by_cases hy : rd s.ord c.v ≤ rd s.ord y
  · exact .inl hy
  · right
    rcases hb.l2 [] c (p :: R) rfl j x y hj ht hx with h1 | ⟨g, hg, h1⟩
    · have hA := (h.tree [] c p R rfl).1
      rw [← h1] at hA
      rcases hA.two hj with ⟨h2, h3⟩ | ⟨h2, h3⟩
      · exfalso; rw [h2] at hx; omega
      · exact h3
    · rw [List.mem_singleton] at hg
      subst hg
      by_cases h4 : rd s.ord y = rd s.ord p.v
      · exact h.ordi y p.v y0 y1 p0 p1 h4 (by rw [h4]; exact p2)
      · exfalso
        have h5 := (hb.nc [] g p R rfl y y0 y1 (by omega) (by omega) j x hj.swap).2
        omega
theorem em4 (hR : Rt N E) (h : IA N E s (c :: p :: R)) (hb : IB N E s (c :: p :: R)) (hn : rd s.next c.v = ((arcsOf E c.v).length : Int)) (hl : rd s.ord p.v ≤ rd s.low c.v) {i v a : Int} (hi : i ∈ c.seg) (hv : At E i v a) : rd s.ord c.v ≤ rd s.ord v ∨ v = p.v := by
  obtain ⟨-, ⟨v', a', h1, h2⟩, -⟩ := hb.sg [] c _ rfl i hi
  rcases h1.two hv with ⟨h3, -⟩ | ⟨h3, h4⟩
  · left; rw [h3]; exact h2
  · rw [h3]; exact em3 hR h hb hn hl h2 h1
theorem em5 (hR : Rt N E) (h : IA N E s (c :: p :: R)) (hb : IB N E s (c :: p :: R)) (hn : rd s.next c.v = ((arcsOf E c.v).length : Int)) (hl : rd s.ord p.v ≤ rd s.low c.v) {a b : Int} (hc : Cn (dropV E p.v) a b) (ha : rd s.ord c.v ≤ rd s.ord a) : rd s.ord c.v ≤ rd s.ord b := by
  induction hc with
  | refl => exact ha
  | fwd e he _ ih =>
    obtain ⟨he, hn0, hn1⟩ := mem_dropV.1 he
    obtain ⟨j, hj, rfl⟩ := List.mem_iff_getElem.1 he
    exact (em3 hR h hb hn hl ih (j := (j : Int)) ⟨j, hj, rfl, .inl ⟨rfl, rfl⟩⟩).resolve_right hn1
  | bwd e he _ ih =>
    obtain ⟨he, hn0, hn1⟩ := mem_dropV.1 he
    obtain ⟨j, hj, rfl⟩ := List.mem_iff_getElem.1 he
    exact (em3 hR h hb hn hl ih (j := (j : Int)) ⟨j, hj, rfl, .inr ⟨rfl, rfl⟩⟩).resolve_right hn0
theorem seg_nb (h : IA N E s F) {f : Fr} (hf : f ∈ F) {j : Int} (hj : j ∈ f.seg) {b : List Int} (hb : b ∈ s.blocks) : j ∉ b := by
  intro hm
  have h1 : j ∈ s.edges := by rw [h.edg]; exact mem_edOf.2 ⟨f, hf, hj⟩
  exact (List.nodup_append.1 h.nd).2.2 j h1 j (List.mem_flatten.2 ⟨b, hb, hm⟩) rfl
theorem seg_ns (h : IA N E s (c :: F)) {f : Fr} (hf : f ∈ F) {j : Int} (hj : j ∈ f.seg) : j ∉ c.seg := by
  intro hm
  have h1 := (List.nodup_append.1 h.nd).1
  rw [h.edg, edOf_cons] at h1
  exact (List.nodup_append.1 h1).2.2 j (mem_edOf.2 ⟨f, hf, hj⟩) j hm rfl
theorem IB.emit (hR : Rt N E) (h : IA N E s (c :: p :: R)) (hb : IB N E s (c :: p :: R)) (hn : rd s.next c.v = ((arcsOf E c.v).length : Int)) (hl : rd s.ord p.v ≤ rd s.low c.v) : IB N E (stE E s c p R) (p :: R) := by
  obtain ⟨p0, p1, p2⟩ := h.inF p (by simp)
  have hasc := List.pairwise_cons.1 h.asc
  have hasc2 := List.pairwise_cons.1 hasc.2
  have hcp := hasc.1 p (by simp)
  have hlp := (h.low [c] p R rfl).1
  have rl := lowM_rd h
  have lf : ∀ f ∈ p :: R, rd (lowM s c p) f.v = rd s.low f.v := fun f hf => by
    rw [rl _ (h.inF f (List.mem_cons_of_mem _ hf)).1]
    split
    · rename_i e
      rw [if_neg (by omega), e]
    · rfl
  have htree := h.tree [] c p R rfl
  have hcutv : ∀ v, 0 ≤ v → (rdOf false (stE E s c p R).cut v = true ↔ rdOf false s.cut v = true ∨ (v = p.v ∧ cutB E s p R = true)) := fun v v0 => by
    show rdOf false (if cutB E s p R = true then s.cut.set p.v.toNat true else s.cut) v = true ↔ _
    by_cases hc : cutB E s p R = true
    · rw [if_pos hc, rdb_set _ _ _ _ p0 (by rw [h.lc]; exact p1) v0]
      by_cases e : v = p.v
      · rw [if_pos e]; simp [e, hc]
      · rw [if_neg e]; simp [e]
    · rw [if_neg hc]; simp [hc]
  have hmem : ∀ b, b ∈ (stE E s c p R).blocks ↔ b ∈ s.blocks ∨ b = wkSorted c.seg := fun b => by
    show b ∈ s.blocks ++ [wkSorted c.seg] ↔ _
    rw [List.mem_append, List.mem_singleton]
  refine ⟨fun P f R'' e9 => ?_, fun P f R'' e9 => ?_, fun P f R'' e9 => ?_, fun P x y R'' e9 => ?_, fun b hbm => ?_, fun v v0 v1 hv => ?_, fun b hbm v i a k a' hi hiv hkv hk => ?_⟩
  · intro j hm
    obtain ⟨h1, h2, h3⟩ := hb.sg (c :: P) f R'' (by rw [e9]; rfl) j hm
    exact ⟨h1, h2, fun v b hv g hg => h3 v b hv g (List.mem_cons_of_mem _ hg)⟩
  · show ∃ g : Fr, g ∈ f :: R'' ∧ rd s.ord g.v = rd (lowM s c p) f.v ∧ _
    rw [lf f (by rw [e9]; simp)]
    exact hb.l1 (c :: P) f R'' (by rw [e9]; rfl)
  · intro j x y hx ht hle
    show j = f.by_ ∨ ∃ g : Fr, g ∈ f :: P ∧ rd (lowM s c p) g.v ≤ rd s.ord y
    have hfR : f ∈ p :: R := by rw [e9]; simp
    rcases hb.l2 (c :: P) f R'' (by rw [e9]; rfl) j x y hx ht hle with h1 | ⟨g2, hg2, h1⟩
    · exact .inl h1
    · right
      rcases List.mem_cons.1 hg2 with rfl | hg2
      · exact ⟨g2, List.mem_cons_self .., by rw [lf g2 hfR]; exact h1⟩
      · rcases List.mem_cons.1 hg2 with rfl | hg2
        · -- the block's own vertex: the vertex ahead is as low
          have hpf : p ∈ f :: P := by
            cases P with
            | nil => simp only [List.nil_append, List.cons.injEq] at e9; rw [e9.1]; exact List.mem_cons_self ..
            | cons z P => simp only [List.cons_append, List.cons.injEq] at e9; rw [e9.1]; simp
          exact ⟨p, hpf, by rw [lf p (List.mem_cons_self ..)]; omega⟩
        · exact ⟨g2, List.mem_cons_of_mem _ hg2, by rw [lf g2 (by rw [e9]; exact List.mem_append_left _ hg2)]; exact h1⟩
  · exact hb.nc (c :: P) x y R'' (by rw [e9]; rfl)
  · rcases (hmem b).1 hbm with hbm | rfl
    · exact hb.bk b hbm
    · refine ⟨fun i hi k hr => ?_, fun i hi k hk => ?_⟩
      · rw [mem_sorted] at hi ⊢
        refine Classical.byContradiction fun hk => ?_
        have key : k ∈ c.seg ∨ ∃ b ∈ s.blocks, k ∈ b := by
          obtain ⟨v, a, a', h1, h2, h3⟩ := hr
          by_cases hv : rd s.ord c.v ≤ rd s.ord v
          · exact em2 hR h hb hn hv h2
          · have ev := (em4 hR h hb hn hl hi h1).resolve_left hv
            have ha := (em4 hR h hb hn hl hi h1.swap).resolve_right (fun e => h1.ne hR (by rw [ev, e]))
            rw [ev] at h3
            exact em2 hR h hb hn (em5 hR h hb hn hl h3 ha) h2.swap
        rcases key with h1 | ⟨b, hb1, h1⟩
        · exact hk h1
        · exact seg_nb h (List.mem_cons_self ..) hi hb1 ((hb.bk b hb1).1 k h1 i hr.symm)
      · rw [mem_sorted] at hi hk
        exact (hb.sg [] c _ rfl i hi).1.trans (hb.sg [] c _ rfl k hk).1.symm
  · rcases (hcutv v v0).1 hv with hv | ⟨rfl, hc⟩
    · obtain ⟨b, h1, h2⟩ := hb.c1 v v0 v1 hv
      exact ⟨b, (hmem b).2 (.inl h1), h2⟩
    · obtain ⟨hA, t, ht⟩ := htree
      refine ⟨_, (hmem _).2 (.inr rfl), c.by_, c.v, ?_⟩
      have hcs : c.by_ ∈ wkSorted c.seg := mem_sorted.2 (by rw [ht]; exact List.mem_cons_self ..)
      cases R with
      | nil =>
        have hc : hasMore E s p.v = true := by
          unfold cutB at hc
          rw [decide_eq_false (by simp)] at hc
          simpa using hc
        unfold hasMore at hc
        obtain ⟨a, ha, hta⟩ := List.any_eq_true.1 hc
        have ha2 := arc_at.1 (List.mem_of_mem_drop ha)
        refine ⟨a.f1, a.f0, hcs, hA, ha2, fun hm => ?_⟩
        have htk := seg_tk h (List.mem_cons_self ..) (mem_sorted.1 hm)
        unfold Tk at htk
        rw [htk] at hta
        cases hta
      | cons q R =>
        obtain ⟨hA2, t2, ht2⟩ := h.tree [c] p q R rfl
        refine ⟨p.by_, q.v, hcs, hA, hA2.swap, fun hm => ?_⟩
        exact seg_ns h (f := p) (by simp) (by rw [ht2]; exact List.mem_cons_self ..) (mem_sorted.1 hm)
  · have v0 := (hiv.inn hR.ends).1.1
    rw [hcutv v v0]
    rcases (hmem b).1 hbm with hbm | rfl
    · exact .inl (hb.c2 b hbm v i a k a' hi hiv hkv hk)
    · rw [mem_sorted] at hi
      have hk2 : k ∉ c.seg := fun hm => hk (mem_sorted.2 hm)
      have oldb : (∃ b ∈ s.blocks, k ∈ b) → rdOf false s.cut v = true := by
        rintro ⟨b, hb1, hb2⟩
        exact hb.c2 b hb1 v k a' i a hb2 hkv hiv (seg_nb h (List.mem_cons_self ..) hi hb1)
      rcases em4 hR h hb hn hl hi hiv with hv | rfl
      · exact .inl (oldb ((em2 hR h hb hn hv hkv).resolve_left hk2))
      · by_cases hc : cutB E s p R = true
        · exact .inr ⟨rfl, hc⟩
        · left
          unfold cutB at hc
          cases R with
          | cons q R => exact absurd (by rw [decide_eq_true (by simp)]; rfl) hc
          | nil =>
            have hroot := h.root [c] p rfl
            by_cases htk : Tk s k
            · rcases (h.part k hkv.rng.1 hkv.rng.2).1 htk with h1 | h1
              · exfalso
                rw [h.edg] at h1
                obtain ⟨f, hf, h9⟩ := mem_edOf.1 h1
                rcases List.mem_cons.1 hf with e8 | hf
                · rw [e8] at h9; exact hk2 h9
                · rw [List.mem_singleton] at hf
                  rw [hf, hroot] at h9
                  cases h9
              · exact oldb h1
            · exfalso
              apply hc
              rw [Bool.or_eq_true]
              right
              unfold hasMore
              obtain ⟨n, hn1, e1, e2⟩ := at_arc hkv
              rw [List.any_eq_true]
              have hx := h.nx p.v p0 p1
              have hge : ¬ (n : Int) < rd s.next p.v := fun hlt => htk (by have := hx.2.2 n hlt; rwa [e1] at this)
              refine ⟨rd_T51 (arcsOf E p.v) n, ?_, ?_⟩
              · rw [rd51_get _ n hn1, List.mem_iff_getElem]
                refine ⟨n - (rd s.next p.v).toNat, by rw [zLd]; omega, ?_⟩
                rw [List.getElem_drop]
                congr 1
                omega
              · rw [e1]
                unfold Tk at htk
                rw [Bool.eq_false_iff.2 htk]
                rfl
end
def ptCuts (cut : List Bool) : Nat → Nat → List Int → Option (List Int)
  | 0, _, out => some out
  | d + 1, v, out => if rdOf false cut (v : Int) = true then (if out.length < 17592186044415 then ptCuts cut d (v + 1) (out ++ [(v : Int)]) else none) else ptCuts cut d (v + 1) out
def parts_Blocks.f (k : Nat) (n : Int) (E : List S43) : Option (List (List Int)) :=
  (graph_Right.f k n E).bind fun q => if q = 0 then (wkWalked k n E).bind fun s => some s.blocks else some []
def parts_Cuts.f (k : Nat) (n : Int) (E : List S43) : Option (List Int) :=
  (graph_Right.f k n E).bind fun q => if q = 0 then (wkWalked k n E).bind fun s => ptCuts s.cut s.cut.length 0 [] else some []
theorem parts_Blocks.calls (k : Nat) (n : Int) (A0 : Option Addr) (c0 : Nat) (E : List S43) (r : List (List Int)) (w : World) (hr0 : Kd.C k43 w A0 E.length E) (hc0 : E.length ≤ c0) (h : parts_Blocks.f k n E = some r) :
    Calls Try.prog 19 #[.agg #[.int .i64 n, .slice A0 E.length c0]] w fun e w' => ∃ v0_ : Value, e = .returned v0_ ∧ Kd.S (Kd.slice 3 (Kd.int .i64)) 33 w' w.heap.size (fun _ => True) v0_ r ∧ Below w.heap.size w w' := by
  have hu24 := Try.underlying24
  have hu55 := Try.underlying55
  have HR := zMk hr0
  have HC := zMk hc0
  unfold parts_Blocks.f at h
  obtain ⟨q, hq, h⟩ := Option.bind_eq_some_iff.1 h
  have HQ := zMk hq
  have HH := zMk h
  clear hr0 hc0 hq h
  go_enter Try.func19, Try.ntmps19
  go_upto_region 1 with (fail)
  have BM := zMk (heap_alloc_new w (.cells #[.int .i64 n, .slice A0 E.length c0] 24))
  have HB := zMk (zBa (Below.refl w.heap.size w) (.cells #[.int .i64 n, .slice A0 E.length c0] 24))
  generalize w.alloc (.cells #[.int .i64 n, .slice A0 E.length c0] 24) = w0 at BM HB ⊢
  obtain ⟨gb, hgb⟩ : ∃ gb, gb = w.heap.size := ⟨_, rfl⟩
  rw [← hgb] at BM ⊢
  clear hgb
  have z0 : w0.cell? ⟨gb, 0, none⟩ = some (.int .i64 n) := (zKc BM.out 0).trans rfl
  have z1 : w0.cell? ⟨gb, 1, none⟩ = some (.slice A0 E.length c0) := (zKc BM.out 1).trans rfl
  go_upto_if 5 with (go_at_call 27; refine (graph_Right.calls k n A0 c0 E q _ (Kd.C_below HR.out HB.out) HC.out HQ.out).mono ?_; rintro e w1 ⟨rfl, hb⟩; have BM1 := zMk (zKb BM.out hb); have HB1 := zMk (zBt HB.out hb); clear hb)
  clear z0 z1 BM HB HQ
  have h := HH.out
  clear HH
  by_cases hq0 : q = 0
  rotate_left
  · rw [if_neg hq0] at h
    have qb : (q != 0) = true := bne_iff_ne.mpr hq0
    obtain rfl := zOi h
    first | rw [qb] | skip
    go_wp2
    go_ret
    exact ⟨_, rfl, Kd.S_nil _ _ _ _ _, HB1.out⟩
  subst hq0
  rw [if_pos rfl] at h
  have qb : ((0 : Int) != 0) = false := rfl
  first | rw [qb] | skip
  obtain ⟨s, hs, h⟩ := Option.bind_eq_some_iff.1 h
  obtain rfl := zOi h
  have HS := zMk hs
  clear h hs
  have z0 : w1.cell? ⟨gb, 0, none⟩ = some (.int .i64 n) := (zKc BM1.out 0).trans rfl
  have z1 : w1.cell? ⟨gb, 1, none⟩ = some (.slice A0 E.length c0) := (zKc BM1.out 1).trans rfl
  go_wp2_with (go_at_call 31; refine (wkWalked.calls k n A0 c0 E s _ (Kd.C_below HR.out HB1.out) HC.out HS.out).mono ?_; rintro e wz ⟨gw, vn, V, wa, wn, rfl, hw, hb⟩; have HW := zMk hw; have HBz := zMk (zBt HB1.out (zBt hb hw.hBl)); have HSZ := zMk (zBs (zBt HB1.out hb)); have z7 : wz.cell? ⟨gw, 7, none⟩ = some V.vB := (zKc hw.hw 7).trans rfl; clear hw hb)
  go_ret
  exact ⟨_, rfl, Kd.S_mono (Kd.S_lower HW.out.hB HSZ.out) (fun _ _ => trivial), HBz.out⟩
theorem parts_Cuts.calls (k : Nat) (n : Int) (A0 : Option Addr) (c0 : Nat) (E : List S43) (r : List Int) (w : World) (hr0 : Kd.C k43 w A0 E.length E) (hc0 : E.length ≤ c0) (h : parts_Cuts.f k n E = some r) :
    Calls Try.prog 14 #[.agg #[.int .i64 n, .slice A0 E.length c0]] w fun e w' => ∃ v0_ : Value, e = .returned v0_ ∧ Kd.R (Kd.int .i64) 3 w' w.heap.size (fun _ => True) v0_ r ∧ Below w.heap.size w w' := by
  have hu24 := Try.underlying24
  have hu55 := Try.underlying55
  have HR := zMk hr0
  have HC := zMk hc0
  unfold parts_Cuts.f at h
  obtain ⟨q, hq, h⟩ := Option.bind_eq_some_iff.1 h
  have HQ := zMk hq
  have HH := zMk h
  clear hr0 hc0 hq h
  go_enter Try.func14, Try.ntmps14
  go_upto_region 1 with (fail)
  have BM := zMk (heap_alloc_new w (.cells #[.int .i64 n, .slice A0 E.length c0] 24))
  have HB := zMk (zBa (Below.refl w.heap.size w) (.cells #[.int .i64 n, .slice A0 E.length c0] 24))
  generalize w.alloc (.cells #[.int .i64 n, .slice A0 E.length c0] 24) = w0 at BM HB ⊢
  obtain ⟨gb, hgb⟩ : ∃ gb, gb = w.heap.size := ⟨_, rfl⟩
  rw [← hgb] at BM ⊢
  clear hgb
  have z0 : w0.cell? ⟨gb, 0, none⟩ = some (.int .i64 n) := (zKc BM.out 0).trans rfl
  have z1 : w0.cell? ⟨gb, 1, none⟩ = some (.slice A0 E.length c0) := (zKc BM.out 1).trans rfl
  go_upto_if 7 with (go_at_call 27; refine (graph_Right.calls k n A0 c0 E q _ (Kd.C_below HR.out HB.out) HC.out HQ.out).mono ?_; rintro e w1 ⟨rfl, hb⟩; have BM1 := zMk (zKb BM.out hb); have HB1 := zMk (zBt HB.out hb); clear hb)
  clear z0 z1 BM HB HQ
  have h := HH.out
  clear HH
  by_cases hq0 : q = 0
  rotate_left
  · rw [if_neg hq0] at h
    have qb : (q != 0) = true := bne_iff_ne.mpr hq0
    obtain rfl := zOi h
    first | rw [qb] | skip
    go_wp2
    go_ret
    exact ⟨_, rfl, Kd.R_nil _ _ _ _ _, HB1.out⟩
  subst hq0
  rw [if_pos rfl] at h
  have qb : ((0 : Int) != 0) = false := rfl
  first | rw [qb] | skip
  obtain ⟨s, hs, h⟩ := Option.bind_eq_some_iff.1 h
  have HS := zMk hs
  have HH := zMk h
  clear h hs
  have z0 : w1.cell? ⟨gb, 0, none⟩ = some (.int .i64 n) := (zKc BM1.out 0).trans rfl
  have z1 : w1.cell? ⟨gb, 1, none⟩ = some (.slice A0 E.length c0) := (zKc BM1.out 1).trans rfl
  go_wp2_with (go_at_call 31; refine (wkWalked.calls k n A0 c0 E s _ (Kd.C_below HR.out HB1.out) HC.out HS.out).mono ?_; rintro e wz ⟨gw, vn, V, wa, wn, rfl, hw, hb⟩; have HBz := zMk (zBt HB1.out (zBt hb hw.hBl)); have H6 := zMk hw.h6; obtain ⟨A6, c6, e6⟩ := zRs hw.h6; have E6 := zMk e6; have z6 : wz.cell? ⟨gw, 6, none⟩ = some (.slice A6 s.cut.length c6) := (zKc hw.hw 6).trans (congrArg some e6); clear hw hb e6)
  clear z0 z1 z6 BM1 HB1 HS HR
  have H6C := zMk (show Kd.R Kd.bool 4 wz wa.heap.size (fun _ => True) (.slice A6 s.cut.length c6) s.cut from E6.out ▸ H6.out)
  clear H6 E6
  generalize s.cut = cut at H6C HH
  have HCL := zMk (wk_len H6C.out)
  go_loopg [2, 14] cut.length (fun kx s2 s14 wr => ∃ (v : Nat) (out : List Int) (vO : Value), s2 = vO ∧ s14 = .int .i64 (v : Int) ∧ v ≤ cut.length ∧ cut.length - v ≤ kx ∧ Aside0 (Kd.R (Kd.int .i64) 3 wr wz.heap.size (fun _ => True) vO out) ∧ Aside0 (Below wz.heap.size wz wr) ∧ Aside0 (ptCuts cut (cut.length - v) v out = some r))
  case atStart => exact ⟨0, [], .slice none 0 0, rfl, rfl, Nat.zero_le _, Nat.le_refl _, ⟨Kd.R_nil _ _ _ _ _⟩, ⟨Below.refl _ _⟩, HH⟩
  case round =>
    clear HH
    obtain ⟨v, out, vO, hs2, rfl, hv, hg3, RO, HB, HH⟩ := hrel
    obtain ⟨s2, e2⟩ : ∃ s2 : Value, s2 = vO := ⟨_, rfl⟩
    subst hs2
    subst e2
    by_cases hlt : v < cut.length
    rotate_left
    · have h := HH.out
      rw [show cut.length - v = 0 by omega, ptCuts] at h
      obtain rfl := zOi h
      have hvn : ((v : Int) < (cut.length : Int)) = False := eq_false (by omega)
      clear h HH
      go_wp2
      go_ret
      exact ⟨_, rfl, zRl RO.out (zBs HBz.out), zBt HBz.out HB.out⟩
    have h := HH.out
    clear HH
    rw [show cut.length - v = (cut.length - (v + 1)) + 1 by omega, ptCuts] at h
    have h6 := zRb H6C.out HB.out
    obtain ⟨g6, c6', e6, -, -, -⟩ := Kd.R_form h6 (by omega)
    injection e6 with ea en ec
    subst ea
    subst ec
    clear en
    have p0 : 0 ≤ (v : Int) := Int.natCast_nonneg v
    have q0 : (v : Int) < (cut.length : Int) := by omega
    obtain ⟨hx, -⟩ := Kd.R_celln false h6 (v : Int) p0 q0
    rw [zTn] at hx
    have hi64 : wrap64 ((v : Int) + 1) = ((v + 1 : Nat) : Int) := by
      have a1 := HCL.out
      have a2 : maxLen ≤ 9223372036854775807 := by decide
      unfold wrap64; omega
    replace p0 := eq_true p0
    replace q0 := eq_true q0
    clear h6
    by_cases hmet : rdOf false cut (v : Int) = true
    rotate_left
    · rw [if_neg hmet] at h
      have HH := zMk h
      have hx2 : wr.cell? ⟨g6, v, none⟩ = some (.bool false) := by rw [hx]; exact congrArg (fun z => some (Value.bool z)) (Bool.eq_false_iff.mpr hmet)
      clear hx h hmet
      go_wp2
      go_roundg (cut.length - (v + 1))
      case measure => omega
      case rel => exact ⟨v + 1, out, s2, rfl, by first | rfl | exact congrArg (Value.int .i64) (by omega) | exact congrArg (Value.int .i64) hi64 | exact congrArg (Value.int .i64) (by simp only [i64_w]; exact hi64), by omega, Nat.le_refl _, RO, HB, HH⟩
    · rw [if_pos hmet] at h
      by_cases hol : out.length < 17592186044415
      rotate_left
      · rw [if_neg hol] at h; cases h
      rw [if_pos hol] at h
      have HH := zMk h
      have HOL := zMk hol
      have hx2 : wr.cell? ⟨g6, v, none⟩ = some (.bool true) := by rw [hx]; exact congrArg (fun z => some (Value.bool z)) hmet
      clear hx h hmet hol
      go_wp2_with ((with_reducible refine gate_builtin (b := .append) (xs := #[.tmp 20, .tmp 22]) rfl ?_); at_builtin; refine Kd.R_append (Kd.int .i64) (w0 := wz) wz.heap.size rfl (.tmp 20) (.tmp 22) 33 3 (.int .i64 0) 8 rfl Try.underlying33 info3 rfl (by decide) (by omega) s2 out (v : Int) [.int .i64 (v : Int)] (fun _ => True) (fun _ => False) rfl rfl ?aP (fun _ hk => hk.elim) ?aF ?aO ?aB ?aS ?aL ?_; (case aP => exact rfl); (case aB => exact HB.out); (case aF => exact (fun _ _ => trivial)); (case aO => exact RO.out); (case aS => exact (zBs HB.out)); (case aL => have := HOL.out; omega); intro vQ w7 ho hb hg hat; have RQ := zMk ho; have HB7 := zMk hb; clear ho hb hg hat)
      go_roundg (cut.length - (v + 1))
      case measure => omega
      case rel => exact ⟨v + 1, out ++ [(v : Int)], vQ, rfl, by first | rfl | exact congrArg (Value.int .i64) (by omega) | exact congrArg (Value.int .i64) hi64 | exact congrArg (Value.int .i64) (by simp only [i64_w]; exact hi64), by omega, Nat.le_refl _, RQ, HB7, HH⟩
theorem keeps_IB {N : Nat} {E : List S43} (hR : Rt N E) : Keeps N E (IB N E) where
  skip := fun _ _ _ h hj _ _ => hj.skip h
  back := fun _ _ _ _ _ h hj hlt _ he hu ha => hj.back hR h hlt he hu ha
  push := fun _ _ _ _ _ h hj _ _ he _ hx => hj.push hR h he hx
  root := fun _ _ _ hj _ => hj.root
  merge := fun _ _ _ _ h hj _ hl => hj.merge h hl
  emit := fun _ _ _ _ h hj hn hl => hj.emit hR h hn hl
  begin := fun _ _ h hj r0 r1 hr => hj.begin hR h r0 r1 hr
theorem keeps_met {N : Nat} {E : List S43} (hR : Rt N E) {J : Wk → List Fr → Prop} (hJ : Keeps N E J) (v : Int) (v0 : 0 ≤ v) : Keeps N E (fun s F => J s F ∧ rd s.ord v ≠ 0) where
  skip := fun s p R h hj a b => ⟨hJ.skip s p R h hj.1 a b, hj.2⟩
  back := fun s p R a e h hj b c d f g => ⟨hJ.back s p R a e h hj.1 b c d f g, hj.2⟩
  push := fun s p R x e h hj b c d f g => ⟨hJ.push s p R x e h hj.1 b c d f g, by
    obtain ⟨-, x0, x1⟩ := d.inn hR.ends
    show rd (s.ord.set x.toNat (s.clock + 1)) v ≠ 0
    rw [rd_set _ _ _ _ x0 (by rw [h.lo]; exact x1) v0]
    have := h.c0
    split
    · omega
    · exact hj.2⟩
  root := fun s c h hj a => ⟨hJ.root s c h hj.1 a, hj.2⟩
  merge := fun s c p R h hj a b => ⟨hJ.merge s c p R h hj.1 a b, hj.2⟩
  emit := fun s c p R h hj a b => ⟨hJ.emit s c p R h hj.1 a b, hj.2⟩
  begin := fun s r h hj a b c => ⟨hJ.begin s r h hj.1 a b c, by
    show rd (s.ord.set r.toNat (s.clock + 1)) v ≠ 0
    rw [rd_set _ _ _ _ a (by rw [h.lo]; exact b) v0]
    have := h.c0
    split
    · omega
    · exact hj.2⟩
theorem start_IA {N : Nat} {E : List S43} : IA N E (wkStart N E.length) [] := by
  have r0 : ∀ v, rd (List.replicate N 0) v = 0 := rd_rep N
  constructor
  case lo => exact List.length_replicate
  case ll => exact List.length_replicate
  case ln => exact List.length_replicate
  case lt => exact List.length_replicate
  case lc => exact List.length_replicate
  case stk => rfl
  case edg => rfl
  case clk => show (0 : Int) + ((List.replicate N (0 : Int)).count 0 : Int) = N; rw [List.count_replicate_self]; omega
  case c0 => exact Int.le_refl _
  case ordr => intro v _ _; show 0 ≤ rd (List.replicate N 0) v ∧ rd (List.replicate N 0) v ≤ 0; rw [r0]; omega
  case ordi => intro u v _ _ _ _ _ h; exact absurd (r0 u) h
  case inF => intro f hf; cases hf
  case asc => exact List.Pairwise.nil
  case nx => intro v _ _; show 0 ≤ rd (List.replicate N 0) v ∧ rd (List.replicate N 0) v ≤ _ ∧ ∀ i : Nat, (i : Int) < rd (List.replicate N 0) v → _; rw [r0]; exact ⟨by omega, by omega, fun i hi => by omega⟩
  case fin => intro v _ _ h; exact absurd (r0 v) h
  case un => intro v _ _ _; exact r0 v
  case ent => intro j v a _ ht; exfalso; have ht : rdOf false (List.replicate E.length false) j = true := ht; rw [rdb_rep] at ht; cases ht
  case part =>
    intro j _ _
    constructor
    · intro ht; exfalso; have ht : rdOf false (List.replicate E.length false) j = true := ht; rw [rdb_rep] at ht; cases ht
    · rintro (h | ⟨b, h, _⟩) <;> cases h
  case nd => exact List.nodup_nil
  case rng => intro j h; cases h
  case tree => intro P c p R e; simp at e
  case root => intro P f e; simp at e
  case low => intro P f R e; simp at e
  case bl => intro b h; cases h
theorem start_IB {N : Nat} {E : List S43} : IB N E (wkStart N E.length) [] :=
  ⟨fun P f R e => by simp at e, fun P f R e => by simp at e, fun P f R e => by simp at e, fun P c p R e => by simp at e, fun b h => (by cases h), fun v _ _ h => (by
    exfalso; have h : rdOf false (List.replicate N false) v = true := h; rw [rdb_rep] at h; cases h), fun b h => (by cases h)⟩
structure Fin (N : Nat) (E : List S43) (s : Wk) : Prop where
  lc : s.cut.length = N
  all : ∀ j, 0 ≤ j → j < (E.length : Int) → ∃ b ∈ s.blocks, j ∈ b
  nd : s.blocks.flatten.Nodup
  rng : ∀ b ∈ s.blocks, ∀ j ∈ b, 0 ≤ j ∧ j < (E.length : Int)
  bl : ∀ b ∈ s.blocks, b ≠ [] ∧ b.Pairwise (· < ·)
  bk : ∀ b ∈ s.blocks, (∀ i ∈ b, ∀ k, Rel E i k → k ∈ b) ∧ ∀ i ∈ b, ∀ k ∈ b, RC E i k
  ct : ∀ v, 0 ≤ v → v < (N : Int) → (rdOf false s.cut v = true ↔ ∃ b ∈ s.blocks, ∃ i a k a', i ∈ b ∧ At E i v a ∧ At E k v a' ∧ k ∉ b)
  hs : s.blocks.Pairwise fun a b => rd a 0 < rd b 0
  len : s.blocks.length ≤ 4194304
theorem heads_nd : ∀ (bs : List (List Int)), bs.flatten.Nodup → (∀ b ∈ bs, b ≠ []) → (bs.map fun b => rd b 0).Nodup
  | [], _, _ => List.nodup_nil
  | b :: bs, h, hb => by
    rw [List.flatten_cons, List.nodup_append] at h
    rw [zMc, List.nodup_cons]
    have head : ∀ c : List Int, c ≠ [] → rd c 0 ∈ c := fun c hc => by
      cases c with
      | nil => exact absurd rfl hc
      | cons x c => exact List.mem_cons_self ..
    refine ⟨fun hm => ?_, heads_nd bs h.2.1 (fun c hc => hb c (List.mem_cons_of_mem _ hc))⟩
    obtain ⟨c, hc, e⟩ := List.mem_map.1 hm
    refine h.2.2 (rd b 0) (head b (hb b (List.mem_cons_self ..))) (rd b 0) ?_ rfl
    rw [← e]
    exact List.mem_flatten.2 ⟨c, hc, head c (hb c (List.mem_cons_of_mem _ hc))⟩
theorem head_mem {c : List Int} (hc : c ≠ []) : rd c 0 ∈ c := by
  cases c with
  | nil => exact absurd rfl hc
  | cons x c => exact List.mem_cons_self ..
theorem walked_ev {N : Nat} {E : List S43} (hR : Rt N E) : ∃ s, Ev (fun k => wkWalked k N E) s ∧ Fin N E s := by
  obtain ⟨s, h1, h2, h3, h4⟩ := all_ev hR (keeps_IB hR) (fun v v0 => keeps_met hR (keeps_IB hR) v v0) N 0 (wkStart N E.length) rfl (Nat.zero_le _) start_IA start_IB (fun u u0 u1 => by omega)
  have hed : s.edges = [] := by rw [h2.edg]; rfl
  have hnd : s.blocks.flatten.Nodup := by have := h2.nd; rwa [hed] at this
  have hrng : ∀ b ∈ s.blocks, ∀ j ∈ b, 0 ≤ j ∧ j < (E.length : Int) := fun b hb j hj => h2.rng j (List.mem_append_right _ (List.mem_flatten.2 ⟨b, hb, hj⟩))
  have hall : ∀ j, 0 ≤ j → j < (E.length : Int) → ∃ b ∈ s.blocks, j ∈ b := fun j j0 j1 => by
    obtain ⟨i, rfl⟩ := Int.eq_ofNat_of_zero_le j0
    have hi : i < E.length := by omega
    have hA : At E (i : Int) E[i].f0 E[i].f1 := ⟨i, hi, rfl, .inl ⟨rfl, rfl⟩⟩
    obtain ⟨⟨v0, v1⟩, -⟩ := hA.inn hR.ends
    have ht := h2.done hA v0 v1 (h2.fin _ v0 v1 (h4 _ v0 v1) (fun f hf => by cases hf))
    rcases (h2.part _ j0 j1).1 ht with h5 | h5
    · rw [hed] at h5; cases h5
    · exact h5
  have hlen := (h2.elen hR).2
  have hE1 := hR.E1
  have hheads := heads_nd s.blocks hnd (fun b hb => (h2.bl b hb).1)
  have hperm : (wkSortB s.blocks).Perm s.blocks := isortBy_perm _ _
  have hsorted : (wkSortB s.blocks).Pairwise fun a b => rd a 0 ≤ rd b 0 := isortBy_sorted _ _
  have hm : ∀ b, b ∈ wkSortB s.blocks ↔ b ∈ s.blocks := fun b => hperm.mem_iff
  have hso : wkSorts s = some { s with blocks := wkSortB s.blocks } := by
    have h9 : (s.blocks.all fun b => decide (b ≠ [] ∧ 0 ≤ rd b 0 ∧ rd b 0 < 4611686018427387904)) = true := by
      refine List.all_eq_true.2 fun b hb => ?_
      have h5 := hrng b hb _ (head_mem (h2.bl b hb).1)
      exact decide_eq_true ⟨(h2.bl b hb).1, h5.1, by omega⟩
    unfold wkSorts
    rw [if_pos ⟨h9, hheads, by omega⟩]
  refine ⟨{ s with blocks := wkSortB s.blocks }, ?_, ?_⟩
  · have h5 := Ev.bind (Arcs_ev N E hR.ends hR.ne (by omega) (by have := hR.N1; omega)) (f := fun k near => (wkAll (wkRun (wkLeave wkOff (wkMore near) near) near k) N 0 (wkStart N E.length)).bind wkSorts)
      (Ev.bind h1 (f := fun _ t => wkSorts t) (Ev.congr (fun _ => hso) (Ev.now _)))
    refine Ev.congr (fun k => ?_) h5
    unfold wkWalked
    rw [if_pos ⟨by omega, by have := hR.N1; omega, by omega⟩, zTn]
  · refine ⟨h2.lc, fun j j0 j1 => ?_, ?_, fun b hb => hrng b ((hm b).1 hb), fun b hb => h2.bl b ((hm b).1 hb), fun b hb => h3.bk b ((hm b).1 hb), fun v v0 v1 => ?_, ?_, ?_⟩
    · obtain ⟨b, hb, hj⟩ := hall j j0 j1
      exact ⟨b, (hm b).2 hb, hj⟩
    · exact (List.Perm.flatten hperm).nodup_iff.2 hnd
    · constructor
      · intro hv
        obtain ⟨b, hb, h5⟩ := h3.c1 v v0 v1 hv
        exact ⟨b, (hm b).2 hb, h5⟩
      · rintro ⟨b, hb, i, a, k, a', e1, e2, e3, e4⟩
        exact h3.c2 b ((hm b).1 hb) v i a k a' e1 e2 e3 e4
    · have h5 : ((wkSortB s.blocks).map fun b => rd b 0).Nodup := (hperm.map _).nodup_iff.2 hheads
      rw [List.nodup_iff_pairwise_ne, List.pairwise_map] at h5
      exact (hsorted.and h5).imp (fun {a b} ⟨e1, e2⟩ => by omega)
    · show (wkSortB s.blocks).length ≤ _
      rw [hperm.length_eq]; exact hlen
theorem progBlocks_ev {N : Nat} {E : List S43} (hR : Rt N E) (hr : rightI N E = 0) : ∃ s, Fin N E s ∧ Ev (fun k => parts_Blocks.f k N E) s.blocks := by
  obtain ⟨s, h1, h2⟩ := walked_ev hR
  have h3 := Right_ev (N : Int) E
  rw [hr] at h3
  exact ⟨s, h2, Ev.bind h3 (f := fun k q => if q = 0 then (wkWalked k (N : Int) E).bind fun s => some s.blocks else some []) (Ev.congr (fun k => by rw [if_pos rfl]) (Ev.bind h1 (f := fun _ s => some s.blocks) (Ev.now _)))⟩
theorem progBlocks_bad {n : Int} {E : List S43} (hr : rightI n E ≠ 0) : Ev (fun k => parts_Blocks.f k n E) [] :=
  Ev.bind (Right_ev n E) (f := fun k q => if q = 0 then (wkWalked k n E).bind fun s => some s.blocks else some []) (Ev.congr (fun k => by rw [if_neg hr]) (Ev.now _))

mutual
def filigreeref06_Labels.l0 : Nat → List Int → Int → Int → List (S43) → Option (List Int)
  | 0, _, _, _, _ => none
  | k + 1, x3, x4, x376000, x376001 => if x4 < x376000 then (if 0 ≤ x4 then (if x4 < (x3.length : Int) then (filigreeref06_Labels.l0 k (x3.set (x4 : Int).toNat x4) (wrap64 (x4 + 1)) x376000 x376001) else (none)) else (none)) else (filigreeref06_Labels.l1 k x3 0 x376000 x376001)
def filigreeref06_Labels.l1 : Nat → List Int → Int → Int → List (S43) → Option (List Int)
  | 0, _, _, _, _ => none
  | k + 1, x3, x5, x376000, x376001 => if x5 < x376000 then (filigreeref06_Labels.l2 k x3 x5 0 x376000 x376001) else (some x3)
def filigreeref06_Labels.l2 : Nat → List Int → Int → Int → Int → List (S43) → Option (List Int)
  | 0, _, _, _, _, _ => none
  | k + 1, x3, x5, x6, x376000, x376001 => if x6 < (x376001.length : Int) then (if 0 ≤ x6 then (if 0 ≤ ((rd_T43 x376001 x6).f0) then (if ((rd_T43 x376001 x6).f0) < (x3.length : Int) then (if 0 ≤ ((rd_T43 x376001 x6).f1) then (if ((rd_T43 x376001 x6).f1) < (x3.length : Int) then (filigreeref06_Labels.l2 k ((x3.set (((rd_T43 x376001 x6).f0) : Int).toNat (mn (rd x3 ((rd_T43 x376001 x6).f0)) (rd x3 ((rd_T43 x376001 x6).f1)))).set (((rd_T43 x376001 x6).f1) : Int).toNat (mn (rd x3 ((rd_T43 x376001 x6).f0)) (rd x3 ((rd_T43 x376001 x6).f1)))) x5 (wrap64 (x6 + 1)) x376000 x376001) else (none)) else (none)) else (none)) else (none)) else (none)) else (filigreeref06_Labels.l1 k x3 (wrap64 (x5 + 1)) x376000 x376001)
end
def filigreeref06_Labels.f (k : Nat) (a0_0 : Int) (l0_1 : List (S43)) : Option (List Int) := if 0 ≤ a0_0 then (if (a0_0 : Int).toNat ≤ 35184372088832 then (filigreeref06_Labels.l0 k (List.replicate (a0_0 : Int).toNat 0) 0 a0_0 l0_1) else (none)) else (none)
theorem filigreeref06_Labels.calls (k : Nat) (a0_0 : Int) (A0_1 : Option Addr) (c0_1 : Nat) (l0_1 : List (S43)) (r : List Int) (w : World) (hr0_1 : Kd.C k43 w A0_1 l0_1.length l0_1) (hc0_1 : l0_1.length ≤ c0_1) (h : filigreeref06_Labels.f k a0_0 l0_1 = some r) :
    Calls Try.prog 30 #[.agg #[.int .i64 a0_0, .slice A0_1 l0_1.length c0_1]] w fun e w' => ∃ v0_ : Value, e = .returned (v0_) ∧ Kd.R (Kd.int .i64) 3 w' w.heap.size (fun _ => True) v0_ r ∧ Below w.heap.size w w' := by
  have hu24 := Try.underlying24
  have HR0_1 := zMk hr0_1
  have HC0_1 := zMk hc0_1
  clear hr0_1 hc0_1
  have HB := zMk (Below.refl w.heap.size w)
  have H : (if 0 ≤ a0_0 then (if (a0_0 : Int).toNat ≤ 35184372088832 then (filigreeref06_Labels.l0 k (List.replicate (a0_0 : Int).toNat 0) 0 a0_0 l0_1) else (none)) else (none)) = some r := h
  clear h
  by_cases c2 : 0 ≤ a0_0
  · rw [if_pos c2] at H
    have c2b0 := eq_true c2
    have c2b1 : decide (0 ≤ a0_0) = true := decide_eq_true c2
    clear c2
    by_cases c3 : (a0_0 : Int).toNat ≤ 35184372088832
    rotate_left
    · rw [if_neg c3] at H; exact absurd H (by simp)
    rw [if_pos c3] at H
    have c3b0 := eq_true c3
    have c3b1 : decide ((a0_0 : Int).toNat ≤ 35184372088832) = true := decide_eq_true c3
    clear c3
    obtain ⟨y376, hy376⟩ : ∃ y_ : List Int, y_ = (List.replicate (a0_0 : Int).toNat 0) := ⟨_, rfl⟩
    replace H : (filigreeref06_Labels.l0 k y376 0 a0_0 l0_1) = some r := by first | (rw [hy376]; with_reducible exact H) | (have H2_ := bsm H; first | (rw [hy376]; with_reducible exact H2_) | with_reducible exact H2_) | with_reducible exact H | (rw [hy376]; exact H) | exact H
    have Ny376 := zMk hy376
    clear hy376
    have H' := zMk H
    clear H
    go_enter Try.func30, Try.ntmps30
    go_wp2_with (first | ((with_reducible refine gate_dst (N := 1) rfl ?_); refine box_event ?hg (N := 1) ?hd (cs := #[.int .i64 a0_0, .slice A0_1 l0_1.length c0_1]) (t := 24) ?hr ?_; (case hd => rfl); (case hg => rfl); (case hr => first | (go_simp; done)|(go_simp; rfl)|(go_simp; rw [show ∀ x : Int, IntKind.u32.wrap (IntKind.u8.wrap x) = x % 256 from fun x => (by show (x % 256) % 4294967296 = x % 256; omega)])); intro gb375 hg w4 hbox hb; have BK375 := zMk (hbox); have GW375 := zMk ((by rw [hg]; exact (zBs (by exact uT HB.out)) : w.heap.size ≤ gb375)); have GE375 := zMk ((by rw [hg]; exact (zBs (by exact uT HB.out)) : w.heap.size ≤ gb375)); have IGE375 := ownGe GE375.out; replace HB := zMk (zBt (by exact uT HB.out) hb); clear hb hbox hg; have hcz5_0 : w4.cell? ⟨gb375, 0, none⟩ = some (.int .i64 a0_0) := (zKc BK375.out 0).trans rfl; have hcz5_1 : w4.cell? ⟨gb375, 1, none⟩ = some (.slice A0_1 l0_1.length c0_1) := (zKc BK375.out 1).trans rfl; have hfz5_0 := zKf BK375.out 0; have hfz5_1 := zKf BK375.out 1)|((with_reducible refine gate_dst (N := 10) rfl ?_); refine Kd.R_make (Kd.int .i64) _ 3 rfl (N := 10) rfl 33 _ _ rfl a0_0 rfl rfl Try.underlying33 (.int .i64 0) 8 info3 rfl (by decide) (by omega) 0 (ok := fun _ => True) (okp := fun _ => True) rfl (fun _ hk => hk) trivial (of_decide_eq_true (by first | (with_reducible assumption)|  assumption)) (Nat.le_trans (Nat.mul_le_mul_right _ (of_decide_eq_true (by first | (with_reducible assumption)|  assumption) : a0_0.toNat ≤ 35184372088832)) (by omega)) (Below.refl _ _) (Nat.le_refl _) ?_; intro v377 w6 ho7 hb hg_ hnew_; clear hg_ hnew_; (first |  rw [← Ny376.out] at ho7|  (simp only [Int.reduceToNat] at ho7; rw [← Ny376.out] at ho7)); have HO378 := zMk (zRl ho7 (zBs (by exact uT HB.out))); replace BK375 := zMk (zKb (g := gb375) (o := .cells #[.int .i64 a0_0, .slice A0_1 l0_1.length c0_1] 24 (0, 0)) (by (with_reducible repeat (first |  refine zKn ?_ _|  refine zKd ?_|  refine zKa ?_ _)); exact BK375.out) hb); replace HB := zMk (zBt (by exact uT HB.out) hb); clear hb ho7))
    repeat (go_quiet (first | ((with_reducible refine gate_dst (N := 1) rfl ?_); refine box_event ?hg (N := 1) ?hd (cs := #[.int .i64 a0_0, .slice A0_1 l0_1.length c0_1]) (t := 24) ?hr ?_; (case hd => rfl); (case hg => rfl); (case hr => first | (go_simp; done)|(go_simp; rfl)|(go_simp; rw [show ∀ x : Int, IntKind.u32.wrap (IntKind.u8.wrap x) = x % 256 from fun x => (by show (x % 256) % 4294967296 = x % 256; omega)])); intro gb375 hg w4 hbox hb; have BK375 := zMk (hbox); have GW375 := zMk ((by rw [hg]; exact (zBs (by exact uT HB.out)) : w.heap.size ≤ gb375)); have GE375 := zMk ((by rw [hg]; exact (zBs (by exact uT HB.out)) : w.heap.size ≤ gb375)); have IGE375 := ownGe GE375.out; replace HB := zMk (zBt (by exact uT HB.out) hb); clear hb hbox hg; have hcz5_0 : w4.cell? ⟨gb375, 0, none⟩ = some (.int .i64 a0_0) := (zKc BK375.out 0).trans rfl; have hcz5_1 : w4.cell? ⟨gb375, 1, none⟩ = some (.slice A0_1 l0_1.length c0_1) := (zKc BK375.out 1).trans rfl; have hfz5_0 := zKf BK375.out 0; have hfz5_1 := zKf BK375.out 1)|((with_reducible refine gate_dst (N := 10) rfl ?_); refine Kd.R_make (Kd.int .i64) _ 3 rfl (N := 10) rfl 33 _ _ rfl a0_0 rfl rfl Try.underlying33 (.int .i64 0) 8 info3 rfl (by decide) (by omega) 0 (ok := fun _ => True) (okp := fun _ => True) rfl (fun _ hk => hk) trivial (of_decide_eq_true (by first | (with_reducible assumption)|  assumption)) (Nat.le_trans (Nat.mul_le_mul_right _ (of_decide_eq_true (by first | (with_reducible assumption)|  assumption) : a0_0.toNat ≤ 35184372088832)) (by omega)) (Below.refl _ _) (Nat.le_refl _) ?_; intro v377 w6 ho7 hb hg_ hnew_; clear hg_ hnew_; (first |  rw [← Ny376.out] at ho7|  (simp only [Int.reduceToNat] at ho7; rw [← Ny376.out] at ho7)); have HO378 := zMk (zRl ho7 (zBs (by exact uT HB.out))); replace BK375 := zMk (zKb (g := gb375) (o := .cells #[.int .i64 a0_0, .slice A0_1 l0_1.length c0_1] 24 (0, 0)) (by (with_reducible repeat (first |  refine zKn ?_ _|  refine zKd ?_|  refine zKa ?_ _)); exact BK375.out) hb); replace HB := zMk (zBt (by exact uT HB.out) hb); clear hb ho7)); try go_wp2_with (first | ((with_reducible refine gate_dst (N := 1) rfl ?_); refine box_event ?hg (N := 1) ?hd (cs := #[.int .i64 a0_0, .slice A0_1 l0_1.length c0_1]) (t := 24) ?hr ?_; (case hd => rfl); (case hg => rfl); (case hr => first | (go_simp; done)|(go_simp; rfl)|(go_simp; rw [show ∀ x : Int, IntKind.u32.wrap (IntKind.u8.wrap x) = x % 256 from fun x => (by show (x % 256) % 4294967296 = x % 256; omega)])); intro gb375 hg w4 hbox hb; have BK375 := zMk (hbox); have GW375 := zMk ((by rw [hg]; exact (zBs (by exact uT HB.out)) : w.heap.size ≤ gb375)); have GE375 := zMk ((by rw [hg]; exact (zBs (by exact uT HB.out)) : w.heap.size ≤ gb375)); have IGE375 := ownGe GE375.out; replace HB := zMk (zBt (by exact uT HB.out) hb); clear hb hbox hg; have hcz5_0 : w4.cell? ⟨gb375, 0, none⟩ = some (.int .i64 a0_0) := (zKc BK375.out 0).trans rfl; have hcz5_1 : w4.cell? ⟨gb375, 1, none⟩ = some (.slice A0_1 l0_1.length c0_1) := (zKc BK375.out 1).trans rfl; have hfz5_0 := zKf BK375.out 0; have hfz5_1 := zKf BK375.out 1)|((with_reducible refine gate_dst (N := 10) rfl ?_); refine Kd.R_make (Kd.int .i64) _ 3 rfl (N := 10) rfl 33 _ _ rfl a0_0 rfl rfl Try.underlying33 (.int .i64 0) 8 info3 rfl (by decide) (by omega) 0 (ok := fun _ => True) (okp := fun _ => True) rfl (fun _ hk => hk) trivial (of_decide_eq_true (by first | (with_reducible assumption)|  assumption)) (Nat.le_trans (Nat.mul_le_mul_right _ (of_decide_eq_true (by first | (with_reducible assumption)|  assumption) : a0_0.toNat ≤ 35184372088832)) (by omega)) (Below.refl _ _) (Nat.le_refl _) ?_; intro v377 w6 ho7 hb hg_ hnew_; clear hg_ hnew_; (first |  rw [← Ny376.out] at ho7|  (simp only [Int.reduceToNat] at ho7; rw [← Ny376.out] at ho7)); have HO378 := zMk (zRl ho7 (zBs (by exact uT HB.out))); replace BK375 := zMk (zKb (g := gb375) (o := .cells #[.int .i64 a0_0, .slice A0_1 l0_1.length c0_1] 24 (0, 0)) (by (with_reducible repeat (first |  refine zKn ?_ _|  refine zKd ?_|  refine zKa ?_ _)); exact BK375.out) hb); replace HB := zMk (zBt (by exact uT HB.out) hb); clear hb ho7)))
    go_loopg [4] k (fun kq v4 w' => ∃ (x3_1 : List Int) (x4_1 : Int), v4 = .int .i64 x4_1 ∧ Aside0 (filigreeref06_Labels.l0 kq x3_1 x4_1 a0_0 l0_1 = some r) ∧ Aside0 (kq ≤ k) ∧ Aside0 (Kd.R (Kd.int .i64) 3 w' w.heap.size (fun _ => True) v377 x3_1) ∧ Aside0 (w'.heap[gb375]? = some (.cells #[.int .i64 a0_0, (.slice A0_1 l0_1.length c0_1)] 24 (0, 0))) ∧ Aside0 (Below w.heap.size w w'))
    case atStart => exact ⟨(y376), (0), (by first | rfl | (simp; done) | (simp [*]; done)), H', ⟨Nat.le_refl _⟩, ⟨by exact uR HO378.out⟩, ⟨by (with_reducible repeat (first | refine zKn ?_ _ | refine zKd ?_ | refine zKa ?_ _)); exact BK375.out⟩, ⟨by exact uT HB.out⟩⟩
    clear H'
    obtain ⟨x3_1, x4_1, rfl, HA, HK1, HO_3, BK375, HB⟩ := hrel
    rcases gk with _ | k1
    · exact absurd HA.out (by simp [filigreeref06_Labels.l0])
    have H := HA.out
    clear HA
    simp only [filigreeref06_Labels.l0] at H
    by_cases c8 : x4_1 < a0_0
    · rw [if_pos c8] at H
      have c8b0 : decide (x4_1 < a0_0) = true := decide_eq_true c8
      clear c8
      by_cases c9 : 0 ≤ x4_1
      rotate_left
      · rw [if_neg c9] at H; exact absurd H (by simp)
      rw [if_pos c9] at H
      have c9b0 : decide (0 ≤ x4_1) = true := decide_eq_true c9
      clear c9
      by_cases c10 : x4_1 < (x3_1.length : Int)
      rotate_left
      · rw [if_neg c10] at H; exact absurd H (by simp)
      rw [if_pos c10] at H
      have c10b0 : decide (x4_1 < (x3_1.length : Int)) = true := decide_eq_true c10
      clear c10
      obtain ⟨y379, hy379⟩ : ∃ y_ : List Int, y_ = (x3_1.set (x4_1 : Int).toNat x4_1) := ⟨_, rfl⟩
      replace H : (filigreeref06_Labels.l0 k1 y379 (wrap64 (x4_1 + 1)) a0_0 l0_1) = some r := by first | (rw [hy379]; with_reducible exact H) | (have H2_ := bsm H; first | (rw [hy379]; with_reducible exact H2_) | with_reducible exact H2_) | with_reducible exact H | (rw [hy379]; exact H) | exact H
      have Ny379 := zMk hy379
      clear hy379
      have H' := zMk H
      clear H
      have hcz12_0 : wr.cell? ⟨gb375, 0, none⟩ = some (.int .i64 a0_0) := (zKc BK375.out 0).trans rfl
      have hcz12_1 : wr.cell? ⟨gb375, 1, none⟩ = some (.slice A0_1 l0_1.length c0_1) := (zKc BK375.out 1).trans rfl
      have hfz12_0 := zKf BK375.out 0
      have hfz12_1 := zKf BK375.out 1
      have p11 : 0 ≤ (x4_1 : Int) := of_decide_eq_true (by assumption)
      have q11 : (x4_1 : Int) < ((x3_1.length : Int) : Int) := of_decide_eq_true (by assumption)
      obtain ⟨go11, co11, eo11, gb11, gl11, cl11, HG11⟩ := Kd.R_form HO_3.out (by omega)
      (first |  cases eo11|  (injection eo11 with ea_ en_ ec_; (first |  subst ea_|  (injection ea_ with ea_; subst ea_)); subst ec_; clear en_))
      have GB11 := zMk gb11
      have IGB11 := ownGe GB11.out
      have GG11 := zMk HG11
      clear gb11 gl11 HG11
      obtain ⟨hx11_0, hf11_0⟩ := Kd.R_celln 0 HO_3.out (x4_1 : Int) p11 q11
      replace p11 := eq_true p11
      replace q11 := eq_true q11
      have HP13 := Kd.R_putg HO_3.out (x4_1 : Int) x4_1
      go_wp2_with (first | ((with_reducible refine gate_store (t := 3) (p := 20) rfl ?_); (try (rw [drewN_self wr]; generalize hq_ : World.drewN wr _ = wr; replace HO_3 := zMk (Kd.R_at hq_ HO_3.out); replace BK375 := zMk (blk_at hq_ BK375.out); replace HB := zMk (below_at hq_ HB.out); clear hq_; (try (obtain ⟨hy13_, hz13_⟩ := Kd.R_celln 0 HO_3.out (x4_1 : Int) (of_decide_eq_true (by assumption)) (of_decide_eq_true (by assumption)))); (try (have HP13 := Kd.R_putg HO_3.out (x4_1 : Int) x4_1)))); refine store_event (t := 3) (p := 20) (v := ?vo_w14) (w1 := (wr.setCell ⟨go11, (x4_1 : Int).toNat, none⟩ (.int .i64 x4_1))) ?hg ?ho ?hn ?hr ?_; (case ho => rfl); (case hg => rfl); (case hn => rfl); (case hr => first | (go_simp; done)|(go_simp; rfl)|(go_simp; rw [show ∀ x : Int, IntKind.u32.wrap (IntKind.u8.wrap x) = x % 256 from fun x => (by show (x % 256) % 4294967296 = x % 256; omega)])); intro w14 hw; have hg : wr.grownBy w14 (some go11) := (by rw [hw]; exact HP13.2); have hp_ : Kd.R (Kd.int .i64) 3 w14 w.heap.size (fun _ => True) (.slice (some ⟨go11, 0, none⟩) x3_1.length co11) y379 := (by rw [hw, Ny379.out]; exact HP13.1); clear HP13; replace BK375 := zMk (blk_grown (g := gb375) (o := .cells #[.int .i64 a0_0, .slice A0_1 l0_1.length c0_1] 24 (0, 0)) (by (with_reducible repeat (first |  refine zKn ?_ _|  refine zKd ?_|  refine zKa ?_ _)); exact BK375.out) hg (Kd.R_ne HO_3.out BK375.out (by decide))); replace HO_3 := zMk (hp_); replace HB := zMk ((by rw [hw]; exact below_set (HB.out) GB11.out : Below w.heap.size w w14)); clear hg hw hp_))
      repeat (go_quiet (first | ((with_reducible refine gate_store (t := 3) (p := 20) rfl ?_); (try (rw [drewN_self wr]; generalize hq_ : World.drewN wr _ = wr; replace HO_3 := zMk (Kd.R_at hq_ HO_3.out); replace BK375 := zMk (blk_at hq_ BK375.out); replace HB := zMk (below_at hq_ HB.out); clear hq_; (try (obtain ⟨hy13_, hz13_⟩ := Kd.R_celln 0 HO_3.out (x4_1 : Int) (of_decide_eq_true (by assumption)) (of_decide_eq_true (by assumption)))); (try (have HP13 := Kd.R_putg HO_3.out (x4_1 : Int) x4_1)))); refine store_event (t := 3) (p := 20) (v := ?vo_w14) (w1 := (wr.setCell ⟨go11, (x4_1 : Int).toNat, none⟩ (.int .i64 x4_1))) ?hg ?ho ?hn ?hr ?_; (case ho => rfl); (case hg => rfl); (case hn => rfl); (case hr => first | (go_simp; done)|(go_simp; rfl)|(go_simp; rw [show ∀ x : Int, IntKind.u32.wrap (IntKind.u8.wrap x) = x % 256 from fun x => (by show (x % 256) % 4294967296 = x % 256; omega)])); intro w14 hw; have hg : wr.grownBy w14 (some go11) := (by rw [hw]; exact HP13.2); have hp_ : Kd.R (Kd.int .i64) 3 w14 w.heap.size (fun _ => True) (.slice (some ⟨go11, 0, none⟩) x3_1.length co11) y379 := (by rw [hw, Ny379.out]; exact HP13.1); clear HP13; replace BK375 := zMk (blk_grown (g := gb375) (o := .cells #[.int .i64 a0_0, .slice A0_1 l0_1.length c0_1] 24 (0, 0)) (by (with_reducible repeat (first |  refine zKn ?_ _|  refine zKd ?_|  refine zKa ?_ _)); exact BK375.out) hg (Kd.R_ne HO_3.out BK375.out (by decide))); replace HO_3 := zMk (hp_); replace HB := zMk ((by rw [hw]; exact below_set (HB.out) GB11.out : Below w.heap.size w w14)); clear hg hw hp_)); try go_wp2_with (first | ((with_reducible refine gate_store (t := 3) (p := 20) rfl ?_); (try (rw [drewN_self wr]; generalize hq_ : World.drewN wr _ = wr; replace HO_3 := zMk (Kd.R_at hq_ HO_3.out); replace BK375 := zMk (blk_at hq_ BK375.out); replace HB := zMk (below_at hq_ HB.out); clear hq_; (try (obtain ⟨hy13_, hz13_⟩ := Kd.R_celln 0 HO_3.out (x4_1 : Int) (of_decide_eq_true (by assumption)) (of_decide_eq_true (by assumption)))); (try (have HP13 := Kd.R_putg HO_3.out (x4_1 : Int) x4_1)))); refine store_event (t := 3) (p := 20) (v := ?vo_w14) (w1 := (wr.setCell ⟨go11, (x4_1 : Int).toNat, none⟩ (.int .i64 x4_1))) ?hg ?ho ?hn ?hr ?_; (case ho => rfl); (case hg => rfl); (case hn => rfl); (case hr => first | (go_simp; done)|(go_simp; rfl)|(go_simp; rw [show ∀ x : Int, IntKind.u32.wrap (IntKind.u8.wrap x) = x % 256 from fun x => (by show (x % 256) % 4294967296 = x % 256; omega)])); intro w14 hw; have hg : wr.grownBy w14 (some go11) := (by rw [hw]; exact HP13.2); have hp_ : Kd.R (Kd.int .i64) 3 w14 w.heap.size (fun _ => True) (.slice (some ⟨go11, 0, none⟩) x3_1.length co11) y379 := (by rw [hw, Ny379.out]; exact HP13.1); clear HP13; replace BK375 := zMk (blk_grown (g := gb375) (o := .cells #[.int .i64 a0_0, .slice A0_1 l0_1.length c0_1] 24 (0, 0)) (by (with_reducible repeat (first |  refine zKn ?_ _|  refine zKd ?_|  refine zKa ?_ _)); exact BK375.out) hg (Kd.R_ne HO_3.out BK375.out (by decide))); replace HO_3 := zMk (hp_); replace HB := zMk ((by rw [hw]; exact below_set (HB.out) GB11.out : Below w.heap.size w w14)); clear hg hw hp_)))
      go_roundg k1
      case measure => have := HK1.out; omega
      case rel => exact ⟨(y379), (wrap64 (x4_1 + 1)), (by first | rfl | (simp; done) | (simp [*]; done)), H', ⟨by have := HK1.out; omega⟩, ⟨by exact uR HO_3.out⟩, ⟨by (with_reducible repeat (first | refine zKn ?_ _ | refine zKd ?_ | refine zKa ?_ _)); exact BK375.out⟩, ⟨by exact uT HB.out⟩⟩
    · rw [if_neg c8] at H
      have c8b0 : decide (x4_1 < a0_0) = false := decide_eq_false c8
      clear c8
      have H' := zMk H
      clear H
      have hcz15_0 : wr.cell? ⟨gb375, 0, none⟩ = some (.int .i64 a0_0) := (zKc BK375.out 0).trans rfl
      have hcz15_1 : wr.cell? ⟨gb375, 1, none⟩ = some (.slice A0_1 l0_1.length c0_1) := (zKc BK375.out 1).trans rfl
      have hfz15_0 := zKf BK375.out 0
      have hfz15_1 := zKf BK375.out 1
      go_wp2
      repeat (go_quiet (fail); try go_wp2)
      go_loopg [5] k1 (fun kq v5 w' => ∃ (x3_2 : List Int) (x5_2 : Int), v5 = .int .i64 x5_2 ∧ Aside0 (filigreeref06_Labels.l1 kq x3_2 x5_2 a0_0 l0_1 = some r) ∧ Aside0 (kq ≤ k1) ∧ Aside0 (Kd.R (Kd.int .i64) 3 w' w.heap.size (fun _ => True) v377 x3_2) ∧ Aside0 (w'.heap[gb375]? = some (.cells #[.int .i64 a0_0, (.slice A0_1 l0_1.length c0_1)] 24 (0, 0))) ∧ Aside0 (Below w.heap.size w w'))
      case atStart => exact ⟨(x3_1), (0), (by first | rfl | (simp; done) | (simp [*]; done)), H', ⟨Nat.le_refl _⟩, ⟨by exact uR HO_3.out⟩, ⟨by (with_reducible repeat (first | refine zKn ?_ _ | refine zKd ?_ | refine zKa ?_ _)); exact BK375.out⟩, ⟨by exact uT HB.out⟩⟩
      clear H'
      obtain ⟨x3_2, x5_2, rfl, HA, HK2, HO_3, BK375, HB⟩ := hrel
      rcases gk with _ | k2
      · exact absurd HA.out (by simp [filigreeref06_Labels.l1])
      have H := HA.out
      clear HA
      simp only [filigreeref06_Labels.l1] at H
      by_cases c16 : x5_2 < a0_0
      · rw [if_pos c16] at H
        have c16b0 : decide (x5_2 < a0_0) = true := decide_eq_true c16
        clear c16
        have H' := zMk H
        clear H
        have hcz17_0 : wr.cell? ⟨gb375, 0, none⟩ = some (.int .i64 a0_0) := (zKc BK375.out 0).trans rfl
        have hcz17_1 : wr.cell? ⟨gb375, 1, none⟩ = some (.slice A0_1 l0_1.length c0_1) := (zKc BK375.out 1).trans rfl
        have hfz17_0 := zKf BK375.out 0
        have hfz17_1 := zKf BK375.out 1
        go_wp2
        repeat (go_quiet (fail); try go_wp2)
        go_loopg [6] k2 (fun kq v6 w' => ∃ (x3_3 : List Int) (x6_3 : Int), v6 = .int .i64 x6_3 ∧ Aside0 (filigreeref06_Labels.l2 kq x3_3 x5_2 x6_3 a0_0 l0_1 = some r) ∧ Aside0 (kq ≤ k2) ∧ Aside0 (Kd.R (Kd.int .i64) 3 w' w.heap.size (fun _ => True) v377 x3_3) ∧ Aside0 (w'.heap[gb375]? = some (.cells #[.int .i64 a0_0, (.slice A0_1 l0_1.length c0_1)] 24 (0, 0))) ∧ Aside0 (Below w.heap.size w w'))
        case atStart => exact ⟨(x3_2), (0), (by first | rfl | (simp; done) | (simp [*]; done)), H', ⟨Nat.le_refl _⟩, ⟨by exact uR HO_3.out⟩, ⟨by (with_reducible repeat (first | refine zKn ?_ _ | refine zKd ?_ | refine zKa ?_ _)); exact BK375.out⟩, ⟨by exact uT HB.out⟩⟩
        clear H'
        obtain ⟨x3_3, x6_3, rfl, HA, HK3, HO_3, BK375, HB⟩ := hrel
        rcases gk with _ | k3
        · exact absurd HA.out (by simp [filigreeref06_Labels.l2])
        have H := HA.out
        clear HA
        simp only [filigreeref06_Labels.l2] at H
        by_cases c18 : x6_3 < (l0_1.length : Int)
        · rw [if_pos c18] at H
          have c18b0 : decide (x6_3 < (l0_1.length : Int)) = true := decide_eq_true c18
          clear c18
          by_cases c19 : 0 ≤ x6_3
          rotate_left
          · rw [if_neg c19] at H; exact absurd H (by simp)
          rw [if_pos c19] at H
          have c19b0 : decide (0 ≤ x6_3) = true := decide_eq_true c19
          clear c19
          by_cases c20 : 0 ≤ ((rd_T43 l0_1 x6_3).f0)
          rotate_left
          · rw [if_neg c20] at H; exact absurd H (by simp)
          rw [if_pos c20] at H
          have c20b0 : decide (0 ≤ ((rd_T43 l0_1 x6_3).f0)) = true := decide_eq_true c20
          clear c20
          by_cases c21 : ((rd_T43 l0_1 x6_3).f0) < (x3_3.length : Int)
          rotate_left
          · rw [if_neg c21] at H; exact absurd H (by simp)
          rw [if_pos c21] at H
          have c21b0 : decide (((rd_T43 l0_1 x6_3).f0) < (x3_3.length : Int)) = true := decide_eq_true c21
          clear c21
          by_cases c22 : 0 ≤ ((rd_T43 l0_1 x6_3).f1)
          rotate_left
          · rw [if_neg c22] at H; exact absurd H (by simp)
          rw [if_pos c22] at H
          have c22b0 : decide (0 ≤ ((rd_T43 l0_1 x6_3).f1)) = true := decide_eq_true c22
          clear c22
          by_cases c23 : ((rd_T43 l0_1 x6_3).f1) < (x3_3.length : Int)
          rotate_left
          · rw [if_neg c23] at H; exact absurd H (by simp)
          rw [if_pos c23] at H
          have c23b0 : decide (((rd_T43 l0_1 x6_3).f1) < (x3_3.length : Int)) = true := decide_eq_true c23
          clear c23
          obtain ⟨ji24, hji24⟩ : ∃ j_ : Int, (mn (rd x3_3 ((rd_T43 l0_1 x6_3).f0)) (rd x3_3 ((rd_T43 l0_1 x6_3).f1))) = j_ := ⟨_, rfl⟩
          replace H : (filigreeref06_Labels.l2 k3 ((x3_3.set (((rd_T43 l0_1 x6_3).f0) : Int).toNat (ji24)).set (((rd_T43 l0_1 x6_3).f1) : Int).toNat (ji24)) x5_2 (wrap64 (x6_3 + 1)) a0_0 l0_1) = some r := by first | (rw [hji24] at H; exact H) | (simp only [hji24] at H ⊢; exact H)
          have hji24_ : (if (rd x3_3 ((rd_T43 l0_1 x6_3).f1)) < (rd x3_3 ((rd_T43 l0_1 x6_3).f0)) then (rd x3_3 ((rd_T43 l0_1 x6_3).f1)) else (rd x3_3 ((rd_T43 l0_1 x6_3).f0))) = ji24 := hji24
          obtain ⟨y385, hy385⟩ : ∃ y_ : List Int, y_ = (x3_3.set (((rd_T43 l0_1 x6_3).f0) : Int).toNat (ji24)) := ⟨_, rfl⟩
          replace H : (filigreeref06_Labels.l2 k3 (y385.set (((rd_T43 l0_1 x6_3).f1) : Int).toNat (ji24)) x5_2 (wrap64 (x6_3 + 1)) a0_0 l0_1) = some r := by first | (rw [hy385]; with_reducible exact H) | (have H2_ := bsm H; first | (rw [hy385]; with_reducible exact H2_) | with_reducible exact H2_) | with_reducible exact H | (rw [hy385]; exact H) | exact H
          have Ny385 := zMk hy385
          clear hy385
          obtain ⟨y387, hy387⟩ : ∃ y_ : List Int, y_ = (y385.set (((rd_T43 l0_1 x6_3).f1) : Int).toNat (ji24)) := ⟨_, rfl⟩
          replace H : (filigreeref06_Labels.l2 k3 y387 x5_2 (wrap64 (x6_3 + 1)) a0_0 l0_1) = some r := by first | (rw [hy387]; with_reducible exact H) | (have H2_ := bsm H; first | (rw [hy387]; with_reducible exact H2_) | with_reducible exact H2_) | with_reducible exact H | (rw [hy387]; exact H) | exact H
          have Ny387 := zMk hy387
          clear hy387
          have H' := zMk H
          clear H
          have hcz27_0 : wr.cell? ⟨gb375, 0, none⟩ = some (.int .i64 a0_0) := (zKc BK375.out 0).trans rfl
          have hcz27_1 : wr.cell? ⟨gb375, 1, none⟩ = some (.slice A0_1 l0_1.length c0_1) := (zKc BK375.out 1).trans rfl
          have hfz27_0 := zKf BK375.out 0
          have hfz27_1 := zKf BK375.out 1
          have p380 : 0 ≤ (x6_3 : Int) := of_decide_eq_true (by assumption)
          have q380 : x6_3 < (l0_1.length : Int) := of_decide_eq_true (by assumption)
          obtain ⟨ad380, e380, hx380_0, hx380_1, hx380_2⟩ := at_T43 HR0_1.out x6_3 p380 q380
          cases e380
          replace hx380_0 := (HB.out.cell (World.block_lt_of_cell? w _ hx380_0)).trans hx380_0
          replace hx380_1 := (HB.out.cell (World.block_lt_of_cell? w _ hx380_1)).trans hx380_1
          replace hx380_2 := (HB.out.cell (World.block_lt_of_cell? w _ hx380_2)).trans hx380_2
          replace p380 := eq_true p380
          replace q380 := eq_true q380
          obtain ⟨Ao28, co28, eo28⟩ := zRs HO_3.out
          subst eo28
          have p381 : 0 ≤ (((rd_T43 l0_1 x6_3).f0) : Int) := of_decide_eq_true (by assumption)
          have q381 : ((rd_T43 l0_1 x6_3).f0) < (x3_3.length : Int) := of_decide_eq_true (by assumption)
          obtain ⟨ad381, e381, hx381_0⟩ := zAi (zRr HO_3.out).2.2 ((rd_T43 l0_1 x6_3).f0) p381 q381
          cases e381
          replace p381 := eq_true p381
          replace q381 := eq_true q381
          have p382 : 0 ≤ (x6_3 : Int) := of_decide_eq_true (by assumption)
          have q382 : x6_3 < (l0_1.length : Int) := of_decide_eq_true (by assumption)
          obtain ⟨ad382, e382, hx382_0, hx382_1, hx382_2⟩ := at_T43 HR0_1.out x6_3 p382 q382
          obtain rfl : ad380 = ad382 := (by injection e382)
          replace hx382_0 := (HB.out.cell (World.block_lt_of_cell? w _ hx382_0)).trans hx382_0
          replace hx382_1 := (HB.out.cell (World.block_lt_of_cell? w _ hx382_1)).trans hx382_1
          replace hx382_2 := (HB.out.cell (World.block_lt_of_cell? w _ hx382_2)).trans hx382_2
          replace p382 := eq_true p382
          replace q382 := eq_true q382
          have p383 : 0 ≤ (((rd_T43 l0_1 x6_3).f1) : Int) := of_decide_eq_true (by assumption)
          have q383 : ((rd_T43 l0_1 x6_3).f1) < (x3_3.length : Int) := of_decide_eq_true (by assumption)
          obtain ⟨ad383, e383, hx383_0⟩ := zAi (zRr HO_3.out).2.2 ((rd_T43 l0_1 x6_3).f1) p383 q383
          obtain rfl : ad381 = ad383 := (by injection e383)
          replace p383 := eq_true p383
          replace q383 := eq_true q383
          have p384 : 0 ≤ (x6_3 : Int) := of_decide_eq_true (by assumption)
          have q384 : x6_3 < (l0_1.length : Int) := of_decide_eq_true (by assumption)
          obtain ⟨ad384, e384, hx384_0, hx384_1, hx384_2⟩ := at_T43 HR0_1.out x6_3 p384 q384
          obtain rfl : ad380 = ad384 := (by injection e384)
          replace hx384_0 := (HB.out.cell (World.block_lt_of_cell? w _ hx384_0)).trans hx384_0
          replace hx384_1 := (HB.out.cell (World.block_lt_of_cell? w _ hx384_1)).trans hx384_1
          replace hx384_2 := (HB.out.cell (World.block_lt_of_cell? w _ hx384_2)).trans hx384_2
          replace p384 := eq_true p384
          replace q384 := eq_true q384
          have p25 : 0 ≤ (((rd_T43 l0_1 x6_3).f0) : Int) := of_decide_eq_true (by assumption)
          have q25 : (((rd_T43 l0_1 x6_3).f0) : Int) < ((x3_3.length : Int) : Int) := of_decide_eq_true (by assumption)
          obtain ⟨go25, co25, eo25, gb25, gl25, cl25, HG25⟩ := Kd.R_form HO_3.out (by omega)
          (first |  cases eo25|  (injection eo25 with ea_ en_ ec_; (first |  subst ea_|  (injection ea_ with ea_; subst ea_)); subst ec_; clear en_))
          have GB25 := zMk gb25
          have IGB25 := ownGe GB25.out
          have GG25 := zMk HG25
          clear gb25 gl25 HG25
          (first | simp only [add_plain] at hx381_0 | skip)
          (first | simp only [add_plain] at hx383_0 | skip)
          obtain ⟨hx25_0, hf25_0⟩ := Kd.R_celln 0 HO_3.out (((rd_T43 l0_1 x6_3).f0) : Int) p25 q25
          replace p25 := eq_true p25
          replace q25 := eq_true q25
          have HP29 := Kd.R_putg HO_3.out (((rd_T43 l0_1 x6_3).f0) : Int) ji24
          go_wp2_with (first | ((with_reducible refine gate_store (t := 3) (p := 61) rfl ?_); (try (rw [drewN_self wr]; generalize hq_ : World.drewN wr _ = wr; replace HO_3 := zMk (Kd.R_at hq_ HO_3.out); replace BK375 := zMk (blk_at hq_ BK375.out); replace HB := zMk (below_at hq_ HB.out); clear hq_; (try (obtain ⟨hy29_, hz29_⟩ := Kd.R_celln 0 HO_3.out (((rd_T43 l0_1 x6_3).f0) : Int) (of_decide_eq_true (by assumption)) (of_decide_eq_true (by assumption)))); (try (have HP29 := Kd.R_putg HO_3.out (((rd_T43 l0_1 x6_3).f0) : Int) ji24)))); refine store_event (t := 3) (p := 61) (v := ?vo_w30) (w1 := (wr.setCell ⟨go25, (((rd_T43 l0_1 x6_3).f0) : Int).toNat, none⟩ (.int .i64 ji24))) ?hg ?ho ?hn ?hr ?_; (case ho => rfl); (case hg => rfl); (case hn => rfl); (case hr => first | (go_simp; done)|(go_simp; rfl)|(go_simp; rw [show ∀ x : Int, IntKind.u32.wrap (IntKind.u8.wrap x) = x % 256 from fun x => (by show (x % 256) % 4294967296 = x % 256; omega)])); intro w30 hw; have hg : wr.grownBy w30 (some go25) := (by rw [hw]; exact HP29.2); have hp_ : Kd.R (Kd.int .i64) 3 w30 w.heap.size (fun _ => True) (.slice (some ⟨go25, 0, none⟩) x3_3.length co28) y385 := (by rw [hw, Ny385.out]; exact HP29.1); clear HP29; replace BK375 := zMk (blk_grown (g := gb375) (o := .cells #[.int .i64 a0_0, .slice (some ad380) l0_1.length c0_1] 24 (0, 0)) (by (with_reducible repeat (first |  refine zKn ?_ _|  refine zKd ?_|  refine zKa ?_ _)); exact BK375.out) hg (Kd.R_ne HO_3.out BK375.out (by decide))); replace HO_3 := zMk (hp_); replace HB := zMk ((by rw [hw]; exact below_set (HB.out) GB25.out : Below w.heap.size w w30)); clear hg hw hp_; have hcz31_0 : w30.cell? ⟨gb375, 0, none⟩ = some (.int .i64 a0_0) := (zKc BK375.out 0).trans rfl; have hcz31_1 : w30.cell? ⟨gb375, 1, none⟩ = some (.slice (some ad380) l0_1.length c0_1) := (zKc BK375.out 1).trans rfl; have hfz31_0 := zKf BK375.out 0; have hfz31_1 := zKf BK375.out 1; have p386 : 0 ≤ (x6_3 : Int) := of_decide_eq_true (by first | (with_reducible assumption)|  assumption); have q386 : x6_3 < (l0_1.length : Int) := of_decide_eq_true (by first | (with_reducible assumption)|  assumption); obtain ⟨ad386, e386, hx386_0, hx386_1, hx386_2⟩ := at_T43 HR0_1.out x6_3 p386 q386; obtain rfl : ad380 = ad386 := (by injection e386); replace hx386_0 := (HB.out.cell (World.block_lt_of_cell? w _ hx386_0)).trans hx386_0; replace hx386_1 := (HB.out.cell (World.block_lt_of_cell? w _ hx386_1)).trans hx386_1; replace hx386_2 := (HB.out.cell (World.block_lt_of_cell? w _ hx386_2)).trans hx386_2; replace p386 := eq_true p386; replace q386 := eq_true q386; have p26 : 0 ≤ (((rd_T43 l0_1 x6_3).f1) : Int) := of_decide_eq_true (by first | (with_reducible assumption)|  assumption); have q26 : (((rd_T43 l0_1 x6_3).f1) : Int) < ((x3_3.length : Int) : Int) := of_decide_eq_true (by first | (with_reducible assumption)|  assumption); obtain ⟨hx26_0, hf26_0⟩ := Kd.R_celln 0 HO_3.out (((rd_T43 l0_1 x6_3).f1) : Int) p26 q26; replace p26 := eq_true p26; replace q26 := eq_true q26; obtain ⟨hy32_, hz32_⟩ := Kd.R_celln 0 HO_3.out (((rd_T43 l0_1 x6_3).f1) : Int) (of_decide_eq_true (by first | (with_reducible assumption)|  assumption)) (of_decide_eq_true (by first | (with_reducible assumption)|  assumption)); have HP32 := Kd.R_putg HO_3.out (((rd_T43 l0_1 x6_3).f1) : Int) ji24)|((with_reducible refine gate_store (t := 3) (p := 70) rfl ?_); (try (rw [drewN_self w30]; generalize hq_ : World.drewN w30 _ = w30; replace HO_3 := zMk (Kd.R_at hq_ HO_3.out); replace BK375 := zMk (blk_at hq_ BK375.out); replace HB := zMk (below_at hq_ HB.out); clear hq_; (try (obtain ⟨hy32_, hz32_⟩ := Kd.R_celln 0 HO_3.out (((rd_T43 l0_1 x6_3).f1) : Int) (of_decide_eq_true (by first | (with_reducible assumption)|  assumption)) (of_decide_eq_true (by first | (with_reducible assumption)|  assumption)))); (try (have HP32 := Kd.R_putg HO_3.out (((rd_T43 l0_1 x6_3).f1) : Int) ji24)))); refine store_event (t := 3) (p := 70) (v := ?vo_w33) (w1 := (w30.setCell ⟨go25, (((rd_T43 l0_1 x6_3).f1) : Int).toNat, none⟩ (.int .i64 ji24))) ?hg ?ho ?hn ?hr ?_; (case ho => rfl); (case hg => rfl); (case hn => rfl); (case hr => first | (go_simp; done)|(go_simp; rfl)|(go_simp; rw [show ∀ x : Int, IntKind.u32.wrap (IntKind.u8.wrap x) = x % 256 from fun x => (by show (x % 256) % 4294967296 = x % 256; omega)])); intro w33 hw; have hg : w30.grownBy w33 (some go25) := (by rw [hw]; exact HP32.2); have hp_ : Kd.R (Kd.int .i64) 3 w33 w.heap.size (fun _ => True) (.slice (some ⟨go25, 0, none⟩) x3_3.length co28) y387 := (by rw [hw, Ny387.out]; exact HP32.1); clear HP32; replace BK375 := zMk (blk_grown (g := gb375) (o := .cells #[.int .i64 a0_0, .slice (some ad380) l0_1.length c0_1] 24 (0, 0)) (by (with_reducible repeat (first |  refine zKn ?_ _|  refine zKd ?_|  refine zKa ?_ _)); exact BK375.out) hg (Kd.R_ne HO_3.out BK375.out (by decide))); replace HO_3 := zMk (hp_); replace HB := zMk ((by rw [hw]; exact below_set (HB.out) GB25.out : Below w.heap.size w w33)); clear hg hw hp_))
          repeat (go_quiet (first | ((with_reducible refine gate_store (t := 3) (p := 61) rfl ?_); (try (rw [drewN_self wr]; generalize hq_ : World.drewN wr _ = wr; replace HO_3 := zMk (Kd.R_at hq_ HO_3.out); replace BK375 := zMk (blk_at hq_ BK375.out); replace HB := zMk (below_at hq_ HB.out); clear hq_; (try (obtain ⟨hy29_, hz29_⟩ := Kd.R_celln 0 HO_3.out (((rd_T43 l0_1 x6_3).f0) : Int) (of_decide_eq_true (by assumption)) (of_decide_eq_true (by assumption)))); (try (have HP29 := Kd.R_putg HO_3.out (((rd_T43 l0_1 x6_3).f0) : Int) ji24)))); refine store_event (t := 3) (p := 61) (v := ?vo_w30) (w1 := (wr.setCell ⟨go25, (((rd_T43 l0_1 x6_3).f0) : Int).toNat, none⟩ (.int .i64 ji24))) ?hg ?ho ?hn ?hr ?_; (case ho => rfl); (case hg => rfl); (case hn => rfl); (case hr => first | (go_simp; done)|(go_simp; rfl)|(go_simp; rw [show ∀ x : Int, IntKind.u32.wrap (IntKind.u8.wrap x) = x % 256 from fun x => (by show (x % 256) % 4294967296 = x % 256; omega)])); intro w30 hw; have hg : wr.grownBy w30 (some go25) := (by rw [hw]; exact HP29.2); have hp_ : Kd.R (Kd.int .i64) 3 w30 w.heap.size (fun _ => True) (.slice (some ⟨go25, 0, none⟩) x3_3.length co28) y385 := (by rw [hw, Ny385.out]; exact HP29.1); clear HP29; replace BK375 := zMk (blk_grown (g := gb375) (o := .cells #[.int .i64 a0_0, .slice (some ad380) l0_1.length c0_1] 24 (0, 0)) (by (with_reducible repeat (first |  refine zKn ?_ _|  refine zKd ?_|  refine zKa ?_ _)); exact BK375.out) hg (Kd.R_ne HO_3.out BK375.out (by decide))); replace HO_3 := zMk (hp_); replace HB := zMk ((by rw [hw]; exact below_set (HB.out) GB25.out : Below w.heap.size w w30)); clear hg hw hp_; have hcz31_0 : w30.cell? ⟨gb375, 0, none⟩ = some (.int .i64 a0_0) := (zKc BK375.out 0).trans rfl; have hcz31_1 : w30.cell? ⟨gb375, 1, none⟩ = some (.slice (some ad380) l0_1.length c0_1) := (zKc BK375.out 1).trans rfl; have hfz31_0 := zKf BK375.out 0; have hfz31_1 := zKf BK375.out 1; have p386 : 0 ≤ (x6_3 : Int) := of_decide_eq_true (by first | (with_reducible assumption)|  assumption); have q386 : x6_3 < (l0_1.length : Int) := of_decide_eq_true (by first | (with_reducible assumption)|  assumption); obtain ⟨ad386, e386, hx386_0, hx386_1, hx386_2⟩ := at_T43 HR0_1.out x6_3 p386 q386; obtain rfl : ad380 = ad386 := (by injection e386); replace hx386_0 := (HB.out.cell (World.block_lt_of_cell? w _ hx386_0)).trans hx386_0; replace hx386_1 := (HB.out.cell (World.block_lt_of_cell? w _ hx386_1)).trans hx386_1; replace hx386_2 := (HB.out.cell (World.block_lt_of_cell? w _ hx386_2)).trans hx386_2; replace p386 := eq_true p386; replace q386 := eq_true q386; have p26 : 0 ≤ (((rd_T43 l0_1 x6_3).f1) : Int) := of_decide_eq_true (by first | (with_reducible assumption)|  assumption); have q26 : (((rd_T43 l0_1 x6_3).f1) : Int) < ((x3_3.length : Int) : Int) := of_decide_eq_true (by first | (with_reducible assumption)|  assumption); obtain ⟨hx26_0, hf26_0⟩ := Kd.R_celln 0 HO_3.out (((rd_T43 l0_1 x6_3).f1) : Int) p26 q26; replace p26 := eq_true p26; replace q26 := eq_true q26; obtain ⟨hy32_, hz32_⟩ := Kd.R_celln 0 HO_3.out (((rd_T43 l0_1 x6_3).f1) : Int) (of_decide_eq_true (by first | (with_reducible assumption)|  assumption)) (of_decide_eq_true (by first | (with_reducible assumption)|  assumption)); have HP32 := Kd.R_putg HO_3.out (((rd_T43 l0_1 x6_3).f1) : Int) ji24)|((with_reducible refine gate_store (t := 3) (p := 70) rfl ?_); (try (rw [drewN_self w30]; generalize hq_ : World.drewN w30 _ = w30; replace HO_3 := zMk (Kd.R_at hq_ HO_3.out); replace BK375 := zMk (blk_at hq_ BK375.out); replace HB := zMk (below_at hq_ HB.out); clear hq_; (try (obtain ⟨hy32_, hz32_⟩ := Kd.R_celln 0 HO_3.out (((rd_T43 l0_1 x6_3).f1) : Int) (of_decide_eq_true (by first | (with_reducible assumption)|  assumption)) (of_decide_eq_true (by first | (with_reducible assumption)|  assumption)))); (try (have HP32 := Kd.R_putg HO_3.out (((rd_T43 l0_1 x6_3).f1) : Int) ji24)))); refine store_event (t := 3) (p := 70) (v := ?vo_w33) (w1 := (w30.setCell ⟨go25, (((rd_T43 l0_1 x6_3).f1) : Int).toNat, none⟩ (.int .i64 ji24))) ?hg ?ho ?hn ?hr ?_; (case ho => rfl); (case hg => rfl); (case hn => rfl); (case hr => first | (go_simp; done)|(go_simp; rfl)|(go_simp; rw [show ∀ x : Int, IntKind.u32.wrap (IntKind.u8.wrap x) = x % 256 from fun x => (by show (x % 256) % 4294967296 = x % 256; omega)])); intro w33 hw; have hg : w30.grownBy w33 (some go25) := (by rw [hw]; exact HP32.2); have hp_ : Kd.R (Kd.int .i64) 3 w33 w.heap.size (fun _ => True) (.slice (some ⟨go25, 0, none⟩) x3_3.length co28) y387 := (by rw [hw, Ny387.out]; exact HP32.1); clear HP32; replace BK375 := zMk (blk_grown (g := gb375) (o := .cells #[.int .i64 a0_0, .slice (some ad380) l0_1.length c0_1] 24 (0, 0)) (by (with_reducible repeat (first |  refine zKn ?_ _|  refine zKd ?_|  refine zKa ?_ _)); exact BK375.out) hg (Kd.R_ne HO_3.out BK375.out (by decide))); replace HO_3 := zMk (hp_); replace HB := zMk ((by rw [hw]; exact below_set (HB.out) GB25.out : Below w.heap.size w w33)); clear hg hw hp_)); try go_wp2_with (first | ((with_reducible refine gate_store (t := 3) (p := 61) rfl ?_); (try (rw [drewN_self wr]; generalize hq_ : World.drewN wr _ = wr; replace HO_3 := zMk (Kd.R_at hq_ HO_3.out); replace BK375 := zMk (blk_at hq_ BK375.out); replace HB := zMk (below_at hq_ HB.out); clear hq_; (try (obtain ⟨hy29_, hz29_⟩ := Kd.R_celln 0 HO_3.out (((rd_T43 l0_1 x6_3).f0) : Int) (of_decide_eq_true (by assumption)) (of_decide_eq_true (by assumption)))); (try (have HP29 := Kd.R_putg HO_3.out (((rd_T43 l0_1 x6_3).f0) : Int) ji24)))); refine store_event (t := 3) (p := 61) (v := ?vo_w30) (w1 := (wr.setCell ⟨go25, (((rd_T43 l0_1 x6_3).f0) : Int).toNat, none⟩ (.int .i64 ji24))) ?hg ?ho ?hn ?hr ?_; (case ho => rfl); (case hg => rfl); (case hn => rfl); (case hr => first | (go_simp; done)|(go_simp; rfl)|(go_simp; rw [show ∀ x : Int, IntKind.u32.wrap (IntKind.u8.wrap x) = x % 256 from fun x => (by show (x % 256) % 4294967296 = x % 256; omega)])); intro w30 hw; have hg : wr.grownBy w30 (some go25) := (by rw [hw]; exact HP29.2); have hp_ : Kd.R (Kd.int .i64) 3 w30 w.heap.size (fun _ => True) (.slice (some ⟨go25, 0, none⟩) x3_3.length co28) y385 := (by rw [hw, Ny385.out]; exact HP29.1); clear HP29; replace BK375 := zMk (blk_grown (g := gb375) (o := .cells #[.int .i64 a0_0, .slice (some ad380) l0_1.length c0_1] 24 (0, 0)) (by (with_reducible repeat (first |  refine zKn ?_ _|  refine zKd ?_|  refine zKa ?_ _)); exact BK375.out) hg (Kd.R_ne HO_3.out BK375.out (by decide))); replace HO_3 := zMk (hp_); replace HB := zMk ((by rw [hw]; exact below_set (HB.out) GB25.out : Below w.heap.size w w30)); clear hg hw hp_; have hcz31_0 : w30.cell? ⟨gb375, 0, none⟩ = some (.int .i64 a0_0) := (zKc BK375.out 0).trans rfl; have hcz31_1 : w30.cell? ⟨gb375, 1, none⟩ = some (.slice (some ad380) l0_1.length c0_1) := (zKc BK375.out 1).trans rfl; have hfz31_0 := zKf BK375.out 0; have hfz31_1 := zKf BK375.out 1; have p386 : 0 ≤ (x6_3 : Int) := of_decide_eq_true (by first | (with_reducible assumption)|  assumption); have q386 : x6_3 < (l0_1.length : Int) := of_decide_eq_true (by first | (with_reducible assumption)|  assumption); obtain ⟨ad386, e386, hx386_0, hx386_1, hx386_2⟩ := at_T43 HR0_1.out x6_3 p386 q386; obtain rfl : ad380 = ad386 := (by injection e386); replace hx386_0 := (HB.out.cell (World.block_lt_of_cell? w _ hx386_0)).trans hx386_0; replace hx386_1 := (HB.out.cell (World.block_lt_of_cell? w _ hx386_1)).trans hx386_1; replace hx386_2 := (HB.out.cell (World.block_lt_of_cell? w _ hx386_2)).trans hx386_2; replace p386 := eq_true p386; replace q386 := eq_true q386; have p26 : 0 ≤ (((rd_T43 l0_1 x6_3).f1) : Int) := of_decide_eq_true (by first | (with_reducible assumption)|  assumption); have q26 : (((rd_T43 l0_1 x6_3).f1) : Int) < ((x3_3.length : Int) : Int) := of_decide_eq_true (by first | (with_reducible assumption)|  assumption); obtain ⟨hx26_0, hf26_0⟩ := Kd.R_celln 0 HO_3.out (((rd_T43 l0_1 x6_3).f1) : Int) p26 q26; replace p26 := eq_true p26; replace q26 := eq_true q26; obtain ⟨hy32_, hz32_⟩ := Kd.R_celln 0 HO_3.out (((rd_T43 l0_1 x6_3).f1) : Int) (of_decide_eq_true (by first | (with_reducible assumption)|  assumption)) (of_decide_eq_true (by first | (with_reducible assumption)|  assumption)); have HP32 := Kd.R_putg HO_3.out (((rd_T43 l0_1 x6_3).f1) : Int) ji24)|((with_reducible refine gate_store (t := 3) (p := 70) rfl ?_); (try (rw [drewN_self w30]; generalize hq_ : World.drewN w30 _ = w30; replace HO_3 := zMk (Kd.R_at hq_ HO_3.out); replace BK375 := zMk (blk_at hq_ BK375.out); replace HB := zMk (below_at hq_ HB.out); clear hq_; (try (obtain ⟨hy32_, hz32_⟩ := Kd.R_celln 0 HO_3.out (((rd_T43 l0_1 x6_3).f1) : Int) (of_decide_eq_true (by first | (with_reducible assumption)|  assumption)) (of_decide_eq_true (by first | (with_reducible assumption)|  assumption)))); (try (have HP32 := Kd.R_putg HO_3.out (((rd_T43 l0_1 x6_3).f1) : Int) ji24)))); refine store_event (t := 3) (p := 70) (v := ?vo_w33) (w1 := (w30.setCell ⟨go25, (((rd_T43 l0_1 x6_3).f1) : Int).toNat, none⟩ (.int .i64 ji24))) ?hg ?ho ?hn ?hr ?_; (case ho => rfl); (case hg => rfl); (case hn => rfl); (case hr => first | (go_simp; done)|(go_simp; rfl)|(go_simp; rw [show ∀ x : Int, IntKind.u32.wrap (IntKind.u8.wrap x) = x % 256 from fun x => (by show (x % 256) % 4294967296 = x % 256; omega)])); intro w33 hw; have hg : w30.grownBy w33 (some go25) := (by rw [hw]; exact HP32.2); have hp_ : Kd.R (Kd.int .i64) 3 w33 w.heap.size (fun _ => True) (.slice (some ⟨go25, 0, none⟩) x3_3.length co28) y387 := (by rw [hw, Ny387.out]; exact HP32.1); clear HP32; replace BK375 := zMk (blk_grown (g := gb375) (o := .cells #[.int .i64 a0_0, .slice (some ad380) l0_1.length c0_1] 24 (0, 0)) (by (with_reducible repeat (first |  refine zKn ?_ _|  refine zKd ?_|  refine zKa ?_ _)); exact BK375.out) hg (Kd.R_ne HO_3.out BK375.out (by decide))); replace HO_3 := zMk (hp_); replace HB := zMk ((by rw [hw]; exact below_set (HB.out) GB25.out : Below w.heap.size w w33)); clear hg hw hp_)))
          go_roundg k3
          case measure => have := HK1.out; have := HK2.out; have := HK3.out; omega
          case rel => exact ⟨(y387), (wrap64 (x6_3 + 1)), (by first | rfl | (simp; done) | (simp [*]; done)), H', ⟨by have := HK1.out; have := HK2.out; have := HK3.out; omega⟩, ⟨by exact uR HO_3.out⟩, ⟨by (with_reducible repeat (first | refine zKn ?_ _ | refine zKd ?_ | refine zKa ?_ _)); exact BK375.out⟩, ⟨by exact uT HB.out⟩⟩
        · rw [if_neg c18] at H
          have c18b0 : decide (x6_3 < (l0_1.length : Int)) = false := decide_eq_false c18
          clear c18
          have H' := zMk H
          clear H
          have hcz34_0 : wr.cell? ⟨gb375, 0, none⟩ = some (.int .i64 a0_0) := (zKc BK375.out 0).trans rfl
          have hcz34_1 : wr.cell? ⟨gb375, 1, none⟩ = some (.slice A0_1 l0_1.length c0_1) := (zKc BK375.out 1).trans rfl
          have hfz34_0 := zKf BK375.out 0
          have hfz34_1 := zKf BK375.out 1
          go_wp2
          repeat (go_quiet (fail); try go_wp2)
          go_roundg k3
          case measure => have := HK1.out; have := HK2.out; have := HK3.out; omega
          case rel => exact ⟨(x3_3), (wrap64 (x5_2 + 1)), (by first | rfl | (simp; done) | (simp [*]; done)), H', ⟨by have := HK1.out; have := HK2.out; have := HK3.out; omega⟩, ⟨by exact uR HO_3.out⟩, ⟨by (with_reducible repeat (first | refine zKn ?_ _ | refine zKd ?_ | refine zKa ?_ _)); exact BK375.out⟩, ⟨by exact uT HB.out⟩⟩
      · rw [if_neg c16] at H
        have c16b0 : decide (x5_2 < a0_0) = false := decide_eq_false c16
        clear c16
        obtain rfl := zOi H
        have hcz35_0 : wr.cell? ⟨gb375, 0, none⟩ = some (.int .i64 a0_0) := (zKc BK375.out 0).trans rfl
        have hcz35_1 : wr.cell? ⟨gb375, 1, none⟩ = some (.slice A0_1 l0_1.length c0_1) := (zKc BK375.out 1).trans rfl
        have hfz35_0 := zKf BK375.out 0
        have hfz35_1 := zKf BK375.out 1
        go_wp2
        repeat (go_quiet (fail); try go_wp2)
        go_ret
        exact ⟨_, by first | rfl | (simp [errW_none, errW_some] <;> rfl) | (simp [*, errW_none, errW_some] <;> rfl), by exact uR HO_3.out, by exact uT HB.out⟩
  · rw [if_neg c2] at H
    exact absurd H (by simp)

def stepL (l : List Int) (e : S43) : List Int := (l.set e.f0.toNat (mn (rd l e.f0) (rd l e.f1))).set e.f1.toNat (mn (rd l e.f0) (rd l e.f1))
def roundL (E : List S43) (l : List Int) : List Int := E.foldl stepL l
def itL (E : List S43) : Nat → List Int → List Int
  | 0, l => l
  | d + 1, l => itL E d (roundL E l)
theorem stepL_len (l : List Int) (e : S43) : (stepL l e).length = l.length := by simp [stepL]
theorem foldL_len (E : List S43) : ∀ l : List Int, (E.foldl stepL l).length = l.length := by
  induction E with
  | nil => intro l; rfl
  | cons e E ih => intro l; rw [List.foldl_cons, ih, stepL_len]
theorem itL_len (E : List S43) : ∀ (d : Nat) (l : List Int), (itL E d l).length = l.length
  | 0, _ => rfl
  | d + 1, l => by rw [itL, itL_len E d]; exact foldL_len E l
theorem Lab_l2 (N : Nat) (E : List S43) (hE : Ends N E) (hm : E.length ≤ 1000000000) (x5 : Int) (r : List Int) (d : Nat) : ∀ (i : Nat) (l : List Int), E.length - i = d → i ≤ E.length → l.length = N →
    Ev (fun k => filigreeref06_Labels.l1 k ((E.drop i).foldl stepL l) (wrap64 (x5 + 1)) N E) r → Ev (fun k => filigreeref06_Labels.l2 k l x5 i N E) r := by
  induction d with
  | zero =>
    intro i l hd hi hl h
    obtain rfl : i = E.length := by omega
    rw [List.drop_length] at h
    refine Ev.step (fun k => ?_) h
    simp only [filigreeref06_Labels.l2]
    rw [if_neg (by omega)]; rfl
  | succ d ih =>
    intro i l hd hi hl h
    have hlt : i < E.length := by omega
    rw [dropE E i hlt, List.foldl_cons] at h
    have hx := hE _ (show rd_T43 E (i : Int) ∈ E by rw [rdE_get E i hlt]; exact List.getElem_mem hlt)
    refine Ev.step (fun k => ?_) (ih (i + 1) _ (by omega) (by omega) (by rw [stepL_len]; exact hl) h)
    simp only [filigreeref06_Labels.l2]
    rw [if_pos (by omega), if_pos (by omega), if_pos hx.1, if_pos (by rw [hl]; exact hx.2.1), if_pos hx.2.2.1, if_pos (by rw [hl]; exact hx.2.2.2), w64n i (by omega)]
    rfl
theorem Lab_l1 (N : Nat) (E : List S43) (hE : Ends N E) (hm : E.length ≤ 1000000000) (hN : N ≤ 1000000000) (d : Nat) : ∀ (i : Nat) (l : List Int), N - i = d → i ≤ N → l.length = N →
    Ev (fun k => filigreeref06_Labels.l1 k l i N E) (itL E d l) := by
  induction d with
  | zero =>
    intro i l hd hi hl
    refine Ev.step (fun k => ?_) (Ev.now _)
    simp only [filigreeref06_Labels.l1]
    rw [if_neg (by omega)]; rfl
  | succ d ih =>
    intro i l hd hi hl
    have h1 := ih (i + 1) (roundL E l) (by omega) (by omega) (by rw [roundL, foldL_len]; exact hl)
    have h2 := Lab_l2 N E hE hm (i : Int) (itL E d (roundL E l)) E.length 0 l rfl (Nat.zero_le _) hl (by
      rw [List.drop_zero, w64n i (by omega)]; exact h1)
    refine Ev.step (fun k => ?_) h2
    simp only [filigreeref06_Labels.l1]
    rw [if_pos (by omega)]; rfl
theorem Lab_l0 (N : Nat) (E : List S43) (hE : Ends N E) (hm : E.length ≤ 1000000000) (hN : N ≤ 1000000000) (d : Nat) : ∀ (i : Nat) (l : List Int), N - i = d → i ≤ N → l.length = N → (∀ j : Nat, j < i → rd l j = j) →
    Ev (fun k => filigreeref06_Labels.l0 k l i N E) (itL E N (ups N)) := by
  induction d with
  | zero =>
    intro i l hd hi hl hr
    obtain rfl : i = N := by omega
    have e : l = ups i := by
      apply List.ext_getElem (by rw [ups_len]; exact hl)
      intro j h1 h2
      have h3 := hr j (by omega)
      rw [rd_nat l j h1] at h3
      rw [h3]
      simp [ups]
    subst e
    refine Ev.step (fun k => ?_) (Lab_l1 i E hE hm hN i 0 _ rfl (Nat.zero_le _) hl)
    simp only [filigreeref06_Labels.l0]
    rw [if_neg (by omega)]; rfl
  | succ d ih =>
    intro i l hd hi hl hr
    refine Ev.step (fun k => ?_) (ih (i + 1) (l.set i i) (by omega) (by omega) (by rw [List.length_set]; exact hl) (fun j hj => ?_))
    · simp only [filigreeref06_Labels.l0]
      rw [if_pos (by omega), if_pos (by omega), if_pos (by omega), w64n i (by omega), zTn]
    · have := rd_set l i j i (by omega) (by omega) (by omega)
      rw [zTn] at this
      rw [this]
      split
      · omega
      · exact hr j (by omega)
theorem Labels_ev (N : Nat) (E : List S43) (hE : Ends N E) (hm : E.length ≤ 1000000000) (hN : N ≤ 1000000000) : Ev (fun k => filigreeref06_Labels.f k N E) (itL E N (ups N)) := by
  refine Ev.congr (fun k => ?_) (Lab_l0 N E hE hm hN N 0 (List.replicate N 0) rfl (Nat.zero_le _) List.length_replicate (fun j hj => by omega))
  unfold filigreeref06_Labels.f
  rw [if_pos (by omega), zTn, if_pos (by omega)]; rfl
structure LabI (N : Nat) (E : List S43) (l : List Int) : Prop where
  len : l.length = N
  ok : ∀ v : Int, 0 ≤ v → v < (N : Int) → 0 ≤ rd l v ∧ rd l v ≤ v ∧ Cn E v (rd l v)
theorem LabI.start (N : Nat) (E : List S43) : LabI N E (ups N) := by
  refine ⟨ups_len N, fun v h0 h1 => ?_⟩
  obtain ⟨i, rfl⟩ := Int.eq_ofNat_of_zero_le h0
  have : rd (ups N) (i : Int) = i := by rw [rd_nat _ i (by rw [ups_len]; omega)]; simp [ups]
  rw [this]
  exact ⟨h0, Int.le_refl _, .refl _⟩
theorem mn_cases (a b : Int) : (mn a b = a ∧ a ≤ b) ∨ (mn a b = b ∧ b ≤ a) := by unfold mn; split <;> omega
theorem rd_step {N : Nat} {l : List Int} {e : S43} (hl : l.length = N) (he : 0 ≤ e.f0 ∧ e.f0 < (N : Int) ∧ 0 ≤ e.f1 ∧ e.f1 < (N : Int)) (v : Int) (hv : 0 ≤ v) : rd (stepL l e) v = if v = e.f1 ∨ v = e.f0 then mn (rd l e.f0) (rd l e.f1) else rd l v := by
  unfold stepL
  rw [rd_set _ _ _ _ he.2.2.1 (by rw [List.length_set, hl]; exact he.2.2.2) hv, rd_set _ _ _ _ he.1 (by rw [hl]; exact he.2.1) hv]
  by_cases a : v = e.f1
  · rw [if_pos a, if_pos (.inl a)]
  · rw [if_neg a]
    by_cases b : v = e.f0
    · rw [if_pos b, if_pos (.inr b)]
    · rw [if_neg b, if_neg (by rintro (h | h); exact a h; exact b h)]
theorem LabI.step {N : Nat} {E : List S43} (hE : Ends N E) {l : List Int} (h : LabI N E l) {e : S43} (he : e ∈ E) : LabI N E (stepL l e) := by
  refine ⟨by rw [stepL_len]; exact h.len, fun v h0 h1 => ?_⟩
  have hx := hE e he
  rw [rd_step h.len hx v h0]
  have a := h.ok e.f0 hx.1 hx.2.1
  have b := h.ok e.f1 hx.2.2.1 hx.2.2.2
  have c01 : Cn E e.f0 e.f1 := .fwd e he (.refl _)
  split
  · rename_i hv
    rcases mn_cases (rd l e.f0) (rd l e.f1) with ⟨e1, e2⟩ | ⟨e1, e2⟩ <;> rw [e1] <;> rcases hv with rfl | rfl
    · exact ⟨a.1, by omega, c01.symm.trans a.2.2⟩
    · exact a
    · exact b
    · exact ⟨b.1, by omega, c01.trans b.2.2⟩
  · exact h.ok v h0 h1
theorem step_gain {N : Nat} {E : List S43} (hE : Ends N E) {l : List Int} (h : LabI N E l) {e : S43} (he : e ∈ E) {r : Int} (hr : Root E r) (hd : rd l e.f0 = r ∨ rd l e.f1 = r) : rd (stepL l e) e.f0 = r ∧ rd (stepL l e) e.f1 = r := by
  have hx := hE e he
  have a := h.ok e.f0 hx.1 hx.2.1
  have b := h.ok e.f1 hx.2.2.1 hx.2.2.2
  have c01 : Cn E e.f0 e.f1 := .fwd e he (.refl _)
  have key : mn (rd l e.f0) (rd l e.f1) = r := by
    have hra : r ≤ rd l e.f0 := by
      rcases hd with hd | hd
      · omega
      · exact hr _ a.1 ((hd ▸ b.2.2.symm).trans (c01.symm.trans a.2.2))
    have hrb : r ≤ rd l e.f1 := by
      rcases hd with hd | hd
      · exact hr _ b.1 ((hd ▸ a.2.2.symm).trans (c01.trans b.2.2))
      · omega
    rcases mn_cases (rd l e.f0) (rd l e.f1) with ⟨e1, e2⟩ | ⟨e1, e2⟩ <;> rcases hd with hd | hd <;> omega
  rw [rd_step h.len hx _ hx.1, rd_step h.len hx _ hx.2.2.1, if_pos (.inr rfl), if_pos (.inl rfl)]
  exact ⟨key, key⟩
theorem step_keep {N : Nat} {E : List S43} (hE : Ends N E) {l : List Int} (h : LabI N E l) {e : S43} (he : e ∈ E) {r : Int} (hr : Root E r) {v : Int} (h0 : 0 ≤ v) (hv : rd l v = r) : rd (stepL l e) v = r := by
  have hx := hE e he
  by_cases a : v = e.f0
  · subst a; exact (step_gain hE h he hr (.inl hv)).1
  · by_cases b : v = e.f1
    · subst b; exact (step_gain hE h he hr (.inr hv)).2
    · rw [rd_step h.len hx v h0, if_neg (by rintro (h | h); exact b h; exact a h)]
      exact hv
theorem fold_keep {N : Nat} {E : List S43} (hE : Ends N E) {r : Int} (hr : Root E r) : ∀ (F : List S43), (∀ e ∈ F, e ∈ E) → ∀ l : List Int, LabI N E l → LabI N E (F.foldl stepL l) ∧ (∀ v, 0 ≤ v → rd l v = r → rd (F.foldl stepL l) v = r) ∧ ∀ e ∈ F, (rd l e.f0 = r ∨ rd l e.f1 = r) → rd (F.foldl stepL l) e.f0 = r ∧ rd (F.foldl stepL l) e.f1 = r
  | [], _, l, h => ⟨h, fun _ _ hv => hv, fun e he => by cases he⟩
  | f :: F, hF, l, h => by
    have hf : f ∈ E := hF f (List.mem_cons_self ..)
    obtain ⟨h1, h2, h3⟩ := fold_keep hE hr F (fun e he => hF e (List.mem_cons_of_mem _ he)) (stepL l f) (h.step hE hf)
    rw [List.foldl_cons]
    refine ⟨h1, fun v h0 hv => h2 v h0 (step_keep hE h hf hr h0 hv), fun e he hd => ?_⟩
    have hx := hE e (hF e he)
    rcases List.mem_cons.1 he with rfl | he
    · obtain ⟨a, b⟩ := step_gain hE h hf hr hd
      exact ⟨h2 _ hx.1 a, h2 _ hx.2.2.1 b⟩
    · exact h3 e he (hd.imp (step_keep hE h hf hr hx.1) (step_keep hE h hf hr hx.2.2.1))
def DoneL (E : List S43) (r : Int) (l : List Int) : Prop := ∀ v, Cn E r v → rd l v = r
theorem not_done {E : List S43} {r : Int} {l : List Int} (h0 : rd l r = r) (h : ¬ DoneL E r l) : ∃ e ∈ E, (rd l e.f0 = r ∧ rd l e.f1 ≠ r) ∨ (rd l e.f0 ≠ r ∧ rd l e.f1 = r) := by
  refine Classical.byContradiction fun hn => h fun v hc => ?_
  induction hc with
  | refl => exact h0
  | fwd e he _ ih => exact Classical.byContradiction fun h1 => hn ⟨e, he, .inl ⟨ih, h1⟩⟩
  | bwd e he _ ih => exact Classical.byContradiction fun h1 => hn ⟨e, he, .inr ⟨h1, ih⟩⟩
theorem it_keep {N : Nat} {E : List S43} (hE : Ends N E) {r : Int} (hr : Root E r) : ∀ (d : Nat) (l : List Int), LabI N E l → LabI N E (itL E d l) ∧ ∀ v, 0 ≤ v → rd l v = r → rd (itL E d l) v = r
  | 0, _, h => ⟨h, fun _ _ hv => hv⟩
  | d + 1, l, h => by
    obtain ⟨h1, h2, _⟩ := fold_keep hE hr E (fun _ he => he) l h
    obtain ⟨h3, h4⟩ := it_keep hE hr d (roundL E l) h1
    exact ⟨h3, fun v h0 hv => h4 v h0 (h2 v h0 hv)⟩
theorem it_done {N : Nat} {E : List S43} (hE : Ends N E) {r : Int} (hr : Root E r) (hr0 : 0 ≤ r) : ∀ (d : Nat) (l : List Int), LabI N E l → rd l r = r → DoneL E r (itL E d l) ∨ l.count r + d ≤ (itL E d l).count r
  | 0, _, _, _ => .inr (Nat.le_refl _)
  | d + 1, l, h, h0 => by
    obtain ⟨h1, h2, h3⟩ := fold_keep hE hr E (fun _ he => he) l h
    by_cases hd : DoneL E r l
    · refine .inl fun v hc => ?_
      have hv0 : 0 ≤ v := by
        cases hc with
        | refl => exact hr0
        | fwd e he _ => exact (hE e he).2.2.1
        | bwd e he _ => exact (hE e he).1
      exact (it_keep hE hr (d + 1) l h).2 v hv0 (hd v hc)
    · rcases it_done hE hr hr0 d (roundL E l) h1 (h2 r hr0 h0) with h4 | h4
      · exact .inl h4
      · right
        have hlt : l.count r < (roundL E l).count r := by
          refine count_lt r l _ (by rw [roundL, foldL_len]) (fun i hi hv => h2 i (by omega) hv) ?_
          obtain ⟨e, he, hx⟩ := not_done h0 hd
          have hb := hE e he
          rcases hx with ⟨a, b⟩ | ⟨a, b⟩
          · refine ⟨e.f1.toNat, by rw [h.len]; omega, ?_, ?_⟩
            · rwa [Int.toNat_of_nonneg hb.2.2.1]
            · rw [Int.toNat_of_nonneg hb.2.2.1]; exact (h3 e he (.inl a)).2
          · refine ⟨e.f0.toNat, by rw [h.len]; omega, ?_, ?_⟩
            · rwa [Int.toNat_of_nonneg hb.1]
            · rw [Int.toNat_of_nonneg hb.1]; exact (h3 e he (.inr b)).1
        show l.count r + (d + 1) ≤ (itL E d (roundL E l)).count r
        omega
def labs (N : Nat) (E : List S43) : List Int := itL E N (ups N)
theorem labs_len (N : Nat) (E : List S43) : (labs N E).length = N := by rw [labs, itL_len, ups_len]
theorem labs_root {N : Nat} {E : List S43} (hE : Ends N E) {r v : Int} (hr : Root E r) (hr0 : 0 ≤ r) (hr1 : r < (N : Int)) (hc : Cn E r v) : rd (labs N E) v = r := by
  have hs := LabI.start N E
  have h0 : rd (ups N) r = r := by
    obtain ⟨i, rfl⟩ := Int.eq_ofNat_of_zero_le hr0
    rw [rd_nat _ i (by rw [ups_len]; omega)]; simp [ups]
  rcases it_done hE hr hr0 N (ups N) hs h0 with h | h
  · exact h v hc
  · exfalso
    have h1 : (itL E N (ups N)).count r ≤ N := by
      have := List.count_le_length (a := r) (l := itL E N (ups N))
      rwa [itL_len, ups_len] at this
    have h2 : 0 < (ups N).count r := by
      rw [List.count_pos_iff]
      exact mem_ups.2 ⟨hr0, hr1⟩
    omega
theorem labs_iff {N : Nat} {E : List S43} (hE : Ends N E) {u v : Int} (hu : 0 ≤ u ∧ u < (N : Int)) (hv : 0 ≤ v ∧ v < (N : Int)) : rd (labs N E) u = rd (labs N E) v ↔ Cn E u v := by
  obtain ⟨r, r0, r1, hr, hur⟩ := root_of E u hu.1
  obtain ⟨s, s0, s1, hs, hvs⟩ := root_of E v hv.1
  rw [labs_root hE hr r0 (by omega) hur.symm, labs_root hE hs s0 (by omega) hvs.symm]
  constructor
  · rintro rfl; exact hur.trans hvs.symm
  · intro h; exact root_eq r0 s0 hr hs (hur.symm.trans (h.trans hvs))

def clsL (N : Nat) (l : List Int) (v : Int) : List Int := (ups N).filter fun u => rd l u == v
def compsL (N : Nat) (l : List Int) : List (List Int) := ((ups N).filter fun v => rd l v == v).map (clsL N l)
theorem ups_drop (N i : Nat) (h : i < N) : (ups N).drop i = (i : Int) :: (ups N).drop (i + 1) := by
  rw [List.drop_eq_getElem_cons (by rw [ups_len]; exact h)]
  simp [ups]
theorem ups_drop_end (N : Nat) : (ups N).drop N = [] := by rw [List.drop_eq_nil_iff, ups_len]; exact Nat.le_refl _
theorem cls_from {N : Nat} {l : List Int} (hle : ∀ u : Int, 0 ≤ u → u < (N : Int) → rd l u ≤ u) (v : Nat) (hv : v ≤ N) : ((ups N).drop v).filter (fun u => rd l u == (v : Int)) = clsL N l v := by
  have h1 : ups N = (ups N).take v ++ (ups N).drop v := (List.take_append_drop v _).symm
  unfold clsL
  conv => rhs; rw [h1]
  rw [List.filter_append]
  have h2 : ((ups N).take v).filter (fun u => rd l u == (v : Int)) = [] := by
    rw [List.filter_eq_nil_iff]
    intro u hu hc
    obtain ⟨j, hj⟩ := List.getElem?_of_mem hu
    rw [List.getElem?_take] at hj
    split at hj
    · obtain ⟨h3, h4⟩ := List.getElem?_eq_some_iff.1 hj
      have h5 : u = (j : Int) := by rw [← h4]; simp [ups]
      rw [ups_len] at h3
      have := hle u (by omega) (by omega)
      have hc : rd l u = (v : Int) := by simpa using hc
      omega
    · cases hj
  rw [h2, List.nil_append]

def filigreeref04_Only.l0 : Nat → List Bool → Int → Int → List (S43) → Int → List (S43) → Option (Int × (List (S43)))
  | 0, _, _, _, _, _, _ => none
  | k + 1, x1, x6, x389000, x389001, x391000, x391001 => if x6 < (x389001.length : Int) then (if 0 ≤ x6 then (if ((rd_T43 x389001 x6).f0) < (x1.length : Int) then (if 0 ≤ ((rd_T43 x389001 x6).f0) then (if rdOf false x1 ((rd_T43 x389001 x6).f0) = true then (if ((rd_T43 x389001 x6).f1) < (x1.length : Int) then (if 0 ≤ ((rd_T43 x389001 x6).f1) then (if rdOf false x1 ((rd_T43 x389001 x6).f1) = true then (if x391001.length < 5864062014805 then (filigreeref04_Only.l0 k x1 (wrap64 (x6 + 1)) x389000 x389001 x391000 (x391001 ++ [(⟨(rd_T43 x389001 x6).f0, (rd_T43 x389001 x6).f1, (rd_T43 x389001 x6).f2⟩ : S43)])) else (none)) else (filigreeref04_Only.l0 k x1 (wrap64 (x6 + 1)) x389000 x389001 x391000 x391001)) else (none)) else (filigreeref04_Only.l0 k x1 (wrap64 (x6 + 1)) x389000 x389001 x391000 x391001)) else (filigreeref04_Only.l0 k x1 (wrap64 (x6 + 1)) x389000 x389001 x391000 x391001)) else (none)) else (filigreeref04_Only.l0 k x1 (wrap64 (x6 + 1)) x389000 x389001 x391000 x391001)) else (none)) else (some (x391000, x391001))
def filigreeref04_Only.f (k : Nat) (a0_0 : Int) (l0_1 : List (S43)) (l1 : List Bool) : Option (Int × (List (S43))) := filigreeref04_Only.l0 k l1 0 a0_0 l0_1 a0_0 ([] : List (S43))
theorem filigreeref04_Only.calls (k : Nat) (a0_0 : Int) (A0_1 : Option Addr) (c0_1 : Nat) (l0_1 : List (S43)) (A1 : Option Addr) (c1 : Nat) (l1 : List Bool) (r1 : Int) (r2 : List (S43)) (w : World) (hr0_1 : Kd.C k43 w A0_1 l0_1.length l0_1) (hc0_1 : l0_1.length ≤ c0_1) (hr1 : Kd.C Kd.bool w A1 l1.length l1) (hc1 : l1.length ≤ c1) (h : filigreeref04_Only.f k a0_0 l0_1 l1 = some (r1, r2)) :
    Calls Try.prog 33 #[.agg #[.int .i64 a0_0, .slice A0_1 l0_1.length c0_1], .slice A1 l1.length c1] w fun e w' => ∃ v1_ : Value, e = .returned (.agg #[.int .i64 r1, v1_]) ∧ Kd.R k43 43 w' w.heap.size (fun _ => True) v1_ r2 ∧ Below w.heap.size w w' := by
  have hu24 := Try.underlying24
  have hu43 := Try.underlying43
  have HR0_1 := zMk hr0_1
  have HC0_1 := zMk hc0_1
  clear hr0_1 hc0_1
  have HR1 := zMk hr1
  have HC1 := zMk hc1
  clear hr1 hc1
  have HB := zMk (Below.refl w.heap.size w)
  have H : (filigreeref04_Only.l0 k l1 0 a0_0 l0_1 a0_0 ([] : List (S43))) = some (r1, r2) := h
  clear h
  have H' := zMk H
  clear H
  go_enter Try.func33, Try.ntmps33
  go_wp2_with (first | ((with_reducible refine gate_dst (N := 2) rfl ?_); (try (refine gate_guard (by rfl) ?_; dsimp only)); refine box_event ?hg (N := 2) ?hd (cs := #[.int .i64 a0_0, .slice A0_1 l0_1.length c0_1]) (t := 24) ?hr ?_; (case hd => rfl); (case hg => rfl); (case hr => first | (go_simp; done)|(go_simp; rfl)|(go_simp; rw [show ∀ x : Int, IntKind.u32.wrap (IntKind.u8.wrap x) = x % 256 from fun x => (by show (x % 256) % 4294967296 = x % 256; omega)])); intro gb388 hg w3 hbox hb; have BK388 := zMk (hbox); have GW388 := zMk ((by rw [hg]; exact (zBs (by exact uT HB.out)) : w.heap.size ≤ gb388)); have GE388 := zMk ((by rw [hg]; exact (zBs (by exact uT HB.out)) : w.heap.size ≤ gb388)); have IGE388 := ownGe GE388.out; replace HB := zMk (zBt (by exact uT HB.out) hb); clear hb hbox hg)|((with_reducible refine gate_dst (N := 4) rfl ?_); (try (refine gate_guard (by rfl) ?_; dsimp only)); refine box_event ?hg (N := 4) ?hd (cs := #[.int .i64 0, .slice none 0 0]) (t := 24) ?hr ?_; (case hd => rfl); (case hg => rfl); (case hr => first | (go_simp; done)|(go_simp; rfl)|(go_simp; rw [show ∀ x : Int, IntKind.u32.wrap (IntKind.u8.wrap x) = x % 256 from fun x => (by show (x % 256) % 4294967296 = x % 256; omega)])); intro gb389 hg w4 hbox hb; have BK389 := zMk (hbox); have GW389 := zMk ((by rw [hg]; exact (zBs (by exact uT HB.out)) : w.heap.size ≤ gb389)); have GE389 := zMk ((by rw [hg]; exact (zBs (by exact uT HB.out)) : w.heap.size ≤ gb389)); have IGE389 := ownGe GE389.out; replace HB := zMk (zBt (by exact uT HB.out) hb); have NB388_389 := zMk ((by rw [hg]; exact Nat.ne_of_lt (blk_lt (g := gb388) (o := .cells #[.int .i64 a0_0, .slice A0_1 l0_1.length c0_1] 24 (0, 0)) (by (with_reducible repeat (first |  refine zKn ?_ _|  refine zKd ?_|  refine zKa ?_ _)); exact BK388.out)) : gb388 ≠ gb389)); have NB389_388 := zMk ((by rw [hg]; exact Nat.ne_of_gt (blk_lt (g := gb388) (o := .cells #[.int .i64 a0_0, .slice A0_1 l0_1.length c0_1] 24 (0, 0)) (by (with_reducible repeat (first |  refine zKn ?_ _|  refine zKd ?_|  refine zKa ?_ _)); exact BK388.out)) : gb389 ≠ gb388)); replace BK388 := zMk (zKb (g := gb388) (o := .cells #[.int .i64 a0_0, .slice A0_1 l0_1.length c0_1] 24 (0, 0)) (by (with_reducible repeat (first |  refine zKn ?_ _|  refine zKd ?_|  refine zKa ?_ _)); exact BK388.out) hb); clear hb hbox hg; have hnb5 := NB388_389.out; have hnc5 := NB389_388.out; have hcz6_0 : w4.cell? ⟨gb388, 0, none⟩ = some (.int .i64 a0_0) := (zKc BK388.out 0).trans rfl; have hcz6_1 : w4.cell? ⟨gb388, 1, none⟩ = some (.slice A0_1 l0_1.length c0_1) := (zKc BK388.out 1).trans rfl; have hfz6_0 := zKf BK388.out 0; have hfz6_1 := zKf BK388.out 1)|((with_reducible refine gate_dst (N := 5) rfl ?_); (try (refine gate_guard (by rfl) ?_; dsimp only)); refine box_event ?hg (N := 5) ?hd (cs := #[.int .i64 0, .slice none 0 0]) (t := 24) ?hr ?_; (case hd => rfl); (case hg => rfl); (case hr => first | (go_simp; done)|(go_simp; rfl)|(go_simp; rw [show ∀ x : Int, IntKind.u32.wrap (IntKind.u8.wrap x) = x % 256 from fun x => (by show (x % 256) % 4294967296 = x % 256; omega)])); intro gb390 hg w7 hbox hb; have BK390 := zMk (hbox); have GW390 := zMk ((by rw [hg]; exact (zBs (by exact uT HB.out)) : w.heap.size ≤ gb390)); have GE390 := zMk ((by rw [hg]; exact (zBs (by exact uT HB.out)) : w.heap.size ≤ gb390)); have IGE390 := ownGe GE390.out; replace HB := zMk (zBt (by exact uT HB.out) hb); have NB388_390 := zMk ((by rw [hg]; exact Nat.ne_of_lt (blk_lt (g := gb388) (o := .cells #[.int .i64 a0_0, .slice A0_1 l0_1.length c0_1] 24 (0, 0)) (by (with_reducible repeat (first |  refine zKn ?_ _|  refine zKd ?_|  refine zKa ?_ _)); exact BK388.out)) : gb388 ≠ gb390)); have NB390_388 := zMk ((by rw [hg]; exact Nat.ne_of_gt (blk_lt (g := gb388) (o := .cells #[.int .i64 a0_0, .slice A0_1 l0_1.length c0_1] 24 (0, 0)) (by (with_reducible repeat (first |  refine zKn ?_ _|  refine zKd ?_|  refine zKa ?_ _)); exact BK388.out)) : gb390 ≠ gb388)); replace BK388 := zMk (zKb (g := gb388) (o := .cells #[.int .i64 a0_0, .slice A0_1 l0_1.length c0_1] 24 (0, 0)) (by (with_reducible repeat (first |  refine zKn ?_ _|  refine zKd ?_|  refine zKa ?_ _)); exact BK388.out) hb); have NB389_390 := zMk ((by rw [hg]; exact Nat.ne_of_lt (blk_lt (g := gb389) (o := .cells #[.int .i64 0, .slice none 0 0] 24 (0, 0)) (by (with_reducible repeat (first |  refine zKn ?_ _|  refine zKd ?_|  refine zKa ?_ _)); exact BK389.out)) : gb389 ≠ gb390)); have NB390_389 := zMk ((by rw [hg]; exact Nat.ne_of_gt (blk_lt (g := gb389) (o := .cells #[.int .i64 0, .slice none 0 0] 24 (0, 0)) (by (with_reducible repeat (first |  refine zKn ?_ _|  refine zKd ?_|  refine zKa ?_ _)); exact BK389.out)) : gb390 ≠ gb389)); replace BK389 := zMk (zKb (g := gb389) (o := .cells #[.int .i64 0, .slice none 0 0] 24 (0, 0)) (by (with_reducible repeat (first |  refine zKn ?_ _|  refine zKd ?_|  refine zKa ?_ _)); exact BK389.out) hb); clear hb hbox hg; have hnb8 := NB390_388.out; have hnc8 := NB388_390.out; have hnb9 := NB390_389.out; have hnc9 := NB389_390.out; have hcz10_0 : w7.cell? ⟨gb390, 0, none⟩ = some (.int .i64 0) := (zKc BK390.out 0).trans rfl; have hcz10_1 : w7.cell? ⟨gb390, 1, none⟩ = some (.slice none 0 0) := (zKc BK390.out 1).trans rfl; have hfz10_0 := zKf BK390.out 0; have hfz10_1 := zKf BK390.out 1))
  go_loopg [6] k (fun kq v6 w' => ∃ (x6_1 : Int) (x391001_1 : List (S43)) (u391001 : Value), v6 = .int .i64 x6_1 ∧ Aside0 (filigreeref04_Only.l0 kq l1 x6_1 a0_0 l0_1 a0_0 x391001_1 = some (r1, r2)) ∧ Aside0 (kq ≤ k) ∧ Aside0 (Kd.R k43 43 w' w.heap.size (fun _ => True) u391001 x391001_1) ∧ Aside0 (w'.heap[gb388]? = some (.cells #[.int .i64 a0_0, (.slice A0_1 l0_1.length c0_1)] 24 (0, 0))) ∧ Aside0 (w'.heap[gb389]? = some (.cells #[.int .i64 0, (.slice none 0 0)] 24 (0, 0))) ∧ Aside0 (w'.heap[gb390]? = some (.cells #[.int .i64 a0_0, u391001] 24 (0, 0))) ∧ Aside0 (Below w.heap.size w w'))
  case atStart => exact ⟨(0), (([] : List (S43))), (.slice none 0 0), (by first | rfl | (simp; done) | (simp [*]; done)), H', ⟨Nat.le_refl _⟩, ⟨by first | exact Kd.R_nil _ _ _ _ _ | exact Kd.N_nil _ _ _ _ _ | exact Kd.V_nil _ _ _ _ _ | exact Kd.Q_nil _ _ _ _ _ | exact Kd.S_nil _ _ _ _ _⟩, ⟨by (with_reducible repeat (first | refine zKn ?_ _ | refine zKd ?_ | refine zKa ?_ _)); refine blk_far ?_ NB388_390.out _; (with_reducible repeat (first | refine zKn ?_ _ | refine zKd ?_ | refine zKa ?_ _)); refine blk_far ?_ NB388_390.out _; (with_reducible repeat (first | refine zKn ?_ _ | refine zKd ?_ | refine zKa ?_ _)); exact BK388.out⟩, ⟨by (with_reducible repeat (first | refine zKn ?_ _ | refine zKd ?_ | refine zKa ?_ _)); refine blk_far ?_ NB389_390.out _; (with_reducible repeat (first | refine zKn ?_ _ | refine zKd ?_ | refine zKa ?_ _)); refine blk_far ?_ NB389_390.out _; (with_reducible repeat (first | refine zKn ?_ _ | refine zKd ?_ | refine zKa ?_ _)); exact BK389.out⟩, ⟨by (with_reducible repeat (first | refine zKn ?_ _ | refine zKd ?_ | refine zKa ?_ _)); refine blk_put (cs := #[.int .i64 a0_0, .slice none 0 0]) ?_ 1 _ rfl; (with_reducible repeat (first | refine zKn ?_ _ | refine zKd ?_ | refine zKa ?_ _)); refine blk_put (cs := #[.int .i64 0, .slice none 0 0]) ?_ 0 _ rfl; (with_reducible repeat (first | refine zKn ?_ _ | refine zKd ?_ | refine zKa ?_ _)); exact BK390.out⟩, ⟨by exact uT HB.out⟩⟩
  clear H'
  obtain ⟨x6_1, x391001_1, u391001, rfl, HA, HK1, HO_391001, BK388, BK389, BK390, HB⟩ := hrel
  rcases gk with _ | k1
  · exact absurd HA.out (by simp [filigreeref04_Only.l0])
  have H := HA.out
  clear HA
  simp only [filigreeref04_Only.l0] at H
  by_cases c11 : x6_1 < (l0_1.length : Int)
  · rw [if_pos c11] at H
    have c11b0 : decide (x6_1 < (l0_1.length : Int)) = true := decide_eq_true c11
    clear c11
    by_cases c12 : 0 ≤ x6_1
    rotate_left
    · rw [if_neg c12] at H; exact absurd H (by simp)
    rw [if_pos c12] at H
    have c12b0 : decide (0 ≤ x6_1) = true := decide_eq_true c12
    clear c12
    by_cases c13 : ((rd_T43 l0_1 x6_1).f0) < (l1.length : Int)
    · rw [if_pos c13] at H
      have c13b0 : decide (((rd_T43 l0_1 x6_1).f0) < (l1.length : Int)) = true := decide_eq_true c13
      clear c13
      by_cases c14 : 0 ≤ ((rd_T43 l0_1 x6_1).f0)
      rotate_left
      · rw [if_neg c14] at H; exact absurd H (by simp)
      rw [if_pos c14] at H
      have c14b0 : decide (0 ≤ ((rd_T43 l0_1 x6_1).f0)) = true := decide_eq_true c14
      clear c14
      obtain ⟨bq15, hbq15⟩ : ∃ b_ : Bool, b_ = (rdOf false l1 ((rd_T43 l0_1 x6_1).f0)) := ⟨_, rfl⟩
      replace H : (if bq15 = true then (if ((rd_T43 l0_1 x6_1).f1) < (l1.length : Int) then (if 0 ≤ ((rd_T43 l0_1 x6_1).f1) then (if rdOf false l1 ((rd_T43 l0_1 x6_1).f1) = true then (if x391001_1.length < 5864062014805 then (filigreeref04_Only.l0 k1 l1 (wrap64 (x6_1 + 1)) a0_0 l0_1 a0_0 (x391001_1 ++ [(⟨(rd_T43 l0_1 x6_1).f0, (rd_T43 l0_1 x6_1).f1, (rd_T43 l0_1 x6_1).f2⟩ : S43)])) else (none)) else (filigreeref04_Only.l0 k1 l1 (wrap64 (x6_1 + 1)) a0_0 l0_1 a0_0 x391001_1)) else (none)) else (filigreeref04_Only.l0 k1 l1 (wrap64 (x6_1 + 1)) a0_0 l0_1 a0_0 x391001_1)) else (filigreeref04_Only.l0 k1 l1 (wrap64 (x6_1 + 1)) a0_0 l0_1 a0_0 x391001_1)) = some (r1, r2) := by rw [← hbq15] at H; exact H
      have Nbq15 := zMk hbq15
      clear hbq15
      by_cases c16 : bq15 = true
      · subst c16
        replace H : (if ((rd_T43 l0_1 x6_1).f1) < (l1.length : Int) then (if 0 ≤ ((rd_T43 l0_1 x6_1).f1) then (if rdOf false l1 ((rd_T43 l0_1 x6_1).f1) = true then (if x391001_1.length < 5864062014805 then (filigreeref04_Only.l0 k1 l1 (wrap64 (x6_1 + 1)) a0_0 l0_1 a0_0 (x391001_1 ++ [(⟨(rd_T43 l0_1 x6_1).f0, (rd_T43 l0_1 x6_1).f1, (rd_T43 l0_1 x6_1).f2⟩ : S43)])) else (none)) else (filigreeref04_Only.l0 k1 l1 (wrap64 (x6_1 + 1)) a0_0 l0_1 a0_0 x391001_1)) else (none)) else (filigreeref04_Only.l0 k1 l1 (wrap64 (x6_1 + 1)) a0_0 l0_1 a0_0 x391001_1)) = some (r1, r2) := by rw [if_pos rfl] at H; exact H
        by_cases c17 : ((rd_T43 l0_1 x6_1).f1) < (l1.length : Int)
        · rw [if_pos c17] at H
          have c17b0 : decide (((rd_T43 l0_1 x6_1).f1) < (l1.length : Int)) = true := decide_eq_true c17
          clear c17
          by_cases c18 : 0 ≤ ((rd_T43 l0_1 x6_1).f1)
          rotate_left
          · rw [if_neg c18] at H; exact absurd H (by simp)
          rw [if_pos c18] at H
          have c18b0 : decide (0 ≤ ((rd_T43 l0_1 x6_1).f1)) = true := decide_eq_true c18
          clear c18
          obtain ⟨bq19, hbq19⟩ : ∃ b_ : Bool, b_ = (rdOf false l1 ((rd_T43 l0_1 x6_1).f1)) := ⟨_, rfl⟩
          replace H : (if bq19 = true then (if x391001_1.length < 5864062014805 then (filigreeref04_Only.l0 k1 l1 (wrap64 (x6_1 + 1)) a0_0 l0_1 a0_0 (x391001_1 ++ [(⟨(rd_T43 l0_1 x6_1).f0, (rd_T43 l0_1 x6_1).f1, (rd_T43 l0_1 x6_1).f2⟩ : S43)])) else (none)) else (filigreeref04_Only.l0 k1 l1 (wrap64 (x6_1 + 1)) a0_0 l0_1 a0_0 x391001_1)) = some (r1, r2) := by rw [← hbq19] at H; exact H
          have Nbq19 := zMk hbq19
          clear hbq19
          by_cases c20 : bq19 = true
          · subst c20
            replace H : (if x391001_1.length < 5864062014805 then (filigreeref04_Only.l0 k1 l1 (wrap64 (x6_1 + 1)) a0_0 l0_1 a0_0 (x391001_1 ++ [(⟨(rd_T43 l0_1 x6_1).f0, (rd_T43 l0_1 x6_1).f1, (rd_T43 l0_1 x6_1).f2⟩ : S43)])) else (none)) = some (r1, r2) := by rw [if_pos rfl] at H; exact H
            by_cases c21 : x391001_1.length < 5864062014805
            rotate_left
            · rw [if_neg c21] at H; exact absurd H (by simp)
            rw [if_pos c21] at H
            have LMc21 := zMk c21
            clear c21
            obtain ⟨y395, hy395⟩ : ∃ y_ : List (S43), y_ = (x391001_1 ++ [(⟨(rd_T43 l0_1 x6_1).f0, (rd_T43 l0_1 x6_1).f1, (rd_T43 l0_1 x6_1).f2⟩ : S43)]) := ⟨_, rfl⟩
            replace H : (filigreeref04_Only.l0 k1 l1 (wrap64 (x6_1 + 1)) a0_0 l0_1 a0_0 y395) = some (r1, r2) := by first | (rw [hy395]; with_reducible exact H) | (have H2_ := bsm H; first | (rw [hy395]; with_reducible exact H2_) | with_reducible exact H2_) | with_reducible exact H | (rw [hy395]; exact H) | exact H
            have Ny395 := zMk hy395
            clear hy395
            have H' := zMk H
            clear H
            have hnb22 := NB388_389.out
            have hnc22 := NB389_388.out
            have hnb23 := NB388_390.out
            have hnc23 := NB390_388.out
            have hcz24_0 : wr.cell? ⟨gb388, 0, none⟩ = some (.int .i64 a0_0) := (zKc BK388.out 0).trans rfl
            have hcz24_1 : wr.cell? ⟨gb388, 1, none⟩ = some (.slice A0_1 l0_1.length c0_1) := (zKc BK388.out 1).trans rfl
            have hfz24_0 := zKf BK388.out 0
            have hfz24_1 := zKf BK388.out 1
            have p391 : 0 ≤ (x6_1 : Int) := of_decide_eq_true (by assumption)
            have q391 : x6_1 < (l0_1.length : Int) := of_decide_eq_true (by assumption)
            obtain ⟨ad391, e391, hx391_0, hx391_1, hx391_2⟩ := at_T43 HR0_1.out x6_1 p391 q391
            cases e391
            replace hx391_0 := (HB.out.cell (World.block_lt_of_cell? w _ hx391_0)).trans hx391_0
            replace hx391_1 := (HB.out.cell (World.block_lt_of_cell? w _ hx391_1)).trans hx391_1
            replace hx391_2 := (HB.out.cell (World.block_lt_of_cell? w _ hx391_2)).trans hx391_2
            replace p391 := eq_true p391
            replace q391 := eq_true q391
            go_wp2_with (first | ((with_reducible refine gate_dst (N := 7) rfl ?_); (try (refine gate_guard (by rfl) ?_; dsimp only)); refine box_event ?hg (N := 7) ?hd (cs := #[.int .i64 0, .int .i64 0, .int .i64 0]) (t := 43) ?hr ?_; (case hd => rfl); (case hg => rfl); (case hr => first | (go_simp; done)|(go_simp; rfl)|(go_simp; rw [show ∀ x : Int, IntKind.u32.wrap (IntKind.u8.wrap x) = x % 256 from fun x => (by show (x % 256) % 4294967296 = x % 256; omega)])); intro gb392 hg w25 hbox hb; replace HO_391001 := zMk (zRb (Kd.R_elderB (by exact uR HO_391001.out) gb392 (Nat.le_of_eq hg.symm)) hb); have BK392 := zMk (hbox); have GW392 := zMk ((by rw [hg]; exact (zBs (by exact uT HB.out)) : w.heap.size ≤ gb392)); have GE392 := zMk ((by rw [hg]; exact (zBs (by exact uT HB.out)) : w.heap.size ≤ gb392)); have IGE392 := ownGe GE392.out; replace HB := zMk (zBt (by exact uT HB.out) hb); have NB388_392 := zMk ((by rw [hg]; exact Nat.ne_of_lt (blk_lt (g := gb388) (o := .cells #[.int .i64 a0_0, .slice (some ad391) l0_1.length c0_1] 24 (0, 0)) (by (with_reducible repeat (first |  refine zKn ?_ _|  refine zKd ?_|  refine zKa ?_ _)); exact BK388.out)) : gb388 ≠ gb392)); have NB392_388 := zMk ((by rw [hg]; exact Nat.ne_of_gt (blk_lt (g := gb388) (o := .cells #[.int .i64 a0_0, .slice (some ad391) l0_1.length c0_1] 24 (0, 0)) (by (with_reducible repeat (first |  refine zKn ?_ _|  refine zKd ?_|  refine zKa ?_ _)); exact BK388.out)) : gb392 ≠ gb388)); replace BK388 := zMk (zKb (g := gb388) (o := .cells #[.int .i64 a0_0, .slice (some ad391) l0_1.length c0_1] 24 (0, 0)) (by (with_reducible repeat (first |  refine zKn ?_ _|  refine zKd ?_|  refine zKa ?_ _)); exact BK388.out) hb); have NB389_392 := zMk ((by rw [hg]; exact Nat.ne_of_lt (blk_lt (g := gb389) (o := .cells #[.int .i64 0, .slice none 0 0] 24 (0, 0)) (by (with_reducible repeat (first |  refine zKn ?_ _|  refine zKd ?_|  refine zKa ?_ _)); exact BK389.out)) : gb389 ≠ gb392)); have NB392_389 := zMk ((by rw [hg]; exact Nat.ne_of_gt (blk_lt (g := gb389) (o := .cells #[.int .i64 0, .slice none 0 0] 24 (0, 0)) (by (with_reducible repeat (first |  refine zKn ?_ _|  refine zKd ?_|  refine zKa ?_ _)); exact BK389.out)) : gb392 ≠ gb389)); replace BK389 := zMk (zKb (g := gb389) (o := .cells #[.int .i64 0, .slice none 0 0] 24 (0, 0)) (by (with_reducible repeat (first |  refine zKn ?_ _|  refine zKd ?_|  refine zKa ?_ _)); exact BK389.out) hb); have NB390_392 := zMk ((by rw [hg]; exact Nat.ne_of_lt (blk_lt (g := gb390) (o := .cells #[.int .i64 a0_0, u391001] 24 (0, 0)) (by (with_reducible repeat (first |  refine zKn ?_ _|  refine zKd ?_|  refine zKa ?_ _)); exact BK390.out)) : gb390 ≠ gb392)); have NB392_390 := zMk ((by rw [hg]; exact Nat.ne_of_gt (blk_lt (g := gb390) (o := .cells #[.int .i64 a0_0, u391001] 24 (0, 0)) (by (with_reducible repeat (first |  refine zKn ?_ _|  refine zKd ?_|  refine zKa ?_ _)); exact BK390.out)) : gb392 ≠ gb390)); replace BK390 := zMk (zKb (g := gb390) (o := .cells #[.int .i64 a0_0, u391001] 24 (0, 0)) (by (with_reducible repeat (first |  refine zKn ?_ _|  refine zKd ?_|  refine zKa ?_ _)); exact BK390.out) hb); clear hb hbox hg; have hnb26 := NB392_388.out; have hnc26 := NB388_392.out; have hnb27 := NB392_389.out; have hnc27 := NB389_392.out; have hnb28 := NB392_390.out; have hnc28 := NB390_392.out; have hcz29_0 : w25.cell? ⟨gb392, 0, none⟩ = some (.int .i64 0) := (zKc BK392.out 0).trans rfl; have hcz29_1 : w25.cell? ⟨gb392, 1, none⟩ = some (.int .i64 0) := (zKc BK392.out 1).trans rfl; have hcz29_2 : w25.cell? ⟨gb392, 2, none⟩ = some (.int .i64 0) := (zKc BK392.out 2).trans rfl; have hfz29_0 := zKf BK392.out 0; have hfz29_1 := zKf BK392.out 1; have hfz29_2 := zKf BK392.out 2; have p393 : 0 ≤ (((rd_T43 l0_1 x6_1).f0) : Int) := of_decide_eq_true (by first | (with_reducible assumption)|  assumption); have q393 : ((rd_T43 l0_1 x6_1).f0) < (l1.length : Int) := of_decide_eq_true (by first | (with_reducible assumption)|  assumption); obtain ⟨ad393, e393, hx393_0⟩ := Kd.at_bool HR1.out ((rd_T43 l0_1 x6_1).f0) p393 q393; (try rw [← Nbq15.out] at hx393_0); (try rw [← Nbq19.out] at hx393_0); cases e393; have hn393_0 : ad393.block ≠ gb392 := Nat.ne_of_lt (Nat.lt_of_lt_of_le (by have := World.block_lt_of_cell? _ _ hx393_0; first |  rwa [add_block] at this|  exact this) GW392.out); have hn393_1 : ad393.block ≠ gb392 := Nat.ne_of_lt (Nat.lt_of_lt_of_le (by have := World.block_lt_of_cell? _ _ hx393_0; first |  rwa [add_block] at this|  exact this) GW392.out); have hn393_2 : ad393.block ≠ gb392 := Nat.ne_of_lt (Nat.lt_of_lt_of_le (by have := World.block_lt_of_cell? _ _ hx393_0; first |  rwa [add_block] at this|  exact this) GW392.out); replace hx393_0 := (HB.out.cell (World.block_lt_of_cell? w _ hx393_0)).trans hx393_0; replace hx393_0 := (cell_far (p := ⟨gb392, 0, none⟩) (by first | (rw [add_block]; exact hn393_0)|(show (Addr.add _ _).block ≠ _; rw [add_block]; exact hn393_0)|  exact hn393_0) (.int .i64 ((rd_T43 l0_1 x6_1).f0))).trans hx393_0; replace hx393_0 := (cell_far (p := ⟨gb392, 1, none⟩) (by first | (rw [add_block]; exact hn393_1)|(show (Addr.add _ _).block ≠ _; rw [add_block]; exact hn393_1)|  exact hn393_1) (.int .i64 ((rd_T43 l0_1 x6_1).f1))).trans hx393_0; replace hx393_0 := (cell_far (p := ⟨gb392, 2, none⟩) (by first | (rw [add_block]; exact hn393_2)|(show (Addr.add _ _).block ≠ _; rw [add_block]; exact hn393_2)|  exact hn393_2) (.int .i64 ((rd_T43 l0_1 x6_1).f2))).trans hx393_0; clear hn393_0 hn393_1 hn393_2; replace p393 := eq_true p393; replace q393 := eq_true q393; have p394 : 0 ≤ (((rd_T43 l0_1 x6_1).f1) : Int) := of_decide_eq_true (by first | (with_reducible assumption)|  assumption); have q394 : ((rd_T43 l0_1 x6_1).f1) < (l1.length : Int) := of_decide_eq_true (by first | (with_reducible assumption)|  assumption); obtain ⟨ad394, e394, hx394_0⟩ := Kd.at_bool HR1.out ((rd_T43 l0_1 x6_1).f1) p394 q394; (try rw [← Nbq15.out] at hx394_0); (try rw [← Nbq19.out] at hx394_0); obtain rfl : ad393 = ad394 := (by injection e394); have hn394_0 : ad393.block ≠ gb392 := Nat.ne_of_lt (Nat.lt_of_lt_of_le (by have := World.block_lt_of_cell? _ _ hx394_0; first |  rwa [add_block] at this|  exact this) GW392.out); have hn394_1 : ad393.block ≠ gb392 := Nat.ne_of_lt (Nat.lt_of_lt_of_le (by have := World.block_lt_of_cell? _ _ hx394_0; first |  rwa [add_block] at this|  exact this) GW392.out); have hn394_2 : ad393.block ≠ gb392 := Nat.ne_of_lt (Nat.lt_of_lt_of_le (by have := World.block_lt_of_cell? _ _ hx394_0; first |  rwa [add_block] at this|  exact this) GW392.out); replace hx394_0 := (HB.out.cell (World.block_lt_of_cell? w _ hx394_0)).trans hx394_0; replace hx394_0 := (cell_far (p := ⟨gb392, 0, none⟩) (by first | (rw [add_block]; exact hn394_0)|(show (Addr.add _ _).block ≠ _; rw [add_block]; exact hn394_0)|  exact hn394_0) (.int .i64 ((rd_T43 l0_1 x6_1).f0))).trans hx394_0; replace hx394_0 := (cell_far (p := ⟨gb392, 1, none⟩) (by first | (rw [add_block]; exact hn394_1)|(show (Addr.add _ _).block ≠ _; rw [add_block]; exact hn394_1)|  exact hn394_1) (.int .i64 ((rd_T43 l0_1 x6_1).f1))).trans hx394_0; replace hx394_0 := (cell_far (p := ⟨gb392, 2, none⟩) (by first | (rw [add_block]; exact hn394_2)|(show (Addr.add _ _).block ≠ _; rw [add_block]; exact hn394_2)|  exact hn394_2) (.int .i64 ((rd_T43 l0_1 x6_1).f2))).trans hx394_0; clear hn394_0 hn394_1 hn394_2; replace p394 := eq_true p394; replace q394 := eq_true q394; have hnb30 := NB390_389.out; have hnc30 := NB389_390.out; have hcz31_0 : w25.cell? ⟨gb390, 0, none⟩ = some (.int .i64 a0_0) := (zKc BK390.out 0).trans rfl; have hcz31_1 : w25.cell? ⟨gb390, 1, none⟩ = some (u391001) := (zKc BK390.out 1).trans rfl; have hfz31_0 := zKf BK390.out 0; have hfz31_1 := zKf BK390.out 1)|((with_reducible refine gate_builtin (b := .append) (xs := #[.tmp 50, .tmp 52]) rfl ?_); (try (refine gate_guard (by rfl) ?_; dsimp only)); at_builtin; refine Kd.R_append k43 (w0 := w) w.heap.size rfl (.tmp 50) (.tmp 52) 22 43 (.agg #[(.int .i64 0), (.int .i64 0), (.int .i64 0)]) 24 rfl Try.underlying22 info43 rfl (by decide) (by omega) u391001 x391001_1 (⟨(rd_T43 l0_1 x6_1).f0, (rd_T43 l0_1 x6_1).f1, (rd_T43 l0_1 x6_1).f2⟩ : S43) [.int .i64 ((rd_T43 l0_1 x6_1).f0), .int .i64 ((rd_T43 l0_1 x6_1).f1), .int .i64 ((rd_T43 l0_1 x6_1).f2)] (fun k_ => k_ ≠ gb392) (fun _ => False) rfl (by first | (go_simp; done)|(go_simp; rfl)) ?aP (fun _ hk => hk.elim) ?aF ?aO ?aB ?aS ?aL ?_; (case aP => exact k43_mkM _ _ _ (⟨(rd_T43 l0_1 x6_1).f0, (rd_T43 l0_1 x6_1).f1, (rd_T43 l0_1 x6_1).f2⟩ : S43)); (case aB => exact (by exact uT HB.out)); (case aF => exact (fun k_ hk => Kd.freshB (g := gb392) (o := .cells #[.int .i64 ((rd_T43 l0_1 x6_1).f0), .int .i64 ((rd_T43 l0_1 x6_1).f1), .int .i64 ((rd_T43 l0_1 x6_1).f2)] 43 (0, 0)) (by (with_reducible repeat (first |  refine zKn ?_ _|  refine zKd ?_|  refine zKa ?_ _)); refine blk_put (cs := #[.int .i64 ((rd_T43 l0_1 x6_1).f0), .int .i64 ((rd_T43 l0_1 x6_1).f1), .int .i64 0]) ?_ 2 _ rfl; (with_reducible repeat (first |  refine zKn ?_ _|  refine zKd ?_|  refine zKa ?_ _)); refine blk_put (cs := #[.int .i64 ((rd_T43 l0_1 x6_1).f0), .int .i64 0, .int .i64 0]) ?_ 1 _ rfl; (with_reducible repeat (first |  refine zKn ?_ _|  refine zKd ?_|  refine zKa ?_ _)); refine blk_put (cs := #[.int .i64 0, .int .i64 0, .int .i64 0]) ?_ 0 _ rfl; (with_reducible repeat (first |  refine zKn ?_ _|  refine zKd ?_|  refine zKa ?_ _)); exact BK392.out) k_ hk)); (case aO => exact (by (with_reducible repeat (first |  apply zRa|  apply zRn|  apply zRd)); exact zRm (Kd.R_far (p := ⟨gb392, 2, none⟩) (Kd.R_far (p := ⟨gb392, 1, none⟩) (Kd.R_far (p := ⟨gb392, 0, none⟩) (zRm HO_391001.out (fun k_ hk => (⟨hk, hk.2⟩ : _ ∧ k_ ≠ gb392))) (fun _ hk => hk.2) (.int .i64 ((rd_T43 l0_1 x6_1).f0))) (fun _ hk => hk.2) (.int .i64 ((rd_T43 l0_1 x6_1).f1))) (fun _ hk => hk.2) (.int .i64 ((rd_T43 l0_1 x6_1).f2))) (fun _ hk => hk.1.2))); (case aS => exact (zBs (by exact uT HB.out))); (case aL => have := LMc21.out; omega); intro v396 w32 ho hb hg hat; rw [← Ny395.out] at ho; replace BK388 := zMk (blk_grown (g := gb388) (o := .cells #[.int .i64 a0_0, .slice (some ad391) l0_1.length c0_1] 24 (0, 0)) (by (with_reducible repeat (first |  refine zKn ?_ _|  refine zKd ?_|  refine zKa ?_ _)); refine blk_far ?_ NB388_392.out _; (with_reducible repeat (first |  refine zKn ?_ _|  refine zKd ?_|  refine zKa ?_ _)); refine blk_far ?_ NB388_392.out _; (with_reducible repeat (first |  refine zKn ?_ _|  refine zKd ?_|  refine zKa ?_ _)); refine blk_far ?_ NB388_392.out _; (with_reducible repeat (first |  refine zKn ?_ _|  refine zKd ?_|  refine zKa ?_ _)); exact BK388.out) hg (Kd.R_ne HO_391001.out BK388.out (by decide))); replace BK389 := zMk (blk_grown (g := gb389) (o := .cells #[.int .i64 0, .slice none 0 0] 24 (0, 0)) (by (with_reducible repeat (first |  refine zKn ?_ _|  refine zKd ?_|  refine zKa ?_ _)); refine blk_far ?_ NB389_392.out _; (with_reducible repeat (first |  refine zKn ?_ _|  refine zKd ?_|  refine zKa ?_ _)); refine blk_far ?_ NB389_392.out _; (with_reducible repeat (first |  refine zKn ?_ _|  refine zKd ?_|  refine zKa ?_ _)); refine blk_far ?_ NB389_392.out _; (with_reducible repeat (first |  refine zKn ?_ _|  refine zKd ?_|  refine zKa ?_ _)); exact BK389.out) hg (Kd.R_ne HO_391001.out BK389.out (by decide))); replace BK390 := zMk (blk_grown (g := gb390) (o := .cells #[.int .i64 a0_0, u391001] 24 (0, 0)) (by (with_reducible repeat (first |  refine zKn ?_ _|  refine zKd ?_|  refine zKa ?_ _)); refine blk_far ?_ NB390_392.out _; (with_reducible repeat (first |  refine zKn ?_ _|  refine zKd ?_|  refine zKa ?_ _)); refine blk_far ?_ NB390_392.out _; (with_reducible repeat (first |  refine zKn ?_ _|  refine zKd ?_|  refine zKa ?_ _)); refine blk_far ?_ NB390_392.out _; (with_reducible repeat (first |  refine zKn ?_ _|  refine zKd ?_|  refine zKa ?_ _)); exact BK390.out) hg (Kd.R_ne HO_391001.out BK390.out (by decide))); replace BK392 := zMk (blk_grown (g := gb392) (o := .cells #[.int .i64 ((rd_T43 l0_1 x6_1).f0), .int .i64 ((rd_T43 l0_1 x6_1).f1), .int .i64 ((rd_T43 l0_1 x6_1).f2)] 43 (0, 0)) (by (with_reducible repeat (first |  refine zKn ?_ _|  refine zKd ?_|  refine zKa ?_ _)); refine blk_put (cs := #[.int .i64 ((rd_T43 l0_1 x6_1).f0), .int .i64 ((rd_T43 l0_1 x6_1).f1), .int .i64 0]) ?_ 2 _ rfl; (with_reducible repeat (first |  refine zKn ?_ _|  refine zKd ?_|  refine zKa ?_ _)); refine blk_put (cs := #[.int .i64 ((rd_T43 l0_1 x6_1).f0), .int .i64 0, .int .i64 0]) ?_ 1 _ rfl; (with_reducible repeat (first |  refine zKn ?_ _|  refine zKd ?_|  refine zKa ?_ _)); refine blk_put (cs := #[.int .i64 0, .int .i64 0, .int .i64 0]) ?_ 0 _ rfl; (with_reducible repeat (first |  refine zKn ?_ _|  refine zKd ?_|  refine zKa ?_ _)); exact BK392.out) hg (Kd.R_away HO_391001.out (fun _ hk => hk.2))); replace HB := zMk (hb); have HO397 := zMk (ho); clear HO_391001 ho hb hg hat; obtain ⟨Ao33, co33, eo33⟩ := zRs HO397.out; subst eo33; have hcz34_0 : w32.cell? ⟨gb390, 0, none⟩ = some (.int .i64 a0_0) := (zKc BK390.out 0).trans rfl; have hcz34_1 : w32.cell? ⟨gb390, 1, none⟩ = some (u391001) := (zKc BK390.out 1).trans rfl; have hfz34_0 := zKf BK390.out 0; have hfz34_1 := zKf BK390.out 1))
            go_roundg k1
            case measure => have := HK1.out; omega
            case rel => exact ⟨(wrap64 (x6_1 + 1)), (y395), (.slice Ao33 y395.length co33), (by first | rfl | (simp; done) | (simp [*]; done)), H', ⟨by have := HK1.out; omega⟩, ⟨by (with_reducible repeat (first | apply zRa | apply zRn | apply zRd)); exact zRm (Kd.R_far (p := ⟨gb390, 1, none⟩) (Kd.R_types HO397.out BK390.out (by decide)) (fun _ hk => hk.2) (.slice Ao33 y395.length co33)) (fun _ hk => trivial)⟩, ⟨by (with_reducible repeat (first | refine zKn ?_ _ | refine zKd ?_ | refine zKa ?_ _)); refine blk_far ?_ NB388_390.out _; (with_reducible repeat (first | refine zKn ?_ _ | refine zKd ?_ | refine zKa ?_ _)); exact BK388.out⟩, ⟨by (with_reducible repeat (first | refine zKn ?_ _ | refine zKd ?_ | refine zKa ?_ _)); refine blk_far ?_ NB389_390.out _; (with_reducible repeat (first | refine zKn ?_ _ | refine zKd ?_ | refine zKa ?_ _)); exact BK389.out⟩, ⟨by (with_reducible repeat (first | refine zKn ?_ _ | refine zKd ?_ | refine zKa ?_ _)); refine blk_put (cs := #[.int .i64 a0_0, u391001]) ?_ 1 _ rfl; (with_reducible repeat (first | refine zKn ?_ _ | refine zKd ?_ | refine zKa ?_ _)); exact BK390.out⟩, ⟨by exact uT HB.out⟩⟩
          · replace c20 := Bool.eq_false_iff.mpr c20
            subst c20
            replace H : (filigreeref04_Only.l0 k1 l1 (wrap64 (x6_1 + 1)) a0_0 l0_1 a0_0 x391001_1) = some (r1, r2) := by rw [if_neg (show ¬ (false = true) by decide)] at H; exact H
            have H' := zMk H
            clear H
            have hnb35 := NB388_389.out
            have hnc35 := NB389_388.out
            have hnb36 := NB388_390.out
            have hnc36 := NB390_388.out
            have hcz37_0 : wr.cell? ⟨gb388, 0, none⟩ = some (.int .i64 a0_0) := (zKc BK388.out 0).trans rfl
            have hcz37_1 : wr.cell? ⟨gb388, 1, none⟩ = some (.slice A0_1 l0_1.length c0_1) := (zKc BK388.out 1).trans rfl
            have hfz37_0 := zKf BK388.out 0
            have hfz37_1 := zKf BK388.out 1
            have p391 : 0 ≤ (x6_1 : Int) := of_decide_eq_true (by assumption)
            have q391 : x6_1 < (l0_1.length : Int) := of_decide_eq_true (by assumption)
            obtain ⟨ad391, e391, hx391_0, hx391_1, hx391_2⟩ := at_T43 HR0_1.out x6_1 p391 q391
            cases e391
            replace hx391_0 := (HB.out.cell (World.block_lt_of_cell? w _ hx391_0)).trans hx391_0
            replace hx391_1 := (HB.out.cell (World.block_lt_of_cell? w _ hx391_1)).trans hx391_1
            replace hx391_2 := (HB.out.cell (World.block_lt_of_cell? w _ hx391_2)).trans hx391_2
            replace p391 := eq_true p391
            replace q391 := eq_true q391
            go_wp2_with (first | ((with_reducible refine gate_dst (N := 7) rfl ?_); (try (refine gate_guard (by rfl) ?_; dsimp only)); refine box_event ?hg (N := 7) ?hd (cs := #[.int .i64 0, .int .i64 0, .int .i64 0]) (t := 43) ?hr ?_; (case hd => rfl); (case hg => rfl); (case hr => first | (go_simp; done)|(go_simp; rfl)|(go_simp; rw [show ∀ x : Int, IntKind.u32.wrap (IntKind.u8.wrap x) = x % 256 from fun x => (by show (x % 256) % 4294967296 = x % 256; omega)])); intro gb392 hg w38 hbox hb; replace HO_391001 := zMk (zRb (Kd.R_elderB (by exact uR HO_391001.out) gb392 (Nat.le_of_eq hg.symm)) hb); have BK392 := zMk (hbox); have GW392 := zMk ((by rw [hg]; exact (zBs (by exact uT HB.out)) : w.heap.size ≤ gb392)); have GE392 := zMk ((by rw [hg]; exact (zBs (by exact uT HB.out)) : w.heap.size ≤ gb392)); have IGE392 := ownGe GE392.out; replace HB := zMk (zBt (by exact uT HB.out) hb); have NB388_392 := zMk ((by rw [hg]; exact Nat.ne_of_lt (blk_lt (g := gb388) (o := .cells #[.int .i64 a0_0, .slice (some ad391) l0_1.length c0_1] 24 (0, 0)) (by (with_reducible repeat (first |  refine zKn ?_ _|  refine zKd ?_|  refine zKa ?_ _)); exact BK388.out)) : gb388 ≠ gb392)); have NB392_388 := zMk ((by rw [hg]; exact Nat.ne_of_gt (blk_lt (g := gb388) (o := .cells #[.int .i64 a0_0, .slice (some ad391) l0_1.length c0_1] 24 (0, 0)) (by (with_reducible repeat (first |  refine zKn ?_ _|  refine zKd ?_|  refine zKa ?_ _)); exact BK388.out)) : gb392 ≠ gb388)); replace BK388 := zMk (zKb (g := gb388) (o := .cells #[.int .i64 a0_0, .slice (some ad391) l0_1.length c0_1] 24 (0, 0)) (by (with_reducible repeat (first |  refine zKn ?_ _|  refine zKd ?_|  refine zKa ?_ _)); exact BK388.out) hb); have NB389_392 := zMk ((by rw [hg]; exact Nat.ne_of_lt (blk_lt (g := gb389) (o := .cells #[.int .i64 0, .slice none 0 0] 24 (0, 0)) (by (with_reducible repeat (first |  refine zKn ?_ _|  refine zKd ?_|  refine zKa ?_ _)); exact BK389.out)) : gb389 ≠ gb392)); have NB392_389 := zMk ((by rw [hg]; exact Nat.ne_of_gt (blk_lt (g := gb389) (o := .cells #[.int .i64 0, .slice none 0 0] 24 (0, 0)) (by (with_reducible repeat (first |  refine zKn ?_ _|  refine zKd ?_|  refine zKa ?_ _)); exact BK389.out)) : gb392 ≠ gb389)); replace BK389 := zMk (zKb (g := gb389) (o := .cells #[.int .i64 0, .slice none 0 0] 24 (0, 0)) (by (with_reducible repeat (first |  refine zKn ?_ _|  refine zKd ?_|  refine zKa ?_ _)); exact BK389.out) hb); have NB390_392 := zMk ((by rw [hg]; exact Nat.ne_of_lt (blk_lt (g := gb390) (o := .cells #[.int .i64 a0_0, u391001] 24 (0, 0)) (by (with_reducible repeat (first |  refine zKn ?_ _|  refine zKd ?_|  refine zKa ?_ _)); exact BK390.out)) : gb390 ≠ gb392)); have NB392_390 := zMk ((by rw [hg]; exact Nat.ne_of_gt (blk_lt (g := gb390) (o := .cells #[.int .i64 a0_0, u391001] 24 (0, 0)) (by (with_reducible repeat (first |  refine zKn ?_ _|  refine zKd ?_|  refine zKa ?_ _)); exact BK390.out)) : gb392 ≠ gb390)); replace BK390 := zMk (zKb (g := gb390) (o := .cells #[.int .i64 a0_0, u391001] 24 (0, 0)) (by (with_reducible repeat (first |  refine zKn ?_ _|  refine zKd ?_|  refine zKa ?_ _)); exact BK390.out) hb); clear hb hbox hg; have hnb39 := NB392_388.out; have hnc39 := NB388_392.out; have hnb40 := NB392_389.out; have hnc40 := NB389_392.out; have hnb41 := NB392_390.out; have hnc41 := NB390_392.out; have hcz42_0 : w38.cell? ⟨gb392, 0, none⟩ = some (.int .i64 0) := (zKc BK392.out 0).trans rfl; have hcz42_1 : w38.cell? ⟨gb392, 1, none⟩ = some (.int .i64 0) := (zKc BK392.out 1).trans rfl; have hcz42_2 : w38.cell? ⟨gb392, 2, none⟩ = some (.int .i64 0) := (zKc BK392.out 2).trans rfl; have hfz42_0 := zKf BK392.out 0; have hfz42_1 := zKf BK392.out 1; have hfz42_2 := zKf BK392.out 2; have p393 : 0 ≤ (((rd_T43 l0_1 x6_1).f0) : Int) := of_decide_eq_true (by first | (with_reducible assumption)|  assumption); have q393 : ((rd_T43 l0_1 x6_1).f0) < (l1.length : Int) := of_decide_eq_true (by first | (with_reducible assumption)|  assumption); obtain ⟨ad393, e393, hx393_0⟩ := Kd.at_bool HR1.out ((rd_T43 l0_1 x6_1).f0) p393 q393; (try rw [← Nbq15.out] at hx393_0); (try rw [← Nbq19.out] at hx393_0); cases e393; have hn393_0 : ad393.block ≠ gb392 := Nat.ne_of_lt (Nat.lt_of_lt_of_le (by have := World.block_lt_of_cell? _ _ hx393_0; first |  rwa [add_block] at this|  exact this) GW392.out); have hn393_1 : ad393.block ≠ gb392 := Nat.ne_of_lt (Nat.lt_of_lt_of_le (by have := World.block_lt_of_cell? _ _ hx393_0; first |  rwa [add_block] at this|  exact this) GW392.out); have hn393_2 : ad393.block ≠ gb392 := Nat.ne_of_lt (Nat.lt_of_lt_of_le (by have := World.block_lt_of_cell? _ _ hx393_0; first |  rwa [add_block] at this|  exact this) GW392.out); replace hx393_0 := (HB.out.cell (World.block_lt_of_cell? w _ hx393_0)).trans hx393_0; replace hx393_0 := (cell_far (p := ⟨gb392, 0, none⟩) (by first | (rw [add_block]; exact hn393_0)|(show (Addr.add _ _).block ≠ _; rw [add_block]; exact hn393_0)|  exact hn393_0) (.int .i64 ((rd_T43 l0_1 x6_1).f0))).trans hx393_0; replace hx393_0 := (cell_far (p := ⟨gb392, 1, none⟩) (by first | (rw [add_block]; exact hn393_1)|(show (Addr.add _ _).block ≠ _; rw [add_block]; exact hn393_1)|  exact hn393_1) (.int .i64 ((rd_T43 l0_1 x6_1).f1))).trans hx393_0; replace hx393_0 := (cell_far (p := ⟨gb392, 2, none⟩) (by first | (rw [add_block]; exact hn393_2)|(show (Addr.add _ _).block ≠ _; rw [add_block]; exact hn393_2)|  exact hn393_2) (.int .i64 ((rd_T43 l0_1 x6_1).f2))).trans hx393_0; clear hn393_0 hn393_1 hn393_2; replace p393 := eq_true p393; replace q393 := eq_true q393; have p394 : 0 ≤ (((rd_T43 l0_1 x6_1).f1) : Int) := of_decide_eq_true (by first | (with_reducible assumption)|  assumption); have q394 : ((rd_T43 l0_1 x6_1).f1) < (l1.length : Int) := of_decide_eq_true (by first | (with_reducible assumption)|  assumption); obtain ⟨ad394, e394, hx394_0⟩ := Kd.at_bool HR1.out ((rd_T43 l0_1 x6_1).f1) p394 q394; (try rw [← Nbq15.out] at hx394_0); (try rw [← Nbq19.out] at hx394_0); obtain rfl : ad393 = ad394 := (by injection e394); have hn394_0 : ad393.block ≠ gb392 := Nat.ne_of_lt (Nat.lt_of_lt_of_le (by have := World.block_lt_of_cell? _ _ hx394_0; first |  rwa [add_block] at this|  exact this) GW392.out); have hn394_1 : ad393.block ≠ gb392 := Nat.ne_of_lt (Nat.lt_of_lt_of_le (by have := World.block_lt_of_cell? _ _ hx394_0; first |  rwa [add_block] at this|  exact this) GW392.out); have hn394_2 : ad393.block ≠ gb392 := Nat.ne_of_lt (Nat.lt_of_lt_of_le (by have := World.block_lt_of_cell? _ _ hx394_0; first |  rwa [add_block] at this|  exact this) GW392.out); replace hx394_0 := (HB.out.cell (World.block_lt_of_cell? w _ hx394_0)).trans hx394_0; replace hx394_0 := (cell_far (p := ⟨gb392, 0, none⟩) (by first | (rw [add_block]; exact hn394_0)|(show (Addr.add _ _).block ≠ _; rw [add_block]; exact hn394_0)|  exact hn394_0) (.int .i64 ((rd_T43 l0_1 x6_1).f0))).trans hx394_0; replace hx394_0 := (cell_far (p := ⟨gb392, 1, none⟩) (by first | (rw [add_block]; exact hn394_1)|(show (Addr.add _ _).block ≠ _; rw [add_block]; exact hn394_1)|  exact hn394_1) (.int .i64 ((rd_T43 l0_1 x6_1).f1))).trans hx394_0; replace hx394_0 := (cell_far (p := ⟨gb392, 2, none⟩) (by first | (rw [add_block]; exact hn394_2)|(show (Addr.add _ _).block ≠ _; rw [add_block]; exact hn394_2)|  exact hn394_2) (.int .i64 ((rd_T43 l0_1 x6_1).f2))).trans hx394_0; clear hn394_0 hn394_1 hn394_2; replace p394 := eq_true p394; replace q394 := eq_true q394))
            go_roundg k1
            case measure => have := HK1.out; omega
            case rel => exact ⟨(wrap64 (x6_1 + 1)), (x391001_1), (u391001), (by first | rfl | (simp; done) | (simp [*]; done)), H', ⟨by have := HK1.out; omega⟩, ⟨by (with_reducible repeat (first | apply zRa | apply zRn | apply zRd)); exact zRm (Kd.R_far (p := ⟨gb392, 2, none⟩) (Kd.R_far (p := ⟨gb392, 1, none⟩) (Kd.R_far (p := ⟨gb392, 0, none⟩) (zRm HO_391001.out (fun k_ hk => (⟨hk, hk.2⟩ : _ ∧ k_ ≠ gb392))) (fun _ hk => hk.2) (.int .i64 ((rd_T43 l0_1 x6_1).f0))) (fun _ hk => hk.2) (.int .i64 ((rd_T43 l0_1 x6_1).f1))) (fun _ hk => hk.2) (.int .i64 ((rd_T43 l0_1 x6_1).f2))) (fun _ hk => trivial)⟩, ⟨by (with_reducible repeat (first | refine zKn ?_ _ | refine zKd ?_ | refine zKa ?_ _)); refine blk_far ?_ NB388_392.out _; (with_reducible repeat (first | refine zKn ?_ _ | refine zKd ?_ | refine zKa ?_ _)); refine blk_far ?_ NB388_392.out _; (with_reducible repeat (first | refine zKn ?_ _ | refine zKd ?_ | refine zKa ?_ _)); refine blk_far ?_ NB388_392.out _; (with_reducible repeat (first | refine zKn ?_ _ | refine zKd ?_ | refine zKa ?_ _)); exact BK388.out⟩, ⟨by (with_reducible repeat (first | refine zKn ?_ _ | refine zKd ?_ | refine zKa ?_ _)); refine blk_far ?_ NB389_392.out _; (with_reducible repeat (first | refine zKn ?_ _ | refine zKd ?_ | refine zKa ?_ _)); refine blk_far ?_ NB389_392.out _; (with_reducible repeat (first | refine zKn ?_ _ | refine zKd ?_ | refine zKa ?_ _)); refine blk_far ?_ NB389_392.out _; (with_reducible repeat (first | refine zKn ?_ _ | refine zKd ?_ | refine zKa ?_ _)); exact BK389.out⟩, ⟨by (with_reducible repeat (first | refine zKn ?_ _ | refine zKd ?_ | refine zKa ?_ _)); refine blk_far ?_ NB390_392.out _; (with_reducible repeat (first | refine zKn ?_ _ | refine zKd ?_ | refine zKa ?_ _)); refine blk_far ?_ NB390_392.out _; (with_reducible repeat (first | refine zKn ?_ _ | refine zKd ?_ | refine zKa ?_ _)); refine blk_far ?_ NB390_392.out _; (with_reducible repeat (first | refine zKn ?_ _ | refine zKd ?_ | refine zKa ?_ _)); exact BK390.out⟩, ⟨by exact uT HB.out⟩⟩
        · rw [if_neg c17] at H
          have c17b0 : decide (((rd_T43 l0_1 x6_1).f1) < (l1.length : Int)) = false := decide_eq_false c17
          clear c17
          have H' := zMk H
          clear H
          have hnb43 := NB388_389.out
          have hnc43 := NB389_388.out
          have hnb44 := NB388_390.out
          have hnc44 := NB390_388.out
          have hcz45_0 : wr.cell? ⟨gb388, 0, none⟩ = some (.int .i64 a0_0) := (zKc BK388.out 0).trans rfl
          have hcz45_1 : wr.cell? ⟨gb388, 1, none⟩ = some (.slice A0_1 l0_1.length c0_1) := (zKc BK388.out 1).trans rfl
          have hfz45_0 := zKf BK388.out 0
          have hfz45_1 := zKf BK388.out 1
          have p391 : 0 ≤ (x6_1 : Int) := of_decide_eq_true (by assumption)
          have q391 : x6_1 < (l0_1.length : Int) := of_decide_eq_true (by assumption)
          obtain ⟨ad391, e391, hx391_0, hx391_1, hx391_2⟩ := at_T43 HR0_1.out x6_1 p391 q391
          cases e391
          replace hx391_0 := (HB.out.cell (World.block_lt_of_cell? w _ hx391_0)).trans hx391_0
          replace hx391_1 := (HB.out.cell (World.block_lt_of_cell? w _ hx391_1)).trans hx391_1
          replace hx391_2 := (HB.out.cell (World.block_lt_of_cell? w _ hx391_2)).trans hx391_2
          replace p391 := eq_true p391
          replace q391 := eq_true q391
          go_wp2_with (first | ((with_reducible refine gate_dst (N := 7) rfl ?_); (try (refine gate_guard (by rfl) ?_; dsimp only)); refine box_event ?hg (N := 7) ?hd (cs := #[.int .i64 0, .int .i64 0, .int .i64 0]) (t := 43) ?hr ?_; (case hd => rfl); (case hg => rfl); (case hr => first | (go_simp; done)|(go_simp; rfl)|(go_simp; rw [show ∀ x : Int, IntKind.u32.wrap (IntKind.u8.wrap x) = x % 256 from fun x => (by show (x % 256) % 4294967296 = x % 256; omega)])); intro gb392 hg w46 hbox hb; replace HO_391001 := zMk (zRb (Kd.R_elderB (by exact uR HO_391001.out) gb392 (Nat.le_of_eq hg.symm)) hb); have BK392 := zMk (hbox); have GW392 := zMk ((by rw [hg]; exact (zBs (by exact uT HB.out)) : w.heap.size ≤ gb392)); have GE392 := zMk ((by rw [hg]; exact (zBs (by exact uT HB.out)) : w.heap.size ≤ gb392)); have IGE392 := ownGe GE392.out; replace HB := zMk (zBt (by exact uT HB.out) hb); have NB388_392 := zMk ((by rw [hg]; exact Nat.ne_of_lt (blk_lt (g := gb388) (o := .cells #[.int .i64 a0_0, .slice (some ad391) l0_1.length c0_1] 24 (0, 0)) (by (with_reducible repeat (first |  refine zKn ?_ _|  refine zKd ?_|  refine zKa ?_ _)); exact BK388.out)) : gb388 ≠ gb392)); have NB392_388 := zMk ((by rw [hg]; exact Nat.ne_of_gt (blk_lt (g := gb388) (o := .cells #[.int .i64 a0_0, .slice (some ad391) l0_1.length c0_1] 24 (0, 0)) (by (with_reducible repeat (first |  refine zKn ?_ _|  refine zKd ?_|  refine zKa ?_ _)); exact BK388.out)) : gb392 ≠ gb388)); replace BK388 := zMk (zKb (g := gb388) (o := .cells #[.int .i64 a0_0, .slice (some ad391) l0_1.length c0_1] 24 (0, 0)) (by (with_reducible repeat (first |  refine zKn ?_ _|  refine zKd ?_|  refine zKa ?_ _)); exact BK388.out) hb); have NB389_392 := zMk ((by rw [hg]; exact Nat.ne_of_lt (blk_lt (g := gb389) (o := .cells #[.int .i64 0, .slice none 0 0] 24 (0, 0)) (by (with_reducible repeat (first |  refine zKn ?_ _|  refine zKd ?_|  refine zKa ?_ _)); exact BK389.out)) : gb389 ≠ gb392)); have NB392_389 := zMk ((by rw [hg]; exact Nat.ne_of_gt (blk_lt (g := gb389) (o := .cells #[.int .i64 0, .slice none 0 0] 24 (0, 0)) (by (with_reducible repeat (first |  refine zKn ?_ _|  refine zKd ?_|  refine zKa ?_ _)); exact BK389.out)) : gb392 ≠ gb389)); replace BK389 := zMk (zKb (g := gb389) (o := .cells #[.int .i64 0, .slice none 0 0] 24 (0, 0)) (by (with_reducible repeat (first |  refine zKn ?_ _|  refine zKd ?_|  refine zKa ?_ _)); exact BK389.out) hb); have NB390_392 := zMk ((by rw [hg]; exact Nat.ne_of_lt (blk_lt (g := gb390) (o := .cells #[.int .i64 a0_0, u391001] 24 (0, 0)) (by (with_reducible repeat (first |  refine zKn ?_ _|  refine zKd ?_|  refine zKa ?_ _)); exact BK390.out)) : gb390 ≠ gb392)); have NB392_390 := zMk ((by rw [hg]; exact Nat.ne_of_gt (blk_lt (g := gb390) (o := .cells #[.int .i64 a0_0, u391001] 24 (0, 0)) (by (with_reducible repeat (first |  refine zKn ?_ _|  refine zKd ?_|  refine zKa ?_ _)); exact BK390.out)) : gb392 ≠ gb390)); replace BK390 := zMk (zKb (g := gb390) (o := .cells #[.int .i64 a0_0, u391001] 24 (0, 0)) (by (with_reducible repeat (first |  refine zKn ?_ _|  refine zKd ?_|  refine zKa ?_ _)); exact BK390.out) hb); clear hb hbox hg; have hnb47 := NB392_388.out; have hnc47 := NB388_392.out; have hnb48 := NB392_389.out; have hnc48 := NB389_392.out; have hnb49 := NB392_390.out; have hnc49 := NB390_392.out; have hcz50_0 : w46.cell? ⟨gb392, 0, none⟩ = some (.int .i64 0) := (zKc BK392.out 0).trans rfl; have hcz50_1 : w46.cell? ⟨gb392, 1, none⟩ = some (.int .i64 0) := (zKc BK392.out 1).trans rfl; have hcz50_2 : w46.cell? ⟨gb392, 2, none⟩ = some (.int .i64 0) := (zKc BK392.out 2).trans rfl; have hfz50_0 := zKf BK392.out 0; have hfz50_1 := zKf BK392.out 1; have hfz50_2 := zKf BK392.out 2; have p393 : 0 ≤ (((rd_T43 l0_1 x6_1).f0) : Int) := of_decide_eq_true (by first | (with_reducible assumption)|  assumption); have q393 : ((rd_T43 l0_1 x6_1).f0) < (l1.length : Int) := of_decide_eq_true (by first | (with_reducible assumption)|  assumption); obtain ⟨ad393, e393, hx393_0⟩ := Kd.at_bool HR1.out ((rd_T43 l0_1 x6_1).f0) p393 q393; (try rw [← Nbq15.out] at hx393_0); cases e393; have hn393_0 : ad393.block ≠ gb392 := Nat.ne_of_lt (Nat.lt_of_lt_of_le (by have := World.block_lt_of_cell? _ _ hx393_0; first |  rwa [add_block] at this|  exact this) GW392.out); have hn393_1 : ad393.block ≠ gb392 := Nat.ne_of_lt (Nat.lt_of_lt_of_le (by have := World.block_lt_of_cell? _ _ hx393_0; first |  rwa [add_block] at this|  exact this) GW392.out); have hn393_2 : ad393.block ≠ gb392 := Nat.ne_of_lt (Nat.lt_of_lt_of_le (by have := World.block_lt_of_cell? _ _ hx393_0; first |  rwa [add_block] at this|  exact this) GW392.out); replace hx393_0 := (HB.out.cell (World.block_lt_of_cell? w _ hx393_0)).trans hx393_0; replace hx393_0 := (cell_far (p := ⟨gb392, 0, none⟩) (by first | (rw [add_block]; exact hn393_0)|(show (Addr.add _ _).block ≠ _; rw [add_block]; exact hn393_0)|  exact hn393_0) (.int .i64 ((rd_T43 l0_1 x6_1).f0))).trans hx393_0; replace hx393_0 := (cell_far (p := ⟨gb392, 1, none⟩) (by first | (rw [add_block]; exact hn393_1)|(show (Addr.add _ _).block ≠ _; rw [add_block]; exact hn393_1)|  exact hn393_1) (.int .i64 ((rd_T43 l0_1 x6_1).f1))).trans hx393_0; replace hx393_0 := (cell_far (p := ⟨gb392, 2, none⟩) (by first | (rw [add_block]; exact hn393_2)|(show (Addr.add _ _).block ≠ _; rw [add_block]; exact hn393_2)|  exact hn393_2) (.int .i64 ((rd_T43 l0_1 x6_1).f2))).trans hx393_0; clear hn393_0 hn393_1 hn393_2; replace p393 := eq_true p393; replace q393 := eq_true q393))
          go_roundg k1
          case measure => have := HK1.out; omega
          case rel => exact ⟨(wrap64 (x6_1 + 1)), (x391001_1), (u391001), (by first | rfl | (simp; done) | (simp [*]; done)), H', ⟨by have := HK1.out; omega⟩, ⟨by (with_reducible repeat (first | apply zRa | apply zRn | apply zRd)); exact zRm (Kd.R_far (p := ⟨gb392, 2, none⟩) (Kd.R_far (p := ⟨gb392, 1, none⟩) (Kd.R_far (p := ⟨gb392, 0, none⟩) (zRm HO_391001.out (fun k_ hk => (⟨hk, hk.2⟩ : _ ∧ k_ ≠ gb392))) (fun _ hk => hk.2) (.int .i64 ((rd_T43 l0_1 x6_1).f0))) (fun _ hk => hk.2) (.int .i64 ((rd_T43 l0_1 x6_1).f1))) (fun _ hk => hk.2) (.int .i64 ((rd_T43 l0_1 x6_1).f2))) (fun _ hk => trivial)⟩, ⟨by (with_reducible repeat (first | refine zKn ?_ _ | refine zKd ?_ | refine zKa ?_ _)); refine blk_far ?_ NB388_392.out _; (with_reducible repeat (first | refine zKn ?_ _ | refine zKd ?_ | refine zKa ?_ _)); refine blk_far ?_ NB388_392.out _; (with_reducible repeat (first | refine zKn ?_ _ | refine zKd ?_ | refine zKa ?_ _)); refine blk_far ?_ NB388_392.out _; (with_reducible repeat (first | refine zKn ?_ _ | refine zKd ?_ | refine zKa ?_ _)); exact BK388.out⟩, ⟨by (with_reducible repeat (first | refine zKn ?_ _ | refine zKd ?_ | refine zKa ?_ _)); refine blk_far ?_ NB389_392.out _; (with_reducible repeat (first | refine zKn ?_ _ | refine zKd ?_ | refine zKa ?_ _)); refine blk_far ?_ NB389_392.out _; (with_reducible repeat (first | refine zKn ?_ _ | refine zKd ?_ | refine zKa ?_ _)); refine blk_far ?_ NB389_392.out _; (with_reducible repeat (first | refine zKn ?_ _ | refine zKd ?_ | refine zKa ?_ _)); exact BK389.out⟩, ⟨by (with_reducible repeat (first | refine zKn ?_ _ | refine zKd ?_ | refine zKa ?_ _)); refine blk_far ?_ NB390_392.out _; (with_reducible repeat (first | refine zKn ?_ _ | refine zKd ?_ | refine zKa ?_ _)); refine blk_far ?_ NB390_392.out _; (with_reducible repeat (first | refine zKn ?_ _ | refine zKd ?_ | refine zKa ?_ _)); refine blk_far ?_ NB390_392.out _; (with_reducible repeat (first | refine zKn ?_ _ | refine zKd ?_ | refine zKa ?_ _)); exact BK390.out⟩, ⟨by exact uT HB.out⟩⟩
      · replace c16 := Bool.eq_false_iff.mpr c16
        subst c16
        replace H : (filigreeref04_Only.l0 k1 l1 (wrap64 (x6_1 + 1)) a0_0 l0_1 a0_0 x391001_1) = some (r1, r2) := by rw [if_neg (show ¬ (false = true) by decide)] at H; exact H
        have H' := zMk H
        clear H
        have hnb51 := NB388_389.out
        have hnc51 := NB389_388.out
        have hnb52 := NB388_390.out
        have hnc52 := NB390_388.out
        have hcz53_0 : wr.cell? ⟨gb388, 0, none⟩ = some (.int .i64 a0_0) := (zKc BK388.out 0).trans rfl
        have hcz53_1 : wr.cell? ⟨gb388, 1, none⟩ = some (.slice A0_1 l0_1.length c0_1) := (zKc BK388.out 1).trans rfl
        have hfz53_0 := zKf BK388.out 0
        have hfz53_1 := zKf BK388.out 1
        have p391 : 0 ≤ (x6_1 : Int) := of_decide_eq_true (by assumption)
        have q391 : x6_1 < (l0_1.length : Int) := of_decide_eq_true (by assumption)
        obtain ⟨ad391, e391, hx391_0, hx391_1, hx391_2⟩ := at_T43 HR0_1.out x6_1 p391 q391
        cases e391
        replace hx391_0 := (HB.out.cell (World.block_lt_of_cell? w _ hx391_0)).trans hx391_0
        replace hx391_1 := (HB.out.cell (World.block_lt_of_cell? w _ hx391_1)).trans hx391_1
        replace hx391_2 := (HB.out.cell (World.block_lt_of_cell? w _ hx391_2)).trans hx391_2
        replace p391 := eq_true p391
        replace q391 := eq_true q391
        go_wp2_with (first | ((with_reducible refine gate_dst (N := 7) rfl ?_); (try (refine gate_guard (by rfl) ?_; dsimp only)); refine box_event ?hg (N := 7) ?hd (cs := #[.int .i64 0, .int .i64 0, .int .i64 0]) (t := 43) ?hr ?_; (case hd => rfl); (case hg => rfl); (case hr => first | (go_simp; done)|(go_simp; rfl)|(go_simp; rw [show ∀ x : Int, IntKind.u32.wrap (IntKind.u8.wrap x) = x % 256 from fun x => (by show (x % 256) % 4294967296 = x % 256; omega)])); intro gb392 hg w54 hbox hb; replace HO_391001 := zMk (zRb (Kd.R_elderB (by exact uR HO_391001.out) gb392 (Nat.le_of_eq hg.symm)) hb); have BK392 := zMk (hbox); have GW392 := zMk ((by rw [hg]; exact (zBs (by exact uT HB.out)) : w.heap.size ≤ gb392)); have GE392 := zMk ((by rw [hg]; exact (zBs (by exact uT HB.out)) : w.heap.size ≤ gb392)); have IGE392 := ownGe GE392.out; replace HB := zMk (zBt (by exact uT HB.out) hb); have NB388_392 := zMk ((by rw [hg]; exact Nat.ne_of_lt (blk_lt (g := gb388) (o := .cells #[.int .i64 a0_0, .slice (some ad391) l0_1.length c0_1] 24 (0, 0)) (by (with_reducible repeat (first |  refine zKn ?_ _|  refine zKd ?_|  refine zKa ?_ _)); exact BK388.out)) : gb388 ≠ gb392)); have NB392_388 := zMk ((by rw [hg]; exact Nat.ne_of_gt (blk_lt (g := gb388) (o := .cells #[.int .i64 a0_0, .slice (some ad391) l0_1.length c0_1] 24 (0, 0)) (by (with_reducible repeat (first |  refine zKn ?_ _|  refine zKd ?_|  refine zKa ?_ _)); exact BK388.out)) : gb392 ≠ gb388)); replace BK388 := zMk (zKb (g := gb388) (o := .cells #[.int .i64 a0_0, .slice (some ad391) l0_1.length c0_1] 24 (0, 0)) (by (with_reducible repeat (first |  refine zKn ?_ _|  refine zKd ?_|  refine zKa ?_ _)); exact BK388.out) hb); have NB389_392 := zMk ((by rw [hg]; exact Nat.ne_of_lt (blk_lt (g := gb389) (o := .cells #[.int .i64 0, .slice none 0 0] 24 (0, 0)) (by (with_reducible repeat (first |  refine zKn ?_ _|  refine zKd ?_|  refine zKa ?_ _)); exact BK389.out)) : gb389 ≠ gb392)); have NB392_389 := zMk ((by rw [hg]; exact Nat.ne_of_gt (blk_lt (g := gb389) (o := .cells #[.int .i64 0, .slice none 0 0] 24 (0, 0)) (by (with_reducible repeat (first |  refine zKn ?_ _|  refine zKd ?_|  refine zKa ?_ _)); exact BK389.out)) : gb392 ≠ gb389)); replace BK389 := zMk (zKb (g := gb389) (o := .cells #[.int .i64 0, .slice none 0 0] 24 (0, 0)) (by (with_reducible repeat (first |  refine zKn ?_ _|  refine zKd ?_|  refine zKa ?_ _)); exact BK389.out) hb); have NB390_392 := zMk ((by rw [hg]; exact Nat.ne_of_lt (blk_lt (g := gb390) (o := .cells #[.int .i64 a0_0, u391001] 24 (0, 0)) (by (with_reducible repeat (first |  refine zKn ?_ _|  refine zKd ?_|  refine zKa ?_ _)); exact BK390.out)) : gb390 ≠ gb392)); have NB392_390 := zMk ((by rw [hg]; exact Nat.ne_of_gt (blk_lt (g := gb390) (o := .cells #[.int .i64 a0_0, u391001] 24 (0, 0)) (by (with_reducible repeat (first |  refine zKn ?_ _|  refine zKd ?_|  refine zKa ?_ _)); exact BK390.out)) : gb392 ≠ gb390)); replace BK390 := zMk (zKb (g := gb390) (o := .cells #[.int .i64 a0_0, u391001] 24 (0, 0)) (by (with_reducible repeat (first |  refine zKn ?_ _|  refine zKd ?_|  refine zKa ?_ _)); exact BK390.out) hb); clear hb hbox hg; have hnb55 := NB392_388.out; have hnc55 := NB388_392.out; have hnb56 := NB392_389.out; have hnc56 := NB389_392.out; have hnb57 := NB392_390.out; have hnc57 := NB390_392.out; have hcz58_0 : w54.cell? ⟨gb392, 0, none⟩ = some (.int .i64 0) := (zKc BK392.out 0).trans rfl; have hcz58_1 : w54.cell? ⟨gb392, 1, none⟩ = some (.int .i64 0) := (zKc BK392.out 1).trans rfl; have hcz58_2 : w54.cell? ⟨gb392, 2, none⟩ = some (.int .i64 0) := (zKc BK392.out 2).trans rfl; have hfz58_0 := zKf BK392.out 0; have hfz58_1 := zKf BK392.out 1; have hfz58_2 := zKf BK392.out 2; have p393 : 0 ≤ (((rd_T43 l0_1 x6_1).f0) : Int) := of_decide_eq_true (by first | (with_reducible assumption)|  assumption); have q393 : ((rd_T43 l0_1 x6_1).f0) < (l1.length : Int) := of_decide_eq_true (by first | (with_reducible assumption)|  assumption); obtain ⟨ad393, e393, hx393_0⟩ := Kd.at_bool HR1.out ((rd_T43 l0_1 x6_1).f0) p393 q393; (try rw [← Nbq15.out] at hx393_0); cases e393; have hn393_0 : ad393.block ≠ gb392 := Nat.ne_of_lt (Nat.lt_of_lt_of_le (by have := World.block_lt_of_cell? _ _ hx393_0; first |  rwa [add_block] at this|  exact this) GW392.out); have hn393_1 : ad393.block ≠ gb392 := Nat.ne_of_lt (Nat.lt_of_lt_of_le (by have := World.block_lt_of_cell? _ _ hx393_0; first |  rwa [add_block] at this|  exact this) GW392.out); have hn393_2 : ad393.block ≠ gb392 := Nat.ne_of_lt (Nat.lt_of_lt_of_le (by have := World.block_lt_of_cell? _ _ hx393_0; first |  rwa [add_block] at this|  exact this) GW392.out); replace hx393_0 := (HB.out.cell (World.block_lt_of_cell? w _ hx393_0)).trans hx393_0; replace hx393_0 := (cell_far (p := ⟨gb392, 0, none⟩) (by first | (rw [add_block]; exact hn393_0)|(show (Addr.add _ _).block ≠ _; rw [add_block]; exact hn393_0)|  exact hn393_0) (.int .i64 ((rd_T43 l0_1 x6_1).f0))).trans hx393_0; replace hx393_0 := (cell_far (p := ⟨gb392, 1, none⟩) (by first | (rw [add_block]; exact hn393_1)|(show (Addr.add _ _).block ≠ _; rw [add_block]; exact hn393_1)|  exact hn393_1) (.int .i64 ((rd_T43 l0_1 x6_1).f1))).trans hx393_0; replace hx393_0 := (cell_far (p := ⟨gb392, 2, none⟩) (by first | (rw [add_block]; exact hn393_2)|(show (Addr.add _ _).block ≠ _; rw [add_block]; exact hn393_2)|  exact hn393_2) (.int .i64 ((rd_T43 l0_1 x6_1).f2))).trans hx393_0; clear hn393_0 hn393_1 hn393_2; replace p393 := eq_true p393; replace q393 := eq_true q393))
        go_roundg k1
        case measure => have := HK1.out; omega
        case rel => exact ⟨(wrap64 (x6_1 + 1)), (x391001_1), (u391001), (by first | rfl | (simp; done) | (simp [*]; done)), H', ⟨by have := HK1.out; omega⟩, ⟨by (with_reducible repeat (first | apply zRa | apply zRn | apply zRd)); exact zRm (Kd.R_far (p := ⟨gb392, 2, none⟩) (Kd.R_far (p := ⟨gb392, 1, none⟩) (Kd.R_far (p := ⟨gb392, 0, none⟩) (zRm HO_391001.out (fun k_ hk => (⟨hk, hk.2⟩ : _ ∧ k_ ≠ gb392))) (fun _ hk => hk.2) (.int .i64 ((rd_T43 l0_1 x6_1).f0))) (fun _ hk => hk.2) (.int .i64 ((rd_T43 l0_1 x6_1).f1))) (fun _ hk => hk.2) (.int .i64 ((rd_T43 l0_1 x6_1).f2))) (fun _ hk => trivial)⟩, ⟨by (with_reducible repeat (first | refine zKn ?_ _ | refine zKd ?_ | refine zKa ?_ _)); refine blk_far ?_ NB388_392.out _; (with_reducible repeat (first | refine zKn ?_ _ | refine zKd ?_ | refine zKa ?_ _)); refine blk_far ?_ NB388_392.out _; (with_reducible repeat (first | refine zKn ?_ _ | refine zKd ?_ | refine zKa ?_ _)); refine blk_far ?_ NB388_392.out _; (with_reducible repeat (first | refine zKn ?_ _ | refine zKd ?_ | refine zKa ?_ _)); exact BK388.out⟩, ⟨by (with_reducible repeat (first | refine zKn ?_ _ | refine zKd ?_ | refine zKa ?_ _)); refine blk_far ?_ NB389_392.out _; (with_reducible repeat (first | refine zKn ?_ _ | refine zKd ?_ | refine zKa ?_ _)); refine blk_far ?_ NB389_392.out _; (with_reducible repeat (first | refine zKn ?_ _ | refine zKd ?_ | refine zKa ?_ _)); refine blk_far ?_ NB389_392.out _; (with_reducible repeat (first | refine zKn ?_ _ | refine zKd ?_ | refine zKa ?_ _)); exact BK389.out⟩, ⟨by (with_reducible repeat (first | refine zKn ?_ _ | refine zKd ?_ | refine zKa ?_ _)); refine blk_far ?_ NB390_392.out _; (with_reducible repeat (first | refine zKn ?_ _ | refine zKd ?_ | refine zKa ?_ _)); refine blk_far ?_ NB390_392.out _; (with_reducible repeat (first | refine zKn ?_ _ | refine zKd ?_ | refine zKa ?_ _)); refine blk_far ?_ NB390_392.out _; (with_reducible repeat (first | refine zKn ?_ _ | refine zKd ?_ | refine zKa ?_ _)); exact BK390.out⟩, ⟨by exact uT HB.out⟩⟩
    · rw [if_neg c13] at H
      have c13b0 : decide (((rd_T43 l0_1 x6_1).f0) < (l1.length : Int)) = false := decide_eq_false c13
      clear c13
      have H' := zMk H
      clear H
      have hnb59 := NB388_389.out
      have hnc59 := NB389_388.out
      have hnb60 := NB388_390.out
      have hnc60 := NB390_388.out
      have hcz61_0 : wr.cell? ⟨gb388, 0, none⟩ = some (.int .i64 a0_0) := (zKc BK388.out 0).trans rfl
      have hcz61_1 : wr.cell? ⟨gb388, 1, none⟩ = some (.slice A0_1 l0_1.length c0_1) := (zKc BK388.out 1).trans rfl
      have hfz61_0 := zKf BK388.out 0
      have hfz61_1 := zKf BK388.out 1
      have p391 : 0 ≤ (x6_1 : Int) := of_decide_eq_true (by assumption)
      have q391 : x6_1 < (l0_1.length : Int) := of_decide_eq_true (by assumption)
      obtain ⟨ad391, e391, hx391_0, hx391_1, hx391_2⟩ := at_T43 HR0_1.out x6_1 p391 q391
      cases e391
      replace hx391_0 := (HB.out.cell (World.block_lt_of_cell? w _ hx391_0)).trans hx391_0
      replace hx391_1 := (HB.out.cell (World.block_lt_of_cell? w _ hx391_1)).trans hx391_1
      replace hx391_2 := (HB.out.cell (World.block_lt_of_cell? w _ hx391_2)).trans hx391_2
      replace p391 := eq_true p391
      replace q391 := eq_true q391
      go_wp2_with (first | ((with_reducible refine gate_dst (N := 7) rfl ?_); (try (refine gate_guard (by rfl) ?_; dsimp only)); refine box_event ?hg (N := 7) ?hd (cs := #[.int .i64 0, .int .i64 0, .int .i64 0]) (t := 43) ?hr ?_; (case hd => rfl); (case hg => rfl); (case hr => first | (go_simp; done)|(go_simp; rfl)|(go_simp; rw [show ∀ x : Int, IntKind.u32.wrap (IntKind.u8.wrap x) = x % 256 from fun x => (by show (x % 256) % 4294967296 = x % 256; omega)])); intro gb392 hg w62 hbox hb; replace HO_391001 := zMk (zRb (Kd.R_elderB (by exact uR HO_391001.out) gb392 (Nat.le_of_eq hg.symm)) hb); have BK392 := zMk (hbox); have GW392 := zMk ((by rw [hg]; exact (zBs (by exact uT HB.out)) : w.heap.size ≤ gb392)); have GE392 := zMk ((by rw [hg]; exact (zBs (by exact uT HB.out)) : w.heap.size ≤ gb392)); have IGE392 := ownGe GE392.out; replace HB := zMk (zBt (by exact uT HB.out) hb); have NB388_392 := zMk ((by rw [hg]; exact Nat.ne_of_lt (blk_lt (g := gb388) (o := .cells #[.int .i64 a0_0, .slice (some ad391) l0_1.length c0_1] 24 (0, 0)) (by (with_reducible repeat (first |  refine zKn ?_ _|  refine zKd ?_|  refine zKa ?_ _)); exact BK388.out)) : gb388 ≠ gb392)); have NB392_388 := zMk ((by rw [hg]; exact Nat.ne_of_gt (blk_lt (g := gb388) (o := .cells #[.int .i64 a0_0, .slice (some ad391) l0_1.length c0_1] 24 (0, 0)) (by (with_reducible repeat (first |  refine zKn ?_ _|  refine zKd ?_|  refine zKa ?_ _)); exact BK388.out)) : gb392 ≠ gb388)); replace BK388 := zMk (zKb (g := gb388) (o := .cells #[.int .i64 a0_0, .slice (some ad391) l0_1.length c0_1] 24 (0, 0)) (by (with_reducible repeat (first |  refine zKn ?_ _|  refine zKd ?_|  refine zKa ?_ _)); exact BK388.out) hb); have NB389_392 := zMk ((by rw [hg]; exact Nat.ne_of_lt (blk_lt (g := gb389) (o := .cells #[.int .i64 0, .slice none 0 0] 24 (0, 0)) (by (with_reducible repeat (first |  refine zKn ?_ _|  refine zKd ?_|  refine zKa ?_ _)); exact BK389.out)) : gb389 ≠ gb392)); have NB392_389 := zMk ((by rw [hg]; exact Nat.ne_of_gt (blk_lt (g := gb389) (o := .cells #[.int .i64 0, .slice none 0 0] 24 (0, 0)) (by (with_reducible repeat (first |  refine zKn ?_ _|  refine zKd ?_|  refine zKa ?_ _)); exact BK389.out)) : gb392 ≠ gb389)); replace BK389 := zMk (zKb (g := gb389) (o := .cells #[.int .i64 0, .slice none 0 0] 24 (0, 0)) (by (with_reducible repeat (first |  refine zKn ?_ _|  refine zKd ?_|  refine zKa ?_ _)); exact BK389.out) hb); have NB390_392 := zMk ((by rw [hg]; exact Nat.ne_of_lt (blk_lt (g := gb390) (o := .cells #[.int .i64 a0_0, u391001] 24 (0, 0)) (by (with_reducible repeat (first |  refine zKn ?_ _|  refine zKd ?_|  refine zKa ?_ _)); exact BK390.out)) : gb390 ≠ gb392)); have NB392_390 := zMk ((by rw [hg]; exact Nat.ne_of_gt (blk_lt (g := gb390) (o := .cells #[.int .i64 a0_0, u391001] 24 (0, 0)) (by (with_reducible repeat (first |  refine zKn ?_ _|  refine zKd ?_|  refine zKa ?_ _)); exact BK390.out)) : gb392 ≠ gb390)); replace BK390 := zMk (zKb (g := gb390) (o := .cells #[.int .i64 a0_0, u391001] 24 (0, 0)) (by (with_reducible repeat (first |  refine zKn ?_ _|  refine zKd ?_|  refine zKa ?_ _)); exact BK390.out) hb); clear hb hbox hg; have hnb63 := NB392_388.out; have hnc63 := NB388_392.out; have hnb64 := NB392_389.out; have hnc64 := NB389_392.out; have hnb65 := NB392_390.out; have hnc65 := NB390_392.out; have hcz66_0 : w62.cell? ⟨gb392, 0, none⟩ = some (.int .i64 0) := (zKc BK392.out 0).trans rfl; have hcz66_1 : w62.cell? ⟨gb392, 1, none⟩ = some (.int .i64 0) := (zKc BK392.out 1).trans rfl; have hcz66_2 : w62.cell? ⟨gb392, 2, none⟩ = some (.int .i64 0) := (zKc BK392.out 2).trans rfl; have hfz66_0 := zKf BK392.out 0; have hfz66_1 := zKf BK392.out 1; have hfz66_2 := zKf BK392.out 2))
      go_roundg k1
      case measure => have := HK1.out; omega
      case rel => exact ⟨(wrap64 (x6_1 + 1)), (x391001_1), (u391001), (by first | rfl | (simp; done) | (simp [*]; done)), H', ⟨by have := HK1.out; omega⟩, ⟨by (with_reducible repeat (first | apply zRa | apply zRn | apply zRd)); exact zRm (Kd.R_far (p := ⟨gb392, 2, none⟩) (Kd.R_far (p := ⟨gb392, 1, none⟩) (Kd.R_far (p := ⟨gb392, 0, none⟩) (zRm HO_391001.out (fun k_ hk => (⟨hk, hk.2⟩ : _ ∧ k_ ≠ gb392))) (fun _ hk => hk.2) (.int .i64 ((rd_T43 l0_1 x6_1).f0))) (fun _ hk => hk.2) (.int .i64 ((rd_T43 l0_1 x6_1).f1))) (fun _ hk => hk.2) (.int .i64 ((rd_T43 l0_1 x6_1).f2))) (fun _ hk => trivial)⟩, ⟨by (with_reducible repeat (first | refine zKn ?_ _ | refine zKd ?_ | refine zKa ?_ _)); refine blk_far ?_ NB388_392.out _; (with_reducible repeat (first | refine zKn ?_ _ | refine zKd ?_ | refine zKa ?_ _)); refine blk_far ?_ NB388_392.out _; (with_reducible repeat (first | refine zKn ?_ _ | refine zKd ?_ | refine zKa ?_ _)); refine blk_far ?_ NB388_392.out _; (with_reducible repeat (first | refine zKn ?_ _ | refine zKd ?_ | refine zKa ?_ _)); exact BK388.out⟩, ⟨by (with_reducible repeat (first | refine zKn ?_ _ | refine zKd ?_ | refine zKa ?_ _)); refine blk_far ?_ NB389_392.out _; (with_reducible repeat (first | refine zKn ?_ _ | refine zKd ?_ | refine zKa ?_ _)); refine blk_far ?_ NB389_392.out _; (with_reducible repeat (first | refine zKn ?_ _ | refine zKd ?_ | refine zKa ?_ _)); refine blk_far ?_ NB389_392.out _; (with_reducible repeat (first | refine zKn ?_ _ | refine zKd ?_ | refine zKa ?_ _)); exact BK389.out⟩, ⟨by (with_reducible repeat (first | refine zKn ?_ _ | refine zKd ?_ | refine zKa ?_ _)); refine blk_far ?_ NB390_392.out _; (with_reducible repeat (first | refine zKn ?_ _ | refine zKd ?_ | refine zKa ?_ _)); refine blk_far ?_ NB390_392.out _; (with_reducible repeat (first | refine zKn ?_ _ | refine zKd ?_ | refine zKa ?_ _)); refine blk_far ?_ NB390_392.out _; (with_reducible repeat (first | refine zKn ?_ _ | refine zKd ?_ | refine zKa ?_ _)); exact BK390.out⟩, ⟨by exact uT HB.out⟩⟩
  · rw [if_neg c11] at H
    have c11b0 : decide (x6_1 < (l0_1.length : Int)) = false := decide_eq_false c11
    clear c11
    simp only [Option.some.injEq, Prod.mk.injEq] at H
    obtain ⟨rfl, rfl⟩ := H
    have hnb67 := NB388_389.out
    have hnc67 := NB389_388.out
    have hnb68 := NB388_390.out
    have hnc68 := NB390_388.out
    have hcz69_0 : wr.cell? ⟨gb388, 0, none⟩ = some (.int .i64 a0_0) := (zKc BK388.out 0).trans rfl
    have hcz69_1 : wr.cell? ⟨gb388, 1, none⟩ = some (.slice A0_1 l0_1.length c0_1) := (zKc BK388.out 1).trans rfl
    have hfz69_0 := zKf BK388.out 0
    have hfz69_1 := zKf BK388.out 1
    have hnb70 := NB390_389.out
    have hnc70 := NB389_390.out
    have hcz71_0 : wr.cell? ⟨gb390, 0, none⟩ = some (.int .i64 a0_0) := (zKc BK390.out 0).trans rfl
    have hcz71_1 : wr.cell? ⟨gb390, 1, none⟩ = some (u391001) := (zKc BK390.out 1).trans rfl
    have hfz71_0 := zKf BK390.out 0
    have hfz71_1 := zKf BK390.out 1
    have hcz72_0 : wr.cell? ⟨gb389, 0, none⟩ = some (.int .i64 0) := (zKc BK389.out 0).trans rfl
    have hcz72_1 : wr.cell? ⟨gb389, 1, none⟩ = some (.slice none 0 0) := (zKc BK389.out 1).trans rfl
    have hfz72_0 := zKf BK389.out 0
    have hfz72_1 := zKf BK389.out 1
    obtain ⟨Ao73, co73, eo73⟩ := zRs HO_391001.out
    subst eo73
    go_wp2
    refine bodyPost_ret (results_cell_row rfl _ _ gb389 24 #[.int .i64 a0_0, .slice Ao73 x391001_1.length co73] (0, 0) _ rfl (by (with_reducible repeat (first | refine zKn ?_ _ | refine zKd ?_ | refine zKa ?_ _)); refine blk_put (cs := #[.int .i64 a0_0, .slice none 0 0]) ?_ 1 _ rfl; (with_reducible repeat (first | refine zKn ?_ _ | refine zKd ?_ | refine zKa ?_ _)); refine blk_put (cs := #[.int .i64 0, .slice none 0 0]) ?_ 0 _ rfl; (with_reducible repeat (first | refine zKn ?_ _ | refine zKd ?_ | refine zKa ?_ _)); exact BK389.out) Try.underlying24 rfl (by kernel_rfl)) rfl ?_
    exact ⟨_, by first | rfl | (simp [errW_none, errW_some] <;> rfl) | (simp [*, errW_none, errW_some] <;> rfl), by (with_reducible repeat (first | apply zRa | apply zRn | apply zRd)); exact zRm (Kd.R_far (p := ⟨gb389, 1, none⟩) (Kd.R_far (p := ⟨gb389, 0, none⟩) (Kd.R_types HO_391001.out BK389.out (by decide)) (fun _ hk => hk.2) (.int .i64 a0_0)) (fun _ hk => hk.2) (.slice Ao73 x391001_1.length co73)) (fun _ hk => trivial), by exact uT HB.out⟩

end Go.Proofs.Ytkiemlbobcklpaa.A
