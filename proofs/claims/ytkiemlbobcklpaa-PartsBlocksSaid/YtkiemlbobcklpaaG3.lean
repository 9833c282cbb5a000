/- Lemmas for the statement: the walks of the functions that it reaches, and plain laws. -/
import Derived.Test.YtkiemlbobcklpaaG2
import Derived.Sort.AssemblyPlain
import Derived.Shelf.SlIterI.Collect
import Derived.Shelf.SlicesQ.IndexFunc
import Derived.Ground.GgzProg
import Derived.Ground.SlgfProg
import Derived.Test.YtkiemlbobcklpaaProg
import Derived.Test.YtkiemlbobcklpaaG1
import Derived.RangeFuncGives
set_option linter.unusedVariables false
set_option linter.unusedSimpArgs false
set_option maxHeartbeats 8000000
set_option maxRecDepth 100000
namespace Go.Proofs.Ytkiemlbobcklpaa.A
open Go Go.RowKit Go.Proofs.YtkiemlbobcklpaaW.PrintWords Go.Proofs.YtkiemlbobcklpaaW.PrintLast Go.Proofs.YtkiemlbobcklpaaW.PrintMore
attribute [local go_sem] max2_int min2_int max_two min_two max_three min_three max_four min_four
open Go.Proofs.YtkiemlbobcklpaaW.PrintWords.Kd renaming R_alloc → zRa, R_drewN → zRn, R_drew → zRd, C_alloc → zCa, C_drewN → zCn, C_drew → zCd, R_mono → zRm, at_int → zAi, R_elder' → zRe, R_lower → zRl, R_new' → zRw, R_lt → zRt, R_below → zRb, R_base → zRz, R_reads' → zRr, R_slice → zRs
open Go.Proofs.YtkiemlbobcklpaaW.PrintWords renaming pw_below_drewN → zBn, below_alloc → zBa, below_drew1 → zBd, below_size → zBs, below_step → zBt, blk_drewN → zKn, blk_drew → zKd, blk_alloc → zKa, blk_below → zKb, blk_cell → zKc, blk_frozen → zKf
open List renaming setIfInBounds_toArray → zSa, set_cons_zero → zSb, set_cons_succ → zSc, length_drop → zLd, length_take → zLt, map_toArray → zMa, map_cons → zMc, map_nil → zMn, length_cons → zLc, length_nil → zLn
open Go.Proofs.YtkiemlbobcklpaaW.PrintWords.Aside0 renaming mk → zMk
open Option renaming bind_eq_some_iff → zBi, bind_some → zOb
open Option.some renaming inj → zOi
open Int renaming toNat_natCast → zTn
section
open Go.Shelf Go.Sort
def SrtQ (w : World) (gB : Nat) (p : Value × (List Int × Nat)) : Prop := 0 ≤ rd p.2.1 0 ∧ rd p.2.1 0 < 4611686018427387904 ∧ ∃ (ad : Addr) (n c : Nat), p.1 = .slice (some ad) n c ∧ 0 < n ∧ ad.block ≠ gB ∧ w.cell? ad = some (.int .i64 (rd p.2.1 0))
abbrev SrtP (w : World) (gB : Nat) : Type := { p : Value × (List Int × Nat) // SrtQ w gB p }
def srtEnc {w : World} {gB : Nat} (x : SrtP w gB) : Value := x.1.1
def srtCf {w : World} {gB : Nat} (x y : SrtP w gB) : Int := rd x.1.2.1 0 - rd y.1.2.1 0
def wkSortB (bs : List (List Int)) : List (List Int) := isortBy (fun a => rd a 0) bs
def wkSorts (s : Wk) : Option Wk :=
  if (s.blocks.all fun b => decide (b ≠ [] ∧ 0 ≤ rd b 0 ∧ rd b 0 < 4611686018427387904)) = true ∧ (s.blocks.map fun b => rd b 0).Nodup ∧ s.blocks.length < 4611686018427387904 then some { s with blocks := wkSortB s.blocks } else none
theorem srt.cmp (w : World) (gB : Nat) (x y : SrtP w gB) (W : World) (hW : ∀ (ad : Addr) (v : Value), ad.block ≠ gB → w.cell? ad = some v → W.cell? ad = some v) :
    Calls Try.prog 47 (#[srtEnc x, srtEnc y] ++ #[]) W fun e w' => e = .returned (.int .i64 (srtCf x y)) ∧ ∃ q, w' = W.drewN q := by
  obtain ⟨⟨vx, bx, ix⟩, hx0, hx1, ax, nx, cx, ex, hnx, hbx, hcx⟩ := x
  obtain ⟨⟨vy, by_, iy⟩, hy0, hy1, ay, ny, cy, ey, hny, hby, hcy⟩ := y
  dsimp only at ex ey
  subst ex ey
  have hX := hW ax _ hbx hcx
  have hY := hW ay _ hby hcy
  dsimp only at hX hY hx0 hx1 hy0 hy1
  show Calls Try.prog 47 #[.slice (some ax) nx cx, .slice (some ay) ny cy] W fun e w' => e = .returned (.int .i64 (rd bx 0 - rd by_ 0)) ∧ ∃ q, w' = W.drewN q
  generalize rd bx 0 = u at hX hx0 hx1 ⊢
  generalize rd by_ 0 = v at hY hy0 hy1 ⊢
  have p1 : ((0 : Int) < (nx : Int)) = True := eq_true (by omega)
  have p2 : ((0 : Int) < (ny : Int)) = True := eq_true (by omega)
  have HWR := zMk (show wrap64 (u - v) = u - v by unfold wrap64; omega)
  clear hcx hcy hW hx0 hx1 hy0 hy1 hbx hby
  go_enter Try.func47, Try.ntmps47
  go_upto_region 1 with (fail)
  have x0 : W.drew.cell? ax = some (.int .i64 u) := hX
  have y0 : W.drew.cell? ay = some (.int .i64 v) := hY
  refine wp_region_still_tail 7 (by kernel_rfl) (by kernel_rfl) ?_
  generalize hw2 : W.drew = w2 at x0 y0
  show wpStill _ _ W.drew (fun a' => wpList _ _ _ _ a' W.drew) _ _
  rw [hw2]
  simp only [List.take_succ_cons, List.take_zero, List.drop_succ_cons, List.drop_zero]
  repeat still_step
  refine wpStill_nil ?_
  go_wp2
  go_ret
  refine ⟨?_, 1, hw2.symm⟩
  first | rw [HWR.out] | (simp only [i64_w]; rw [HWR.out]; rfl)
theorem srt.grown {α : Type} [Inhabited α] (enc : α → Value) {w : World} {g n : Nat} {os : Array Obj} (d : Array α) : w.grownBy (sortWorld enc w g 0 n d os) (some g) := by
  refine ⟨rfl, rfl, rfl, by simp [sortWorld], fun k hk hne => ?_⟩
  unfold sortWorld
  rw [heap_grow_old _ _ (by simpa using hk)]
  have : g ≠ k := fun e => hne (by rw [e])
  simp [putRow, mapBlock, Sort.ahead, Array.getElem?_modify, this]
theorem srt.heap {α : Type} [Inhabited α] (enc : α → Value) {w : World} {g n : Nat} {os : Array Obj} {cur : Array Value} {e : TypeId} {fr : Nat × Nat} (d : Array α) (hb : w.heap[g]? = some (.cells cur e fr)) :
    (sortWorld enc w g 0 n d os).heap[g]? = some (.cells (putCells enc 0 d cur) e fr) := by
  have hg : g < w.heap.size := (Array.getElem?_eq_some_iff.1 hb).1
  unfold sortWorld
  rw [heap_grow_old _ _ (by simpa using hg)]
  simp [putRow, mapBlock, Sort.ahead, Array.getElem?_modify, hb, onCells]
theorem srt.holds {α : Type} [Inhabited α] (enc : α → Value) {w : World} {g : Nat} {cur : Array Value} {e : TypeId} {ss : List α} (hb : w.heap[g]? = some (.cells cur e (0, 0))) (ht : cur.toList.take ss.length = ss.map enc) : Holds enc w g 0 ss.toArray := by
  intro j hj
  have hj' : j < ss.length := by simpa using hj
  refine ⟨?_, by simp [World.frozen?, hb]⟩
  have h1 : (cur.toList.take ss.length)[j]? = (ss.map enc)[j]? := by rw [ht]
  rw [List.getElem?_take_of_lt hj'] at h1
  simp only [World.cell?, hb, Nat.zero_add]
  simp only [Option.isSome_none, Bool.false_eq_true, if_false]
  rw [← Array.getElem?_toList, h1]
  simp [hj']
theorem srt.take {α : Type} [Inhabited α] (enc : α → Value) (cur : Array Value) (ts : List α) (h : ts.length ≤ cur.size) : (putCells enc 0 ts.toArray cur).toList.take ts.length = ts.map enc := by
  apply List.ext_getElem?
  intro j
  by_cases hj : j < ts.length
  · rw [List.getElem?_take_of_lt hj, Array.getElem?_toList]
    simp [putCells, hj, show j < cur.size by omega]
  · rw [List.getElem?_take_eq_none (by omega), List.getElem?_eq_none (by simp; omega)]
theorem srt.own {α : Type} [Inhabited α] (enc : α → Value) {w : World} {base g cap n : Nat} {e : TypeId} {os : Array Obj} {cur : Array Value} {ss ts : List α} (hl : ts.length = ss.length) (hbase : base ≤ g) (hb : w.heap[g]? = some (.cells cur e (0, 0)))
    (h1 : ss.length ≤ cap) (h2 : cap ≤ maxLen) (h3 : cur.size = cap * 1) :
    (sortWorld enc w g 0 n ts.toArray os).ownsRow base e 1 (.slice (some ⟨g, 0, none⟩) ss.length cap) ss.length (ts.map enc) :=
  ⟨by simp [hl], .inr ⟨g, cap, _, rfl, hbase, srt.heap enc _ hb, h1, h2, by simp [putCells, h3], by rw [Nat.mul_one, ← hl]; exact srt.take enc cur ts (by omega)⟩⟩
theorem srt.reads (w : World) (gB : Nat) [Inhabited (SrtP w gB)] (size : Nat) (hg : gB < w.heap.size) : CmpReads Try.prog 47 #[] (srtEnc (w := w) (gB := gB)) srtCf gB 0 size w := by
  intro m os dk hs x y
  refine srt.cmp w gB x y _ fun ad v hne hc => ?_
  have hl := World.block_lt_of_cell? w _ hc
  unfold sortWorld
  rw [cell?_grow _ _ _ (by simpa using hl), cell?_putRow_other _ _ _ _ _ _ (.inl hne)]
  exact hc
theorem srt.swo (w : World) (gB : Nat) : SWO (ltOf (srtCf (w := w) (gB := gB))) where
  irrefl := fun x => decide_eq_false (show ¬ (rd x.1.2.1 0 - rd x.1.2.1 0 < 0) by omega)
  trans := fun x y z h1 h2 => by
    have h1 : rd x.1.2.1 0 - rd y.1.2.1 0 < 0 := of_decide_eq_true h1
    have h2 : rd y.1.2.1 0 - rd z.1.2.1 0 < 0 := of_decide_eq_true h2
    exact decide_eq_true (show rd x.1.2.1 0 - rd z.1.2.1 0 < 0 by omega)
  ntrans := fun x y z h1 h2 => by
    have h1 : ¬ (rd x.1.2.1 0 - rd y.1.2.1 0 < 0) := of_decide_eq_false h1
    have h2 : ¬ (rd y.1.2.1 0 - rd z.1.2.1 0 < 0) := of_decide_eq_false h2
    exact decide_eq_false (show ¬ (rd x.1.2.1 0 - rd z.1.2.1 0 < 0) by omega)
theorem srt.perm (w : World) (gB : Nat) [Inhabited (SrtP w gB)] (d : List (SrtP w gB)) :
    ((pdq (ltOf (srtCf (w := w) (gB := gB))) d.toArray 0 d.toArray.size (Lib.bitLen d.toArray.size) true true).toList).Perm d ∧
    ((pdq (ltOf (srtCf (w := w) (gB := gB))) d.toArray 0 d.toArray.size (Lib.bitLen d.toArray.size) true true).toList).Pairwise (fun x y => rd x.1.2.1 0 ≤ rd y.1.2.1 0) := by
  obtain ⟨⟨hs, _, hp⟩, hS⟩ := pdq_sorts _ (srt.swo w gB) d.toArray 0 d.toArray.size (Lib.bitLen d.toArray.size) true true (Nat.zero_le _) (Nat.le_refl _) (.inl rfl)
  generalize pdq (ltOf (srtCf (w := w) (gB := gB))) d.toArray 0 d.toArray.size (Lib.bitLen d.toArray.size) true true = d' at hs hp hS
  constructor
  · have e1 : d'.extract 0 d.toArray.size = d' := by rw [← hs]; simp
    have e2 : d.toArray.extract 0 d.toArray.size = d.toArray := by simp
    rw [e1, e2] at hp
    simpa using hp
  · rw [List.pairwise_iff_getElem]
    intro i j hi hj hij
    have hj' : j < d'.size := by simpa using hj
    have h := hS i j (Nat.zero_le _) hij (by omega)
    rw [getElem!_pos d' j hj', getElem!_pos d' i (by omega)] at h
    have h : ¬ (rd (d'[j]).1.2.1 0 - rd (d'[i]).1.2.1 0 < 0) := of_decide_eq_false h
    simp only [Array.getElem_toList]
    omega
theorem srt_inj {α β : Type} (f : α → β) : ∀ (l : List α), (l.map f).Nodup → ∀ a b, a ∈ l → b ∈ l → f a = f b → a = b
  | [], _, a, _, ha, _, _ => by cases ha
  | x :: l, h, a, b, ha, hb, e => by
    rw [zMc, List.nodup_cons] at h
    rcases List.mem_cons.1 ha with h1 | h1
    · rcases List.mem_cons.1 hb with h2 | h2
      · rw [h1, h2]
      · exact absurd (show f x ∈ l.map f by rw [← h1, e]; exact List.mem_map_of_mem h2) h.1
    · rcases List.mem_cons.1 hb with h2 | h2
      · exact absurd (show f x ∈ l.map f by rw [← h2, ← e]; exact List.mem_map_of_mem h1) h.1
      · exact srt_inj f l h.2 a b h1 h2 e
theorem wkSortB_eq {bs ys : List (List Int)} (hp : ys.Perm bs) (hs : ys.Pairwise (fun a b => rd a 0 ≤ rd b 0)) (hn : (bs.map fun b => rd b 0).Nodup) : ys = wkSortB bs := by
  have h1 : (wkSortB bs).Perm bs := isortBy_perm _ _
  have h2 : (wkSortB bs).Pairwise (fun a b => rd a 0 ≤ rd b 0) := isortBy_sorted _ _
  refine List.Perm.eq_of_pairwise (le := fun a b : List Int => rd a 0 ≤ rd b 0) (fun a b ha hb e1 e2 => ?_) hs h2 (hp.trans h1.symm)
  exact srt_inj (fun b => rd b 0) bs hn a b (hp.mem_iff.1 ha) (h1.mem_iff.1 hb) (by show rd a 0 = rd b 0; omega)
theorem srt.list (w : World) (gB : Nat) (ps : List (List Int × Nat)) (inner : List Value) (hl : inner.length = ps.length) (Q : Value × (List Int × Nat) → Prop) (H : ∀ (j : Nat) p v, ps[j]? = some p → inner[j]? = some v → Q (v, p)) : ∃ d : List { q // Q q }, d.map (fun x => x.1.2) = ps ∧ d.map (fun x => x.1.1) = inner := by
  have hQ : ∀ q ∈ inner.zip ps, Q q := by
    rintro ⟨v, p⟩ hq
    obtain ⟨j, hj⟩ := List.getElem?_of_mem hq
    rw [List.getElem?_zip_eq_some] at hj
    exact H j p v hj.2 hj.1
  refine ⟨(inner.zip ps).attachWith Q hQ, ?_, ?_⟩
  · have h1 : ((inner.zip ps).attachWith Q hQ).map (fun x => x.1) = inner.zip ps := List.attachWith_map_subtype_val _
    have h2 : ((inner.zip ps).attachWith Q hQ).map (fun x => x.1.2) = (inner.zip ps).map (fun q => q.2) := by conv => rhs; rw [← h1]
                                                                                                              rw [List.map_map]; rfl
    rw [h2]; exact List.map_snd_zip (by omega)
  · have h1 : ((inner.zip ps).attachWith Q hQ).map (fun x => x.1) = inner.zip ps := List.attachWith_map_subtype_val _
    have h2 : ((inner.zip ps).attachWith Q hQ).map (fun x => x.1.1) = (inner.zip ps).map (fun q => q.1) := by conv => rhs; rw [← h1]
                                                                                                              rw [List.map_map]; rfl
    rw [h2]; exact List.map_fst_zip (by omega)
theorem wkSorts.calls (w0 wn w : World) (gw : Nat) (vn : Value) (V : WkV) (s s' : Wk) (A : Option Addr) (c : Nat) (h : WkW w0 wn w gw vn V s) (hv : V.vB = .slice A s.blocks.length c) (he : wkSorts s = some s') :
    Calls Try.prog 46 #[.slice A s.blocks.length c, .func (.func 47) #[] #[]] w fun e w' => e = .returned (.tuple #[]) ∧ WkW w0 wn w' gw vn V s' := by
  unfold wkSorts at he
  by_cases hc : (s.blocks.all fun b => decide (b ≠ [] ∧ 0 ≤ rd b 0 ∧ rd b 0 < 4611686018427387904)) = true ∧ (s.blocks.map fun b => rd b 0).Nodup ∧ s.blocks.length < 4611686018427387904
  rotate_left
  · rw [if_neg hc] at he; cases he
  rw [if_pos hc] at he
  obtain rfl := zOi he
  obtain ⟨hall, hnd, hmx⟩ := hc
  by_cases hb : s.blocks.length = 0
  · rw [hb]
    refine (Try.slices_SortFunc_none (α := Nat) A c _ w).mono ?_
    rintro e w' ⟨rfl, rfl⟩
    have hb2 : s.blocks = [] := List.eq_nil_of_length_eq_zero hb
    refine ⟨rfl, ?_⟩
    have : ({ s with blocks := wkSortB s.blocks } : Wk) = s := by
      rw [hb2]
      cases s
      dsimp only at hb2
      subst hb2
      rfl
    rw [this]
    exact h
  have hSB := h.hB
  obtain ⟨f, h0, inner, ho, hr⟩ := hSB
  rw [List.length_zipIdx] at ho
  rcases ho.2 with ⟨-, hz⟩ | ⟨g, cap, cur, ev, hbase, hg, r1, r2, r3, r4⟩
  · exact absurd hz hb
  have hA : A = some ⟨g, 0, none⟩ ∧ c = cap := by
    rw [hv] at ev
    injection ev with e1 _ e3
    exact ⟨e1, e3⟩
  obtain ⟨rfl, rfl⟩ := hA
  have hown : V.vB.ownBlock = some g := by rw [hv]; exact wk_own
  have hil : inner.length = s.blocks.length := by have := ho.1; rw [this]; exact Nat.mul_one _
  have hlt : g < w.heap.size := blk_lt hg
  obtain ⟨okB, hokB⟩ : ∃ okB : Nat → Prop, okB = (fun k => some k ≠ V.v1.ownBlock ∧ some k ≠ V.v2.ownBlock ∧ some k ≠ V.v3.ownBlock ∧ some k ≠ V.vE.ownBlock) := ⟨_, rfl⟩
  rw [← hokB] at h0 hr
  have hM : ∀ (j : Nat) p v, s.blocks.zipIdx[j]? = some p → inner[j]? = some v → Kd.R wkI 3 w w0.heap.size (fun k => (okB k ∧ some k ≠ V.vB.ownBlock) ∧ f k = p.2) v p.1 := by
    intro j p v hp hi
    have h1 := hr.2 j p hp
    have e1 : (inner.drop (j * 1)).take 1 = [v] := by
      rw [Nat.mul_one]
      obtain ⟨hj, rfl⟩ := List.getElem?_eq_some_iff.1 hi
      rw [List.drop_eq_getElem_cons hj]; rfl
    have e2 : (Kd.tag f (Kd.slice 3 wkI)).sz = 1 := rfl
    rw [e2, e1] at h1
    obtain ⟨v2, e3, hR⟩ := h1
    obtain rfl : v = v2 := by simpa using e3
    exact hR
  have hQ : ∀ (j : Nat) p v, s.blocks.zipIdx[j]? = some p → inner[j]? = some v → SrtQ w g (v, p) := by
    intro j p v hp hi
    have hR := hM j p v hp hi
    have hmem : p.1 ∈ s.blocks := by
      have h1 := List.mem_map_of_mem (f := Prod.fst) (List.mem_of_getElem? hp)
      rwa [List.zipIdx_map_fst] at h1
    have hb1 := of_decide_eq_true (List.all_eq_true.1 hall _ hmem)
    have hpos : 0 < p.1.length := List.length_pos_iff.2 hb1.1
    obtain ⟨g2, c2, e2, -, -, -⟩ := Kd.R_form hR hpos
    subst e2
    have hcl := (Kd.R_celln (0 : Int) hR 0 (Int.le_refl _) (by omega)).1
    refine ⟨hb1.2.1, hb1.2.2, ⟨g2, 0, none⟩, _, _, rfl, hpos, ?_, hcl⟩
    intro e
    have e : g2 = g := e
    exact hR.1 g2 wk_own |>.1.2 (by rw [hown, e])
  obtain ⟨d, hd2, hd1⟩ := srt.list w g s.blocks.zipIdx inner (by rw [hil, List.length_zipIdx]) (SrtQ w g) hQ
  have hdl : d.length = s.blocks.length := by rw [← List.length_zipIdx (l := s.blocks) (i := 0), ← hd2, List.length_map]
  have hdM : ∀ x ∈ d, Kd.R wkI 3 w w0.heap.size (fun k => (okB k ∧ some k ≠ V.vB.ownBlock) ∧ f k = x.1.2.2) x.1.1 x.1.2.1 := by
    intro x hx
    obtain ⟨j, hj⟩ := List.getElem?_of_mem hx
    exact hM j x.1.2 x.1.1 (by rw [← hd2, List.getElem?_map, hj]; rfl) (by rw [← hd1, List.getElem?_map, hj]; rfl)
  haveI : Inhabited (SrtP w g) := ⟨d[0]'(by omega)⟩
  obtain ⟨hperm, hsort⟩ := srt.perm w g d
  have hsz : d.toArray.size = s.blocks.length := by simpa using hdl
  have hC := Try.slices_SortFunc_eq (srtEnc (w := w) (gB := g)) (fun x => by obtain ⟨-, -, ad, n, c, e, -⟩ := x.2; show (x.1.1).oneCell' = true; rw [e]; rfl) srtCf (srt.swo w g) 47 #[] g 0 c d.toArray w (enters_of Try.func47 (by kernel_rfl) rfl) (srt.reads w g d.toArray.size hlt).lays
    (srt.holds srtEnc hg (by rw [hdl, ← Nat.mul_one s.blocks.length]; exact (show List.take (s.blocks.length * 1) cur.toList = inner from r4).trans hd1.symm)) hlt (by omega)
  rw [hsz] at hC hperm hsort
  refine hC.mono ?_
  rintro e w' ⟨rfl, n, os, rfl⟩
  refine ⟨rfl, ?_⟩
  clear hC
  generalize pdq (ltOf (srtCf (w := w) (gB := g))) d.toArray 0 s.blocks.length (Lib.bitLen s.blocks.length) true true = td at hperm hsort ⊢
  obtain ⟨ts, rfl⟩ : ∃ ts : List (SrtP w g), td = ts.toArray := ⟨td.toList, by simp⟩
  rw [List.toList_toArray] at hperm hsort
  have hgr : w.grownBy (sortWorld (srtEnc (w := w) (gB := g)) w g 0 n ts.toArray os) V.vB.ownBlock := by rw [hown]; exact srt.grown _ _
  have hto := srt.own (n := n) (os := os) (srtEnc (w := w) (gB := g)) (ss := d) (ts := ts) hperm.length_eq hbase hg (by omega) r2 r3
  generalize sortWorld (srtEnc (w := w) (gB := g)) w g 0 n ts.toArray os = W1 at hgr hto
  have ty := Kd.S_typed h.hB
  have hbs : ts.map (fun x => x.1.2.1) = wkSortB s.blocks := by
    refine wkSortB_eq ?_ ?_ hnd
    · have h1 := hperm.map (fun x => x.1.2.1)
      have h2 : d.map (fun x => x.1.2.1) = s.blocks := by
        have h3 := congrArg (List.map Prod.fst) hd2
        rw [List.zipIdx_map_fst, List.map_map] at h3
        exact h3
      rwa [h2] at h1
    · rw [List.pairwise_map]
      exact hsort
  have htn : (ts.map (fun x => x.1.2.2)).Nodup := by
    have h1 := hperm.map (fun x => x.1.2.2)
    have h2 : d.map (fun x => x.1.2.2) = List.range' 0 s.blocks.length := by
      have h3 := congrArg (List.map Prod.snd) hd2
      rw [List.zipIdx_map_snd, List.map_map] at h3
      exact h3
    rw [h2] at h1
    exact h1.nodup_iff.2 List.nodup_range'
  have hlen : (wkSortB s.blocks).length = s.blocks.length := by rw [← hbs, List.length_map, hperm.length_eq, hdl]
  have hB : Kd.S (Kd.slice 3 wkI) 33 W1 w0.heap.size okB V.vB (wkSortB s.blocks) := by
    refine ⟨fun k => (ts.map (fun x => x.1.2.2)).idxOf (f k), h0, ts.map srtEnc, ?_, ?_, ?_⟩
    · rw [List.length_zipIdx, hlen, hv, ← hdl]
      exact hto
    · rw [List.length_map, List.length_zipIdx, hlen, hperm.length_eq, hdl]
      exact (Nat.mul_one _).symm
    · intro j p hp
      rw [List.getElem?_zipIdx, Nat.zero_add, ← hbs, List.getElem?_map] at hp
      obtain ⟨b, hb1, hb2⟩ := Option.map_eq_some_iff.1 hp
      obtain ⟨x, hx, rfl⟩ := Option.map_eq_some_iff.1 hb1
      subst hb2
      obtain ⟨hj, rfl⟩ := List.getElem?_eq_some_iff.1 hx
      have hj2 : j < (ts.map srtEnc).length := by simpa using hj
      have e1 : ((ts.map srtEnc).drop (j * 1)).take 1 = [srtEnc ts[j]] := by
        rw [Nat.mul_one, List.drop_eq_getElem_cons hj2, List.getElem_map]; rfl
      have e2 : (Kd.tag (fun k => (ts.map (fun x => x.1.2.2)).idxOf (f k)) (Kd.slice 3 wkI)).sz = 1 := rfl
      rw [e2, e1]
      refine ⟨_, rfl, ?_⟩
      have h1 := hdM ts[j] (hperm.mem_iff.1 (List.getElem_mem hj))
      have h2 := Kd.R_grown h1 hgr (fun k hk => hk.1.2)
      refine zRm h2 (fun k hk => ⟨hk.1, ?_⟩)
      show (ts.map (fun x => x.1.2.2)).idxOf (f k) = j
      rw [hk.2]
      have h3 := htn.idxOf_getElem j (by simpa using hj)
      rwa [List.getElem_map] at h3
  rw [hokB] at hB
  exact { h with hBl := h.hBl.grown hgr h.hBl.size (fun k e => by rw [hown] at e; cases e; exact hbase), hK := h.hK.grown ty (by decide) hgr, hw := blk_grown h.hw hgr (Kd.S_ne h.hB h.hw (by decide)), h1 := Kd.R_over' h.h1 ty (by decide) hgr, h2 := Kd.R_over' h.h2 ty (by decide) hgr, h3 := Kd.R_over' h.h3 ty (by decide) hgr, hE := Kd.R_over' h.hE ty (by decide) hgr, h5 := Kd.R_over' h.h5 ty (by decide) hgr, h6 := Kd.R_over' h.h6 ty (by decide) hgr, hB := hB, hS := Kd.R_over' h.hS ty (by decide) hgr }
end
end Go.Proofs.Ytkiemlbobcklpaa.A
namespace Go.Proofs
open Go.Shelf
def Try.lays83_ren : Go.Shelf.Ren := ⟨fun | 6 => 83 | 8 => 90 | 9 => 29 | 11 => 94 | 13 => 44 | 12 => 43 | 23 => 60 | 24 => 61 | 14 => 51 | 15 => 52 | 16 => 53 | 17 => 54 | 18 => 55 | 19 => 56 | 20 => 57 | 21 => 58 | 22 => 59 | 25 => 66 | 26 => 67 | 27 => 68 | 28 => 69 | 29 => 70 | 30 => 65 | 31 => 81 | n => n, fun | 26 => 3 | 28 => 109 | 24 => 33 | 0 => 0 | 3 => 3 | 37 => 69 | 48 => 84 | 50 => 86 | 4 => 4 | 40 => 77 | 39 => 76 | 45 => 61 | 5 => 5 | 9 => 9 | 51 => 92 | 55 => 96 | 57 => 103 | 58 => 104 | 33 => 91 | n => n, fun | n => n⟩
theorem Try.lays83 : Go.Proofs.SlLaysZI.n6 Try.prog Try.lays83_ren := {
  mixed := by kernel_rfl
  f6 := ⟨Try.f83.name, by decide, Try.func83.trans (congrArg some (by kernel_rfl))⟩
  f8 := ⟨Try.f90.name, by decide, Try.func90.trans (congrArg some (by kernel_rfl))⟩
  f11 := ⟨Try.f94.name, by decide, Try.func94.trans (congrArg some (by kernel_rfl))⟩
  t0 := Try.underlying0
  a0 := Try.isAgg0
  z0 := Try.sizeOf0
  v0 := Try.zeroValue0
  t24 := Try.underlying33
  a24 := Try.isAgg33
  z24 := Try.sizeOf33
  v24 := Try.zeroValue33
  t26 := Try.underlying3
  a26 := Try.isAgg3
  z26 := Try.sizeOf3
  v26 := Try.zeroValue3
  t28 := Try.underlying109
  a28 := Try.isAgg109
  z28 := Try.sizeOf109
  v28 := Try.zeroValue109
  i26 := by kernel_rfl }
def Try.lays85_ren : Go.Shelf.Ren := ⟨fun | 8 => 85 | 6 => 92 | n => n, fun | 22 => 49 | 23 => 51 | 25 => 112 | 4 => 4 | 3 => 3 | 0 => 0 | n => n, fun | n => n⟩
theorem Try.lays85 : Go.Proofs.SlLaysH0.n8 Try.prog Try.lays85_ren := {
  mixed := by kernel_rfl
  f6 := ⟨Try.f92.name, by decide, Try.func92.trans (congrArg some (by kernel_rfl))⟩
  f8 := ⟨Try.f85.name, by decide, Try.func85.trans (congrArg some (by kernel_rfl))⟩
  t0 := Try.underlying0
  a0 := Try.isAgg0
  z0 := Try.sizeOf0
  v0 := Try.zeroValue0
  t3 := Try.underlying3
  a3 := Try.isAgg3
  z3 := Try.sizeOf3
  v3 := Try.zeroValue3
  t4 := Try.underlying4
  a4 := Try.isAgg4
  z4 := Try.sizeOf4
  v4 := Try.zeroValue4
  t22 := Try.underlying49
  a22 := Try.isAgg49
  z22 := Try.sizeOf49
  v22 := Try.zeroValue49
  t25 := Try.underlying112
  a25 := Try.isAgg112
  z25 := Try.sizeOf112
  v25 := Try.zeroValue112 }
end Go.Proofs
namespace Go.Proofs.Ytkiemlbobcklpaa.A
open Go Go.RowKit Go.Proofs.YtkiemlbobcklpaaW.PrintWords Go.Proofs.YtkiemlbobcklpaaW.PrintLast Go.Proofs.YtkiemlbobcklpaaW.PrintMore
attribute [local go_sem] max2_int min2_int max_two min_two max_three min_three max_four min_four
open Go.Proofs.YtkiemlbobcklpaaW.PrintWords.Kd renaming R_alloc → zRa, R_drewN → zRn, R_drew → zRd, C_alloc → zCa, C_drewN → zCn, C_drew → zCd, R_mono → zRm, at_int → zAi, R_elder' → zRe, R_lower → zRl, R_new' → zRw, R_lt → zRt, R_below → zRb, R_base → zRz, R_reads' → zRr, R_slice → zRs
open Go.Proofs.YtkiemlbobcklpaaW.PrintWords renaming pw_below_drewN → zBn, below_alloc → zBa, below_drew1 → zBd, below_size → zBs, below_step → zBt, blk_drewN → zKn, blk_drew → zKd, blk_alloc → zKa, blk_below → zKb, blk_cell → zKc, blk_frozen → zKf
open List renaming setIfInBounds_toArray → zSa, set_cons_zero → zSb, set_cons_succ → zSc, length_drop → zLd, length_take → zLt, map_toArray → zMa, map_cons → zMc, map_nil → zMn, length_cons → zLc, length_nil → zLn
open Go.Proofs.YtkiemlbobcklpaaW.PrintWords.Aside0 renaming mk → zMk
open Option renaming bind_eq_some_iff → zBi, bind_some → zOb
open Option.some renaming inj → zOi
open Int renaming toNat_natCast → zTn
section
open Go.Maps Go.Sort Go.Shelf
def GivesB {α : Type} (F : Fence) (n : Nat) (P : Program) (g : Nat) (lb : Array Value) (enc : α → Value) (S : List α → Prop) (N : Nat) (w : World) : Prop :=
  ∀ (l : Nat) (J : List α → World → Prop) (W : World), Below w.heap.size w W → AbidesFrom W.heap.size J → (∀ s W1, J s W1 → Below w.heap.size w W1) →
    (∀ pre x W1, J pre W1 → pre.length < N → YieldAt F (n - 1) P l #[enc x] W1 fun e W' => e = .returned (.bool true) ∧ J (pre ++ [x]) W' ∧ KeepsWalks W1 W') →
    J [] W →
    CallsIn F n P g (#[.func (.yield l) #[] #[]] ++ lb) W fun e W' => (∃ v, e = .returned v) ∧ ∃ xs, S xs ∧ J xs W'
theorem encZ_def (x : Int) : encZ x = .int .i64 x := rfl
section
attribute [local go_sem] Oper.semAt_some
theorem soValues.gives (F : Fence) (n : Nat) (h91 : F.fn 91) (hro : F.round = none) (hn : 1 ≤ n) (Bs cap : Nat) (A : Option Addr) (zs : List Int) (hcap : zs.length ≤ cap) (w : World) (hBs : Bs < w.heap.size)
    (hc : w.cell? ⟨Bs, 0, none⟩ = some (.slice A zs.length cap)) (hC : Kd.C wkI w A zs.length zs) :
    GivesB F n Try.prog 91 #[.pointer (some ⟨Bs, 0, none⟩)] encZ (fun ss => ss = zs) zs.length w := fun l J W hW _ hJB hY h0 => by
  have HC := zMk hC
  have HJ0 := zMk h0
  have HJB := zMk hJB
  have HY := zMk hY
  have hmax : zs.length ≤ 9223372036854775807 := Kd.C_max hC
  have hc' := (hW.cell (p := ⟨Bs, 0, none⟩) hBs).trans hc
  clear hC h0 hJB hY
  refine callsIn_of_wp Try.func91 rfl h91 ?_ hro
  simp only [Try.ntmps91, List.size_toArray, zLc, zLn, Nat.reduceAdd, Nat.reduceSub, Array.replicate_succ, Array.replicate_zero, List.push_toArray, List.append_toArray, List.nil_append, List.cons_append]
  gi_wp2
  gi_loopw [7] (fun i wr => ∃ k : Nat, k ≤ zs.length ∧ i = .int .i64 k ∧ Aside0 (J (zs.take k) wr))
    (fun i _ => zs.length - (intOf i).toNat)
  case atStart => exact ⟨0, Nat.zero_le _, by simp, ⟨by simpa using HJ0.out⟩⟩
  case round =>
    obtain ⟨k, hk, rfl, hJs⟩ := hrel
    by_cases hlt : k < zs.length
    · obtain ⟨fn, tmps, assign, body, hy, hR⟩ := HY.out _ (rd zs (k : Int)) wr hJs.out (by rw [zLt]; omega)
      have hC2 := Kd.C_below HC.out (HJB.out _ _ hJs.out)
      obtain ⟨ad, e, hx⟩ := zAi hC2 (k : Int) (by omega) (by omega)
      subst e
      rw [zTn] at hx
      have HR := zMk hR
      have hk1 : (k : Int) < (zs.length : Int) := by omega
      have Hlt := zMk hlt
      rw [encZ_def] at hy
      clear hC2 hR hlt
      have p4 : decide ((k : Int) < (zs.length : Int)) = true := decide_eq_true hk1
      have ht : zs.take k ++ [rd zs (k : Int)] = zs.take (k + 1) := by
        have := Hlt.out
        rw [List.take_succ_eq_append_getElem this]
        have e2 : rd zs (k : Int) = zs[k] := by
          show zs.getD (k : Int).toNat 0 = zs[k]
          rw [zTn, List.getD_eq_getElem?_getD, List.getElem?_eq_getElem this, Option.getD_some]
        rw [e2]
      rw [ht] at HR
      clear ht
      gi_wp2
      refine HR.out.mono ?_
      rintro e W3 ⟨rfl, hJ3, hk3⟩
      have HJ3 := zMk hJ3
      clear hJ3
      gi_wp2
      go_roundw
      case rel => exact ⟨k + 1, by have := Hlt.out; omega, by simp, HJ3⟩
      case measure => have := Hlt.out; simp [intOf]; omega
    · obtain rfl : k = zs.length := by omega
      gi_wp2
      go_end0
      exact ⟨⟨_, rfl⟩, zs, rfl, by simpa using hJs.out⟩
end
section
variable {P : Program} {ρ : Ren}
theorem soAppend.gives (L : SlLaysZI.n11 P ρ) (F : Fence) (n : Nat) (h11 : F.fn (ρ.f 11)) (hro : F.round = none) (hn : 2 ≤ n) (g : Nat) (lb : Array Value) (hFg : F.fn g) (eg : ∀ args w, (callFunc g args).run P w = .ok (.enter g args) w)
    (S : List Int → Prop) (N : Nat) (hN : N ≤ maxLen) (hNb : N * 8 ≤ 140737488355328) (w0 w : World) (hw : Below w0.heap.size w0 w) (hseq : GivesB F (n - 1) P g lb encZ S N w0) :
    CallsIn F n P (ρ.f 11) #[.slice none 0 0, .func (.func g) #[] lb] w fun e w' => ∃ (v : Value) (ss : List Int), e = .returned v ∧ S ss ∧ w'.ownsRow w.heap.size (ρ.t 26) 1 v ss.length (ss.map encZ) ∧ (v = .slice none 0 0 ↔ ss = []) ∧ Below w.heap.size w w' := by
  have h1 : 1 ≤ n := by omega
  have mixed := L.mixed; have t0 := L.t0; have a0 := L.a0; have z0 := L.z0; have v0 := L.v0; have t24 := L.t24; have a24 := L.a24; have z24 := L.z24; have v24 := L.v24; have t26 := L.t26; have a26 := L.a26; have z26 := L.z26; have v26 := L.v26; have t28 := L.t28; have a28 := L.a28; have z28 := L.z28; have v28 := L.v28
  have hne : ρ.t 24 ≠ ρ.t 26 := fun e => by have h := L.t24; rw [e, L.t26] at h; cases h
  have u0 := run_underlying L.t0; have u24 := run_underlying L.t24; have u26 := run_underlying L.t26; have u28 := run_underlying L.t28
  obtain ⟨_, _, FG⟩ := L.f11
  refine callsIn_of_wp_marks FG rfl h11 ?_ hro
  simp only [SlBodyZ.n11_ntmps ρ, List.size_toArray, zLc, zLn, Nat.reduceAdd, Nat.reduceSub, Array.replicate_succ, Array.replicate_zero, List.push_toArray, List.append_toArray, List.nil_append, List.cons_append]
  gi_wp2
  refine wpIn_rangeFunc ?_
  intro fn hfn
  rw [hro]
  obtain ⟨W0, hW0⟩ : ∃ W0, w.alloc (.cells #[.slice none 0 0] (ρ.t 24)) = W0 := ⟨_, rfl⟩
  have hs0 : W0.heap.size = w.heap.size + 1 := by rw [← hW0]; simp
  have hv0 : W0.heap[w.heap.size]? = some (.cells #[.slice none 0 0] (ρ.t 24) (0, 0)) := by rw [← hW0]; exact World.alloc_heap_new w _
  have hb0 : Below w.heap.size w W0 := by rw [← hW0]; exact (Below.refl _ w).alloc (Nat.le_refl _) _
  rw [hW0]
  obtain ⟨W1, hW1⟩ : ∃ W1, (W0.alloc (.deferred (some []))).alloc (.loop (AnyZI.apRec ρ fn (.func (.func g) #[] lb) w.heap.size W0.heap.size .ready none)) = W1 := ⟨_, rfl⟩
  have hold : ∀ k, k < W0.heap.size → W1.heap[k]? = W0.heap[k]? := fun k hk => by
    rw [← hW1]; exact (Below.heap_alloc _ _ k (by simp; omega)).trans (Below.heap_alloc _ _ k hk)
  have hb1 : Below w.heap.size w W1 := by rw [← hW1]; exact (hb0.alloc hb0.size _).alloc (by have := hb0.size; simp; omega) _
  have hs1 : W1.heap.size = W0.heap.size + 2 := by rw [← hW1]; simp
  have hM : AnyZI.ApAt ρ w fn (.func (.func g) #[] lb) w.heap.size (W0.heap.size + 1) W0.heap.size [] W1 :=
    ⟨⟨_, (hold w.heap.size (by omega)).trans hv0, ⟨rfl, .inl ⟨rfl, rfl⟩⟩, by simp⟩,
     by rw [← hW1]; have := World.alloc_heap_new (W0.alloc (.deferred (some []))) (.loop (AnyZI.apRec ρ fn (.func (.func g) #[] lb) w.heap.size W0.heap.size .ready none)); rwa [World.size_alloc] at this,
     by rw [← hW1]; exact (Below.heap_alloc _ _ _ (by simp)).trans (World.alloc_heap_new W0 _), hb1⟩
  refine ⟨W0.heap.size + 1, [{ target := .collected W0.heap.size, args := #[] }], W1, { target := .fn (.func g) lb, args := #[.func (.yield (W0.heap.size + 1)) #[] #[]] }, W1, g,
    #[.func (.yield (W0.heap.size + 1)) #[] #[]] ++ lb, W1, ?_, ?_, ?_, ?_, fun _ => h1, ?_⟩
  · rw [← hW1]; exact run_enterLoop_outer _ _ _ _ _
  · simp [resolve, go_sem]
  · intro f' hf'; simp [Target.leads] at hf'; subst hf'; exact hFg
  · simp [invoke, go_sem, eg]
  · refine (hseq (W0.heap.size + 1) (AnyZI.ApAt ρ w fn (.func (.func g) #[] lb) w.heap.size (W0.heap.size + 1) W0.heap.size) W1 (hw.trans (hb1.mono hw.size)) (AnyZI.ap_abides ρ _ _ _ _ _ _ _ hb1.size)
      (fun s W2 h2 => hw.trans (h2.below.mono hw.size))
      (fun pre x W hJ hl => AnyZI.apYield { L with } F (n - 1 - 1) w fn hfn _ w.heap.size (W0.heap.size + 1) W0.heap.size (by omega) (by omega) (by omega) (Nat.le_refl _) (by omega) N hN hNb pre x W hJ hl) hM).mono ?_
    rintro e W2 ⟨⟨v0, rfl⟩, ss, hS, h2⟩
    obtain ⟨v, hv, hrow, hnil⟩ := h2.box
    have hend := run_endLoop (P := P) h2.L (by simp [AnyZI.apRec])
    obtain ⟨W3, hW3⟩ : ∃ W3, W2.putObj (W0.heap.size + 1) (.loop { AnyZI.apRec ρ fn (.func (.func g) #[] lb) w.heap.size W0.heap.size .ready none with state := .exhausted }) = W3 := ⟨_, rfl⟩
    rw [hW3] at hend
    have hg3 : W2.grownBy W3 (some (W0.heap.size + 1)) := by rw [← hW3]; exact grownBy_putObj_a _ _ _
    have hv3 : W3.heap[w.heap.size]? = some (.cells #[v] (ρ.t 24) (0, 0)) := by rw [← hW3]; exact (World.putObj_heap_other (by omega)).trans hv
    have hK3 : W3.heap[W0.heap.size]? = some (.deferred (some [])) := by rw [← hW3]; exact (World.putObj_heap_other (by omega)).trans h2.K
    have hrow3 := hrow.kept hg3 (ownsRow_ne_a hrow h2.L (fun cur e => by first | cases e | exact hne (Obj.cells.inj e).2.1))
    have hb3 : Below w.heap.size w W3 := h2.below.grown hg3 h2.below.size (fun k e => by cases e; omega)
    obtain ⟨hc3, hf3⟩ := cell_of_box_a hv3
    clear hW3
    refine ⟨none, W3, hend, ?_⟩
    gi_wp2
    rw [← hs0]
    refine ⟨by simp, .inl ⟨_, _, rfl, run_takeDeferred hK3, ?_⟩⟩
    exact ⟨_, results_tmp rfl _ _ _, v, ss, rfl, hS, hrow3.kept (grownBy_putObj_a _ _ _) (ownsRow_ne_a hrow3 hK3 (fun cur e => by first | cases e | exact hne (Obj.cells.inj e).2.1)), hnil, hb3.grown (grownBy_putObj_a _ _ _) hb3.size (fun k e => by cases e; omega)⟩
end
theorem soCollect.calls (F : Fence) (n : Nat) (h90 : F.fn 90) (h91 : F.fn 91) (h94 : F.fn 94) (hro : F.round = none) (hn : 4 ≤ n) (Bs cap : Nat) (A : Option Addr) (zs : List Int) (hcap : zs.length ≤ cap) (hN : zs.length ≤ maxLen) (hNb : zs.length * 8 ≤ 140737488355328)
    (w : World) (hBs : Bs < w.heap.size) (hc : w.cell? ⟨Bs, 0, none⟩ = some (.slice A zs.length cap)) (hC : Kd.C wkI w A zs.length zs) :
    CallsIn F n Try.prog 90 #[.func (.func 91) #[] #[.pointer (some ⟨Bs, 0, none⟩)]] w fun e w' => ∃ v, e = .returned v ∧ w'.ownsRow w.heap.size 3 1 v zs.length (zs.map encZ) ∧ Below w.heap.size w w' := by
  have h1 : 1 ≤ n := by omega
  have e91 : ∀ args w, (callFunc 91 args).run Try.prog w = .ok (.enter 91 args) w := enters_of Try.func91 (by kernel_rfl) rfl
  have cA : CallsIn F (n - 1) Try.prog 94 #[.slice none 0 0, .func (.func 91) #[] #[.pointer (some ⟨Bs, 0, none⟩)]] w fun e w' => ∃ v, e = .returned v ∧ w'.ownsRow w.heap.size 3 1 v zs.length (zs.map encZ) ∧ Below w.heap.size w w' := by
    refine (soAppend.gives (ρ := Try.lays83_ren) { Try.lays83 with } F (n - 1) h94 hro (by omega) 91 _ h91 e91 (fun ss => ss = zs) zs.length hN hNb w w (Below.refl _ _) (soValues.gives F (n - 1 - 1) h91 hro (by omega) Bs cap A zs hcap w hBs hc hC)).mono ?_
    rintro e w' ⟨v, ss, rfl, rfl, h, -, hb⟩
    exact ⟨v, rfl, h, hb⟩
  clear hc hC
  refine callsIn_of_wp Try.func90 rfl h90 ?_ hro
  simp only [Try.ntmps90, List.size_toArray, zLc, zLn, Nat.reduceAdd, Nat.reduceSub, Array.replicate_succ, Array.replicate_zero, List.push_toArray, List.append_toArray, List.nil_append, List.cons_append]
  gi_wp2_with (gi_at_call 94; refine cA.mono ?_; rintro e w' ⟨v, rfl, hrow, hb⟩)
  go_ret
  exact ⟨v, rfl, hrow, hb⟩
theorem soSorted.calls (Bs cap : Nat) (A : Option Addr) (zs : List Int) (hcap : zs.length ≤ cap) (hN : zs.length ≤ maxLen) (hNb : zs.length * 8 ≤ 140737488355328)
    (w : World) (hBs : Bs < w.heap.size) (hc : w.cell? ⟨Bs, 0, none⟩ = some (.slice A zs.length cap)) (hC : Kd.C wkI w A zs.length zs) :
    Calls Try.prog 83 #[.func (.func 91) #[] #[.pointer (some ⟨Bs, 0, none⟩)]] w fun e w' => ∃ v, e = .returned v ∧ Kd.R wkI 3 w' w.heap.size (fun _ => True) v (wkSorted zs) ∧ Below w.heap.size w w' := by
  rw [← wkSorted_eq]
  have cC := (callsIn_wide (n := 6)).1 (soCollect.calls Fence.wide 6 trivial trivial trivial rfl (by omega) Bs cap A zs hcap hN hNb w hBs hc hC)
  clear hc hC
  go_enter Try.func83, Try.ntmps83
  go_wp2_with (go_at_call 90; refine cC.mono ?_; rintro e W ⟨v, rfl, hrow, hb⟩)
  have hlen : (zs.mergeSort (fun x y => decide (x ≤ y))).length = zs.length := List.length_mergeSort zs
  rcases hrow.2 with ⟨rfl, hz⟩ | ⟨gb, c1, cur, rfl, hbase, hgb, r1, r2, r3, r4⟩
  · have hss : zs = [] := List.eq_nil_of_length_eq_zero hz
    subst hss
    go_wp2_with (go_at_call 29; refine (Try.slices_Sort_int_none none 0 W).mono ?_; rintro e w' ⟨rfl, rfl⟩)
    go_ret
    exact ⟨_, rfl, (List.mergeSort_nil (r := fun x y : Int => decide (x ≤ y))).symm ▸ Kd.R_nil wkI 3 _ _ _, hb⟩
  · have hH : Holds encZ W gb 0 zs.toArray := holds_of_block_i hgb (by simpa using r4)
    have hgl : gb < W.heap.size := (Array.getElem?_eq_some_iff.1 hgb).1
    have cS := Try.slices_Sort_int gb 0 c1 zs W hH hgl (by omega)
    go_wp2_with (go_at_call 29; refine cS.mono ?_; rintro e w' ⟨rfl, nn, os, rfl⟩)
    go_ret
    refine ⟨_, rfl, ?_, hb.grown (grownBy_sorted_i _) hb.size (fun j hj => by cases hj; exact hbase)⟩
    have ho := ownsRow_sorted_i (w := W) (n := nn) (os := os) hlen hbase hgb r1 r2 r3
    refine Kd.R_of_own (enc := Value.int .i64) (h1 := fun _ => rfl) (by rw [hlen]; exact ho) (fun _ _ => trivial)
end
theorem WkW.fedges {w0 wn W : World} {gw : Nat} {vn : Value} {V : WkV} {s : Wk} {vE : Value} {es : List Int} (h : WkW w0 wn W gw vn V s) (hE : Kd.R wkI 3 W w0.heap.size (fun _ => True) vE es) (ho : vE.ownBlock = V.vE.ownBlock) : WkW w0 wn (W.setCell ⟨gw, 4, none⟩ vE) gw vn { V with vE := vE } { s with edges := es } :=
  { h with hK := h.hK.set h.hw (by decide) _ _, hBl := below_set h.hBl h.hgw, hw := blk_put (cs := wkCells vn V s.clock) h.hw 4 _ rfl, h1 := Kd.R_set h.h1 h.hw (by decide) _ _, h2 := Kd.R_set h.h2 h.hw (by decide) _ _, h3 := Kd.R_set h.h3 h.hw (by decide) _ _, hE := Kd.R_set hE h.hw (by decide) _ _, h5 := Kd.R_set h.h5 h.hw (by decide) _ _, h6 := Kd.R_set h.h6 h.hw (by decide) _ _, hB := Kd.S_mono (Kd.S_set h.hB h.hw (by decide) _ _) (fun k hk => ⟨hk.1, hk.2.1, hk.2.2.1, by show some k ≠ vE.ownBlock; rw [ho]; exact hk.2.2.2⟩), hS := Kd.R_set h.hS h.hw (by decide) _ _, dE1 := fun k hk => h.dE1 k (ho ▸ hk), dE2 := fun k hk => h.dE2 k (ho ▸ hk), dE3 := fun k hk => h.dE3 k (ho ▸ hk) }
theorem WkW.gblocks {w0 wn W W1 : World} {gw : Nat} {vn : Value} {V : WkV} {s : Wk} (h : WkW w0 wn W gw vn V s) (hb : Below w0.heap.size w0 W1) (hg : W.grownBy W1 V.vB.ownBlock) {vB : Value} {bs : List (List Int)}
    (hB : Kd.S (Kd.slice 3 wkI) 33 W1 w0.heap.size (fun k => some k ≠ V.v1.ownBlock ∧ some k ≠ V.v2.ownBlock ∧ some k ≠ V.v3.ownBlock ∧ some k ≠ V.vE.ownBlock) vB bs) : WkW w0 wn (W1.setCell ⟨gw, 7, none⟩ vB) gw vn { V with vB := vB } { s with blocks := bs } := by
  have ty := Kd.S_typed h.hB
  have hw1 := blk_grown h.hw hg (Kd.S_ne h.hB h.hw (by decide))
  exact { h with hK := (h.hK.grown ty (by decide) hg).set hw1 (by decide) _ _, hBl := below_set hb h.hgw, hw := blk_put (cs := wkCells vn V s.clock) hw1 7 _ rfl, h1 := Kd.R_set (Kd.R_over' h.h1 ty (by decide) hg) hw1 (by decide) _ _, h2 := Kd.R_set (Kd.R_over' h.h2 ty (by decide) hg) hw1 (by decide) _ _, h3 := Kd.R_set (Kd.R_over' h.h3 ty (by decide) hg) hw1 (by decide) _ _, hE := Kd.R_set (Kd.R_over' h.hE ty (by decide) hg) hw1 (by decide) _ _, h5 := Kd.R_set (Kd.R_over' h.h5 ty (by decide) hg) hw1 (by decide) _ _, h6 := Kd.R_set (Kd.R_over' h.h6 ty (by decide) hg) hw1 (by decide) _ _, hB := Kd.S_set hB hw1 (by decide) _ _, hS := Kd.R_set (Kd.R_over' h.hS ty (by decide) hg) hw1 (by decide) _ _ }
theorem soVals.calls (A : Option Addr) (n c : Nat) (w : World) :
    Calls Try.prog 84 #[.slice A n c] w fun e w' => e = .returned (.func (.func 91) #[] #[.pointer (some ⟨w.heap.size, 0, none⟩)]) ∧ w' = w.alloc (.cells #[.slice A n c] 33) := by
  go_enter Try.func84, Try.ntmps84
  go_wp2
  go_ret
  exact ⟨rfl, rfl⟩
def wkOff (s : Wk) (x : Int) : Option Wk :=
  if 0 ≤ Lib.idxOf s.edges x ∧ Lib.idxOf s.edges x < (s.edges.length : Int) ∧ s.edges.length ≤ 17592186044416 ∧ s.blocks.length < 5864062014805 then
    some { s with edges := s.edges.take (Lib.idxOf s.edges x).toNat, blocks := s.blocks ++ [wkSorted (s.edges.drop (Lib.idxOf s.edges x).toNat)] }
  else none
theorem wkOff.calls (w0 wn w : World) (gw : Nat) (vn : Value) (V : WkV) (s s' : Wk) (x : Int) (h : WkW w0 wn w gw vn V s) (he : wkOff s x = some s') :
    Calls Try.prog 71 #[.pointer (some ⟨gw, 0, none⟩), .int .i64 x] w fun e W' => e = .returned (.tuple #[]) ∧ Below w0.heap.size w0 W' ∧ ∃ V', WkW w0 wn W' gw vn V' s' := by
  have hu55 := Try.underlying55
  have HW := zMk h
  unfold wkOff at he
  by_cases hc : 0 ≤ Lib.idxOf s.edges x ∧ Lib.idxOf s.edges x < (s.edges.length : Int) ∧ s.edges.length ≤ 17592186044416 ∧ s.blocks.length < 5864062014805
  rotate_left
  · rw [if_neg hc] at he; cases he
  rw [if_pos hc] at he
  obtain rfl := zOi he
  clear he
  obtain ⟨c0, c1, c2, c3⟩ := hc
  obtain ⟨k, hk⟩ : ∃ k : Nat, Lib.idxOf s.edges x = (k : Int) := ⟨(Lib.idxOf s.edges x).toNat, by omega⟩
  rw [hk] at c0 c1 ⊢
  rw [zTn]
  obtain ⟨gE, cE, eE, -, -, -⟩ := Kd.R_form HW.out.hE (by omega)
  have EE := zMk eE
  have hE := HW.out.hE
  rw [eE] at hE
  obtain ⟨-, hcE, hCE⟩ := zRr hE
  have hml : s.edges.length ≤ 9223372036854775807 := Kd.C_max hCE
  have HCE := zMk hCE
  have hIx := Try.slices_Index_int gE 0 s.edges.length cE s.edges x w (Nat.le_refl _) hml (fun j hj => by
    obtain ⟨hx, -⟩ := Kd.R_celln (0 : Int) hE (j : Int) (by omega) (by omega)
    rw [zTn] at hx
    rw [Nat.zero_add]
    exact hx)
  rw [List.take_length, hk] at hIx
  have HIX := zMk hIx
  have C3 := zMk c3
  have C2 := zMk c2
  clear hE hCE hIx hk eE c3 h
  have z4 : w.cell? ⟨gw, 4, none⟩ = some (.slice (some ⟨gE, 0, none⟩) s.edges.length cE) := (zKc HW.out.hw 4).trans (congrArg some EE.out)
  go_enter Try.func71, Try.ntmps71
  go_upto_region 1 with (go_at_call 82; refine HIX.out.mono ?_; rintro e w' ⟨rfl, rfl⟩)
  have k1 : (0 ≤ (k : Int)) = True := eq_true (by omega)
  have k2 : ((k : Int) ≤ (s.edges.length : Int)) = True := eq_true (by omega)
  have k3 : (k ≤ s.edges.length) = True := eq_true (by omega)
  have k4 : (s.edges.length ≤ cE) = True := eq_true hcE
  have k5 : (cE = k) = False := eq_false (by omega)
  have k6 : (k ≤ cE) = True := eq_true (by omega)
  have hld : (s.edges.drop k).length = s.edges.length - k := zLd
  have HCD := zMk (show Kd.C wkI (w'.alloc (.cells #[.slice (some ⟨gE, k, none⟩) (s.edges.length - k) (cE - k)] 33)) (some ⟨gE, k, none⟩) (s.edges.drop k).length (s.edges.drop k) from by
    have h1 := Kd.C_drop (m := k) (c := cE) HCE.out (by omega) hcE
    rw [if_neg (by omega)] at h1
    have h2 : (Option.map (fun x : Addr => x.add (k * wkI.sz)) (some ⟨gE, 0, none⟩)) = some ⟨gE, k, none⟩ := by
      show some (Addr.add ⟨gE, 0, none⟩ (k * 1)) = _
      rw [Nat.mul_one]
      simp [Addr.add]
      first | omega | (intro h; exact h.symm)
    rw [h2] at h1
    exact zCa h1 _)
  have hmx : 17592186044416 ≤ maxLen := by decide
  have cS := soSorted.calls w'.heap.size (cE - k) (some ⟨gE, k, none⟩) (s.edges.drop k) (by omega) (by omega) (by omega) (w'.alloc (.cells #[.slice (some ⟨gE, k, none⟩) (s.edges.length - k) (cE - k)] 33)) (by simp) (by
    rw [hld]
    exact zKc (World.alloc_heap_new _ _) 0) HCD.out
  have CS := zMk cS
  clear cS hld hmx
  go_upto_region 2 with (first | (go_at_call 84; refine (soVals.calls _ _ _ w').mono ?_; rintro e w1 ⟨rfl, rfl⟩) | (go_at_call 83; refine CS.out.mono ?_; rintro e w2 ⟨vb, rfl, hrb, hb2⟩; have HRB := zMk hrb; have HB2 := zMk hb2; clear hrb hb2))
  obtain ⟨Ab, cb, eb⟩ := zRs HRB.out
  generalize (wkSorted (s.edges.drop k)).length = nb at eb
  subst eb
  have BLa := zMk (zBa (Below.refl w'.heap.size w') (.cells #[.slice (some ⟨gE, k, none⟩) (s.edges.length - k) (cE - k)] 33))
  have HB3 := zMk (zBt BLa.out HB2.out)
  have HW2 := zMk (HW.out.below HB3.out)
  have hold : w'.heap.size ≤ (w'.alloc (.cells #[.slice (some ⟨gE, k, none⟩) (s.edges.length - k) (cE - k)] 33)).heap.size := zBs BLa.out
  have HNEW := zMk (show ∀ k_, (.slice Ab nb cb : Value).ownBlock = some k_ → w'.heap.size ≤ k_ from fun k_ hk_ => Nat.le_trans hold (zRz HRB.out k_ hk_))
  have HSB := zMk (Kd.S_mono (Kd.S_elder' HW.out.hB (v := .slice Ab nb cb) HNEW.out HB3.out) (fun _ hk => hk))
  have HN1 := zMk (show ∀ k_, some k_ = (.slice Ab nb cb : Value).ownBlock → some k_ ≠ V.v1.ownBlock ∧ some k_ ≠ V.v2.ownBlock ∧ some k_ ≠ V.v3.ownBlock ∧ some k_ ≠ V.vE.ownBlock from fun k_ hk_ => by
    have hge := HNEW.out k_ hk_.symm
    exact ⟨fun e => absurd (zRt HW.out.h1 k_ e.symm) (by omega), fun e => absurd (zRt HW.out.h2 k_ e.symm) (by omega), fun e => absurd (zRt HW.out.h3 k_ e.symm) (by omega), fun e => absurd (zRt HW.out.hE k_ e.symm) (by omega)⟩)
  have HNB := zMk (show ∀ k_, some k_ = (.slice Ab nb cb : Value).ownBlock → some k_ ≠ V.vB.ownBlock from fun k_ hk_ e => absurd (Kd.S_lt HW.out.hB k_ e.symm) (by have := HNEW.out k_ hk_.symm; omega))
  clear CS HCD HCE HIX hold BLa HB2 z4
  have HRL := zMk (Kd.R_tight rfl (zRl HRB.out (show w0.heap.size ≤ (w'.alloc (.cells #[.slice (some ⟨gE, k, none⟩) (s.edges.length - k) (cE - k)] 33)).heap.size from Nat.le_trans (zBs HW.out.hBl) (by simp))))
  clear HRB HW HB3 HNEW
  have z4 : w2.cell? ⟨gw, 4, none⟩ = some (.slice (some ⟨gE, 0, none⟩) s.edges.length cE) := (zKc HW2.out.hw 4).trans (congrArg some EE.out)
  have f4 := zKf HW2.out.hw 4
  go_upto_region 3 with (fail)
  have HW3 := zMk (HW2.out.fedges (vE := .slice (some ⟨gE, 0, none⟩) k cE) (es := s.edges.take k) (by
    have h3 := HW2.out.hE
    rw [EE.out] at h3
    exact Kd.R_take h3 (by omega)) (by rw [EE.out]; rfl))
  have OE := zMk (show (Value.slice (some ⟨gE, 0, none⟩) k cE).ownBlock = V.vE.ownBlock by rw [EE.out]; rfl)
  have HSB3 := zMk (Kd.S_set HSB.out HW2.out.hw (by decide) 4 (.slice (some ⟨gE, 0, none⟩) k cE))
  have HRL3 := zMk (Kd.R_set HRL.out HW2.out.hw (by decide) 4 (.slice (some ⟨gE, 0, none⟩) k cE))
  clear HSB HRL HW2 z4 f4
  generalize w2.setCell ⟨gw, 4, none⟩ (.slice (some ⟨gE, 0, none⟩) k cE) = w3 at HW3 HSB3 HRL3 ⊢
  have z7 : w3.cell? ⟨gw, 7, none⟩ = some V.vB := (zKc HW3.out.hw 7).trans rfl
  obtain ⟨AB, cB, eB⟩ := Kd.S_slice HSB3.out
  rw [eB] at z7
  have EB := zMk eB
  clear eB
  go_wp2_with ((with_reducible refine gate_builtin (b := .append) (xs := #[.tmp 33, .tmp 35]) rfl ?_); at_builtin; refine Kd.S_append (Kd.slice 3 wkI) (w0 := w0) w0.heap.size rfl (.tmp 33) (.tmp 35) 29 33 (.slice none 0 0) 24 rfl Try.underlying29 info33 rfl (by decide) (by omega) V.vB s.blocks (wkSorted (s.edges.drop k)) [.slice Ab nb cb] (fun k_ => some k_ ≠ V.v1.ownBlock ∧ some k_ ≠ V.v2.ownBlock ∧ some k_ ≠ V.v3.ownBlock ∧ some k_ ≠ V.vE.ownBlock) (fun k_ => some k_ = (.slice Ab nb cb : Value).ownBlock) EB.out.symm rfl ?aP (fun k_ hk_ => ⟨HN1.out k_ hk_, HNB.out k_ hk_⟩) ?aF ?aO ?aB ?aS ?aL ?_; (case aP => exact Kd.M_row (zRm (Kd.R_tight rfl HRL3.out) (fun _ h_ => h_))); (case aB => exact HW3.out.hBl); (case aF => exact fun k_ hk_ => ⟨fun e => absurd (zRt HW3.out.h1 k_ e.symm) (by omega), fun e => absurd (zRt HW3.out.h2 k_ e.symm) (by omega), fun e => absurd (zRt HW3.out.h3 k_ e.symm) (by omega), fun e => absurd (zRt HW3.out.hE k_ (OE.out.trans e.symm)) (by omega)⟩); (case aO => exact Kd.S_mono HSB3.out (fun k_ hk => ⟨hk.1, fun e_ => hk.2 e_⟩)); (case aS => exact zBs HW3.out.hBl); (case aL => have := C3.out; omega); intro vN w7 ho hb hg hat; have RN := zMk ho; have HB7 := zMk hb; have HG7 := zMk hg; obtain ⟨AN, cN, eN⟩ := Kd.S_slice ho; generalize (s.blocks ++ [wkSorted (s.edges.drop k)]).length = nN at eN; subst eN; clear ho hb hg hat; have f7 := zKf (blk_grown HW3.out.hw HG7.out (Kd.S_ne HW3.out.hB HW3.out.hw (by decide))) 7; have z7 : w7.cell? ⟨gw, 7, none⟩ = some V.vB := (zKc (blk_grown HW3.out.hw HG7.out (Kd.S_ne HW3.out.hB HW3.out.hw (by decide))) 7).trans rfl)
  first | go_end0 | ((try simp only [Exit.inBlock, Exit.then]); refine bodyPost_ret (results_none rfl _ _ _) rfl ?_)
  have HF := HW3.out.gblocks HB7.out HG7.out (Kd.S_mono RN.out (fun k_ hk => ⟨hk.1, hk.2.1, hk.2.2.1, by show some k_ ≠ (Value.slice (some ⟨gE, 0, none⟩) k cE).ownBlock; rw [OE.out]; exact hk.2.2.2⟩))
  exact ⟨rfl, HF.hBl, _, HF⟩
section
open Go.Shelf
def wkMore (near : List (List S51)) (s : Wk) (p : Int) : Option Bool :=
  if 0 ≤ p ∧ p < (s.next.length : Int) ∧ p < (near.length : Int) ∧ 0 ≤ rd s.next p ∧ rd s.next p < ((rd_L3 near p).length : Int) ∧ ((rd_L3 near p).all fun a => decide (0 ≤ a.f1 ∧ a.f1 < (s.taken.length : Int))) = true then
    some (((rd_L3 near p).drop (rd s.next p).toNat).any fun a => !rdOf false s.taken a.f1)
  else none
def encArc (a : S51) : List Value := [.int .i64 a.f0, .int .i64 a.f1]
abbrev ArcIn (n : Nat) : Type := { a : S51 // 0 ≤ a.f1 ∧ a.f1 < (n : Int) }
theorem wkMore.pred (w0 wn w : World) (gw Bx : Nat) (vn : Value) (V : WkV) (s : Wk) (h : WkW w0 wn w gw vn V s) (hB : Bx < w.heap.size) (hb : w.cell? ⟨Bx, 0, none⟩ = some (.pointer (some ⟨gw, 0, none⟩))) :
    PredBelow Try.prog 86 #[.pointer (some ⟨Bx, 0, none⟩)] (fun x : ArcIn s.taken.length => .agg (encArc x.1).toArray) (fun x => !rdOf false s.taken x.1.f1) w := fun W x hbl => by
  have hu55 := Try.underlying55
  have hu51 := Try.underlying51
  obtain ⟨a, ha0, ha1⟩ := x
  have HW := zMk h
  have hcb := (hbl.cell (p := ⟨Bx, 0, none⟩) hB).trans hb
  obtain ⟨g5, c5, e5, -, -, -⟩ := Kd.R_form HW.out.h5 (by omega)
  have h5 := HW.out.h5
  rw [e5] at h5
  obtain ⟨hx, -⟩ := Kd.R_celln false h5 a.f1 ha0 ha1
  have z5 : w.cell? ⟨gw, 5, none⟩ = some (.slice (some ⟨g5, 0, none⟩) s.taken.length c5) := (zKc HW.out.hw 5).trans (congrArg some e5)
  have z5' := (hbl.cell (World.block_lt_of_cell? w _ z5)).trans z5
  have zx' : W.cell? ⟨g5, a.f1.toNat, none⟩ = some (.bool (rdOf false s.taken a.f1)) := (hbl.cell (World.block_lt_of_cell? w _ hx)).trans hx
  have lB := World.block_lt_of_cell? W _ hcb
  have l5 := World.block_lt_of_cell? W _ z5'
  have lx := World.block_lt_of_cell? W _ zx'
  have HBL := zMk hbl
  clear hx z5 h5 hbl hb h
  show Calls Try.prog 86 #[.agg #[.int .i64 a.f0, .int .i64 a.f1], .pointer (some ⟨Bx, 0, none⟩)] W fun e w' => e = .returned (.bool (!rdOf false s.taken a.f1)) ∧ Below w.heap.size w w'
  generalize rdOf false s.taken a.f1 = bt at zx' ⊢
  go_enter Try.func86, Try.ntmps86
  go_upto_region 1 with (fail)
  have HB1 := zMk (zBa (Below.refl W.heap.size W) (.cells #[.int .i64 a.f0, .int .i64 a.f1] 51))
  have y0 := (HB1.out.cell lB).trans hcb
  have y5 := (HB1.out.cell l5).trans z5'
  have yx := (HB1.out.cell lx).trans zx'
  have ya := zKc (World.alloc_heap_new W (.cells #[.int .i64 a.f0, .int .i64 a.f1] 51)) 1
  clear hcb z5' zx' lB l5 lx
  generalize W.alloc (.cells #[.int .i64 a.f0, .int .i64 a.f1] 51) = w1 at HB1 y0 y5 yx ya ⊢
  have HB2 := zMk (zBd HB1.out)
  have x0 : w1.drew.cell? ⟨Bx, 0, none⟩ = some (.pointer (some ⟨gw, 0, none⟩)) := y0
  have x5 : w1.drew.cell? ⟨gw, 5, none⟩ = some (.slice (some ⟨g5, 0, none⟩) s.taken.length c5) := y5
  have xx : w1.drew.cell? ⟨g5, a.f1.toNat, none⟩ = some (.bool bt) := yx
  have xa : w1.drew.cell? ⟨W.heap.size, 1, none⟩ = some (.int .i64 a.f1) := ya
  have p1 : (0 ≤ a.f1) = True := eq_true ha0
  have p2 : (a.f1 < (s.taken.length : Int)) = True := eq_true ha1
  clear y0 y5 yx ya HB1
  refine wp_region_still_tail 9 (by kernel_rfl) (by kernel_rfl) ?_
  generalize hw2 : w1.drew = w2 at x0 x5 xx xa HB2
  show wpStill _ _ w1.drew (fun a' => wpList _ _ _ _ a' w1.drew) _ _
  rw [hw2]
  clear hw2
  simp only [List.take_succ_cons, List.take_zero, List.drop_succ_cons, List.drop_zero]
  repeat still_step
  refine wpStill_nil ?_
  go_wp2
  go_ret
  exact ⟨rfl, zBt HBL.out HB2.out⟩
theorem arcs_in (n : Nat) (L : List S51) (h : ∀ a, a ∈ L → 0 ≤ a.f1 ∧ a.f1 < (n : Int)) : ∃ zs : List (ArcIn n), zs.map (fun z => z.1) = L := ⟨L.attach.map (fun a => ⟨a.1, h a.1 a.2⟩), by simp⟩
theorem spot_none {w : World} {ad : Addr} {u : Value} (h : w.cell? ad = some u) : ad.spot = none := by
  obtain ⟨b, o, sp⟩ := ad
  cases sp with
  | none => rfl
  | some q =>
    unfold World.cell? at h
    split at h
    · simp at h
    · cases h
theorem add_none (g o m : Nat) : (⟨g, o, none⟩ : Addr).add m = ⟨g, o + m, none⟩ := by
  unfold Addr.add
  split
  · subst_vars; rfl
  · rfl
theorem wkMore.calls (near : List (List S51)) (w0 wn w : World) (gw : Nat) (An : Option Addr) (cn : Nat) (V : WkV) (s : Wk) (x : Int) (b : Bool)
    (nb : Nat) (okn : Nat → Prop) (hn : Kd.S (Kd.slice 51 k51) 49 wn nb okn (.slice An near.length cn) near) (h : WkW w0 wn w gw (.slice An near.length cn) V s) (he : wkMore near s x = some b) :
    Calls Try.prog 72 #[.pointer (some ⟨gw, 0, none⟩), .int .i64 x] w fun e w' => e = .returned (.bool b) ∧ Below w.heap.size w w' := by
  have hu55 := Try.underlying55
  have HW := zMk h
  unfold wkMore at he
  by_cases hc : 0 ≤ x ∧ x < (s.next.length : Int) ∧ x < (near.length : Int) ∧ 0 ≤ rd s.next x ∧ rd s.next x < ((rd_L3 near x).length : Int) ∧ ((rd_L3 near x).all fun a => decide (0 ≤ a.f1 ∧ a.f1 < (s.taken.length : Int))) = true
  rotate_left
  · rw [if_neg hc] at he; cases he
  rw [if_pos hc] at he
  have hbv := zOi he
  clear he
  obtain ⟨c0, c1, c2, c3, c4, c5⟩ := hc
  obtain ⟨adn, Ai, ci, ea, hcl, hci, hCI⟩ := at_L3 (HW.out.near hn) x c0 c2
  cases ea
  obtain ⟨L, hL⟩ : ∃ L, L = rd_L3 near x := ⟨_, rfl⟩
  rw [← hL] at hcl hci hCI c4 c5 hbv
  obtain ⟨k, hk⟩ : ∃ k : Nat, rd s.next x = (k : Int) := ⟨(rd s.next x).toNat, by omega⟩
  rw [hk, zTn] at hbv
  rw [hk] at c3 c4
  obtain ⟨aI, e0, hx0, -⟩ := at_T51 hCI 0 (by omega) (by omega)
  cases e0
  have hsp := spot_none hx0
  obtain ⟨gi, oi, sp⟩ := aI
  obtain rfl : sp = none := by simpa [Addr.add] using hsp
  have HCI := zMk hCI
  have hLm : L.length ≤ 9223372036854775807 := Kd.C_max hCI
  have HAL := zMk (show ∀ a, a ∈ L → 0 ≤ a.f1 ∧ a.f1 < (s.taken.length : Int) from fun a ha => of_decide_eq_true (List.all_eq_true.1 c5 a ha))
  obtain ⟨g3, cc3, e3, -, -, -⟩ := Kd.R_form HW.out.h3 (by omega)
  have h3 := HW.out.h3
  rw [e3] at h3
  obtain ⟨hx3, -⟩ := Kd.R_celln (0 : Int) h3 x c0 c1
  have z3 : w.cell? ⟨gw, 3, none⟩ = some (.slice (some ⟨g3, 0, none⟩) s.next.length cc3) := (zKc HW.out.hw 3).trans (congrArg some e3)
  have z0 : w.cell? ⟨gw, 0, none⟩ = some (.slice (some adn) near.length cn) := (zKc HW.out.hw 0).trans rfl
  have zn : w.cell? (adn.add x.toNat) = some (.slice (some ⟨gi, oi, none⟩) L.length ci) := hcl
  have zx : w.cell? ⟨g3, x.toNat, none⟩ = some (.int .i64 (k : Int)) := hx3.trans (congrArg (fun q => some (Value.int .i64 q)) hk)
  have HBV := zMk hbv
  clear hx0 hsp hcl hCI hL h3 hx3 hk c5 hbv e3 hn h
  have HL := zMk (show (k : Int) < (L.length : Int) from c4)
  have HB1 := zMk (zBa (Below.refl w.heap.size w) (.cells #[.pointer (some ⟨gw, 0, none⟩)] 56))
  have HW1 := zMk (HW.out.below HB1.out)
  have y3 := (HB1.out.cell (World.block_lt_of_cell? w _ z3)).trans z3
  have y0 := (HB1.out.cell (World.block_lt_of_cell? w _ z0)).trans z0
  have yn := (HB1.out.cell (World.block_lt_of_cell? w _ zn)).trans zn
  have yx := (HB1.out.cell (World.block_lt_of_cell? w _ zx)).trans zx
  have yb := zKc (World.alloc_heap_new w (.cells #[.pointer (some ⟨gw, 0, none⟩)] 56)) 0
  have lb : w.heap.size < (w.alloc (.cells #[.pointer (some ⟨gw, 0, none⟩)] 56)).heap.size := by simp
  have HLB := zMk lb
  clear z3 z0 zn zx lb
  go_enter Try.func72, Try.ntmps72
  go_upto_region 1 with (fail)
  generalize w.alloc (.cells #[.pointer (some ⟨gw, 0, none⟩)] 56) = w1 at HB1 HW1 y3 y0 yn yx yb HLB ⊢
  have HB2 := zMk (zBd HB1.out)
  have HW2 := zMk (HW1.out.below (zBd (Below.refl w1.heap.size w1)))
  have HLB2 := zMk (show w.heap.size < w1.drew.heap.size from HLB.out)
  have x3 : w1.drew.cell? ⟨g3, x.toNat, none⟩ = some (.int .i64 (k : Int)) := yx
  have x4 : w1.drew.cell? ⟨gw, 3, none⟩ = some (.slice (some ⟨g3, 0, none⟩) s.next.length cc3) := y3
  have x0 : w1.drew.cell? ⟨gw, 0, none⟩ = some (.slice (some adn) near.length cn) := y0
  have xn : w1.drew.cell? (adn.add x.toNat) = some (.slice (some ⟨gi, oi, none⟩) L.length ci) := yn
  have xb : w1.drew.cell? ⟨w.heap.size, 0, none⟩ = some (.pointer (some ⟨gw, 0, none⟩)) := yb
  have HXB := zMk xb
  clear HB1 HW1 y3 y0 yn yx yb HLB
  have p1 : (0 ≤ x) = True := eq_true c0
  have p2 : (x < (s.next.length : Int)) = True := eq_true c1
  have p3 : (x < (near.length : Int)) = True := eq_true c2
  have k1 : (0 ≤ (k : Int)) = True := eq_true (by omega)
  have k2 : ((k : Int) ≤ (L.length : Int)) = True := eq_true (by omega)
  have k3 : (k ≤ L.length) = True := eq_true (by omega)
  have k4 : (L.length ≤ ci) = True := eq_true hci
  have k5 : (ci = k) = False := eq_false (by omega)
  refine wp_region_still_tail 16 (by kernel_rfl) (by kernel_rfl) ?_
  generalize hw2 : w1.drew = w2 at x0 x3 x4 xn xb HXB HB2 HW2 HLB2
  show wpStill _ _ w1.drew (fun a' => wpList _ _ _ _ a' w1.drew) _ _
  rw [hw2]
  clear hw2
  simp only [List.take_succ_cons, List.take_zero, List.drop_succ_cons, List.drop_zero]
  repeat still_step
  refine wpStill_nil ?_
  obtain ⟨zs, hzs⟩ := arcs_in s.taken.length (L.drop k) (fun a ha => HAL.out a (List.mem_of_mem_drop ha))
  have hzl : zs.length = L.length - k := by rw [← zLd, ← hzs, List.length_map]
  haveI : Inhabited (ArcIn s.taken.length) := ⟨zs[0]'(by omega)⟩
  have hcell : ∀ j, j < zs.length → ∀ (i : Nat) (v : Value), (encArc (zs[j]!).1)[i]? = some v → w2.cell? ⟨gi, oi + k * 2 + j * 2 + i, none⟩ = some v := by
    intro j hj i v hv
    have hz1 : (zs[j]!).1 = rd_T51 L ((k + j : Nat) : Int) := by
      rw [getElem!_pos zs j hj]
      have h1 : (zs.map (fun z => z.1))[j]? = (L.drop k)[j]? := by rw [hzs]
      rw [List.getElem?_map, List.getElem?_eq_getElem hj, List.getElem?_drop] at h1
      show _ = L.getD ((k + j : Nat) : Int).toNat z51
      rw [zTn, List.getD_eq_getElem?_getD, ← h1]
      rfl
    rw [hz1] at hv
    obtain ⟨ad, e, h0, h1⟩ := at_T51 (Kd.C_below HCI.out HB2.out) ((k + j : Nat) : Int) (by omega) (by omega)
    cases e
    rw [zTn, add_none, Nat.add_mul, ← Nat.add_assoc] at h0 h1
    match i, hv with
    | 0, hv => obtain rfl := zOi hv; exact h0
    | 1, hv => obtain rfl := zOi hv; exact h1
    | i + 2, hv => simp [encArc] at hv
  have cC := AnyQ.slices_ContainsFunc Try.lays85 2 Try.isAgg51 Try.sizeOf51 (fun x : ArcIn s.taken.length => encArc x.1) (fun _ => rfl) (fun x => !rdOf false s.taken x.1.f1) 86 #[.pointer (some ⟨w.heap.size, 0, none⟩)] (enters_of Try.func86 (by kernel_rfl) rfl) gi (oi + k * 2) zs.length (ci - k) zs w2
    (wkMore.pred w0 wn w2 gw w.heap.size _ V s HW2.out HLB2.out HXB.out) (Nat.le_refl _) (by omega) (by
      have h1 := at_T51 (Kd.C_below HCI.out HB2.out) (k : Int) (by omega) (by omega)
      obtain ⟨ad, e, h0, -⟩ := h1
      cases e
      rw [zTn, add_none] at h0
      exact World.block_lt_of_cell? w2 _ h0) hcell
  change Calls Try.prog 85 _ _ _ at cC
  have hany : (zs.take zs.length).any (fun x => !rdOf false s.taken x.1.f1) = b := by
    rw [List.take_length, ← HBV.out, ← hzs, List.any_map]
    rfl
  rw [hany, hzl] at cC
  have CC := zMk cC
  clear cC hany hcell hzs
  go_wp2_with (go_at_call 85; refine CC.out.mono ?_; rintro e w3 ⟨rfl, hb3⟩; have HB3 := zMk hb3; clear hb3)
  go_ret
  exact ⟨rfl, zBt HB2.out HB3.out⟩
end
-- LEAVE
theorem wk_add (g n : Nat) : (⟨g, 0, none⟩ : Addr).add n = ⟨g, n, none⟩ := by
  unfold Addr.add
  split
  · simp_all
  · simp
def wkCut (more : Wk → Int → Option Bool) (near : List (List S51)) (p : Int) (s3 : Wk) : Option Wk :=
  (if 1 < s3.stack.length then some true else if p < (s3.next.length : Int) ∧ p < (near.length : Int) then (if rd s3.next p < ((rd_L3 near p).length : Int) then more s3 p else some false) else none).bind fun c =>
    if c = true then (if p < (s3.cut.length : Int) then some { s3 with cut := s3.cut.set p.toNat true } else none) else some s3
def wkTail (off : Wk → Int → Option Wk) (more : Wk → Int → Option Bool) (near : List (List S51)) (o p : Int) (f : S51) (s2 : Wk) : Option Wk :=
  if o ≤ rd s2.low f.f0 then (off s2 f.f1).bind (wkCut more near p) else some s2
def wkLeave (off : Wk → Int → Option Wk) (more : Wk → Int → Option Bool) (near : List (List S51)) (s : Wk) : Option Wk :=
  if s.stack.length = 0 then none
  else if s.stack.length = 1 then some { s with stack := s.stack.take 0 }
  else
    let m := s.stack.length - 1
    let f := rd_T51 s.stack (m : Int)
    let p := (rd_T51 s.stack ((m - 1 : Nat) : Int)).f0
    if 0 ≤ p ∧ p < (s.low.length : Int) ∧ p < (s.ord.length : Int) ∧ 0 ≤ f.f0 ∧ f.f0 < (s.low.length : Int) then
      wkTail off more near (rd s.ord p) p f { s with stack := s.stack.take m, low := s.low.set p.toNat (if rd s.low f.f0 < rd s.low p then rd s.low f.f0 else rd s.low p) }
    else none
theorem wkLeave.calls (off : Wk → Int → Option Wk) (more : Wk → Int → Option Bool) (near : List (List S51)) (w0 wn w : World) (gw : Nat) (An : Option Addr) (cn : Nat) (V : WkV) (s s' : Wk)
    (hoff : ∀ (W : World) (V : WkV) (s s' : Wk) (x : Int), WkW w0 wn W gw (.slice An near.length cn) V s → off s x = some s' → Calls Try.prog 71 #[.pointer (some ⟨gw, 0, none⟩), .int .i64 x] W fun e W' => e = .returned (.tuple #[]) ∧ Below w0.heap.size w0 W' ∧ ∃ V', WkW w0 wn W' gw (.slice An near.length cn) V' s')
    (hmore : ∀ (W : World) (V : WkV) (s : Wk) (x : Int) (b : Bool), WkW w0 wn W gw (.slice An near.length cn) V s → more s x = some b → Calls Try.prog 72 #[.pointer (some ⟨gw, 0, none⟩), .int .i64 x] W fun e W' => e = .returned (.bool b) ∧ Below W.heap.size W W')
    (nb : Nat) (okn : Nat → Prop) (hn : Kd.S (Kd.slice 51 k51) 49 wn nb okn (.slice An near.length cn) near) (h : WkW w0 wn w gw (.slice An near.length cn) V s) (he : wkLeave off more near s = some s') :
    Calls Try.prog 63 #[.pointer (some ⟨gw, 0, none⟩)] w fun e w' => e = .returned (.tuple #[]) ∧ ∃ V', WkW w0 wn w' gw (.slice An near.length cn) V' s' := by
  have hu55 := Try.underlying55
  have hu89 := Try.underlying89
  have HOFF := zMk hoff
  have HMORE := zMk hmore
  have HN := zMk hn
  have HW := zMk h
  have HE := zMk he
  clear hoff hmore hn h he
  obtain ⟨m, hm⟩ : ∃ m, s.stack.length = m + 1 := by
    have he := HE.out
    unfold wkLeave at he
    by_cases h0 : s.stack.length = 0
    · rw [if_pos h0] at he; cases he
    · exact ⟨s.stack.length - 1, by omega⟩
  have hs := HW.out.hS
  obtain ⟨gs, cS, eS, -, -, -⟩ := Kd.R_form hs (by omega)
  rw [hm] at eS
  have ES := zMk eS
  rw [eS] at hs
  have hlm := wk_len hs
  rw [hm] at hlm
  have hmx : maxLen ≤ 9223372036854775807 := by decide
  have HMX := zMk (show m + 1 ≤ 9223372036854775807 by omega)
  have hfx := at_T51 (by have hc := (zRr hs).2.2; rw [hm] at hc; exact hc) (m : Int) (by omega) (by omega)
  obtain ⟨ad, ea, hx0, hx1⟩ := hfx
  cases ea
  simp only [zTn] at hx0 hx1
  obtain ⟨f, hf⟩ : ∃ f, f = rd_T51 s.stack (m : Int) := ⟨_, rfl⟩
  rw [← hf] at hx0 hx1
  rw [wk_add] at hx0 hx1
  have X0 := zMk (show w.cell? ⟨gs, m * 2, none⟩ = some (.int .i64 f.f0) from hx0)
  have X1 := zMk (show w.cell? ⟨gs, m * 2 + 1, none⟩ = some (.int .i64 f.f1) from hx1)
  clear hx0 hx1
  have FF := zMk hf
  have HM := zMk hm
  have hcS : m + 1 ≤ cS := (zRr hs).2.1 |> (fun h => by omega)
  have qm : (m ≤ cS) = True := eq_true (by omega)
  have HCS := zMk hcS
  clear hf hm eS hlm hmx hs hcS
  go_enter Try.func63, Try.ntmps63
  go_upto_region 0 with (fail)
  have HWd := zMk (HW.out.below (zBd (Below.refl w.heap.size w)))
  have BL := zMk (zBd (Below.refl w.heap.size w))
  have p7 : (0 ≤ (m : Int)) = True := eq_true (by omega)
  have p8 : ((m : Int) < (m : Int) + 1) = True := eq_true (by omega)
  have hwj : IntKind.i64.wrap (m : Int) = (m : Int) := IntWalk.i64_in _ ⟨by omega, by have := HMX.out; omega⟩
  have hw64 : wrap64 (m : Int) = (m : Int) := by have := HMX.out; unfold wrap64; omega
  refine start_ (n := 14) (S := fun w' => w'.cell? ⟨gw, 9, none⟩ = some (.slice (some ⟨gs, 0, none⟩) (m + 1) cS) ∧ w'.cell? ⟨gs, m * 2, none⟩ = some (.int .i64 f.f0) ∧ w'.cell? ⟨gs, m * 2 + 1, none⟩ = some (.int .i64 f.f1)) (ds := [13]) #[false, false, false, false, false, false, false, false, false, false, false, false, false, false] (by kernel_rfl) rfl rfl ⟨(zKc HWd.out.hw 9).trans (congrArg some ES.out), (Below.cell BL.out (World.block_lt_of_cell? w _ X0.out)).trans X0.out, (Below.cell BL.out (World.block_lt_of_cell? w _ X1.out)).trans X1.out⟩ (fun hHeld => ?_)
  generalize w.drew = wd at HWd BL hHeld ⊢
  refine pure_ (i := 0) (N := some 4) (v := ?_) (a' := ?_) #[true, false, false, false, false, false, false, false, false, false, false, false, false, false] rfl rfl (by kernel_rfl) (fun _ _ _ h => h) (Or.inl ⟨by rfl, ?_⟩) ?_ ?_
  rotate_left
  · intro w'
    go_simp
    with_reducible rfl
  rotate_left
  · simp only [Act.put, zSa, zSb, zSc, i64_w, i32_w]
    rfl
  refine pure_ (i := 1) (N := some 5) (v := ?_) (a' := ?_) #[true, true, false, false, false, false, false, false, false, false, false, false, false, false] rfl rfl (by kernel_rfl) (fun _ _ _ h => h) (Or.inl ⟨by rfl, ?_⟩) ?_ ?_
  rotate_left
  · intro w'
    go_simp
    with_reducible rfl
  rotate_left
  · simp only [Act.put, zSa, zSb, zSc, i64_w, i32_w]
    rfl
  refine pure_ (i := 2) (N := some 6) (v := ?_) (a' := ?_) #[true, true, true, false, false, false, false, false, false, false, false, false, false, false] rfl rfl (by kernel_rfl) (fun _ _ _ h => h) (Or.inl ⟨by rfl, ?_⟩) ?_ ?_
  rotate_left
  · intro w'
    go_simp
    with_reducible rfl
  rotate_left
  · simp only [Act.put, zSa, zSb, zSc, i64_w, i32_w]
    rfl
  refine pure_ (i := 4) (N := some 8) (v := ?_) (a' := ?_) #[true, true, true, false, true, false, false, false, false, false, false, false, false, false] rfl rfl (by kernel_rfl) (fun _ _ _ h => h) (Or.inl ⟨by rfl, ?_⟩) ?_ ?_
  rotate_left
  · intro w'
    go_simp
    with_reducible rfl
  rotate_left
  · simp only [Act.put, zSa, zSb, zSc, i64_w, i32_w]
    rfl
  refine pure_ (i := 5) (N := some 9) (v := ?_) (a' := ?_) #[true, true, true, false, true, true, false, false, false, false, false, false, false, false] rfl rfl (by kernel_rfl) (fun _ _ _ h => h) (Or.inl ⟨by rfl, ?_⟩) ?_ ?_
  rotate_left
  · intro w'
    go_simp
    with_reducible rfl
  rotate_left
  · simp only [Act.put, zSa, zSb, zSc, i64_w, i32_w]
    rfl
  refine pure_ (i := 6) (N := some 10) (v := ?_) (a' := ?_) #[true, true, true, false, true, true, true, false, false, false, false, false, false, false] rfl rfl (by kernel_rfl) (fun _ _ _ h => h) (Or.inl ⟨by rfl, ?_⟩) ?_ ?_
  rotate_left
  · intro w'
    go_simp
    with_reducible rfl
  rotate_left
  · simp only [Act.put, zSa, zSb, zSc, i64_w, i32_w]
    rfl
  refine take_ (i := 3) (N := some 7) (v := ?_) (a' := ?_) #[true, true, true, true, true, true, true, false, false, false, false, false, false, false] rfl rfl (by kernel_rfl) (fun _ _ _ h => h) (Or.inl ⟨by rfl, ?_⟩) hHeld ?_ ?_
  rotate_left
  · rintro w' ⟨s0, s1, s2⟩
    go_simp
    with_reducible rfl
  rotate_left
  · simp only [Act.put, zSa, zSb, zSc, i64_w, i32_w]
    rfl
  refine take_ (i := 7) (N := some 11) (v := ?_) (a' := ?_) #[true, true, true, true, true, true, true, true, false, false, false, false, false, false] rfl rfl (by kernel_rfl) (fun _ _ _ h => h) (Or.inl ⟨by rfl, ?_⟩) hHeld ?_ ?_
  rotate_left
  · rintro w' ⟨s0, s1, s2⟩
    go_simp
    with_reducible rfl
  rotate_left
  · simp only [Act.put, zSa, zSb, zSc, i64_w, i32_w]
    rfl
  refine pure_ (i := 8) (N := some 12) (v := ?_) (a' := ?_) #[true, true, true, true, true, true, true, true, true, false, false, false, false, false] rfl rfl (by kernel_rfl) (fun _ _ _ h => h) (Or.inl ⟨by rfl, ?_⟩) ?_ ?_
  rotate_left
  · intro w'
    go_simp
    with_reducible rfl
  rotate_left
  · simp only [Act.put, zSa, zSb, zSc, i64_w, i32_w]
    rfl
  refine pure_ (i := 9) (N := some 13) (v := ?_) (a' := ?_) #[true, true, true, true, true, true, true, true, true, true, false, false, false, false] rfl rfl (by kernel_rfl) (fun _ _ _ h => h) (Or.inl ⟨by rfl, ?_⟩) ?_ ?_
  rotate_left
  · intro w'
    go_simp
    with_reducible rfl
  rotate_left
  · simp only [Act.put, zSa, zSb, zSc, i64_w, i32_w]
    rfl
  refine pure_ (i := 10) (N := some 14) (v := ?_) (a' := ?_) #[true, true, true, true, true, true, true, true, true, true, true, false, false, false] rfl rfl (by kernel_rfl) (fun _ _ _ h => h) (Or.inl ⟨by rfl, ?_⟩) ?_ ?_
  rotate_left
  · intro w'
    go_simp
    with_reducible rfl
  rotate_left
  · simp only [Act.put, zSa, zSb, zSc, i64_w, i32_w]
    rfl
  refine take_ (i := 11) (N := some 15) (v := ?_) (a' := ?_) #[true, true, true, true, true, true, true, true, true, true, true, true, false, false] rfl rfl (by kernel_rfl) (fun _ _ _ h => h) (Or.inl ⟨by rfl, ?_⟩) hHeld ?_ ?_
  rotate_left
  · rintro w' ⟨s0, s1, s2⟩
    go_simp
    with_reducible rfl
  rotate_left
  · simp only [Act.put, zSa, zSb, zSc, i64_w, i32_w]
    rfl
  refine one_ (i := 12) (N := some 2) #[true, true, true, true, true, true, true, true, true, true, true, true, true, false] rfl rfl (by kernel_rfl) (by decide) (fun K hK => ?_)
  refine box_step ?hg (N := 2) ?hd (cs := #[.int .i64 0, .int .i64 0]) (t := 89) ?hr ?_; (case hd => rfl); (case hg => rfl); (case hr => first | (go_simp; done) | (go_simp; rfl))
  intro bf hg wb hbox hb
  replace HWd := zMk (HWd.out.below hb)
  have BL0 := BL
  replace BL := zMk (zBt BL.out hb)
  have BF := zMk hbox
  have HBF := zMk (hg ▸ zBs BL0.out : w.heap.size ≤ bf)
  clear hg hbox hb
  refine hK.out _ _ ⟨(zKc HWd.out.hw 9).trans (congrArg some ES.out), (Below.cell BL.out (World.block_lt_of_cell? w _ X0.out)).trans X0.out, (Below.cell BL.out (World.block_lt_of_cell? w _ X1.out)).trans X1.out⟩ (fun hHeld => ?_)
  clear hK K
  refine norm_ (a' := ?_) ?_ ?_
  rotate_left
  · show Act.put _ (some 2) _ = _
    simp only [Act.put, zSa, zSb, zSc, i64_w, i32_w]
    rfl
  refine last_ (i := 13) (N := none) #[true, true, true, true, true, true, true, true, true, true, true, true, true, true] rfl rfl (by kernel_rfl) (by decide) (fun K hK => ?_)
  have hb0 : wb.cell? ⟨bf, 0, none⟩ = some (.int .i64 0) := (zKc BF.out 0).trans rfl
  have hb1 : wb.cell? ⟨bf, 1, none⟩ = some (.int .i64 0) := (zKc BF.out 1).trans rfl
  have hf0 := zKf BF.out 0
  have hf1 := zKf BF.out 1
  refine skip_ (w1 := ?_) (by rfl) rfl ?_ ?_
  rotate_left
  · go_simp
    rfl
  refine hK.out _ _ ?_
  clear hK K
  refine done_ (by kernel_rfl) ?_
  clear HWd X0 X1 hb0 hb1 hf0 hf1
  have HW1 := zMk (show WkW w0 wn ((wb.setCell ⟨bf, 0, none⟩ (.int .i64 f.f0)).setCell ⟨bf, 1, none⟩ (.int .i64 f.f1)) gw (.slice An near.length cn) V s from HW.out.below (below_set (below_set BL.out HBF.out) HBF.out))
  have BF1 := zMk (blk_put (cs := #[.int .i64 f.f0, .int .i64 0]) (blk_put (cs := #[.int .i64 0, .int .i64 0]) BF.out 0 (.int .i64 f.f0) rfl) 1 (.int .i64 f.f1) rfl)
  generalize ((wb.setCell ⟨bf, 0, none⟩ (.int .i64 f.f0)).setCell ⟨bf, 1, none⟩ (.int .i64 f.f1)) = w1 at HW1 BF1 ⊢
  clear BL BF HBF HW
  have z9 : w1.cell? ⟨gw, 9, none⟩ = some (.slice (some ⟨gs, 0, none⟩) (m + 1) cS) := (zKc HW1.out.hw 9).trans (congrArg some ES.out)
  have f9 := zKf HW1.out.hw 9
  go_upto_region 1 with (fail)
  clear z9 f9
  have HW1d := zMk (HW1.out.below (zBd (Below.refl w1.heap.size w1)))
  have BF1d := zMk (zKd BF1.out)
  refine start_ (n := 15) (S := fun w' => w'.cell? ⟨gw, 9, none⟩ = some (.slice (some ⟨gs, 0, none⟩) (m + 1) cS)) (ds := [14]) #[false, false, false, false, false, false, false, false, false, false, false, false, false, false, false] (by kernel_rfl) rfl rfl ((zKc HW1d.out.hw 9).trans (congrArg some ES.out)) (fun hHeld => ?_)
  generalize w1.drew = w2 at HW1d BF1d hHeld ⊢
  refine pure_ (i := 0) (N := some 16) (v := ?_) (a' := ?_) #[true, false, false, false, false, false, false, false, false, false, false, false, false, false, false] rfl rfl (by kernel_rfl) (fun _ _ _ h => h) (Or.inl ⟨by rfl, ?_⟩) ?_ ?_
  rotate_left
  · intro w'
    go_simp
    with_reducible rfl
  rotate_left
  · simp only [Act.put, zSa, zSb, zSc, i64_w, i32_w]
    rfl
  refine pure_ (i := 1) (N := some 17) (v := ?_) (a' := ?_) #[true, true, false, false, false, false, false, false, false, false, false, false, false, false, false] rfl rfl (by kernel_rfl) (fun _ _ _ h => h) (Or.inl ⟨by rfl, ?_⟩) ?_ ?_
  rotate_left
  · intro w'
    go_simp
    with_reducible rfl
  rotate_left
  · simp only [Act.put, zSa, zSb, zSc, i64_w, i32_w]
    rfl
  refine pure_ (i := 2) (N := some 18) (v := ?_) (a' := ?_) #[true, true, true, false, false, false, false, false, false, false, false, false, false, false, false] rfl rfl (by kernel_rfl) (fun _ _ _ h => h) (Or.inl ⟨by rfl, ?_⟩) ?_ ?_
  rotate_left
  · intro w'
    go_simp
    with_reducible rfl
  rotate_left
  · simp only [Act.put, zSa, zSb, zSc, i64_w, i32_w]
    rfl
  refine pure_ (i := 3) (N := some 19) (v := ?_) (a' := ?_) #[true, true, true, true, false, false, false, false, false, false, false, false, false, false, false] rfl rfl (by kernel_rfl) (fun _ _ _ h => h) (Or.inl ⟨by rfl, ?_⟩) ?_ ?_
  rotate_left
  · intro w'
    go_simp
    with_reducible rfl
  rotate_left
  · simp only [Act.put, zSa, zSb, zSc, i64_w, i32_w]
    rfl
  refine pure_ (i := 5) (N := some 21) (v := ?_) (a' := ?_) #[true, true, true, true, false, true, false, false, false, false, false, false, false, false, false] rfl rfl (by kernel_rfl) (fun _ _ _ h => h) (Or.inl ⟨by rfl, ?_⟩) ?_ ?_
  rotate_left
  · intro w'
    go_simp
    with_reducible rfl
  rotate_left
  · simp only [Act.put, zSa, zSb, zSc, i64_w, i32_w]
    rfl
  refine pure_ (i := 6) (N := some 22) (v := ?_) (a' := ?_) #[true, true, true, true, false, true, true, false, false, false, false, false, false, false, false] rfl rfl (by kernel_rfl) (fun _ _ _ h => h) (Or.inl ⟨by rfl, ?_⟩) ?_ ?_
  rotate_left
  · intro w'
    go_simp
    with_reducible rfl
  rotate_left
  · simp only [Act.put, zSa, zSb, zSc, i64_w, i32_w]
    rfl
  refine pure_ (i := 7) (N := some 23) (v := ?_) (a' := ?_) #[true, true, true, true, false, true, true, true, false, false, false, false, false, false, false] rfl rfl (by kernel_rfl) (fun _ _ _ h => h) (Or.inl ⟨by rfl, ?_⟩) ?_ ?_
  rotate_left
  · intro w'
    go_simp
    with_reducible rfl
  rotate_left
  · simp only [Act.put, zSa, zSb, zSc, i64_w, i32_w]
    rfl
  refine take_ (i := 4) (N := some 20) (v := ?_) (a' := ?_) #[true, true, true, true, true, true, true, true, false, false, false, false, false, false, false] rfl rfl (by kernel_rfl) (fun _ _ _ h => h) (Or.inl ⟨by rfl, ?_⟩) hHeld ?_ ?_
  rotate_left
  · intro w' s0
    go_simp
    with_reducible rfl
  rotate_left
  · simp only [Act.put, zSa, zSb, zSc, i64_w, i32_w]
    rfl
  refine take_ (i := 8) (N := some 24) (v := ?_) (a' := ?_) #[true, true, true, true, true, true, true, true, true, false, false, false, false, false, false] rfl rfl (by kernel_rfl) (fun _ _ _ h => h) (Or.inl ⟨by rfl, ?_⟩) hHeld ?_ ?_
  rotate_left
  · intro w' s0
    go_simp
    with_reducible rfl
  rotate_left
  · simp only [Act.put, zSa, zSb, zSc, i64_w, i32_w]
    rfl
  refine pure_ (i := 9) (N := some 25) (v := ?_) (a' := ?_) #[true, true, true, true, true, true, true, true, true, true, false, false, false, false, false] rfl rfl (by kernel_rfl) (fun _ _ _ h => h) (Or.inl ⟨by rfl, ?_⟩) ?_ ?_
  rotate_left
  · intro w'
    go_simp
    with_reducible rfl
  rotate_left
  · simp only [Act.put, zSa, zSb, zSc, i64_w, i32_w]
    rfl
  refine pure_ (i := 10) (N := some 26) (v := ?_) (a' := ?_) #[true, true, true, true, true, true, true, true, true, true, true, false, false, false, false] rfl rfl (by kernel_rfl) (fun _ _ _ h => h) (Or.inl ⟨by rfl, ?_⟩) ?_ ?_
  rotate_left
  · intro w'
    go_simp
    with_reducible rfl
  rotate_left
  · simp only [Act.put, zSa, zSb, zSc, i64_w, i32_w]
    rfl
  refine pure_ (i := 11) (N := some 27) (v := ?_) (a' := ?_) #[true, true, true, true, true, true, true, true, true, true, true, true, false, false, false] rfl rfl (by kernel_rfl) (fun _ _ _ h => h) (Or.inl ⟨by rfl, ?_⟩) ?_ ?_
  rotate_left
  · intro w'
    go_simp
    with_reducible rfl
  rotate_left
  · simp only [Act.put, zSa, zSb, zSc, i64_w, i32_w]
    rfl
  refine pure_ (i := 12) (N := some 28) (v := ?_) (a' := ?_) #[true, true, true, true, true, true, true, true, true, true, true, true, true, false, false] rfl rfl (by kernel_rfl) (fun _ _ _ h => h) (Or.inl ⟨by rfl, ?_⟩) ?_ ?_
  rotate_left
  · intro w'
    go_simp
    with_reducible rfl
  rotate_left
  · simp only [Act.put, zSa, zSb, zSc, i64_w, i32_w]
    rfl
  refine pure_ (i := 13) (N := some 29) (v := ?_) (a' := ?_) #[true, true, true, true, true, true, true, true, true, true, true, true, true, true, false] rfl rfl (by kernel_rfl) (fun _ _ _ h => h) (Or.inl ⟨by rfl, ?_⟩) ?_ ?_
  rotate_left
  · intro w'
    go_simp
    with_reducible rfl
  rotate_left
  · simp only [Act.put, zSa, zSb, zSc, i64_w, i32_w]
    rfl
  refine last_ (i := 14) (N := none) #[true, true, true, true, true, true, true, true, true, true, true, true, true, true, true] rfl rfl (by kernel_rfl) (by decide) (fun K hK => ?_)
  have f9 := zKf HW1d.out.hw 9
  refine skip_ (w1 := ?_) (by rfl) rfl ?_ ?_
  rotate_left
  · go_simp
    rfl
  refine hK.out _ _ ?_
  clear hK K
  refine done_ (by kernel_rfl) ?_
  have HW2 := zMk (show WkW w0 wn (w2.setCell ⟨gw, 9, none⟩ (.slice (some ⟨gs, 0, none⟩) m cS)) gw (.slice An near.length cn) { V with vS := .slice (some ⟨gs, 0, none⟩) m cS } { s with stack := s.stack.take m } from HW1d.out.fstack (by
    have h3 := HW1d.out.hS
    rw [ES.out] at h3
    exact Kd.R_take h3 (by have := HM.out; omega)))
  have BF2 := zMk (blk_far (p := ⟨gw, 9, none⟩) BF1d.out (show bf ≠ gw from by
    rintro rfl
    have h3 := HW1d.out.hw
    rw [BF1d.out] at h3
    injection h3 with h3
    injection h3 with _ h3
    exact absurd h3 (by decide)) (.slice (some ⟨gs, 0, none⟩) m cS))
  clear HW1 HW1d BF1 BF1d f9
  generalize w2.setCell ⟨gw, 9, none⟩ (.slice (some ⟨gs, 0, none⟩) m cS) = w3 at HW2 BF2 ⊢
  have z9 : w3.cell? ⟨gw, 9, none⟩ = some (.slice (some ⟨gs, 0, none⟩) m cS) := (zKc HW2.out.hw 9).trans rfl
  go_upto_if 35 with (fail)
  clear z9
  have he := HE.out
  clear HE
  unfold wkLeave at he
  rw [if_neg (by have := HM.out; omega)] at he
  by_cases hm0 : m = 0
  · subst hm0
    rw [if_pos HM.out] at he
    obtain rfl := zOi he
    go_wp2
    first | go_end0 | ((try simp only [Exit.inBlock, Exit.then]); refine bodyPost_ret (results_none rfl _ _ _) rfl ?_)
    exact ⟨rfl, _, HW2.out⟩
  rw [if_neg (by have := HM.out; omega)] at he
  obtain ⟨j, rfl⟩ : ∃ j, m = j + 1 := ⟨m - 1, by omega⟩
  have hq0 : (((j + 1 : Nat) : Int) == 0) = false := beq_eq_false_iff_ne.mpr (by omega)
  rw [show s.stack.length - 1 = j + 1 by have := HM.out; omega] at he
  dsimp only at he
  rw [← FF.out, Nat.add_sub_cancel] at he
  have hs := HW2.out.hS
  have hfx := at_T51 (by have hc := (zRr hs).2.2; rw [show (s.stack.take (j + 1)).length = j + 1 by rw [zLt]; have := HM.out; omega] at hc; exact hc) (j : Int) (by omega) (by omega)
  obtain ⟨ad, ea, hx0, hx1⟩ := hfx
  cases ea
  simp only [zTn] at hx0 hx1
  rw [wk_add] at hx0
  rw [show rd_T51 (s.stack.take (j + 1)) (j : Int) = rd_T51 s.stack (j : Int) by unfold rd_T51; rw [zTn, List.getD_eq_getElem?_getD, List.getD_eq_getElem?_getD, List.getElem?_take_of_lt (by omega)]] at hx0
  obtain ⟨p, hp⟩ : ∃ p, p = (rd_T51 s.stack (j : Int)).f0 := ⟨_, rfl⟩
  rw [← hp] at hx0 he
  have XP := zMk (show w3.cell? ⟨gs, j * 2, none⟩ = some (.int .i64 p) from hx0)
  have HE := zMk he
  clear he hp hx0 hx1 hs hm0 p7 p8 hwj hw64 qm FF
  go_upto_region 3 with (fail)
  have p7 : (0 ≤ (j : Int)) = True := eq_true (by omega)
  have p8 : ((j : Int) < (j : Int) + 1) = True := eq_true (by omega)
  have hwj : IntKind.i64.wrap (j : Int) = (j : Int) := IntWalk.i64_in _ ⟨by omega, by have := HMX.out; omega⟩
  have hw64 : wrap64 (j : Int) = (j : Int) := by have := HMX.out; unfold wrap64; omega
  have BL3 := zMk (zBd (Below.refl w3.heap.size w3))
  have HW3 := zMk (HW2.out.below BL3.out)
  have BF3 := zMk (zKd BF2.out)
  refine start_ (n := 14) (S := fun w' => w'.cell? ⟨gw, 9, none⟩ = some (.slice (some ⟨gs, 0, none⟩) (j + 1) cS) ∧ w'.cell? ⟨gs, j * 2, none⟩ = some (.int .i64 p)) (ds := []) #[false, false, false, false, false, false, false, false, false, false, false, false, false, false] (by kernel_rfl) rfl rfl ⟨(zKc HW3.out.hw 9).trans rfl, (Below.cell BL3.out (World.block_lt_of_cell? w3 _ XP.out)).trans XP.out⟩ (fun hHeld => ?_)
  generalize w3.drew = w4 at HW3 BF3 BL3 hHeld ⊢
  refine pure_ (i := 0) (N := some 36) (v := ?_) (a' := ?_) #[true, false, false, false, false, false, false, false, false, false, false, false, false, false] rfl rfl (by kernel_rfl) (fun _ _ _ h => h) (Or.inl ⟨by rfl, ?_⟩) ?_ ?_
  rotate_left
  · intro w'
    go_simp
    with_reducible rfl
  rotate_left
  · simp only [Act.put, zSa, zSb, zSc, i64_w, i32_w]
    rfl
  refine pure_ (i := 1) (N := some 37) (v := ?_) (a' := ?_) #[true, true, false, false, false, false, false, false, false, false, false, false, false, false] rfl rfl (by kernel_rfl) (fun _ _ _ h => h) (Or.inl ⟨by rfl, ?_⟩) ?_ ?_
  rotate_left
  · intro w'
    go_simp
    with_reducible rfl
  rotate_left
  · simp only [Act.put, zSa, zSb, zSc, i64_w, i32_w]
    rfl
  refine pure_ (i := 2) (N := some 38) (v := ?_) (a' := ?_) #[true, true, true, false, false, false, false, false, false, false, false, false, false, false] rfl rfl (by kernel_rfl) (fun _ _ _ h => h) (Or.inl ⟨by rfl, ?_⟩) ?_ ?_
  rotate_left
  · intro w'
    go_simp
    with_reducible rfl
  rotate_left
  · simp only [Act.put, zSa, zSb, zSc, i64_w, i32_w]
    rfl
  refine pure_ (i := 4) (N := some 40) (v := ?_) (a' := ?_) #[true, true, true, false, true, false, false, false, false, false, false, false, false, false] rfl rfl (by kernel_rfl) (fun _ _ _ h => h) (Or.inl ⟨by rfl, ?_⟩) ?_ ?_
  rotate_left
  · intro w'
    go_simp
    with_reducible rfl
  rotate_left
  · simp only [Act.put, zSa, zSb, zSc, i64_w, i32_w]
    rfl
  refine pure_ (i := 5) (N := some 41) (v := ?_) (a' := ?_) #[true, true, true, false, true, true, false, false, false, false, false, false, false, false] rfl rfl (by kernel_rfl) (fun _ _ _ h => h) (Or.inl ⟨by rfl, ?_⟩) ?_ ?_
  rotate_left
  · intro w'
    go_simp
    with_reducible rfl
  rotate_left
  · simp only [Act.put, zSa, zSb, zSc, i64_w, i32_w]
    rfl
  refine pure_ (i := 6) (N := some 42) (v := ?_) (a' := ?_) #[true, true, true, false, true, true, true, false, false, false, false, false, false, false] rfl rfl (by kernel_rfl) (fun _ _ _ h => h) (Or.inl ⟨by rfl, ?_⟩) ?_ ?_
  rotate_left
  · intro w'
    go_simp
    with_reducible rfl
  rotate_left
  · simp only [Act.put, zSa, zSb, zSc, i64_w, i32_w]
    rfl
  refine take_ (i := 3) (N := some 39) (v := ?_) (a' := ?_) #[true, true, true, true, true, true, true, false, false, false, false, false, false, false] rfl rfl (by kernel_rfl) (fun _ _ _ h => h) (Or.inl ⟨by rfl, ?_⟩) hHeld ?_ ?_
  rotate_left
  · rintro w' ⟨s0, s1⟩
    go_simp
    with_reducible rfl
  rotate_left
  · simp only [Act.put, zSa, zSb, zSc, i64_w, i32_w]
    rfl
  refine take_ (i := 7) (N := some 43) (v := ?_) (a' := ?_) #[true, true, true, true, true, true, true, true, false, false, false, false, false, false] rfl rfl (by kernel_rfl) (fun _ _ _ h => h) (Or.inl ⟨by rfl, ?_⟩) hHeld ?_ ?_
  rotate_left
  · rintro w' ⟨s0, s1⟩
    go_simp
    with_reducible rfl
  rotate_left
  · simp only [Act.put, zSa, zSb, zSc, i64_w, i32_w]
    rfl
  refine pure_ (i := 8) (N := some 44) (v := ?_) (a' := ?_) #[true, true, true, true, true, true, true, true, true, false, false, false, false, false] rfl rfl (by kernel_rfl) (fun _ _ _ h => h) (Or.inl ⟨by rfl, ?_⟩) ?_ ?_
  rotate_left
  · intro w'
    go_simp
    with_reducible rfl
  rotate_left
  · simp only [Act.put, zSa, zSb, zSc, i64_w, i32_w]
    rfl
  refine pure_ (i := 9) (N := some 45) (v := ?_) (a' := ?_) #[true, true, true, true, true, true, true, true, true, true, false, false, false, false] rfl rfl (by kernel_rfl) (fun _ _ _ h => h) (Or.inl ⟨by rfl, ?_⟩) ?_ ?_
  rotate_left
  · intro w'
    go_simp
    with_reducible rfl
  rotate_left
  · simp only [Act.put, zSa, zSb, zSc, i64_w, i32_w]
    rfl
  refine pure_ (i := 10) (N := some 46) (v := ?_) (a' := ?_) #[true, true, true, true, true, true, true, true, true, true, true, false, false, false] rfl rfl (by kernel_rfl) (fun _ _ _ h => h) (Or.inl ⟨by rfl, ?_⟩) ?_ ?_
  rotate_left
  · intro w'
    go_simp
    with_reducible rfl
  rotate_left
  · simp only [Act.put, zSa, zSb, zSc, i64_w, i32_w]
    rfl
  refine pure_ (i := 11) (N := some 47) (v := ?_) (a' := ?_) #[true, true, true, true, true, true, true, true, true, true, true, true, false, false] rfl rfl (by kernel_rfl) (fun _ _ _ h => h) (Or.inl ⟨by rfl, ?_⟩) ?_ ?_
  rotate_left
  · intro w'
    go_simp
    with_reducible rfl
  rotate_left
  · simp only [Act.put, zSa, zSb, zSc, i64_w, i32_w]
    rfl
  refine take_ (i := 12) (N := some 48) (v := ?_) (a' := ?_) #[true, true, true, true, true, true, true, true, true, true, true, true, true, false] rfl rfl (by kernel_rfl) (fun _ _ _ h => h) (Or.inl ⟨by rfl, ?_⟩) hHeld ?_ ?_
  rotate_left
  · rintro w' ⟨s0, s1⟩
    go_simp
    with_reducible rfl
  rotate_left
  · simp only [Act.put, zSa, zSb, zSc, i64_w, i32_w]
    rfl
  refine pure_ (i := 13) (N := some 3) (v := ?_) (a' := ?_) #[true, true, true, true, true, true, true, true, true, true, true, true, true, true] rfl rfl (by kernel_rfl) (fun _ _ _ h => h) (Or.inl ⟨by rfl, ?_⟩) ?_ ?_
  rotate_left
  · intro w'
    go_simp
    with_reducible rfl
  rotate_left
  · simp only [Act.put, zSa, zSb, zSc, i64_w, i32_w]
    rfl
  refine done_ (by kernel_rfl) ?_
  clear HW2 BF2 BL3 XP
  have he := HE.out
  clear HE
  by_cases hb : 0 ≤ p ∧ p < (s.low.length : Int) ∧ p < (s.ord.length : Int) ∧ 0 ≤ f.f0 ∧ f.f0 < (s.low.length : Int)
  rotate_left
  · rw [if_neg hb] at he; cases he
  rw [if_pos hb] at he
  have HB := zMk hb
  have HE := zMk he
  clear hb he p7 p8 hwj hw64
  obtain ⟨g2, c2, e2, -, -, -⟩ := Kd.R_form HW3.out.h2 (by have := HB.out; show 0 < s.low.length; omega)
  have E2 := zMk (show V.v2 = .slice (some ⟨g2, 0, none⟩) s.low.length c2 from e2)
  clear e2
  go_upto_region 4 with (fail)
  have HW4 := zMk (HW3.out.below (zBd (Below.refl w4.heap.size w4)))
  have BF4 := zMk (zKd BF3.out)
  have h2' := HW4.out.h2
  rw [show ({ V with vS := .slice (some ⟨gs, 0, none⟩) (j + 1) cS } : WkV).v2 = V.v2 from rfl, E2.out] at h2'
  obtain ⟨hxp, hfp⟩ := Kd.R_celln (0 : Int) h2' p HB.out.1 HB.out.2.1
  obtain ⟨hxf, -⟩ := Kd.R_celln (0 : Int) h2' f.f0 HB.out.2.2.2.1 HB.out.2.2.2.2
  have HXP := zMk (show w4.drew.cell? ⟨g2, p.toNat, none⟩ = some (.int .i64 (rd s.low p)) from hxp)
  have HXF := zMk (show w4.drew.cell? ⟨g2, f.f0.toNat, none⟩ = some (.int .i64 (rd s.low f.f0)) from hxf)
  clear h2' hxp hxf
  have b1 : (0 ≤ p) = True := eq_true HB.out.1
  have b2 : (p < (s.low.length : Int)) = True := eq_true HB.out.2.1
  have b3 : (0 ≤ f.f0) = True := eq_true HB.out.2.2.2.1
  have b4 : (f.f0 < (s.low.length : Int)) = True := eq_true HB.out.2.2.2.2
  refine start_ (n := 23) (S := fun w' => w'.cell? ⟨gw, 2, none⟩ = some (.slice (some ⟨g2, 0, none⟩) s.low.length c2) ∧ w'.cell? ⟨bf, 0, none⟩ = some (.int .i64 f.f0) ∧ w'.cell? ⟨g2, p.toNat, none⟩ = some (.int .i64 (rd s.low p)) ∧ w'.cell? ⟨g2, f.f0.toNat, none⟩ = some (.int .i64 (rd s.low f.f0))) (ds := [22]) #[false, false, false, false, false, false, false, false, false, false, false, false, false, false, false, false, false, false, false, false, false, false, false] (by kernel_rfl) rfl rfl ⟨(zKc HW4.out.hw 2).trans (congrArg some E2.out), (zKc BF4.out 0).trans rfl, HXP.out, HXF.out⟩ (fun hHeld => ?_)
  generalize w4.drew = w5 at HW4 BF4 HXP HXF hfp hHeld ⊢
  refine pure_ (i := 0) (N := some 49) (v := ?_) (a' := ?_) #[true, false, false, false, false, false, false, false, false, false, false, false, false, false, false, false, false, false, false, false, false, false, false] rfl rfl (by kernel_rfl) (fun _ _ _ h => h) (Or.inl ⟨by rfl, ?_⟩) ?_ ?_
  rotate_left
  · intro w'
    go_simp
    with_reducible rfl
  rotate_left
  · simp only [Act.put, zSa, zSb, zSc, i64_w, i32_w]
    rfl
  refine pure_ (i := 1) (N := some 50) (v := ?_) (a' := ?_) #[true, true, false, false, false, false, false, false, false, false, false, false, false, false, false, false, false, false, false, false, false, false, false] rfl rfl (by kernel_rfl) (fun _ _ _ h => h) (Or.inl ⟨by rfl, ?_⟩) ?_ ?_
  rotate_left
  · intro w'
    go_simp
    with_reducible rfl
  rotate_left
  · simp only [Act.put, zSa, zSb, zSc, i64_w, i32_w]
    rfl
  refine pure_ (i := 2) (N := some 51) (v := ?_) (a' := ?_) #[true, true, true, false, false, false, false, false, false, false, false, false, false, false, false, false, false, false, false, false, false, false, false] rfl rfl (by kernel_rfl) (fun _ _ _ h => h) (Or.inl ⟨by rfl, ?_⟩) ?_ ?_
  rotate_left
  · intro w'
    go_simp
    with_reducible rfl
  rotate_left
  · simp only [Act.put, zSa, zSb, zSc, i64_w, i32_w]
    rfl
  refine pure_ (i := 4) (N := some 53) (v := ?_) (a' := ?_) #[true, true, true, false, true, false, false, false, false, false, false, false, false, false, false, false, false, false, false, false, false, false, false] rfl rfl (by kernel_rfl) (fun _ _ _ h => h) (Or.inl ⟨by rfl, ?_⟩) ?_ ?_
  rotate_left
  · intro w'
    go_simp
    with_reducible rfl
  rotate_left
  · simp only [Act.put, zSa, zSb, zSc, i64_w, i32_w]
    rfl
  refine pure_ (i := 5) (N := some 54) (v := ?_) (a' := ?_) #[true, true, true, false, true, true, false, false, false, false, false, false, false, false, false, false, false, false, false, false, false, false, false] rfl rfl (by kernel_rfl) (fun _ _ _ h => h) (Or.inl ⟨by rfl, ?_⟩) ?_ ?_
  rotate_left
  · intro w'
    go_simp
    with_reducible rfl
  rotate_left
  · simp only [Act.put, zSa, zSb, zSc, i64_w, i32_w]
    rfl
  refine pure_ (i := 6) (N := some 55) (v := ?_) (a' := ?_) #[true, true, true, false, true, true, true, false, false, false, false, false, false, false, false, false, false, false, false, false, false, false, false] rfl rfl (by kernel_rfl) (fun _ _ _ h => h) (Or.inl ⟨by rfl, ?_⟩) ?_ ?_
  rotate_left
  · intro w'
    go_simp
    with_reducible rfl
  rotate_left
  · simp only [Act.put, zSa, zSb, zSc, i64_w, i32_w]
    rfl
  refine pure_ (i := 7) (N := some 56) (v := ?_) (a' := ?_) #[true, true, true, false, true, true, true, true, false, false, false, false, false, false, false, false, false, false, false, false, false, false, false] rfl rfl (by kernel_rfl) (fun _ _ _ h => h) (Or.inl ⟨by rfl, ?_⟩) ?_ ?_
  rotate_left
  · intro w'
    go_simp
    with_reducible rfl
  rotate_left
  · simp only [Act.put, zSa, zSb, zSc, i64_w, i32_w]
    rfl
  refine pure_ (i := 9) (N := some 58) (v := ?_) (a' := ?_) #[true, true, true, false, true, true, true, true, false, true, false, false, false, false, false, false, false, false, false, false, false, false, false] rfl rfl (by kernel_rfl) (fun _ _ _ h => h) (Or.inl ⟨by rfl, ?_⟩) ?_ ?_
  rotate_left
  · intro w'
    go_simp
    with_reducible rfl
  rotate_left
  · simp only [Act.put, zSa, zSb, zSc, i64_w, i32_w]
    rfl
  refine pure_ (i := 12) (N := some 61) (v := ?_) (a' := ?_) #[true, true, true, false, true, true, true, true, false, true, false, false, true, false, false, false, false, false, false, false, false, false, false] rfl rfl (by kernel_rfl) (fun _ _ _ h => h) (Or.inl ⟨by rfl, ?_⟩) ?_ ?_
  rotate_left
  · intro w'
    go_simp
    with_reducible rfl
  rotate_left
  · simp only [Act.put, zSa, zSb, zSc, i64_w, i32_w]
    rfl
  refine pure_ (i := 13) (N := some 62) (v := ?_) (a' := ?_) #[true, true, true, false, true, true, true, true, false, true, false, false, true, true, false, false, false, false, false, false, false, false, false] rfl rfl (by kernel_rfl) (fun _ _ _ h => h) (Or.inl ⟨by rfl, ?_⟩) ?_ ?_
  rotate_left
  · intro w'
    go_simp
    with_reducible rfl
  rotate_left
  · simp only [Act.put, zSa, zSb, zSc, i64_w, i32_w]
    rfl
  refine pure_ (i := 14) (N := some 63) (v := ?_) (a' := ?_) #[true, true, true, false, true, true, true, true, false, true, false, false, true, true, true, false, false, false, false, false, false, false, false] rfl rfl (by kernel_rfl) (fun _ _ _ h => h) (Or.inl ⟨by rfl, ?_⟩) ?_ ?_
  rotate_left
  · intro w'
    go_simp
    with_reducible rfl
  rotate_left
  · simp only [Act.put, zSa, zSb, zSc, i64_w, i32_w]
    rfl
  refine pure_ (i := 16) (N := some 65) (v := ?_) (a' := ?_) #[true, true, true, false, true, true, true, true, false, true, false, false, true, true, true, false, true, false, false, false, false, false, false] rfl rfl (by kernel_rfl) (fun _ _ _ h => h) (Or.inl ⟨by rfl, ?_⟩) ?_ ?_
  rotate_left
  · intro w'
    go_simp
    with_reducible rfl
  rotate_left
  · simp only [Act.put, zSa, zSb, zSc, i64_w, i32_w]
    rfl
  refine take_ (i := 3) (N := some 52) (v := ?_) (a' := ?_) #[true, true, true, true, true, true, true, true, false, true, false, false, true, true, true, false, true, false, false, false, false, false, false] rfl rfl (by kernel_rfl) (fun _ _ _ h => h) (Or.inl ⟨by rfl, ?_⟩) hHeld ?_ ?_
  rotate_left
  · rintro w' ⟨s0, s1, s2, s3⟩
    go_simp
    with_reducible rfl
  rotate_left
  · simp only [Act.put, zSa, zSb, zSc, i64_w, i32_w]
    rfl
  refine take_ (i := 8) (N := some 57) (v := ?_) (a' := ?_) #[true, true, true, true, true, true, true, true, true, true, false, false, true, true, true, false, true, false, false, false, false, false, false] rfl rfl (by kernel_rfl) (fun _ _ _ h => h) (Or.inl ⟨by rfl, ?_⟩) hHeld ?_ ?_
  rotate_left
  · rintro w' ⟨s0, s1, s2, s3⟩
    go_simp
    with_reducible rfl
  rotate_left
  · simp only [Act.put, zSa, zSb, zSc, i64_w, i32_w]
    rfl
  refine pure_ (i := 10) (N := some 59) (v := ?_) (a' := ?_) #[true, true, true, true, true, true, true, true, true, true, true, false, true, true, true, false, true, false, false, false, false, false, false] rfl rfl (by kernel_rfl) (fun _ _ _ h => h) (Or.inl ⟨by rfl, ?_⟩) ?_ ?_
  rotate_left
  · intro w'
    go_simp
    with_reducible rfl
  rotate_left
  · simp only [Act.put, zSa, zSb, zSc, i64_w, i32_w]
    rfl
  refine take_ (i := 11) (N := some 60) (v := ?_) (a' := ?_) #[true, true, true, true, true, true, true, true, true, true, true, true, true, true, true, false, true, false, false, false, false, false, false] rfl rfl (by kernel_rfl) (fun _ _ _ h => h) (Or.inl ⟨by rfl, ?_⟩) hHeld ?_ ?_
  rotate_left
  · rintro w' ⟨s0, s1, s2, s3⟩
    go_simp
    with_reducible rfl
  rotate_left
  · simp only [Act.put, zSa, zSb, zSc, i64_w, i32_w]
    rfl
  refine take_ (i := 15) (N := some 64) (v := ?_) (a' := ?_) #[true, true, true, true, true, true, true, true, true, true, true, true, true, true, true, true, true, false, false, false, false, false, false] rfl rfl (by kernel_rfl) (fun _ _ _ h => h) (Or.inl ⟨by rfl, ?_⟩) hHeld ?_ ?_
  rotate_left
  · rintro w' ⟨s0, s1, s2, s3⟩
    go_simp
    with_reducible rfl
  rotate_left
  · simp only [Act.put, zSa, zSb, zSc, i64_w, i32_w]
    rfl
  refine take_ (i := 17) (N := some 66) (v := ?_) (a' := ?_) #[true, true, true, true, true, true, true, true, true, true, true, true, true, true, true, true, true, true, false, false, false, false, false] rfl rfl (by kernel_rfl) (fun _ _ _ h => h) (Or.inl ⟨by rfl, ?_⟩) hHeld ?_ ?_
  rotate_left
  · rintro w' ⟨s0, s1, s2, s3⟩
    go_simp
    with_reducible rfl
  rotate_left
  · simp only [Act.put, zSa, zSb, zSc, i64_w, i32_w]
    rfl
  refine pure_ (i := 18) (N := some 67) (v := ?_) (a' := ?_) #[true, true, true, true, true, true, true, true, true, true, true, true, true, true, true, true, true, true, true, false, false, false, false] rfl rfl (by kernel_rfl) (fun _ _ _ h => h) (Or.inl ⟨by rfl, ?_⟩) ?_ ?_
  rotate_left
  · intro w'
    go_simp
    with_reducible rfl
  rotate_left
  · simp only [Act.put, zSa, zSb, zSc, i64_w, i32_w]
    rfl
  refine take_ (i := 19) (N := some 68) (v := ?_) (a' := ?_) #[true, true, true, true, true, true, true, true, true, true, true, true, true, true, true, true, true, true, true, true, false, false, false] rfl rfl (by kernel_rfl) (fun _ _ _ h => h) (Or.inl ⟨by rfl, ?_⟩) hHeld ?_ ?_
  rotate_left
  · rintro w' ⟨s0, s1, s2, s3⟩
    go_simp
    with_reducible rfl
  rotate_left
  · simp only [Act.put, zSa, zSb, zSc, i64_w, i32_w]
    rfl
  refine pure_ (i := 20) (N := some 69) (v := ?_) (a' := ?_) #[true, true, true, true, true, true, true, true, true, true, true, true, true, true, true, true, true, true, true, true, true, false, false] rfl rfl (by kernel_rfl) (fun _ _ _ h => h) (Or.inl ⟨by rfl, ?_⟩) ?_ ?_
  rotate_left
  · intro w'
    go_simp
    with_reducible rfl
  rotate_left
  · simp only [Act.put, zSa, zSb, zSc, i64_w, i32_w]
    rfl
  refine pure_ (i := 21) (N := some 70) (v := ?_) (a' := ?_) #[true, true, true, true, true, true, true, true, true, true, true, true, true, true, true, true, true, true, true, true, true, true, false] rfl rfl (by kernel_rfl) (fun _ _ _ h => h) (Or.inl ⟨by rfl, ?_⟩) ?_ ?_
  rotate_left
  · intro w'
    go_simp
    with_reducible rfl
  rotate_left
  · simp only [Act.put, zSa, zSb, zSc, i64_w, i32_w]
    rfl
  refine last_ (i := 22) (N := none) #[true, true, true, true, true, true, true, true, true, true, true, true, true, true, true, true, true, true, true, true, true, true, true] rfl rfl (by kernel_rfl) (by decide) (fun K hK => ?_)
  have hxp := HXP.out
  refine skip_ (w1 := ?_) (by rfl) rfl ?_ ?_
  rotate_left
  · go_simp
    rfl
  refine hK.out _ _ ?_
  clear hK K
  refine done_ (by kernel_rfl) ?_
  have HW5 := zMk (HW4.out.put2 (show ({ V with vS := .slice (some ⟨gs, 0, none⟩) (j + 1) cS } : WkV).v2 = _ from E2.out) p (if rd s.low f.f0 < rd s.low p then rd s.low f.f0 else rd s.low p))
  have BF5 := zMk (blk_far (p := ⟨g2, p.toNat, none⟩) BF4.out (show bf ≠ g2 from by
    rintro rfl
    obtain ⟨cells, h3⟩ := Kd.R_typed HW4.out.h2 bf (by show V.v2.ownBlock = _; rw [E2.out]; exact wk_own)
    rw [BF4.out] at h3
    injection h3 with h3
    injection h3 with _ h3
    exact absurd h3 (by decide)) (.int .i64 (if rd s.low f.f0 < rd s.low p then rd s.low f.f0 else rd s.low p)))
  clear HW3 HW4 BF3 BF4 HXP HXF hfp hxp
  generalize w5.setCell ⟨g2, p.toNat, none⟩ (.int .i64 (if rd s.low f.f0 < rd s.low p then rd s.low f.f0 else rd s.low p)) = w6 at HW5 BF5 ⊢
  have he := HE.out
  clear HE
  generalize hx : (if rd s.low f.f0 < rd s.low p then rd s.low f.f0 else rd s.low p) = x at HW5 he
  clear hx
  obtain ⟨s2, hs2⟩ : ∃ s2 : Wk, s2 = { s with stack := s.stack.take (j + 1), low := s.low.set p.toNat x } := ⟨_, rfl⟩
  rw [← hs2] at he
  have HS2 := zMk (show WkW w0 wn w6 gw (.slice An near.length cn) { V with vS := .slice (some ⟨gs, 0, none⟩) (j + 1) cS } s2 from hs2 ▸ HW5.out)
  have L2 := zMk (show s2.low.length = s.low.length by rw [hs2]; exact List.length_set ..)
  have O2 := zMk (show s2.ord = s.ord by rw [hs2])
  have HE := zMk he
  clear HW5 he hs2
  obtain ⟨g1, c1, e1, -, -, -⟩ := Kd.R_form HS2.out.h1 (by rw [O2.out]; have := HB.out; omega)
  have E1 := zMk (show V.v1 = .slice (some ⟨g1, 0, none⟩) s.ord.length c1 from by rw [← O2.out]; exact e1)
  clear e1
  go_upto_region 5 with (fail)
  have HS5 := zMk (HS2.out.below (zBd (Below.refl w6.heap.size w6)))
  have BF6 := zMk (zKd BF5.out)
  have h2' := HS5.out.h2
  rw [show ({ V with vS := .slice (some ⟨gs, 0, none⟩) (j + 1) cS } : WkV).v2 = V.v2 from rfl, E2.out] at h2'
  obtain ⟨hxf, -⟩ := Kd.R_celln (0 : Int) h2' f.f0 HB.out.2.2.2.1 HB.out.2.2.2.2
  have h1' := HS5.out.h1
  rw [show ({ V with vS := .slice (some ⟨gs, 0, none⟩) (j + 1) cS } : WkV).v1 = V.v1 from rfl, E1.out] at h1'
  obtain ⟨hxo, -⟩ := Kd.R_celln (0 : Int) h1' p HB.out.1 HB.out.2.2.1
  rw [O2.out] at hxo
  have HXO := zMk (show w6.drew.cell? ⟨g1, p.toNat, none⟩ = some (.int .i64 (rd s.ord p)) from hxo)
  have HXF := zMk (show w6.drew.cell? ⟨g2, f.f0.toNat, none⟩ = some (.int .i64 (rd s2.low f.f0)) from hxf)
  clear h2' h1' hxo hxf
  have b5 : (p < (s.ord.length : Int)) = True := eq_true HB.out.2.2.1
  refine start_ (n := 16) (S := fun w' => w'.cell? ⟨gw, 2, none⟩ = some (.slice (some ⟨g2, 0, none⟩) s.low.length c2) ∧ w'.cell? ⟨bf, 0, none⟩ = some (.int .i64 f.f0) ∧ w'.cell? ⟨gw, 1, none⟩ = some (.slice (some ⟨g1, 0, none⟩) s.ord.length c1) ∧ w'.cell? ⟨g1, p.toNat, none⟩ = some (.int .i64 (rd s.ord p)) ∧ w'.cell? ⟨g2, f.f0.toNat, none⟩ = some (.int .i64 (rd s2.low f.f0))) (ds := []) #[false, false, false, false, false, false, false, false, false, false, false, false, false, false, false, false] (by kernel_rfl) rfl rfl ⟨(zKc HS5.out.hw 2).trans (congrArg some E2.out), (zKc BF6.out 0).trans rfl, (zKc HS5.out.hw 1).trans (congrArg some E1.out), HXO.out, HXF.out⟩ (fun hHeld => ?_)
  generalize w6.drew = w7 at HS5 BF6 HXO HXF hHeld ⊢
  refine pure_ (i := 0) (N := some 71) (v := ?_) (a' := ?_) #[true, false, false, false, false, false, false, false, false, false, false, false, false, false, false, false] rfl rfl (by kernel_rfl) (fun _ _ _ h => h) (Or.inl ⟨by rfl, ?_⟩) ?_ ?_
  rotate_left
  · intro w'
    go_simp
    with_reducible rfl
  rotate_left
  · simp only [Act.put, zSa, zSb, zSc, i64_w, i32_w]
    rfl
  refine pure_ (i := 1) (N := some 72) (v := ?_) (a' := ?_) #[true, true, false, false, false, false, false, false, false, false, false, false, false, false, false, false] rfl rfl (by kernel_rfl) (fun _ _ _ h => h) (Or.inl ⟨by rfl, ?_⟩) ?_ ?_
  rotate_left
  · intro w'
    go_simp
    with_reducible rfl
  rotate_left
  · simp only [Act.put, zSa, zSb, zSc, i64_w, i32_w]
    rfl
  refine pure_ (i := 2) (N := some 73) (v := ?_) (a' := ?_) #[true, true, true, false, false, false, false, false, false, false, false, false, false, false, false, false] rfl rfl (by kernel_rfl) (fun _ _ _ h => h) (Or.inl ⟨by rfl, ?_⟩) ?_ ?_
  rotate_left
  · intro w'
    go_simp
    with_reducible rfl
  rotate_left
  · simp only [Act.put, zSa, zSb, zSc, i64_w, i32_w]
    rfl
  refine pure_ (i := 4) (N := some 75) (v := ?_) (a' := ?_) #[true, true, true, false, true, false, false, false, false, false, false, false, false, false, false, false] rfl rfl (by kernel_rfl) (fun _ _ _ h => h) (Or.inl ⟨by rfl, ?_⟩) ?_ ?_
  rotate_left
  · intro w'
    go_simp
    with_reducible rfl
  rotate_left
  · simp only [Act.put, zSa, zSb, zSc, i64_w, i32_w]
    rfl
  refine pure_ (i := 8) (N := some 79) (v := ?_) (a' := ?_) #[true, true, true, false, true, false, false, false, true, false, false, false, false, false, false, false] rfl rfl (by kernel_rfl) (fun _ _ _ h => h) (Or.inl ⟨by rfl, ?_⟩) ?_ ?_
  rotate_left
  · intro w'
    go_simp
    with_reducible rfl
  rotate_left
  · simp only [Act.put, zSa, zSb, zSc, i64_w, i32_w]
    rfl
  refine pure_ (i := 9) (N := some 80) (v := ?_) (a' := ?_) #[true, true, true, false, true, false, false, false, true, true, false, false, false, false, false, false] rfl rfl (by kernel_rfl) (fun _ _ _ h => h) (Or.inl ⟨by rfl, ?_⟩) ?_ ?_
  rotate_left
  · intro w'
    go_simp
    with_reducible rfl
  rotate_left
  · simp only [Act.put, zSa, zSb, zSc, i64_w, i32_w]
    rfl
  refine pure_ (i := 10) (N := some 81) (v := ?_) (a' := ?_) #[true, true, true, false, true, false, false, false, true, true, true, false, false, false, false, false] rfl rfl (by kernel_rfl) (fun _ _ _ h => h) (Or.inl ⟨by rfl, ?_⟩) ?_ ?_
  rotate_left
  · intro w'
    go_simp
    with_reducible rfl
  rotate_left
  · simp only [Act.put, zSa, zSb, zSc, i64_w, i32_w]
    rfl
  refine pure_ (i := 12) (N := some 83) (v := ?_) (a' := ?_) #[true, true, true, false, true, false, false, false, true, true, true, false, true, false, false, false] rfl rfl (by kernel_rfl) (fun _ _ _ h => h) (Or.inl ⟨by rfl, ?_⟩) ?_ ?_
  rotate_left
  · intro w'
    go_simp
    with_reducible rfl
  rotate_left
  · simp only [Act.put, zSa, zSb, zSc, i64_w, i32_w]
    rfl
  refine take_ (i := 3) (N := some 74) (v := ?_) (a' := ?_) #[true, true, true, true, true, false, false, false, true, true, true, false, true, false, false, false] rfl rfl (by kernel_rfl) (fun _ _ _ h => h) (Or.inl ⟨by rfl, ?_⟩) hHeld ?_ ?_
  rotate_left
  · rintro w' ⟨s0, s1, s2, s3, s4⟩
    go_simp
    with_reducible rfl
  rotate_left
  · simp only [Act.put, zSa, zSb, zSc, i64_w, i32_w]
    rfl
  refine take_ (i := 5) (N := some 76) (v := ?_) (a' := ?_) #[true, true, true, true, true, true, false, false, true, true, true, false, true, false, false, false] rfl rfl (by kernel_rfl) (fun _ _ _ h => h) (Or.inl ⟨by rfl, ?_⟩) hHeld ?_ ?_
  rotate_left
  · rintro w' ⟨s0, s1, s2, s3, s4⟩
    go_simp
    with_reducible rfl
  rotate_left
  · simp only [Act.put, zSa, zSb, zSc, i64_w, i32_w]
    rfl
  refine pure_ (i := 6) (N := some 77) (v := ?_) (a' := ?_) #[true, true, true, true, true, true, true, false, true, true, true, false, true, false, false, false] rfl rfl (by kernel_rfl) (fun _ _ _ h => h) (Or.inl ⟨by rfl, ?_⟩) ?_ ?_
  rotate_left
  · intro w'
    go_simp
    with_reducible rfl
  rotate_left
  · simp only [Act.put, zSa, zSb, zSc, i64_w, i32_w]
    rfl
  refine take_ (i := 7) (N := some 78) (v := ?_) (a' := ?_) #[true, true, true, true, true, true, true, true, true, true, true, false, true, false, false, false] rfl rfl (by kernel_rfl) (fun _ _ _ h => h) (Or.inl ⟨by rfl, ?_⟩) hHeld ?_ ?_
  rotate_left
  · rintro w' ⟨s0, s1, s2, s3, s4⟩
    go_simp
    with_reducible rfl
  rotate_left
  · simp only [Act.put, zSa, zSb, zSc, i64_w, i32_w]
    rfl
  refine take_ (i := 11) (N := some 82) (v := ?_) (a' := ?_) #[true, true, true, true, true, true, true, true, true, true, true, true, true, false, false, false] rfl rfl (by kernel_rfl) (fun _ _ _ h => h) (Or.inl ⟨by rfl, ?_⟩) hHeld ?_ ?_
  rotate_left
  · rintro w' ⟨s0, s1, s2, s3, s4⟩
    go_simp
    with_reducible rfl
  rotate_left
  · simp only [Act.put, zSa, zSb, zSc, i64_w, i32_w]
    rfl
  refine pure_ (i := 13) (N := some 84) (v := ?_) (a' := ?_) #[true, true, true, true, true, true, true, true, true, true, true, true, true, true, false, false] rfl rfl (by kernel_rfl) (fun _ _ _ h => h) (Or.inl ⟨by rfl, ?_⟩) ?_ ?_
  rotate_left
  · intro w'
    go_simp
    with_reducible rfl
  rotate_left
  · simp only [Act.put, zSa, zSb, zSc, i64_w, i32_w]
    rfl
  refine take_ (i := 14) (N := some 85) (v := ?_) (a' := ?_) #[true, true, true, true, true, true, true, true, true, true, true, true, true, true, true, false] rfl rfl (by kernel_rfl) (fun _ _ _ h => h) (Or.inl ⟨by rfl, ?_⟩) hHeld ?_ ?_
  rotate_left
  · rintro w' ⟨s0, s1, s2, s3, s4⟩
    go_simp
    with_reducible rfl
  rotate_left
  · simp only [Act.put, zSa, zSb, zSc, i64_w, i32_w]
    rfl
  refine pure_ (i := 15) (N := some 86) (v := ?_) (a' := ?_) #[true, true, true, true, true, true, true, true, true, true, true, true, true, true, true, true] rfl rfl (by kernel_rfl) (fun _ _ _ h => h) (Or.inl ⟨by rfl, ?_⟩) ?_ ?_
  rotate_left
  · intro w'
    go_simp
    with_reducible rfl
  rotate_left
  · simp only [Act.put, zSa, zSb, zSc, i64_w, i32_w]
    rfl
  refine done_ (by kernel_rfl) ?_
  have HS6 := HS5
  have hfb0 : w7.cell? ⟨bf, 1, none⟩ = some (.int .i64 f.f1) := (zKc BF6.out 1).trans rfl
  clear HXO HXF HS2 BF5 b1 b2 b3 b4 b5
  have he := HE.out
  clear HE
  unfold wkTail at he
  by_cases hle : rd s.ord p ≤ rd s2.low f.f0
  rotate_left
  · rw [if_neg hle] at he
    obtain rfl := zOi he
    have hd : decide (rd s.ord p ≤ rd s2.low f.f0) = false := decide_eq_false hle
    go_upto_if 86 with (fail)
    first | rw [hd] | skip
    clear hle
    go_wp2
    first | go_end0 | ((try simp only [Exit.inBlock, Exit.then]); refine bodyPost_ret (results_none rfl _ _ _) rfl ?_)
    exact ⟨rfl, _, HS6.out⟩
  rw [if_pos hle] at he
  have hd : decide (rd s.ord p ≤ rd s2.low f.f0) = true := decide_eq_true hle
  obtain ⟨s3, ho, he⟩ := Option.bind_eq_some_iff.1 he
  have HO3 := zMk ho
  have HE := zMk he
  clear ho he hle
  go_upto_if 86 with (fail)
  first | rw [hd] | skip
  clear hd
  go_upto_region 7 with (go_at_call 71; refine (HOFF.out _ _ _ _ _ HS6.out HO3.out).mono ?_; rintro e w8 ⟨rfl, hb8, V3, h8⟩; have HS8 := zMk h8; clear hb8 h8)
  clear HS6 HS5 BF6 hfb0 HO3 E1 E2 L2 O2
  have he := HE.out
  clear HE
  unfold wkCut at he
  obtain ⟨c, hcn, he⟩ := Option.bind_eq_some_iff.1 he
  have HCN := zMk hcn
  have HE := zMk he
  clear hcn he
  obtain ⟨A9, c9, e9⟩ := zRs HS8.out.hS
  have E9 := zMk e9
  clear e9
  have P0 := zMk HB.out.1
  go_cut [119] from 91 to 118 (fun v119 wc => v119 = .bool c ∧ Aside0 (WkW w0 wn wc gw (.slice An near.length cn) V3 s3))
  case first =>
    have HS9 := zMk (HS8.out.below (zBd (Below.refl w8.heap.size w8)))
    by_cases h1 : 1 < s3.stack.length
    · have hcn := HCN.out
      rw [if_pos h1] at hcn
      obtain rfl := zOi hcn
      have hd : decide ((1 : Int) < (s3.stack.length : Int)) = true := decide_eq_true (by omega)
      have HH1 := zMk h1
      clear hcn h1
      refine start_ (n := 29) (S := fun w' => w'.cell? ⟨gw, 9, none⟩ = some (.slice A9 s3.stack.length c9)) (ds := []) #[false, false, false, false, false, false, false, false, false, false, false, false, false, false, false, false, false, false, false, false, false, false, false, false, false, false, false, false, false] (by kernel_rfl) rfl rfl ((zKc HS9.out.hw 9).trans (congrArg some E9.out)) (fun hHeld => ?_)
      generalize w8.drew = w9 at HS9 hHeld ⊢
      refine pure_ (i := 0) (N := some 91) (v := ?_) (a' := ?_) #[true, false, false, false, false, false, false, false, false, false, false, false, false, false, false, false, false, false, false, false, false, false, false, false, false, false, false, false, false] rfl rfl (by kernel_rfl) (fun _ _ _ h => h) (Or.inl ⟨by rfl, ?_⟩) ?_ ?_
      rotate_left
      · intro w'
        go_simp
        with_reducible rfl
      rotate_left
      · simp only [Act.put, zSa, zSb, zSc, i64_w, i32_w]
        rfl
      refine pure_ (i := 1) (N := some 92) (v := ?_) (a' := ?_) #[true, true, false, false, false, false, false, false, false, false, false, false, false, false, false, false, false, false, false, false, false, false, false, false, false, false, false, false, false] rfl rfl (by kernel_rfl) (fun _ _ _ h => h) (Or.inl ⟨by rfl, ?_⟩) ?_ ?_
      rotate_left
      · intro w'
        go_simp
        with_reducible rfl
      rotate_left
      · simp only [Act.put, zSa, zSb, zSc, i64_w, i32_w]
        rfl
      refine pure_ (i := 2) (N := some 93) (v := ?_) (a' := ?_) #[true, true, true, false, false, false, false, false, false, false, false, false, false, false, false, false, false, false, false, false, false, false, false, false, false, false, false, false, false] rfl rfl (by kernel_rfl) (fun _ _ _ h => h) (Or.inl ⟨by rfl, ?_⟩) ?_ ?_
      rotate_left
      · intro w'
        go_simp
        with_reducible rfl
      rotate_left
      · simp only [Act.put, zSa, zSb, zSc, i64_w, i32_w]
        rfl
      refine take_ (i := 3) (N := some 94) (v := ?_) (a' := ?_) #[true, true, true, true, false, false, false, false, false, false, false, false, false, false, false, false, false, false, false, false, false, false, false, false, false, false, false, false, false] rfl rfl (by kernel_rfl) (fun _ _ _ h => h) (Or.inl ⟨by rfl, ?_⟩) hHeld ?_ ?_
      rotate_left
      · intro w' s0
        go_simp
        with_reducible rfl
      rotate_left
      · simp only [Act.put, zSa, zSb, zSc, i64_w, i32_w]
        rfl
      refine pure_ (i := 4) (N := some 95) (v := ?_) (a' := ?_) #[true, true, true, true, true, false, false, false, false, false, false, false, false, false, false, false, false, false, false, false, false, false, false, false, false, false, false, false, false] rfl rfl (by kernel_rfl) (fun _ _ _ h => h) (Or.inl ⟨by rfl, ?_⟩) ?_ ?_
      rotate_left
      · intro w'
        go_simp
        with_reducible rfl
      rotate_left
      · simp only [Act.put, zSa, zSb, zSc, i64_w, i32_w]
        rfl
      refine pure_ (i := 5) (N := some 96) (v := ?_) (a' := ?_) #[true, true, true, true, true, true, false, false, false, false, false, false, false, false, false, false, false, false, false, false, false, false, false, false, false, false, false, false, false] rfl rfl (by kernel_rfl) (fun _ _ _ h => h) (Or.inl ⟨by rfl, ?_⟩) ?_ ?_
      rotate_left
      · intro w'
        go_simp
        with_reducible rfl
      rotate_left
      · simp only [Act.put, zSa, zSb, zSc, i64_w, i32_w]
        rfl
      refine pure_ (i := 6) (N := some 97) (v := ?_) (a' := ?_) #[true, true, true, true, true, true, true, false, false, false, false, false, false, false, false, false, false, false, false, false, false, false, false, false, false, false, false, false, false] rfl rfl (by kernel_rfl) (fun _ _ _ h => h) (Or.inl ⟨by rfl, ?_⟩) ?_ ?_
      rotate_left
      · intro w'
        go_simp
        with_reducible rfl
      rotate_left
      · simp only [Act.put, zSa, zSb, zSc, i64_w, i32_w]
        rfl
      refine pure_ (i := 7) (N := some 98) (v := undef) (a' := ?_) #[true, true, true, true, true, true, true, true, false, false, false, false, false, false, false, false, false, false, false, false, false, false, false, false, false, false, false, false, false] rfl rfl (by kernel_rfl) (fun _ _ _ h => h) (Or.inr ⟨by rfl, rfl⟩) ?_ ?_
      rotate_left
      · simp only [Act.put, zSa, zSb, zSc, i64_w, i32_w]
        rfl
      refine pure_ (i := 8) (N := some 99) (v := undef) (a' := ?_) #[true, true, true, true, true, true, true, true, true, false, false, false, false, false, false, false, false, false, false, false, false, false, false, false, false, false, false, false, false] rfl rfl (by kernel_rfl) (fun _ _ _ h => h) (Or.inr ⟨by rfl, rfl⟩) ?_ ?_
      rotate_left
      · simp only [Act.put, zSa, zSb, zSc, i64_w, i32_w]
        rfl
      refine pure_ (i := 9) (N := some 100) (v := undef) (a' := ?_) #[true, true, true, true, true, true, true, true, true, true, false, false, false, false, false, false, false, false, false, false, false, false, false, false, false, false, false, false, false] rfl rfl (by kernel_rfl) (fun _ _ _ h => h) (Or.inr ⟨by rfl, rfl⟩) ?_ ?_
      rotate_left
      · simp only [Act.put, zSa, zSb, zSc, i64_w, i32_w]
        rfl
      refine pure_ (i := 10) (N := some 101) (v := undef) (a' := ?_) #[true, true, true, true, true, true, true, true, true, true, true, false, false, false, false, false, false, false, false, false, false, false, false, false, false, false, false, false, false] rfl rfl (by kernel_rfl) (fun _ _ _ h => h) (Or.inr ⟨by rfl, rfl⟩) ?_ ?_
      rotate_left
      · simp only [Act.put, zSa, zSb, zSc, i64_w, i32_w]
        rfl
      refine pure_ (i := 11) (N := some 102) (v := undef) (a' := ?_) #[true, true, true, true, true, true, true, true, true, true, true, true, false, false, false, false, false, false, false, false, false, false, false, false, false, false, false, false, false] rfl rfl (by kernel_rfl) (fun _ _ _ h => h) (Or.inr ⟨by rfl, rfl⟩) ?_ ?_
      rotate_left
      · simp only [Act.put, zSa, zSb, zSc, i64_w, i32_w]
        rfl
      refine pure_ (i := 12) (N := some 103) (v := undef) (a' := ?_) #[true, true, true, true, true, true, true, true, true, true, true, true, true, false, false, false, false, false, false, false, false, false, false, false, false, false, false, false, false] rfl rfl (by kernel_rfl) (fun _ _ _ h => h) (Or.inr ⟨by rfl, rfl⟩) ?_ ?_
      rotate_left
      · simp only [Act.put, zSa, zSb, zSc, i64_w, i32_w]
        rfl
      refine pure_ (i := 13) (N := some 104) (v := undef) (a' := ?_) #[true, true, true, true, true, true, true, true, true, true, true, true, true, true, false, false, false, false, false, false, false, false, false, false, false, false, false, false, false] rfl rfl (by kernel_rfl) (fun _ _ _ h => h) (Or.inr ⟨by rfl, rfl⟩) ?_ ?_
      rotate_left
      · simp only [Act.put, zSa, zSb, zSc, i64_w, i32_w]
        rfl
      refine pure_ (i := 14) (N := some 105) (v := undef) (a' := ?_) #[true, true, true, true, true, true, true, true, true, true, true, true, true, true, true, false, false, false, false, false, false, false, false, false, false, false, false, false, false] rfl rfl (by kernel_rfl) (fun _ _ _ h => h) (Or.inr ⟨by rfl, rfl⟩) ?_ ?_
      rotate_left
      · simp only [Act.put, zSa, zSb, zSc, i64_w, i32_w]
        rfl
      refine pure_ (i := 15) (N := some 106) (v := undef) (a' := ?_) #[true, true, true, true, true, true, true, true, true, true, true, true, true, true, true, true, false, false, false, false, false, false, false, false, false, false, false, false, false] rfl rfl (by kernel_rfl) (fun _ _ _ h => h) (Or.inr ⟨by rfl, rfl⟩) ?_ ?_
      rotate_left
      · simp only [Act.put, zSa, zSb, zSc, i64_w, i32_w]
        rfl
      refine pure_ (i := 16) (N := some 107) (v := undef) (a' := ?_) #[true, true, true, true, true, true, true, true, true, true, true, true, true, true, true, true, true, false, false, false, false, false, false, false, false, false, false, false, false] rfl rfl (by kernel_rfl) (fun _ _ _ h => h) (Or.inr ⟨by rfl, rfl⟩) ?_ ?_
      rotate_left
      · simp only [Act.put, zSa, zSb, zSc, i64_w, i32_w]
        rfl
      refine pure_ (i := 17) (N := some 108) (v := undef) (a' := ?_) #[true, true, true, true, true, true, true, true, true, true, true, true, true, true, true, true, true, true, false, false, false, false, false, false, false, false, false, false, false] rfl rfl (by kernel_rfl) (fun _ _ _ h => h) (Or.inr ⟨by rfl, rfl⟩) ?_ ?_
      rotate_left
      · simp only [Act.put, zSa, zSb, zSc, i64_w, i32_w]
        rfl
      refine pure_ (i := 18) (N := some 109) (v := undef) (a' := ?_) #[true, true, true, true, true, true, true, true, true, true, true, true, true, true, true, true, true, true, true, false, false, false, false, false, false, false, false, false, false] rfl rfl (by kernel_rfl) (fun _ _ _ h => h) (Or.inr ⟨by rfl, rfl⟩) ?_ ?_
      rotate_left
      · simp only [Act.put, zSa, zSb, zSc, i64_w, i32_w]
        rfl
      refine pure_ (i := 19) (N := some 110) (v := undef) (a' := ?_) #[true, true, true, true, true, true, true, true, true, true, true, true, true, true, true, true, true, true, true, true, false, false, false, false, false, false, false, false, false] rfl rfl (by kernel_rfl) (fun _ _ _ h => h) (Or.inr ⟨by rfl, rfl⟩) ?_ ?_
      rotate_left
      · simp only [Act.put, zSa, zSb, zSc, i64_w, i32_w]
        rfl
      refine pure_ (i := 20) (N := some 111) (v := undef) (a' := ?_) #[true, true, true, true, true, true, true, true, true, true, true, true, true, true, true, true, true, true, true, true, true, false, false, false, false, false, false, false, false] rfl rfl (by kernel_rfl) (fun _ _ _ h => h) (Or.inr ⟨by rfl, rfl⟩) ?_ ?_
      rotate_left
      · simp only [Act.put, zSa, zSb, zSc, i64_w, i32_w]
        rfl
      refine pure_ (i := 21) (N := some 112) (v := undef) (a' := ?_) #[true, true, true, true, true, true, true, true, true, true, true, true, true, true, true, true, true, true, true, true, true, true, false, false, false, false, false, false, false] rfl rfl (by kernel_rfl) (fun _ _ _ h => h) (Or.inr ⟨by rfl, rfl⟩) ?_ ?_
      rotate_left
      · simp only [Act.put, zSa, zSb, zSc, i64_w, i32_w]
        rfl
      refine pure_ (i := 22) (N := some 113) (v := undef) (a' := ?_) #[true, true, true, true, true, true, true, true, true, true, true, true, true, true, true, true, true, true, true, true, true, true, true, false, false, false, false, false, false] rfl rfl (by kernel_rfl) (fun _ _ _ h => h) (Or.inr ⟨by rfl, rfl⟩) ?_ ?_
      rotate_left
      · simp only [Act.put, zSa, zSb, zSc, i64_w, i32_w]
        rfl
      refine pure_ (i := 23) (N := some 114) (v := undef) (a' := ?_) #[true, true, true, true, true, true, true, true, true, true, true, true, true, true, true, true, true, true, true, true, true, true, true, true, false, false, false, false, false] rfl rfl (by kernel_rfl) (fun _ _ _ h => h) (Or.inr ⟨by rfl, rfl⟩) ?_ ?_
      rotate_left
      · simp only [Act.put, zSa, zSb, zSc, i64_w, i32_w]
        rfl
      refine pure_ (i := 24) (N := some 115) (v := undef) (a' := ?_) #[true, true, true, true, true, true, true, true, true, true, true, true, true, true, true, true, true, true, true, true, true, true, true, true, true, false, false, false, false] rfl rfl (by kernel_rfl) (fun _ _ _ h => h) (Or.inr ⟨by rfl, rfl⟩) ?_ ?_
      rotate_left
      · simp only [Act.put, zSa, zSb, zSc, i64_w, i32_w]
        rfl
      refine pure_ (i := 25) (N := some 116) (v := undef) (a' := ?_) #[true, true, true, true, true, true, true, true, true, true, true, true, true, true, true, true, true, true, true, true, true, true, true, true, true, true, false, false, false] rfl rfl (by kernel_rfl) (fun _ _ _ h => h) (Or.inr ⟨by rfl, rfl⟩) ?_ ?_
      rotate_left
      · simp only [Act.put, zSa, zSb, zSc, i64_w, i32_w]
        rfl
      refine pure_ (i := 26) (N := some 117) (v := undef) (a' := ?_) #[true, true, true, true, true, true, true, true, true, true, true, true, true, true, true, true, true, true, true, true, true, true, true, true, true, true, true, false, false] rfl rfl (by kernel_rfl) (fun _ _ _ h => h) (Or.inr ⟨by rfl, rfl⟩) ?_ ?_
      rotate_left
      · simp only [Act.put, zSa, zSb, zSc, i64_w, i32_w]
        rfl
      refine pure_ (i := 27) (N := some 118) (v := undef) (a' := ?_) #[true, true, true, true, true, true, true, true, true, true, true, true, true, true, true, true, true, true, true, true, true, true, true, true, true, true, true, true, false] rfl rfl (by kernel_rfl) (fun _ _ _ h => h) (Or.inr ⟨by rfl, rfl⟩) ?_ ?_
      rotate_left
      · simp only [Act.put, zSa, zSb, zSc, i64_w, i32_w]
        rfl
      refine pure_ (i := 28) (N := some 119) (v := ?_) (a' := ?_) #[true, true, true, true, true, true, true, true, true, true, true, true, true, true, true, true, true, true, true, true, true, true, true, true, true, true, true, true, true] rfl rfl (by kernel_rfl) (fun _ _ _ h => h) (Or.inl ⟨by rfl, ?_⟩) ?_ ?_
      rotate_left
      · intro w'
        go_simp
        with_reducible rfl
      rotate_left
      · simp only [Act.put, zSa, zSb, zSc, i64_w, i32_w]
        rfl
      refine done_ (by kernel_rfl) ?_
      try go_wp2
      go_meet
      case rel => exact ⟨rfl, HS9⟩
    · have hcn := HCN.out
      rw [if_neg h1] at hcn
      by_cases hpn : p < (s3.next.length : Int) ∧ p < (near.length : Int)
      rotate_left
      · rw [if_neg hpn] at hcn; cases hcn
      rw [if_pos hpn] at hcn
      have hd : decide ((1 : Int) < (s3.stack.length : Int)) = false := decide_eq_false (by omega)
      obtain ⟨g3, c3, e3, -, -, -⟩ := Kd.R_form HS9.out.h3 (by have := P0.out; omega)
      have E3 := zMk e3
      have h3' := HS9.out.h3
      rw [e3] at h3'
      obtain ⟨hxn, -⟩ := Kd.R_celln (0 : Int) h3' p P0.out hpn.1
      have HXN := zMk (show w8.drew.cell? ⟨g3, p.toNat, none⟩ = some (.int .i64 (rd s3.next p)) from hxn)
      obtain ⟨adn, Ai, ci, ea, hcl, -, -⟩ := at_L3 (HS9.out.near HN.out) p P0.out hpn.2
      cases ea
      have HCL := zMk hcl
      have p1 : (0 ≤ p) = True := eq_true P0.out
      have p2 : (p < (s3.next.length : Int)) = True := eq_true hpn.1
      have p3 : (p < (near.length : Int)) = True := eq_true hpn.2
      clear h1 hpn e3 h3' hxn hcl
      generalize rd_L3 near p = L at HCL hcn
      by_cases hnl : rd s3.next p < (L.length : Int)
      · rw [if_pos hnl] at hcn
        have hd2 : decide (rd s3.next p < (L.length : Int)) = true := decide_eq_true hnl
        have HMC := zMk hcn
        clear hcn hnl
        refine wp_region_still_tail 26 (by kernel_rfl) (by kernel_rfl) ?_
        generalize hw9 : w8.drew = w9 at HS9 HXN HCL
        show wpStill _ _ w8.drew (fun a' => wpList _ _ _ _ a' w8.drew) _ _
        rw [hw9]
        clear hw9
        have z9 : w9.cell? ⟨gw, 9, none⟩ = some (.slice A9 s3.stack.length c9) := (zKc HS9.out.hw 9).trans (congrArg some E9.out)
        have z3 : w9.cell? ⟨gw, 3, none⟩ = some (.slice (some ⟨g3, 0, none⟩) s3.next.length c3) := (zKc HS9.out.hw 3).trans (congrArg some E3.out)
        have z0 : w9.cell? ⟨gw, 0, none⟩ = some (.slice (some adn) near.length cn) := (zKc HS9.out.hw 0).trans rfl
        have zx := HXN.out
        have zl := HCL.out
        simp only [List.take_succ_cons, List.take_zero, List.drop_succ_cons, List.drop_zero]
        repeat still_step
        refine wpStill_nil ?_
        clear z9 z3 z0 zx zl
        go_wp2_with (go_at_call 72; refine (HMORE.out _ _ _ _ _ HS9.out HMC.out).mono ?_; rintro e w10 ⟨rfl, hb⟩; have HS10 := zMk (HS9.out.below hb); clear hb)
        try go_wp2
        go_meet
        case rel => exact ⟨rfl, HS10⟩
      · rw [if_neg hnl] at hcn
        obtain rfl := zOi hcn
        have hd2 : decide (rd s3.next p < (L.length : Int)) = false := decide_eq_false hnl
        clear hcn hnl
        refine start_ (n := 29) (S := fun w' => w'.cell? ⟨gw, 9, none⟩ = some (.slice A9 s3.stack.length c9) ∧ w'.cell? ⟨gw, 3, none⟩ = some (.slice (some ⟨g3, 0, none⟩) s3.next.length c3) ∧ w'.cell? ⟨g3, p.toNat, none⟩ = some (.int .i64 (rd s3.next p)) ∧ w'.cell? ⟨gw, 0, none⟩ = some (.slice (some adn) near.length cn) ∧ w'.cell? (adn.add p.toNat) = some (.slice Ai L.length ci)) (ds := []) #[false, false, false, false, false, false, false, false, false, false, false, false, false, false, false, false, false, false, false, false, false, false, false, false, false, false, false, false, false] (by kernel_rfl) rfl rfl ⟨(zKc HS9.out.hw 9).trans (congrArg some E9.out), (zKc HS9.out.hw 3).trans (congrArg some E3.out), HXN.out, (zKc HS9.out.hw 0).trans rfl, HCL.out⟩ (fun hHeld => ?_)
        generalize w8.drew = w9 at HS9 HXN HCL hHeld ⊢
        refine pure_ (i := 0) (N := some 91) (v := ?_) (a' := ?_) #[true, false, false, false, false, false, false, false, false, false, false, false, false, false, false, false, false, false, false, false, false, false, false, false, false, false, false, false, false] rfl rfl (by kernel_rfl) (fun _ _ _ h => h) (Or.inl ⟨by rfl, ?_⟩) ?_ ?_
        rotate_left
        · intro w'
          go_simp
          with_reducible rfl
        rotate_left
        · simp only [Act.put, zSa, zSb, zSc, i64_w, i32_w]
          rfl
        refine pure_ (i := 1) (N := some 92) (v := ?_) (a' := ?_) #[true, true, false, false, false, false, false, false, false, false, false, false, false, false, false, false, false, false, false, false, false, false, false, false, false, false, false, false, false] rfl rfl (by kernel_rfl) (fun _ _ _ h => h) (Or.inl ⟨by rfl, ?_⟩) ?_ ?_
        rotate_left
        · intro w'
          go_simp
          with_reducible rfl
        rotate_left
        · simp only [Act.put, zSa, zSb, zSc, i64_w, i32_w]
          rfl
        refine pure_ (i := 2) (N := some 93) (v := ?_) (a' := ?_) #[true, true, true, false, false, false, false, false, false, false, false, false, false, false, false, false, false, false, false, false, false, false, false, false, false, false, false, false, false] rfl rfl (by kernel_rfl) (fun _ _ _ h => h) (Or.inl ⟨by rfl, ?_⟩) ?_ ?_
        rotate_left
        · intro w'
          go_simp
          with_reducible rfl
        rotate_left
        · simp only [Act.put, zSa, zSb, zSc, i64_w, i32_w]
          rfl
        refine take_ (i := 3) (N := some 94) (v := ?_) (a' := ?_) #[true, true, true, true, false, false, false, false, false, false, false, false, false, false, false, false, false, false, false, false, false, false, false, false, false, false, false, false, false] rfl rfl (by kernel_rfl) (fun _ _ _ h => h) (Or.inl ⟨by rfl, ?_⟩) hHeld ?_ ?_
        rotate_left
        · rintro w' ⟨s0, s1, s2, s3, s4⟩
          go_simp
          with_reducible rfl
        rotate_left
        · simp only [Act.put, zSa, zSb, zSc, i64_w, i32_w]
          rfl
        refine pure_ (i := 4) (N := some 95) (v := ?_) (a' := ?_) #[true, true, true, true, true, false, false, false, false, false, false, false, false, false, false, false, false, false, false, false, false, false, false, false, false, false, false, false, false] rfl rfl (by kernel_rfl) (fun _ _ _ h => h) (Or.inl ⟨by rfl, ?_⟩) ?_ ?_
        rotate_left
        · intro w'
          go_simp
          with_reducible rfl
        rotate_left
        · simp only [Act.put, zSa, zSb, zSc, i64_w, i32_w]
          rfl
        refine pure_ (i := 5) (N := some 96) (v := ?_) (a' := ?_) #[true, true, true, true, true, true, false, false, false, false, false, false, false, false, false, false, false, false, false, false, false, false, false, false, false, false, false, false, false] rfl rfl (by kernel_rfl) (fun _ _ _ h => h) (Or.inl ⟨by rfl, ?_⟩) ?_ ?_
        rotate_left
        · intro w'
          go_simp
          with_reducible rfl
        rotate_left
        · simp only [Act.put, zSa, zSb, zSc, i64_w, i32_w]
          rfl
        refine pure_ (i := 6) (N := some 97) (v := ?_) (a' := ?_) #[true, true, true, true, true, true, true, false, false, false, false, false, false, false, false, false, false, false, false, false, false, false, false, false, false, false, false, false, false] rfl rfl (by kernel_rfl) (fun _ _ _ h => h) (Or.inl ⟨by rfl, ?_⟩) ?_ ?_
        rotate_left
        · intro w'
          go_simp
          with_reducible rfl
        rotate_left
        · simp only [Act.put, zSa, zSb, zSc, i64_w, i32_w]
          rfl
        refine pure_ (i := 7) (N := some 98) (v := ?_) (a' := ?_) #[true, true, true, true, true, true, true, true, false, false, false, false, false, false, false, false, false, false, false, false, false, false, false, false, false, false, false, false, false] rfl rfl (by kernel_rfl) (fun _ _ _ h => h) (Or.inl ⟨by rfl, ?_⟩) ?_ ?_
        rotate_left
        · intro w'
          go_simp
          with_reducible rfl
        rotate_left
        · simp only [Act.put, zSa, zSb, zSc, i64_w, i32_w]
          rfl
        refine pure_ (i := 8) (N := some 99) (v := ?_) (a' := ?_) #[true, true, true, true, true, true, true, true, true, false, false, false, false, false, false, false, false, false, false, false, false, false, false, false, false, false, false, false, false] rfl rfl (by kernel_rfl) (fun _ _ _ h => h) (Or.inl ⟨by rfl, ?_⟩) ?_ ?_
        rotate_left
        · intro w'
          go_simp
          with_reducible rfl
        rotate_left
        · simp only [Act.put, zSa, zSb, zSc, i64_w, i32_w]
          rfl
        refine pure_ (i := 9) (N := some 100) (v := ?_) (a' := ?_) #[true, true, true, true, true, true, true, true, true, true, false, false, false, false, false, false, false, false, false, false, false, false, false, false, false, false, false, false, false] rfl rfl (by kernel_rfl) (fun _ _ _ h => h) (Or.inl ⟨by rfl, ?_⟩) ?_ ?_
        rotate_left
        · intro w'
          go_simp
          with_reducible rfl
        rotate_left
        · simp only [Act.put, zSa, zSb, zSc, i64_w, i32_w]
          rfl
        refine pure_ (i := 11) (N := some 102) (v := ?_) (a' := ?_) #[true, true, true, true, true, true, true, true, true, true, false, true, false, false, false, false, false, false, false, false, false, false, false, false, false, false, false, false, false] rfl rfl (by kernel_rfl) (fun _ _ _ h => h) (Or.inl ⟨by rfl, ?_⟩) ?_ ?_
        rotate_left
        · intro w'
          go_simp
          with_reducible rfl
        rotate_left
        · simp only [Act.put, zSa, zSb, zSc, i64_w, i32_w]
          rfl
        refine pure_ (i := 14) (N := some 105) (v := ?_) (a' := ?_) #[true, true, true, true, true, true, true, true, true, true, false, true, false, false, true, false, false, false, false, false, false, false, false, false, false, false, false, false, false] rfl rfl (by kernel_rfl) (fun _ _ _ h => h) (Or.inl ⟨by rfl, ?_⟩) ?_ ?_
        rotate_left
        · intro w'
          go_simp
          with_reducible rfl
        rotate_left
        · simp only [Act.put, zSa, zSb, zSc, i64_w, i32_w]
          rfl
        refine pure_ (i := 15) (N := some 106) (v := ?_) (a' := ?_) #[true, true, true, true, true, true, true, true, true, true, false, true, false, false, true, true, false, false, false, false, false, false, false, false, false, false, false, false, false] rfl rfl (by kernel_rfl) (fun _ _ _ h => h) (Or.inl ⟨by rfl, ?_⟩) ?_ ?_
        rotate_left
        · intro w'
          go_simp
          with_reducible rfl
        rotate_left
        · simp only [Act.put, zSa, zSb, zSc, i64_w, i32_w]
          rfl
        refine pure_ (i := 16) (N := some 107) (v := ?_) (a' := ?_) #[true, true, true, true, true, true, true, true, true, true, false, true, false, false, true, true, true, false, false, false, false, false, false, false, false, false, false, false, false] rfl rfl (by kernel_rfl) (fun _ _ _ h => h) (Or.inl ⟨by rfl, ?_⟩) ?_ ?_
        rotate_left
        · intro w'
          go_simp
          with_reducible rfl
        rotate_left
        · simp only [Act.put, zSa, zSb, zSc, i64_w, i32_w]
          rfl
        refine pure_ (i := 18) (N := some 109) (v := ?_) (a' := ?_) #[true, true, true, true, true, true, true, true, true, true, false, true, false, false, true, true, true, false, true, false, false, false, false, false, false, false, false, false, false] rfl rfl (by kernel_rfl) (fun _ _ _ h => h) (Or.inl ⟨by rfl, ?_⟩) ?_ ?_
        rotate_left
        · intro w'
          go_simp
          with_reducible rfl
        rotate_left
        · simp only [Act.put, zSa, zSb, zSc, i64_w, i32_w]
          rfl
        refine take_ (i := 10) (N := some 101) (v := ?_) (a' := ?_) #[true, true, true, true, true, true, true, true, true, true, true, true, false, false, true, true, true, false, true, false, false, false, false, false, false, false, false, false, false] rfl rfl (by kernel_rfl) (fun _ _ _ h => h) (Or.inl ⟨by rfl, ?_⟩) hHeld ?_ ?_
        rotate_left
        · rintro w' ⟨s0, s1, s2, s3, s4⟩
          go_simp
          with_reducible rfl
        rotate_left
        · simp only [Act.put, zSa, zSb, zSc, i64_w, i32_w]
          rfl
        refine pure_ (i := 12) (N := some 103) (v := ?_) (a' := ?_) #[true, true, true, true, true, true, true, true, true, true, true, true, true, false, true, true, true, false, true, false, false, false, false, false, false, false, false, false, false] rfl rfl (by kernel_rfl) (fun _ _ _ h => h) (Or.inl ⟨by rfl, ?_⟩) ?_ ?_
        rotate_left
        · intro w'
          go_simp
          with_reducible rfl
        rotate_left
        · simp only [Act.put, zSa, zSb, zSc, i64_w, i32_w]
          rfl
        refine take_ (i := 13) (N := some 104) (v := ?_) (a' := ?_) #[true, true, true, true, true, true, true, true, true, true, true, true, true, true, true, true, true, false, true, false, false, false, false, false, false, false, false, false, false] rfl rfl (by kernel_rfl) (fun _ _ _ h => h) (Or.inl ⟨by rfl, ?_⟩) hHeld ?_ ?_
        rotate_left
        · rintro w' ⟨s0, s1, s2, s3, s4⟩
          go_simp
          with_reducible rfl
        rotate_left
        · simp only [Act.put, zSa, zSb, zSc, i64_w, i32_w]
          rfl
        refine take_ (i := 17) (N := some 108) (v := ?_) (a' := ?_) #[true, true, true, true, true, true, true, true, true, true, true, true, true, true, true, true, true, true, true, false, false, false, false, false, false, false, false, false, false] rfl rfl (by kernel_rfl) (fun _ _ _ h => h) (Or.inl ⟨by rfl, ?_⟩) hHeld ?_ ?_
        rotate_left
        · rintro w' ⟨s0, s1, s2, s3, s4⟩
          go_simp
          with_reducible rfl
        rotate_left
        · simp only [Act.put, zSa, zSb, zSc, i64_w, i32_w]
          rfl
        refine pure_ (i := 19) (N := some 110) (v := ?_) (a' := ?_) #[true, true, true, true, true, true, true, true, true, true, true, true, true, true, true, true, true, true, true, true, false, false, false, false, false, false, false, false, false] rfl rfl (by kernel_rfl) (fun _ _ _ h => h) (Or.inl ⟨by rfl, ?_⟩) ?_ ?_
        rotate_left
        · intro w'
          go_simp
          with_reducible rfl
        rotate_left
        · simp only [Act.put, zSa, zSb, zSc, i64_w, i32_w]
          rfl
        refine take_ (i := 20) (N := some 111) (v := ?_) (a' := ?_) #[true, true, true, true, true, true, true, true, true, true, true, true, true, true, true, true, true, true, true, true, true, false, false, false, false, false, false, false, false] rfl rfl (by kernel_rfl) (fun _ _ _ h => h) (Or.inl ⟨by rfl, ?_⟩) hHeld ?_ ?_
        rotate_left
        · rintro w' ⟨s0, s1, s2, s3, s4⟩
          go_simp
          with_reducible rfl
        rotate_left
        · simp only [Act.put, zSa, zSb, zSc, i64_w, i32_w]
          rfl
        refine pure_ (i := 21) (N := some 112) (v := ?_) (a' := ?_) #[true, true, true, true, true, true, true, true, true, true, true, true, true, true, true, true, true, true, true, true, true, true, false, false, false, false, false, false, false] rfl rfl (by kernel_rfl) (fun _ _ _ h => h) (Or.inl ⟨by rfl, ?_⟩) ?_ ?_
        rotate_left
        · intro w'
          go_simp
          with_reducible rfl
        rotate_left
        · simp only [Act.put, zSa, zSb, zSc, i64_w, i32_w]
          rfl
        refine pure_ (i := 22) (N := some 113) (v := ?_) (a' := ?_) #[true, true, true, true, true, true, true, true, true, true, true, true, true, true, true, true, true, true, true, true, true, true, true, false, false, false, false, false, false] rfl rfl (by kernel_rfl) (fun _ _ _ h => h) (Or.inl ⟨by rfl, ?_⟩) ?_ ?_
        rotate_left
        · intro w'
          go_simp
          with_reducible rfl
        rotate_left
        · simp only [Act.put, zSa, zSb, zSc, i64_w, i32_w]
          rfl
        refine pure_ (i := 23) (N := some 114) (v := ?_) (a' := ?_) #[true, true, true, true, true, true, true, true, true, true, true, true, true, true, true, true, true, true, true, true, true, true, true, true, false, false, false, false, false] rfl rfl (by kernel_rfl) (fun _ _ _ h => h) (Or.inl ⟨by rfl, ?_⟩) ?_ ?_
        rotate_left
        · intro w'
          go_simp
          with_reducible rfl
        rotate_left
        · simp only [Act.put, zSa, zSb, zSc, i64_w, i32_w]
          rfl
        refine pure_ (i := 24) (N := some 115) (v := undef) (a' := ?_) #[true, true, true, true, true, true, true, true, true, true, true, true, true, true, true, true, true, true, true, true, true, true, true, true, true, false, false, false, false] rfl rfl (by kernel_rfl) (fun _ _ _ h => h) (Or.inr ⟨by rfl, rfl⟩) ?_ ?_
        rotate_left
        · simp only [Act.put, zSa, zSb, zSc, i64_w, i32_w]
          rfl
        refine pure_ (i := 25) (N := some 116) (v := undef) (a' := ?_) #[true, true, true, true, true, true, true, true, true, true, true, true, true, true, true, true, true, true, true, true, true, true, true, true, true, true, false, false, false] rfl rfl (by kernel_rfl) (fun _ _ _ h => h) (Or.inr ⟨by rfl, rfl⟩) ?_ ?_
        rotate_left
        · simp only [Act.put, zSa, zSb, zSc, i64_w, i32_w]
          rfl
        refine pure_ (i := 26) (N := some 117) (v := undef) (a' := ?_) #[true, true, true, true, true, true, true, true, true, true, true, true, true, true, true, true, true, true, true, true, true, true, true, true, true, true, true, false, false] rfl rfl (by kernel_rfl) (fun _ _ _ h => h) (Or.inr ⟨by rfl, rfl⟩) ?_ ?_
        rotate_left
        · simp only [Act.put, zSa, zSb, zSc, i64_w, i32_w]
          rfl
        refine pure_ (i := 27) (N := some 118) (v := ?_) (a' := ?_) #[true, true, true, true, true, true, true, true, true, true, true, true, true, true, true, true, true, true, true, true, true, true, true, true, true, true, true, true, false] rfl rfl (by kernel_rfl) (fun _ _ _ h => h) (Or.inl ⟨by rfl, ?_⟩) ?_ ?_
        rotate_left
        · intro w'
          go_simp
          with_reducible rfl
        rotate_left
        · simp only [Act.put, zSa, zSb, zSc, i64_w, i32_w]
          rfl
        refine pure_ (i := 28) (N := some 119) (v := ?_) (a' := ?_) #[true, true, true, true, true, true, true, true, true, true, true, true, true, true, true, true, true, true, true, true, true, true, true, true, true, true, true, true, true] rfl rfl (by kernel_rfl) (fun _ _ _ h => h) (Or.inl ⟨by rfl, ?_⟩) ?_ ?_
        rotate_left
        · intro w'
          go_simp
          with_reducible rfl
        rotate_left
        · simp only [Act.put, zSa, zSb, zSc, i64_w, i32_w]
          rfl
        refine done_ (by kernel_rfl) ?_
        try go_wp2
        go_meet
        case rel => exact ⟨rfl, HS9⟩
  case rest =>
    clear HS8
    obtain ⟨rfl, HS9⟩ := hcut
    have he := HE.out
    clear HE HCN
    cases c with
    | false =>
      rw [if_neg Bool.false_ne_true] at he
      obtain rfl := zOi he
      go_wp2
      first | go_end0 | ((try simp only [Exit.inBlock, Exit.then]); refine bodyPost_ret (results_none rfl _ _ _) rfl ?_)
      exact ⟨rfl, _, HS9.out⟩
    | true =>
      rw [if_pos rfl] at he
      by_cases hpc : p < (s3.cut.length : Int)
      rotate_left
      · rw [if_neg hpc] at he; cases he
      rw [if_pos hpc] at he
      obtain rfl := zOi he
      obtain ⟨g6, c6, e6, -, -, -⟩ := Kd.R_form HS9.out.h6 (by have := P0.out; omega)
      have z6 : wc.cell? ⟨gw, 6, none⟩ = some (.slice (some ⟨g6, 0, none⟩) s3.cut.length c6) := (zKc HS9.out.hw 6).trans (congrArg some e6)
      have h6' := HS9.out.h6
      rw [e6] at h6'
      obtain ⟨hxc, hfc⟩ := Kd.R_celln false h6' p P0.out hpc
      have p1 : (0 ≤ p) = True := eq_true P0.out
      have p2 : (p < (s3.cut.length : Int)) = True := eq_true hpc
      have HF := zMk (HS9.out.put6 e6 p true)
      clear he h6' hpc e6
      go_wp2
      first | go_end0 | ((try simp only [Exit.inBlock, Exit.then]); refine bodyPost_ret (results_none rfl _ _ _) rfl ?_)
      exact ⟨rfl, _, HF.out⟩
-- RUN
theorem WkW.box51 {w0 wn W : World} {gw g : Nat} {vn : Value} {V : WkV} {s : Wk} {cells : Array Value} (h : WkW w0 wn W gw vn V s) (hg : W.heap[g]? = some (.cells cells 51 (0, 0))) (hgb : w0.heap.size ≤ g) (hgn : wn.heap.size ≤ g) (j : Nat) (u : Value) : WkW w0 wn (W.setCell ⟨g, j, none⟩ u) gw vn V s := by
  have hne : gw ≠ g := by
    rintro rfl
    have h2 := h.hw
    rw [hg] at h2
    injection h2 with h2
    injection h2 with _ h2
    exact absurd h2 (by decide)
  exact { h with hK := h.hK.far hgn _ _, hBl := below_set h.hBl hgb, hw := blk_far h.hw hne _, h1 := Kd.R_set h.h1 hg (by decide) _ _, h2 := Kd.R_set h.h2 hg (by decide) _ _, h3 := Kd.R_set h.h3 hg (by decide) _ _, hE := Kd.R_set h.hE hg (by decide) _ _, h5 := Kd.R_set h.h5 hg (by decide) _ _, h6 := Kd.R_set h.h6 hg (by decide) _ _, hB := Kd.S_set h.hB hg (by decide) _ _, hS := Kd.R_set h.hS hg (by decide) _ _ }
theorem arc_far {W : World} {g ba : Nat} {cells cb : Array Value} {t : Nat} (hb : W.heap[ba]? = some (.cells cb 51 (0, 0))) (hg : W.heap[g]? = some (.cells cells t (0, 0))) (ht : t ≠ 51) (j : Nat) (u : Value) : (W.setCell ⟨g, j, none⟩ u).heap[ba]? = some (.cells cb 51 (0, 0)) := by
  refine blk_far (p := ⟨g, j, none⟩) hb ?_ u
  rintro rfl
  rw [hg] at hb
  injection hb with hb
  injection hb with _ hb
  exact ht hb
def wkFar (s : Wk) (v : Int) (a : S51) : Option Wk :=
  if 0 ≤ a.f0 ∧ a.f0 < (s.ord.length : Int) ∧ v < (s.low.length : Int) then
    (if rd s.ord a.f0 = 0 then wkEnter s a.f0 a.f1 else some { s with low := s.low.set v.toNat (if rd s.ord a.f0 < rd s.low v then rd s.ord a.f0 else rd s.low v) })
  else none
def wkArc (s : Wk) (v : Int) (a : S51) : Option Wk :=
  if 0 ≤ a.f1 ∧ a.f1 < (s.taken.length : Int) then
    (if rdOf false s.taken a.f1 = true then some s
     else if s.edges.length < 17592186044415 then wkFar { s with taken := s.taken.set a.f1.toNat true, edges := s.edges ++ [a.f1] } v a else none)
  else none
def wkLoop (leave : Wk → Option Wk) (near : List (List S51)) : Nat → Wk → Option Wk
  | 0, _ => none
  | k + 1, s =>
    if s.stack.length = 0 then some s
    else
      let v := (rd_T51 s.stack ((s.stack.length - 1 : Nat) : Int)).f0
      if 0 ≤ v ∧ v < (s.next.length : Int) ∧ v < (near.length : Int) then
        (if rd s.next v = ((rd_L3 near v).length : Int) then (leave s).bind (wkLoop leave near k)
         else if 0 ≤ rd s.next v ∧ rd s.next v < ((rd_L3 near v).length : Int) then
           (wkArc { s with next := s.next.set v.toNat (wrap64 (rd s.next v + 1)) } v (rd_T51 (rd_L3 near v) (rd s.next v))).bind (wkLoop leave near k)
         else none)
      else none
def wkRun (leave : Wk → Option Wk) (near : List (List S51)) (k : Nat) (s : Wk) (root : Int) : Option Wk := (wkEnter s root (-1)).bind (wkLoop leave near k)
theorem wkRun.calls (leave : Wk → Option Wk) (near : List (List S51)) (k : Nat) (w0 wn w : World) (gw : Nat) (An : Option Addr) (cn : Nat) (V : WkV) (s s' : Wk) (root : Int)
    (hleave : ∀ (W : World) (V : WkV) (s s' : Wk), WkW w0 wn W gw (.slice An near.length cn) V s → leave s = some s' → Calls Try.prog 63 #[.pointer (some ⟨gw, 0, none⟩)] W fun e W' => e = .returned (.tuple #[]) ∧ ∃ V', WkW w0 wn W' gw (.slice An near.length cn) V' s')
    (nb : Nat) (okn : Nat → Prop) (hn : Kd.S (Kd.slice 51 k51) 49 wn nb okn (.slice An near.length cn) near) (h : WkW w0 wn w gw (.slice An near.length cn) V s) (he : wkRun leave near k s root = some s') :
    Calls Try.prog 45 #[.pointer (some ⟨gw, 0, none⟩), .int .i64 root] w fun e w' => e = .returned (.tuple #[]) ∧ ∃ V', WkW w0 wn w' gw (.slice An near.length cn) V' s' := by
  have hu55 := Try.underlying55
  have hu89 := Try.underlying89
  have hu51 := Try.underlying51
  have HL := zMk hleave
  have HN := zMk hn
  have HW := zMk h
  unfold wkRun at he
  obtain ⟨s1, h1, he⟩ := Option.bind_eq_some_iff.1 he
  have H1 := zMk h1
  have HE := zMk he
  clear hleave hn h h1 he
  go_enter Try.func45, Try.ntmps45
  go_wp2_with (go_at_call 62; refine (wkEnter.calls w0 wn _ gw _ V s s1 root (-1) HW.out H1.out).mono ?_; rintro e w1 ⟨rfl, vS, h1⟩; have HW1 := zMk h1; clear h1)
  clear HW H1
  go_loopg [] k (fun kq w' => ∃ (V : WkV) (s : Wk), Aside0 (WkW w0 wn w' gw (.slice An near.length cn) V s) ∧ Aside0 (wkLoop leave near kq s = some s'))
  case atStart => exact ⟨_, s1, HW1, HE⟩
  case round =>
    clear HW1 HE
    obtain ⟨V, s, HW, HE⟩ := hrel
    rcases gk with _ | k1
    · exact absurd HE.out (by simp [wkLoop])
    have he := HE.out
    clear HE
    rw [wkLoop] at he
    by_cases h0 : s.stack.length = 0
    · rw [if_pos h0] at he
      obtain rfl := zOi he
      obtain ⟨AS, cS, eS⟩ := zRs HW.out.hS
      have z9 : wr.cell? ⟨gw, 9, none⟩ = some (.slice AS s.stack.length cS) := (zKc HW.out.hw 9).trans (congrArg some eS)
      rw [h0] at z9
      go_wp2
      first | go_end0 | ((try simp only [Exit.inBlock, Exit.then]); refine bodyPost_ret (results_none rfl _ _ _) rfl ?_)
      exact ⟨rfl, _, HW.out⟩
    · rw [if_neg h0] at he
      obtain ⟨j, hj⟩ : ∃ j, s.stack.length = j + 1 := ⟨s.stack.length - 1, by omega⟩
      rw [show s.stack.length - 1 = j by omega] at he
      dsimp only at he
      obtain ⟨gs, cS, eS, -, -, -⟩ := Kd.R_form HW.out.hS (by omega)
      rw [hj] at eS
      have ES := zMk eS
      have hs := HW.out.hS
      rw [eS] at hs
      have hlm := wk_len hs
      rw [hj] at hlm
      have hmx : maxLen ≤ 9223372036854775807 := by decide
      have HMX := zMk (show j + 1 ≤ 9223372036854775807 by omega)
      have hfx := at_T51 (by have hc := (zRr hs).2.2; rw [hj] at hc; exact hc) (j : Int) (by omega) (by omega)
      obtain ⟨ad, ea, hx0, hx1⟩ := hfx
      cases ea
      simp only [zTn] at hx0 hx1
      rw [wk_add] at hx0
      obtain ⟨v, hv⟩ : ∃ v, v = (rd_T51 s.stack (j : Int)).f0 := ⟨_, rfl⟩
      rw [← hv] at hx0 he
      have XV := zMk (show wr.cell? ⟨gs, j * 2, none⟩ = some (.int .i64 v) from hx0)
      by_cases hb : 0 ≤ v ∧ v < (s.next.length : Int) ∧ v < (near.length : Int)
      rotate_left
      · rw [if_neg hb] at he; cases he
      rw [if_pos hb] at he
      have HB := zMk hb
      have HE := zMk he
      have z9 : wr.cell? ⟨gw, 9, none⟩ = some (.slice (some ⟨gs, 0, none⟩) (j + 1) cS) := (zKc HW.out.hw 9).trans (congrArg some ES.out)
      have HJ := zMk hj
      clear hb he hv hx0 hx1 hs hlm hmx eS hj h0
      go_upto_region 2 with (fail)
      clear z9
      have p7 : (0 ≤ (j : Int)) = True := eq_true (by omega)
      have p8 : ((j : Int) < (j : Int) + 1) = True := eq_true (by omega)
      have hwj : IntKind.i64.wrap (j : Int) = (j : Int) := IntWalk.i64_in _ ⟨by omega, by have := HMX.out; omega⟩
      have hw64 : wrap64 (j : Int) = (j : Int) := by have := HMX.out; unfold wrap64; omega
      have BL := zMk (zBd (Below.refl wr.heap.size wr))
      have HW2 := zMk (HW.out.below BL.out)
      refine start_ (n := 14) (S := fun w' => w'.cell? ⟨gw, 9, none⟩ = some (.slice (some ⟨gs, 0, none⟩) (j + 1) cS) ∧ w'.cell? ⟨gs, j * 2, none⟩ = some (.int .i64 v)) (ds := []) #[false, false, false, false, false, false, false, false, false, false, false, false, false, false] (by kernel_rfl) rfl rfl ⟨(zKc HW2.out.hw 9).trans (congrArg some ES.out), (Below.cell BL.out (World.block_lt_of_cell? wr _ XV.out)).trans XV.out⟩ (fun hHeld => ?_)
      generalize wr.drew = w2 at HW2 BL hHeld ⊢
      refine pure_ (i := 0) (N := some 15) (v := ?_) (a' := ?_) #[true, false, false, false, false, false, false, false, false, false, false, false, false, false] rfl rfl (by kernel_rfl) (fun _ _ _ h => h) (Or.inl ⟨by rfl, ?_⟩) ?_ ?_
      rotate_left
      · intro w'
        go_simp
        with_reducible rfl
      rotate_left
      · simp only [Act.put, zSa, zSb, zSc, i64_w, i32_w]
        rfl
      refine pure_ (i := 1) (N := some 16) (v := ?_) (a' := ?_) #[true, true, false, false, false, false, false, false, false, false, false, false, false, false] rfl rfl (by kernel_rfl) (fun _ _ _ h => h) (Or.inl ⟨by rfl, ?_⟩) ?_ ?_
      rotate_left
      · intro w'
        go_simp
        with_reducible rfl
      rotate_left
      · simp only [Act.put, zSa, zSb, zSc, i64_w, i32_w]
        rfl
      refine pure_ (i := 2) (N := some 17) (v := ?_) (a' := ?_) #[true, true, true, false, false, false, false, false, false, false, false, false, false, false] rfl rfl (by kernel_rfl) (fun _ _ _ h => h) (Or.inl ⟨by rfl, ?_⟩) ?_ ?_
      rotate_left
      · intro w'
        go_simp
        with_reducible rfl
      rotate_left
      · simp only [Act.put, zSa, zSb, zSc, i64_w, i32_w]
        rfl
      refine pure_ (i := 4) (N := some 19) (v := ?_) (a' := ?_) #[true, true, true, false, true, false, false, false, false, false, false, false, false, false] rfl rfl (by kernel_rfl) (fun _ _ _ h => h) (Or.inl ⟨by rfl, ?_⟩) ?_ ?_
      rotate_left
      · intro w'
        go_simp
        with_reducible rfl
      rotate_left
      · simp only [Act.put, zSa, zSb, zSc, i64_w, i32_w]
        rfl
      refine pure_ (i := 5) (N := some 20) (v := ?_) (a' := ?_) #[true, true, true, false, true, true, false, false, false, false, false, false, false, false] rfl rfl (by kernel_rfl) (fun _ _ _ h => h) (Or.inl ⟨by rfl, ?_⟩) ?_ ?_
      rotate_left
      · intro w'
        go_simp
        with_reducible rfl
      rotate_left
      · simp only [Act.put, zSa, zSb, zSc, i64_w, i32_w]
        rfl
      refine pure_ (i := 6) (N := some 21) (v := ?_) (a' := ?_) #[true, true, true, false, true, true, true, false, false, false, false, false, false, false] rfl rfl (by kernel_rfl) (fun _ _ _ h => h) (Or.inl ⟨by rfl, ?_⟩) ?_ ?_
      rotate_left
      · intro w'
        go_simp
        with_reducible rfl
      rotate_left
      · simp only [Act.put, zSa, zSb, zSc, i64_w, i32_w]
        rfl
      refine take_ (i := 3) (N := some 18) (v := ?_) (a' := ?_) #[true, true, true, true, true, true, true, false, false, false, false, false, false, false] rfl rfl (by kernel_rfl) (fun _ _ _ h => h) (Or.inl ⟨by rfl, ?_⟩) hHeld ?_ ?_
      rotate_left
      · rintro w' ⟨s0, s1⟩
        go_simp
        with_reducible rfl
      rotate_left
      · simp only [Act.put, zSa, zSb, zSc, i64_w, i32_w]
        rfl
      refine take_ (i := 7) (N := some 22) (v := ?_) (a' := ?_) #[true, true, true, true, true, true, true, true, false, false, false, false, false, false] rfl rfl (by kernel_rfl) (fun _ _ _ h => h) (Or.inl ⟨by rfl, ?_⟩) hHeld ?_ ?_
      rotate_left
      · rintro w' ⟨s0, s1⟩
        go_simp
        with_reducible rfl
      rotate_left
      · simp only [Act.put, zSa, zSb, zSc, i64_w, i32_w]
        rfl
      refine pure_ (i := 8) (N := some 23) (v := ?_) (a' := ?_) #[true, true, true, true, true, true, true, true, true, false, false, false, false, false] rfl rfl (by kernel_rfl) (fun _ _ _ h => h) (Or.inl ⟨by rfl, ?_⟩) ?_ ?_
      rotate_left
      · intro w'
        go_simp
        with_reducible rfl
      rotate_left
      · simp only [Act.put, zSa, zSb, zSc, i64_w, i32_w]
        rfl
      refine pure_ (i := 9) (N := some 24) (v := ?_) (a' := ?_) #[true, true, true, true, true, true, true, true, true, true, false, false, false, false] rfl rfl (by kernel_rfl) (fun _ _ _ h => h) (Or.inl ⟨by rfl, ?_⟩) ?_ ?_
      rotate_left
      · intro w'
        go_simp
        with_reducible rfl
      rotate_left
      · simp only [Act.put, zSa, zSb, zSc, i64_w, i32_w]
        rfl
      refine pure_ (i := 10) (N := some 25) (v := ?_) (a' := ?_) #[true, true, true, true, true, true, true, true, true, true, true, false, false, false] rfl rfl (by kernel_rfl) (fun _ _ _ h => h) (Or.inl ⟨by rfl, ?_⟩) ?_ ?_
      rotate_left
      · intro w'
        go_simp
        with_reducible rfl
      rotate_left
      · simp only [Act.put, zSa, zSb, zSc, i64_w, i32_w]
        rfl
      refine pure_ (i := 11) (N := some 26) (v := ?_) (a' := ?_) #[true, true, true, true, true, true, true, true, true, true, true, true, false, false] rfl rfl (by kernel_rfl) (fun _ _ _ h => h) (Or.inl ⟨by rfl, ?_⟩) ?_ ?_
      rotate_left
      · intro w'
        go_simp
        with_reducible rfl
      rotate_left
      · simp only [Act.put, zSa, zSb, zSc, i64_w, i32_w]
        rfl
      refine take_ (i := 12) (N := some 27) (v := ?_) (a' := ?_) #[true, true, true, true, true, true, true, true, true, true, true, true, true, false] rfl rfl (by kernel_rfl) (fun _ _ _ h => h) (Or.inl ⟨by rfl, ?_⟩) hHeld ?_ ?_
      rotate_left
      · rintro w' ⟨s0, s1⟩
        go_simp
        with_reducible rfl
      rotate_left
      · simp only [Act.put, zSa, zSb, zSc, i64_w, i32_w]
        rfl
      refine pure_ (i := 13) (N := some 4) (v := ?_) (a' := ?_) #[true, true, true, true, true, true, true, true, true, true, true, true, true, true] rfl rfl (by kernel_rfl) (fun _ _ _ h => h) (Or.inl ⟨by rfl, ?_⟩) ?_ ?_
      rotate_left
      · intro w'
        go_simp
        with_reducible rfl
      rotate_left
      · simp only [Act.put, zSa, zSb, zSc, i64_w, i32_w]
        rfl
      refine done_ (by kernel_rfl) ?_
      clear p7 p8 hwj hw64 XV BL HW
      obtain ⟨g3, c3, e3, -, -, -⟩ := Kd.R_form HW2.out.h3 (by have := HB.out; omega)
      have E3 := zMk e3
      clear e3
      go_upto_region 3 with (fail)
      have HW3 := zMk (HW2.out.below (zBd (Below.refl w2.heap.size w2)))
      have h3' := HW3.out.h3
      rw [E3.out] at h3'
      obtain ⟨hxn, -⟩ := Kd.R_celln (0 : Int) h3' v HB.out.1 HB.out.2.1
      have HXN := zMk (show w2.drew.cell? ⟨g3, v.toNat, none⟩ = some (.int .i64 (rd s.next v)) from hxn)
      obtain ⟨adn, Ai, ci, ea, hcl, -, hCi⟩ := at_L3 (HW3.out.near HN.out) v HB.out.1 HB.out.2.2
      cases ea
      have HCL := zMk hcl
      have he := HE.out
      clear HE
      generalize rd_L3 near v = L at HCL hCi he
      have HCI := zMk hCi
      have HE := zMk he
      have p1 : (0 ≤ v) = True := eq_true HB.out.1
      have p2 : (v < (s.next.length : Int)) = True := eq_true HB.out.2.1
      have p3 : (v < (near.length : Int)) = True := eq_true HB.out.2.2
      clear h3' hxn hcl hCi he
      refine start_ (n := 16) (S := fun w' => w'.cell? ⟨gw, 3, none⟩ = some (.slice (some ⟨g3, 0, none⟩) s.next.length c3) ∧ w'.cell? ⟨g3, v.toNat, none⟩ = some (.int .i64 (rd s.next v)) ∧ w'.cell? ⟨gw, 0, none⟩ = some (.slice (some adn) near.length cn) ∧ w'.cell? (adn.add v.toNat) = some (.slice Ai L.length ci)) (ds := []) #[false, false, false, false, false, false, false, false, false, false, false, false, false, false, false, false] (by kernel_rfl) rfl rfl ⟨(zKc HW3.out.hw 3).trans (congrArg some E3.out), HXN.out, (zKc HW3.out.hw 0).trans rfl, HCL.out⟩ (fun hHeld => ?_)
      generalize w2.drew = w3 at HW3 HXN HCL HCI hHeld ⊢
      refine pure_ (i := 0) (N := some 28) (v := ?_) (a' := ?_) #[true, false, false, false, false, false, false, false, false, false, false, false, false, false, false, false] rfl rfl (by kernel_rfl) (fun _ _ _ h => h) (Or.inl ⟨by rfl, ?_⟩) ?_ ?_
      rotate_left
      · intro w'
        go_simp
        with_reducible rfl
      rotate_left
      · simp only [Act.put, zSa, zSb, zSc, i64_w, i32_w]
        rfl
      refine pure_ (i := 1) (N := some 29) (v := ?_) (a' := ?_) #[true, true, false, false, false, false, false, false, false, false, false, false, false, false, false, false] rfl rfl (by kernel_rfl) (fun _ _ _ h => h) (Or.inl ⟨by rfl, ?_⟩) ?_ ?_
      rotate_left
      · intro w'
        go_simp
        with_reducible rfl
      rotate_left
      · simp only [Act.put, zSa, zSb, zSc, i64_w, i32_w]
        rfl
      refine pure_ (i := 2) (N := some 30) (v := ?_) (a' := ?_) #[true, true, true, false, false, false, false, false, false, false, false, false, false, false, false, false] rfl rfl (by kernel_rfl) (fun _ _ _ h => h) (Or.inl ⟨by rfl, ?_⟩) ?_ ?_
      rotate_left
      · intro w'
        go_simp
        with_reducible rfl
      rotate_left
      · simp only [Act.put, zSa, zSb, zSc, i64_w, i32_w]
        rfl
      refine pure_ (i := 4) (N := some 32) (v := ?_) (a' := ?_) #[true, true, true, false, true, false, false, false, false, false, false, false, false, false, false, false] rfl rfl (by kernel_rfl) (fun _ _ _ h => h) (Or.inl ⟨by rfl, ?_⟩) ?_ ?_
      rotate_left
      · intro w'
        go_simp
        with_reducible rfl
      rotate_left
      · simp only [Act.put, zSa, zSb, zSc, i64_w, i32_w]
        rfl
      refine pure_ (i := 7) (N := some 35) (v := ?_) (a' := ?_) #[true, true, true, false, true, false, false, true, false, false, false, false, false, false, false, false] rfl rfl (by kernel_rfl) (fun _ _ _ h => h) (Or.inl ⟨by rfl, ?_⟩) ?_ ?_
      rotate_left
      · intro w'
        go_simp
        with_reducible rfl
      rotate_left
      · simp only [Act.put, zSa, zSb, zSc, i64_w, i32_w]
        rfl
      refine pure_ (i := 8) (N := some 36) (v := ?_) (a' := ?_) #[true, true, true, false, true, false, false, true, true, false, false, false, false, false, false, false] rfl rfl (by kernel_rfl) (fun _ _ _ h => h) (Or.inl ⟨by rfl, ?_⟩) ?_ ?_
      rotate_left
      · intro w'
        go_simp
        with_reducible rfl
      rotate_left
      · simp only [Act.put, zSa, zSb, zSc, i64_w, i32_w]
        rfl
      refine pure_ (i := 9) (N := some 37) (v := ?_) (a' := ?_) #[true, true, true, false, true, false, false, true, true, true, false, false, false, false, false, false] rfl rfl (by kernel_rfl) (fun _ _ _ h => h) (Or.inl ⟨by rfl, ?_⟩) ?_ ?_
      rotate_left
      · intro w'
        go_simp
        with_reducible rfl
      rotate_left
      · simp only [Act.put, zSa, zSb, zSc, i64_w, i32_w]
        rfl
      refine pure_ (i := 11) (N := some 39) (v := ?_) (a' := ?_) #[true, true, true, false, true, false, false, true, true, true, false, true, false, false, false, false] rfl rfl (by kernel_rfl) (fun _ _ _ h => h) (Or.inl ⟨by rfl, ?_⟩) ?_ ?_
      rotate_left
      · intro w'
        go_simp
        with_reducible rfl
      rotate_left
      · simp only [Act.put, zSa, zSb, zSc, i64_w, i32_w]
        rfl
      refine take_ (i := 3) (N := some 31) (v := ?_) (a' := ?_) #[true, true, true, true, true, false, false, true, true, true, false, true, false, false, false, false] rfl rfl (by kernel_rfl) (fun _ _ _ h => h) (Or.inl ⟨by rfl, ?_⟩) hHeld ?_ ?_
      rotate_left
      · rintro w' ⟨s0, s1, s2, s3⟩
        go_simp
        with_reducible rfl
      rotate_left
      · simp only [Act.put, zSa, zSb, zSc, i64_w, i32_w]
        rfl
      refine pure_ (i := 5) (N := some 33) (v := ?_) (a' := ?_) #[true, true, true, true, true, true, false, true, true, true, false, true, false, false, false, false] rfl rfl (by kernel_rfl) (fun _ _ _ h => h) (Or.inl ⟨by rfl, ?_⟩) ?_ ?_
      rotate_left
      · intro w'
        go_simp
        with_reducible rfl
      rotate_left
      · simp only [Act.put, zSa, zSb, zSc, i64_w, i32_w]
        rfl
      refine take_ (i := 6) (N := some 34) (v := ?_) (a' := ?_) #[true, true, true, true, true, true, true, true, true, true, false, true, false, false, false, false] rfl rfl (by kernel_rfl) (fun _ _ _ h => h) (Or.inl ⟨by rfl, ?_⟩) hHeld ?_ ?_
      rotate_left
      · rintro w' ⟨s0, s1, s2, s3⟩
        go_simp
        with_reducible rfl
      rotate_left
      · simp only [Act.put, zSa, zSb, zSc, i64_w, i32_w]
        rfl
      refine take_ (i := 10) (N := some 38) (v := ?_) (a' := ?_) #[true, true, true, true, true, true, true, true, true, true, true, true, false, false, false, false] rfl rfl (by kernel_rfl) (fun _ _ _ h => h) (Or.inl ⟨by rfl, ?_⟩) hHeld ?_ ?_
      rotate_left
      · rintro w' ⟨s0, s1, s2, s3⟩
        go_simp
        with_reducible rfl
      rotate_left
      · simp only [Act.put, zSa, zSb, zSc, i64_w, i32_w]
        rfl
      refine pure_ (i := 12) (N := some 40) (v := ?_) (a' := ?_) #[true, true, true, true, true, true, true, true, true, true, true, true, true, false, false, false] rfl rfl (by kernel_rfl) (fun _ _ _ h => h) (Or.inl ⟨by rfl, ?_⟩) ?_ ?_
      rotate_left
      · intro w'
        go_simp
        with_reducible rfl
      rotate_left
      · simp only [Act.put, zSa, zSb, zSc, i64_w, i32_w]
        rfl
      refine take_ (i := 13) (N := some 41) (v := ?_) (a' := ?_) #[true, true, true, true, true, true, true, true, true, true, true, true, true, true, false, false] rfl rfl (by kernel_rfl) (fun _ _ _ h => h) (Or.inl ⟨by rfl, ?_⟩) hHeld ?_ ?_
      rotate_left
      · rintro w' ⟨s0, s1, s2, s3⟩
        go_simp
        with_reducible rfl
      rotate_left
      · simp only [Act.put, zSa, zSb, zSc, i64_w, i32_w]
        rfl
      refine pure_ (i := 14) (N := some 42) (v := ?_) (a' := ?_) #[true, true, true, true, true, true, true, true, true, true, true, true, true, true, true, false] rfl rfl (by kernel_rfl) (fun _ _ _ h => h) (Or.inl ⟨by rfl, ?_⟩) ?_ ?_
      rotate_left
      · intro w'
        go_simp
        with_reducible rfl
      rotate_left
      · simp only [Act.put, zSa, zSb, zSc, i64_w, i32_w]
        rfl
      refine pure_ (i := 15) (N := some 43) (v := ?_) (a' := ?_) #[true, true, true, true, true, true, true, true, true, true, true, true, true, true, true, true] rfl rfl (by kernel_rfl) (fun _ _ _ h => h) (Or.inl ⟨by rfl, ?_⟩) ?_ ?_
      rotate_left
      · intro w'
        go_simp
        with_reducible rfl
      rotate_left
      · simp only [Act.put, zSa, zSb, zSc, i64_w, i32_w]
        rfl
      refine done_ (by kernel_rfl) ?_
      clear HXN HW2
      have he := HE.out
      clear HE
      by_cases hnl : rd s.next v = (L.length : Int)
      · rw [if_pos hnl] at he
        obtain ⟨s2, h2, he⟩ := Option.bind_eq_some_iff.1 he
        have H2 := zMk h2
        have HE := zMk he
        have hd : (rd s.next v == (L.length : Int)) = true := beq_iff_eq.mpr hnl
        clear h2 he hnl
        go_upto_if 43 with (fail)
        first | rw [hd] | skip
        clear hd
        go_wp2_with (go_at_call 63; refine (HL.out _ _ _ _ HW3.out H2.out).mono ?_; rintro e w4 ⟨rfl, V4, h4⟩; have HW4 := zMk h4; clear h4)
        go_roundg k1
        case measure => omega
        case rel => exact ⟨V4, s2, HW4, HE⟩
      · rw [if_neg hnl] at he
        by_cases hnr : 0 ≤ rd s.next v ∧ rd s.next v < (L.length : Int)
        rotate_left
        · rw [if_neg hnr] at he; cases he
        rw [if_pos hnr] at he
        obtain ⟨s2, h2, he⟩ := Option.bind_eq_some_iff.1 he
        have hd : (rd s.next v == (L.length : Int)) = false := beq_eq_false_iff_ne.mpr hnl
        go_upto_if 43 with (fail)
        first | rw [hd] | skip
        obtain ⟨ad2, ea, hx0, hx1⟩ := at_T51 HCI.out (rd s.next v) hnr.1 hnr.2
        cases ea
        obtain ⟨a, ha⟩ : ∃ a, a = rd_T51 L (rd s.next v) := ⟨_, rfl⟩
        rw [← ha] at hx0 hx1 h2
        have X0 := zMk (hx0)
        have X1 := zMk (hx1)
        have H2 := zMk h2
        have HE := zMk he
        have HNR := zMk hnr
        have q1 : (0 ≤ rd s.next v) = True := eq_true hnr.1
        have q2 : (rd s.next v < (L.length : Int)) = True := eq_true hnr.2
        clear hd hx0 hx1 h2 he hnr hnl ha
        go_upto_region 5 with (fail)
        have BL := zMk (zBd (Below.refl w3.heap.size w3))
        have HW5 := zMk (HW3.out.below BL.out)
        have h3' := HW5.out.h3
        rw [E3.out] at h3'
        obtain ⟨hxn, -⟩ := Kd.R_celln (0 : Int) h3' v HB.out.1 HB.out.2.1
        have HXN := zMk (show w3.drew.cell? ⟨g3, v.toNat, none⟩ = some (.int .i64 (rd s.next v)) from hxn)
        replace HCL := zMk ((BL.out.cell (World.block_lt_of_cell? w3 _ HCL.out)).trans HCL.out)
        have XA := zMk ((BL.out.cell (World.block_lt_of_cell? w3 _ X0.out)).trans X0.out)
        have XB := zMk ((BL.out.cell (World.block_lt_of_cell? w3 _ X1.out)).trans X1.out)
        clear h3' hxn
        refine start_ (n := 18) (S := fun w' => w'.cell? ⟨gw, 3, none⟩ = some (.slice (some ⟨g3, 0, none⟩) s.next.length c3) ∧ w'.cell? ⟨g3, v.toNat, none⟩ = some (.int .i64 (rd s.next v)) ∧ w'.cell? ⟨gw, 0, none⟩ = some (.slice (some adn) near.length cn) ∧ w'.cell? (adn.add v.toNat) = some (.slice (some ad2) L.length ci) ∧ w'.cell? (ad2.add ((rd s.next v).toNat * 2)) = some (.int .i64 a.f0) ∧ w'.cell? ⟨(ad2.add ((rd s.next v).toNat * 2)).block, (ad2.add ((rd s.next v).toNat * 2)).off + 1, none⟩ = some (.int .i64 a.f1)) (ds := [17]) #[false, false, false, false, false, false, false, false, false, false, false, false, false, false, false, false, false, false] (by kernel_rfl) rfl rfl ⟨(zKc HW5.out.hw 3).trans (congrArg some E3.out), HXN.out, (zKc HW5.out.hw 0).trans rfl, HCL.out, XA.out, XB.out⟩ (fun hHeld => ?_)
        generalize w3.drew = w5 at HW5 BL HXN HCL XA XB hHeld ⊢
        refine pure_ (i := 0) (N := some 46) (v := ?_) (a' := ?_) #[true, false, false, false, false, false, false, false, false, false, false, false, false, false, false, false, false, false] rfl rfl (by kernel_rfl) (fun _ _ _ h => h) (Or.inl ⟨by rfl, ?_⟩) ?_ ?_
        rotate_left
        · intro w'
          go_simp
          with_reducible rfl
        rotate_left
        · simp only [Act.put, zSa, zSb, zSc, i64_w, i32_w]
          rfl
        refine pure_ (i := 1) (N := some 47) (v := ?_) (a' := ?_) #[true, true, false, false, false, false, false, false, false, false, false, false, false, false, false, false, false, false] rfl rfl (by kernel_rfl) (fun _ _ _ h => h) (Or.inl ⟨by rfl, ?_⟩) ?_ ?_
        rotate_left
        · intro w'
          go_simp
          with_reducible rfl
        rotate_left
        · simp only [Act.put, zSa, zSb, zSc, i64_w, i32_w]
          rfl
        refine pure_ (i := 2) (N := some 48) (v := ?_) (a' := ?_) #[true, true, true, false, false, false, false, false, false, false, false, false, false, false, false, false, false, false] rfl rfl (by kernel_rfl) (fun _ _ _ h => h) (Or.inl ⟨by rfl, ?_⟩) ?_ ?_
        rotate_left
        · intro w'
          go_simp
          with_reducible rfl
        rotate_left
        · simp only [Act.put, zSa, zSb, zSc, i64_w, i32_w]
          rfl
        refine pure_ (i := 4) (N := some 50) (v := ?_) (a' := ?_) #[true, true, true, false, true, false, false, false, false, false, false, false, false, false, false, false, false, false] rfl rfl (by kernel_rfl) (fun _ _ _ h => h) (Or.inl ⟨by rfl, ?_⟩) ?_ ?_
        rotate_left
        · intro w'
          go_simp
          with_reducible rfl
        rotate_left
        · simp only [Act.put, zSa, zSb, zSc, i64_w, i32_w]
          rfl
        refine pure_ (i := 7) (N := some 53) (v := ?_) (a' := ?_) #[true, true, true, false, true, false, false, true, false, false, false, false, false, false, false, false, false, false] rfl rfl (by kernel_rfl) (fun _ _ _ h => h) (Or.inl ⟨by rfl, ?_⟩) ?_ ?_
        rotate_left
        · intro w'
          go_simp
          with_reducible rfl
        rotate_left
        · simp only [Act.put, zSa, zSb, zSc, i64_w, i32_w]
          rfl
        refine pure_ (i := 8) (N := some 54) (v := ?_) (a' := ?_) #[true, true, true, false, true, false, false, true, true, false, false, false, false, false, false, false, false, false] rfl rfl (by kernel_rfl) (fun _ _ _ h => h) (Or.inl ⟨by rfl, ?_⟩) ?_ ?_
        rotate_left
        · intro w'
          go_simp
          with_reducible rfl
        rotate_left
        · simp only [Act.put, zSa, zSb, zSc, i64_w, i32_w]
          rfl
        refine pure_ (i := 9) (N := some 55) (v := ?_) (a' := ?_) #[true, true, true, false, true, false, false, true, true, true, false, false, false, false, false, false, false, false] rfl rfl (by kernel_rfl) (fun _ _ _ h => h) (Or.inl ⟨by rfl, ?_⟩) ?_ ?_
        rotate_left
        · intro w'
          go_simp
          with_reducible rfl
        rotate_left
        · simp only [Act.put, zSa, zSb, zSc, i64_w, i32_w]
          rfl
        refine pure_ (i := 11) (N := some 57) (v := ?_) (a' := ?_) #[true, true, true, false, true, false, false, true, true, true, false, true, false, false, false, false, false, false] rfl rfl (by kernel_rfl) (fun _ _ _ h => h) (Or.inl ⟨by rfl, ?_⟩) ?_ ?_
        rotate_left
        · intro w'
          go_simp
          with_reducible rfl
        rotate_left
        · simp only [Act.put, zSa, zSb, zSc, i64_w, i32_w]
          rfl
        refine take_ (i := 3) (N := some 49) (v := ?_) (a' := ?_) #[true, true, true, true, true, false, false, true, true, true, false, true, false, false, false, false, false, false] rfl rfl (by kernel_rfl) (fun _ _ _ h => h) (Or.inl ⟨by rfl, ?_⟩) hHeld ?_ ?_
        rotate_left
        · rintro w' ⟨s0, s1, s2, s3, s4, s5⟩
          go_simp
          with_reducible rfl
        rotate_left
        · simp only [Act.put, zSa, zSb, zSc, i64_w, i32_w]
          rfl
        refine pure_ (i := 5) (N := some 51) (v := ?_) (a' := ?_) #[true, true, true, true, true, true, false, true, true, true, false, true, false, false, false, false, false, false] rfl rfl (by kernel_rfl) (fun _ _ _ h => h) (Or.inl ⟨by rfl, ?_⟩) ?_ ?_
        rotate_left
        · intro w'
          go_simp
          with_reducible rfl
        rotate_left
        · simp only [Act.put, zSa, zSb, zSc, i64_w, i32_w]
          rfl
        refine take_ (i := 6) (N := some 52) (v := ?_) (a' := ?_) #[true, true, true, true, true, true, true, true, true, true, false, true, false, false, false, false, false, false] rfl rfl (by kernel_rfl) (fun _ _ _ h => h) (Or.inl ⟨by rfl, ?_⟩) hHeld ?_ ?_
        rotate_left
        · rintro w' ⟨s0, s1, s2, s3, s4, s5⟩
          go_simp
          with_reducible rfl
        rotate_left
        · simp only [Act.put, zSa, zSb, zSc, i64_w, i32_w]
          rfl
        refine take_ (i := 10) (N := some 56) (v := ?_) (a' := ?_) #[true, true, true, true, true, true, true, true, true, true, true, true, false, false, false, false, false, false] rfl rfl (by kernel_rfl) (fun _ _ _ h => h) (Or.inl ⟨by rfl, ?_⟩) hHeld ?_ ?_
        rotate_left
        · rintro w' ⟨s0, s1, s2, s3, s4, s5⟩
          go_simp
          with_reducible rfl
        rotate_left
        · simp only [Act.put, zSa, zSb, zSc, i64_w, i32_w]
          rfl
        refine pure_ (i := 12) (N := some 58) (v := ?_) (a' := ?_) #[true, true, true, true, true, true, true, true, true, true, true, true, true, false, false, false, false, false] rfl rfl (by kernel_rfl) (fun _ _ _ h => h) (Or.inl ⟨by rfl, ?_⟩) ?_ ?_
        rotate_left
        · intro w'
          go_simp
          with_reducible rfl
        rotate_left
        · simp only [Act.put, zSa, zSb, zSc, i64_w, i32_w]
          rfl
        refine take_ (i := 13) (N := some 59) (v := ?_) (a' := ?_) #[true, true, true, true, true, true, true, true, true, true, true, true, true, true, false, false, false, false] rfl rfl (by kernel_rfl) (fun _ _ _ h => h) (Or.inl ⟨by rfl, ?_⟩) hHeld ?_ ?_
        rotate_left
        · rintro w' ⟨s0, s1, s2, s3, s4, s5⟩
          go_simp
          with_reducible rfl
        rotate_left
        · simp only [Act.put, zSa, zSb, zSc, i64_w, i32_w]
          rfl
        refine pure_ (i := 14) (N := some 60) (v := ?_) (a' := ?_) #[true, true, true, true, true, true, true, true, true, true, true, true, true, true, true, false, false, false] rfl rfl (by kernel_rfl) (fun _ _ _ h => h) (Or.inl ⟨by rfl, ?_⟩) ?_ ?_
        rotate_left
        · intro w'
          go_simp
          with_reducible rfl
        rotate_left
        · simp only [Act.put, zSa, zSb, zSc, i64_w, i32_w]
          rfl
        refine take_ (i := 15) (N := some 61) (v := ?_) (a' := ?_) #[true, true, true, true, true, true, true, true, true, true, true, true, true, true, true, true, false, false] rfl rfl (by kernel_rfl) (fun _ _ _ h => h) (Or.inl ⟨by rfl, ?_⟩) hHeld ?_ ?_
        rotate_left
        · rintro w' ⟨s0, s1, s2, s3, s4, s5⟩
          go_simp
          with_reducible rfl
        rotate_left
        · simp only [Act.put, zSa, zSb, zSc, i64_w, i32_w]
          rfl
        refine one_ (i := 16) (N := some 5) #[true, true, true, true, true, true, true, true, true, true, true, true, true, true, true, true, true, false] rfl rfl (by kernel_rfl) (by decide) (fun K hK => ?_)
        refine box_step ?hg (N := 5) ?hd (cs := #[.int .i64 0, .int .i64 0]) (t := 51) ?hr ?_; (case hd => rfl); (case hg => rfl); (case hr => first | (go_simp; done) | (go_simp; rfl))
        intro ba hg wb hbox hb
        have HBA := zMk (show w0.heap.size ≤ ba ∧ wn.heap.size ≤ ba from ⟨hg ▸ zBs HW5.out.hBl, hg ▸ HW5.out.hK.1⟩)
        replace HW5 := zMk (HW5.out.below hb)
        have BL5 := zMk hb
        have BA := zMk hbox
        clear hg hbox hb
        refine hK.out _ _ ⟨(zKc HW5.out.hw 3).trans (congrArg some E3.out), (Below.cell BL5.out (World.block_lt_of_cell? w5 _ HXN.out)).trans HXN.out, (zKc HW5.out.hw 0).trans rfl, (Below.cell BL5.out (World.block_lt_of_cell? w5 _ HCL.out)).trans HCL.out, (Below.cell BL5.out (World.block_lt_of_cell? w5 _ XA.out)).trans XA.out, (Below.cell BL5.out (World.block_lt_of_cell? w5 _ XB.out)).trans XB.out⟩ (fun hHeld => ?_)
        clear hK K
        refine norm_ (a' := ?_) ?_ ?_
        rotate_left
        · show Act.put _ (some 5) _ = _
          simp only [Act.put, zSa, zSb, zSc, i64_w, i32_w]
          rfl
        refine last_ (i := 17) (N := none) #[true, true, true, true, true, true, true, true, true, true, true, true, true, true, true, true, true, true] rfl rfl (by kernel_rfl) (by decide) (fun K hK => ?_)
        have hb0 : wb.cell? ⟨ba, 0, none⟩ = some (.int .i64 0) := (zKc BA.out 0).trans rfl
        have hb1 : wb.cell? ⟨ba, 1, none⟩ = some (.int .i64 0) := (zKc BA.out 1).trans rfl
        have hf0 := zKf BA.out 0
        have hf1 := zKf BA.out 1
        refine skip_ (w1 := ?_) (by rfl) rfl ?_ ?_
        rotate_left
        · go_simp
          rfl
        refine hK.out _ _ ?_
        clear hK K
        refine done_ (by kernel_rfl) ?_
        have B1 := blk_put (cs := #[.int .i64 0, .int .i64 0]) BA.out 0 (.int .i64 a.f0) rfl
        have HW6 := zMk ((HW5.out.box51 BA.out HBA.out.1 HBA.out.2 0 (.int .i64 a.f0)).box51 B1 HBA.out.1 HBA.out.2 1 (.int .i64 a.f1))
        have BA6 := zMk (blk_put (cs := #[.int .i64 a.f0, .int .i64 0]) B1 1 (.int .i64 a.f1) rfl)
        clear B1 BA HW5 HXN HCL HCI XA XB X0 X1 BL BL5 hb0 hb1 hf0 hf1 HW3 p3 q1 q2
        generalize ((wb.setCell ⟨ba, 0, none⟩ (.int .i64 a.f0)).setCell ⟨ba, 1, none⟩ (.int .i64 a.f1)) = w6 at HW6 BA6 ⊢
        have h3' := HW6.out.h3
        rw [E3.out] at h3'
        obtain ⟨hxn, hfn⟩ := Kd.R_celln (0 : Int) h3' v HB.out.1 HB.out.2.1
        have zn : w6.cell? ⟨g3, v.toNat, none⟩ = some (.int .i64 (rd s.next v)) := hxn
        have z3 : w6.cell? ⟨gw, 3, none⟩ = some (.slice (some ⟨g3, 0, none⟩) s.next.length c3) := (zKc HW6.out.hw 3).trans (congrArg some E3.out)
        clear hxn h3'
        go_upto_region 7 with (fail)
        obtain ⟨t3, ht3⟩ := Kd.R_typed HW6.out.h3 g3 (by rw [E3.out]; exact wk_own)
        have BA7 := zMk (arc_far BA6.out ht3 (by decide) v.toNat (.int .i64 (wrap64 (rd s.next v + 1))))
        have HW7 := zMk (HW6.out.put3 E3.out v (wrap64 (rd s.next v + 1)))
        clear zn z3 hfn HW6 BA6 ht3
        generalize w6.setCell ⟨g3, v.toNat, none⟩ (.int .i64 (wrap64 (rd s.next v + 1))) = w7 at HW7 BA7 ⊢
        have h2 := H2.out
        clear H2
        generalize hsn : ({ s with next := s.next.set v.toNat (wrap64 (rd s.next v + 1)) } : Wk) = s1 at HW7 h2
        unfold wkArc at h2
        by_cases hta : 0 ≤ a.f1 ∧ a.f1 < (s1.taken.length : Int)
        rotate_left
        · rw [if_neg hta] at h2; cases h2
        rw [if_pos hta] at h2
        obtain ⟨g5, c5, e5, -, -, -⟩ := Kd.R_form HW7.out.h5 (by omega)
        have E5 := zMk e5
        have HTA := zMk hta
        have H2 := zMk h2
        have HW8 := zMk (HW7.out.below (zBd (Below.refl w7.heap.size w7)))
        have BA8 := zMk (zKd BA7.out)
        have h5' := HW8.out.h5
        rw [e5] at h5'
        obtain ⟨hxt, -⟩ := Kd.R_celln false h5' a.f1 hta.1 hta.2
        have HXT := zMk (show w7.drew.cell? ⟨g5, a.f1.toNat, none⟩ = some (.bool (rdOf false s1.taken a.f1)) from hxt)
        have q1 : (0 ≤ a.f1) = True := eq_true hta.1
        have q2 : (a.f1 < (s1.taken.length : Int)) = True := eq_true hta.2
        clear h2 hta e5 h5' hxt hsn
        refine start_ (n := 8) (S := fun w' => w'.cell? ⟨gw, 5, none⟩ = some (.slice (some ⟨g5, 0, none⟩) s1.taken.length c5) ∧ w'.cell? ⟨ba, 1, none⟩ = some (.int .i64 a.f1) ∧ w'.cell? ⟨g5, a.f1.toNat, none⟩ = some (.bool (rdOf false s1.taken a.f1))) (ds := []) #[false, false, false, false, false, false, false, false] (by kernel_rfl) rfl rfl ⟨(zKc HW8.out.hw 5).trans (congrArg some E5.out), (zKc BA8.out 1).trans rfl, HXT.out⟩ (fun hHeld => ?_)
        generalize w7.drew = w8 at HW8 BA8 HXT hHeld ⊢
        refine pure_ (i := 0) (N := some 71) (v := ?_) (a' := ?_) #[true, false, false, false, false, false, false, false] rfl rfl (by kernel_rfl) (fun _ _ _ h => h) (Or.inl ⟨by rfl, ?_⟩) ?_ ?_
        rotate_left
        · intro w'
          go_simp
          with_reducible rfl
        rotate_left
        · simp only [Act.put, zSa, zSb, zSc, i64_w, i32_w]
          rfl
        refine pure_ (i := 1) (N := some 72) (v := ?_) (a' := ?_) #[true, true, false, false, false, false, false, false] rfl rfl (by kernel_rfl) (fun _ _ _ h => h) (Or.inl ⟨by rfl, ?_⟩) ?_ ?_
        rotate_left
        · intro w'
          go_simp
          with_reducible rfl
        rotate_left
        · simp only [Act.put, zSa, zSb, zSc, i64_w, i32_w]
          rfl
        refine pure_ (i := 2) (N := some 73) (v := ?_) (a' := ?_) #[true, true, true, false, false, false, false, false] rfl rfl (by kernel_rfl) (fun _ _ _ h => h) (Or.inl ⟨by rfl, ?_⟩) ?_ ?_
        rotate_left
        · intro w'
          go_simp
          with_reducible rfl
        rotate_left
        · simp only [Act.put, zSa, zSb, zSc, i64_w, i32_w]
          rfl
        refine pure_ (i := 4) (N := some 75) (v := ?_) (a' := ?_) #[true, true, true, false, true, false, false, false] rfl rfl (by kernel_rfl) (fun _ _ _ h => h) (Or.inl ⟨by rfl, ?_⟩) ?_ ?_
        rotate_left
        · intro w'
          go_simp
          with_reducible rfl
        rotate_left
        · simp only [Act.put, zSa, zSb, zSc, i64_w, i32_w]
          rfl
        refine take_ (i := 3) (N := some 74) (v := ?_) (a' := ?_) #[true, true, true, true, true, false, false, false] rfl rfl (by kernel_rfl) (fun _ _ _ h => h) (Or.inl ⟨by rfl, ?_⟩) hHeld ?_ ?_
        rotate_left
        · rintro w' ⟨s0, s1, s2⟩
          go_simp
          with_reducible rfl
        rotate_left
        · simp only [Act.put, zSa, zSb, zSc, i64_w, i32_w]
          rfl
        refine take_ (i := 5) (N := some 76) (v := ?_) (a' := ?_) #[true, true, true, true, true, true, false, false] rfl rfl (by kernel_rfl) (fun _ _ _ h => h) (Or.inl ⟨by rfl, ?_⟩) hHeld ?_ ?_
        rotate_left
        · rintro w' ⟨s0, s1, s2⟩
          go_simp
          with_reducible rfl
        rotate_left
        · simp only [Act.put, zSa, zSb, zSc, i64_w, i32_w]
          rfl
        refine pure_ (i := 6) (N := some 77) (v := ?_) (a' := ?_) #[true, true, true, true, true, true, true, false] rfl rfl (by kernel_rfl) (fun _ _ _ h => h) (Or.inl ⟨by rfl, ?_⟩) ?_ ?_
        rotate_left
        · intro w'
          go_simp
          with_reducible rfl
        rotate_left
        · simp only [Act.put, zSa, zSb, zSc, i64_w, i32_w]
          rfl
        refine take_ (i := 7) (N := some 78) (v := ?_) (a' := ?_) #[true, true, true, true, true, true, true, true] rfl rfl (by kernel_rfl) (fun _ _ _ h => h) (Or.inl ⟨by rfl, ?_⟩) hHeld ?_ ?_
        rotate_left
        · rintro w' ⟨s0, s1, s2⟩
          go_simp
          with_reducible rfl
        rotate_left
        · simp only [Act.put, zSa, zSb, zSc, i64_w, i32_w]
          rfl
        refine done_ (by kernel_rfl) ?_
        have h2 := H2.out
        clear H2 HXT HW7 BA7
        generalize htk : rdOf false s1.taken a.f1 = tk at h2 ⊢
        cases tk with
        | true =>
          rw [if_pos rfl] at h2
          obtain rfl := zOi h2
          clear h2 htk
          go_wp2
          go_roundg k1
          case measure => omega
          case rel => exact ⟨V, s1, HW8, HE⟩
        | false =>
          rw [if_neg Bool.false_ne_true] at h2
          by_cases hel : s1.edges.length < 17592186044415
          rotate_left
          · rw [if_neg hel] at h2; cases h2
          rw [if_pos hel] at h2
          have HEL := zMk hel
          have H2 := zMk h2
          clear hel h2 htk
          go_upto_region 8 with (fail)
          have HW9 := zMk (HW8.out.below (zBd (Below.refl w8.heap.size w8)))
          have BA9 := zMk (zKd BA8.out)
          refine start_ (n := 8) (S := fun w' => w'.cell? ⟨gw, 5, none⟩ = some (.slice (some ⟨g5, 0, none⟩) s1.taken.length c5) ∧ w'.cell? ⟨ba, 1, none⟩ = some (.int .i64 a.f1)) (ds := [7]) #[false, false, false, false, false, false, false, false] (by kernel_rfl) rfl rfl ⟨(zKc HW9.out.hw 5).trans (congrArg some E5.out), (zKc BA9.out 1).trans rfl⟩ (fun hHeld => ?_)
          generalize w8.drew = w9 at HW9 BA9 hHeld ⊢
          refine pure_ (i := 0) (N := some 79) (v := ?_) (a' := ?_) #[true, false, false, false, false, false, false, false] rfl rfl (by kernel_rfl) (fun _ _ _ h => h) (Or.inl ⟨by rfl, ?_⟩) ?_ ?_
          rotate_left
          · intro w'
            go_simp
            with_reducible rfl
          rotate_left
          · simp only [Act.put, zSa, zSb, zSc, i64_w, i32_w]
            rfl
          refine pure_ (i := 1) (N := some 80) (v := ?_) (a' := ?_) #[true, true, false, false, false, false, false, false] rfl rfl (by kernel_rfl) (fun _ _ _ h => h) (Or.inl ⟨by rfl, ?_⟩) ?_ ?_
          rotate_left
          · intro w'
            go_simp
            with_reducible rfl
          rotate_left
          · simp only [Act.put, zSa, zSb, zSc, i64_w, i32_w]
            rfl
          refine pure_ (i := 2) (N := some 81) (v := ?_) (a' := ?_) #[true, true, true, false, false, false, false, false] rfl rfl (by kernel_rfl) (fun _ _ _ h => h) (Or.inl ⟨by rfl, ?_⟩) ?_ ?_
          rotate_left
          · intro w'
            go_simp
            with_reducible rfl
          rotate_left
          · simp only [Act.put, zSa, zSb, zSc, i64_w, i32_w]
            rfl
          refine pure_ (i := 4) (N := some 83) (v := ?_) (a' := ?_) #[true, true, true, false, true, false, false, false] rfl rfl (by kernel_rfl) (fun _ _ _ h => h) (Or.inl ⟨by rfl, ?_⟩) ?_ ?_
          rotate_left
          · intro w'
            go_simp
            with_reducible rfl
          rotate_left
          · simp only [Act.put, zSa, zSb, zSc, i64_w, i32_w]
            rfl
          refine take_ (i := 3) (N := some 82) (v := ?_) (a' := ?_) #[true, true, true, true, true, false, false, false] rfl rfl (by kernel_rfl) (fun _ _ _ h => h) (Or.inl ⟨by rfl, ?_⟩) hHeld ?_ ?_
          rotate_left
          · rintro w' ⟨s0, s1⟩
            go_simp
            with_reducible rfl
          rotate_left
          · simp only [Act.put, zSa, zSb, zSc, i64_w, i32_w]
            rfl
          refine take_ (i := 5) (N := some 84) (v := ?_) (a' := ?_) #[true, true, true, true, true, true, false, false] rfl rfl (by kernel_rfl) (fun _ _ _ h => h) (Or.inl ⟨by rfl, ?_⟩) hHeld ?_ ?_
          rotate_left
          · rintro w' ⟨s0, s1⟩
            go_simp
            with_reducible rfl
          rotate_left
          · simp only [Act.put, zSa, zSb, zSc, i64_w, i32_w]
            rfl
          refine pure_ (i := 6) (N := some 85) (v := ?_) (a' := ?_) #[true, true, true, true, true, true, true, false] rfl rfl (by kernel_rfl) (fun _ _ _ h => h) (Or.inl ⟨by rfl, ?_⟩) ?_ ?_
          rotate_left
          · intro w'
            go_simp
            with_reducible rfl
          rotate_left
          · simp only [Act.put, zSa, zSb, zSc, i64_w, i32_w]
            rfl
          refine last_ (i := 7) (N := none) #[true, true, true, true, true, true, true, true] rfl rfl (by kernel_rfl) (by decide) (fun K hK => ?_)
          have h5' := HW9.out.h5
          rw [E5.out] at h5'
          obtain ⟨hxt2, hft⟩ := Kd.R_celln false h5' a.f1 HTA.out.1 HTA.out.2
          clear h5'
          refine skip_ (w1 := ?_) (by rfl) rfl ?_ ?_
          rotate_left
          · go_simp
            rfl
          refine hK.out _ _ ?_
          clear hK K
          refine done_ (by kernel_rfl) ?_
          obtain ⟨t5, ht5⟩ := Kd.R_typed HW9.out.h5 g5 (by rw [E5.out]; exact wk_own)
          have BA10 := zMk (arc_far BA9.out ht5 (by decide) a.f1.toNat (.bool true))
          have HW10 := zMk (HW9.out.put5 E5.out a.f1 true)
          clear HW8 HW9 BA8 BA9 ht5 hft hxt2
          generalize w9.setCell ⟨g5, a.f1.toNat, none⟩ (.bool true) = w10 at HW10 BA10 ⊢
          obtain ⟨s3, hs3⟩ : ∃ s3 : Wk, s3 = { s1 with taken := s1.taken.set a.f1.toNat true } := ⟨_, rfl⟩
          have HS3 := zMk (show WkW w0 wn w10 gw (.slice (some adn) near.length cn) V s3 from hs3 ▸ HW10.out)
          have h2 := H2.out
          rw [show ({ s1 with taken := s1.taken.set a.f1.toNat true, edges := s1.edges ++ [a.f1] } : Wk) = { s3 with edges := s3.edges ++ [a.f1] } by rw [hs3]] at h2
          have HEL3 := zMk (show s3.edges.length < 17592186044415 by rw [hs3]; exact HEL.out)
          have H3 := zMk h2
          clear HW10 H2 h2 hs3
          obtain ⟨AE, cE, eE⟩ := zRs HS3.out.hE
          have EE := zMk eE
          clear eE
          go_upto_region 9 with (fail)
          have HW11 := zMk (HS3.out.below (zBd (Below.refl w10.heap.size w10)))
          have BA11 := zMk (zKd BA10.out)
          refine start_ (n := 12) (S := fun w' => w'.cell? ⟨gw, 4, none⟩ = some (.slice AE s3.edges.length cE) ∧ w'.cell? ⟨ba, 1, none⟩ = some (.int .i64 a.f1)) (ds := [11]) #[false, false, false, false, false, false, false, false, false, false, false, false] (by kernel_rfl) rfl rfl ⟨(zKc HW11.out.hw 4).trans (congrArg some EE.out), (zKc BA11.out 1).trans rfl⟩ (fun hHeld => ?_)
          generalize w10.drew = w11 at HW11 BA11 hHeld ⊢
          refine pure_ (i := 0) (N := some 86) (v := ?_) (a' := ?_) #[true, false, false, false, false, false, false, false, false, false, false, false] rfl rfl (by kernel_rfl) (fun _ _ _ h => h) (Or.inl ⟨by rfl, ?_⟩) ?_ ?_
          rotate_left
          · intro w'
            go_simp
            with_reducible rfl
          rotate_left
          · simp only [Act.put, zSa, zSb, zSc, i64_w, i32_w]
            rfl
          refine pure_ (i := 1) (N := some 87) (v := ?_) (a' := ?_) #[true, true, false, false, false, false, false, false, false, false, false, false] rfl rfl (by kernel_rfl) (fun _ _ _ h => h) (Or.inl ⟨by rfl, ?_⟩) ?_ ?_
          rotate_left
          · intro w'
            go_simp
            with_reducible rfl
          rotate_left
          · simp only [Act.put, zSa, zSb, zSc, i64_w, i32_w]
            rfl
          refine pure_ (i := 2) (N := some 88) (v := ?_) (a' := ?_) #[true, true, true, false, false, false, false, false, false, false, false, false] rfl rfl (by kernel_rfl) (fun _ _ _ h => h) (Or.inl ⟨by rfl, ?_⟩) ?_ ?_
          rotate_left
          · intro w'
            go_simp
            with_reducible rfl
          rotate_left
          · simp only [Act.put, zSa, zSb, zSc, i64_w, i32_w]
            rfl
          refine pure_ (i := 3) (N := some 89) (v := ?_) (a' := ?_) #[true, true, true, true, false, false, false, false, false, false, false, false] rfl rfl (by kernel_rfl) (fun _ _ _ h => h) (Or.inl ⟨by rfl, ?_⟩) ?_ ?_
          rotate_left
          · intro w'
            go_simp
            with_reducible rfl
          rotate_left
          · simp only [Act.put, zSa, zSb, zSc, i64_w, i32_w]
            rfl
          refine pure_ (i := 5) (N := some 91) (v := ?_) (a' := ?_) #[true, true, true, true, false, true, false, false, false, false, false, false] rfl rfl (by kernel_rfl) (fun _ _ _ h => h) (Or.inl ⟨by rfl, ?_⟩) ?_ ?_
          rotate_left
          · intro w'
            go_simp
            with_reducible rfl
          rotate_left
          · simp only [Act.put, zSa, zSb, zSc, i64_w, i32_w]
            rfl
          refine take_ (i := 4) (N := some 90) (v := ?_) (a' := ?_) #[true, true, true, true, true, true, false, false, false, false, false, false] rfl rfl (by kernel_rfl) (fun _ _ _ h => h) (Or.inl ⟨by rfl, ?_⟩) hHeld ?_ ?_
          rotate_left
          · rintro w' ⟨s0, s1⟩
            go_simp
            with_reducible rfl
          rotate_left
          · simp only [Act.put, zSa, zSb, zSc, i64_w, i32_w]
            rfl
          refine take_ (i := 6) (N := some 92) (v := ?_) (a' := ?_) #[true, true, true, true, true, true, true, false, false, false, false, false] rfl rfl (by kernel_rfl) (fun _ _ _ h => h) (Or.inl ⟨by rfl, ?_⟩) hHeld ?_ ?_
          rotate_left
          · rintro w' ⟨s0, s1⟩
            go_simp
            with_reducible rfl
          rotate_left
          · simp only [Act.put, zSa, zSb, zSc, i64_w, i32_w]
            rfl
          refine one_ (i := 7) (N := some 93) #[true, true, true, true, true, true, true, true, false, false, false, false] rfl rfl (by kernel_rfl) (by decide) (fun K hK => ?_)
          refine Kd.R_lit_step (Kd.int .i64) _ 3 ?hg (N := 93) ?hd (xs := ([a.f1] : List Int)) (inner := [.int .i64 a.f1]) (ok := fun _ => True) (okp := fun _ => True) ?hr ?hp (fun _ hk => hk) trivial (Below.refl _ _) (Nat.le_refl _) (by simp) ?_; (case hd => rfl); (case hg => rfl); (case hr => first | (go_simp; done) | (go_simp; rfl)); (case hp => exact (Reps.one (show Kd.M (Kd.int .i64) _ _ _ a.f1 [.int .i64 a.f1] from rfl) (Reps.none _ _)))
          intro vL wl ho hb _ _
          replace HW11 := zMk (HW11.out.below hb)
          replace BA11 := zMk (zKb BA11.out hb)
          obtain ⟨AL, cL, eL⟩ := zRs ho
          subst eL
          have RL := zMk ho
          clear ho hb
          refine hK.out _ _ ⟨(zKc HW11.out.hw 4).trans (congrArg some EE.out), (zKc BA11.out 1).trans rfl⟩ (fun hHeld => ?_)
          clear hK K
          refine norm_ (a' := ?_) ?_ ?_
          rotate_left
          · show Act.put _ (some 93) _ = _
            simp only [Act.put, zSa, zSb, zSc, i64_w, i32_w]
            rfl
          refine one_ (i := 8) (N := some 94) #[true, true, true, true, true, true, true, true, true, false, false, false] rfl rfl (by kernel_rfl) (by decide) (fun K hK => ?_)
          have hE' : Kd.R (Kd.int .i64) 3 wl w0.heap.size (fun _ => True) (.slice AE s3.edges.length cE) s3.edges := EE.out ▸ HW11.out.hE
          refine Kd.R_append_rows_step (Kd.int .i64) (w0 := w0) w0.heap.size (by rfl) (.tmp 90) (.tmp 93) 33 3 (.int .i64 0) 8 rfl Try.underlying33 info3 rfl (by decide) (by omega) (.slice AE s3.edges.length cE) s3.edges [a.f1] _ _ _ (fun _ => True) (fun _ => False) rfl rfl ?aO ?aR (fun _ _ h => h) (fun _ h => h.elim) ?aF ?aB ?aS ?aL ?_
          (case aO => exact hE')
          (case aR => exact uC (zRr RL.out).2.2)
          (case aF => exact fun _ _ => trivial)
          (case aB => exact HW11.out.hBl)
          (case aS => exact zBs HW11.out.hBl)
          (case aL => have := HEL3.out; simp only [zLc, zLn]; omega)
          intro vQ wq ho hb hg hat
          have HF := zMk (HW11.out.gedges hb (EE.out ▸ hg) ho (EE.out ▸ hat))
          have BQ := zMk (blk_grown BA11.out hg (Kd.R_ne hE' BA11.out (by decide)))
          have HQ := zMk (blk_grown HW11.out.hw hg (Kd.R_ne hE' HW11.out.hw (by decide)))
          generalize hen : s3.edges ++ [a.f1] = en at ho HF
          obtain ⟨AQ, cQ, eQ⟩ := zRs ho
          subst eQ
          have HEN := zMk hen
          clear ho hb hg hat hE' hen
          refine hK.out _ _ ⟨(zKc HQ.out 4).trans (congrArg some EE.out), (zKc BQ.out 1).trans rfl⟩ (fun hHeld => ?_)
          clear hK K
          refine norm_ (a' := ?_) ?_ ?_
          rotate_left
          · show Act.put _ (some 94) _ = _
            simp only [Act.put, zSa, zSb, zSc, i64_w, i32_w]
            rfl
          refine pure_ (i := 9) (N := some 95) (v := ?_) (a' := ?_) #[true, true, true, true, true, true, true, true, true, true, false, false] rfl rfl (by kernel_rfl) (fun _ _ _ h => h) (Or.inl ⟨by rfl, ?_⟩) ?_ ?_
          rotate_left
          · intro w'
            go_simp
            with_reducible rfl
          rotate_left
          · simp only [Act.put, zSa, zSb, zSc, i64_w, i32_w]
            rfl
          refine pure_ (i := 10) (N := some 96) (v := ?_) (a' := ?_) #[true, true, true, true, true, true, true, true, true, true, true, false] rfl rfl (by kernel_rfl) (fun _ _ _ h => h) (Or.inl ⟨by rfl, ?_⟩) ?_ ?_
          rotate_left
          · intro w'
            go_simp
            with_reducible rfl
          rotate_left
          · simp only [Act.put, zSa, zSb, zSc, i64_w, i32_w]
            rfl
          refine last_ (i := 11) (N := none) #[true, true, true, true, true, true, true, true, true, true, true, true] rfl rfl (by kernel_rfl) (by decide) (fun K hK => ?_)
          have z4 : wq.cell? ⟨gw, 4, none⟩ = some (.slice AE s3.edges.length cE) := (zKc HQ.out 4).trans (congrArg some EE.out)
          have f4 := zKf HQ.out 4
          refine skip_ (w1 := ?_) (by rfl) rfl ?_ ?_
          rotate_left
          · go_simp
            rfl
          refine hK.out _ _ ?_
          clear hK K
          refine done_ (by kernel_rfl) ?_
          have BA12 := zMk (arc_far BQ.out HQ.out (by decide) 4 (.slice AQ en.length cQ))
          have h3 := H3.out
          rw [HEN.out] at h3
          clear HS3 HW11 BA10 BA11 BQ HQ RL z4 f4 H3 HEN HEL HEL3
          generalize wq.setCell ⟨gw, 4, none⟩ (.slice AQ en.length cQ) = w12 at HF BA12 ⊢
          obtain ⟨s4, hs4⟩ : ∃ s4 : Wk, s4 = { s3 with edges := en } := ⟨_, rfl⟩
          rw [← hs4] at h3
          obtain ⟨V4, hV4⟩ : ∃ V4 : WkV, V4 = { V with vE := .slice AQ en.length cQ } := ⟨_, rfl⟩
          have HS4 := zMk (show WkW w0 wn w12 gw (.slice (some adn) near.length cn) V4 s4 from by rw [hs4, hV4]; exact HF.out)
          clear HF hs4 hV4
          unfold wkFar at h3
          by_cases hfa : 0 ≤ a.f0 ∧ a.f0 < (s4.ord.length : Int) ∧ v < (s4.low.length : Int)
          rotate_left
          · rw [if_neg hfa] at h3; cases h3
          rw [if_pos hfa] at h3
          have HFA := zMk hfa
          have H4 := zMk h3
          obtain ⟨g1, c1, e1, -, -, -⟩ := Kd.R_form HS4.out.h1 (by omega)
          have E1 := zMk e1
          clear hfa h3 e1
          go_upto_region 10 with (fail)
          have HW13 := zMk (HS4.out.below (zBd (Below.refl w12.heap.size w12)))
          have BA13 := zMk (zKd BA12.out)
          have h1' := HW13.out.h1
          rw [E1.out] at h1'
          obtain ⟨hxo, -⟩ := Kd.R_celln (0 : Int) h1' a.f0 HFA.out.1 HFA.out.2.1
          have HXO := zMk (show w12.drew.cell? ⟨g1, a.f0.toNat, none⟩ = some (.int .i64 (rd s4.ord a.f0)) from hxo)
          have u1 : (0 ≤ a.f0) = True := eq_true HFA.out.1
          have u2 : (a.f0 < (s4.ord.length : Int)) = True := eq_true HFA.out.2.1
          clear h1' hxo
          refine start_ (n := 9) (S := fun w' => w'.cell? ⟨gw, 1, none⟩ = some (.slice (some ⟨g1, 0, none⟩) s4.ord.length c1) ∧ w'.cell? ⟨ba, 0, none⟩ = some (.int .i64 a.f0) ∧ w'.cell? ⟨g1, a.f0.toNat, none⟩ = some (.int .i64 (rd s4.ord a.f0))) (ds := []) #[false, false, false, false, false, false, false, false, false] (by kernel_rfl) rfl rfl ⟨(zKc HW13.out.hw 1).trans (congrArg some E1.out), (zKc BA13.out 0).trans rfl, HXO.out⟩ (fun hHeld => ?_)
          generalize w12.drew = w13 at HW13 BA13 HXO hHeld ⊢
          refine pure_ (i := 0) (N := some 97) (v := ?_) (a' := ?_) #[true, false, false, false, false, false, false, false, false] rfl rfl (by kernel_rfl) (fun _ _ _ h => h) (Or.inl ⟨by rfl, ?_⟩) ?_ ?_
          rotate_left
          · intro w'
            go_simp
            with_reducible rfl
          rotate_left
          · simp only [Act.put, zSa, zSb, zSc, i64_w, i32_w]
            rfl
          refine pure_ (i := 1) (N := some 98) (v := ?_) (a' := ?_) #[true, true, false, false, false, false, false, false, false] rfl rfl (by kernel_rfl) (fun _ _ _ h => h) (Or.inl ⟨by rfl, ?_⟩) ?_ ?_
          rotate_left
          · intro w'
            go_simp
            with_reducible rfl
          rotate_left
          · simp only [Act.put, zSa, zSb, zSc, i64_w, i32_w]
            rfl
          refine pure_ (i := 2) (N := some 99) (v := ?_) (a' := ?_) #[true, true, true, false, false, false, false, false, false] rfl rfl (by kernel_rfl) (fun _ _ _ h => h) (Or.inl ⟨by rfl, ?_⟩) ?_ ?_
          rotate_left
          · intro w'
            go_simp
            with_reducible rfl
          rotate_left
          · simp only [Act.put, zSa, zSb, zSc, i64_w, i32_w]
            rfl
          refine pure_ (i := 4) (N := some 101) (v := ?_) (a' := ?_) #[true, true, true, false, true, false, false, false, false] rfl rfl (by kernel_rfl) (fun _ _ _ h => h) (Or.inl ⟨by rfl, ?_⟩) ?_ ?_
          rotate_left
          · intro w'
            go_simp
            with_reducible rfl
          rotate_left
          · simp only [Act.put, zSa, zSb, zSc, i64_w, i32_w]
            rfl
          refine take_ (i := 3) (N := some 100) (v := ?_) (a' := ?_) #[true, true, true, true, true, false, false, false, false] rfl rfl (by kernel_rfl) (fun _ _ _ h => h) (Or.inl ⟨by rfl, ?_⟩) hHeld ?_ ?_
          rotate_left
          · rintro w' ⟨s0, s1, s2⟩
            go_simp
            with_reducible rfl
          rotate_left
          · simp only [Act.put, zSa, zSb, zSc, i64_w, i32_w]
            rfl
          refine take_ (i := 5) (N := some 102) (v := ?_) (a' := ?_) #[true, true, true, true, true, true, false, false, false] rfl rfl (by kernel_rfl) (fun _ _ _ h => h) (Or.inl ⟨by rfl, ?_⟩) hHeld ?_ ?_
          rotate_left
          · rintro w' ⟨s0, s1, s2⟩
            go_simp
            with_reducible rfl
          rotate_left
          · simp only [Act.put, zSa, zSb, zSc, i64_w, i32_w]
            rfl
          refine pure_ (i := 6) (N := some 103) (v := ?_) (a' := ?_) #[true, true, true, true, true, true, true, false, false] rfl rfl (by kernel_rfl) (fun _ _ _ h => h) (Or.inl ⟨by rfl, ?_⟩) ?_ ?_
          rotate_left
          · intro w'
            go_simp
            with_reducible rfl
          rotate_left
          · simp only [Act.put, zSa, zSb, zSc, i64_w, i32_w]
            rfl
          refine take_ (i := 7) (N := some 104) (v := ?_) (a' := ?_) #[true, true, true, true, true, true, true, true, false] rfl rfl (by kernel_rfl) (fun _ _ _ h => h) (Or.inl ⟨by rfl, ?_⟩) hHeld ?_ ?_
          rotate_left
          · rintro w' ⟨s0, s1, s2⟩
            go_simp
            with_reducible rfl
          rotate_left
          · simp only [Act.put, zSa, zSb, zSc, i64_w, i32_w]
            rfl
          refine pure_ (i := 8) (N := some 105) (v := ?_) (a' := ?_) #[true, true, true, true, true, true, true, true, true] rfl rfl (by kernel_rfl) (fun _ _ _ h => h) (Or.inl ⟨by rfl, ?_⟩) ?_ ?_
          rotate_left
          · intro w'
            go_simp
            with_reducible rfl
          rotate_left
          · simp only [Act.put, zSa, zSb, zSc, i64_w, i32_w]
            rfl
          refine done_ (by kernel_rfl) ?_
          clear HXO HS4 BA12
          have h4 := H4.out
          clear H4
          by_cases hoz : rd s4.ord a.f0 = 0
          · rw [if_pos hoz] at h4
            have H5 := zMk h4
            have hd : (rd s4.ord a.f0 == 0) = true := beq_iff_eq.mpr hoz
            go_upto_if 105 with (fail)
            first | rw [hd] | skip
            clear h4 hoz hd
            have y0 : w13.cell? ⟨ba, 0, none⟩ = some (.int .i64 a.f0) := (zKc BA13.out 0).trans rfl
            have y1 : w13.cell? ⟨ba, 1, none⟩ = some (.int .i64 a.f1) := (zKc BA13.out 1).trans rfl
            go_wp2_with (go_at_call 62; refine (wkEnter.calls w0 wn _ gw _ V4 s4 s2 a.f0 a.f1 HW13.out H5.out).mono ?_; rintro e w14 ⟨rfl, vS, h6⟩; have HW14 := zMk h6; clear h6)
            clear y0 y1
            go_roundg k1
            case measure => omega
            case rel => exact ⟨_, s2, HW14, HE⟩
          · rw [if_neg hoz] at h4
            have h4s := zOi h4
            have hd : (rd s4.ord a.f0 == 0) = false := beq_eq_false_iff_ne.mpr hoz
            go_upto_if 105 with (fail)
            first | rw [hd] | skip
            have H4S := zMk h4s
            clear h4 h4s hoz hd
            obtain ⟨g2, c2, e2, -, -, -⟩ := Kd.R_form HW13.out.h2 (by have := HFA.out; have := HB.out; omega)
            have E2 := zMk e2
            clear e2
            go_upto_region 12 with (fail)
            have HW14 := zMk (HW13.out.below (zBd (Below.refl w13.heap.size w13)))
            have BA14 := zMk (zKd BA13.out)
            have h1' := HW14.out.h1
            rw [E1.out] at h1'
            obtain ⟨hxo, -⟩ := Kd.R_celln (0 : Int) h1' a.f0 HFA.out.1 HFA.out.2.1
            have HXO := zMk (show w13.drew.cell? ⟨g1, a.f0.toNat, none⟩ = some (.int .i64 (rd s4.ord a.f0)) from hxo)
            have h2' := HW14.out.h2
            rw [E2.out] at h2'
            obtain ⟨hxl, hfl⟩ := Kd.R_celln (0 : Int) h2' v HB.out.1 HFA.out.2.2
            have HXL := zMk (show w13.drew.cell? ⟨g2, v.toNat, none⟩ = some (.int .i64 (rd s4.low v)) from hxl)
            have u3 : (v < (s4.low.length : Int)) = True := eq_true HFA.out.2.2
            clear h1' hxo h2' hxl
            refine start_ (n := 23) (S := fun w' => w'.cell? ⟨gw, 1, none⟩ = some (.slice (some ⟨g1, 0, none⟩) s4.ord.length c1) ∧ w'.cell? ⟨ba, 0, none⟩ = some (.int .i64 a.f0) ∧ w'.cell? ⟨g1, a.f0.toNat, none⟩ = some (.int .i64 (rd s4.ord a.f0)) ∧ w'.cell? ⟨gw, 2, none⟩ = some (.slice (some ⟨g2, 0, none⟩) s4.low.length c2) ∧ w'.cell? ⟨g2, v.toNat, none⟩ = some (.int .i64 (rd s4.low v))) (ds := [22]) #[false, false, false, false, false, false, false, false, false, false, false, false, false, false, false, false, false, false, false, false, false, false, false] (by kernel_rfl) rfl rfl ⟨(zKc HW14.out.hw 1).trans (congrArg some E1.out), (zKc BA14.out 0).trans rfl, HXO.out, (zKc HW14.out.hw 2).trans (congrArg some E2.out), HXL.out⟩ (fun hHeld => ?_)
            generalize w13.drew = w14 at HW14 BA14 HXO HXL hfl hHeld ⊢
            refine pure_ (i := 0) (N := some 112) (v := ?_) (a' := ?_) #[true, false, false, false, false, false, false, false, false, false, false, false, false, false, false, false, false, false, false, false, false, false, false] rfl rfl (by kernel_rfl) (fun _ _ _ h => h) (Or.inl ⟨by rfl, ?_⟩) ?_ ?_
            rotate_left
            · intro w'
              go_simp
              with_reducible rfl
            rotate_left
            · simp only [Act.put, zSa, zSb, zSc, i64_w, i32_w]
              rfl
            refine pure_ (i := 1) (N := some 113) (v := ?_) (a' := ?_) #[true, true, false, false, false, false, false, false, false, false, false, false, false, false, false, false, false, false, false, false, false, false, false] rfl rfl (by kernel_rfl) (fun _ _ _ h => h) (Or.inl ⟨by rfl, ?_⟩) ?_ ?_
            rotate_left
            · intro w'
              go_simp
              with_reducible rfl
            rotate_left
            · simp only [Act.put, zSa, zSb, zSc, i64_w, i32_w]
              rfl
            refine pure_ (i := 2) (N := some 114) (v := ?_) (a' := ?_) #[true, true, true, false, false, false, false, false, false, false, false, false, false, false, false, false, false, false, false, false, false, false, false] rfl rfl (by kernel_rfl) (fun _ _ _ h => h) (Or.inl ⟨by rfl, ?_⟩) ?_ ?_
            rotate_left
            · intro w'
              go_simp
              with_reducible rfl
            rotate_left
            · simp only [Act.put, zSa, zSb, zSc, i64_w, i32_w]
              rfl
            refine pure_ (i := 4) (N := some 116) (v := ?_) (a' := ?_) #[true, true, true, false, true, false, false, false, false, false, false, false, false, false, false, false, false, false, false, false, false, false, false] rfl rfl (by kernel_rfl) (fun _ _ _ h => h) (Or.inl ⟨by rfl, ?_⟩) ?_ ?_
            rotate_left
            · intro w'
              go_simp
              with_reducible rfl
            rotate_left
            · simp only [Act.put, zSa, zSb, zSc, i64_w, i32_w]
              rfl
            refine pure_ (i := 5) (N := some 117) (v := ?_) (a' := ?_) #[true, true, true, false, true, true, false, false, false, false, false, false, false, false, false, false, false, false, false, false, false, false, false] rfl rfl (by kernel_rfl) (fun _ _ _ h => h) (Or.inl ⟨by rfl, ?_⟩) ?_ ?_
            rotate_left
            · intro w'
              go_simp
              with_reducible rfl
            rotate_left
            · simp only [Act.put, zSa, zSb, zSc, i64_w, i32_w]
              rfl
            refine pure_ (i := 6) (N := some 118) (v := ?_) (a' := ?_) #[true, true, true, false, true, true, true, false, false, false, false, false, false, false, false, false, false, false, false, false, false, false, false] rfl rfl (by kernel_rfl) (fun _ _ _ h => h) (Or.inl ⟨by rfl, ?_⟩) ?_ ?_
            rotate_left
            · intro w'
              go_simp
              with_reducible rfl
            rotate_left
            · simp only [Act.put, zSa, zSb, zSc, i64_w, i32_w]
              rfl
            refine pure_ (i := 7) (N := some 119) (v := ?_) (a' := ?_) #[true, true, true, false, true, true, true, true, false, false, false, false, false, false, false, false, false, false, false, false, false, false, false] rfl rfl (by kernel_rfl) (fun _ _ _ h => h) (Or.inl ⟨by rfl, ?_⟩) ?_ ?_
            rotate_left
            · intro w'
              go_simp
              with_reducible rfl
            rotate_left
            · simp only [Act.put, zSa, zSb, zSc, i64_w, i32_w]
              rfl
            refine pure_ (i := 9) (N := some 121) (v := ?_) (a' := ?_) #[true, true, true, false, true, true, true, true, false, true, false, false, false, false, false, false, false, false, false, false, false, false, false] rfl rfl (by kernel_rfl) (fun _ _ _ h => h) (Or.inl ⟨by rfl, ?_⟩) ?_ ?_
            rotate_left
            · intro w'
              go_simp
              with_reducible rfl
            rotate_left
            · simp only [Act.put, zSa, zSb, zSc, i64_w, i32_w]
              rfl
            refine pure_ (i := 12) (N := some 124) (v := ?_) (a' := ?_) #[true, true, true, false, true, true, true, true, false, true, false, false, true, false, false, false, false, false, false, false, false, false, false] rfl rfl (by kernel_rfl) (fun _ _ _ h => h) (Or.inl ⟨by rfl, ?_⟩) ?_ ?_
            rotate_left
            · intro w'
              go_simp
              with_reducible rfl
            rotate_left
            · simp only [Act.put, zSa, zSb, zSc, i64_w, i32_w]
              rfl
            refine pure_ (i := 13) (N := some 125) (v := ?_) (a' := ?_) #[true, true, true, false, true, true, true, true, false, true, false, false, true, true, false, false, false, false, false, false, false, false, false] rfl rfl (by kernel_rfl) (fun _ _ _ h => h) (Or.inl ⟨by rfl, ?_⟩) ?_ ?_
            rotate_left
            · intro w'
              go_simp
              with_reducible rfl
            rotate_left
            · simp only [Act.put, zSa, zSb, zSc, i64_w, i32_w]
              rfl
            refine pure_ (i := 14) (N := some 126) (v := ?_) (a' := ?_) #[true, true, true, false, true, true, true, true, false, true, false, false, true, true, true, false, false, false, false, false, false, false, false] rfl rfl (by kernel_rfl) (fun _ _ _ h => h) (Or.inl ⟨by rfl, ?_⟩) ?_ ?_
            rotate_left
            · intro w'
              go_simp
              with_reducible rfl
            rotate_left
            · simp only [Act.put, zSa, zSb, zSc, i64_w, i32_w]
              rfl
            refine pure_ (i := 16) (N := some 128) (v := ?_) (a' := ?_) #[true, true, true, false, true, true, true, true, false, true, false, false, true, true, true, false, true, false, false, false, false, false, false] rfl rfl (by kernel_rfl) (fun _ _ _ h => h) (Or.inl ⟨by rfl, ?_⟩) ?_ ?_
            rotate_left
            · intro w'
              go_simp
              with_reducible rfl
            rotate_left
            · simp only [Act.put, zSa, zSb, zSc, i64_w, i32_w]
              rfl
            refine take_ (i := 3) (N := some 115) (v := ?_) (a' := ?_) #[true, true, true, true, true, true, true, true, false, true, false, false, true, true, true, false, true, false, false, false, false, false, false] rfl rfl (by kernel_rfl) (fun _ _ _ h => h) (Or.inl ⟨by rfl, ?_⟩) hHeld ?_ ?_
            rotate_left
            · rintro w' ⟨s0, s1, s2, s3, s4⟩
              go_simp
              with_reducible rfl
            rotate_left
            · simp only [Act.put, zSa, zSb, zSc, i64_w, i32_w]
              rfl
            refine take_ (i := 8) (N := some 120) (v := ?_) (a' := ?_) #[true, true, true, true, true, true, true, true, true, true, false, false, true, true, true, false, true, false, false, false, false, false, false] rfl rfl (by kernel_rfl) (fun _ _ _ h => h) (Or.inl ⟨by rfl, ?_⟩) hHeld ?_ ?_
            rotate_left
            · rintro w' ⟨s0, s1, s2, s3, s4⟩
              go_simp
              with_reducible rfl
            rotate_left
            · simp only [Act.put, zSa, zSb, zSc, i64_w, i32_w]
              rfl
            refine pure_ (i := 10) (N := some 122) (v := ?_) (a' := ?_) #[true, true, true, true, true, true, true, true, true, true, true, false, true, true, true, false, true, false, false, false, false, false, false] rfl rfl (by kernel_rfl) (fun _ _ _ h => h) (Or.inl ⟨by rfl, ?_⟩) ?_ ?_
            rotate_left
            · intro w'
              go_simp
              with_reducible rfl
            rotate_left
            · simp only [Act.put, zSa, zSb, zSc, i64_w, i32_w]
              rfl
            refine take_ (i := 11) (N := some 123) (v := ?_) (a' := ?_) #[true, true, true, true, true, true, true, true, true, true, true, true, true, true, true, false, true, false, false, false, false, false, false] rfl rfl (by kernel_rfl) (fun _ _ _ h => h) (Or.inl ⟨by rfl, ?_⟩) hHeld ?_ ?_
            rotate_left
            · rintro w' ⟨s0, s1, s2, s3, s4⟩
              go_simp
              with_reducible rfl
            rotate_left
            · simp only [Act.put, zSa, zSb, zSc, i64_w, i32_w]
              rfl
            refine take_ (i := 15) (N := some 127) (v := ?_) (a' := ?_) #[true, true, true, true, true, true, true, true, true, true, true, true, true, true, true, true, true, false, false, false, false, false, false] rfl rfl (by kernel_rfl) (fun _ _ _ h => h) (Or.inl ⟨by rfl, ?_⟩) hHeld ?_ ?_
            rotate_left
            · rintro w' ⟨s0, s1, s2, s3, s4⟩
              go_simp
              with_reducible rfl
            rotate_left
            · simp only [Act.put, zSa, zSb, zSc, i64_w, i32_w]
              rfl
            refine take_ (i := 17) (N := some 129) (v := ?_) (a' := ?_) #[true, true, true, true, true, true, true, true, true, true, true, true, true, true, true, true, true, true, false, false, false, false, false] rfl rfl (by kernel_rfl) (fun _ _ _ h => h) (Or.inl ⟨by rfl, ?_⟩) hHeld ?_ ?_
            rotate_left
            · rintro w' ⟨s0, s1, s2, s3, s4⟩
              go_simp
              with_reducible rfl
            rotate_left
            · simp only [Act.put, zSa, zSb, zSc, i64_w, i32_w]
              rfl
            refine pure_ (i := 18) (N := some 130) (v := ?_) (a' := ?_) #[true, true, true, true, true, true, true, true, true, true, true, true, true, true, true, true, true, true, true, false, false, false, false] rfl rfl (by kernel_rfl) (fun _ _ _ h => h) (Or.inl ⟨by rfl, ?_⟩) ?_ ?_
            rotate_left
            · intro w'
              go_simp
              with_reducible rfl
            rotate_left
            · simp only [Act.put, zSa, zSb, zSc, i64_w, i32_w]
              rfl
            refine take_ (i := 19) (N := some 131) (v := ?_) (a' := ?_) #[true, true, true, true, true, true, true, true, true, true, true, true, true, true, true, true, true, true, true, true, false, false, false] rfl rfl (by kernel_rfl) (fun _ _ _ h => h) (Or.inl ⟨by rfl, ?_⟩) hHeld ?_ ?_
            rotate_left
            · rintro w' ⟨s0, s1, s2, s3, s4⟩
              go_simp
              with_reducible rfl
            rotate_left
            · simp only [Act.put, zSa, zSb, zSc, i64_w, i32_w]
              rfl
            refine pure_ (i := 20) (N := some 132) (v := ?_) (a' := ?_) #[true, true, true, true, true, true, true, true, true, true, true, true, true, true, true, true, true, true, true, true, true, false, false] rfl rfl (by kernel_rfl) (fun _ _ _ h => h) (Or.inl ⟨by rfl, ?_⟩) ?_ ?_
            rotate_left
            · intro w'
              go_simp
              with_reducible rfl
            rotate_left
            · simp only [Act.put, zSa, zSb, zSc, i64_w, i32_w]
              rfl
            refine pure_ (i := 21) (N := some 133) (v := ?_) (a' := ?_) #[true, true, true, true, true, true, true, true, true, true, true, true, true, true, true, true, true, true, true, true, true, true, false] rfl rfl (by kernel_rfl) (fun _ _ _ h => h) (Or.inl ⟨by rfl, ?_⟩) ?_ ?_
            rotate_left
            · intro w'
              go_simp
              with_reducible rfl
            rotate_left
            · simp only [Act.put, zSa, zSb, zSc, i64_w, i32_w]
              rfl
            refine last_ (i := 22) (N := none) #[true, true, true, true, true, true, true, true, true, true, true, true, true, true, true, true, true, true, true, true, true, true, true] rfl rfl (by kernel_rfl) (by decide) (fun K hK => ?_)
            have hxl2 := HXL.out
            refine skip_ (w1 := ?_) (by rfl) rfl ?_ ?_
            rotate_left
            · go_simp
              rfl
            refine hK.out _ _ ?_
            clear hK K
            refine done_ (by kernel_rfl) ?_
            have HF := zMk (HW14.out.put2 E2.out v (if rd s4.ord a.f0 < rd s4.low v then rd s4.ord a.f0 else rd s4.low v))
            rw [H4S.out] at HF
            clear HW13 HW14 BA13 BA14 HXO HXL hxl2
            generalize w14.setCell ⟨g2, v.toNat, none⟩ (.int .i64 (if rd s4.ord a.f0 < rd s4.low v then rd s4.ord a.f0 else rd s4.low v)) = w15 at HF ⊢
            try go_wp2
            all_goals
              go_roundg k1
              case measure => omega
              case rel => exact ⟨_, s2, HF, HE⟩
theorem wkRun2.calls (near : List (List S51)) (k : Nat) (w0 wn w : World) (gw : Nat) (An : Option Addr) (cn : Nat) (V : WkV) (s s' : Wk) (root : Int) (nb : Nat) (okn : Nat → Prop) (hn : Kd.S (Kd.slice 51 k51) 49 wn nb okn (.slice An near.length cn) near)
    (h : WkW w0 wn w gw (.slice An near.length cn) V s) (he : wkRun (wkLeave wkOff (wkMore near) near) near k s root = some s') :
    Calls Try.prog 45 #[.pointer (some ⟨gw, 0, none⟩), .int .i64 root] w fun e w' => e = .returned (.tuple #[]) ∧ ∃ V', WkW w0 wn w' gw (.slice An near.length cn) V' s' :=
  wkRun.calls (wkLeave wkOff (wkMore near) near) near k w0 wn w gw An cn V s s' root
    (fun W V s s' hW hl => wkLeave.calls wkOff (wkMore near) near w0 wn W gw An cn V s s'
      (fun W V s s' x hW ho => wkOff.calls w0 wn W gw _ V s s' x hW ho)
      (fun W V s x b hW hm => wkMore.calls near w0 wn W gw An cn V s x b nb okn hn hW hm)
      nb okn hn hW hl)
    nb okn hn h he
def At (E : List S43) (j v a : Int) : Prop := ∃ i : Nat, ∃ h : i < E.length, j = (i : Int) ∧ ((E[i].f0 = v ∧ E[i].f1 = a) ∨ (E[i].f1 = v ∧ E[i].f0 = a))
theorem At.swap {E : List S43} {j v a : Int} (h : At E j v a) : At E j a v := by
  obtain ⟨i, hi, e, h⟩ := h
  exact ⟨i, hi, e, h.elim (fun x => .inr ⟨x.2, x.1⟩) (fun x => .inl ⟨x.2, x.1⟩)⟩
theorem At.cn {E : List S43} {j v a : Int} (h : At E j v a) : Cn E v a := by
  obtain ⟨i, hi, -, ⟨h1, h2⟩ | ⟨h1, h2⟩⟩ := h
  · rw [← h1, ← h2]; exact .fwd _ (List.getElem_mem hi) (.refl _)
  · rw [← h1, ← h2]; exact .bwd _ (List.getElem_mem hi) (.refl _)
theorem At.rng {E : List S43} {j v a : Int} (h : At E j v a) : 0 ≤ j ∧ j < (E.length : Int) := by
  obtain ⟨i, hi, rfl, -⟩ := h
  omega
theorem At.inn {N : Nat} {E : List S43} (hE : Ends N E) {j v a : Int} (h : At E j v a) : (0 ≤ v ∧ v < (N : Int)) ∧ 0 ≤ a ∧ a < (N : Int) := by
  obtain ⟨i, hi, -, h⟩ := h
  have hb := hE _ (List.getElem_mem hi)
  rcases h with ⟨h1, h2⟩ | ⟨h1, h2⟩ <;> rw [← h1, ← h2]
  · exact ⟨⟨hb.1, hb.2.1⟩, hb.2.2.1, hb.2.2.2⟩
  · exact ⟨⟨hb.2.2.1, hb.2.2.2⟩, hb.1, hb.2.1⟩
theorem At.ne {N : Nat} {E : List S43} (hR : Rt N E) {j v a : Int} (h : At E j v a) : v ≠ a := by
  obtain ⟨i, hi, -, h⟩ := h
  have hb := hR.lt _ (List.getElem_mem hi)
  omega
theorem At.two {E : List S43} {j v a u b : Int} (h : At E j v a) (h2 : At E j u b) : (u = v ∧ b = a) ∨ (u = a ∧ b = v) := by
  obtain ⟨i, hi, e, h⟩ := h
  obtain ⟨i2, hi2, e2, h2⟩ := h2
  obtain rfl : i = i2 := by omega
  omega
theorem At.one {N : Nat} {E : List S43} (hR : Rt N E) {i j v a : Int} (h : At E i v a) (h2 : At E j v a) : i = j := by
  obtain ⟨x, hx, e, h⟩ := h
  obtain ⟨y, hy, e2, h2⟩ := h2
  have h0 := hR.lt _ (List.getElem_mem hx)
  have h1 := hR.lt _ (List.getElem_mem hy)
  have hu := List.pairwise_iff_getElem.1 hR.up
  have hne : ∀ (a b : S43), a.f0 = b.f0 → a.f1 = b.f1 → ordE a b ≠ -1 := fun a b h1 h2 => by unfold ordE; rw [if_neg (by omega), if_neg (by omega), if_neg (by omega), if_neg (by omega)]; omega
  rcases Nat.lt_trichotomy x y with hl | hl | hl
  · exact absurd (hu x y hx hy hl) (hne _ _ (by omega) (by omega))
  · omega
  · exact absurd (hu y x hy hx hl) (hne _ _ (by omega) (by omega))
theorem arc_at {E : List S43} {v : Int} {a : S51} : a ∈ arcsOf E v ↔ At E a.f1 v a.f0 := by
  rw [mem_arcsOf]
  exact Iff.rfl
theorem rd51_get (l : List S51) (i : Nat) (h : i < l.length) : rd_T51 l (i : Int) = l[i] := by
  unfold rd_T51
  rw [zTn]
  simp [h]
theorem rd51_mem (l : List S51) (i : Int) (h0 : 0 ≤ i) (h : i < (l.length : Int)) : rd_T51 l i ∈ l := by
  obtain ⟨i, rfl⟩ := Int.eq_ofNat_of_zero_le h0
  rw [rd51_get l i (by omega)]
  exact List.getElem_mem _
theorem at_arc {E : List S43} {j v a : Int} (h : At E j v a) : ∃ i : Nat, i < (arcsOf E v).length ∧ (rd_T51 (arcsOf E v) i).f1 = j ∧ (rd_T51 (arcsOf E v) i).f0 = a := by
  have hm : (⟨a, j⟩ : S51) ∈ arcsOf E v := arc_at.2 h
  obtain ⟨i, hi, e⟩ := List.mem_iff_getElem.1 hm
  exact ⟨i, hi, by rw [rd51_get _ i hi, e], by rw [rd51_get _ i hi, e]⟩
theorem count_set (x y : Int) (hxy : y ≠ x) : ∀ (l : List Int) (i : Nat), i < l.length → rd l i = x → (l.set i y).count x + 1 = l.count x
  | [], _, h, _ => by simp at h
  | a :: l, 0, _, h => by
    have e : a = x := by simpa [rd] using h
    simp [hxy, e]
  | a :: l, i + 1, h, hx => by
    have := count_set x y hxy l i (by simpa using h) (by simpa [rd] using hx)
    rw [zSc, List.count_cons, List.count_cons]
    omega
structure Fr where
  v : Int
  by_ : Int
  seg : List Int
def frS (f : Fr) : S51 := ⟨f.v, f.by_⟩
def stOf (F : List Fr) : List S51 := (F.map frS).reverse
def edOf (F : List Fr) : List Int := (F.map Fr.seg).reverse.flatten
theorem stOf_cons (c : Fr) (F : List Fr) : stOf (c :: F) = stOf F ++ [frS c] := by simp [stOf]
theorem edOf_cons (c : Fr) (F : List Fr) : edOf (c :: F) = edOf F ++ c.seg := by simp [edOf]
theorem stOf_len (F : List Fr) : (stOf F).length = F.length := by simp [stOf]
theorem stOf_top (c : Fr) (F : List Fr) : rd_T51 (stOf (c :: F)) (F.length : Nat) = frS c := by
  rw [stOf_cons, rd51_get _ _ (by simp [stOf])]
  rw [List.getElem_append_right (by simp [stOf])]
  simp
theorem stOf_sec (c p : Fr) (F : List Fr) : rd_T51 (stOf (c :: p :: F)) (F.length : Nat) = frS p := by
  rw [stOf_cons, rd51_get _ _ (by simp [stOf]), List.getElem_append_left (by simp [stOf]), ← rd51_get, stOf_top]
theorem stOf_take (c : Fr) (F : List Fr) : (stOf (c :: F)).take F.length = stOf F := by
  rw [stOf_cons, List.take_append_of_le_length (by simp [stOf]), List.take_of_length_le (by simp [stOf])]
theorem mem_edOf {F : List Fr} {j : Int} : j ∈ edOf F ↔ ∃ f ∈ F, j ∈ f.seg := by
  unfold edOf
  rw [List.mem_flatten]
  constructor
  · rintro ⟨l, hl, hj⟩
    rw [List.mem_reverse, List.mem_map] at hl
    obtain ⟨f, hf, rfl⟩ := hl
    exact ⟨f, hf, hj⟩
  · rintro ⟨f, hf, hj⟩
    exact ⟨f.seg, by rw [List.mem_reverse]; exact List.mem_map_of_mem hf, hj⟩
def Tk (s : Wk) (j : Int) : Prop := rdOf false s.taken j = true
instance Tk.dec (s : Wk) (j : Int) : Decidable (Tk s j) := inferInstanceAs (Decidable (rdOf false s.taken j = true))
structure IA (N : Nat) (E : List S43) (s : Wk) (F : List Fr) : Prop where
  lo : s.ord.length = N
  ll : s.low.length = N
  ln : s.next.length = N
  lt : s.taken.length = E.length
  lc : s.cut.length = N
  stk : s.stack = stOf F
  edg : s.edges = edOf F
  clk : s.clock + (s.ord.count 0 : Int) = N
  c0 : 0 ≤ s.clock
  ordr : ∀ v, 0 ≤ v → v < (N : Int) → 0 ≤ rd s.ord v ∧ rd s.ord v ≤ s.clock
  ordi : ∀ u v, 0 ≤ u → u < (N : Int) → 0 ≤ v → v < (N : Int) → rd s.ord u = rd s.ord v → rd s.ord u ≠ 0 → u = v
  inF : ∀ f ∈ F, 0 ≤ f.v ∧ f.v < (N : Int) ∧ rd s.ord f.v ≠ 0
  asc : F.Pairwise (fun a b => rd s.ord b.v < rd s.ord a.v)
  nx : ∀ v, 0 ≤ v → v < (N : Int) → 0 ≤ rd s.next v ∧ rd s.next v ≤ ((arcsOf E v).length : Int) ∧ ∀ i : Nat, (i : Int) < rd s.next v → Tk s (rd_T51 (arcsOf E v) i).f1
  fin : ∀ v, 0 ≤ v → v < (N : Int) → rd s.ord v ≠ 0 → (∀ f ∈ F, f.v ≠ v) → rd s.next v = ((arcsOf E v).length : Int)
  un : ∀ v, 0 ≤ v → v < (N : Int) → rd s.ord v = 0 → rd s.next v = 0
  ent : ∀ j v a, At E j v a → Tk s j → rd s.ord v ≠ 0
  part : ∀ j, 0 ≤ j → j < (E.length : Int) → (Tk s j ↔ j ∈ s.edges ∨ ∃ b ∈ s.blocks, j ∈ b)
  nd : (s.edges ++ s.blocks.flatten).Nodup
  rng : ∀ j ∈ s.edges ++ s.blocks.flatten, 0 ≤ j ∧ j < (E.length : Int)
  tree : ∀ P c p R, F = P ++ c :: p :: R → At E c.by_ p.v c.v ∧ ∃ t, c.seg = c.by_ :: t
  root : ∀ P f, F = P ++ [f] → f.seg = []
  low : ∀ P f R, F = P ++ f :: R → rd s.low f.v ≤ rd s.ord f.v ∧ ∃ g ∈ f :: R, rd s.ord g.v = rd s.low f.v
  bl : ∀ b ∈ s.blocks, b ≠ [] ∧ b.Pairwise (· < ·)
section
variable {N : Nat} {E : List S43} {s : Wk} {F : List Fr}
theorem IA.clkN (h : IA N E s F) : s.clock ≤ N := by have := h.clk; omega
theorem IA.done (h : IA N E s F) {j v a : Int} (hj : At E j v a) (v0 : 0 ≤ v) (v1 : v < (N : Int)) (hn : rd s.next v = ((arcsOf E v).length : Int)) : Tk s j := by
  obtain ⟨i, hi, e1, e2⟩ := at_arc hj
  have := (h.nx v v0 v1).2.2 i (by omega)
  rwa [e1] at this
theorem IA.elen (h : IA N E s F) (hR : Rt N E) : s.edges.length ≤ 4194304 ∧ s.blocks.length ≤ 4194304 := by
  have h1 : (s.edges ++ s.blocks.flatten).length ≤ E.length := by
    have := List.Nodup.length_le_of_subset h.nd (l₂ := ups E.length) (fun x hx => mem_ups.2 (h.rng x hx))
    rwa [ups_len] at this
  have h2 : s.blocks.length ≤ s.blocks.flatten.length := by
    have hb := h.bl
    generalize s.blocks = bs at hb
    clear h1
    induction bs with
    | nil => exact Nat.le_refl _
    | cons b bs ih =>
      have h3 := ih (fun b hb2 => hb b (List.mem_cons_of_mem _ hb2))
      have h4 : 0 < b.length := List.length_pos_iff.2 (hb b (List.mem_cons_self ..)).1
      rw [List.flatten_cons, List.length_append, zLc]
      omega
  rw [List.length_append] at h1
  have := hR.E1
  omega
theorem IA.slen (h : IA N E s F) : F.length ≤ N := by
  have h1 : (F.map Fr.v).Nodup := by
    rw [List.nodup_iff_pairwise_ne, List.pairwise_map]
    exact h.asc.imp (fun {a b} hab e => by rw [e] at hab; omega)
  have := List.Nodup.length_le_of_subset h1 (l₂ := ups N) (fun x hx => by
    obtain ⟨f, hf, rfl⟩ := List.mem_map.1 hx
    exact mem_ups.2 ⟨(h.inF f hf).1, (h.inF f hf).2.1⟩)
  rwa [ups_len, List.length_map] at this
end
section
variable {N : Nat} {E : List S43} {s : Wk} {F R : List Fr} {p c : Fr}
theorem rdb_tk (h : IA N E s F) {e : Int} (e0 : 0 ≤ e) (e1 : e < (E.length : Int)) (j : Int) (j0 : 0 ≤ j) : rdOf false (s.taken.set e.toNat true) j = true ↔ j = e ∨ Tk s j := by
  rw [rdb_set _ _ _ _ e0 (by rw [h.lt]; exact e1) j0]
  unfold Tk
  split
  · simp [*]
  · simp [*]
theorem IA.skip (h : IA N E s (p :: R)) (hlt : rd s.next p.v < ((arcsOf E p.v).length : Int)) (htk : Tk s (rd_T51 (arcsOf E p.v) (rd s.next p.v)).f1) : IA N E { s with next := s.next.set p.v.toNat (rd s.next p.v + 1) } (p :: R) := by
  obtain ⟨p0, p1, p2⟩ := h.inF p (List.mem_cons_self ..)
  have rn : ∀ v, 0 ≤ v → rd (s.next.set p.v.toNat (rd s.next p.v + 1)) v = if v = p.v then rd s.next p.v + 1 else rd s.next v := fun v v0 => rd_set _ _ _ _ p0 (by rw [h.ln]; exact p1) v0
  have hp := h.nx p.v p0 p1
  refine { h with ln := by rw [List.length_set]; exact h.ln, nx := fun v v0 v1 => ?_, fin := fun v v0 v1 hv hF => ?_, un := fun v v0 v1 hv => ?_ }
  · show 0 ≤ rd (s.next.set p.v.toNat (rd s.next p.v + 1)) v ∧ rd (s.next.set p.v.toNat (rd s.next p.v + 1)) v ≤ _ ∧ ∀ i : Nat, (i : Int) < rd (s.next.set p.v.toNat (rd s.next p.v + 1)) v → _
    rw [rn v v0]
    by_cases e : v = p.v
    · rw [if_pos e, e]
      refine ⟨by omega, by omega, fun i hi => ?_⟩
      by_cases hi2 : (i : Int) < rd s.next p.v
      · exact hp.2.2 i hi2
      · have e2 : (i : Int) = rd s.next p.v := by omega
        rw [e2]; exact htk
    · rw [if_neg e]; exact h.nx v v0 v1
  · show rd (s.next.set p.v.toNat (rd s.next p.v + 1)) v = _
    rw [rn v v0, if_neg (fun e => hF p (List.mem_cons_self ..) e.symm)]
    exact h.fin v v0 v1 hv hF
  · show rd (s.next.set p.v.toNat (rd s.next p.v + 1)) v = _
    rw [rn v v0, if_neg (fun e => p2 (by rw [← e]; exact hv))]
    exact h.un v v0 v1 hv
theorem IA.back (hR : Rt N E) (h : IA N E s (p :: R)) {e a : Int} (he : At E e p.v a) (hu : ¬ Tk s e) (ha : rd s.ord a ≠ 0) : ∃ g ∈ R, g.v = a := by
  obtain ⟨-, a0, a1⟩ := he.inn hR.ends
  refine Classical.byContradiction fun hn => hu ?_
  have hpa := he.ne hR
  refine h.done he.swap a0 a1 (h.fin a a0 a1 ha (fun f hf e => ?_))
  rcases List.mem_cons.1 hf with rfl | hf
  · exact hpa e
  · exact hn ⟨f, hf, e⟩
theorem not_last {p : Fr} {R : List Fr} {g : Fr} (h : g ∈ R) (P : List Fr) (f : Fr) (e : p :: R = P ++ [f]) : ∃ P', P = p :: P' ∧ R = P' ++ [f] := by
  cases P with
  | nil => simp at e; rw [e.2] at h; cases h
  | cons x P => simp at e; exact ⟨P, by rw [e.1], e.2⟩
theorem IA.goBack (hR : Rt N E) (h : IA N E s (p :: R)) {e a : Int} (hlt : rd s.next p.v < ((arcsOf E p.v).length : Int)) (hea : (rd_T51 (arcsOf E p.v) (rd s.next p.v)) = ⟨a, e⟩) (he : At E e p.v a) (hu : ¬ Tk s e) (ha : rd s.ord a ≠ 0) :
    IA N E { s with next := s.next.set p.v.toNat (rd s.next p.v + 1), taken := s.taken.set e.toNat true, edges := s.edges ++ [e], low := s.low.set p.v.toNat (if rd s.ord a < rd s.low p.v then rd s.ord a else rd s.low p.v) } ({ p with seg := p.seg ++ [e] } :: R) := by
  obtain ⟨p0, p1, p2⟩ := h.inF p (List.mem_cons_self ..)
  obtain ⟨-, a0, a1⟩ := he.inn hR.ends
  obtain ⟨e0, e1⟩ := he.rng
  obtain ⟨g, hg, hga⟩ := h.back hR he hu ha
  have rn : ∀ v, 0 ≤ v → rd (s.next.set p.v.toNat (rd s.next p.v + 1)) v = if v = p.v then rd s.next p.v + 1 else rd s.next v := fun v v0 => rd_set _ _ _ _ p0 (by rw [h.ln]; exact p1) v0
  have rt := rdb_tk h e0 e1
  have hp := h.nx p.v p0 p1
  have hasc := List.pairwise_cons.1 h.asc
  have hnm : e ∉ s.edges ∧ ∀ b ∈ s.blocks, e ∉ b := by
    constructor
    · intro hm; exact hu ((h.part e e0 e1).2 (.inl hm))
    · intro b hb hm; exact hu ((h.part e e0 e1).2 (.inr ⟨b, hb, hm⟩))
  have rl : ∀ v x, 0 ≤ v → rd (s.low.set p.v.toNat x) v = if v = p.v then x else rd s.low v := fun v x v0 => rd_set _ _ _ _ p0 (by rw [h.ll]; exact p1) v0
  constructor
  case lo => exact h.lo
  case ll => exact (List.length_set ..).trans h.ll
  case ln => exact (List.length_set ..).trans h.ln
  case lt => exact (List.length_set ..).trans h.lt
  case lc => exact h.lc
  case stk => exact h.stk
  case edg => show s.edges ++ [e] = _; rw [h.edg, edOf_cons, edOf_cons, List.append_assoc]
  case clk => exact h.clk
  case c0 => exact h.c0
  case ordr => exact h.ordr
  case ordi => exact h.ordi
  case inF =>
    intro f hf
    rcases List.mem_cons.1 hf with rfl | hf
    · exact ⟨p0, p1, p2⟩
    · exact h.inF f (List.mem_cons_of_mem _ hf)
  case asc => exact List.pairwise_cons.2 ⟨hasc.1, hasc.2⟩
  case nx =>
    intro v v0 v1
    show 0 ≤ rd (s.next.set p.v.toNat (rd s.next p.v + 1)) v ∧ rd (s.next.set p.v.toNat (rd s.next p.v + 1)) v ≤ _ ∧ ∀ i : Nat, (i : Int) < rd (s.next.set p.v.toNat (rd s.next p.v + 1)) v → rdOf false (s.taken.set e.toNat true) _ = true
    rw [rn v v0]
    have htk : ∀ i : Nat, i < (arcsOf E v).length → Tk s (rd_T51 (arcsOf E v) i).f1 → rdOf false (s.taken.set e.toNat true) (rd_T51 (arcsOf E v) i).f1 = true := fun i hi ht =>
      (rt _ (arc_at.1 (rd51_mem _ _ (by omega) (by omega))).rng.1).2 (.inr ht)
    by_cases ev : v = p.v
    · rw [if_pos ev]
      subst ev
      refine ⟨by omega, by omega, fun i hi => ?_⟩
      by_cases hi2 : (i : Int) < rd s.next p.v
      · exact htk i (by omega) (hp.2.2 i hi2)
      · have e2 : (i : Int) = rd s.next p.v := by omega
        rw [e2, hea]
        exact (rt e e0).2 (.inl rfl)
    · rw [if_neg ev]
      have h1 := h.nx v v0 v1
      exact ⟨h1.1, h1.2.1, fun i hi => htk i (by omega) (h1.2.2 i hi)⟩
  case fin =>
    intro v v0 v1 hv hF
    show rd (s.next.set p.v.toNat (rd s.next p.v + 1)) v = _
    rw [rn v v0, if_neg (fun e => hF _ (List.mem_cons_self ..) e.symm)]
    refine h.fin v v0 v1 hv (fun f hf => ?_)
    rcases List.mem_cons.1 hf with e9 | hf
    · rw [e9]; exact hF { p with seg := p.seg ++ [e] } (List.mem_cons_self ..)
    · exact hF f (List.mem_cons_of_mem _ hf)
  case un =>
    intro v v0 v1 hv
    show rd (s.next.set p.v.toNat (rd s.next p.v + 1)) v = _
    rw [rn v v0, if_neg (fun e => p2 (by rw [← e]; exact hv))]
    exact h.un v v0 v1 hv
  case ent =>
    intro j v b hj ht
    show rd s.ord v ≠ 0
    rcases (rt j hj.rng.1).1 ht with rfl | ht
    · rcases he.two hj with ⟨h1, -⟩ | ⟨h1, -⟩ <;> rw [h1]
      · exact p2
      · exact ha
    · exact h.ent j v b hj ht
  case part =>
    intro j j0 j1
    refine (rt j j0).trans ?_
    show j = e ∨ Tk s j ↔ j ∈ s.edges ++ [e] ∨ _
    rw [h.part j j0 j1, List.mem_append, List.mem_singleton]
    constructor
    · rintro (h1 | h1 | h1)
      · exact .inl (.inr h1)
      · exact .inl (.inl h1)
      · exact .inr h1
    · rintro ((h1 | h1) | h1)
      · exact .inr (.inl h1)
      · exact .inl h1
      · exact .inr (.inr h1)
  case nd =>
    show (s.edges ++ [e] ++ s.blocks.flatten).Nodup
    have h1 := h.nd
    rw [List.append_assoc, List.nodup_append] at *
    refine ⟨h1.1, ?_, ?_⟩
    · rw [List.singleton_append, List.nodup_cons]
      refine ⟨fun hm => ?_, h1.2.1⟩
      obtain ⟨b, hb, hm⟩ := List.mem_flatten.1 hm
      exact hnm.2 b hb hm
    · intro x hx y hy exy
      rw [List.singleton_append] at hy
      rcases List.mem_cons.1 hy with rfl | hy
      · exact hnm.1 (exy ▸ hx)
      · exact h1.2.2 x hx y hy exy
  case rng =>
    intro j hj
    have hj : j ∈ s.edges ++ [e] ++ s.blocks.flatten := hj
    rw [List.append_assoc, List.mem_append, List.singleton_append, List.mem_cons] at hj
    rcases hj with hj | rfl | hj
    · exact h.rng j (List.mem_append_left _ hj)
    · exact ⟨e0, e1⟩
    · exact h.rng j (List.mem_append_right _ hj)
  case tree =>
    intro P x q R' eq
    cases P with
    | nil =>
      simp only [List.nil_append, List.cons.injEq] at eq
      obtain ⟨rfl, rfl⟩ := eq
      obtain ⟨h1, t, h2⟩ := h.tree [] p q R' rfl
      exact ⟨h1, t ++ [e], by show p.seg ++ [e] = _; rw [h2]; rfl⟩
    | cons y P =>
      simp only [List.cons_append, List.cons.injEq] at eq
      obtain ⟨-, rfl⟩ := eq
      exact h.tree (p :: P) x q R' rfl
  case root =>
    intro P f eq
    obtain ⟨P', rfl, eq2⟩ := not_last hg P f eq
    exact h.root (p :: P') f (by rw [eq2]; rfl)
  case low =>
    intro P f R' eq
    have key : ∀ f ∈ R, rd (s.low.set p.v.toNat (if rd s.ord a < rd s.low p.v then rd s.ord a else rd s.low p.v)) f.v = rd s.low f.v := fun f hf => by
      rw [rl _ _ (h.inF f (List.mem_cons_of_mem _ hf)).1, if_neg (fun e => by have := hasc.1 f hf; rw [e] at this; omega)]
    cases P with
    | nil =>
      simp only [List.nil_append, List.cons.injEq] at eq
      obtain ⟨rfl, rfl⟩ := eq
      show rd (s.low.set p.v.toNat _) p.v ≤ rd s.ord p.v ∧ ∃ g ∈ _ :: R, rd s.ord g.v = rd (s.low.set p.v.toNat _) p.v
      rw [rl _ _ p0, if_pos rfl]
      obtain ⟨h1, g2, hg2, h2⟩ := h.low [] p R rfl
      split
      · refine ⟨?_, g, List.mem_cons_of_mem _ hg, by rw [hga]⟩
        omega
      · refine ⟨h1, ?_⟩
        rcases List.mem_cons.1 hg2 with rfl | hg2
        · exact ⟨_, List.mem_cons_self .., h2⟩
        · exact ⟨g2, List.mem_cons_of_mem _ hg2, h2⟩
    | cons y P =>
      simp only [List.cons_append, List.cons.injEq] at eq
      obtain ⟨-, rfl⟩ := eq
      show rd (s.low.set p.v.toNat _) f.v ≤ rd s.ord f.v ∧ ∃ g ∈ f :: R', rd s.ord g.v = rd (s.low.set p.v.toNat _) f.v
      rw [key f (by simp)]
      exact h.low (p :: P) f R' rfl
  case bl => exact h.bl
theorem IA.push (hR : Rt N E) (h : IA N E s (p :: R)) {e x : Int} (hlt : rd s.next p.v < ((arcsOf E p.v).length : Int)) (hea : (rd_T51 (arcsOf E p.v) (rd s.next p.v)) = ⟨x, e⟩) (he : At E e p.v x) (hu : ¬ Tk s e) (hx : rd s.ord x = 0) :
    IA N E { s with next := s.next.set p.v.toNat (rd s.next p.v + 1), taken := s.taken.set e.toNat true, edges := s.edges ++ [e], clock := s.clock + 1, ord := s.ord.set x.toNat (s.clock + 1), low := s.low.set x.toNat (s.clock + 1), stack := s.stack ++ [⟨x, e⟩] } (⟨x, e, [e]⟩ :: p :: R) := by
  obtain ⟨p0, p1, p2⟩ := h.inF p (List.mem_cons_self ..)
  obtain ⟨-, x0, x1⟩ := he.inn hR.ends
  obtain ⟨e0, e1⟩ := he.rng
  have rn : ∀ v, 0 ≤ v → rd (s.next.set p.v.toNat (rd s.next p.v + 1)) v = if v = p.v then rd s.next p.v + 1 else rd s.next v := fun v v0 => rd_set _ _ _ _ p0 (by rw [h.ln]; exact p1) v0
  have ro : ∀ v, 0 ≤ v → rd (s.ord.set x.toNat (s.clock + 1)) v = if v = x then s.clock + 1 else rd s.ord v := fun v v0 => rd_set _ _ _ _ x0 (by rw [h.lo]; exact x1) v0
  have rl : ∀ v, 0 ≤ v → rd (s.low.set x.toNat (s.clock + 1)) v = if v = x then s.clock + 1 else rd s.low v := fun v v0 => rd_set _ _ _ _ x0 (by rw [h.ll]; exact x1) v0
  have rt := rdb_tk h e0 e1
  have hp := h.nx p.v p0 p1
  have c0 := h.c0
  have fx : ∀ f ∈ p :: R, f.v ≠ x := fun f hf ex => (h.inF f hf).2.2 (by rw [ex]; exact hx)
  have rof : ∀ f ∈ p :: R, rd (s.ord.set x.toNat (s.clock + 1)) f.v = rd s.ord f.v := fun f hf => by rw [ro _ (h.inF f hf).1, if_neg (fx f hf)]
  have rlf : ∀ f ∈ p :: R, rd (s.low.set x.toNat (s.clock + 1)) f.v = rd s.low f.v := fun f hf => by rw [rl _ (h.inF f hf).1, if_neg (fx f hf)]
  have hnm : e ∉ s.edges ∧ ∀ b ∈ s.blocks, e ∉ b := by
    constructor
    · intro hm; exact hu ((h.part e e0 e1).2 (.inl hm))
    · intro b hb hm; exact hu ((h.part e e0 e1).2 (.inr ⟨b, hb, hm⟩))
  constructor
  case lo => exact (List.length_set ..).trans h.lo
  case ll => exact (List.length_set ..).trans h.ll
  case ln => exact (List.length_set ..).trans h.ln
  case lt => exact (List.length_set ..).trans h.lt
  case lc => exact h.lc
  case stk => show s.stack ++ [⟨x, e⟩] = _; rw [h.stk, stOf_cons _ (p :: R)]; rfl
  case edg => show s.edges ++ [e] = _; rw [h.edg, edOf_cons _ (p :: R)]
  case clk =>
    show s.clock + 1 + ((s.ord.set x.toNat (s.clock + 1)).count 0 : Int) = N
    have h1 := count_set 0 (s.clock + 1) (by omega) s.ord x.toNat (by rw [h.lo]; omega) (by rw [Int.toNat_of_nonneg x0]; exact hx)
    have h2 := h.clk
    omega
  case c0 => show 0 ≤ s.clock + 1; omega
  case ordr =>
    intro v v0 v1
    show 0 ≤ rd (s.ord.set x.toNat (s.clock + 1)) v ∧ rd (s.ord.set x.toNat (s.clock + 1)) v ≤ s.clock + 1
    rw [ro v v0]
    have := h.ordr v v0 v1
    split <;> omega
  case ordi =>
    intro u v u0 u1 v0 v1 he hn
    have he : rd (s.ord.set x.toNat (s.clock + 1)) u = rd (s.ord.set x.toNat (s.clock + 1)) v := he
    have hn : rd (s.ord.set x.toNat (s.clock + 1)) u ≠ 0 := hn
    rw [ro u u0] at he hn
    rw [ro v v0] at he
    have h1 := h.ordr u u0 u1
    have h2 := h.ordr v v0 v1
    by_cases a : u = x
    · rw [if_pos a] at he
      by_cases b : v = x
      · rw [a, b]
      · rw [if_neg b] at he; omega
    · rw [if_neg a] at he hn
      by_cases b : v = x
      · rw [if_pos b] at he; omega
      · rw [if_neg b] at he; exact h.ordi u v u0 u1 v0 v1 he hn
  case inF =>
    intro f hf
    show 0 ≤ f.v ∧ f.v < (N : Int) ∧ rd (s.ord.set x.toNat (s.clock + 1)) f.v ≠ 0
    rcases List.mem_cons.1 hf with rfl | hf
    · exact ⟨x0, x1, by rw [ro _ x0, if_pos rfl]; omega⟩
    · rw [rof f hf]; exact h.inF f hf
  case asc =>
    refine List.pairwise_cons.2 ⟨fun f hf => ?_, ?_⟩
    · show rd (s.ord.set x.toNat (s.clock + 1)) f.v < rd (s.ord.set x.toNat (s.clock + 1)) x
      rw [rof f hf, ro x x0, if_pos rfl]
      have := h.ordr f.v (h.inF f hf).1 (h.inF f hf).2.1
      omega
    · refine h.asc.imp_of_mem (fun {a b} ha hb hab => ?_)
      show rd (s.ord.set x.toNat (s.clock + 1)) b.v < rd (s.ord.set x.toNat (s.clock + 1)) a.v
      rw [rof a ha, rof b hb]; exact hab
  case nx =>
    intro v v0 v1
    show 0 ≤ rd (s.next.set p.v.toNat (rd s.next p.v + 1)) v ∧ rd (s.next.set p.v.toNat (rd s.next p.v + 1)) v ≤ _ ∧ ∀ i : Nat, (i : Int) < rd (s.next.set p.v.toNat (rd s.next p.v + 1)) v → rdOf false (s.taken.set e.toNat true) _ = true
    rw [rn v v0]
    have htk : ∀ i : Nat, i < (arcsOf E v).length → Tk s (rd_T51 (arcsOf E v) i).f1 → rdOf false (s.taken.set e.toNat true) (rd_T51 (arcsOf E v) i).f1 = true := fun i hi ht =>
      (rt _ (arc_at.1 (rd51_mem _ _ (by omega) (by omega))).rng.1).2 (.inr ht)
    by_cases ev : v = p.v
    · rw [if_pos ev]
      subst ev
      refine ⟨by omega, by omega, fun i hi => ?_⟩
      by_cases hi2 : (i : Int) < rd s.next p.v
      · exact htk i (by omega) (hp.2.2 i hi2)
      · have e2 : (i : Int) = rd s.next p.v := by omega
        rw [e2, hea]
        exact (rt e e0).2 (.inl rfl)
    · rw [if_neg ev]
      have h1 := h.nx v v0 v1
      exact ⟨h1.1, h1.2.1, fun i hi => htk i (by omega) (h1.2.2 i hi)⟩
  case fin =>
    intro v v0 v1 hv hF
    have hv : rd (s.ord.set x.toNat (s.clock + 1)) v ≠ 0 := hv
    have hvx : v ≠ x := fun e => hF ⟨x, _, _⟩ (List.mem_cons_self ..) e.symm
    rw [ro v v0, if_neg hvx] at hv
    show rd (s.next.set p.v.toNat (rd s.next p.v + 1)) v = _
    rw [rn v v0, if_neg (fun e => hF p (by simp) e.symm)]
    exact h.fin v v0 v1 hv (fun f hf => hF f (List.mem_cons_of_mem _ hf))
  case un =>
    intro v v0 v1 hv
    have hv : rd (s.ord.set x.toNat (s.clock + 1)) v = 0 := hv
    rw [ro v v0] at hv
    show rd (s.next.set p.v.toNat (rd s.next p.v + 1)) v = _
    split at hv
    · omega
    · rw [rn v v0, if_neg (fun e => p2 (by rw [← e]; exact hv))]
      exact h.un v v0 v1 hv
  case ent =>
    intro j v b hj ht
    show rd (s.ord.set x.toNat (s.clock + 1)) v ≠ 0
    have v0 := (hj.inn hR.ends).1.1
    rw [ro v v0]
    split
    · omega
    · rename_i hvx
      rcases (rt j hj.rng.1).1 ht with rfl | ht
      · rcases he.two hj with ⟨h1, -⟩ | ⟨h1, -⟩
        · rw [h1]; exact p2
        · exact absurd h1 hvx
      · exact h.ent j v b hj ht
  case part =>
    intro j j0 j1
    refine (rt j j0).trans ?_
    show j = e ∨ Tk s j ↔ j ∈ s.edges ++ [e] ∨ _
    rw [h.part j j0 j1, List.mem_append, List.mem_singleton]
    constructor
    · rintro (h1 | h1 | h1)
      · exact .inl (.inr h1)
      · exact .inl (.inl h1)
      · exact .inr h1
    · rintro ((h1 | h1) | h1)
      · exact .inr (.inl h1)
      · exact .inl h1
      · exact .inr (.inr h1)
  case nd =>
    show (s.edges ++ [e] ++ s.blocks.flatten).Nodup
    have h1 := h.nd
    rw [List.append_assoc, List.nodup_append] at *
    refine ⟨h1.1, ?_, ?_⟩
    · rw [List.singleton_append, List.nodup_cons]
      refine ⟨fun hm => ?_, h1.2.1⟩
      obtain ⟨b, hb, hm⟩ := List.mem_flatten.1 hm
      exact hnm.2 b hb hm
    · intro y hy z hz exy
      rw [List.singleton_append] at hz
      rcases List.mem_cons.1 hz with rfl | hz
      · exact hnm.1 (exy ▸ hy)
      · exact h1.2.2 y hy z hz exy
  case rng =>
    intro j hj
    have hj : j ∈ s.edges ++ [e] ++ s.blocks.flatten := hj
    rw [List.append_assoc, List.mem_append, List.singleton_append, List.mem_cons] at hj
    rcases hj with hj | rfl | hj
    · exact h.rng j (List.mem_append_left _ hj)
    · exact ⟨e0, e1⟩
    · exact h.rng j (List.mem_append_right _ hj)
  case tree =>
    intro P y q R' eq
    cases P with
    | nil =>
      simp only [List.nil_append, List.cons.injEq] at eq
      obtain ⟨rfl, rfl, rfl⟩ := eq
      exact ⟨he, [], rfl⟩
    | cons z P =>
      simp only [List.cons_append, List.cons.injEq] at eq
      exact h.tree P y q R' eq.2
  case root =>
    intro P f eq
    cases P with
    | nil => simp at eq
    | cons z P =>
      simp only [List.cons_append, List.cons.injEq] at eq
      exact h.root P f eq.2
  case low =>
    intro P f R' eq
    show rd (s.low.set x.toNat (s.clock + 1)) f.v ≤ rd (s.ord.set x.toNat (s.clock + 1)) f.v ∧ ∃ g ∈ f :: R', rd (s.ord.set x.toNat (s.clock + 1)) g.v = rd (s.low.set x.toNat (s.clock + 1)) f.v
    cases P with
    | nil =>
      simp only [List.nil_append, List.cons.injEq] at eq
      obtain ⟨rfl, rfl⟩ := eq
      rw [rl _ x0, ro _ x0, if_pos rfl, if_pos rfl]
      exact ⟨Int.le_refl _, _, List.mem_cons_self .., by rw [ro _ x0, if_pos rfl]⟩
    | cons z P =>
      simp only [List.cons_append, List.cons.injEq] at eq
      obtain ⟨h1, g, hg, h2⟩ := h.low P f R' eq.2
      have hf : f ∈ p :: R := by rw [eq.2]; simp
      have hg2 : g ∈ p :: R := by rw [eq.2]; exact List.mem_append_right _ hg
      rw [rlf f hf, rof f hf]
      exact ⟨h1, g, hg, by rw [rof g hg2]; exact h2⟩
  case bl => exact h.bl
theorem IA.begin (hR : Rt N E) (h : IA N E s []) {r : Int} (r0 : 0 ≤ r) (r1 : r < (N : Int)) (hr : rd s.ord r = 0) :
    IA N E { s with clock := s.clock + 1, ord := s.ord.set r.toNat (s.clock + 1), low := s.low.set r.toNat (s.clock + 1), stack := s.stack ++ [⟨r, -1⟩] } [⟨r, -1, []⟩] := by
  have ro : ∀ v, 0 ≤ v → rd (s.ord.set r.toNat (s.clock + 1)) v = if v = r then s.clock + 1 else rd s.ord v := fun v v0 => rd_set _ _ _ _ r0 (by rw [h.lo]; exact r1) v0
  have rl : ∀ v, 0 ≤ v → rd (s.low.set r.toNat (s.clock + 1)) v = if v = r then s.clock + 1 else rd s.low v := fun v v0 => rd_set _ _ _ _ r0 (by rw [h.ll]; exact r1) v0
  have c0 := h.c0
  constructor
  case lo => exact (List.length_set ..).trans h.lo
  case ll => exact (List.length_set ..).trans h.ll
  case ln => exact h.ln
  case lt => exact h.lt
  case lc => exact h.lc
  case stk => show s.stack ++ [⟨r, -1⟩] = _; rw [h.stk]; rfl
  case edg => show s.edges = _; rw [h.edg]; rfl
  case clk =>
    show s.clock + 1 + ((s.ord.set r.toNat (s.clock + 1)).count 0 : Int) = N
    have h1 := count_set 0 (s.clock + 1) (by omega) s.ord r.toNat (by rw [h.lo]; omega) (by rw [Int.toNat_of_nonneg r0]; exact hr)
    have h2 := h.clk
    omega
  case c0 => show 0 ≤ s.clock + 1; omega
  case ordr =>
    intro v v0 v1
    show 0 ≤ rd (s.ord.set r.toNat (s.clock + 1)) v ∧ rd (s.ord.set r.toNat (s.clock + 1)) v ≤ s.clock + 1
    rw [ro v v0]
    have := h.ordr v v0 v1
    split <;> omega
  case ordi =>
    intro u v u0 u1 v0 v1 he hn
    have he : rd (s.ord.set r.toNat (s.clock + 1)) u = rd (s.ord.set r.toNat (s.clock + 1)) v := he
    have hn : rd (s.ord.set r.toNat (s.clock + 1)) u ≠ 0 := hn
    rw [ro u u0] at he hn
    rw [ro v v0] at he
    have h1 := h.ordr u u0 u1
    have h2 := h.ordr v v0 v1
    by_cases a : u = r
    · rw [if_pos a] at he
      by_cases b : v = r
      · rw [a, b]
      · rw [if_neg b] at he; omega
    · rw [if_neg a] at he hn
      by_cases b : v = r
      · rw [if_pos b] at he; omega
      · rw [if_neg b] at he; exact h.ordi u v u0 u1 v0 v1 he hn
  case inF =>
    intro f hf
    rw [List.mem_singleton] at hf
    subst hf
    exact ⟨r0, r1, by show rd (s.ord.set r.toNat (s.clock + 1)) r ≠ 0; rw [ro _ r0, if_pos rfl]; omega⟩
  case asc => exact List.pairwise_singleton _ _
  case nx => exact h.nx
  case fin =>
    intro v v0 v1 hv hF
    have hv : rd (s.ord.set r.toNat (s.clock + 1)) v ≠ 0 := hv
    rw [ro v v0, if_neg (fun e => hF ⟨r, _, _⟩ (List.mem_cons_self ..) e.symm)] at hv
    exact h.fin v v0 v1 hv (fun f hf => by cases hf)
  case un =>
    intro v v0 v1 hv
    have hv : rd (s.ord.set r.toNat (s.clock + 1)) v = 0 := hv
    rw [ro v v0] at hv
    split at hv
    · omega
    · exact h.un v v0 v1 hv
  case ent =>
    intro j v b hj ht
    show rd (s.ord.set r.toNat (s.clock + 1)) v ≠ 0
    have hv := (hj.inn hR.ends).1.1
    rw [ro v hv]
    split
    · omega
    · exact h.ent j v b hj ht
  case part => exact h.part
  case nd => exact h.nd
  case rng => exact h.rng
  case tree =>
    intro P y q R' eq
    have := congrArg List.length eq
    simp at this
    omega
  case root =>
    intro P f eq
    cases P with
    | nil => simp at eq; rw [← eq]
    | cons z P => simp at eq
  case low =>
    intro P f R' eq
    cases P with
    | nil =>
      simp only [List.nil_append, List.cons.injEq] at eq
      obtain ⟨rfl, rfl⟩ := eq
      show rd (s.low.set r.toNat (s.clock + 1)) r ≤ rd (s.ord.set r.toNat (s.clock + 1)) r ∧ ∃ g : Fr, g ∈ _ ∧ rd (s.ord.set r.toNat (s.clock + 1)) g.v = rd (s.low.set r.toNat (s.clock + 1)) r
      rw [rl _ r0, ro _ r0, if_pos rfl, if_pos rfl]
      exact ⟨Int.le_refl _, _, List.mem_cons_self .., by rw [ro _ r0, if_pos rfl]⟩
    | cons z P => simp at eq
  case bl => exact h.bl
end
end Go.Proofs.Ytkiemlbobcklpaa.A
