/- Lemmas for the statement: the walks of the functions that it reaches, and plain laws. -/
import Derived.Test.YteicpdkembmilaaG1
set_option linter.unusedVariables false
set_option linter.unusedSimpArgs false
set_option maxHeartbeats 8000000
set_option maxRecDepth 100000
namespace Go.Proofs.Yteicpdkembmilaa.A
open Go Go.RowKit Go.Proofs.YteicpdkembmilaaW.PrintWords Go.Proofs.YteicpdkembmilaaW.PrintLast Go.Proofs.YteicpdkembmilaaW.PrintMore
attribute [local go_sem] max2_int min2_int max_two min_two max_three min_three max_four min_four
open Go.Proofs.YteicpdkembmilaaW.PrintWords.Kd renaming R_alloc → zRa, R_drewN → zRn, R_drew → zRd, C_alloc → zCa, C_drewN → zCn, C_drew → zCd, R_mono → zRm, at_int → zAi, R_elder' → zRe, R_lower → zRl, R_new' → zRw, R_lt → zRt, R_below → zRb, R_base → zRz, R_reads' → zRr, R_slice → zRs
open Go.Proofs.YteicpdkembmilaaW.PrintWords renaming pw_below_drewN → zBn, below_alloc → zBa, below_drew1 → zBd, below_size → zBs, below_step → zBt, blk_drewN → zKn, blk_drew → zKd, blk_alloc → zKa, blk_below → zKb, blk_cell → zKc, blk_frozen → zKf
open List renaming setIfInBounds_toArray → zSa, set_cons_zero → zSb, set_cons_succ → zSc, length_drop → zLd, length_take → zLt, map_toArray → zMa, map_cons → zMc, map_nil → zMn, length_cons → zLc, length_nil → zLn
open Go.Proofs.YteicpdkembmilaaW.PrintWords.Aside0 renaming mk → zMk
open Option renaming bind_eq_some_iff → zBi, bind_some → zOb
open Option.some renaming inj → zOi
open Int renaming toNat_natCast → zTn
theorem w64 {x : Int} (h0 : -9223372036854775808 ≤ x) (h1 : x ≤ 9223372036854775807) : wrap64 x = x := by unfold wrap64; omega
def aloneI (n : Int) (e : S36) : Int :=
  if e.f0 < 0 ∨ e.f0 ≥ n ∨ e.f1 < 0 ∨ e.f1 ≥ n then 5 else if e.f0 = e.f1 then 6 else if e.f2 ≤ -2147483648 ∨ e.f2 ≥ 2147483648 then 8 else 0
theorem alone_eq (k : Nat) (n : Int) (e : S36) : graph_alone.f (k + 1) n e.f0 e.f1 e.f2 = some (aloneI n e) := by
  unfold graph_alone.f aloneI
  simp only [graph_alone.j0, mn, mx, if_true]
  by_cases h1 : e.f1 < e.f0 <;> by_cases h2 : e.f0 < e.f1 <;> simp only [h1, h2, if_true, if_false]
  all_goals repeat' split
  all_goals first | rfl | (exfalso; omega) | (exfalso; simp only [decide_eq_true_eq] at *; omega)
def ordE (a b : S36) : Int := if a.f0 < b.f0 then -1 else if b.f0 < a.f0 then 1 else if a.f1 < b.f1 then -1 else if b.f1 < a.f1 then 1 else 0
theorem compare_eq (a b : Int) : cmp_Compare_int.f a b = some (if a < b then -1 else if b < a then 1 else 0) := by
  simp only [cmp_Compare_int.f, cmp_isNaN_int.f, zOb, bne_self_eq_false, Bool.false_eq_true, if_false]
  repeat' split
  all_goals first | rfl | omega
theorem or_eq (k : Nat) (p q : Int) : cmp_Or_int.f (k + 3) [p, q] = some (if p = 0 then q else p) := by
  unfold cmp_Or_int.f
  simp only [cmp_Or_int.l0, zLc, zLn]
  by_cases hp : p = 0
  · subst hp
    by_cases hq : q = 0
    · subst hq; simp [rd, wrap64]
    · simp [rd, wrap64, hq]
  · simp [rd, hp]
theorem order_eq (k : Nat) (a b : S36) : graph_order.f (k + 3) a.f0 a.f1 a.f2 b.f0 b.f1 b.f2 = some (ordE a b) := by
  simp only [graph_order.f, compare_eq, zOb, or_eq, ordE]
  congr 1
  repeat' split
  all_goals omega
theorem ordE_swap (a b : S36) : ordE b a = - ordE a b := by
  unfold ordE
  repeat' split
  all_goals omega
theorem ordE_cases (a b : S36) : ordE a b = -1 ∨ ordE a b = 0 ∨ ordE a b = 1 := by
  unfold ordE
  repeat' split
  all_goals simp
def rgt (n : Int) : Option S36 → List S36 → Int
  | _, [] => 0
  | p, e :: l =>
    if aloneI n e ≠ 0 then aloneI n e
    else if e.f0 > e.f1 then 1
    else match p with
      | none => rgt n (some e) l
      | some p => if ordE p e = 0 then 7 else if ordE p e = 1 then 1 else rgt n (some e) l
def sizesI (n m : Int) : Int := if n < 0 then 1 else if n > 1048576 then 4 else if m > 4194304 then 4 else 0
theorem sizes_eq (n m : Int) : graph_sizes.f n m = some (sizesI n m) := by
  unfold graph_sizes.f sizesI
  repeat' split
  all_goals rfl
def rightI (n : Int) (l : List S36) : Int := if sizesI n l.length = 0 then rgt n none l else sizesI n l.length
def lastE (l : List S36) (i : Nat) : Option S36 := if i = 0 then none else some (rd_T36 l ((i - 1 : Nat) : Int))
theorem rdE_get (l : List S36) (i : Nat) (h : i < l.length) : rd_T36 l (i : Int) = l[i] := by
  unfold rd_T36
  rw [zTn]
  simp [h]
theorem dropE (l : List S36) (i : Nat) (h : i < l.length) : l.drop i = rd_T36 l (i : Int) :: l.drop (i + 1) := by
  rw [List.drop_eq_getElem_cons h, rdE_get l i h]
theorem Right_l0 (n : Int) (l : List S36) (hm : l.length ≤ 4194304) (d : Nat) : ∀ (k i : Nat), l.length - i = d → i ≤ l.length → d + 4 ≤ k →
    graph_Right.l0 k l (l.length : Int) i n l = some (rgt n (lastE l i) (l.drop i)) := by
  induction d with
  | zero =>
    intro k i hd hi hk
    obtain ⟨k, rfl⟩ : ∃ m, k = m + 1 := ⟨k - 1, by omega⟩
    obtain rfl : i = l.length := by omega
    rw [List.drop_length]
    simp only [graph_Right.l0]
    rw [if_neg (by omega)]
    simp [rgt]
  | succ d ih =>
    intro k i hd hi hk
    obtain ⟨k, rfl⟩ : ∃ m, k = m + 1 := ⟨k - 1, by omega⟩
    obtain ⟨k1, hk1⟩ : ∃ m, k = m + 1 := ⟨k - 1, by omega⟩
    obtain ⟨k3, hk3⟩ : ∃ m, k = m + 3 := ⟨k - 3, by omega⟩
    have hlt : i < l.length := by omega
    rw [dropE l i hlt]
    have hnext := ih k (i + 1) (by omega) (by omega) (by omega)
    have hl1 : lastE l (i + 1) = some (rd_T36 l (i : Int)) := by unfold lastE; rw [if_neg (by omega)]; rfl
    rw [hl1] at hnext
    have hwn : wrap64 ((i : Int) + 1) = ((i + 1 : Nat) : Int) := by rw [w64 (by omega) (by omega)]; omega
    simp only [graph_Right.l0]
    rw [if_pos (by omega), if_pos (by omega), if_pos (by omega)]
    have ha : graph_alone.f k n (rd_T36 l (i : Int)).f0 (rd_T36 l (i : Int)).f1 (rd_T36 l (i : Int)).f2 = some (aloneI n (rd_T36 l (i : Int))) := by rw [hk1]; exact alone_eq _ _ _
    rw [ha, zOb]
    unfold rgt
    by_cases h0 : aloneI n (rd_T36 l (i : Int)) = 0
    · rw [if_pos h0, if_neg (not_not_intro h0)]
      by_cases hgt : (rd_T36 l (i : Int)).f0 > (rd_T36 l (i : Int)).f1
      · rw [if_pos hgt, if_pos hgt]
      · rw [if_neg hgt, if_neg hgt]
        by_cases hi0 : i = 0
        · rw [if_pos (by omega), hwn, hnext]
          simp [lastE, hi0]
        · have hwm : wrap64 ((i : Int) - 1) = ((i - 1 : Nat) : Int) := by rw [w64 (by omega) (by omega)]; omega
          have ho : graph_order.f k (rd_T36 l ((i - 1 : Nat) : Int)).f0 (rd_T36 l ((i - 1 : Nat) : Int)).f1 (rd_T36 l ((i - 1 : Nat) : Int)).f2 (rd_T36 l (i : Int)).f0 (rd_T36 l (i : Int)).f1 (rd_T36 l (i : Int)).f2 = some (ordE (rd_T36 l ((i - 1 : Nat) : Int)) (rd_T36 l (i : Int))) := by rw [hk3]; exact order_eq _ _ _
          rw [if_neg (by omega), hwm, if_pos (by omega), if_pos (by omega), ho, zOb, hwn, hnext]
          have hl0 : lastE l i = some (rd_T36 l ((i - 1 : Nat) : Int)) := by unfold lastE; rw [if_neg hi0]
          rw [hl0]
          repeat' split
          all_goals simp_all
    · rw [if_neg h0, if_pos h0]
theorem Right_eq (k : Nat) (n : Int) (l : List S36) (hk : l.length + 4 ≤ k) : graph_Right.f k n l = some (rightI n l) := by
  unfold graph_Right.f rightI
  rw [sizes_eq, zOb]
  by_cases h : sizesI n l.length = 0
  · rw [if_pos h, if_pos h]
    have hm : l.length ≤ 4194304 := by
      unfold sizesI at h
      repeat' split at h
      all_goals omega
    have := Right_l0 n l hm l.length k 0 (by omega) (by omega) (by omega)
    simpa [lastE] using this
  · rw [if_neg h, if_neg h]

theorem eqA36 (d : Nat) (w : World) (x0 y0 : Int) (x1 y1 : Int) (x2 y2 : Int) :
    (Op.equalIn (d + 2) 36 (.agg #[.int .i64 x0, .int .i64 x1, .int .i64 x2]) (.agg #[.int .i64 y0, .int .i64 y1, .int .i64 y2])).run Try.prog w = .ok (x0 == y0 && (x1 == y1 && (x2 == y2))) w := by
  refine eqA_of Try.underlying36 (by kernel_rfl) ?_
  refine eqf_cons (by rfl) (by go_simp; rfl) (by go_simp; rfl) (by go_simp) ?_
  refine eqf_cons (by rfl) (by go_simp; rfl) (by go_simp; rfl) (by go_simp) ?_
  exact eqf_last (by rfl) (by go_simp; rfl) (by go_simp; rfl) (by go_simp)


def api_Edge_38.f (l0 : List S36) : Option (List S36) := if l0.length < 5864062014805 then some l0 else none
theorem api_Edge_38.calls (A0 : Option Addr) (c0 : Nat) (l0 : List S36) (r : List S36) (w : World) (hr0 : Kd.C k36 w A0 l0.length l0) (hc0 : l0.length ≤ c0) (h : api_Edge_38.f l0 = some r) :
    Calls Try.prog 38 #[.slice A0 l0.length c0] w fun e w' => ∃ v0_ : Value, e = .returned (v0_) ∧ Kd.R k36 36 w' w.heap.size (fun _ => True) v0_ r ∧ Below w.heap.size w w' := by
  have HR0 := zMk hr0
  have HB := zMk (Below.refl w.heap.size w)
  unfold api_Edge_38.f at h
  by_cases hl : l0.length < 5864062014805
  · rw [if_pos hl] at h
    obtain rfl := zOi h
    have LM := zMk hl
    clear hl h hr0
    have knil : ∀ (W : World) (a : Option Addr) (n c : Nat), (binOp .eql 22 (.slice a n c) (.slice none 0 0)).run Try.prog W = .ok (.bool a.isNone) W := fun W a n c => Lib.run_eql_slice_nil W 22 36 a n c 0 0 Try.underlying22
    cases A0 with
    | none =>
      have h0 : l0 = [] := by
        have h3 := HR0.out.2.2
        rcases Nat.eq_zero_or_pos l0.length with h4 | h4
        · exact List.eq_nil_of_length_eq_zero h4
        · obtain ⟨ad, e, _⟩ := h3 h4
          cases e
      subst h0
      go_enter Try.func38, Try.ntmps38
      go_wp2
      go_ret
      exact ⟨_, rfl, Kd.R_nil _ _ _ _ _, HB.out⟩
    | some ad =>
      go_enter Try.func38, Try.ntmps38
      go_wp2_with (first | ((with_reducible refine gate_dst (N := 5) rfl ?_); refine Kd.R_lit k36 _ 36 ?hg (N := 5) ?hd (xs := ([] : List S36)) (inner := []) (ok := fun _ => True) (okp := fun _ => True) ?hr ?hp (fun _ hk => hk) trivial (Below.refl _ _) (Nat.le_refl _) (by simp) ?_; (case hd => rfl); (case hg => rfl); (case hr => first | (go_simp; done)|(go_simp; rfl)); (case hp => exact (Reps.none _ _)); intro v247 w10 ho11 hb hg_ hnew_; clear hg_ hnew_; have HO248 := zMk (zRl ho11 (zBs HB.out)); replace HB := zMk (zBt HB.out hb); clear hb ho11)|((with_reducible refine gate_builtin (b := .append) (xs := #[.tmp 5, .tmp 6]) rfl ?_); at_builtin; refine Kd.R_append_rows k36 (w0 := w) w.heap.size rfl (.tmp 5) (.tmp 6) 22 36 (.agg #[(.int .i64 0), (.int .i64 0), (.int .i64 0)]) 24 rfl Try.underlying22 info36 rfl (by decide) (by omega) v247 [] l0 _ _ _ (fun _ => True) (fun _ => False) rfl rfl HO248.out (Kd.C_below HR0.out HB.out) (fun _ _ h => h) (fun _ h => h.elim) (fun _ _ => trivial) HB.out (zBs HB.out) (by have := LM.out; simp only [zLn]; omega) ?_; intro v251 w13 ho hb hg hat; replace HB := zMk (hb); have HO252 := zMk (ho); clear HO248 ho hb hg hat))
      go_ret
      exact ⟨_, rfl, by simpa using HO252.out, HB.out⟩
  · rw [if_neg hl] at h
    cases h


section
open Go.Sort hiding Below
def sortE (l : List S36) : List S36 := (pdq (ltOf cfE) l.toArray 0 l.length (Lib.bitLen l.length) true true).toList
theorem sortE_facts (l : List S36) : PermIn 0 l.toArray.size l.toArray (sortE l).toArray ∧ SortedIn (ltOf cfE) 0 l.toArray.size (sortE l).toArray := by
  have h := pdq_sorts (ltOf cfE) swoE l.toArray 0 l.toArray.size (Lib.bitLen l.length) true true (Nat.zero_le _) (Nat.le_refl _) (Or.inl rfl)
  simpa [sortE] using h
theorem sortE_length (l : List S36) : (sortE l).length = l.length := by
  have := (sortE_facts l).1.1
  simpa using this
theorem sortE_perm (l : List S36) : (sortE l).Perm l := by
  have h := (sortE_facts l).1
  have h1 := h.2.2
  have h2 := h.1
  simp only [List.size_toArray] at h1 h2
  have h3 : (List.take l.length (sortE l)).Perm l := by simpa [List.extract, h2] using h1
  rwa [List.take_of_length_le (by rw [sortE_length]; exact Nat.le_refl _)] at h3
theorem sortE_nil : sortE [] = [] := List.length_eq_zero_iff.1 (sortE_length [])
def api_Edge_39.f (l0 : List S36) : Option (List S36) := if l0.length < 4611686018427387904 then some (sortE l0) else none
theorem api_Edge_39.calls (P0_ : Nat → Prop) (u0 : Value) (l0 : List S36) (r : List S36) (w0 w : World) (hB : Below w0.heap.size w0 w) (ho0 : Kd.R k36 36 w w0.heap.size P0_ u0 l0) (h : api_Edge_39.f l0 = some r) :
    Calls Try.prog 39 #[u0, .func (.func 34) #[] #[]] w fun e w' => e = .returned (.tuple #[]) ∧ Kd.R k36 36 w' w0.heap.size (fun k_ => (P0_ k_ ∨ w.heap.size ≤ k_)) u0 r ∧ Below w0.heap.size w0 w' ∧ Kept w w' (fun k_ => P0_ k_) := by
  unfold api_Edge_39.f at h
  by_cases hl : l0.length < 4611686018427387904
  · rw [if_pos hl] at h
    obtain rfl := zOi h
    obtain ⟨hok, inner, ⟨hlen, ho⟩, hr⟩ := ho0
    rcases ho with ⟨rfl, h0⟩ | ⟨g, cap, cur, rfl, hg, hb, h1, h2, h3, h4⟩
    · have : l0 = [] := List.length_eq_zero_iff.1 h0
      subst this
      refine (Try.slices_SortFunc_none none 0 (.func (.func 34) #[] #[]) w).mono ?_
      rintro e w' ⟨rfl, rfl⟩
      refine ⟨rfl, ?_, hB, Kept.refl _ _⟩
      rw [sortE_nil]
      exact Kd.R_nil _ _ _ _ _
    · have eO : ∀ args w, (callFunc 34 args).run Try.prog w = .ok (.enter 34 args) w := enters_of Try.func34 (by kernel_rfl) rfl
      have hblk : g < w.heap.size := (Array.getElem?_eq_some_iff.1 hb).1
      have hH : HoldsK encE 3 w g 0 l0.toArray := held_row (fun x c h => k36_openM h) hr hb h4
      have hcon := Try.slices_SortFunc_eq encE (fun _ => rfl) (fun x v hv => by simp [encE] at hv; rcases hv with rfl | rfl | rfl <;> rfl) cfE swoE 34 #[] g 0 cap l0.toArray w eO (cmpLaysE _ _ _ _) hH hblk (by simpa using hl)
      rw [List.size_toArray] at hcon
      refine hcon.mono ?_
      rintro e w' ⟨rfl, n, os, rfl⟩
      have e2 : pdq (ltOf cfE) l0.toArray 0 l0.length (Lib.bitLen l0.length) true true = (sortE l0).toArray := by simp [sortE]
      rw [e2]
      refine ⟨rfl, sorted_row (sortE_length l0) (.inl (hok g (by simp [Value.ownBlock]))) hg hb h1 h2 h3, hB.grown (grown_sortK _) hB.size (fun k hk => by cases hk; exact hg), ?_⟩
      exact Kept.of_grown (grown_sortK _) (Kept.refl _ _) (fun k hk => .inl (by cases hk; exact hok g (by simp [Value.ownBlock])))
  · rw [if_neg hl] at h
    cases h
end


section
open Go.Sort hiding Below
theorem flat_get (xs : List S36) (t : Nat) (ht : t < xs.length * 3) : (flatK encE 3 xs.toArray).toList[t]? = some ((encE (rd_T36 xs (t / 3 : Nat)))[t % 3]!) := by
  have hb : t < (flatK encE 3 xs.toArray).size := by simpa using ht
  have hj : t / 3 < xs.length := by omega
  rw [Array.getElem?_toList, Array.getElem?_eq_getElem hb, ← getElem!_pos (flatK encE 3 xs.toArray) t hb, get_flatK _ _ _ _ (by simpa using ht)]
  have : xs.toArray[t / 3]! = rd_T36 xs (t / 3 : Nat) := by
    unfold rd_T36
    rw [zTn]
    simp [hj]
  rw [this]
def ownE (w : World) (g cap : Nat) (xs : List S36) : Prop := ∃ cur, w.heap[g]? = some (.cells cur 36 (0, 0)) ∧ cur.size = cap * 3 ∧ cur.toList.take (xs.length * 3) = (flatK encE 3 xs.toArray).toList
theorem ownE_cell {w : World} {g cap : Nat} {xs : List S36} (h : ownE w g cap xs) (i c : Nat) (hi : i < xs.length) (hc : c < 3) : w.cell? ⟨g, i * 3 + c, none⟩ = some ((encE (rd_T36 xs (i : Int)))[c]!) := by
  obtain ⟨cur, hb, hs, ht⟩ := h
  have h1 := flat_get xs (i * 3 + c) (by omega)
  rw [← ht, List.getElem?_take_of_lt (by omega), show (i * 3 + c) / 3 = i by omega, show (i * 3 + c) % 3 = c by omega, Array.getElem?_toList] at h1
  simp only [World.cell?, hb]
  simp only [Option.isSome_none, Bool.false_eq_true, if_false]
  exact h1
theorem ownE_congr {w w' : World} {g cap : Nat} {xs : List S36} (h : ownE w g cap xs) (hk : w'.heap[g]? = w.heap[g]?) : ownE w' g cap xs := by
  obtain ⟨cur, hb, hs, ht⟩ := h
  exact ⟨cur, hk.trans hb, hs, ht⟩
theorem ownE_set {w : World} {g cap : Nat} {xs : List S36} (h : ownE w g cap xs) (i : Nat) (hi : i < xs.length) (hl : xs.length ≤ cap) (a b : Int) : ownE ((w.setCell ⟨g, i * 3, none⟩ (.int .i64 a)).setCell ⟨g, i * 3 + 1, none⟩ (.int .i64 b)) g cap (xs.set i ⟨a, b, (rd_T36 xs (i : Int)).f2⟩) := by
  obtain ⟨cur, hb, hs, ht⟩ := h
  refine ⟨_, blk_setCell_same (blk_setCell_same hb), by simp [hs], ?_⟩
  rw [List.length_set, Array.toList_setIfInBounds, Array.toList_setIfInBounds, List.take_set, List.take_set, ht]
  apply List.ext_getElem?
  intro t
  have hfl : (flatK encE 3 xs.toArray).toList.length = xs.length * 3 := by simp
  by_cases h1 : t < xs.length * 3
  · rw [flat_get (xs.set i ⟨a, b, (rd_T36 xs (i : Int)).f2⟩) t (by rw [List.length_set]; exact h1)]
    rw [List.getElem?_set, List.getElem?_set, flat_get xs t h1]
    simp only [List.length_set, hfl]
    by_cases e : t / 3 = i
    · have hr : rd_T36 (xs.set i ⟨a, b, (rd_T36 xs (i : Int)).f2⟩) (t / 3 : Nat) = ⟨a, b, (rd_T36 xs (i : Int)).f2⟩ := by
        rw [e]
        generalize (rd_T36 xs (i : Int)).f2 = c
        unfold rd_T36
        rw [zTn]
        simp [hi]
      rw [hr]
      obtain hc | hc | hc : t = i * 3 ∨ t = i * 3 + 1 ∨ t = i * 3 + 2 := by omega
      · subst hc
        rw [if_neg (by omega), if_pos rfl, if_pos (by omega), show i * 3 % 3 = 0 by omega]; rfl
      · subst hc
        rw [if_pos rfl, if_pos (by omega), show (i * 3 + 1) % 3 = 1 by omega]; rfl
      · subst hc
        rw [if_neg (by omega), if_neg (by omega), show (i * 3 + 2) % 3 = 2 by omega, show (i * 3 + 2) / 3 = i by omega]; rfl
    · rw [if_neg (by omega), if_neg (by omega)]
      have hr : rd_T36 (xs.set i ⟨a, b, (rd_T36 xs (i : Int)).f2⟩) (t / 3 : Nat) = rd_T36 xs (t / 3 : Nat) := by
        simp only [rd_T36, zTn, List.getD_eq_getElem?_getD]
        rw [List.getElem?_set_ne (fun h => e h.symm)]
      rw [hr]
  · rw [List.getElem?_eq_none (by simp; omega), List.getElem?_eq_none (by simp; omega)]
theorem ownE_R {w : World} {base g cap : Nat} {xs : List S36} {ok : Nat → Prop} (h : ownE w g cap xs) (hok : ok g) (hbase : base ≤ g) (h1 : xs.length ≤ cap) (h2 : cap ≤ maxLen) : Kd.R k36 36 w base ok (.slice (some ⟨g, 0, none⟩) xs.length cap) xs := by
  obtain ⟨cur, hb, hs, ht⟩ := h
  refine ⟨fun k hk => ?_, (flatK encE 3 xs.toArray).toList, ⟨by simp; rfl, .inr ⟨g, cap, cur, rfl, hbase, hb, h1, h2, hs, ht⟩⟩, flat_reps (fun x => k36_mkM _ _ _ x) xs⟩
  have : g = k := by simpa [Value.ownBlock] using hk
  exact this ▸ hok
theorem ownE_of_R {w : World} {base : Nat} {v : Value} {xs : List S36} {ok : Nat → Prop} (h : Kd.R k36 36 w base ok v xs) : (v = .slice none 0 0 ∧ xs = []) ∨ ∃ g cap, v = .slice (some ⟨g, 0, none⟩) xs.length cap ∧ ok g ∧ base ≤ g ∧ g < w.heap.size ∧ xs.length ≤ cap ∧ cap ≤ maxLen ∧ ownE w g cap xs := by
  obtain ⟨hok, inner, ⟨hlen, ho⟩, hr⟩ := h
  rcases ho with ⟨rfl, h0⟩ | ⟨g, cap, cur, rfl, hg, hb, h1, h2, h3, h4⟩
  · exact .inl ⟨rfl, List.length_eq_zero_iff.1 h0⟩
  · refine .inr ⟨g, cap, rfl, hok g (by simp [Value.ownBlock]), hg, (Array.getElem?_eq_some_iff.1 hb).1, h1, h2, cur, hb, h3, ?_⟩
    have h5 : cur.toList.take (xs.length * 3) = inner := h4
    rw [h5]
    apply List.ext_getElem?
    intro t
    by_cases ht : t < xs.length * 3
    · rw [cells_row xs inner (fun x c h => k36_openM h) hr t ht, Array.getElem?_toList, Array.getElem?_eq_getElem (by simpa using ht), getElem!_pos _ _ (by simpa using ht)]
    · rw [List.getElem?_eq_none (by rw [hr.1]; exact Nat.le_of_not_lt ht), List.getElem?_eq_none (by simp; omega)]
end
def graph_Make_bad (k : Nat) (n : Int) : List S36 → Option Int
  | [] => some 0
  | e :: l => (graph_alone.f k n e.f0 e.f1 e.f2).bind fun r => if r = 0 then graph_Make_bad k n l else some r
def nrmE (e : S36) : S36 := ⟨if e.f1 < e.f0 then e.f1 else e.f0, if e.f0 < e.f1 then e.f1 else e.f0, e.f2⟩
def dupE : List S36 → Bool
  | a :: b :: l => decide (ordI a.f0 a.f1 b.f0 b.f1 = 0) || dupE (b :: l)
  | _ => false
def graph_Make.f (k : Nat) (n : Int) (l : List S36) : Option (Int × List S36 × Int) :=
  if l.length < 5864062014805 then (graph_sizes.f n l.length).bind fun r => if r = 0 then (graph_Make_bad k n l).bind fun b => if b = 0 then (if dupE (sortE (l.map nrmE)) then some (0, [], 7) else some (n, sortE (l.map nrmE), 0)) else some (0, [], b) else some (0, [], r)
  else none
theorem ownE_frozen {w : World} {g cap c : Nat} {xs : List S36} (h : ownE w g cap xs) : w.frozen? ⟨g, c, none⟩ = false := by
  obtain ⟨cur, hb, _⟩ := h
  simp [World.frozen?, hb]
theorem set_step {α : Type} (f : α → α) (l : List α) (i : Nat) (h : i < l.length) : ((l.take i).map f ++ l.drop i).set i (f l[i]) = (l.take (i + 1)).map f ++ l.drop (i + 1) := by
  rw [List.drop_eq_getElem_cons h, List.set_append_right _ _ (by rw [List.length_map, zLt]; omega), List.length_map, zLt, Nat.min_eq_left (Nat.le_of_lt h), Nat.sub_self, zSb, List.take_succ_eq_append_getElem h, List.map_append, List.append_assoc]
  rfl
theorem rd_get (l : List S36) (i : Nat) (h : i < l.length) : rd_T36 l (i : Int) = l[i] := by
  unfold rd_T36
  rw [zTn]
  simp [h]
theorem ownE_grow {w : World} {g cap : Nat} {xs : List S36} (q : Nat) (os : Array Obj) (h : ownE w g cap xs) : ownE (Sort.grow (w.drewN q) os) g cap xs := by
  obtain ⟨cur, hb, hs, ht⟩ := h
  exact ⟨cur, blk_growN q os hb, hs, ht⟩
theorem results_cellrow_tmp {P : Program} {fn : Func} {p u : Tmp} {ty : TypeId} (h : fn.results = #[.cell p ty, .tmp u]) (tmps : Array Value) (w : World) (g : Nat) (t : TypeId) (cs : Array Value) (fr : Nat × Nat) (d : TypeDesc)
    (hp : tmps.getD p undef = .pointer (some ⟨g, 0, none⟩)) (hg : w.heap[g]? = some (.cells cs t fr))
    (hu : P.underlying ty = some d) (hd : (match d with | .struct _ | .array _ _ => true | _ => false) = true) (hi : (P.info? ty).map (·.size) = some cs.size) :
    (results fn tmps).run P w = .ok (.tuple #[.agg cs, tmps.getD u undef]) w := by
  rw [results_cell_tmp h, hp]
  simp [asAddr, run_loadVar_row w g t ty cs fr d hg hu hd hi]
theorem graph_Make.calls (k : Nat) (n : Int) (A0 : Option Addr) (c0 : Nat) (l0 : List S36) (r1 : Int) (r2 : List S36) (r3 : Int) (w : World) (hr0 : Kd.C k36 w A0 l0.length l0) (hc0 : l0.length ≤ c0) (h : graph_Make.f k n l0 = some (r1, r2, r3)) :
    Calls Try.prog 14 #[.int .i64 n, .slice A0 l0.length c0] w fun e w' => ∃ v1_ : Value, e = .returned (.tuple #[.agg #[.int .i64 r1, v1_], .int .i64 r3]) ∧ Kd.R k36 36 w' w.heap.size (fun _ => True) v1_ r2 ∧ Below w.heap.size w w' := by
  have HR := zMk hr0
  unfold graph_Make.f at h
  by_cases hl : l0.length < 5864062014805
  case neg => rw [if_neg hl] at h; cases h
  rw [if_pos hl] at h
  obtain ⟨r, hs, h⟩ := Option.bind_eq_some_iff.1 h
  have HS := fun W => graph_sizes.calls n l0.length r W hs
  have HZ := fun W : World => Kd.R_nil k36 36 W w.heap.size (fun _ => True)
  clear hr0 hs
  have mixed : Try.prog.follows .mixedOrders = true := by kernel_rfl
  have hu24 := Try.underlying24
  have hu36 := Try.underlying36
  by_cases hr : r = 0
  · rw [if_pos hr] at h
    obtain ⟨b, hb, h⟩ := Option.bind_eq_some_iff.1 h
    have rb : (r != 0) = false := bne_eq_false_iff_eq.mpr hr
    have H1 := zMk hb
    have H2 := zMk h
    clear h hb hr
    have HC := fun W : World => api_Edge_38.calls A0 c0 l0 l0 W
    go_enter Try.func14, Try.ntmps14
    go_wp2_with (go_at_call 32; refine (HS _).mono ?_; rintro e w' ⟨rfl, nd, rfl⟩)
    refine (api_Edge_38.calls A0 c0 l0 l0 _ (Kd.C_below HR.out (zBn (zBa (Below.refl _ _) _) nd)) hc0 (by unfold api_Edge_38.f; rw [if_pos hl])).mono ?_
    rintro e w2 ⟨v0, rfl, hR, hB⟩
    have HB := zMk (zBt (zBn (zBa (Below.refl w.heap.size w) (.cells #[Value.int .i64 0, .slice none 0 0] 24)) nd) hB)
    have BK := zMk (zKb (zKn (heap_alloc_new w (.cells #[Value.int .i64 0, .slice none 0 0] 24)) nd) hB)
    have hg0 : (((w.alloc (.cells #[Value.int .i64 0, .slice none 0 0] 24)).drewN nd).heap.size) = w.heap.size + 1 := by show (w.heap.push _).size = _; simp
    rw [hg0] at hR
    clear hB hg0
    rcases ownE_of_R hR with ⟨rfl, rfl⟩ | ⟨g, cap, rfl, -, hg, hg2, hcap, hmax, hO⟩
    · obtain rfl : (0 : Int) = b := by simpa [graph_Make_bad] using H1.out
      have hfin := H2.out
      have hs0 : sortE (List.map nrmE []) = [] := List.length_eq_zero_iff.1 (by rw [sortE_length]; rfl)
      rw [if_pos rfl, hs0, if_neg (by decide)] at hfin
      obtain ⟨rfl, rfl, rfl⟩ : n = r1 ∧ [] = r2 ∧ (0 : Int) = r3 := by simpa using hfin
      clear hfin H1 H2
      have HSO := fun W hB => api_Edge_39.calls (fun _ => False) (.slice none 0 0) [] [] w W hB (Kd.R_nil k36 36 W w.heap.size (fun _ => False)) (by unfold api_Edge_39.f; rw [if_pos (by decide)]; exact congrArg some hs0)
      go_wp2
      refine wp_loop_rounds 1 ?_
      rw [rounds_succ]
      go_wp2_with (go_at_call 39; refine (HSO _ HB.out).mono ?_; rintro e w4 ⟨rfl, hR4, hB4, hK4⟩; go_loud (have BZ := zMk ((hK4.2 w.heap.size (blk_lt BK.out) (fun h => h)).trans BK.out)); have HB4 := zMk hB4; clear hR4 hB4 hK4)
      refine wp_loop_rounds 1 ?_
      rw [rounds_succ]
      have hz0 := box_cell (c := 0) (v := .int .i64 0) BZ.out rfl
      have hz1 := box_cell (c := 1) (v := .slice none 0 0) BZ.out rfl
      have hzf0 := box_frozen (c := 0) BZ.out
      have hzf1 := box_frozen (c := 1) BZ.out
      go_wp2
      refine bodyPost_ret (results_cellrow_tmp rfl _ _ w.heap.size 24 #[.int .i64 n, .slice none 0 0] (0, 0) _ rfl (blk_setCell_same (blk_setCell_same BZ.out)) Try.underlying24 rfl (by kernel_rfl)) rfl ?_
      exact ⟨.slice none 0 0, rfl, HZ _, below_set (below_set HB4.out (Nat.le_refl _)) (Nat.le_refl _)⟩
    · go_wp2
      go_loopg [24] l0.length (fun kx s24 wr => ∃ i : Nat, ∃ xs : List S36, s24 = .int .i64 i ∧ i ≤ l0.length ∧ l0.length - i ≤ kx ∧ Aside0 (xs = (l0.take i).map nrmE ++ l0.drop i) ∧ Aside0 (ownE wr g cap xs) ∧ Aside0 (Below w.heap.size w wr) ∧ Aside0 (wr.heap[w.heap.size]? = some (.cells #[Value.int .i64 0, .slice none 0 0] 24 (0, 0))) ∧ Aside0 (graph_Make_bad k n (l0.drop i) = some b))
      case atStart => exact ⟨0, l0, rfl, Nat.zero_le _, Nat.le_refl _, zMk (by simp), zMk hO, HB, BK, zMk (by simpa using H1.out)⟩
      clear H1 hO HB BK
      obtain ⟨i, xs, rfl, hi, hg3, HX, HO, HB, BK, HBAD⟩ := hrel
      have hxl : xs.length = l0.length := by rw [HX.out]; simp only [List.length_append, List.length_map, zLt, zLd]; omega
      by_cases hlt : i < l0.length
      · have hd : l0.drop i = rd_T36 l0 (i : Int) :: l0.drop (i + 1) := by
          rw [List.drop_eq_getElem_cons hlt]
          congr 1
          unfold rd_T36
          rw [zTn]
          simp [hlt]
        have hx : rd_T36 xs (i : Int) = rd_T36 l0 (i : Int) := by
          unfold rd_T36
          rw [zTn, HX.out, List.getD_eq_getElem?_getD, List.getD_eq_getElem?_getD, List.getElem?_append_right (by rw [List.length_map, zLt]; omega)]
          simp [Nat.min_eq_left hi]
        have e0 := ownE_cell HO.out i 0 (by omega) (by omega)
        have e1 := ownE_cell HO.out i 1 (by omega) (by omega)
        have e2 := ownE_cell HO.out i 2 (by omega) (by omega)
        rw [hx] at e0 e1 e2
        have hbad := HBAD.out
        rw [hd] at hbad
        clear HBAD
        unfold graph_Make_bad at hbad
        generalize hxx : rd_T36 l0 (i : Int) = x at hbad e0 e1 e2 hx hd
        obtain ⟨q, hq, hbad⟩ := Option.bind_eq_some_iff.1 hbad
        have HQ := fun W => graph_alone.calls k n x.f0 x.f1 x.f2 q W hq
        simp only [encE, Nat.add_zero] at e0 e1 e2
        replace e0 : wr.cell? ⟨g, i * 3, none⟩ = some (.int .i64 x.f0) := e0
        replace e1 : wr.cell? ⟨g, i * 3 + 1, none⟩ = some (.int .i64 x.f1) := e1
        replace e2 : wr.cell? ⟨g, i * 3 + 2, none⟩ = some (.int .i64 x.f2) := e2
        clear hq
        by_cases hq0 : q = 0
        · rw [if_pos hq0] at hbad
          have qb : (q != 0) = false := bne_eq_false_iff_eq.mpr hq0
          have HBAD := zMk hbad
          clear hbad hq0
          have p1 : (0 ≤ (i : Int)) = True := eq_true (by omega)
          have p2 : ((i : Int) < (l0.length : Int)) = True := eq_true (by omega)
          have hgl : g < wr.heap.size := by obtain ⟨cur, h, _⟩ := HO.out; exact (Array.getElem?_eq_some_iff.1 h).1
          have hne : wr.heap.size ≠ g := by omega
          go_wp2_with (go_at_call 33; refine (HQ _).mono ?_; rintro e w9 ⟨rfl, hb⟩; go_loud (have BZ := zMk (zKb (zKa BK.out _) hb); have HB9 := zMk (zBt (zBa HB.out _) hb); have BX := zMk (zKb (heap_alloc_new wr _) hb); have HO9 := zMk (ownE_congr HO.out ((hb.block g (by show g < (wr.heap.push _).size; rw [Array.size_push]; omega)).trans (heap_alloc_old wr _ hgl))); clear hb))
          refine start_ (n := 20) (S := fun w' => w'.cell? ⟨wr.heap.size, 0, none⟩ = some (.int .i64 x.f0) ∧ w'.cell? ⟨wr.heap.size, 1, none⟩ = some (.int .i64 x.f1)) (ds := [19]) #[false, false, false, false, false, false, false, false, false, false, false, false, false, false, false, false, false, false, false, false] (by kernel_rfl) rfl rfl ⟨box_cell (c := 0) BX.out rfl, box_cell (c := 1) BX.out rfl⟩ (fun hHeld => ?_)
          replace BX := zMk (zKd BX.out)
          replace BZ := zMk (zKd BZ.out)
          replace HO9 := zMk (ownE_congr HO9.out (rfl : w9.drew.heap[g]? = w9.heap[g]?))
          replace HB9 := zMk (zBd HB9.out)
          generalize w9.drew = w10 at BX BZ HO9 HB9 hHeld ⊢
          have c0 := ownE_cell HO9.out i 0 (by omega) (by omega)
          have c1 := ownE_cell HO9.out i 1 (by omega) (by omega)
          rw [hx] at c0 c1
          replace c0 : w10.cell? ⟨g, i * 3, none⟩ = some (.int .i64 x.f0) := c0
          replace c1 : w10.cell? ⟨g, i * 3 + 1, none⟩ = some (.int .i64 x.f1) := c1
          have fz0 := ownE_frozen (c := i * 3) HO9.out
          have fz1 := ownE_frozen (c := i * 3 + 1) HO9.out
          refine pure_ (i := 0) (N := some 36) (v := ?_) (a' := ?_) #[true, false, false, false, false, false, false, false, false, false, false, false, false, false, false, false, false, false, false, false] rfl rfl (by kernel_rfl) (fun _ _ _ h => h) (Or.inl ⟨by rfl, ?_⟩) ?_ ?_
          rotate_left
          · intro w'
            go_simp
            with_reducible rfl
          rotate_left
          · simp only [Act.put, zSa, zSb, zSc, i64_w, i32_w]
            rfl
          refine pure_ (i := 1) (N := some 37) (v := ?_) (a' := ?_) #[true, true, false, false, false, false, false, false, false, false, false, false, false, false, false, false, false, false, false, false] rfl rfl (by kernel_rfl) (fun _ _ _ h => h) (Or.inl ⟨by rfl, ?_⟩) ?_ ?_
          rotate_left
          · intro w'
            go_simp
            with_reducible rfl
          rotate_left
          · simp only [Act.put, zSa, zSb, zSc, i64_w, i32_w]
            rfl
          refine pure_ (i := 2) (N := some 38) (v := ?_) (a' := ?_) #[true, true, true, false, false, false, false, false, false, false, false, false, false, false, false, false, false, false, false, false] rfl rfl (by kernel_rfl) (fun _ _ _ h => h) (Or.inl ⟨by rfl, ?_⟩) ?_ ?_
          rotate_left
          · intro w'
            go_simp
            with_reducible rfl
          rotate_left
          · simp only [Act.put, zSa, zSb, zSc, i64_w, i32_w]
            rfl
          refine pure_ (i := 3) (N := some 39) (v := ?_) (a' := ?_) #[true, true, true, true, false, false, false, false, false, false, false, false, false, false, false, false, false, false, false, false] rfl rfl (by kernel_rfl) (fun _ _ _ h => h) (Or.inl ⟨by rfl, ?_⟩) ?_ ?_
          rotate_left
          · intro w'
            go_simp
            with_reducible rfl
          rotate_left
          · simp only [Act.put, zSa, zSb, zSc, i64_w, i32_w]
            rfl
          refine pure_ (i := 4) (N := some 40) (v := ?_) (a' := ?_) #[true, true, true, true, true, false, false, false, false, false, false, false, false, false, false, false, false, false, false, false] rfl rfl (by kernel_rfl) (fun _ _ _ h => h) (Or.inl ⟨by rfl, ?_⟩) ?_ ?_
          rotate_left
          · intro w'
            go_simp
            with_reducible rfl
          rotate_left
          · simp only [Act.put, zSa, zSb, zSc, i64_w, i32_w]
            rfl
          refine pure_ (i := 6) (N := some 42) (v := ?_) (a' := ?_) #[true, true, true, true, true, false, true, false, false, false, false, false, false, false, false, false, false, false, false, false] rfl rfl (by kernel_rfl) (fun _ _ _ h => h) (Or.inl ⟨by rfl, ?_⟩) ?_ ?_
          rotate_left
          · intro w'
            go_simp
            with_reducible rfl
          rotate_left
          · simp only [Act.put, zSa, zSb, zSc, i64_w, i32_w]
            rfl
          refine pure_ (i := 9) (N := some 45) (v := ?_) (a' := ?_) #[true, true, true, true, true, false, true, false, false, true, false, false, false, false, false, false, false, false, false, false] rfl rfl (by kernel_rfl) (fun _ _ _ h => h) (Or.inl ⟨by rfl, ?_⟩) ?_ ?_
          rotate_left
          · intro w'
            go_simp
            with_reducible rfl
          rotate_left
          · simp only [Act.put, zSa, zSb, zSc, i64_w, i32_w]
            rfl
          refine pure_ (i := 11) (N := some 47) (v := ?_) (a' := ?_) #[true, true, true, true, true, false, true, false, false, true, false, true, false, false, false, false, false, false, false, false] rfl rfl (by kernel_rfl) (fun _ _ _ h => h) (Or.inl ⟨by rfl, ?_⟩) ?_ ?_
          rotate_left
          · intro w'
            go_simp
            with_reducible rfl
          rotate_left
          · simp only [Act.put, zSa, zSb, zSc, i64_w, i32_w]
            rfl
          refine take_ (i := 5) (N := some 41) (v := ?_) (a' := ?_) #[true, true, true, true, true, true, true, false, false, true, false, true, false, false, false, false, false, false, false, false] rfl rfl (by kernel_rfl) (fun _ _ _ h => h) (Or.inl ⟨by rfl, ?_⟩) hHeld ?_ ?_
          rotate_left
          · rintro w' ⟨s0, s1⟩
            go_simp
            with_reducible rfl
          rotate_left
          · simp only [Act.put, zSa, zSb, zSc, i64_w, i32_w]
            rfl
          refine take_ (i := 7) (N := some 43) (v := ?_) (a' := ?_) #[true, true, true, true, true, true, true, true, false, true, false, true, false, false, false, false, false, false, false, false] rfl rfl (by kernel_rfl) (fun _ _ _ h => h) (Or.inl ⟨by rfl, ?_⟩) hHeld ?_ ?_
          rotate_left
          · rintro w' ⟨s0, s1⟩
            go_simp
            with_reducible rfl
          rotate_left
          · simp only [Act.put, zSa, zSb, zSc, i64_w, i32_w]
            rfl
          refine pure_ (i := 8) (N := some 44) (v := ?_) (a' := ?_) #[true, true, true, true, true, true, true, true, true, true, false, true, false, false, false, false, false, false, false, false] rfl rfl (by kernel_rfl) (fun _ _ _ h => h) (Or.inl ⟨by rfl, ?_⟩) ?_ ?_
          rotate_left
          · intro w'
            go_simp
            with_reducible rfl
          rotate_left
          · simp only [Act.put, zSa, zSb, zSc, i64_w, i32_w]
            rfl
          refine pure_ (i := 14) (N := some 50) (v := ?_) (a' := ?_) #[true, true, true, true, true, true, true, true, true, true, false, true, false, false, true, false, false, false, false, false] rfl rfl (by kernel_rfl) (fun _ _ _ h => h) (Or.inl ⟨by rfl, ?_⟩) ?_ ?_
          rotate_left
          · intro w'
            go_simp
            with_reducible rfl
          rotate_left
          · simp only [Act.put, zSa, zSb, zSc, i64_w, i32_w]
            rfl
          refine pure_ (i := 15) (N := some 51) (v := ?_) (a' := ?_) #[true, true, true, true, true, true, true, true, true, true, false, true, false, false, true, true, false, false, false, false] rfl rfl (by kernel_rfl) (fun _ _ _ h => h) (Or.inl ⟨by rfl, ?_⟩) ?_ ?_
          rotate_left
          · intro w'
            go_simp
            with_reducible rfl
          rotate_left
          · simp only [Act.put, zSa, zSb, zSc, i64_w, i32_w]
            rfl
          refine take_ (i := 10) (N := some 46) (v := ?_) (a' := ?_) #[true, true, true, true, true, true, true, true, true, true, true, true, false, false, true, true, false, false, false, false] rfl rfl (by kernel_rfl) (fun _ _ _ h => h) (Or.inl ⟨by rfl, ?_⟩) hHeld ?_ ?_
          rotate_left
          · rintro w' ⟨s0, s1⟩
            go_simp
            with_reducible rfl
          rotate_left
          · simp only [Act.put, zSa, zSb, zSc, i64_w, i32_w]
            rfl
          refine take_ (i := 12) (N := some 48) (v := ?_) (a' := ?_) #[true, true, true, true, true, true, true, true, true, true, true, true, true, false, true, true, false, false, false, false] rfl rfl (by kernel_rfl) (fun _ _ _ h => h) (Or.inl ⟨by rfl, ?_⟩) hHeld ?_ ?_
          rotate_left
          · rintro w' ⟨s0, s1⟩
            go_simp
            with_reducible rfl
          rotate_left
          · simp only [Act.put, zSa, zSb, zSc, i64_w, i32_w]
            rfl
          refine pure_ (i := 13) (N := some 49) (v := ?_) (a' := ?_) #[true, true, true, true, true, true, true, true, true, true, true, true, true, true, true, true, false, false, false, false] rfl rfl (by kernel_rfl) (fun _ _ _ h => h) (Or.inl ⟨by rfl, ?_⟩) ?_ ?_
          rotate_left
          · intro w'
            go_simp
            with_reducible rfl
          rotate_left
          · simp only [Act.put, zSa, zSb, zSc, i64_w, i32_w]
            rfl
          refine one_ (i := 16) (N := none) #[true, true, true, true, true, true, true, true, true, true, true, true, true, true, true, true, true, false, false, false] rfl rfl (by kernel_rfl) (by decide) (fun K hK => ?_)
          refine skip_ (w1 := ?_) (by rfl) rfl ?_ ?_
          rotate_left
          · go_simp
            rfl
          refine hK.out _ _ ⟨box_cell (c := 0) ((Below.heap_setCell _ _ _ _ hne).trans BX.out) rfl, box_cell (c := 1) ((Below.heap_setCell _ _ _ _ hne).trans BX.out) rfl⟩ (fun hHeld => ?_)
          clear hK K
          refine pure_ (i := 17) (N := some 52) (v := ?_) (a' := ?_) #[true, true, true, true, true, true, true, true, true, true, true, true, true, true, true, true, true, true, false, false] rfl rfl (by kernel_rfl) (fun _ _ _ h => h) (Or.inl ⟨by rfl, ?_⟩) ?_ ?_
          rotate_left
          · intro w'
            go_simp
            with_reducible rfl
          rotate_left
          · simp only [Act.put, zSa, zSb, zSc, i64_w, i32_w]
            rfl
          refine pure_ (i := 18) (N := some 53) (v := ?_) (a' := ?_) #[true, true, true, true, true, true, true, true, true, true, true, true, true, true, true, true, true, true, true, false] rfl rfl (by kernel_rfl) (fun _ _ _ h => h) (Or.inl ⟨by rfl, ?_⟩) ?_ ?_
          rotate_left
          · intro w'
            go_simp
            with_reducible rfl
          rotate_left
          · simp only [Act.put, zSa, zSb, zSc, i64_w, i32_w]
            rfl
          refine last_ (i := 19) (N := none) #[true, true, true, true, true, true, true, true, true, true, true, true, true, true, true, true, true, true, true, true] rfl rfl (by kernel_rfl) (by decide) (fun K hK => ?_)
          refine skip_ (w1 := ?_) (by rfl) rfl ?_ ?_
          rotate_left
          · go_simp
            rfl
          refine hK.out _ _ ?_
          clear hK K
          refine done_ (by kernel_rfl) ?_
          have HS2 := ownE_set HO9.out i (by omega) (by omega) (if x.f1 < x.f0 then x.f1 else x.f0) (if x.f0 < x.f1 then x.f1 else x.f0)
          have hnr : xs.set i ⟨if x.f1 < x.f0 then x.f1 else x.f0, if x.f0 < x.f1 then x.f1 else x.f0, (rd_T36 xs (i : Int)).f2⟩ = (l0.take (i + 1)).map nrmE ++ l0.drop (i + 1) := by
            rw [hx, HX.out, ← set_step nrmE l0 i hlt, ← rd_get l0 i hlt, hxx]
            rfl
          rw [hnr] at HS2
          have HBW := below_set (j := i * 3 + 1) (v := .int .i64 (if x.f0 < x.f1 then x.f1 else x.f0)) (below_set (j := i * 3) (v := .int .i64 (if x.f1 < x.f0 then x.f1 else x.f0)) HB9.out (by omega : w.heap.size ≤ g)) (by omega : w.heap.size ≤ g)
          have hne2 : w.heap.size ≠ g := by omega
          have HZW : ((w10.setCell ⟨g, i * 3, none⟩ (.int .i64 (if x.f1 < x.f0 then x.f1 else x.f0))).setCell ⟨g, i * 3 + 1, none⟩ (.int .i64 (if x.f0 < x.f1 then x.f1 else x.f0))).heap[w.heap.size]? = _ := (Below.heap_setCell _ _ _ _ hne2).trans ((Below.heap_setCell _ _ _ _ hne2).trans BZ.out)
          generalize (if x.f1 < x.f0 then x.f1 else x.f0) = mnv at HS2 HBW HZW ⊢
          generalize (if x.f0 < x.f1 then x.f1 else x.f0) = mxv at HS2 HBW HZW ⊢
          replace HS2 := zMk HS2
          replace HBW := zMk HBW
          replace HZW := zMk HZW
          clear hnr hx HX
          try go_wp2
          go_roundg (l0.length - (i + 1))
          case measure => omega
          case rel => exact ⟨i + 1, _, by rw [show ((i + 1 : Nat) : Int) = (i : Int) + 1 by omega], by omega, Nat.le_refl _, zMk rfl, HS2, HBW, HZW, HBAD⟩
        · rw [if_neg hq0] at hbad
          have qb : (q != 0) = true := bne_iff_ne.mpr hq0
          obtain rfl := zOi hbad
          have hh := H2.out
          rw [if_neg hq0] at hh
          obtain ⟨rfl, rfl, rfl⟩ : (0 : Int) = r1 ∧ [] = r2 ∧ q = r3 := by simpa using hh
          clear hh hbad hq0 H2
          go_wp2_with (go_at_call 33; refine (HQ _).mono ?_; rintro e w9 ⟨rfl, hb⟩; have BZ := zKb (zKa BK.out _) hb; have HB9 := zMk (zBt (zBa HB.out _) hb); have hz0 := box_cell (c := 0) (v := .int .i64 0) BZ rfl; have hz1 := box_cell (c := 1) (v := .slice none 0 0) BZ rfl; have hzf0 := box_frozen (c := 0) BZ; have hzf1 := box_frozen (c := 1) BZ; have BZ := zMk BZ)
          refine bodyPost_ret (results_cellrow_tmp rfl _ _ w.heap.size 24 #[.int .i64 0, .slice none 0 0] (0, 0) _ rfl (by first | exact blk_setCell_same (blk_setCell_same BZ.out)) Try.underlying24 rfl (by kernel_rfl)) rfl ?_
          exact ⟨.slice none 0 0, rfl, HZ _, below_set (below_set HB9.out (Nat.le_refl _)) (Nat.le_refl _)⟩
      · obtain rfl : i = l0.length := by omega
        have hx : xs = l0.map nrmE := by rw [HX.out]; simp
        subst hx
        have hb0 := HBAD.out
        rw [List.drop_length] at hb0
        obtain rfl : (0 : Int) = b := by simpa [graph_Make_bad] using hb0
        have hfin := H2.out
        rw [if_pos rfl] at hfin
        have hlm : (l0.map nrmE).length = l0.length := List.length_map ..
        have hgl : g < wr.heap.size := by obtain ⟨cur, h, _⟩ := HO.out; exact (Array.getElem?_eq_some_iff.1 h).1
        have hRs := ownE_R (base := w.heap.size) (ok := fun k_ => k_ = g) HO.out rfl (by omega) (by omega) hmax
        rw [hlm] at hRs
        have HSO := api_Edge_39.calls (fun k_ => k_ = g) _ _ (sortE (l0.map nrmE)) w wr HB.out hRs (by unfold api_Edge_39.f; rw [if_pos (by omega)])
        have hls : (sortE (l0.map nrmE)).length = l0.length := by rw [sortE_length, hlm]
        generalize sortE (l0.map nrmE) = s at HSO hfin hls
        have HF := zMk hfin
        clear hfin hb0 HBAD H2 HX hRs HO
        go_wp2_with (go_at_call 39; refine HSO.mono ?_; rintro e w4 ⟨rfl, hR4, hB4, hK4⟩; have BZ := zMk ((hK4.2 w.heap.size (by omega) (by omega)).trans BK.out); have HB := zMk hB4; have HR4 := zMk hR4; clear hR4 hB4 hK4)
        have HO : ownE w4 g cap s := by
          rcases ownE_of_R HR4.out with ⟨h, _⟩ | ⟨g', cap', h, _, _, _, _, _, h5⟩
          · cases h
          · injection h with h6 h7 h8
            injection h6 with h6
            injection h6 with h6
            subst h6
            subst h8
            exact h5
        replace HO := zMk HO
        clear HR4 HSO BK
        go_loopg [59] l0.length (fun kx s59 ws => ∃ i : Nat, s59 = .int .i64 i ∧ i ≤ l0.length ∧ l0.length - i ≤ kx ∧ Aside0 (ownE ws g cap s) ∧ Aside0 (Below w.heap.size w ws) ∧ Aside0 (ws.heap[w.heap.size]? = some (.cells #[Value.int .i64 0, .slice none 0 0] 24 (0, 0))) ∧ Aside0 (dupE s = dupE (s.drop (i - 1))))
        case atStart => exact ⟨0, rfl, Nat.zero_le _, Nat.le_refl _, HO, HB, BZ, zMk rfl⟩
        clear HO HB BZ hlt

        obtain ⟨i, rfl, hi, hg3, HO, HB, BZ, HD⟩ := hrel
        by_cases hlt : i < l0.length
        · have p1 : ((i : Int) < (l0.length : Int)) = True := eq_true (by omega)
          by_cases hi0 : i = 0
          · have p6 : decide (0 < i) = false := decide_eq_false (by omega)
            have hii := zMk hi0
            clear hi0
            go_wp2
            refine start_ (n := 15) (S := fun w' => True) (ds := []) #[false, false, false, false, false, false, false, false, false, false, false, false, false, false, false] (by kernel_rfl) rfl rfl trivial (fun hHeld => ?_)
            have HB5 := zMk (zBd HB.out)
            have BZ5 := zMk (zKd BZ.out)
            have HO5 := zMk (ownE_congr HO.out (rfl : wr.drew.heap[g]? = wr.heap[g]?))
            generalize wr.drew = w5 at HB5 BZ5 HO5 hHeld ⊢
            refine pure_ (i := 0) (N := some 62) (v := ?_) (a' := ?_) #[true, false, false, false, false, false, false, false, false, false, false, false, false, false, false] rfl rfl (by kernel_rfl) (fun _ _ _ h => h) (Or.inl ⟨by rfl, ?_⟩) ?_ ?_
            rotate_left
            · intro w'
              go_simp
              with_reducible rfl
            rotate_left
            · simp only [Act.put, zSa, zSb, zSc, i64_w, i32_w]
              rfl
            refine pure_ (i := 1) (N := some 63) (v := ?_) (a' := ?_) #[true, true, false, false, false, false, false, false, false, false, false, false, false, false, false] rfl rfl (by kernel_rfl) (fun _ _ _ h => h) (Or.inl ⟨by rfl, ?_⟩) ?_ ?_
            rotate_left
            · intro w'
              go_simp
              with_reducible rfl
            rotate_left
            · simp only [Act.put, zSa, zSb, zSc, i64_w, i32_w]
              rfl
            refine pure_ (i := 2) (N := some 64) (v := ?_) (a' := ?_) #[true, true, true, false, false, false, false, false, false, false, false, false, false, false, false] rfl rfl (by kernel_rfl) (fun _ _ _ h => h) (Or.inl ⟨by rfl, ?_⟩) ?_ ?_
            rotate_left
            · intro w'
              go_simp
              with_reducible rfl
            rotate_left
            · simp only [Act.put, zSa, zSb, zSc, i64_w, i32_w]
              rfl
            refine pure_ (i := 3) (N := some 65) (v := undef) (a' := ?_) #[true, true, true, true, false, false, false, false, false, false, false, false, false, false, false] rfl rfl (by kernel_rfl) (fun _ _ _ h => h) (Or.inr ⟨by rfl, rfl⟩) ?_ ?_
            rotate_left
            · simp only [Act.put, zSa, zSb, zSc, i64_w, i32_w]
              rfl
            refine pure_ (i := 4) (N := some 66) (v := undef) (a' := ?_) #[true, true, true, true, true, false, false, false, false, false, false, false, false, false, false] rfl rfl (by kernel_rfl) (fun _ _ _ h => h) (Or.inr ⟨by rfl, rfl⟩) ?_ ?_
            rotate_left
            · simp only [Act.put, zSa, zSb, zSc, i64_w, i32_w]
              rfl
            refine pure_ (i := 5) (N := some 67) (v := undef) (a' := ?_) #[true, true, true, true, true, true, false, false, false, false, false, false, false, false, false] rfl rfl (by kernel_rfl) (fun _ _ _ h => h) (Or.inr ⟨by rfl, rfl⟩) ?_ ?_
            rotate_left
            · simp only [Act.put, zSa, zSb, zSc, i64_w, i32_w]
              rfl
            refine pure_ (i := 6) (N := some 68) (v := undef) (a' := ?_) #[true, true, true, true, true, true, true, false, false, false, false, false, false, false, false] rfl rfl (by kernel_rfl) (fun _ _ _ h => h) (Or.inr ⟨by rfl, rfl⟩) ?_ ?_
            rotate_left
            · simp only [Act.put, zSa, zSb, zSc, i64_w, i32_w]
              rfl
            refine pure_ (i := 7) (N := some 69) (v := undef) (a' := ?_) #[true, true, true, true, true, true, true, true, false, false, false, false, false, false, false] rfl rfl (by kernel_rfl) (fun _ _ _ h => h) (Or.inr ⟨by rfl, rfl⟩) ?_ ?_
            rotate_left
            · simp only [Act.put, zSa, zSb, zSc, i64_w, i32_w]
              rfl
            refine pure_ (i := 8) (N := some 70) (v := undef) (a' := ?_) #[true, true, true, true, true, true, true, true, true, false, false, false, false, false, false] rfl rfl (by kernel_rfl) (fun _ _ _ h => h) (Or.inr ⟨by rfl, rfl⟩) ?_ ?_
            rotate_left
            · simp only [Act.put, zSa, zSb, zSc, i64_w, i32_w]
              rfl
            refine pure_ (i := 9) (N := some 71) (v := undef) (a' := ?_) #[true, true, true, true, true, true, true, true, true, true, false, false, false, false, false] rfl rfl (by kernel_rfl) (fun _ _ _ h => h) (Or.inr ⟨by rfl, rfl⟩) ?_ ?_
            rotate_left
            · simp only [Act.put, zSa, zSb, zSc, i64_w, i32_w]
              rfl
            refine pure_ (i := 10) (N := some 72) (v := undef) (a' := ?_) #[true, true, true, true, true, true, true, true, true, true, true, false, false, false, false] rfl rfl (by kernel_rfl) (fun _ _ _ h => h) (Or.inr ⟨by rfl, rfl⟩) ?_ ?_
            rotate_left
            · simp only [Act.put, zSa, zSb, zSc, i64_w, i32_w]
              rfl
            refine pure_ (i := 11) (N := some 73) (v := undef) (a' := ?_) #[true, true, true, true, true, true, true, true, true, true, true, true, false, false, false] rfl rfl (by kernel_rfl) (fun _ _ _ h => h) (Or.inr ⟨by rfl, rfl⟩) ?_ ?_
            rotate_left
            · simp only [Act.put, zSa, zSb, zSc, i64_w, i32_w]
              rfl
            refine pure_ (i := 12) (N := some 74) (v := undef) (a' := ?_) #[true, true, true, true, true, true, true, true, true, true, true, true, true, false, false] rfl rfl (by kernel_rfl) (fun _ _ _ h => h) (Or.inr ⟨by rfl, rfl⟩) ?_ ?_
            rotate_left
            · simp only [Act.put, zSa, zSb, zSc, i64_w, i32_w]
              rfl
            refine pure_ (i := 13) (N := some 75) (v := undef) (a' := ?_) #[true, true, true, true, true, true, true, true, true, true, true, true, true, true, false] rfl rfl (by kernel_rfl) (fun _ _ _ h => h) (Or.inr ⟨by rfl, rfl⟩) ?_ ?_
            rotate_left
            · simp only [Act.put, zSa, zSb, zSc, i64_w, i32_w]
              rfl
            refine pure_ (i := 14) (N := some 76) (v := ?_) (a' := ?_) #[true, true, true, true, true, true, true, true, true, true, true, true, true, true, true] rfl rfl (by kernel_rfl) (fun _ _ _ h => h) (Or.inl ⟨by rfl, ?_⟩) ?_ ?_
            rotate_left
            · intro w'
              go_simp
              with_reducible rfl
            rotate_left
            · simp only [Act.put, zSa, zSb, zSc, i64_w, i32_w]
              rfl
            refine done_ (by kernel_rfl) ?_
            try go_wp2
            go_roundg (l0.length - (i + 1))
            case measure => omega
            case rel => exact ⟨i + 1, by rw [show ((i + 1 : Nat) : Int) = (i : Int) + 1 by omega], by omega, Nat.le_refl _, HO5, HB5, BZ5, zMk (by have h1 := HD.out; have h2 := hii.out; subst h2; exact h1)⟩
          · obtain ⟨j, rfl⟩ : ∃ j, i = j + 1 := ⟨i - 1, by omega⟩
            generalize hxa : rd_T36 s (j : Int) = x
            generalize hya : rd_T36 s ((j + 1 : Nat) : Int) = y
            have hdr : s.drop j = x :: s.drop (j + 1) := by
              rw [List.drop_eq_getElem_cons (by omega : j < s.length), ← rd_get s j (by omega), hxa]
            have hdr2 : s.drop (j + 1) = y :: s.drop (j + 1 + 1) := by
              rw [List.drop_eq_getElem_cons (by omega : j + 1 < s.length), ← rd_get s (j + 1) (by omega), hya]
            have hdd : dupE s = (decide (ordI x.f0 x.f1 y.f0 y.f1 = 0) || dupE (s.drop (j + 1))) := by
              rw [HD.out, Nat.add_sub_cancel, hdr, hdr2]
              rfl
            have p3 : (0 ≤ (j : Int) + 1) = True := eq_true (by omega)
            have p4 : ((j : Int) + 1 < (l0.length : Int)) = True := eq_true (by omega)
            have p5 : ((j : Int) < (l0.length : Int)) = True := eq_true (by omega)
            have p6 : (0 < (j : Int) + 1) = True := eq_true (by omega)
            have p7 : (0 ≤ (j : Int)) = True := eq_true (by omega)
            clear HD
            generalize hord : ordI x.f0 x.f1 y.f0 y.f1 = o at hdd
            by_cases ho : o = 0
            · have ob : (o == 0) = true := beq_iff_eq.mpr ho
              rw [decide_eq_true ho, Bool.true_or] at hdd
              have hf := HF.out
              rw [if_pos hdd] at hf
              obtain ⟨rfl, rfl, rfl⟩ : (0 : Int) = r1 ∧ [] = r2 ∧ (7 : Int) = r3 := by simpa using hf
              clear hf hdd ho
              have HORD := zMk hord
              go_wp2
              refine wp_region_still_tail 12 (by kernel_rfl) (by kernel_rfl) ?_
              have HB5 := zMk (zBd HB.out)
              have BZ5 := zMk (zKd BZ.out)
              have HO5 := zMk (ownE_congr HO.out (rfl : wr.drew.heap[g]? = wr.heap[g]?))
              generalize hw5 : wr.drew = w5 at HB5 BZ5 HO5
              show wpStill _ _ wr.drew (fun a' => wpList _ _ _ _ a' wr.drew) _ _
              rw [hw5]
              clear hw5
              have kc0 : w5.cell? ⟨g, j * 3, none⟩ = some (.int .i64 x.f0) := ((ownE_cell HO5.out j 0 (by omega) (by omega)).trans (by rw [hxa]; rfl))
              have kc1 : w5.cell? ⟨g, j * 3 + 1, none⟩ = some (.int .i64 x.f1) := ((ownE_cell HO5.out j 1 (by omega) (by omega)).trans (by rw [hxa]; rfl))
              have kc2 : w5.cell? ⟨g, j * 3 + 2, none⟩ = some (.int .i64 x.f2) := ((ownE_cell HO5.out j 2 (by omega) (by omega)).trans (by rw [hxa]; rfl))
              have kd0 : w5.cell? ⟨g, (j + 1) * 3, none⟩ = some (.int .i64 y.f0) := ((ownE_cell HO5.out (j + 1) 0 (by omega) (by omega)).trans (by rw [hya]; rfl))
              have kd1 : w5.cell? ⟨g, (j + 1) * 3 + 1, none⟩ = some (.int .i64 y.f1) := ((ownE_cell HO5.out (j + 1) 1 (by omega) (by omega)).trans (by rw [hya]; rfl))
              have kd2 : w5.cell? ⟨g, (j + 1) * 3 + 2, none⟩ = some (.int .i64 y.f2) := ((ownE_cell HO5.out (j + 1) 2 (by omega) (by omega)).trans (by rw [hya]; rfl))
              have hwj : IntKind.i64.wrap (j : Int) = (j : Int) := IntWalk.i64_in _ ⟨by omega, by omega⟩
              simp only [List.take_succ_cons, List.take_zero, List.drop_succ_cons, List.drop_zero]
              repeat still_step
              refine wpStill_nil ?_
              clear hwj
              go_wp2_with (go_at_call 34; refine (order_exact x.f0 x.f1 x.f2 y.f0 y.f1 y.f2 _).mono ?_; rintro e w6 ⟨he, nq, osq, rfl⟩; rw [HORD.out] at he; subst he; have HB6 := zMk (below_growN nq osq HB5.out HB5.out.size); have BZ6 := zMk (blk_growN nq osq BZ5.out); have HO6 := zMk (ownE_grow nq osq HO5.out); generalize Sort.grow (w5.drewN nq) osq = w6 at HB6 BZ6 HO6 ⊢; have hz0 := box_cell (c := 0) (v := .int .i64 0) BZ6.out rfl; have hz1 := box_cell (c := 1) (v := .slice none 0 0) BZ6.out rfl; have hzf0 := box_frozen (c := 0) BZ6.out; have hzf1 := box_frozen (c := 1) BZ6.out)
              refine bodyPost_ret (results_cellrow_tmp rfl _ _ w.heap.size 24 #[.int .i64 0, .slice none 0 0] (0, 0) _ rfl (by first | exact blk_setCell_same (blk_setCell_same BZ6.out)) Try.underlying24 rfl (by kernel_rfl)) rfl ?_
              exact ⟨.slice none 0 0, rfl, HZ _, below_set (below_set HB6.out (Nat.le_refl _)) (Nat.le_refl _)⟩
            · have ob : (o == 0) = false := beq_eq_false_iff_ne.mpr ho
              rw [decide_eq_false ho, Bool.false_or] at hdd
              have HDD := zMk hdd
              clear hdd ho
              go_wp2
              refine wp_region_still_tail 12 (by kernel_rfl) (by kernel_rfl) ?_
              have HB5 := zMk (zBd HB.out)
              have BZ5 := zMk (zKd BZ.out)
              have HO5 := zMk (ownE_congr HO.out (rfl : wr.drew.heap[g]? = wr.heap[g]?))
              generalize hw5 : wr.drew = w5 at HB5 BZ5 HO5
              show wpStill _ _ wr.drew (fun a' => wpList _ _ _ _ a' wr.drew) _ _
              rw [hw5]
              clear hw5
              have kc0 : w5.cell? ⟨g, j * 3, none⟩ = some (.int .i64 x.f0) := ((ownE_cell HO5.out j 0 (by omega) (by omega)).trans (by rw [hxa]; rfl))
              have kc1 : w5.cell? ⟨g, j * 3 + 1, none⟩ = some (.int .i64 x.f1) := ((ownE_cell HO5.out j 1 (by omega) (by omega)).trans (by rw [hxa]; rfl))
              have kc2 : w5.cell? ⟨g, j * 3 + 2, none⟩ = some (.int .i64 x.f2) := ((ownE_cell HO5.out j 2 (by omega) (by omega)).trans (by rw [hxa]; rfl))
              have kd0 : w5.cell? ⟨g, (j + 1) * 3, none⟩ = some (.int .i64 y.f0) := ((ownE_cell HO5.out (j + 1) 0 (by omega) (by omega)).trans (by rw [hya]; rfl))
              have kd1 : w5.cell? ⟨g, (j + 1) * 3 + 1, none⟩ = some (.int .i64 y.f1) := ((ownE_cell HO5.out (j + 1) 1 (by omega) (by omega)).trans (by rw [hya]; rfl))
              have kd2 : w5.cell? ⟨g, (j + 1) * 3 + 2, none⟩ = some (.int .i64 y.f2) := ((ownE_cell HO5.out (j + 1) 2 (by omega) (by omega)).trans (by rw [hya]; rfl))
              have hwj : IntKind.i64.wrap (j : Int) = (j : Int) := IntWalk.i64_in _ ⟨by omega, by omega⟩
              simp only [List.take_succ_cons, List.take_zero, List.drop_succ_cons, List.drop_zero]
              repeat still_step
              refine wpStill_nil ?_
              clear hwj
              go_wp2_with (go_at_call 34; refine (order_exact x.f0 x.f1 x.f2 y.f0 y.f1 y.f2 _).mono ?_; rintro e w6 ⟨he, nq, osq, rfl⟩; rw [hord] at he; subst he; have HB6 := zMk (below_growN nq osq HB5.out HB5.out.size); have BZ6 := zMk (blk_growN nq osq BZ5.out); have HO6 := zMk (ownE_grow nq osq HO5.out); generalize Sort.grow (w5.drewN nq) osq = w6 at HB6 BZ6 HO6 ⊢)
              try go_wp2
              go_roundg (l0.length - ((j + 1) + 1))
              case measure => omega
              case rel => exact ⟨(j + 1) + 1, by first | rfl | simp, by omega, Nat.le_refl _, HO6, HB6, BZ6, HDD⟩
        · obtain rfl : i = l0.length := by omega
          have hdd : dupE s = false := by
            rw [HD.out]
            have hle : (s.drop (l0.length - 1)).length ≤ 1 := by rw [zLd]; omega
            match h : s.drop (l0.length - 1), hle with
            | [], _ => rfl
            | [_], _ => rfl
            | _ :: _ :: _, h2 => simp at h2
          have hf := HF.out
          rw [if_neg (by rw [hdd]; decide)] at hf
          obtain ⟨rfl, rfl, rfl⟩ : n = r1 ∧ s = r2 ∧ (0 : Int) = r3 := by simpa using hf
          clear hf hdd HD HF
          have hz0 := box_cell (c := 0) (v := .int .i64 0) BZ.out rfl
          have hz1 := box_cell (c := 1) (v := .slice none 0 0) BZ.out rfl
          have hzf0 := box_frozen (c := 0) BZ.out
          have hzf1 := box_frozen (c := 1) BZ.out
          go_wp2
          have hlen : l0.length = s.length := hls.symm
          refine bodyPost_ret (results_cellrow_tmp rfl _ _ w.heap.size 24 #[.int .i64 n, .slice (some ⟨g, 0, none⟩) l0.length cap] (0, 0) _ rfl (blk_setCell_same (blk_setCell_same BZ.out)) Try.underlying24 rfl (by kernel_rfl)) rfl ?_
          refine ⟨_, rfl, ?_, below_set (below_set HB.out (Nat.le_refl _)) (Nat.le_refl _)⟩
          have hne : g ≠ w.heap.size := by omega
          rw [hlen]
          exact ownE_R (base := w.heap.size) (ok := fun _ => True) (ownE_congr HO.out ((Below.heap_setCell _ _ _ _ hne).trans (Below.heap_setCell _ _ _ _ hne))) trivial (by omega) (by omega) hmax
  · rw [if_neg hr] at h
    have rb : (r != 0) = true := bne_iff_ne.mpr hr
    obtain ⟨rfl, rfl, rfl⟩ : (0 : Int) = r1 ∧ [] = r2 ∧ r = r3 := by simpa using h
    clear h hr
    go_enter Try.func14, Try.ntmps14
    go_wp2_with (go_at_call 32; refine (HS _).mono ?_; rintro e w' ⟨rfl, nd, rfl⟩)
    refine bodyPost_ret (results_cellrow_tmp rfl _ _ w.heap.size 24 #[.int .i64 0, .slice none 0 0] (0, 0) _ rfl (by first | exact blk_setCell_same (blk_setCell_same (zKn (heap_alloc_new w _) nd))) Try.underlying24 rfl (by kernel_rfl)) rfl ?_
    exact ⟨.slice none 0 0, rfl, HZ _, below_set (below_set (zBn (zBa (Below.refl _ _) _) nd) (Nat.le_refl _)) (Nat.le_refl _)⟩


def bsL (l : List S36) (u v : Int) : Nat → Int → Int → Option Int
  | 0, _, _ => none
  | k + 1, i, j => if i < j then (if ordI (rd_T36 l ((i + j) / 2)).f0 (rd_T36 l ((i + j) / 2)).f1 u v < 0 then bsL l u v k ((i + j) / 2 + 1) j else bsL l u v k i ((i + j) / 2)) else some i
def api_Edge_45.f (l : List S36) (tu tv tw : Int) : Option (Int × Bool) := if l.length < 4611686018427387904 then (bsL l tu tv (l.length + 1) 0 l.length).bind fun i => if i < l.length then some (i, decide (ordI (rd_T36 l i).f0 (rd_T36 l i).f1 tu tv = 0)) else some (i, false) else none
theorem api_Edge_45.calls (A0 : Option Addr) (c0 : Nat) (l0 : List S36) (a1_0 a1_1 a1_2 : Int) (r1 : Int) (r2 : Bool) (w : World) (hr0 : Kd.C k36 w A0 l0.length l0) (hc0 : l0.length ≤ c0) (h : api_Edge_45.f l0 a1_0 a1_1 a1_2 = some (r1, r2)) :
    Calls Try.prog 45 #[.slice A0 l0.length c0, .agg #[.int .i64 a1_0, .int .i64 a1_1, .int .i64 a1_2], .func (.func 34) #[] #[]] w fun e w' => e = .returned (.tuple #[.int .i64 r1, .bool r2]) ∧ Below w.heap.size w w' := by
  have HR := zMk hr0
  unfold api_Edge_45.f at h
  by_cases hl : l0.length < 4611686018427387904
  · rw [if_pos hl] at h
    obtain ⟨i, h1, h2⟩ := Option.bind_eq_some_iff.1 h
    have H1 := zMk h1
    have H2 := zMk h2
    clear hr0 hc0 h h1 h2
    have mixed : Try.prog.follows .mixedOrders = true := by kernel_rfl
    go_enter Try.func45, Try.ntmps45
    go_wp2_with (fail)
    go_loopg [9, 10] l0.length (fun kx s9 s10 wr => ∃ lo hi : Nat, s9 = .int .i64 lo ∧ s10 = .int .i64 hi ∧ lo ≤ hi ∧ hi ≤ l0.length ∧ hi - lo ≤ kx ∧ Aside0 (Below w.heap.size w wr) ∧ Aside0 (wr.heap[w.heap.size]? = some (.cells #[.int .i64 a1_0, .int .i64 a1_1, .int .i64 a1_2] 36 (0, 0))) ∧ Aside0 (∃ k, bsL l0 a1_0 a1_1 k lo hi = some i))
    case atStart =>
      exact ⟨0, l0.length, rfl, rfl, Nat.zero_le _, Nat.le_refl _, by omega, zMk (zBa (Below.refl _ _) _), zMk (by show (w.heap.push _)[w.heap.size]? = _; simp), zMk ⟨_, H1.out⟩⟩
    case round =>
      clear H1
      obtain ⟨lo, hi, rfl, rfl, hlh, hin, hg, HB, BK, HI⟩ := hrel
      obtain ⟨k, hk⟩ := HI.out
      clear HI
      cases k with
      | zero => simp [bsL] at hk
      | succ k =>
      unfold bsL at hk
      by_cases hlt : lo < hi
      · rw [if_pos (by omega : (lo : Int) < hi)] at hk
        obtain ⟨ad, rfl, e0, e1, e2⟩ := at_T36 HR.out (((lo : Int) + hi) / 2) (by omega) (by omega)
        generalize rd_T36 l0 (((lo : Int) + hi) / 2) = x at hk e0 e1 e2
        have p1 : (0 ≤ ((lo : Int) + hi) / 2) = True := eq_true (by omega)
        have p2 : (((lo : Int) + hi) / 2 < (l0.length : Int)) = True := eq_true (by omega)
        have hc := fun W => order_exact x.f0 x.f1 x.f2 a1_0 a1_1 a1_2 W
        generalize ordI x.f0 x.f1 a1_0 a1_1 = o at hk hc
        by_cases ho : o < 0
        · rw [if_pos ho] at hk
          have HK := zMk hk
          clear hk
          go_wp2
          refine start_ (n := 8) (S := fun w' => w'.cell? ⟨w.heap.size, 0, none⟩ = some (.int .i64 a1_0) ∧ w'.cell? ⟨w.heap.size, 1, none⟩ = some (.int .i64 a1_1) ∧ w'.cell? ⟨w.heap.size, 2, none⟩ = some (.int .i64 a1_2) ∧ w'.cell? (ad.add ((((lo : Int) + hi) / 2).toNat * 3)) = some (.int .i64 x.f0) ∧ w'.cell? ⟨(ad.add ((((lo : Int) + hi) / 2).toNat * 3)).block, (ad.add ((((lo : Int) + hi) / 2).toNat * 3)).off + 1, none⟩ = some (.int .i64 x.f1) ∧ w'.cell? ⟨(ad.add ((((lo : Int) + hi) / 2).toNat * 3)).block, (ad.add ((((lo : Int) + hi) / 2).toNat * 3)).off + 2, none⟩ = some (.int .i64 x.f2)) (ds := []) #[false, false, false, false, false, false, false, false] (by kernel_rfl) rfl rfl (by exact ⟨(zKc BK.out 0).trans rfl, (zKc BK.out 1).trans rfl, (zKc BK.out 2).trans rfl, (HB.out.cell (World.block_lt_of_cell? w _ e0)).trans e0, (HB.out.cell (World.block_lt_of_cell? w _ e1)).trans e1, (HB.out.cell (World.block_lt_of_cell? w _ e2)).trans e2⟩) (fun hHeld => ?_)
          have HB1 := zMk (zBd HB.out)
          have BK1 := zMk (zKd BK.out)
          generalize wr.drew = w1 at hHeld HB1 BK1 ⊢
          refine pure_ (i := 0) (N := some 24) (v := ?_) (a' := ?_) #[true, false, false, false, false, false, false, false] rfl rfl (by kernel_rfl) (fun _ _ _ h => h) (Or.inl ⟨by rfl, ?_⟩) ?_ ?_
          rotate_left
          · intro w'
            go_simp
            with_reducible rfl
          rotate_left
          · simp only [Act.put, zSa, zSb, zSc, i64_w, i32_w]
            rfl
          refine pure_ (i := 1) (N := some 25) (v := ?_) (a' := ?_) #[true, true, false, false, false, false, false, false] rfl rfl (by kernel_rfl) (fun _ _ _ h => h) (Or.inl ⟨by rfl, ?_⟩) ?_ ?_
          rotate_left
          · intro w'
            go_simp
            with_reducible rfl
          rotate_left
          · simp only [Act.put, zSa, zSb, zSc, i64_w, i32_w]
            rfl
          refine pure_ (i := 2) (N := some 26) (v := ?_) (a' := ?_) #[true, true, true, false, false, false, false, false] rfl rfl (by kernel_rfl) (fun _ _ _ h => h) (Or.inl ⟨by rfl, ?_⟩) ?_ ?_
          rotate_left
          · intro w'
            go_simp
            with_reducible rfl
          rotate_left
          · simp only [Act.put, zSa, zSb, zSc, i64_w, i32_w]
            rfl
          refine pure_ (i := 3) (N := some 27) (v := ?_) (a' := ?_) #[true, true, true, true, false, false, false, false] rfl rfl (by kernel_rfl) (fun _ _ _ h => h) (Or.inl ⟨by rfl, ?_⟩) ?_ ?_
          rotate_left
          · intro w'
            go_simp
            with_reducible rfl
          rotate_left
          · simp only [Act.put, zSa, zSb, zSc, i64_w, i32_w]
            rfl
          refine take_ (i := 4) (N := some 28) (v := ?_) (a' := ?_) #[true, true, true, true, true, false, false, false] rfl rfl (by kernel_rfl) (fun _ _ _ h => h) (Or.inl ⟨by rfl, ?_⟩) hHeld ?_ ?_
          rotate_left
          · rintro w' ⟨s0, s1, s2, s3, s4, s5⟩
            go_simp
            with_reducible rfl
          rotate_left
          · simp only [Act.put, zSa, zSb, zSc, i64_w, i32_w]
            rfl
          refine take_ (i := 5) (N := some 29) (v := ?_) (a' := ?_) #[true, true, true, true, true, true, false, false] rfl rfl (by kernel_rfl) (fun _ _ _ h => h) (Or.inl ⟨by rfl, ?_⟩) hHeld ?_ ?_
          rotate_left
          · rintro w' ⟨s0, s1, s2, s3, s4, s5⟩
            go_simp
            with_reducible rfl
          rotate_left
          · simp only [Act.put, zSa, zSb, zSc, i64_w, i32_w]
            rfl
          refine one_ (i := 6) (N := some 30) #[true, true, true, true, true, true, true, false] rfl rfl (by kernel_rfl) (by decide) (fun K hK => ?_)
          refine goesT_ Try.func34 (by kernel_rfl) rfl #[.agg #[.int .i64 x.f0, .int .i64 x.f1, .int .i64 x.f2], .agg #[.int .i64 a1_0, .int .i64 a1_1, .int .i64 a1_2]] (by rfl) rfl rfl (by rfl) (by (try simp only [zMa, zMc, zMn]); rfl) ?_
          refine (hc w1).mono ?_
          rintro e w' ⟨rfl, nq, osq, rfl⟩
          refine ⟨_, rfl, ?_⟩
          have HB2 := zMk (below_growN nq osq HB1.out HB1.out.size)
          have BK2 := zMk (blk_growN nq osq BK1.out)
          generalize Sort.grow (w1.drewN nq) osq = w2 at HB2 BK2 ⊢
          refine hK.out _ _ ⟨(zKc BK2.out 0).trans rfl, (zKc BK2.out 1).trans rfl, (zKc BK2.out 2).trans rfl, (HB2.out.cell (World.block_lt_of_cell? w _ e0)).trans e0, (HB2.out.cell (World.block_lt_of_cell? w _ e1)).trans e1, (HB2.out.cell (World.block_lt_of_cell? w _ e2)).trans e2⟩ (fun hHeld => ?_)
          clear hK K
          refine norm_ (a' := ?_) ?_ ?_
          rotate_left
          · show Act.put _ (some 30) _ = _
            simp only [Act.put, zSa, zSb, zSc, i64_w, i32_w]
            rfl
          refine pure_ (i := 7) (N := some 31) (v := ?_) (a' := ?_) #[true, true, true, true, true, true, true, true] rfl rfl (by kernel_rfl) (fun _ _ _ h => h) (Or.inl ⟨by rfl, ?_⟩) ?_ ?_
          rotate_left
          · intro w'
            go_simp
            with_reducible rfl
          rotate_left
          · simp only [Act.put, zSa, zSb, zSc, i64_w, i32_w]
            rfl
          refine done_ (by kernel_rfl) ?_
          try go_wp2
          go_roundg (hi - ((lo + hi) / 2 + 1))
          case measure => omega
          case rel => exact ⟨(lo + hi) / 2 + 1, hi, by rw [show ((lo : Int) + (hi : Int)) / 2 + 1 = (((lo + hi) / 2 + 1 : Nat) : Int) by omega], rfl, by omega, hin, Nat.le_refl _, HB2, BK2, zMk ⟨k, by rw [show (((lo + hi) / 2 + 1 : Nat) : Int) = ((lo : Int) + hi) / 2 + 1 by omega]; exact HK.out⟩⟩
        · rw [if_neg ho] at hk
          have HK := zMk hk
          clear hk
          go_wp2
          refine start_ (n := 8) (S := fun w' => w'.cell? ⟨w.heap.size, 0, none⟩ = some (.int .i64 a1_0) ∧ w'.cell? ⟨w.heap.size, 1, none⟩ = some (.int .i64 a1_1) ∧ w'.cell? ⟨w.heap.size, 2, none⟩ = some (.int .i64 a1_2) ∧ w'.cell? (ad.add ((((lo : Int) + hi) / 2).toNat * 3)) = some (.int .i64 x.f0) ∧ w'.cell? ⟨(ad.add ((((lo : Int) + hi) / 2).toNat * 3)).block, (ad.add ((((lo : Int) + hi) / 2).toNat * 3)).off + 1, none⟩ = some (.int .i64 x.f1) ∧ w'.cell? ⟨(ad.add ((((lo : Int) + hi) / 2).toNat * 3)).block, (ad.add ((((lo : Int) + hi) / 2).toNat * 3)).off + 2, none⟩ = some (.int .i64 x.f2)) (ds := []) #[false, false, false, false, false, false, false, false] (by kernel_rfl) rfl rfl (by exact ⟨(zKc BK.out 0).trans rfl, (zKc BK.out 1).trans rfl, (zKc BK.out 2).trans rfl, (HB.out.cell (World.block_lt_of_cell? w _ e0)).trans e0, (HB.out.cell (World.block_lt_of_cell? w _ e1)).trans e1, (HB.out.cell (World.block_lt_of_cell? w _ e2)).trans e2⟩) (fun hHeld => ?_)
          have HB1 := zMk (zBd HB.out)
          have BK1 := zMk (zKd BK.out)
          generalize wr.drew = w1 at hHeld HB1 BK1 ⊢
          refine pure_ (i := 0) (N := some 24) (v := ?_) (a' := ?_) #[true, false, false, false, false, false, false, false] rfl rfl (by kernel_rfl) (fun _ _ _ h => h) (Or.inl ⟨by rfl, ?_⟩) ?_ ?_
          rotate_left
          · intro w'
            go_simp
            with_reducible rfl
          rotate_left
          · simp only [Act.put, zSa, zSb, zSc, i64_w, i32_w]
            rfl
          refine pure_ (i := 1) (N := some 25) (v := ?_) (a' := ?_) #[true, true, false, false, false, false, false, false] rfl rfl (by kernel_rfl) (fun _ _ _ h => h) (Or.inl ⟨by rfl, ?_⟩) ?_ ?_
          rotate_left
          · intro w'
            go_simp
            with_reducible rfl
          rotate_left
          · simp only [Act.put, zSa, zSb, zSc, i64_w, i32_w]
            rfl
          refine pure_ (i := 2) (N := some 26) (v := ?_) (a' := ?_) #[true, true, true, false, false, false, false, false] rfl rfl (by kernel_rfl) (fun _ _ _ h => h) (Or.inl ⟨by rfl, ?_⟩) ?_ ?_
          rotate_left
          · intro w'
            go_simp
            with_reducible rfl
          rotate_left
          · simp only [Act.put, zSa, zSb, zSc, i64_w, i32_w]
            rfl
          refine pure_ (i := 3) (N := some 27) (v := ?_) (a' := ?_) #[true, true, true, true, false, false, false, false] rfl rfl (by kernel_rfl) (fun _ _ _ h => h) (Or.inl ⟨by rfl, ?_⟩) ?_ ?_
          rotate_left
          · intro w'
            go_simp
            with_reducible rfl
          rotate_left
          · simp only [Act.put, zSa, zSb, zSc, i64_w, i32_w]
            rfl
          refine take_ (i := 4) (N := some 28) (v := ?_) (a' := ?_) #[true, true, true, true, true, false, false, false] rfl rfl (by kernel_rfl) (fun _ _ _ h => h) (Or.inl ⟨by rfl, ?_⟩) hHeld ?_ ?_
          rotate_left
          · rintro w' ⟨s0, s1, s2, s3, s4, s5⟩
            go_simp
            with_reducible rfl
          rotate_left
          · simp only [Act.put, zSa, zSb, zSc, i64_w, i32_w]
            rfl
          refine take_ (i := 5) (N := some 29) (v := ?_) (a' := ?_) #[true, true, true, true, true, true, false, false] rfl rfl (by kernel_rfl) (fun _ _ _ h => h) (Or.inl ⟨by rfl, ?_⟩) hHeld ?_ ?_
          rotate_left
          · rintro w' ⟨s0, s1, s2, s3, s4, s5⟩
            go_simp
            with_reducible rfl
          rotate_left
          · simp only [Act.put, zSa, zSb, zSc, i64_w, i32_w]
            rfl
          refine one_ (i := 6) (N := some 30) #[true, true, true, true, true, true, true, false] rfl rfl (by kernel_rfl) (by decide) (fun K hK => ?_)
          refine goesT_ Try.func34 (by kernel_rfl) rfl #[.agg #[.int .i64 x.f0, .int .i64 x.f1, .int .i64 x.f2], .agg #[.int .i64 a1_0, .int .i64 a1_1, .int .i64 a1_2]] (by rfl) rfl rfl (by rfl) (by (try simp only [zMa, zMc, zMn]); rfl) ?_
          refine (hc w1).mono ?_
          rintro e w' ⟨rfl, nq, osq, rfl⟩
          refine ⟨_, rfl, ?_⟩
          have HB2 := zMk (below_growN nq osq HB1.out HB1.out.size)
          have BK2 := zMk (blk_growN nq osq BK1.out)
          generalize Sort.grow (w1.drewN nq) osq = w2 at HB2 BK2 ⊢
          refine hK.out _ _ ⟨(zKc BK2.out 0).trans rfl, (zKc BK2.out 1).trans rfl, (zKc BK2.out 2).trans rfl, (HB2.out.cell (World.block_lt_of_cell? w _ e0)).trans e0, (HB2.out.cell (World.block_lt_of_cell? w _ e1)).trans e1, (HB2.out.cell (World.block_lt_of_cell? w _ e2)).trans e2⟩ (fun hHeld => ?_)
          clear hK K
          refine norm_ (a' := ?_) ?_ ?_
          rotate_left
          · show Act.put _ (some 30) _ = _
            simp only [Act.put, zSa, zSb, zSc, i64_w, i32_w]
            rfl
          refine pure_ (i := 7) (N := some 31) (v := ?_) (a' := ?_) #[true, true, true, true, true, true, true, true] rfl rfl (by kernel_rfl) (fun _ _ _ h => h) (Or.inl ⟨by rfl, ?_⟩) ?_ ?_
          rotate_left
          · intro w'
            go_simp
            with_reducible rfl
          rotate_left
          · simp only [Act.put, zSa, zSb, zSc, i64_w, i32_w]
            rfl
          refine done_ (by kernel_rfl) ?_
          try go_wp2
          go_roundg ((lo + hi) / 2 - lo)
          case measure => omega
          case rel => exact ⟨lo, (lo + hi) / 2, rfl, by rw [show ((lo : Int) + (hi : Int)) / 2 = (((lo + hi) / 2 : Nat) : Int) by omega], by omega, by omega, Nat.le_refl _, HB2, BK2, zMk ⟨k, by rw [show (((lo + hi) / 2 : Nat) : Int) = ((lo : Int) + hi) / 2 by omega]; exact HK.out⟩⟩
      · rw [if_neg (by omega : ¬ ((lo : Int) < hi))] at hk
        obtain rfl : hi = lo := by omega
        obtain rfl := zOi hk
        clear hk
        have HN := H2.out
        clear H2
        by_cases hn : hi < l0.length
        · rw [if_pos (by omega : ((hi : Int) < (l0.length : Int)))] at HN
          obtain ⟨ad, rfl, e0, e1, e2⟩ := at_T36 HR.out (hi : Int) (by omega) (by omega)
          simp only [zTn] at e0 e1 e2
          generalize rd_T36 l0 (hi : Int) = x at HN e0 e1 e2
          have p1 : (0 ≤ (hi : Int)) = True := eq_true (by omega)
          have p2 : ((hi : Int) < (l0.length : Int)) = True := eq_true (by omega)
          have hc := fun W => order_exact x.f0 x.f1 x.f2 a1_0 a1_1 a1_2 W
          generalize ordI x.f0 x.f1 a1_0 a1_1 = o at HN hc
          by_cases ho : o = 0
          · rw [decide_eq_true ho] at HN
            have ob : (o == 0) = true := beq_iff_eq.mpr ho
            clear ho
            obtain ⟨rfl, rfl⟩ : (hi : Int) = r1 ∧ true = r2 := by simpa using HN
            clear HN
            go_wp2
            refine start_ (n := 16) (S := fun w' => w'.cell? ⟨w.heap.size, 0, none⟩ = some (.int .i64 a1_0) ∧ w'.cell? ⟨w.heap.size, 1, none⟩ = some (.int .i64 a1_1) ∧ w'.cell? ⟨w.heap.size, 2, none⟩ = some (.int .i64 a1_2) ∧ w'.cell? (ad.add (hi * 3)) = some (.int .i64 x.f0) ∧ w'.cell? ⟨(ad.add (hi * 3)).block, (ad.add (hi * 3)).off + 1, none⟩ = some (.int .i64 x.f1) ∧ w'.cell? ⟨(ad.add (hi * 3)).block, (ad.add (hi * 3)).off + 2, none⟩ = some (.int .i64 x.f2)) (ds := []) #[false, false, false, false, false, false, false, false, false, false, false, false, false, false, false, false] (by kernel_rfl) rfl rfl (by exact ⟨(zKc BK.out 0).trans rfl, (zKc BK.out 1).trans rfl, (zKc BK.out 2).trans rfl, (HB.out.cell (World.block_lt_of_cell? w _ e0)).trans e0, (HB.out.cell (World.block_lt_of_cell? w _ e1)).trans e1, (HB.out.cell (World.block_lt_of_cell? w _ e2)).trans e2⟩) (fun hHeld => ?_)
            have HB1 := zMk (zBd HB.out)
            have BK1 := zMk (zKd BK.out)
            generalize wr.drew = w1 at hHeld HB1 BK1 ⊢
            refine pure_ (i := 0) (N := some 35) (v := ?_) (a' := ?_) #[true, false, false, false, false, false, false, false, false, false, false, false, false, false, false, false] rfl rfl (by kernel_rfl) (fun _ _ _ h => h) (Or.inl ⟨by rfl, ?_⟩) ?_ ?_
            rotate_left
            · intro w'
              go_simp
              with_reducible rfl
            rotate_left
            · simp only [Act.put, zSa, zSb, zSc, i64_w, i32_w]
              rfl
            refine pure_ (i := 1) (N := some 36) (v := ?_) (a' := ?_) #[true, true, false, false, false, false, false, false, false, false, false, false, false, false, false, false] rfl rfl (by kernel_rfl) (fun _ _ _ h => h) (Or.inl ⟨by rfl, ?_⟩) ?_ ?_
            rotate_left
            · intro w'
              go_simp
              with_reducible rfl
            rotate_left
            · simp only [Act.put, zSa, zSb, zSc, i64_w, i32_w]
              rfl
            refine pure_ (i := 2) (N := some 37) (v := ?_) (a' := ?_) #[true, true, true, false, false, false, false, false, false, false, false, false, false, false, false, false] rfl rfl (by kernel_rfl) (fun _ _ _ h => h) (Or.inl ⟨by rfl, ?_⟩) ?_ ?_
            rotate_left
            · intro w'
              go_simp
              with_reducible rfl
            rotate_left
            · simp only [Act.put, zSa, zSb, zSc, i64_w, i32_w]
              rfl
            refine pure_ (i := 3) (N := some 38) (v := ?_) (a' := ?_) #[true, true, true, true, false, false, false, false, false, false, false, false, false, false, false, false] rfl rfl (by kernel_rfl) (fun _ _ _ h => h) (Or.inl ⟨by rfl, ?_⟩) ?_ ?_
            rotate_left
            · intro w'
              go_simp
              with_reducible rfl
            rotate_left
            · simp only [Act.put, zSa, zSb, zSc, i64_w, i32_w]
              rfl
            refine pure_ (i := 4) (N := some 39) (v := ?_) (a' := ?_) #[true, true, true, true, true, false, false, false, false, false, false, false, false, false, false, false] rfl rfl (by kernel_rfl) (fun _ _ _ h => h) (Or.inl ⟨by rfl, ?_⟩) ?_ ?_
            rotate_left
            · intro w'
              go_simp
              with_reducible rfl
            rotate_left
            · simp only [Act.put, zSa, zSb, zSc, i64_w, i32_w]
              rfl
            refine pure_ (i := 5) (N := some 40) (v := ?_) (a' := ?_) #[true, true, true, true, true, true, false, false, false, false, false, false, false, false, false, false] rfl rfl (by kernel_rfl) (fun _ _ _ h => h) (Or.inl ⟨by rfl, ?_⟩) ?_ ?_
            rotate_left
            · intro w'
              go_simp
              with_reducible rfl
            rotate_left
            · simp only [Act.put, zSa, zSb, zSc, i64_w, i32_w]
              rfl
            refine pure_ (i := 6) (N := some 41) (v := ?_) (a' := ?_) #[true, true, true, true, true, true, true, false, false, false, false, false, false, false, false, false] rfl rfl (by kernel_rfl) (fun _ _ _ h => h) (Or.inl ⟨by rfl, ?_⟩) ?_ ?_
            rotate_left
            · intro w'
              go_simp
              with_reducible rfl
            rotate_left
            · simp only [Act.put, zSa, zSb, zSc, i64_w, i32_w]
              rfl
            refine pure_ (i := 7) (N := some 42) (v := ?_) (a' := ?_) #[true, true, true, true, true, true, true, true, false, false, false, false, false, false, false, false] rfl rfl (by kernel_rfl) (fun _ _ _ h => h) (Or.inl ⟨by rfl, ?_⟩) ?_ ?_
            rotate_left
            · intro w'
              go_simp
              with_reducible rfl
            rotate_left
            · simp only [Act.put, zSa, zSb, zSc, i64_w, i32_w]
              rfl
            refine pure_ (i := 8) (N := some 43) (v := ?_) (a' := ?_) #[true, true, true, true, true, true, true, true, true, false, false, false, false, false, false, false] rfl rfl (by kernel_rfl) (fun _ _ _ h => h) (Or.inl ⟨by rfl, ?_⟩) ?_ ?_
            rotate_left
            · intro w'
              go_simp
              with_reducible rfl
            rotate_left
            · simp only [Act.put, zSa, zSb, zSc, i64_w, i32_w]
              rfl
            refine take_ (i := 9) (N := some 44) (v := ?_) (a' := ?_) #[true, true, true, true, true, true, true, true, true, true, false, false, false, false, false, false] rfl rfl (by kernel_rfl) (fun _ _ _ h => h) (Or.inl ⟨by rfl, ?_⟩) hHeld ?_ ?_
            rotate_left
            · rintro w' ⟨s0, s1, s2, s3, s4, s5⟩
              go_simp
              with_reducible rfl
            rotate_left
            · simp only [Act.put, zSa, zSb, zSc, i64_w, i32_w]
              rfl
            refine take_ (i := 10) (N := some 45) (v := ?_) (a' := ?_) #[true, true, true, true, true, true, true, true, true, true, true, false, false, false, false, false] rfl rfl (by kernel_rfl) (fun _ _ _ h => h) (Or.inl ⟨by rfl, ?_⟩) hHeld ?_ ?_
            rotate_left
            · rintro w' ⟨s0, s1, s2, s3, s4, s5⟩
              go_simp
              with_reducible rfl
            rotate_left
            · simp only [Act.put, zSa, zSb, zSc, i64_w, i32_w]
              rfl
            refine one_ (i := 11) (N := some 46) #[true, true, true, true, true, true, true, true, true, true, true, true, false, false, false, false] rfl rfl (by kernel_rfl) (by decide) (fun K hK => ?_)
            refine goesT_ Try.func34 (by kernel_rfl) rfl #[.agg #[.int .i64 x.f0, .int .i64 x.f1, .int .i64 x.f2], .agg #[.int .i64 a1_0, .int .i64 a1_1, .int .i64 a1_2]] (by rfl) rfl rfl (by rfl) (by (try simp only [zMa, zMc, zMn]); rfl) ?_
            refine (hc w1).mono ?_
            rintro e w' ⟨rfl, nq, osq, rfl⟩
            refine ⟨_, rfl, ?_⟩
            have HB2 := zMk (below_growN nq osq HB1.out HB1.out.size)
            have BK2 := zMk (blk_growN nq osq BK1.out)
            generalize Sort.grow (w1.drewN nq) osq = w2 at HB2 BK2 ⊢
            refine hK.out _ _ ⟨(zKc BK2.out 0).trans rfl, (zKc BK2.out 1).trans rfl, (zKc BK2.out 2).trans rfl, (HB2.out.cell (World.block_lt_of_cell? w _ e0)).trans e0, (HB2.out.cell (World.block_lt_of_cell? w _ e1)).trans e1, (HB2.out.cell (World.block_lt_of_cell? w _ e2)).trans e2⟩ (fun hHeld => ?_)
            clear hK K
            refine norm_ (a' := ?_) ?_ ?_
            rotate_left
            · show Act.put _ (some 46) _ = _
              simp only [Act.put, zSa, zSb, zSc, i64_w, i32_w]
              rfl
            refine pure_ (i := 12) (N := some 47) (v := ?_) (a' := ?_) #[true, true, true, true, true, true, true, true, true, true, true, true, true, false, false, false] rfl rfl (by kernel_rfl) (fun _ _ _ h => h) (Or.inl ⟨by rfl, ?_⟩) ?_ ?_
            rotate_left
            · intro w'
              go_simp
              with_reducible rfl
            rotate_left
            · simp only [Act.put, zSa, zSb, zSc, i64_w, i32_w]
              rfl
            refine pure_ (i := 13) (N := some 48) (v := ?_) (a' := ?_) #[true, true, true, true, true, true, true, true, true, true, true, true, true, true, false, false] rfl rfl (by kernel_rfl) (fun _ _ _ h => h) (Or.inl ⟨by rfl, ?_⟩) ?_ ?_
            rotate_left
            · intro w'
              go_simp
              with_reducible rfl
            rotate_left
            · simp only [Act.put, zSa, zSb, zSc, i64_w, i32_w]
              rfl
            refine pure_ (i := 14) (N := some 6) (v := ?_) (a' := ?_) #[true, true, true, true, true, true, true, true, true, true, true, true, true, true, true, false] rfl rfl (by kernel_rfl) (fun _ _ _ h => h) (Or.inl ⟨by rfl, ?_⟩) ?_ ?_
            rotate_left
            · intro w'
              go_simp
              with_reducible rfl
            rotate_left
            · simp only [Act.put, zSa, zSb, zSc, i64_w, i32_w]
              rfl
            refine pure_ (i := 15) (N := some 7) (v := ?_) (a' := ?_) #[true, true, true, true, true, true, true, true, true, true, true, true, true, true, true, true] rfl rfl (by kernel_rfl) (fun _ _ _ h => h) (Or.inl ⟨by rfl, ?_⟩) ?_ ?_
            rotate_left
            · intro w'
              go_simp
              with_reducible rfl
            rotate_left
            · simp only [Act.put, zSa, zSb, zSc, i64_w, i32_w]
              rfl
            refine done_ (by kernel_rfl) ?_
            try go_wp2
            go_ret2
            exact ⟨rfl, HB2.out⟩
          · rw [decide_eq_false ho] at HN
            have ob : (o == 0) = false := beq_eq_false_iff_ne.mpr ho
            clear ho
            obtain ⟨rfl, rfl⟩ : (hi : Int) = r1 ∧ false = r2 := by simpa using HN
            clear HN
            go_wp2
            refine start_ (n := 16) (S := fun w' => w'.cell? ⟨w.heap.size, 0, none⟩ = some (.int .i64 a1_0) ∧ w'.cell? ⟨w.heap.size, 1, none⟩ = some (.int .i64 a1_1) ∧ w'.cell? ⟨w.heap.size, 2, none⟩ = some (.int .i64 a1_2) ∧ w'.cell? (ad.add (hi * 3)) = some (.int .i64 x.f0) ∧ w'.cell? ⟨(ad.add (hi * 3)).block, (ad.add (hi * 3)).off + 1, none⟩ = some (.int .i64 x.f1) ∧ w'.cell? ⟨(ad.add (hi * 3)).block, (ad.add (hi * 3)).off + 2, none⟩ = some (.int .i64 x.f2)) (ds := []) #[false, false, false, false, false, false, false, false, false, false, false, false, false, false, false, false] (by kernel_rfl) rfl rfl (by exact ⟨(zKc BK.out 0).trans rfl, (zKc BK.out 1).trans rfl, (zKc BK.out 2).trans rfl, (HB.out.cell (World.block_lt_of_cell? w _ e0)).trans e0, (HB.out.cell (World.block_lt_of_cell? w _ e1)).trans e1, (HB.out.cell (World.block_lt_of_cell? w _ e2)).trans e2⟩) (fun hHeld => ?_)
            have HB1 := zMk (zBd HB.out)
            have BK1 := zMk (zKd BK.out)
            generalize wr.drew = w1 at hHeld HB1 BK1 ⊢
            refine pure_ (i := 0) (N := some 35) (v := ?_) (a' := ?_) #[true, false, false, false, false, false, false, false, false, false, false, false, false, false, false, false] rfl rfl (by kernel_rfl) (fun _ _ _ h => h) (Or.inl ⟨by rfl, ?_⟩) ?_ ?_
            rotate_left
            · intro w'
              go_simp
              with_reducible rfl
            rotate_left
            · simp only [Act.put, zSa, zSb, zSc, i64_w, i32_w]
              rfl
            refine pure_ (i := 1) (N := some 36) (v := ?_) (a' := ?_) #[true, true, false, false, false, false, false, false, false, false, false, false, false, false, false, false] rfl rfl (by kernel_rfl) (fun _ _ _ h => h) (Or.inl ⟨by rfl, ?_⟩) ?_ ?_
            rotate_left
            · intro w'
              go_simp
              with_reducible rfl
            rotate_left
            · simp only [Act.put, zSa, zSb, zSc, i64_w, i32_w]
              rfl
            refine pure_ (i := 2) (N := some 37) (v := ?_) (a' := ?_) #[true, true, true, false, false, false, false, false, false, false, false, false, false, false, false, false] rfl rfl (by kernel_rfl) (fun _ _ _ h => h) (Or.inl ⟨by rfl, ?_⟩) ?_ ?_
            rotate_left
            · intro w'
              go_simp
              with_reducible rfl
            rotate_left
            · simp only [Act.put, zSa, zSb, zSc, i64_w, i32_w]
              rfl
            refine pure_ (i := 3) (N := some 38) (v := ?_) (a' := ?_) #[true, true, true, true, false, false, false, false, false, false, false, false, false, false, false, false] rfl rfl (by kernel_rfl) (fun _ _ _ h => h) (Or.inl ⟨by rfl, ?_⟩) ?_ ?_
            rotate_left
            · intro w'
              go_simp
              with_reducible rfl
            rotate_left
            · simp only [Act.put, zSa, zSb, zSc, i64_w, i32_w]
              rfl
            refine pure_ (i := 4) (N := some 39) (v := ?_) (a' := ?_) #[true, true, true, true, true, false, false, false, false, false, false, false, false, false, false, false] rfl rfl (by kernel_rfl) (fun _ _ _ h => h) (Or.inl ⟨by rfl, ?_⟩) ?_ ?_
            rotate_left
            · intro w'
              go_simp
              with_reducible rfl
            rotate_left
            · simp only [Act.put, zSa, zSb, zSc, i64_w, i32_w]
              rfl
            refine pure_ (i := 5) (N := some 40) (v := ?_) (a' := ?_) #[true, true, true, true, true, true, false, false, false, false, false, false, false, false, false, false] rfl rfl (by kernel_rfl) (fun _ _ _ h => h) (Or.inl ⟨by rfl, ?_⟩) ?_ ?_
            rotate_left
            · intro w'
              go_simp
              with_reducible rfl
            rotate_left
            · simp only [Act.put, zSa, zSb, zSc, i64_w, i32_w]
              rfl
            refine pure_ (i := 6) (N := some 41) (v := ?_) (a' := ?_) #[true, true, true, true, true, true, true, false, false, false, false, false, false, false, false, false] rfl rfl (by kernel_rfl) (fun _ _ _ h => h) (Or.inl ⟨by rfl, ?_⟩) ?_ ?_
            rotate_left
            · intro w'
              go_simp
              with_reducible rfl
            rotate_left
            · simp only [Act.put, zSa, zSb, zSc, i64_w, i32_w]
              rfl
            refine pure_ (i := 7) (N := some 42) (v := ?_) (a' := ?_) #[true, true, true, true, true, true, true, true, false, false, false, false, false, false, false, false] rfl rfl (by kernel_rfl) (fun _ _ _ h => h) (Or.inl ⟨by rfl, ?_⟩) ?_ ?_
            rotate_left
            · intro w'
              go_simp
              with_reducible rfl
            rotate_left
            · simp only [Act.put, zSa, zSb, zSc, i64_w, i32_w]
              rfl
            refine pure_ (i := 8) (N := some 43) (v := ?_) (a' := ?_) #[true, true, true, true, true, true, true, true, true, false, false, false, false, false, false, false] rfl rfl (by kernel_rfl) (fun _ _ _ h => h) (Or.inl ⟨by rfl, ?_⟩) ?_ ?_
            rotate_left
            · intro w'
              go_simp
              with_reducible rfl
            rotate_left
            · simp only [Act.put, zSa, zSb, zSc, i64_w, i32_w]
              rfl
            refine take_ (i := 9) (N := some 44) (v := ?_) (a' := ?_) #[true, true, true, true, true, true, true, true, true, true, false, false, false, false, false, false] rfl rfl (by kernel_rfl) (fun _ _ _ h => h) (Or.inl ⟨by rfl, ?_⟩) hHeld ?_ ?_
            rotate_left
            · rintro w' ⟨s0, s1, s2, s3, s4, s5⟩
              go_simp
              with_reducible rfl
            rotate_left
            · simp only [Act.put, zSa, zSb, zSc, i64_w, i32_w]
              rfl
            refine take_ (i := 10) (N := some 45) (v := ?_) (a' := ?_) #[true, true, true, true, true, true, true, true, true, true, true, false, false, false, false, false] rfl rfl (by kernel_rfl) (fun _ _ _ h => h) (Or.inl ⟨by rfl, ?_⟩) hHeld ?_ ?_
            rotate_left
            · rintro w' ⟨s0, s1, s2, s3, s4, s5⟩
              go_simp
              with_reducible rfl
            rotate_left
            · simp only [Act.put, zSa, zSb, zSc, i64_w, i32_w]
              rfl
            refine one_ (i := 11) (N := some 46) #[true, true, true, true, true, true, true, true, true, true, true, true, false, false, false, false] rfl rfl (by kernel_rfl) (by decide) (fun K hK => ?_)
            refine goesT_ Try.func34 (by kernel_rfl) rfl #[.agg #[.int .i64 x.f0, .int .i64 x.f1, .int .i64 x.f2], .agg #[.int .i64 a1_0, .int .i64 a1_1, .int .i64 a1_2]] (by rfl) rfl rfl (by rfl) (by (try simp only [zMa, zMc, zMn]); rfl) ?_
            refine (hc w1).mono ?_
            rintro e w' ⟨rfl, nq, osq, rfl⟩
            refine ⟨_, rfl, ?_⟩
            have HB2 := zMk (below_growN nq osq HB1.out HB1.out.size)
            have BK2 := zMk (blk_growN nq osq BK1.out)
            generalize Sort.grow (w1.drewN nq) osq = w2 at HB2 BK2 ⊢
            refine hK.out _ _ ⟨(zKc BK2.out 0).trans rfl, (zKc BK2.out 1).trans rfl, (zKc BK2.out 2).trans rfl, (HB2.out.cell (World.block_lt_of_cell? w _ e0)).trans e0, (HB2.out.cell (World.block_lt_of_cell? w _ e1)).trans e1, (HB2.out.cell (World.block_lt_of_cell? w _ e2)).trans e2⟩ (fun hHeld => ?_)
            clear hK K
            refine norm_ (a' := ?_) ?_ ?_
            rotate_left
            · show Act.put _ (some 46) _ = _
              simp only [Act.put, zSa, zSb, zSc, i64_w, i32_w]
              rfl
            refine pure_ (i := 12) (N := some 47) (v := ?_) (a' := ?_) #[true, true, true, true, true, true, true, true, true, true, true, true, true, false, false, false] rfl rfl (by kernel_rfl) (fun _ _ _ h => h) (Or.inl ⟨by rfl, ?_⟩) ?_ ?_
            rotate_left
            · intro w'
              go_simp
              with_reducible rfl
            rotate_left
            · simp only [Act.put, zSa, zSb, zSc, i64_w, i32_w]
              rfl
            refine pure_ (i := 13) (N := some 48) (v := ?_) (a' := ?_) #[true, true, true, true, true, true, true, true, true, true, true, true, true, true, false, false] rfl rfl (by kernel_rfl) (fun _ _ _ h => h) (Or.inl ⟨by rfl, ?_⟩) ?_ ?_
            rotate_left
            · intro w'
              go_simp
              with_reducible rfl
            rotate_left
            · simp only [Act.put, zSa, zSb, zSc, i64_w, i32_w]
              rfl
            refine pure_ (i := 14) (N := some 6) (v := ?_) (a' := ?_) #[true, true, true, true, true, true, true, true, true, true, true, true, true, true, true, false] rfl rfl (by kernel_rfl) (fun _ _ _ h => h) (Or.inl ⟨by rfl, ?_⟩) ?_ ?_
            rotate_left
            · intro w'
              go_simp
              with_reducible rfl
            rotate_left
            · simp only [Act.put, zSa, zSb, zSc, i64_w, i32_w]
              rfl
            refine pure_ (i := 15) (N := some 7) (v := ?_) (a' := ?_) #[true, true, true, true, true, true, true, true, true, true, true, true, true, true, true, true] rfl rfl (by kernel_rfl) (fun _ _ _ h => h) (Or.inl ⟨by rfl, ?_⟩) ?_ ?_
            rotate_left
            · intro w'
              go_simp
              with_reducible rfl
            rotate_left
            · simp only [Act.put, zSa, zSb, zSc, i64_w, i32_w]
              rfl
            refine done_ (by kernel_rfl) ?_
            try go_wp2
            go_ret2
            exact ⟨rfl, HB2.out⟩
        · rw [if_neg (by omega : ¬ ((hi : Int) < (l0.length : Int)))] at HN
          have p2 : ((hi : Int) < (l0.length : Int)) = False := eq_false (by omega)
          obtain ⟨rfl, rfl⟩ : (hi : Int) = r1 ∧ false = r2 := by simpa using HN
          clear HN
          go_wp2
          refine start_ (n := 16) (S := fun w' => True) (ds := []) #[false, false, false, false, false, false, false, false, false, false, false, false, false, false, false, false] (by kernel_rfl) rfl rfl (by exact trivial) (fun hHeld => ?_)
          have HB1 := zMk (zBd HB.out)
          have BK1 := zMk (zKd BK.out)
          generalize wr.drew = w1 at hHeld HB1 BK1 ⊢
          refine pure_ (i := 0) (N := some 35) (v := ?_) (a' := ?_) #[true, false, false, false, false, false, false, false, false, false, false, false, false, false, false, false] rfl rfl (by kernel_rfl) (fun _ _ _ h => h) (Or.inl ⟨by rfl, ?_⟩) ?_ ?_
          rotate_left
          · intro w'
            go_simp
            with_reducible rfl
          rotate_left
          · simp only [Act.put, zSa, zSb, zSc, i64_w, i32_w]
            rfl
          refine pure_ (i := 1) (N := some 36) (v := ?_) (a' := ?_) #[true, true, false, false, false, false, false, false, false, false, false, false, false, false, false, false] rfl rfl (by kernel_rfl) (fun _ _ _ h => h) (Or.inl ⟨by rfl, ?_⟩) ?_ ?_
          rotate_left
          · intro w'
            go_simp
            with_reducible rfl
          rotate_left
          · simp only [Act.put, zSa, zSb, zSc, i64_w, i32_w]
            rfl
          refine pure_ (i := 2) (N := some 37) (v := ?_) (a' := ?_) #[true, true, true, false, false, false, false, false, false, false, false, false, false, false, false, false] rfl rfl (by kernel_rfl) (fun _ _ _ h => h) (Or.inl ⟨by rfl, ?_⟩) ?_ ?_
          rotate_left
          · intro w'
            go_simp
            with_reducible rfl
          rotate_left
          · simp only [Act.put, zSa, zSb, zSc, i64_w, i32_w]
            rfl
          refine pure_ (i := 3) (N := some 38) (v := ?_) (a' := ?_) #[true, true, true, true, false, false, false, false, false, false, false, false, false, false, false, false] rfl rfl (by kernel_rfl) (fun _ _ _ h => h) (Or.inl ⟨by rfl, ?_⟩) ?_ ?_
          rotate_left
          · intro w'
            go_simp
            with_reducible rfl
          rotate_left
          · simp only [Act.put, zSa, zSb, zSc, i64_w, i32_w]
            rfl
          refine pure_ (i := 4) (N := some 39) (v := ?_) (a' := ?_) #[true, true, true, true, true, false, false, false, false, false, false, false, false, false, false, false] rfl rfl (by kernel_rfl) (fun _ _ _ h => h) (Or.inl ⟨by rfl, ?_⟩) ?_ ?_
          rotate_left
          · intro w'
            go_simp
            with_reducible rfl
          rotate_left
          · simp only [Act.put, zSa, zSb, zSc, i64_w, i32_w]
            rfl
          refine pure_ (i := 5) (N := some 40) (v := undef) (a' := ?_) #[true, true, true, true, true, true, false, false, false, false, false, false, false, false, false, false] rfl rfl (by kernel_rfl) (fun _ _ _ h => h) (Or.inr ⟨by rfl, rfl⟩) ?_ ?_
          rotate_left
          · simp only [Act.put, zSa, zSb, zSc, i64_w, i32_w]
            rfl
          refine pure_ (i := 6) (N := some 41) (v := undef) (a' := ?_) #[true, true, true, true, true, true, true, false, false, false, false, false, false, false, false, false] rfl rfl (by kernel_rfl) (fun _ _ _ h => h) (Or.inr ⟨by rfl, rfl⟩) ?_ ?_
          rotate_left
          · simp only [Act.put, zSa, zSb, zSc, i64_w, i32_w]
            rfl
          refine pure_ (i := 7) (N := some 42) (v := undef) (a' := ?_) #[true, true, true, true, true, true, true, true, false, false, false, false, false, false, false, false] rfl rfl (by kernel_rfl) (fun _ _ _ h => h) (Or.inr ⟨by rfl, rfl⟩) ?_ ?_
          rotate_left
          · simp only [Act.put, zSa, zSb, zSc, i64_w, i32_w]
            rfl
          refine pure_ (i := 8) (N := some 43) (v := undef) (a' := ?_) #[true, true, true, true, true, true, true, true, true, false, false, false, false, false, false, false] rfl rfl (by kernel_rfl) (fun _ _ _ h => h) (Or.inr ⟨by rfl, rfl⟩) ?_ ?_
          rotate_left
          · simp only [Act.put, zSa, zSb, zSc, i64_w, i32_w]
            rfl
          refine pure_ (i := 9) (N := some 44) (v := undef) (a' := ?_) #[true, true, true, true, true, true, true, true, true, true, false, false, false, false, false, false] rfl rfl (by kernel_rfl) (fun _ _ _ h => h) (Or.inr ⟨by rfl, rfl⟩) ?_ ?_
          rotate_left
          · simp only [Act.put, zSa, zSb, zSc, i64_w, i32_w]
            rfl
          refine pure_ (i := 10) (N := some 45) (v := undef) (a' := ?_) #[true, true, true, true, true, true, true, true, true, true, true, false, false, false, false, false] rfl rfl (by kernel_rfl) (fun _ _ _ h => h) (Or.inr ⟨by rfl, rfl⟩) ?_ ?_
          rotate_left
          · simp only [Act.put, zSa, zSb, zSc, i64_w, i32_w]
            rfl
          refine pure_ (i := 11) (N := some 46) (v := undef) (a' := ?_) #[true, true, true, true, true, true, true, true, true, true, true, true, false, false, false, false] rfl rfl (by kernel_rfl) (fun _ _ _ h => h) (Or.inr ⟨by rfl, rfl⟩) ?_ ?_
          rotate_left
          · simp only [Act.put, zSa, zSb, zSc, i64_w, i32_w]
            rfl
          refine pure_ (i := 12) (N := some 47) (v := undef) (a' := ?_) #[true, true, true, true, true, true, true, true, true, true, true, true, true, false, false, false] rfl rfl (by kernel_rfl) (fun _ _ _ h => h) (Or.inr ⟨by rfl, rfl⟩) ?_ ?_
          rotate_left
          · simp only [Act.put, zSa, zSb, zSc, i64_w, i32_w]
            rfl
          refine pure_ (i := 13) (N := some 48) (v := ?_) (a' := ?_) #[true, true, true, true, true, true, true, true, true, true, true, true, true, true, false, false] rfl rfl (by kernel_rfl) (fun _ _ _ h => h) (Or.inl ⟨by rfl, ?_⟩) ?_ ?_
          rotate_left
          · intro w'
            go_simp
            with_reducible rfl
          rotate_left
          · simp only [Act.put, zSa, zSb, zSc, i64_w, i32_w]
            rfl
          refine pure_ (i := 14) (N := some 6) (v := ?_) (a' := ?_) #[true, true, true, true, true, true, true, true, true, true, true, true, true, true, true, false] rfl rfl (by kernel_rfl) (fun _ _ _ h => h) (Or.inl ⟨by rfl, ?_⟩) ?_ ?_
          rotate_left
          · intro w'
            go_simp
            with_reducible rfl
          rotate_left
          · simp only [Act.put, zSa, zSb, zSc, i64_w, i32_w]
            rfl
          refine pure_ (i := 15) (N := some 7) (v := ?_) (a' := ?_) #[true, true, true, true, true, true, true, true, true, true, true, true, true, true, true, true] rfl rfl (by kernel_rfl) (fun _ _ _ h => h) (Or.inl ⟨by rfl, ?_⟩) ?_ ?_
          rotate_left
          · intro w'
            go_simp
            with_reducible rfl
          rotate_left
          · simp only [Act.put, zSa, zSb, zSc, i64_w, i32_w]
            rfl
          refine done_ (by kernel_rfl) ?_
          try go_wp2
          go_ret2
          exact ⟨rfl, HB1.out⟩
  · rw [if_neg hl] at h
    cases h


def graph_Find.f (k : Nat) (a0_0 : Int) (l0_1 : List (S36)) (a1 : Int) (a2 : Int) : Option (Int) := (graph_Right.f k a0_0 l0_1).bind fun t123 => (if t123 = 0 then ((api_Edge_45.f l0_1 (mn a1 a2) (mx a1 a2) 0).bind fun bt124 => (if bt124.2 = true then (some bt124.1) else (some (-1)))) else (some (-1)))
theorem graph_Find.calls (k : Nat) (a0_0 : Int) (A0_1 : Option Addr) (c0_1 : Nat) (l0_1 : List (S36)) (a1 : Int) (a2 : Int) (r : Int) (w : World) (hr0_1 : Kd.C k36 w A0_1 l0_1.length l0_1) (hc0_1 : l0_1.length ≤ c0_1) (h : graph_Find.f k a0_0 l0_1 a1 a2 = some r) :
    Calls Try.prog 25 #[.agg #[.int .i64 a0_0, .slice A0_1 l0_1.length c0_1], .int .i64 a1, .int .i64 a2] w fun e w' => e = .returned (.int .i64 r) ∧ Below w.heap.size w w' := by
  have hu24 := Try.underlying24
  have hu36 := Try.underlying36
  have HR0_1 := zMk hr0_1
  have HC0_1 := zMk hc0_1
  clear hr0_1 hc0_1
  have HB := zMk (Below.refl w.heap.size w)
  have H : ((graph_Right.f k a0_0 l0_1).bind fun t123 => (if t123 = 0 then ((api_Edge_45.f l0_1 (mn a1 a2) (mx a1 a2) 0).bind fun bt124 => (if bt124.2 = true then (some bt124.1) else (some (-1)))) else (some (-1)))) = some r := h
  clear h
  replace H := bnd H
  obtain ⟨t123, A40, H⟩ := H
  have A4 := zMk A40
  clear A40
  by_cases c5 : t123 = 0
  · rw [if_pos c5] at H
    have c5b0 : (t123 == 0) = true := beq_iff_eq.mpr c5
    have c5b1 : (t123 != 0) = false := bne_eq_false_iff_eq.mpr c5
    clear c5
    obtain ⟨ji6, hji6⟩ : ∃ j_ : Int, (mn a1 a2) = j_ := ⟨_, rfl⟩
    replace H : ((api_Edge_45.f l0_1 (ji6) (mx a1 a2) 0).bind fun bt124 => (if bt124.2 = true then (some bt124.1) else (some (-1)))) = some r := by first | (rw [hji6] at H; exact H) | (simp only [hji6] at H ⊢; exact H)
    (try rw [hji6] at A4)
    have hji6_ : (if a2 < a1 then a2 else a1) = ji6 := hji6
    obtain ⟨ji7, hji7⟩ : ∃ j_ : Int, (mx a1 a2) = j_ := ⟨_, rfl⟩
    replace H : ((api_Edge_45.f l0_1 (ji6) (ji7) 0).bind fun bt124 => (if bt124.2 = true then (some bt124.1) else (some (-1)))) = some r := by first | (rw [hji7] at H; exact H) | (simp only [hji7] at H ⊢; exact H)
    (try rw [hji7] at A4)
    have hji7_ : (if a1 < a2 then a2 else a1) = ji7 := hji7
    replace H := bnd H
    obtain ⟨⟨t124, t125⟩, A80, H⟩ := H
    replace H : (if t125 = true then (some t124) else (some (-1))) = some r := H
    have A8 := zMk A80
    clear A80
    by_cases c9 : t125 = true
    · subst c9
      replace H : (some t124) = some r := by rw [if_pos rfl] at H; exact H
      obtain rfl := zOi H
      go_enter Try.func25, Try.ntmps25
      go_wp2_with (first | ((with_reducible refine gate_dst (N := 3) rfl ?_); refine box_event ?hg (N := 3) ?hd (cs := #[.int .i64 a0_0, .slice A0_1 l0_1.length c0_1]) (t := 24) ?hr ?_; (case hd => rfl); (case hg => rfl); (case hr => first | (go_simp; done)|(go_simp; rfl)|(go_simp; rw [show ∀ x : Int, IntKind.u32.wrap (IntKind.u8.wrap x) = x % 256 from fun x => (by show (x % 256) % 4294967296 = x % 256; omega)])); intro gb122 hg w10 hbox hb; have BK122 := zMk (hbox); have GW122 := zMk ((by rw [hg]; exact (zBs (by exact uT HB.out)) : w.heap.size ≤ gb122)); have GE122 := zMk ((by rw [hg]; exact (zBs (by exact uT HB.out)) : w.heap.size ≤ gb122)); have IGE122 := ownGe GE122.out; replace HB := zMk (zBt (by exact uT HB.out) hb); clear hb hbox hg; have hcz11_0 : w10.cell? ⟨gb122, 0, none⟩ = some (.int .i64 a0_0) := (zKc BK122.out 0).trans rfl; have hcz11_1 : w10.cell? ⟨gb122, 1, none⟩ = some (.slice A0_1 l0_1.length c0_1) := (zKc BK122.out 1).trans rfl; have hfz11_0 := zKf BK122.out 0; have hfz11_1 := zKf BK122.out 1)|((with_reducible refine gate_callee (f := 11) rfl ?_); refine goesL_ (some 10) rfl rfl Try.func11 (by kernel_rfl) rfl #[.agg #[.int .i64 a0_0, .slice A0_1 l0_1.length c0_1]] rfl (by (try simp only [zMa, zMc, zMn]); first |  done|  rfl|  (simp only [zLd, zLt]; rfl)) ?_; (with_reducible refine (graph_Right.calls k a0_0 _ _ l0_1 t123 _ ?side1 ?side2 A4.out).mono ?_); (case side1 => repeat (first |  exact (Kd.C_below HR0_1.out HB.out)|(with_reducible refine zCa ?_ _)|(with_reducible refine zCn ?_ _)|(with_reducible refine zCd ?_))); (case side2 => exact HC0_1.out); rintro e w12 ⟨rfl, hb⟩; refine ⟨_, rfl, ?_⟩; replace BK122 := zMk (zKb (g := gb122) (o := .cells #[.int .i64 a0_0, .slice A0_1 l0_1.length c0_1] 24 (0, 0)) (by (with_reducible repeat (first |  refine zKn ?_ _|  refine zKd ?_|  refine zKa ?_ _)); exact BK122.out) hb); replace HB := zMk (zBt (by exact uT HB.out) hb); have hcz13_0 : w12.cell? ⟨gb122, 0, none⟩ = some (.int .i64 a0_0) := (zKc BK122.out 0).trans rfl; have hcz13_1 : w12.cell? ⟨gb122, 1, none⟩ = some (.slice A0_1 l0_1.length c0_1) := (zKc BK122.out 1).trans rfl; have hfz13_0 := zKf BK122.out 0; have hfz13_1 := zKf BK122.out 1)|((with_reducible refine gate_callee (f := 45) rfl ?_); refine goesL_ (some 22) rfl rfl Try.func45 (by kernel_rfl) rfl #[.slice A0_1 l0_1.length c0_1, .agg #[.int .i64 ji6, .int .i64 ji7, .int .i64 0], .func (.func 34) #[] #[]] rfl (by (try simp only [zMa, zMc, zMn]); first |  done|  (simp only [hji6, hji7]; rfl)|  rfl|  (simp only [zLd, zLt]; rfl)) ?_; (with_reducible refine (api_Edge_45.calls _ _ l0_1 ji6 ji7 0 t124 true _ ?side1 ?side2 A8.out).mono ?_); (case side1 => repeat (first |  exact (Kd.C_below HR0_1.out HB.out)|(with_reducible refine zCa ?_ _)|(with_reducible refine zCn ?_ _)|(with_reducible refine zCd ?_))); (case side2 => exact HC0_1.out); rintro e w14 ⟨rfl, hb⟩; refine ⟨_, rfl, ?_⟩; replace BK122 := zMk (zKb (g := gb122) (o := .cells #[.int .i64 a0_0, .slice A0_1 l0_1.length c0_1] 24 (0, 0)) (by (with_reducible repeat (first |  refine zKn ?_ _|  refine zKd ?_|  refine zKa ?_ _)); exact BK122.out) hb); replace HB := zMk (zBt (by exact uT HB.out) hb)))
      go_ret
      exact ⟨by first | rfl | (simp [errW_none, errW_some] <;> rfl) | (simp only [← hji6, ← hji7]; first | rfl | (simp [errW_none, errW_some] <;> rfl)) | (simp [*, errW_none, errW_some] <;> rfl), by exact uT HB.out⟩
    · replace c9 := Bool.eq_false_iff.mpr c9
      subst c9
      replace H : (some (-1)) = some r := by rw [if_neg (show ¬ (false = true) by decide)] at H; exact H
      obtain rfl := zOi H
      go_enter Try.func25, Try.ntmps25
      go_wp2_with (first | ((with_reducible refine gate_dst (N := 3) rfl ?_); refine box_event ?hg (N := 3) ?hd (cs := #[.int .i64 a0_0, .slice A0_1 l0_1.length c0_1]) (t := 24) ?hr ?_; (case hd => rfl); (case hg => rfl); (case hr => first | (go_simp; done)|(go_simp; rfl)|(go_simp; rw [show ∀ x : Int, IntKind.u32.wrap (IntKind.u8.wrap x) = x % 256 from fun x => (by show (x % 256) % 4294967296 = x % 256; omega)])); intro gb122 hg w15 hbox hb; have BK122 := zMk (hbox); have GW122 := zMk ((by rw [hg]; exact (zBs (by exact uT HB.out)) : w.heap.size ≤ gb122)); have GE122 := zMk ((by rw [hg]; exact (zBs (by exact uT HB.out)) : w.heap.size ≤ gb122)); have IGE122 := ownGe GE122.out; replace HB := zMk (zBt (by exact uT HB.out) hb); clear hb hbox hg; have hcz16_0 : w15.cell? ⟨gb122, 0, none⟩ = some (.int .i64 a0_0) := (zKc BK122.out 0).trans rfl; have hcz16_1 : w15.cell? ⟨gb122, 1, none⟩ = some (.slice A0_1 l0_1.length c0_1) := (zKc BK122.out 1).trans rfl; have hfz16_0 := zKf BK122.out 0; have hfz16_1 := zKf BK122.out 1)|((with_reducible refine gate_callee (f := 11) rfl ?_); refine goesL_ (some 10) rfl rfl Try.func11 (by kernel_rfl) rfl #[.agg #[.int .i64 a0_0, .slice A0_1 l0_1.length c0_1]] rfl (by (try simp only [zMa, zMc, zMn]); first |  done|  rfl|  (simp only [zLd, zLt]; rfl)) ?_; (with_reducible refine (graph_Right.calls k a0_0 _ _ l0_1 t123 _ ?side1 ?side2 A4.out).mono ?_); (case side1 => repeat (first |  exact (Kd.C_below HR0_1.out HB.out)|(with_reducible refine zCa ?_ _)|(with_reducible refine zCn ?_ _)|(with_reducible refine zCd ?_))); (case side2 => exact HC0_1.out); rintro e w17 ⟨rfl, hb⟩; refine ⟨_, rfl, ?_⟩; replace BK122 := zMk (zKb (g := gb122) (o := .cells #[.int .i64 a0_0, .slice A0_1 l0_1.length c0_1] 24 (0, 0)) (by (with_reducible repeat (first |  refine zKn ?_ _|  refine zKd ?_|  refine zKa ?_ _)); exact BK122.out) hb); replace HB := zMk (zBt (by exact uT HB.out) hb); have hcz18_0 : w17.cell? ⟨gb122, 0, none⟩ = some (.int .i64 a0_0) := (zKc BK122.out 0).trans rfl; have hcz18_1 : w17.cell? ⟨gb122, 1, none⟩ = some (.slice A0_1 l0_1.length c0_1) := (zKc BK122.out 1).trans rfl; have hfz18_0 := zKf BK122.out 0; have hfz18_1 := zKf BK122.out 1)|((with_reducible refine gate_callee (f := 45) rfl ?_); refine goesL_ (some 22) rfl rfl Try.func45 (by kernel_rfl) rfl #[.slice A0_1 l0_1.length c0_1, .agg #[.int .i64 ji6, .int .i64 ji7, .int .i64 0], .func (.func 34) #[] #[]] rfl (by (try simp only [zMa, zMc, zMn]); first |  done|  (simp only [hji6, hji7]; rfl)|  rfl|  (simp only [zLd, zLt]; rfl)) ?_; (with_reducible refine (api_Edge_45.calls _ _ l0_1 ji6 ji7 0 t124 false _ ?side1 ?side2 A8.out).mono ?_); (case side1 => repeat (first |  exact (Kd.C_below HR0_1.out HB.out)|(with_reducible refine zCa ?_ _)|(with_reducible refine zCn ?_ _)|(with_reducible refine zCd ?_))); (case side2 => exact HC0_1.out); rintro e w19 ⟨rfl, hb⟩; refine ⟨_, rfl, ?_⟩; replace BK122 := zMk (zKb (g := gb122) (o := .cells #[.int .i64 a0_0, .slice A0_1 l0_1.length c0_1] 24 (0, 0)) (by (with_reducible repeat (first |  refine zKn ?_ _|  refine zKd ?_|  refine zKa ?_ _)); exact BK122.out) hb); replace HB := zMk (zBt (by exact uT HB.out) hb)))
      go_ret
      exact ⟨by first | rfl | (simp [errW_none, errW_some] <;> rfl) | (simp only [← hji6, ← hji7]; first | rfl | (simp [errW_none, errW_some] <;> rfl)) | (simp [*, errW_none, errW_some] <;> rfl), by exact uT HB.out⟩
  · rw [if_neg c5] at H
    have c5b0 : (t123 == 0) = false := beq_eq_false_iff_ne.mpr c5
    have c5b1 : (t123 != 0) = true := bne_iff_ne.mpr c5
    obtain rfl := zOi H
    go_enter Try.func25, Try.ntmps25
    go_wp2_with (first | ((with_reducible refine gate_dst (N := 3) rfl ?_); refine box_event ?hg (N := 3) ?hd (cs := #[.int .i64 a0_0, .slice A0_1 l0_1.length c0_1]) (t := 24) ?hr ?_; (case hd => rfl); (case hg => rfl); (case hr => first | (go_simp; done)|(go_simp; rfl)|(go_simp; rw [show ∀ x : Int, IntKind.u32.wrap (IntKind.u8.wrap x) = x % 256 from fun x => (by show (x % 256) % 4294967296 = x % 256; omega)])); intro gb122 hg w20 hbox hb; have BK122 := zMk (hbox); have GW122 := zMk ((by rw [hg]; exact (zBs (by exact uT HB.out)) : w.heap.size ≤ gb122)); have GE122 := zMk ((by rw [hg]; exact (zBs (by exact uT HB.out)) : w.heap.size ≤ gb122)); have IGE122 := ownGe GE122.out; replace HB := zMk (zBt (by exact uT HB.out) hb); clear hb hbox hg; have hcz21_0 : w20.cell? ⟨gb122, 0, none⟩ = some (.int .i64 a0_0) := (zKc BK122.out 0).trans rfl; have hcz21_1 : w20.cell? ⟨gb122, 1, none⟩ = some (.slice A0_1 l0_1.length c0_1) := (zKc BK122.out 1).trans rfl; have hfz21_0 := zKf BK122.out 0; have hfz21_1 := zKf BK122.out 1)|((with_reducible refine gate_callee (f := 11) rfl ?_); refine goesL_ (some 10) rfl rfl Try.func11 (by kernel_rfl) rfl #[.agg #[.int .i64 a0_0, .slice A0_1 l0_1.length c0_1]] rfl (by (try simp only [zMa, zMc, zMn]); first |  done|  rfl|  (simp only [zLd, zLt]; rfl)) ?_; (with_reducible refine (graph_Right.calls k a0_0 _ _ l0_1 t123 _ ?side1 ?side2 A4.out).mono ?_); (case side1 => repeat (first |  exact (Kd.C_below HR0_1.out HB.out)|(with_reducible refine zCa ?_ _)|(with_reducible refine zCn ?_ _)|(with_reducible refine zCd ?_))); (case side2 => exact HC0_1.out); rintro e w22 ⟨rfl, hb⟩; refine ⟨_, rfl, ?_⟩; replace BK122 := zMk (zKb (g := gb122) (o := .cells #[.int .i64 a0_0, .slice A0_1 l0_1.length c0_1] 24 (0, 0)) (by (with_reducible repeat (first |  refine zKn ?_ _|  refine zKd ?_|  refine zKa ?_ _)); exact BK122.out) hb); replace HB := zMk (zBt (by exact uT HB.out) hb)))
    go_ret
    exact ⟨by first | rfl | (simp [errW_none, errW_some] <;> rfl) | (simp [*, errW_none, errW_some] <;> rfl), by exact uT HB.out⟩


attribute [local go_sem high] eqA36
def filigreelaw04_alive.f (k : Nat)  : Option (Bool) := (graph_Make.f k 3 (([(⟨2, 0, 0⟩ : S36), (⟨0, 1, 0⟩ : S36)] : List (S36)))).bind fun bt129 => (if bt129.2.2 = 0 then (if (bt129.2.1.length : Int) = 2 then (if 1 < (bt129.2.1.length : Int) then (if (((rd_T36 bt129.2.1 1).f0) == 0 && (((rd_T36 bt129.2.1 1).f1) == 2 && (((rd_T36 bt129.2.1 1).f2) == 0))) = true then ((graph_Right.f k bt129.1 bt129.2.1).bind fun t136 => (if t136 = 0 then ((graph_Find.f k bt129.1 bt129.2.1 2 0).bind fun t137 => (if t137 = 1 then ((graph_Find.f k bt129.1 bt129.2.1 1 2).bind fun t138 => (some (t138 == (-1)))) else (some false))) else (some false))) else (some false)) else (none)) else (some false)) else (some false))
theorem filigreelaw04_alive.calls (k : Nat)  (r : Bool) (w : World) (h : filigreelaw04_alive.f k  = some r) :
    Calls Try.prog 13 #[] w fun e w' => e = .returned (.bool r) ∧ Below w.heap.size w w' := by
  have hu36 := Try.underlying36
  have hu24 := Try.underlying24
  have HB := zMk (Below.refl w.heap.size w)
  have H : ((graph_Make.f k 3 (([(⟨2, 0, 0⟩ : S36), (⟨0, 1, 0⟩ : S36)] : List (S36)))).bind fun bt129 => (if bt129.2.2 = 0 then (if (bt129.2.1.length : Int) = 2 then (if 1 < (bt129.2.1.length : Int) then (if (((rd_T36 bt129.2.1 1).f0) == 0 && (((rd_T36 bt129.2.1 1).f1) == 2 && (((rd_T36 bt129.2.1 1).f2) == 0))) = true then ((graph_Right.f k bt129.1 bt129.2.1).bind fun t136 => (if t136 = 0 then ((graph_Find.f k bt129.1 bt129.2.1 2 0).bind fun t137 => (if t137 = 1 then ((graph_Find.f k bt129.1 bt129.2.1 1 2).bind fun t138 => (some (t138 == (-1)))) else (some false))) else (some false))) else (some false)) else (none)) else (some false)) else (some false))) = some r := h
  clear h
  obtain ⟨y126, hy126⟩ : ∃ y_ : List (S36), y_ = (([(⟨2, 0, 0⟩ : S36), (⟨0, 1, 0⟩ : S36)] : List (S36))) := ⟨_, rfl⟩
  replace H : ((graph_Make.f k 3 y126).bind fun bt129 => (if bt129.2.2 = 0 then (if (bt129.2.1.length : Int) = 2 then (if 1 < (bt129.2.1.length : Int) then (if (((rd_T36 bt129.2.1 1).f0) == 0 && (((rd_T36 bt129.2.1 1).f1) == 2 && (((rd_T36 bt129.2.1 1).f2) == 0))) = true then ((graph_Right.f k bt129.1 bt129.2.1).bind fun t136 => (if t136 = 0 then ((graph_Find.f k bt129.1 bt129.2.1 2 0).bind fun t137 => (if t137 = 1 then ((graph_Find.f k bt129.1 bt129.2.1 1 2).bind fun t138 => (some (t138 == (-1)))) else (some false))) else (some false))) else (some false)) else (none)) else (some false)) else (some false))) = some r := by first | (rw [hy126]; with_reducible exact H) | (have H2_ := bsm H; first | (rw [hy126]; with_reducible exact H2_) | with_reducible exact H2_) | with_reducible exact H | (rw [hy126]; exact H) | exact H
  have Ny126 := zMk hy126
  clear hy126
  replace H := bnd H
  obtain ⟨⟨t129, t130, t133⟩, A10, H⟩ := H
  replace H : (if t133 = 0 then (if (t130.length : Int) = 2 then (if 1 < (t130.length : Int) then (if (((rd_T36 t130 1).f0) == 0 && (((rd_T36 t130 1).f1) == 2 && (((rd_T36 t130 1).f2) == 0))) = true then ((graph_Right.f k t129 t130).bind fun t136 => (if t136 = 0 then ((graph_Find.f k t129 t130 2 0).bind fun t137 => (if t137 = 1 then ((graph_Find.f k t129 t130 1 2).bind fun t138 => (some (t138 == (-1)))) else (some false))) else (some false))) else (some false)) else (none)) else (some false)) else (some false)) = some r := H
  have A1 := zMk A10
  clear A10
  by_cases c2 : t133 = 0
  · rw [if_pos c2] at H
    have c2b0 : (t133 == 0) = true := beq_iff_eq.mpr c2
    have c2b1 : (t133 != 0) = false := bne_eq_false_iff_eq.mpr c2
    clear c2
    by_cases c3 : (t130.length : Int) = 2
    · rw [if_pos c3] at H
      have c3b0 : ((t130.length : Int) == 2) = true := beq_iff_eq.mpr c3
      have c3b1 : ((t130.length : Int) != 2) = false := bne_eq_false_iff_eq.mpr c3
      clear c3
      by_cases c4 : 1 < (t130.length : Int)
      rotate_left
      · rw [if_neg c4] at H; exact absurd H (by simp)
      rw [if_pos c4] at H
      have c4b0 : decide (1 < (t130.length : Int)) = true := decide_eq_true c4
      have c4b1 : decide (1 < t130.length) = true := decide_eq_true (by omega)
      clear c4
      by_cases c5 : (((rd_T36 t130 1).f0) == 0 && (((rd_T36 t130 1).f1) == 2 && (((rd_T36 t130 1).f2) == 0))) = true
      · rw [if_pos c5] at H
        have c5b0 : (((rd_T36 t130 1).f0) == 0 && (((rd_T36 t130 1).f1) == 2 && (((rd_T36 t130 1).f2) == 0))) = true := c5
        (try (have c5b1 : decide (((rd_T36 t130 1).f0) = 0 && (((rd_T36 t130 1).f1) == 2 && (((rd_T36 t130 1).f2) == 0))) = true := by simpa using c5))
        (try (have c5b2 : (((rd_T36 t130 1).f0) == 0 && (((rd_T36 t130 1).f1) == 2 && (((rd_T36 t130 1).f2) == 0))) = true := by simpa using c5))
        clear c5
        replace H := bnd H
        obtain ⟨t136, A60, H⟩ := H
        have A6 := zMk A60
        clear A60
        by_cases c7 : t136 = 0
        · rw [if_pos c7] at H
          have c7b0 : (t136 == 0) = true := beq_iff_eq.mpr c7
          have c7b1 : (t136 != 0) = false := bne_eq_false_iff_eq.mpr c7
          clear c7
          replace H := bnd H
          obtain ⟨t137, A80, H⟩ := H
          have A8 := zMk A80
          clear A80
          by_cases c9 : t137 = 1
          · rw [if_pos c9] at H
            have c9b0 : (t137 == 1) = true := beq_iff_eq.mpr c9
            have c9b1 : (t137 != 1) = false := bne_eq_false_iff_eq.mpr c9
            clear c9
            replace H := bnd H
            obtain ⟨t138, A100, H⟩ := H
            have A10 := zMk A100
            clear A100
            obtain rfl := zOi H
            go_enter Try.func13, Try.ntmps13
            go_wp2_with (first | ((with_reducible refine gate_dst (N := 6) rfl ?_); (try (refine gate_guard (by rfl) ?_; dsimp only)); refine Kd.R_lit k36 _ 36 ?hg (N := 6) ?hd (xs := ([(⟨2, 0, 0⟩ : S36), (⟨0, 1, 0⟩ : S36)] : List (S36))) (inner := [.int .i64 2, .int .i64 0, .int .i64 0, .int .i64 0, .int .i64 1, .int .i64 0]) (ok := fun _ => True) (okp := fun _ => True) ?hr ?hp (fun _ hk => hk) trivial (Below.refl _ _) (Nat.le_refl _) (by simp) ?_; (case hd => rfl); (case hg => rfl); (case hr => first | (go_simp; done)|(go_simp; rfl)|(go_simp; rw [show ∀ x : Int, IntKind.u32.wrap (IntKind.u8.wrap x) = x % 256 from fun x => (by show (x % 256) % 4294967296 = x % 256; omega)])); (case hp => exact (Reps.c3 (show Kd.M k36 _ _ _ (⟨2, 0, 0⟩ : S36) [.int .i64 2, .int .i64 0, .int .i64 0] from (k36_mkM _ _ _ (⟨2, 0, 0⟩ : S36) )) (Reps.c3 (show Kd.M k36 _ _ _ (⟨0, 1, 0⟩ : S36) [.int .i64 0, .int .i64 1, .int .i64 0] from (k36_mkM _ _ _ (⟨0, 1, 0⟩ : S36) )) (Reps.none _ _)))); intro v127 w11 ho12 hb hg_ hnew_; clear hg_ hnew_; (first |  rw [← Ny126.out] at ho12|  (simp only [Int.reduceToNat] at ho12; rw [← Ny126.out] at ho12)); have HO128 := zMk (zRl ho12 (zBs (by exact uT HB.out))); replace HB := zMk (zBt (by exact uT HB.out) hb); clear hb ho12; obtain ⟨Ao13, co13, eo13⟩ := zRs HO128.out; subst eo13)|((with_reducible refine gate_callee (f := 14) rfl ?_); refine goesL_ (some 7) rfl rfl Try.func14 (by kernel_rfl) rfl #[.int .i64 3, .slice Ao13 y126.length co13] rfl (by (try simp only [zMa, zMc, zMn]); first |  done|  rfl|  (simp only [zLd, zLt]; rfl)) ?_; (with_reducible refine (graph_Make.calls k 3 _ _ y126 t129 t130 t133 _ ?side1 ?side2 A1.out).mono ?_); (case side1 => exact uC (zRr HO128.out).2.2); (case side2 => exact (zRr HO128.out).2.1); rintro e w14 ⟨v131, rfl, ho0, hb⟩; refine ⟨_, rfl, ?_⟩; have HO132 := zMk (zRl (zRw ho0 (zRt (by exact uR HO128.out))) (zBs (by exact uT HB.out))); replace HO128 := zMk (zRe (by exact uR HO128.out) (zRz ho0) hb); replace HB := zMk (zBt (by exact uT HB.out) hb))|((with_reducible refine gate_dst (N := 1) rfl ?_); (try (refine gate_guard (by rfl) ?_; dsimp only)); refine box_event ?hg (N := 1) ?hd (cs := #[.int .i64 0, .slice none 0 0]) (t := 24) ?hr ?_; (case hd => rfl); (case hg => rfl); (case hr => first | (go_simp; done)|(go_simp; rfl)|(go_simp; rw [show ∀ x : Int, IntKind.u32.wrap (IntKind.u8.wrap x) = x % 256 from fun x => (by show (x % 256) % 4294967296 = x % 256; omega)])); intro gb134 hg w15 hbox hb; replace HO128 := zMk (zRb (by exact uR HO128.out) hb); replace HO132 := zMk (zRb (by exact uR HO132.out) hb); have BK134 := zMk (hbox); have GW134 := zMk ((by rw [hg]; exact (zBs (by exact uT HB.out)) : w.heap.size ≤ gb134)); have GE134 := zMk ((by rw [hg]; exact (zBs (by exact uT HB.out)) : w.heap.size ≤ gb134)); have IGE134 := ownGe GE134.out; replace HB := zMk (zBt (by exact uT HB.out) hb); clear hb hbox hg; have hcz16_0 : w15.cell? ⟨gb134, 0, none⟩ = some (.int .i64 0) := (zKc BK134.out 0).trans rfl; have hcz16_1 : w15.cell? ⟨gb134, 1, none⟩ = some (.slice none 0 0) := (zKc BK134.out 1).trans rfl; have hfz16_0 := zKf BK134.out 0; have hfz16_1 := zKf BK134.out 1; obtain ⟨Ao17, co17, eo17⟩ := zRs HO132.out; subst eo17; have p135 : 0 ≤ (1 : Int) := (by omega); have q135 : 1 < (t130.length : Int) := of_decide_eq_true (by first | (with_reducible assumption)|  assumption); obtain ⟨ad135, e135, hx135_0, hx135_1, hx135_2⟩ := at_T36 (zRr HO132.out).2.2 1 p135 q135; cases e135; (try simp only [show (1 : Int).toNat = 1 from rfl, Nat.reduceMul, Nat.reduceEqDiff, Go.Addr.add, ↓reduceIte] at hx135_0); (try simp only [show (1 : Int).toNat = 1 from rfl, Nat.reduceMul, Nat.reduceEqDiff, Go.Addr.add, ↓reduceIte] at hx135_1); (try simp only [show (1 : Int).toNat = 1 from rfl, Nat.reduceMul, Nat.reduceEqDiff, Go.Addr.add, ↓reduceIte] at hx135_2); have qi135 : (1 < t130.length) = True := eq_true (by omega); (try rw [show ((1 : Int)).toNat = 1 from rfl] at hx135_0); (try rw [show 1 * 3 = 3 from rfl] at hx135_0); (try rw [show ((1 : Int)).toNat = 1 from rfl] at hx135_1); (try rw [show 1 * 3 = 3 from rfl] at hx135_1); (try rw [show ((1 : Int)).toNat = 1 from rfl] at hx135_2); (try rw [show 1 * 3 = 3 from rfl] at hx135_2); have hn135_0 : ad135.block ≠ gb134 := Kd.own_blk (Kd.R_ne HO132.out BK134.out (by decide)); have hn135_1 : ad135.block ≠ gb134 := Kd.own_blk (Kd.R_ne HO132.out BK134.out (by decide)); replace hx135_0 := (cell_far (p := ⟨gb134, 0, none⟩) (by first | (rw [add_block]; exact hn135_0)|(show (Addr.add _ _).block ≠ _; rw [add_block]; exact hn135_0)|  exact hn135_0) (.int .i64 t129)).trans hx135_0; replace hx135_1 := (cell_far (p := ⟨gb134, 0, none⟩) (by first | (rw [add_block]; exact hn135_0)|(show (Addr.add _ _).block ≠ _; rw [add_block]; exact hn135_0)|  exact hn135_0) (.int .i64 t129)).trans hx135_1; replace hx135_2 := (cell_far (p := ⟨gb134, 0, none⟩) (by first | (rw [add_block]; exact hn135_0)|(show (Addr.add _ _).block ≠ _; rw [add_block]; exact hn135_0)|  exact hn135_0) (.int .i64 t129)).trans hx135_2; replace hx135_0 := (cell_far (p := ⟨gb134, 1, none⟩) (by first | (rw [add_block]; exact hn135_1)|(show (Addr.add _ _).block ≠ _; rw [add_block]; exact hn135_1)|  exact hn135_1) (.slice (some ad135) t130.length co17)).trans hx135_0; replace hx135_1 := (cell_far (p := ⟨gb134, 1, none⟩) (by first | (rw [add_block]; exact hn135_1)|(show (Addr.add _ _).block ≠ _; rw [add_block]; exact hn135_1)|  exact hn135_1) (.slice (some ad135) t130.length co17)).trans hx135_1; replace hx135_2 := (cell_far (p := ⟨gb134, 1, none⟩) (by first | (rw [add_block]; exact hn135_1)|(show (Addr.add _ _).block ≠ _; rw [add_block]; exact hn135_1)|  exact hn135_1) (.slice (some ad135) t130.length co17)).trans hx135_2; clear hn135_0 hn135_1; replace p135 := eq_true p135; replace q135 := eq_true q135)|(go_at_call 11; (with_reducible refine (graph_Right.calls k t129 _ _ t130 t136 _ ?side1 ?side2 A6.out).mono ?_); (case side1 => refine (zRr (e := 36) (base := w.heap.size) (ok := fun k_ => (True ∧ some k_ ≠ (.slice Ao13 y126.length co13 : Value).ownBlock)) (n := t130.length) (c := co17) ?_).2.2; exact (by (with_reducible repeat (first |  apply zRa|  apply zRn|  apply zRd)); exact (zRm (Kd.R_far (p := ⟨gb134, 1, none⟩) (Kd.R_far (p := ⟨gb134, 0, none⟩) (Kd.R_types HO132.out BK134.out (by decide)) (fun _ hk => hk.2) (.int .i64 t129)) (fun _ hk => hk.2) (.slice (some ad135) t130.length co17)) (fun _ h_ => h_.1)))); (case side2 => exact (zRr HO132.out).2.1); rintro e w18 ⟨rfl, hb⟩; replace HO128 := zMk (zRb (by (with_reducible repeat (first |  apply zRa|  apply zRn|  apply zRd)); exact (zRm (Kd.R_far (p := ⟨gb134, 1, none⟩) (Kd.R_far (p := ⟨gb134, 0, none⟩) (Kd.R_types HO128.out BK134.out (by decide)) (fun _ hk => hk.2) (.int .i64 t129)) (fun _ hk => hk.2) (.slice (some ad135) t130.length co17)) (fun _ h_ => h_.1))) hb); replace HO132 := zMk (zRb (by (with_reducible repeat (first |  apply zRa|  apply zRn|  apply zRd)); exact (zRm (Kd.R_far (p := ⟨gb134, 1, none⟩) (Kd.R_far (p := ⟨gb134, 0, none⟩) (Kd.R_types HO132.out BK134.out (by decide)) (fun _ hk => hk.2) (.int .i64 t129)) (fun _ hk => hk.2) (.slice (some ad135) t130.length co17)) (fun _ h_ => h_.1))) hb); replace BK134 := zMk (zKb (g := gb134) (o := .cells #[.int .i64 t129, .slice (some ad135) t130.length co17] 24 (0, 0)) (by (with_reducible repeat (first |  refine zKn ?_ _|  refine zKd ?_|  refine zKa ?_ _)); refine blk_put (cs := #[.int .i64 t129, .slice none 0 0]) ?_ 1 _ rfl; (with_reducible repeat (first |  refine zKn ?_ _|  refine zKd ?_|  refine zKa ?_ _)); refine blk_put (cs := #[.int .i64 0, .slice none 0 0]) ?_ 0 _ rfl; (with_reducible repeat (first |  refine zKn ?_ _|  refine zKd ?_|  refine zKa ?_ _)); exact BK134.out) hb); replace HB := zMk (zBt (by exact uT HB.out) hb); have hcz19_0 : w18.cell? ⟨gb134, 0, none⟩ = some (.int .i64 t129) := (zKc BK134.out 0).trans rfl; have hcz19_1 : w18.cell? ⟨gb134, 1, none⟩ = some (.slice (some ad135) t130.length co17) := (zKc BK134.out 1).trans rfl; have hfz19_0 := zKf BK134.out 0; have hfz19_1 := zKf BK134.out 1)|(go_at_call 25; (with_reducible refine (graph_Find.calls k t129 _ _ t130 2 0 t137 _ ?side1 ?side2 A8.out).mono ?_); (case side1 => exact uC (zRr HO132.out).2.2); (case side2 => exact (zRr HO132.out).2.1); rintro e w20 ⟨rfl, hb⟩; replace HO128 := zMk (zRb (by exact uR HO128.out) hb); replace HO132 := zMk (zRb (by exact uR HO132.out) hb); replace BK134 := zMk (zKb (g := gb134) (o := .cells #[.int .i64 t129, .slice (some ad135) t130.length co17] 24 (0, 0)) (by (with_reducible repeat (first |  refine zKn ?_ _|  refine zKd ?_|  refine zKa ?_ _)); exact BK134.out) hb); replace HB := zMk (zBt (by exact uT HB.out) hb); have hcz21_0 : w20.cell? ⟨gb134, 0, none⟩ = some (.int .i64 t129) := (zKc BK134.out 0).trans rfl; have hcz21_1 : w20.cell? ⟨gb134, 1, none⟩ = some (.slice (some ad135) t130.length co17) := (zKc BK134.out 1).trans rfl; have hfz21_0 := zKf BK134.out 0; have hfz21_1 := zKf BK134.out 1)|(go_at_call 25; (with_reducible refine (graph_Find.calls k t129 _ _ t130 1 2 t138 _ ?side1 ?side2 A10.out).mono ?_); (case side1 => exact uC (zRr HO132.out).2.2); (case side2 => exact (zRr HO132.out).2.1); rintro e w22 ⟨rfl, hb⟩; replace HO128 := zMk (zRb (by exact uR HO128.out) hb); replace HO132 := zMk (zRb (by exact uR HO132.out) hb); replace BK134 := zMk (zKb (g := gb134) (o := .cells #[.int .i64 t129, .slice (some ad135) t130.length co17] 24 (0, 0)) (by (with_reducible repeat (first |  refine zKn ?_ _|  refine zKd ?_|  refine zKa ?_ _)); exact BK134.out) hb); replace HB := zMk (zBt (by exact uT HB.out) hb)))
            go_ret
            exact ⟨by first | rfl | (simp [errW_none, errW_some] <;> rfl) | (simp [*, errW_none, errW_some] <;> rfl), by exact uT HB.out⟩
          · rw [if_neg c9] at H
            have c9b0 : (t137 == 1) = false := beq_eq_false_iff_ne.mpr c9
            have c9b1 : (t137 != 1) = true := bne_iff_ne.mpr c9
            obtain rfl := zOi H
            go_enter Try.func13, Try.ntmps13
            go_wp2_with (first | ((with_reducible refine gate_dst (N := 6) rfl ?_); (try (refine gate_guard (by rfl) ?_; dsimp only)); refine Kd.R_lit k36 _ 36 ?hg (N := 6) ?hd (xs := ([(⟨2, 0, 0⟩ : S36), (⟨0, 1, 0⟩ : S36)] : List (S36))) (inner := [.int .i64 2, .int .i64 0, .int .i64 0, .int .i64 0, .int .i64 1, .int .i64 0]) (ok := fun _ => True) (okp := fun _ => True) ?hr ?hp (fun _ hk => hk) trivial (Below.refl _ _) (Nat.le_refl _) (by simp) ?_; (case hd => rfl); (case hg => rfl); (case hr => first | (go_simp; done)|(go_simp; rfl)|(go_simp; rw [show ∀ x : Int, IntKind.u32.wrap (IntKind.u8.wrap x) = x % 256 from fun x => (by show (x % 256) % 4294967296 = x % 256; omega)])); (case hp => exact (Reps.c3 (show Kd.M k36 _ _ _ (⟨2, 0, 0⟩ : S36) [.int .i64 2, .int .i64 0, .int .i64 0] from (k36_mkM _ _ _ (⟨2, 0, 0⟩ : S36) )) (Reps.c3 (show Kd.M k36 _ _ _ (⟨0, 1, 0⟩ : S36) [.int .i64 0, .int .i64 1, .int .i64 0] from (k36_mkM _ _ _ (⟨0, 1, 0⟩ : S36) )) (Reps.none _ _)))); intro v127 w23 ho24 hb hg_ hnew_; clear hg_ hnew_; (first |  rw [← Ny126.out] at ho24|  (simp only [Int.reduceToNat] at ho24; rw [← Ny126.out] at ho24)); have HO128 := zMk (zRl ho24 (zBs (by exact uT HB.out))); replace HB := zMk (zBt (by exact uT HB.out) hb); clear hb ho24; obtain ⟨Ao25, co25, eo25⟩ := zRs HO128.out; subst eo25)|((with_reducible refine gate_callee (f := 14) rfl ?_); refine goesL_ (some 7) rfl rfl Try.func14 (by kernel_rfl) rfl #[.int .i64 3, .slice Ao25 y126.length co25] rfl (by (try simp only [zMa, zMc, zMn]); first |  done|  rfl|  (simp only [zLd, zLt]; rfl)) ?_; (with_reducible refine (graph_Make.calls k 3 _ _ y126 t129 t130 t133 _ ?side1 ?side2 A1.out).mono ?_); (case side1 => exact uC (zRr HO128.out).2.2); (case side2 => exact (zRr HO128.out).2.1); rintro e w26 ⟨v131, rfl, ho0, hb⟩; refine ⟨_, rfl, ?_⟩; have HO132 := zMk (zRl (zRw ho0 (zRt (by exact uR HO128.out))) (zBs (by exact uT HB.out))); replace HO128 := zMk (zRe (by exact uR HO128.out) (zRz ho0) hb); replace HB := zMk (zBt (by exact uT HB.out) hb))|((with_reducible refine gate_dst (N := 1) rfl ?_); (try (refine gate_guard (by rfl) ?_; dsimp only)); refine box_event ?hg (N := 1) ?hd (cs := #[.int .i64 0, .slice none 0 0]) (t := 24) ?hr ?_; (case hd => rfl); (case hg => rfl); (case hr => first | (go_simp; done)|(go_simp; rfl)|(go_simp; rw [show ∀ x : Int, IntKind.u32.wrap (IntKind.u8.wrap x) = x % 256 from fun x => (by show (x % 256) % 4294967296 = x % 256; omega)])); intro gb134 hg w27 hbox hb; replace HO128 := zMk (zRb (by exact uR HO128.out) hb); replace HO132 := zMk (zRb (by exact uR HO132.out) hb); have BK134 := zMk (hbox); have GW134 := zMk ((by rw [hg]; exact (zBs (by exact uT HB.out)) : w.heap.size ≤ gb134)); have GE134 := zMk ((by rw [hg]; exact (zBs (by exact uT HB.out)) : w.heap.size ≤ gb134)); have IGE134 := ownGe GE134.out; replace HB := zMk (zBt (by exact uT HB.out) hb); clear hb hbox hg; have hcz28_0 : w27.cell? ⟨gb134, 0, none⟩ = some (.int .i64 0) := (zKc BK134.out 0).trans rfl; have hcz28_1 : w27.cell? ⟨gb134, 1, none⟩ = some (.slice none 0 0) := (zKc BK134.out 1).trans rfl; have hfz28_0 := zKf BK134.out 0; have hfz28_1 := zKf BK134.out 1; obtain ⟨Ao29, co29, eo29⟩ := zRs HO132.out; subst eo29; have p135 : 0 ≤ (1 : Int) := (by omega); have q135 : 1 < (t130.length : Int) := of_decide_eq_true (by first | (with_reducible assumption)|  assumption); obtain ⟨ad135, e135, hx135_0, hx135_1, hx135_2⟩ := at_T36 (zRr HO132.out).2.2 1 p135 q135; cases e135; (try simp only [show (1 : Int).toNat = 1 from rfl, Nat.reduceMul, Nat.reduceEqDiff, Go.Addr.add, ↓reduceIte] at hx135_0); (try simp only [show (1 : Int).toNat = 1 from rfl, Nat.reduceMul, Nat.reduceEqDiff, Go.Addr.add, ↓reduceIte] at hx135_1); (try simp only [show (1 : Int).toNat = 1 from rfl, Nat.reduceMul, Nat.reduceEqDiff, Go.Addr.add, ↓reduceIte] at hx135_2); have qi135 : (1 < t130.length) = True := eq_true (by omega); (try rw [show ((1 : Int)).toNat = 1 from rfl] at hx135_0); (try rw [show 1 * 3 = 3 from rfl] at hx135_0); (try rw [show ((1 : Int)).toNat = 1 from rfl] at hx135_1); (try rw [show 1 * 3 = 3 from rfl] at hx135_1); (try rw [show ((1 : Int)).toNat = 1 from rfl] at hx135_2); (try rw [show 1 * 3 = 3 from rfl] at hx135_2); have hn135_0 : ad135.block ≠ gb134 := Kd.own_blk (Kd.R_ne HO132.out BK134.out (by decide)); have hn135_1 : ad135.block ≠ gb134 := Kd.own_blk (Kd.R_ne HO132.out BK134.out (by decide)); replace hx135_0 := (cell_far (p := ⟨gb134, 0, none⟩) (by first | (rw [add_block]; exact hn135_0)|(show (Addr.add _ _).block ≠ _; rw [add_block]; exact hn135_0)|  exact hn135_0) (.int .i64 t129)).trans hx135_0; replace hx135_1 := (cell_far (p := ⟨gb134, 0, none⟩) (by first | (rw [add_block]; exact hn135_0)|(show (Addr.add _ _).block ≠ _; rw [add_block]; exact hn135_0)|  exact hn135_0) (.int .i64 t129)).trans hx135_1; replace hx135_2 := (cell_far (p := ⟨gb134, 0, none⟩) (by first | (rw [add_block]; exact hn135_0)|(show (Addr.add _ _).block ≠ _; rw [add_block]; exact hn135_0)|  exact hn135_0) (.int .i64 t129)).trans hx135_2; replace hx135_0 := (cell_far (p := ⟨gb134, 1, none⟩) (by first | (rw [add_block]; exact hn135_1)|(show (Addr.add _ _).block ≠ _; rw [add_block]; exact hn135_1)|  exact hn135_1) (.slice (some ad135) t130.length co29)).trans hx135_0; replace hx135_1 := (cell_far (p := ⟨gb134, 1, none⟩) (by first | (rw [add_block]; exact hn135_1)|(show (Addr.add _ _).block ≠ _; rw [add_block]; exact hn135_1)|  exact hn135_1) (.slice (some ad135) t130.length co29)).trans hx135_1; replace hx135_2 := (cell_far (p := ⟨gb134, 1, none⟩) (by first | (rw [add_block]; exact hn135_1)|(show (Addr.add _ _).block ≠ _; rw [add_block]; exact hn135_1)|  exact hn135_1) (.slice (some ad135) t130.length co29)).trans hx135_2; clear hn135_0 hn135_1; replace p135 := eq_true p135; replace q135 := eq_true q135)|(go_at_call 11; (with_reducible refine (graph_Right.calls k t129 _ _ t130 t136 _ ?side1 ?side2 A6.out).mono ?_); (case side1 => refine (zRr (e := 36) (base := w.heap.size) (ok := fun k_ => (True ∧ some k_ ≠ (.slice Ao25 y126.length co25 : Value).ownBlock)) (n := t130.length) (c := co29) ?_).2.2; exact (by (with_reducible repeat (first |  apply zRa|  apply zRn|  apply zRd)); exact (zRm (Kd.R_far (p := ⟨gb134, 1, none⟩) (Kd.R_far (p := ⟨gb134, 0, none⟩) (Kd.R_types HO132.out BK134.out (by decide)) (fun _ hk => hk.2) (.int .i64 t129)) (fun _ hk => hk.2) (.slice (some ad135) t130.length co29)) (fun _ h_ => h_.1)))); (case side2 => exact (zRr HO132.out).2.1); rintro e w30 ⟨rfl, hb⟩; replace HO128 := zMk (zRb (by (with_reducible repeat (first |  apply zRa|  apply zRn|  apply zRd)); exact (zRm (Kd.R_far (p := ⟨gb134, 1, none⟩) (Kd.R_far (p := ⟨gb134, 0, none⟩) (Kd.R_types HO128.out BK134.out (by decide)) (fun _ hk => hk.2) (.int .i64 t129)) (fun _ hk => hk.2) (.slice (some ad135) t130.length co29)) (fun _ h_ => h_.1))) hb); replace HO132 := zMk (zRb (by (with_reducible repeat (first |  apply zRa|  apply zRn|  apply zRd)); exact (zRm (Kd.R_far (p := ⟨gb134, 1, none⟩) (Kd.R_far (p := ⟨gb134, 0, none⟩) (Kd.R_types HO132.out BK134.out (by decide)) (fun _ hk => hk.2) (.int .i64 t129)) (fun _ hk => hk.2) (.slice (some ad135) t130.length co29)) (fun _ h_ => h_.1))) hb); replace BK134 := zMk (zKb (g := gb134) (o := .cells #[.int .i64 t129, .slice (some ad135) t130.length co29] 24 (0, 0)) (by (with_reducible repeat (first |  refine zKn ?_ _|  refine zKd ?_|  refine zKa ?_ _)); refine blk_put (cs := #[.int .i64 t129, .slice none 0 0]) ?_ 1 _ rfl; (with_reducible repeat (first |  refine zKn ?_ _|  refine zKd ?_|  refine zKa ?_ _)); refine blk_put (cs := #[.int .i64 0, .slice none 0 0]) ?_ 0 _ rfl; (with_reducible repeat (first |  refine zKn ?_ _|  refine zKd ?_|  refine zKa ?_ _)); exact BK134.out) hb); replace HB := zMk (zBt (by exact uT HB.out) hb); have hcz31_0 : w30.cell? ⟨gb134, 0, none⟩ = some (.int .i64 t129) := (zKc BK134.out 0).trans rfl; have hcz31_1 : w30.cell? ⟨gb134, 1, none⟩ = some (.slice (some ad135) t130.length co29) := (zKc BK134.out 1).trans rfl; have hfz31_0 := zKf BK134.out 0; have hfz31_1 := zKf BK134.out 1)|(go_at_call 25; (with_reducible refine (graph_Find.calls k t129 _ _ t130 2 0 t137 _ ?side1 ?side2 A8.out).mono ?_); (case side1 => exact uC (zRr HO132.out).2.2); (case side2 => exact (zRr HO132.out).2.1); rintro e w32 ⟨rfl, hb⟩; replace HO128 := zMk (zRb (by exact uR HO128.out) hb); replace HO132 := zMk (zRb (by exact uR HO132.out) hb); replace BK134 := zMk (zKb (g := gb134) (o := .cells #[.int .i64 t129, .slice (some ad135) t130.length co29] 24 (0, 0)) (by (with_reducible repeat (first |  refine zKn ?_ _|  refine zKd ?_|  refine zKa ?_ _)); exact BK134.out) hb); replace HB := zMk (zBt (by exact uT HB.out) hb)))
            go_ret
            exact ⟨by first | rfl | (simp [errW_none, errW_some] <;> rfl) | (simp [*, errW_none, errW_some] <;> rfl), by exact uT HB.out⟩
        · rw [if_neg c7] at H
          have c7b0 : (t136 == 0) = false := beq_eq_false_iff_ne.mpr c7
          have c7b1 : (t136 != 0) = true := bne_iff_ne.mpr c7
          obtain rfl := zOi H
          go_enter Try.func13, Try.ntmps13
          go_wp2_with (first | ((with_reducible refine gate_dst (N := 6) rfl ?_); (try (refine gate_guard (by rfl) ?_; dsimp only)); refine Kd.R_lit k36 _ 36 ?hg (N := 6) ?hd (xs := ([(⟨2, 0, 0⟩ : S36), (⟨0, 1, 0⟩ : S36)] : List (S36))) (inner := [.int .i64 2, .int .i64 0, .int .i64 0, .int .i64 0, .int .i64 1, .int .i64 0]) (ok := fun _ => True) (okp := fun _ => True) ?hr ?hp (fun _ hk => hk) trivial (Below.refl _ _) (Nat.le_refl _) (by simp) ?_; (case hd => rfl); (case hg => rfl); (case hr => first | (go_simp; done)|(go_simp; rfl)|(go_simp; rw [show ∀ x : Int, IntKind.u32.wrap (IntKind.u8.wrap x) = x % 256 from fun x => (by show (x % 256) % 4294967296 = x % 256; omega)])); (case hp => exact (Reps.c3 (show Kd.M k36 _ _ _ (⟨2, 0, 0⟩ : S36) [.int .i64 2, .int .i64 0, .int .i64 0] from (k36_mkM _ _ _ (⟨2, 0, 0⟩ : S36) )) (Reps.c3 (show Kd.M k36 _ _ _ (⟨0, 1, 0⟩ : S36) [.int .i64 0, .int .i64 1, .int .i64 0] from (k36_mkM _ _ _ (⟨0, 1, 0⟩ : S36) )) (Reps.none _ _)))); intro v127 w33 ho34 hb hg_ hnew_; clear hg_ hnew_; (first |  rw [← Ny126.out] at ho34|  (simp only [Int.reduceToNat] at ho34; rw [← Ny126.out] at ho34)); have HO128 := zMk (zRl ho34 (zBs (by exact uT HB.out))); replace HB := zMk (zBt (by exact uT HB.out) hb); clear hb ho34; obtain ⟨Ao35, co35, eo35⟩ := zRs HO128.out; subst eo35)|((with_reducible refine gate_callee (f := 14) rfl ?_); refine goesL_ (some 7) rfl rfl Try.func14 (by kernel_rfl) rfl #[.int .i64 3, .slice Ao35 y126.length co35] rfl (by (try simp only [zMa, zMc, zMn]); first |  done|  rfl|  (simp only [zLd, zLt]; rfl)) ?_; (with_reducible refine (graph_Make.calls k 3 _ _ y126 t129 t130 t133 _ ?side1 ?side2 A1.out).mono ?_); (case side1 => exact uC (zRr HO128.out).2.2); (case side2 => exact (zRr HO128.out).2.1); rintro e w36 ⟨v131, rfl, ho0, hb⟩; refine ⟨_, rfl, ?_⟩; have HO132 := zMk (zRl (zRw ho0 (zRt (by exact uR HO128.out))) (zBs (by exact uT HB.out))); replace HO128 := zMk (zRe (by exact uR HO128.out) (zRz ho0) hb); replace HB := zMk (zBt (by exact uT HB.out) hb))|((with_reducible refine gate_dst (N := 1) rfl ?_); (try (refine gate_guard (by rfl) ?_; dsimp only)); refine box_event ?hg (N := 1) ?hd (cs := #[.int .i64 0, .slice none 0 0]) (t := 24) ?hr ?_; (case hd => rfl); (case hg => rfl); (case hr => first | (go_simp; done)|(go_simp; rfl)|(go_simp; rw [show ∀ x : Int, IntKind.u32.wrap (IntKind.u8.wrap x) = x % 256 from fun x => (by show (x % 256) % 4294967296 = x % 256; omega)])); intro gb134 hg w37 hbox hb; replace HO128 := zMk (zRb (by exact uR HO128.out) hb); replace HO132 := zMk (zRb (by exact uR HO132.out) hb); have BK134 := zMk (hbox); have GW134 := zMk ((by rw [hg]; exact (zBs (by exact uT HB.out)) : w.heap.size ≤ gb134)); have GE134 := zMk ((by rw [hg]; exact (zBs (by exact uT HB.out)) : w.heap.size ≤ gb134)); have IGE134 := ownGe GE134.out; replace HB := zMk (zBt (by exact uT HB.out) hb); clear hb hbox hg; have hcz38_0 : w37.cell? ⟨gb134, 0, none⟩ = some (.int .i64 0) := (zKc BK134.out 0).trans rfl; have hcz38_1 : w37.cell? ⟨gb134, 1, none⟩ = some (.slice none 0 0) := (zKc BK134.out 1).trans rfl; have hfz38_0 := zKf BK134.out 0; have hfz38_1 := zKf BK134.out 1; obtain ⟨Ao39, co39, eo39⟩ := zRs HO132.out; subst eo39; have p135 : 0 ≤ (1 : Int) := (by omega); have q135 : 1 < (t130.length : Int) := of_decide_eq_true (by first | (with_reducible assumption)|  assumption); obtain ⟨ad135, e135, hx135_0, hx135_1, hx135_2⟩ := at_T36 (zRr HO132.out).2.2 1 p135 q135; cases e135; (try simp only [show (1 : Int).toNat = 1 from rfl, Nat.reduceMul, Nat.reduceEqDiff, Go.Addr.add, ↓reduceIte] at hx135_0); (try simp only [show (1 : Int).toNat = 1 from rfl, Nat.reduceMul, Nat.reduceEqDiff, Go.Addr.add, ↓reduceIte] at hx135_1); (try simp only [show (1 : Int).toNat = 1 from rfl, Nat.reduceMul, Nat.reduceEqDiff, Go.Addr.add, ↓reduceIte] at hx135_2); have qi135 : (1 < t130.length) = True := eq_true (by omega); (try rw [show ((1 : Int)).toNat = 1 from rfl] at hx135_0); (try rw [show 1 * 3 = 3 from rfl] at hx135_0); (try rw [show ((1 : Int)).toNat = 1 from rfl] at hx135_1); (try rw [show 1 * 3 = 3 from rfl] at hx135_1); (try rw [show ((1 : Int)).toNat = 1 from rfl] at hx135_2); (try rw [show 1 * 3 = 3 from rfl] at hx135_2); have hn135_0 : ad135.block ≠ gb134 := Kd.own_blk (Kd.R_ne HO132.out BK134.out (by decide)); have hn135_1 : ad135.block ≠ gb134 := Kd.own_blk (Kd.R_ne HO132.out BK134.out (by decide)); replace hx135_0 := (cell_far (p := ⟨gb134, 0, none⟩) (by first | (rw [add_block]; exact hn135_0)|(show (Addr.add _ _).block ≠ _; rw [add_block]; exact hn135_0)|  exact hn135_0) (.int .i64 t129)).trans hx135_0; replace hx135_1 := (cell_far (p := ⟨gb134, 0, none⟩) (by first | (rw [add_block]; exact hn135_0)|(show (Addr.add _ _).block ≠ _; rw [add_block]; exact hn135_0)|  exact hn135_0) (.int .i64 t129)).trans hx135_1; replace hx135_2 := (cell_far (p := ⟨gb134, 0, none⟩) (by first | (rw [add_block]; exact hn135_0)|(show (Addr.add _ _).block ≠ _; rw [add_block]; exact hn135_0)|  exact hn135_0) (.int .i64 t129)).trans hx135_2; replace hx135_0 := (cell_far (p := ⟨gb134, 1, none⟩) (by first | (rw [add_block]; exact hn135_1)|(show (Addr.add _ _).block ≠ _; rw [add_block]; exact hn135_1)|  exact hn135_1) (.slice (some ad135) t130.length co39)).trans hx135_0; replace hx135_1 := (cell_far (p := ⟨gb134, 1, none⟩) (by first | (rw [add_block]; exact hn135_1)|(show (Addr.add _ _).block ≠ _; rw [add_block]; exact hn135_1)|  exact hn135_1) (.slice (some ad135) t130.length co39)).trans hx135_1; replace hx135_2 := (cell_far (p := ⟨gb134, 1, none⟩) (by first | (rw [add_block]; exact hn135_1)|(show (Addr.add _ _).block ≠ _; rw [add_block]; exact hn135_1)|  exact hn135_1) (.slice (some ad135) t130.length co39)).trans hx135_2; clear hn135_0 hn135_1; replace p135 := eq_true p135; replace q135 := eq_true q135)|(go_at_call 11; (with_reducible refine (graph_Right.calls k t129 _ _ t130 t136 _ ?side1 ?side2 A6.out).mono ?_); (case side1 => refine (zRr (e := 36) (base := w.heap.size) (ok := fun k_ => (True ∧ some k_ ≠ (.slice Ao35 y126.length co35 : Value).ownBlock)) (n := t130.length) (c := co39) ?_).2.2; exact (by (with_reducible repeat (first |  apply zRa|  apply zRn|  apply zRd)); exact (zRm (Kd.R_far (p := ⟨gb134, 1, none⟩) (Kd.R_far (p := ⟨gb134, 0, none⟩) (Kd.R_types HO132.out BK134.out (by decide)) (fun _ hk => hk.2) (.int .i64 t129)) (fun _ hk => hk.2) (.slice (some ad135) t130.length co39)) (fun _ h_ => h_.1)))); (case side2 => exact (zRr HO132.out).2.1); rintro e w40 ⟨rfl, hb⟩; replace HO128 := zMk (zRb (by (with_reducible repeat (first |  apply zRa|  apply zRn|  apply zRd)); exact (zRm (Kd.R_far (p := ⟨gb134, 1, none⟩) (Kd.R_far (p := ⟨gb134, 0, none⟩) (Kd.R_types HO128.out BK134.out (by decide)) (fun _ hk => hk.2) (.int .i64 t129)) (fun _ hk => hk.2) (.slice (some ad135) t130.length co39)) (fun _ h_ => h_.1))) hb); replace HO132 := zMk (zRb (by (with_reducible repeat (first |  apply zRa|  apply zRn|  apply zRd)); exact (zRm (Kd.R_far (p := ⟨gb134, 1, none⟩) (Kd.R_far (p := ⟨gb134, 0, none⟩) (Kd.R_types HO132.out BK134.out (by decide)) (fun _ hk => hk.2) (.int .i64 t129)) (fun _ hk => hk.2) (.slice (some ad135) t130.length co39)) (fun _ h_ => h_.1))) hb); replace BK134 := zMk (zKb (g := gb134) (o := .cells #[.int .i64 t129, .slice (some ad135) t130.length co39] 24 (0, 0)) (by (with_reducible repeat (first |  refine zKn ?_ _|  refine zKd ?_|  refine zKa ?_ _)); refine blk_put (cs := #[.int .i64 t129, .slice none 0 0]) ?_ 1 _ rfl; (with_reducible repeat (first |  refine zKn ?_ _|  refine zKd ?_|  refine zKa ?_ _)); refine blk_put (cs := #[.int .i64 0, .slice none 0 0]) ?_ 0 _ rfl; (with_reducible repeat (first |  refine zKn ?_ _|  refine zKd ?_|  refine zKa ?_ _)); exact BK134.out) hb); replace HB := zMk (zBt (by exact uT HB.out) hb)))
          go_ret
          exact ⟨by first | rfl | (simp [errW_none, errW_some] <;> rfl) | (simp [*, errW_none, errW_some] <;> rfl), by exact uT HB.out⟩
      · rw [if_neg c5] at H
        have c5b0 : (((rd_T36 t130 1).f0) == 0 && (((rd_T36 t130 1).f1) == 2 && (((rd_T36 t130 1).f2) == 0))) = false := by simpa using c5
        (try (have c5b1 : decide (((rd_T36 t130 1).f0) = 0 && (((rd_T36 t130 1).f1) == 2 && (((rd_T36 t130 1).f2) == 0))) = false := by simpa using c5))
        (try (have c5b2 : (((rd_T36 t130 1).f0) == 0 && (((rd_T36 t130 1).f1) == 2 && (((rd_T36 t130 1).f2) == 0))) = false := by simpa using c5))
        (try (have c5b3 : ¬ (((rd_T36 t130 1).f0) = 0 && (((rd_T36 t130 1).f1) == 2 && (((rd_T36 t130 1).f2) == 0))) := by simpa using c5))
        clear c5
        obtain rfl := zOi H
        go_enter Try.func13, Try.ntmps13
        go_wp2_with (first | ((with_reducible refine gate_dst (N := 6) rfl ?_); (try (refine gate_guard (by rfl) ?_; dsimp only)); refine Kd.R_lit k36 _ 36 ?hg (N := 6) ?hd (xs := ([(⟨2, 0, 0⟩ : S36), (⟨0, 1, 0⟩ : S36)] : List (S36))) (inner := [.int .i64 2, .int .i64 0, .int .i64 0, .int .i64 0, .int .i64 1, .int .i64 0]) (ok := fun _ => True) (okp := fun _ => True) ?hr ?hp (fun _ hk => hk) trivial (Below.refl _ _) (Nat.le_refl _) (by simp) ?_; (case hd => rfl); (case hg => rfl); (case hr => first | (go_simp; done)|(go_simp; rfl)|(go_simp; rw [show ∀ x : Int, IntKind.u32.wrap (IntKind.u8.wrap x) = x % 256 from fun x => (by show (x % 256) % 4294967296 = x % 256; omega)])); (case hp => exact (Reps.c3 (show Kd.M k36 _ _ _ (⟨2, 0, 0⟩ : S36) [.int .i64 2, .int .i64 0, .int .i64 0] from (k36_mkM _ _ _ (⟨2, 0, 0⟩ : S36) )) (Reps.c3 (show Kd.M k36 _ _ _ (⟨0, 1, 0⟩ : S36) [.int .i64 0, .int .i64 1, .int .i64 0] from (k36_mkM _ _ _ (⟨0, 1, 0⟩ : S36) )) (Reps.none _ _)))); intro v127 w41 ho42 hb hg_ hnew_; clear hg_ hnew_; (first |  rw [← Ny126.out] at ho42|  (simp only [Int.reduceToNat] at ho42; rw [← Ny126.out] at ho42)); have HO128 := zMk (zRl ho42 (zBs (by exact uT HB.out))); replace HB := zMk (zBt (by exact uT HB.out) hb); clear hb ho42; obtain ⟨Ao43, co43, eo43⟩ := zRs HO128.out; subst eo43)|((with_reducible refine gate_callee (f := 14) rfl ?_); refine goesL_ (some 7) rfl rfl Try.func14 (by kernel_rfl) rfl #[.int .i64 3, .slice Ao43 y126.length co43] rfl (by (try simp only [zMa, zMc, zMn]); first |  done|  rfl|  (simp only [zLd, zLt]; rfl)) ?_; (with_reducible refine (graph_Make.calls k 3 _ _ y126 t129 t130 t133 _ ?side1 ?side2 A1.out).mono ?_); (case side1 => exact uC (zRr HO128.out).2.2); (case side2 => exact (zRr HO128.out).2.1); rintro e w44 ⟨v131, rfl, ho0, hb⟩; refine ⟨_, rfl, ?_⟩; have HO132 := zMk (zRl (zRw ho0 (zRt (by exact uR HO128.out))) (zBs (by exact uT HB.out))); replace HO128 := zMk (zRe (by exact uR HO128.out) (zRz ho0) hb); replace HB := zMk (zBt (by exact uT HB.out) hb))|((with_reducible refine gate_dst (N := 1) rfl ?_); (try (refine gate_guard (by rfl) ?_; dsimp only)); refine box_event ?hg (N := 1) ?hd (cs := #[.int .i64 0, .slice none 0 0]) (t := 24) ?hr ?_; (case hd => rfl); (case hg => rfl); (case hr => first | (go_simp; done)|(go_simp; rfl)|(go_simp; rw [show ∀ x : Int, IntKind.u32.wrap (IntKind.u8.wrap x) = x % 256 from fun x => (by show (x % 256) % 4294967296 = x % 256; omega)])); intro gb134 hg w45 hbox hb; replace HO128 := zMk (zRb (by exact uR HO128.out) hb); replace HO132 := zMk (zRb (by exact uR HO132.out) hb); have BK134 := zMk (hbox); have GW134 := zMk ((by rw [hg]; exact (zBs (by exact uT HB.out)) : w.heap.size ≤ gb134)); have GE134 := zMk ((by rw [hg]; exact (zBs (by exact uT HB.out)) : w.heap.size ≤ gb134)); have IGE134 := ownGe GE134.out; replace HB := zMk (zBt (by exact uT HB.out) hb); clear hb hbox hg; have hcz46_0 : w45.cell? ⟨gb134, 0, none⟩ = some (.int .i64 0) := (zKc BK134.out 0).trans rfl; have hcz46_1 : w45.cell? ⟨gb134, 1, none⟩ = some (.slice none 0 0) := (zKc BK134.out 1).trans rfl; have hfz46_0 := zKf BK134.out 0; have hfz46_1 := zKf BK134.out 1; obtain ⟨Ao47, co47, eo47⟩ := zRs HO132.out; subst eo47; have p135 : 0 ≤ (1 : Int) := (by omega); have q135 : 1 < (t130.length : Int) := of_decide_eq_true (by first | (with_reducible assumption)|  assumption); obtain ⟨ad135, e135, hx135_0, hx135_1, hx135_2⟩ := at_T36 (zRr HO132.out).2.2 1 p135 q135; cases e135; (try simp only [show (1 : Int).toNat = 1 from rfl, Nat.reduceMul, Nat.reduceEqDiff, Go.Addr.add, ↓reduceIte] at hx135_0); (try simp only [show (1 : Int).toNat = 1 from rfl, Nat.reduceMul, Nat.reduceEqDiff, Go.Addr.add, ↓reduceIte] at hx135_1); (try simp only [show (1 : Int).toNat = 1 from rfl, Nat.reduceMul, Nat.reduceEqDiff, Go.Addr.add, ↓reduceIte] at hx135_2); have qi135 : (1 < t130.length) = True := eq_true (by omega); (try rw [show ((1 : Int)).toNat = 1 from rfl] at hx135_0); (try rw [show 1 * 3 = 3 from rfl] at hx135_0); (try rw [show ((1 : Int)).toNat = 1 from rfl] at hx135_1); (try rw [show 1 * 3 = 3 from rfl] at hx135_1); (try rw [show ((1 : Int)).toNat = 1 from rfl] at hx135_2); (try rw [show 1 * 3 = 3 from rfl] at hx135_2); have hn135_0 : ad135.block ≠ gb134 := Kd.own_blk (Kd.R_ne HO132.out BK134.out (by decide)); have hn135_1 : ad135.block ≠ gb134 := Kd.own_blk (Kd.R_ne HO132.out BK134.out (by decide)); replace hx135_0 := (cell_far (p := ⟨gb134, 0, none⟩) (by first | (rw [add_block]; exact hn135_0)|(show (Addr.add _ _).block ≠ _; rw [add_block]; exact hn135_0)|  exact hn135_0) (.int .i64 t129)).trans hx135_0; replace hx135_1 := (cell_far (p := ⟨gb134, 0, none⟩) (by first | (rw [add_block]; exact hn135_0)|(show (Addr.add _ _).block ≠ _; rw [add_block]; exact hn135_0)|  exact hn135_0) (.int .i64 t129)).trans hx135_1; replace hx135_2 := (cell_far (p := ⟨gb134, 0, none⟩) (by first | (rw [add_block]; exact hn135_0)|(show (Addr.add _ _).block ≠ _; rw [add_block]; exact hn135_0)|  exact hn135_0) (.int .i64 t129)).trans hx135_2; replace hx135_0 := (cell_far (p := ⟨gb134, 1, none⟩) (by first | (rw [add_block]; exact hn135_1)|(show (Addr.add _ _).block ≠ _; rw [add_block]; exact hn135_1)|  exact hn135_1) (.slice (some ad135) t130.length co47)).trans hx135_0; replace hx135_1 := (cell_far (p := ⟨gb134, 1, none⟩) (by first | (rw [add_block]; exact hn135_1)|(show (Addr.add _ _).block ≠ _; rw [add_block]; exact hn135_1)|  exact hn135_1) (.slice (some ad135) t130.length co47)).trans hx135_1; replace hx135_2 := (cell_far (p := ⟨gb134, 1, none⟩) (by first | (rw [add_block]; exact hn135_1)|(show (Addr.add _ _).block ≠ _; rw [add_block]; exact hn135_1)|  exact hn135_1) (.slice (some ad135) t130.length co47)).trans hx135_2; clear hn135_0 hn135_1; replace p135 := eq_true p135; replace q135 := eq_true q135))
        go_ret
        exact ⟨by first | rfl | (simp [errW_none, errW_some] <;> rfl) | (simp [*, errW_none, errW_some] <;> rfl), by exact uT HB.out⟩
    · rw [if_neg c3] at H
      have c3b0 : ((t130.length : Int) == 2) = false := beq_eq_false_iff_ne.mpr c3
      have c3b1 : ((t130.length : Int) != 2) = true := bne_iff_ne.mpr c3
      obtain rfl := zOi H
      go_enter Try.func13, Try.ntmps13
      go_wp2_with (first | ((with_reducible refine gate_dst (N := 6) rfl ?_); (try (refine gate_guard (by rfl) ?_; dsimp only)); refine Kd.R_lit k36 _ 36 ?hg (N := 6) ?hd (xs := ([(⟨2, 0, 0⟩ : S36), (⟨0, 1, 0⟩ : S36)] : List (S36))) (inner := [.int .i64 2, .int .i64 0, .int .i64 0, .int .i64 0, .int .i64 1, .int .i64 0]) (ok := fun _ => True) (okp := fun _ => True) ?hr ?hp (fun _ hk => hk) trivial (Below.refl _ _) (Nat.le_refl _) (by simp) ?_; (case hd => rfl); (case hg => rfl); (case hr => first | (go_simp; done)|(go_simp; rfl)|(go_simp; rw [show ∀ x : Int, IntKind.u32.wrap (IntKind.u8.wrap x) = x % 256 from fun x => (by show (x % 256) % 4294967296 = x % 256; omega)])); (case hp => exact (Reps.c3 (show Kd.M k36 _ _ _ (⟨2, 0, 0⟩ : S36) [.int .i64 2, .int .i64 0, .int .i64 0] from (k36_mkM _ _ _ (⟨2, 0, 0⟩ : S36) )) (Reps.c3 (show Kd.M k36 _ _ _ (⟨0, 1, 0⟩ : S36) [.int .i64 0, .int .i64 1, .int .i64 0] from (k36_mkM _ _ _ (⟨0, 1, 0⟩ : S36) )) (Reps.none _ _)))); intro v127 w48 ho49 hb hg_ hnew_; clear hg_ hnew_; (first |  rw [← Ny126.out] at ho49|  (simp only [Int.reduceToNat] at ho49; rw [← Ny126.out] at ho49)); have HO128 := zMk (zRl ho49 (zBs (by exact uT HB.out))); replace HB := zMk (zBt (by exact uT HB.out) hb); clear hb ho49; obtain ⟨Ao50, co50, eo50⟩ := zRs HO128.out; subst eo50)|((with_reducible refine gate_callee (f := 14) rfl ?_); refine goesL_ (some 7) rfl rfl Try.func14 (by kernel_rfl) rfl #[.int .i64 3, .slice Ao50 y126.length co50] rfl (by (try simp only [zMa, zMc, zMn]); first |  done|  rfl|  (simp only [zLd, zLt]; rfl)) ?_; (with_reducible refine (graph_Make.calls k 3 _ _ y126 t129 t130 t133 _ ?side1 ?side2 A1.out).mono ?_); (case side1 => exact uC (zRr HO128.out).2.2); (case side2 => exact (zRr HO128.out).2.1); rintro e w51 ⟨v131, rfl, ho0, hb⟩; refine ⟨_, rfl, ?_⟩; have HO132 := zMk (zRl (zRw ho0 (zRt (by exact uR HO128.out))) (zBs (by exact uT HB.out))); replace HO128 := zMk (zRe (by exact uR HO128.out) (zRz ho0) hb); replace HB := zMk (zBt (by exact uT HB.out) hb))|((with_reducible refine gate_dst (N := 1) rfl ?_); (try (refine gate_guard (by rfl) ?_; dsimp only)); refine box_event ?hg (N := 1) ?hd (cs := #[.int .i64 0, .slice none 0 0]) (t := 24) ?hr ?_; (case hd => rfl); (case hg => rfl); (case hr => first | (go_simp; done)|(go_simp; rfl)|(go_simp; rw [show ∀ x : Int, IntKind.u32.wrap (IntKind.u8.wrap x) = x % 256 from fun x => (by show (x % 256) % 4294967296 = x % 256; omega)])); intro gb134 hg w52 hbox hb; replace HO128 := zMk (zRb (by exact uR HO128.out) hb); replace HO132 := zMk (zRb (by exact uR HO132.out) hb); have BK134 := zMk (hbox); have GW134 := zMk ((by rw [hg]; exact (zBs (by exact uT HB.out)) : w.heap.size ≤ gb134)); have GE134 := zMk ((by rw [hg]; exact (zBs (by exact uT HB.out)) : w.heap.size ≤ gb134)); have IGE134 := ownGe GE134.out; replace HB := zMk (zBt (by exact uT HB.out) hb); clear hb hbox hg; have hcz53_0 : w52.cell? ⟨gb134, 0, none⟩ = some (.int .i64 0) := (zKc BK134.out 0).trans rfl; have hcz53_1 : w52.cell? ⟨gb134, 1, none⟩ = some (.slice none 0 0) := (zKc BK134.out 1).trans rfl; have hfz53_0 := zKf BK134.out 0; have hfz53_1 := zKf BK134.out 1; obtain ⟨Ao54, co54, eo54⟩ := zRs HO132.out; subst eo54))
      go_ret
      exact ⟨by first | rfl | (simp [errW_none, errW_some] <;> rfl) | (simp [*, errW_none, errW_some] <;> rfl), by exact uT HB.out⟩
  · rw [if_neg c2] at H
    have c2b0 : (t133 == 0) = false := beq_eq_false_iff_ne.mpr c2
    have c2b1 : (t133 != 0) = true := bne_iff_ne.mpr c2
    obtain rfl := zOi H
    go_enter Try.func13, Try.ntmps13
    go_wp2_with (first | ((with_reducible refine gate_dst (N := 6) rfl ?_); (try (refine gate_guard (by rfl) ?_; dsimp only)); refine Kd.R_lit k36 _ 36 ?hg (N := 6) ?hd (xs := ([(⟨2, 0, 0⟩ : S36), (⟨0, 1, 0⟩ : S36)] : List (S36))) (inner := [.int .i64 2, .int .i64 0, .int .i64 0, .int .i64 0, .int .i64 1, .int .i64 0]) (ok := fun _ => True) (okp := fun _ => True) ?hr ?hp (fun _ hk => hk) trivial (Below.refl _ _) (Nat.le_refl _) (by simp) ?_; (case hd => rfl); (case hg => rfl); (case hr => first | (go_simp; done)|(go_simp; rfl)|(go_simp; rw [show ∀ x : Int, IntKind.u32.wrap (IntKind.u8.wrap x) = x % 256 from fun x => (by show (x % 256) % 4294967296 = x % 256; omega)])); (case hp => exact (Reps.c3 (show Kd.M k36 _ _ _ (⟨2, 0, 0⟩ : S36) [.int .i64 2, .int .i64 0, .int .i64 0] from (k36_mkM _ _ _ (⟨2, 0, 0⟩ : S36) )) (Reps.c3 (show Kd.M k36 _ _ _ (⟨0, 1, 0⟩ : S36) [.int .i64 0, .int .i64 1, .int .i64 0] from (k36_mkM _ _ _ (⟨0, 1, 0⟩ : S36) )) (Reps.none _ _)))); intro v127 w55 ho56 hb hg_ hnew_; clear hg_ hnew_; (first |  rw [← Ny126.out] at ho56|  (simp only [Int.reduceToNat] at ho56; rw [← Ny126.out] at ho56)); have HO128 := zMk (zRl ho56 (zBs (by exact uT HB.out))); replace HB := zMk (zBt (by exact uT HB.out) hb); clear hb ho56; obtain ⟨Ao57, co57, eo57⟩ := zRs HO128.out; subst eo57)|((with_reducible refine gate_callee (f := 14) rfl ?_); refine goesL_ (some 7) rfl rfl Try.func14 (by kernel_rfl) rfl #[.int .i64 3, .slice Ao57 y126.length co57] rfl (by (try simp only [zMa, zMc, zMn]); first |  done|  rfl|  (simp only [zLd, zLt]; rfl)) ?_; (with_reducible refine (graph_Make.calls k 3 _ _ y126 t129 t130 t133 _ ?side1 ?side2 A1.out).mono ?_); (case side1 => exact uC (zRr HO128.out).2.2); (case side2 => exact (zRr HO128.out).2.1); rintro e w58 ⟨v131, rfl, ho0, hb⟩; refine ⟨_, rfl, ?_⟩; have HO132 := zMk (zRl (zRw ho0 (zRt (by exact uR HO128.out))) (zBs (by exact uT HB.out))); replace HO128 := zMk (zRe (by exact uR HO128.out) (zRz ho0) hb); replace HB := zMk (zBt (by exact uT HB.out) hb))|((with_reducible refine gate_dst (N := 1) rfl ?_); (try (refine gate_guard (by rfl) ?_; dsimp only)); refine box_event ?hg (N := 1) ?hd (cs := #[.int .i64 0, .slice none 0 0]) (t := 24) ?hr ?_; (case hd => rfl); (case hg => rfl); (case hr => first | (go_simp; done)|(go_simp; rfl)|(go_simp; rw [show ∀ x : Int, IntKind.u32.wrap (IntKind.u8.wrap x) = x % 256 from fun x => (by show (x % 256) % 4294967296 = x % 256; omega)])); intro gb134 hg w59 hbox hb; replace HO128 := zMk (zRb (by exact uR HO128.out) hb); replace HO132 := zMk (zRb (by exact uR HO132.out) hb); have BK134 := zMk (hbox); have GW134 := zMk ((by rw [hg]; exact (zBs (by exact uT HB.out)) : w.heap.size ≤ gb134)); have GE134 := zMk ((by rw [hg]; exact (zBs (by exact uT HB.out)) : w.heap.size ≤ gb134)); have IGE134 := ownGe GE134.out; replace HB := zMk (zBt (by exact uT HB.out) hb); clear hb hbox hg; have hcz60_0 : w59.cell? ⟨gb134, 0, none⟩ = some (.int .i64 0) := (zKc BK134.out 0).trans rfl; have hcz60_1 : w59.cell? ⟨gb134, 1, none⟩ = some (.slice none 0 0) := (zKc BK134.out 1).trans rfl; have hfz60_0 := zKf BK134.out 0; have hfz60_1 := zKf BK134.out 1; obtain ⟨Ao61, co61, eo61⟩ := zRs HO132.out; subst eo61))
    go_ret
    exact ⟨by first | rfl | (simp [errW_none, errW_some] <;> rfl) | (simp [*, errW_none, errW_some] <;> rfl), by exact uT HB.out⟩

def badI (n : Int) : List S36 → Int
  | [] => 0
  | e :: l => if aloneI n e = 0 then badI n l else aloneI n e
theorem bad_eq (k : Nat) (n : Int) : ∀ l : List S36, graph_Make_bad (k + 1) n l = some (badI n l)
  | [] => rfl
  | e :: l => by
    unfold graph_Make_bad badI
    rw [alone_eq, zOb, bad_eq k n l]
    by_cases h : aloneI n e = 0
    · rw [if_pos h, if_pos h]
    · rw [if_neg h, if_neg h]
def makeI (n : Int) (l : List S36) : Int × List S36 × Int :=
  if sizesI n l.length = 0 then (if badI n l = 0 then (if dupE (sortE (l.map nrmE)) then (0, [], 7) else (n, sortE (l.map nrmE), 0)) else (0, [], badI n l)) else (0, [], sizesI n l.length)
theorem Make_eq (k : Nat) (n : Int) (l : List S36) (hk : 1 ≤ k) (hl : l.length < 5864062014805) : graph_Make.f k n l = some (makeI n l) := by
  obtain ⟨k, rfl⟩ : ∃ m, k = m + 1 := ⟨k - 1, by omega⟩
  unfold graph_Make.f makeI
  rw [if_pos hl, sizes_eq, zOb, bad_eq]
  repeat' split
  all_goals simp_all
theorem alive_eq (k : Nat) (hk : 6 ≤ k) : filigreelaw04_alive.f k = some true := by
  have h1 : makeI 3 [⟨2, 0, 0⟩, ⟨0, 1, 0⟩] = (3, [⟨0, 1, 0⟩, ⟨0, 2, 0⟩], 0) := by kernel_rfl
  have h2 : rightI 3 [⟨0, 1, 0⟩, ⟨0, 2, 0⟩] = 0 := by kernel_rfl
  have h3 : api_Edge_45.f [⟨0, 1, 0⟩, ⟨0, 2, 0⟩] (mn 2 0) (mx 2 0) 0 = some (1, true) := by kernel_rfl
  have h4 : api_Edge_45.f [⟨0, 1, 0⟩, ⟨0, 2, 0⟩] (mn 1 2) (mx 1 2) 0 = some (2, false) := by kernel_rfl
  have h5 := Right_eq k 3 [⟨0, 1, 0⟩, ⟨0, 2, 0⟩] (by simpa using hk)
  rw [h2] at h5
  unfold filigreelaw04_alive.f
  rw [Make_eq k 3 _ (by omega) (by decide), zOb, h1]
  simp only [graph_Find.f, h5, zOb, if_true, h3, h4]
  rfl
def upE : List S36 → Prop
  | a :: b :: l => ordE a b = -1 ∧ upE (b :: l)
  | _ => True
theorem ordE_trans {a b c : S36} (h1 : ordE a b = -1) (h2 : ordE b c = -1) : ordE a c = -1 := by
  unfold ordE at *
  repeat' split at h1
  all_goals repeat' split at h2
  all_goals repeat' split
  all_goals first | rfl | omega
theorem up_pair : ∀ {l : List S36}, upE l → l.Pairwise (fun a b => ordE a b = -1)
  | [], _ => List.Pairwise.nil
  | [a], _ => by simp
  | a :: b :: l, h => by
    have ih := up_pair h.2
    refine List.Pairwise.cons (fun c hc => ?_) ih
    rcases List.mem_cons.1 hc with rfl | hc
    · exact h.1
    · exact ordE_trans h.1 (List.rel_of_pairwise_cons ih hc)
theorem up_unique : ∀ {l m : List S36}, l.Pairwise (fun a b => ordE a b = -1) → m.Pairwise (fun a b => ordE a b = -1) → l.Perm m → l = m
  | [], m, _, _, hp => (List.nil_perm.1 hp).symm
  | a :: l, [], _, _, hp => absurd hp.length_eq (by simp)
  | a :: l, b :: m, h1, h2, hp => by
    have ha : a ∈ b :: m := hp.subset (by simp)
    have hb : b ∈ a :: l := hp.symm.subset (by simp)
    have hab : a = b := by
      rcases List.mem_cons.1 ha with h | h
      · exact h
      rcases List.mem_cons.1 hb with h' | h'
      · exact h'.symm
      · have e1 := List.rel_of_pairwise_cons h2 h
        have e2 := List.rel_of_pairwise_cons h1 h'
        have := ordE_swap a b
        omega
    subst hab
    rw [up_unique h1.of_cons h2.of_cons hp.cons_inv]
theorem ordI_ordE (a b : S36) : ordI a.f0 a.f1 b.f0 b.f1 = ordE a b := by
  unfold ordI cmpI ordE
  repeat' split
  all_goals omega
theorem sortE_le (l : List S36) : (sortE l).Pairwise (fun a b => ordE b a ≠ -1) := by
  have h := (sortE_facts l).2
  rw [List.pairwise_iff_getElem]
  intro i j hi hj hij
  have h2 := h i j (Nat.zero_le _) hij (by rw [List.size_toArray, ← sortE_length]; exact hj)
  rw [ltE] at h2
  have e1 : (sortE l).toArray[i]! = (sortE l)[i] := by simp [hi]
  have e2 : (sortE l).toArray[j]! = (sortE l)[j] := by simp [hj]
  rw [e1, e2] at h2
  have h3 := of_decide_eq_false h2
  unfold ordE
  repeat' split
  all_goals omega
theorem up_dup : ∀ {l : List S36}, upE l → dupE l = false
  | [], _ => rfl
  | [a], _ => rfl
  | a :: b :: l, h => by
    unfold dupE
    rw [ordI_ordE, h.1, up_dup h.2]
    rfl
theorem sortE_of_up {l m : List S36} (h : l.Pairwise (fun a b => ordE a b = -1)) (hp : m.Perm l) : sortE m = l := by
  have hperm : (sortE m).Perm l := (sortE_perm m).trans hp
  have hle := sortE_le m
  have hne : (sortE m).Pairwise (fun a b => ordE a b ≠ 0) := by
    refine List.Pairwise.perm (R := fun a b => ordE a b ≠ 0) (l := l) ?_ hperm.symm ?_
    · exact h.imp (fun h' => by omega)
    · intro a b h'; rw [ordE_swap]; omega
  refine up_unique ?_ h hperm
  refine (hle.and hne).imp (fun {a b} ⟨h1, h2⟩ => ?_)
  have := ordE_swap a b
  rcases ordE_cases a b with h3 | h3 | h3 <;> omega
theorem right_iff (n : Int) (l : List S36) : rightI n l = 0 ↔ sizesI n l.length = 0 ∧ (∀ e ∈ l, aloneI n e = 0 ∧ e.f0 ≤ e.f1) ∧ upE l := by
  have key : ∀ (l : List S36) (p : Option S36), rgt n p l = 0 ↔ (∀ e ∈ l, aloneI n e = 0 ∧ e.f0 ≤ e.f1) ∧ (match p with | none => upE l | some p => upE (p :: l)) := by
    intro l
    induction l with
    | nil => intro p; cases p <;> simp [rgt, upE]
    | cons e l ih =>
      intro p
      unfold rgt
      by_cases h0 : aloneI n e = 0
      · rw [if_neg (not_not_intro h0)]
        by_cases h1 : e.f0 > e.f1
        · rw [if_pos h1]
          constructor
          · intro h; omega
          · intro h; have := (h.1 e (by simp)).2; omega
        · rw [if_neg h1]
          cases p with
          | none =>
            simp only [ih, List.mem_cons, forall_eq_or_imp]
            constructor
            · intro h; exact ⟨⟨⟨h0, by omega⟩, h.1⟩, h.2⟩
            · intro h; exact ⟨h.1.2, h.2⟩
          | some p =>
            simp only [List.mem_cons, forall_eq_or_imp, upE]
            rcases ordE_cases p e with h2 | h2 | h2
            · rw [if_neg (by omega), if_neg (by omega), ih]
              constructor
              · intro h; exact ⟨⟨⟨h0, by omega⟩, h.1⟩, h2, h.2⟩
              · intro h; exact ⟨h.1.2, h.2.2⟩
            · rw [if_pos h2]
              constructor
              · intro h; omega
              · intro h; have := h.2.1; omega
            · rw [if_neg (by omega), if_pos h2]
              constructor
              · intro h; omega
              · intro h; have := h.2.1; omega
      · rw [if_pos h0]
        constructor
        · intro h; exact absurd h h0
        · intro h; exact absurd (h.1 e (by simp)).1 h0
  unfold rightI
  by_cases h : sizesI n l.length = 0
  · rw [if_pos h, key l none]
    exact ⟨fun x => ⟨h, x⟩, fun x => x.2⟩
  · rw [if_neg h]
    exact ⟨fun x => absurd x h, fun x => absurd x.1 h⟩
theorem bad_iff (n : Int) : ∀ l : List S36, badI n l = 0 ↔ ∀ e ∈ l, aloneI n e = 0
  | [] => by simp [badI]
  | e :: l => by
    unfold badI
    by_cases h : aloneI n e = 0
    · rw [if_pos h, bad_iff n l]; simp [h]
    · rw [if_neg h]; simp [h]
theorem alone_nrm (n : Int) (e : S36) : aloneI n (nrmE e) = aloneI n e := by
  unfold nrmE aloneI
  by_cases h1 : e.f1 < e.f0 <;> by_cases h2 : e.f0 < e.f1 <;> simp only [h1, h2, if_true, if_false]
  all_goals repeat' split
  all_goals first | rfl | omega
theorem nrm_of_le {e : S36} (h : e.f0 ≤ e.f1) : nrmE e = e := by
  obtain ⟨a, b, c⟩ := e
  unfold nrmE
  simp only at h ⊢
  rw [if_neg (by omega)]
  by_cases h2 : a < b
  · rw [if_pos h2]
  · rw [if_neg h2]
    have : a = b := by omega
    rw [this]
theorem make_again (n : Int) (E l : List S36) (hr : rightI n E = 0) (hp : (l.map nrmE).Perm E) : makeI n l = (n, E, 0) := by
  obtain ⟨h1, h2, h3⟩ := (right_iff n E).1 hr
  have hlen : l.length = E.length := by rw [← hp.length_eq, List.length_map]
  have hs : sortE (l.map nrmE) = E := sortE_of_up (up_pair h3) hp
  unfold makeI
  rw [hlen, if_pos h1, hs, up_dup h3, if_pos ((bad_iff n l).2 fun e he => ?_)]
  · rfl
  · rw [← alone_nrm]
    exact (h2 _ (hp.subset (List.mem_map_of_mem he))).1

def filigreeref04_Has.l0 : Nat → List Int → Int → Int → Option (Bool)
  | 0, _, _, _ => none
  | k + 1, x0, x1, x5 => if x5 < (x0.length : Int) then (if 0 ≤ x5 then (if (rd x0 x5) = x1 then (some true) else (filigreeref04_Has.l0 k x0 x1 (wrap64 (x5 + 1)))) else (none)) else (some false)
def filigreeref04_Has.f (k : Nat) (l0 : List Int) (a1 : Int) : Option (Bool) := filigreeref04_Has.l0 k l0 a1 0
theorem filigreeref04_Has.calls (k : Nat) (A0 : Option Addr) (c0 : Nat) (l0 : List Int) (a1 : Int) (r : Bool) (w : World) (hr0 : Kd.C (Kd.int .i64) w A0 l0.length l0) (hc0 : l0.length ≤ c0) (h : filigreeref04_Has.f k l0 a1 = some r) :
    Calls Try.prog 31 #[.slice A0 l0.length c0, .int .i64 a1] w fun e w' => e = .returned (.bool r) ∧ Drawn0 w w' := by
  have HR0 := zMk hr0
  have HC0 := zMk hc0
  clear hr0 hc0
  have H : (filigreeref04_Has.l0 k l0 a1 0) = some r := h
  clear h
  have H' := zMk H
  clear H
  go_enter Try.func31, Try.ntmps31
  go_wp2
  go_loopg [5] k (fun kq v5 w' => ∃ (x5_1 : Int), v5 = .int .i64 x5_1 ∧ Aside0 (filigreeref04_Has.l0 kq l0 a1 x5_1 = some r) ∧ Aside0 (kq ≤ k) ∧ Drawn0 w w')
  case atStart => exact ⟨(0), (by first | rfl | (simp; done) | (simp [*]; done)), H', ⟨Nat.le_refl _⟩, by repeat (first | exact Drawn0.refl _ | apply Drawn0.step)⟩
  clear H'
  obtain ⟨x5_1, rfl, HA, HK1, ⟨m1, rfl⟩⟩ := hrel
  rcases gk with _ | k1
  · exact absurd HA.out (by simp [filigreeref04_Has.l0])
  have H := HA.out
  clear HA
  simp only [filigreeref04_Has.l0] at H
  by_cases c3 : x5_1 < (l0.length : Int)
  · rw [if_pos c3] at H
    have c3b0 : decide (x5_1 < (l0.length : Int)) = true := decide_eq_true c3
    clear c3
    by_cases c4 : 0 ≤ x5_1
    rotate_left
    · rw [if_neg c4] at H; exact absurd H (by simp)
    rw [if_pos c4] at H
    have c4b0 : decide (0 ≤ x5_1) = true := decide_eq_true c4
    clear c4
    by_cases c5 : (rd l0 x5_1) = a1
    · rw [if_pos c5] at H
      have c5b0 : ((rd l0 x5_1) == a1) = true := beq_iff_eq.mpr c5
      have c5b1 : ((rd l0 x5_1) != a1) = false := bne_eq_false_iff_eq.mpr c5
      clear c5
      obtain rfl := zOi H
      have p339 : 0 ≤ (x5_1 : Int) := of_decide_eq_true (by assumption)
      have q339 : x5_1 < (l0.length : Int) := of_decide_eq_true (by assumption)
      obtain ⟨ad339, e339, hx339_0⟩ := zAi HR0.out x5_1 p339 q339
      cases e339
      replace p339 := eq_true p339
      replace q339 := eq_true q339
      go_wp2
      go_ret
      exact ⟨by first | rfl | (simp; done) | (simp [*]; done), by repeat (first | exact Drawn0.refl _ | apply Drawn0.step)⟩
    · rw [if_neg c5] at H
      have c5b0 : ((rd l0 x5_1) == a1) = false := beq_eq_false_iff_ne.mpr c5
      have c5b1 : ((rd l0 x5_1) != a1) = true := bne_iff_ne.mpr c5
      have H' := zMk H
      clear H
      have p339 : 0 ≤ (x5_1 : Int) := of_decide_eq_true (by assumption)
      have q339 : x5_1 < (l0.length : Int) := of_decide_eq_true (by assumption)
      obtain ⟨ad339, e339, hx339_0⟩ := zAi HR0.out x5_1 p339 q339
      cases e339
      replace p339 := eq_true p339
      replace q339 := eq_true q339
      go_wp2
      go_roundg k1
      case measure => have := HK1.out; omega
      case rel => exact ⟨(wrap64 (x5_1 + 1)), (by first | rfl | (simp; done) | (simp [*]; done)), H', ⟨by have := HK1.out; omega⟩, by repeat (first | exact Drawn0.refl _ | apply Drawn0.step)⟩
  · rw [if_neg c3] at H
    have c3b0 : decide (x5_1 < (l0.length : Int)) = false := decide_eq_false c3
    clear c3
    obtain rfl := zOi H
    go_wp2
    go_ret
    exact ⟨by first | rfl | (simp; done) | (simp [*]; done), by repeat (first | exact Drawn0.refl _ | apply Drawn0.step)⟩

theorem rdI_get (l : List Int) (i : Nat) (h : i < l.length) : rd l (i : Int) = l[i] := by
  unfold rd
  rw [zTn]
  simp [h]
theorem dropI (l : List Int) (i : Nat) (h : i < l.length) : l.drop i = rd l (i : Int) :: l.drop (i + 1) := by
  rw [List.drop_eq_getElem_cons h, rdI_get l i h]

def graph_Weight.l0 : Nat → List Bool → Int → List Int → Int → Int → Int → List (S36) → Option (Int × Int)
  | 0, _, _, _, _, _, _, _ => none
  | k + 1, x6, x7, x17, x18, x19, x508000, x508001 => if x19 < x18 then (if 0 ≤ x19 then (if x19 < (x17.length : Int) then (if (rd x17 x19) < 0 then (some (0, 1)) else (if (rd x17 x19) ≥ (x6.length : Int) then (some (0, 1)) else (if 0 ≤ (rd x17 x19) then (if (rd x17 x19) < (x6.length : Int) then (if rdOf false x6 (rd x17 x19) = true then (some (0, 1)) else (if (rd x17 x19) < (x508001.length : Int) then (graph_Weight.l0 k (x6.set ((rd x17 x19) : Int).toNat true) (wrap64 (x7 + ((rd_T36 x508001 (rd x17 x19)).f2))) x17 x18 (wrap64 (x19 + 1)) x508000 x508001) else (none))) else (none)) else (none)))) else (none)) else (none)) else (some (x7, 0))
def graph_Weight.f (k : Nat) (a0_0 : Int) (l0_1 : List (S36)) (l1 : List Int) : Option (Int × Int) := (graph_Right.f k a0_0 l0_1).bind fun t508 => (if t508 = 0 then (if 0 ≤ (l0_1.length : Int) then (if ((l0_1.length : Int) : Int).toNat ≤ 281474976710656 then (graph_Weight.l0 k (List.replicate ((l0_1.length : Int) : Int).toNat false) 0 l1 (l1.length : Int) 0 a0_0 l0_1) else (none)) else (none)) else (some (0, 1)))
theorem graph_Weight.calls (k : Nat) (a0_0 : Int) (A0_1 : Option Addr) (c0_1 : Nat) (l0_1 : List (S36)) (A1 : Option Addr) (c1 : Nat) (l1 : List Int) (r1 : Int) (r2 : Int) (w : World) (hr0_1 : Kd.C k36 w A0_1 l0_1.length l0_1) (hc0_1 : l0_1.length ≤ c0_1) (hr1 : Kd.C (Kd.int .i64) w A1 l1.length l1) (hc1 : l1.length ≤ c1) (h : graph_Weight.f k a0_0 l0_1 l1 = some (r1, r2)) :
    Calls Try.prog 19 #[.agg #[.int .i64 a0_0, .slice A0_1 l0_1.length c0_1], .slice A1 l1.length c1] w fun e w' => e = .returned (.tuple #[.int .i64 r1, .int .i64 r2]) ∧ Below w.heap.size w w' := by
  have hu24 := Try.underlying24
  have HR0_1 := zMk hr0_1
  have HC0_1 := zMk hc0_1
  clear hr0_1 hc0_1
  have HR1 := zMk hr1
  have HC1 := zMk hc1
  clear hr1 hc1
  have HB := zMk (Below.refl w.heap.size w)
  have H : ((graph_Right.f k a0_0 l0_1).bind fun t508 => (if t508 = 0 then (if 0 ≤ (l0_1.length : Int) then (if ((l0_1.length : Int) : Int).toNat ≤ 281474976710656 then (graph_Weight.l0 k (List.replicate ((l0_1.length : Int) : Int).toNat false) 0 l1 (l1.length : Int) 0 a0_0 l0_1) else (none)) else (none)) else (some (0, 1)))) = some (r1, r2) := h
  clear h
  replace H := bnd H
  obtain ⟨t508, A30, H⟩ := H
  have A3 := zMk A30
  clear A30
  by_cases c4 : t508 = 0
  · rw [if_pos c4] at H
    have c4b0 : (t508 == 0) = true := beq_iff_eq.mpr c4
    have c4b1 : (t508 != 0) = false := bne_eq_false_iff_eq.mpr c4
    clear c4
    by_cases c5 : 0 ≤ (l0_1.length : Int)
    rotate_left
    · rw [if_neg c5] at H; exact absurd H (by simp)
    rw [if_pos c5] at H
    have c5b0 := eq_true c5
    have c5b1 : decide (0 ≤ (l0_1.length : Int)) = true := decide_eq_true c5
    clear c5
    by_cases c6 : ((l0_1.length : Int) : Int).toNat ≤ 281474976710656
    rotate_left
    · rw [if_neg c6] at H; exact absurd H (by simp)
    rw [if_pos c6] at H
    have c6b0 := eq_true c6
    have c6b1 : decide (((l0_1.length : Int) : Int).toNat ≤ 281474976710656) = true := decide_eq_true c6
    clear c6
    obtain ⟨y509, hy509⟩ : ∃ y_ : List Bool, y_ = (List.replicate ((l0_1.length : Int) : Int).toNat false) := ⟨_, rfl⟩
    replace H : (graph_Weight.l0 k y509 0 l1 (l1.length : Int) 0 a0_0 l0_1) = some (r1, r2) := by first | (rw [hy509]; with_reducible exact H) | (have H2_ := bsm H; first | (rw [hy509]; with_reducible exact H2_) | with_reducible exact H2_) | with_reducible exact H | (rw [hy509]; exact H) | exact H
    have Ny509 := zMk hy509
    clear hy509
    have H' := zMk H
    clear H
    go_enter Try.func19, Try.ntmps19
    go_wp2_with (first | ((with_reducible refine gate_dst (N := 2) rfl ?_); (try (refine gate_guard (by rfl) ?_; dsimp only)); refine box_event ?hg (N := 2) ?hd (cs := #[.int .i64 a0_0, .slice A0_1 l0_1.length c0_1]) (t := 24) ?hr ?_; (case hd => rfl); (case hg => rfl); (case hr => first | (go_simp; done)|(go_simp; rfl)|(go_simp; rw [show ∀ x : Int, IntKind.u32.wrap (IntKind.u8.wrap x) = x % 256 from fun x => (by show (x % 256) % 4294967296 = x % 256; omega)])); intro gb507 hg w7 hbox hb; have BK507 := zMk (hbox); have GW507 := zMk ((by rw [hg]; exact (zBs (by exact uT HB.out)) : w.heap.size ≤ gb507)); have GE507 := zMk ((by rw [hg]; exact (zBs (by exact uT HB.out)) : w.heap.size ≤ gb507)); have IGE507 := ownGe GE507.out; replace HB := zMk (zBt (by exact uT HB.out) hb); clear hb hbox hg; have hcz8_0 : w7.cell? ⟨gb507, 0, none⟩ = some (.int .i64 a0_0) := (zKc BK507.out 0).trans rfl; have hcz8_1 : w7.cell? ⟨gb507, 1, none⟩ = some (.slice A0_1 l0_1.length c0_1) := (zKc BK507.out 1).trans rfl; have hfz8_0 := zKf BK507.out 0; have hfz8_1 := zKf BK507.out 1)|((with_reducible refine gate_callee (f := 11) rfl ?_); refine goesL_ (some 11) rfl rfl Try.func11 (by kernel_rfl) rfl #[.agg #[.int .i64 a0_0, .slice A0_1 l0_1.length c0_1]] rfl (by (try simp only [zMa, zMc, zMn]); first |  done|  rfl|  (simp only [zLd, zLt]; rfl)) ?_; (with_reducible refine (graph_Right.calls k a0_0 _ _ l0_1 t508 _ ?side1 ?side2 A3.out).mono ?_); (case side1 => repeat (first |  exact (Kd.C_below HR0_1.out HB.out)|(with_reducible refine zCa ?_ _)|(with_reducible refine zCn ?_ _)|(with_reducible refine zCd ?_))); (case side2 => exact HC0_1.out); rintro e w9 ⟨rfl, hb⟩; refine ⟨_, rfl, ?_⟩; replace BK507 := zMk (zKb (g := gb507) (o := .cells #[.int .i64 a0_0, .slice A0_1 l0_1.length c0_1] 24 (0, 0)) (by (with_reducible repeat (first |  refine zKn ?_ _|  refine zKd ?_|  refine zKa ?_ _)); exact BK507.out) hb); replace HB := zMk (zBt (by exact uT HB.out) hb); have hcz10_0 : w9.cell? ⟨gb507, 0, none⟩ = some (.int .i64 a0_0) := (zKc BK507.out 0).trans rfl; have hcz10_1 : w9.cell? ⟨gb507, 1, none⟩ = some (.slice A0_1 l0_1.length c0_1) := (zKc BK507.out 1).trans rfl; have hfz10_0 := zKf BK507.out 0; have hfz10_1 := zKf BK507.out 1)|((with_reducible refine gate_dst (N := 16) rfl ?_); (try (refine gate_guard (by rfl) ?_; dsimp only)); refine Kd.R_make Kd.bool _ 4 rfl (N := 16) rfl 41 _ _ rfl (l0_1.length : Int) rfl rfl Try.underlying41 (.bool false) 1 info4 rfl (by decide) (by omega) false (ok := fun _ => True) (okp := fun _ => True) rfl (fun _ hk => hk) trivial (of_decide_eq_true (by first | (with_reducible assumption)|  assumption)) (Nat.le_trans (Nat.mul_le_mul_right _ (of_decide_eq_true (by first | (with_reducible assumption)|  assumption) : (l0_1.length : Int).toNat ≤ 281474976710656)) (by omega)) (Below.refl _ _) (Nat.le_refl _) ?_; intro v510 w11 ho12 hb hg_ hnew_; clear hg_ hnew_; (first |  rw [← Ny509.out] at ho12|  (simp only [Int.reduceToNat] at ho12; rw [← Ny509.out] at ho12)); have HO511 := zMk (zRl ho12 (zBs (by exact uT HB.out))); replace BK507 := zMk (zKb (g := gb507) (o := .cells #[.int .i64 a0_0, .slice A0_1 l0_1.length c0_1] 24 (0, 0)) (by (with_reducible repeat (first |  refine zKn ?_ _|  refine zKd ?_|  refine zKa ?_ _)); exact BK507.out) hb); replace HB := zMk (zBt (by exact uT HB.out) hb); clear hb ho12))
    go_loopg [7, 19] k (fun kq v7 v19 w' => ∃ (x6_1 : List Bool) (x7_1 : Int) (x19_1 : Int), v7 = .int .i64 x7_1 ∧ v19 = .int .i64 x19_1 ∧ Aside0 (graph_Weight.l0 kq x6_1 x7_1 l1 (l1.length : Int) x19_1 a0_0 l0_1 = some (r1, r2)) ∧ Aside0 (kq ≤ k) ∧ Aside0 (Kd.R Kd.bool 4 w' w.heap.size (fun _ => True) v510 x6_1) ∧ Aside0 (w'.heap[gb507]? = some (.cells #[.int .i64 a0_0, (.slice A0_1 l0_1.length c0_1)] 24 (0, 0))) ∧ Aside0 (Below w.heap.size w w'))
    case atStart => exact ⟨(y509), (0), (0), (by first | rfl | (simp; done) | (simp [*]; done)), (by first | rfl | (simp; done) | (simp [*]; done)), H', ⟨Nat.le_refl _⟩, ⟨by exact uR HO511.out⟩, ⟨by (with_reducible repeat (first | refine zKn ?_ _ | refine zKd ?_ | refine zKa ?_ _)); exact BK507.out⟩, ⟨by exact uT HB.out⟩⟩
    clear H'
    obtain ⟨x6_1, x7_1, x19_1, rfl, rfl, HA, HK1, HO_6, BK507, HB⟩ := hrel
    rcases gk with _ | k1
    · exact absurd HA.out (by simp [graph_Weight.l0])
    have H := HA.out
    clear HA
    simp only [graph_Weight.l0] at H
    by_cases c13 : x19_1 < (l1.length : Int)
    · rw [if_pos c13] at H
      have c13b0 : decide (x19_1 < (l1.length : Int)) = true := decide_eq_true c13
      clear c13
      by_cases c14 : 0 ≤ x19_1
      rotate_left
      · rw [if_neg c14] at H; exact absurd H (by simp)
      rw [if_pos c14] at H
      have c14b0 : decide (0 ≤ x19_1) = true := decide_eq_true c14
      clear c14
      by_cases c15 : x19_1 < (l1.length : Int)
      rotate_left
      · rw [if_neg c15] at H; exact absurd H (by simp)
      rw [if_pos c15] at H
      have c15b0 : decide (x19_1 < (l1.length : Int)) = true := decide_eq_true c15
      clear c15
      by_cases c16 : (rd l1 x19_1) < 0
      · rw [if_pos c16] at H
        have c16b0 : decide ((rd l1 x19_1) < 0) = true := decide_eq_true c16
        clear c16
        simp only [Option.some.injEq, Prod.mk.injEq] at H
        obtain ⟨rfl, rfl⟩ := H
        have p512 : 0 ≤ (x19_1 : Int) := of_decide_eq_true (by assumption)
        have q512 : x19_1 < (l1.length : Int) := of_decide_eq_true (by assumption)
        obtain ⟨ad512, e512, hx512_0⟩ := zAi HR1.out x19_1 p512 q512
        cases e512
        replace hx512_0 := (HB.out.cell (World.block_lt_of_cell? w _ hx512_0)).trans hx512_0
        replace p512 := eq_true p512
        replace q512 := eq_true q512
        go_wp2
        go_ret2
        exact ⟨by first | rfl | (simp [errW_none, errW_some] <;> rfl) | (simp [*, errW_none, errW_some] <;> rfl), by exact uT HB.out⟩
      · rw [if_neg c16] at H
        have c16b0 : decide ((rd l1 x19_1) < 0) = false := decide_eq_false c16
        clear c16
        by_cases c17 : (rd l1 x19_1) ≥ (x6_1.length : Int)
        · rw [if_pos c17] at H
          have c17b0 : decide ((x6_1.length : Int) ≤ (rd l1 x19_1)) = true := decide_eq_true c17
          clear c17
          simp only [Option.some.injEq, Prod.mk.injEq] at H
          obtain ⟨rfl, rfl⟩ := H
          have p512 : 0 ≤ (x19_1 : Int) := of_decide_eq_true (by assumption)
          have q512 : x19_1 < (l1.length : Int) := of_decide_eq_true (by assumption)
          obtain ⟨ad512, e512, hx512_0⟩ := zAi HR1.out x19_1 p512 q512
          cases e512
          replace hx512_0 := (HB.out.cell (World.block_lt_of_cell? w _ hx512_0)).trans hx512_0
          replace p512 := eq_true p512
          replace q512 := eq_true q512
          obtain ⟨Ao18, co18, eo18⟩ := zRs HO_6.out
          subst eo18
          go_wp2
          go_ret2
          exact ⟨by first | rfl | (simp [errW_none, errW_some] <;> rfl) | (simp [*, errW_none, errW_some] <;> rfl), by exact uT HB.out⟩
        · rw [if_neg c17] at H
          have c17b0 : decide ((x6_1.length : Int) ≤ (rd l1 x19_1)) = false := decide_eq_false c17
          clear c17
          by_cases c19 : 0 ≤ (rd l1 x19_1)
          rotate_left
          · rw [if_neg c19] at H; exact absurd H (by simp)
          rw [if_pos c19] at H
          have c19b0 : decide (0 ≤ (rd l1 x19_1)) = true := decide_eq_true c19
          clear c19
          by_cases c20 : (rd l1 x19_1) < (x6_1.length : Int)
          rotate_left
          · rw [if_neg c20] at H; exact absurd H (by simp)
          rw [if_pos c20] at H
          have c20b0 : decide ((rd l1 x19_1) < (x6_1.length : Int)) = true := decide_eq_true c20
          clear c20
          obtain ⟨bq21, hbq21⟩ : ∃ b_ : Bool, b_ = (rdOf false x6_1 (rd l1 x19_1)) := ⟨_, rfl⟩
          replace H : (if bq21 = true then (some (0, 1)) else (if (rd l1 x19_1) < (l0_1.length : Int) then (graph_Weight.l0 k1 (x6_1.set ((rd l1 x19_1) : Int).toNat true) (wrap64 (x7_1 + ((rd_T36 l0_1 (rd l1 x19_1)).f2))) l1 (l1.length : Int) (wrap64 (x19_1 + 1)) a0_0 l0_1) else (none))) = some (r1, r2) := by rw [← hbq21] at H; exact H
          have Nbq21 := zMk hbq21
          clear hbq21
          by_cases c22 : bq21 = true
          · subst c22
            replace H : (some (0, 1)) = some (r1, r2) := by rw [if_pos rfl] at H; exact H
            simp only [Option.some.injEq, Prod.mk.injEq] at H
            obtain ⟨rfl, rfl⟩ := H
            have p512 : 0 ≤ (x19_1 : Int) := of_decide_eq_true (by assumption)
            have q512 : x19_1 < (l1.length : Int) := of_decide_eq_true (by assumption)
            obtain ⟨ad512, e512, hx512_0⟩ := zAi HR1.out x19_1 p512 q512
            cases e512
            replace hx512_0 := (HB.out.cell (World.block_lt_of_cell? w _ hx512_0)).trans hx512_0
            replace p512 := eq_true p512
            replace q512 := eq_true q512
            obtain ⟨Ao23, co23, eo23⟩ := zRs HO_6.out
            subst eo23
            have p513 : 0 ≤ ((rd l1 x19_1) : Int) := of_decide_eq_true (by assumption)
            have q513 : (rd l1 x19_1) < (x6_1.length : Int) := of_decide_eq_true (by assumption)
            obtain ⟨ad513, e513, hx513_0⟩ := Kd.at_bool (zRr HO_6.out).2.2 (rd l1 x19_1) p513 q513
            (try rw [← Nbq21.out] at hx513_0)
            cases e513
            replace p513 := eq_true p513
            replace q513 := eq_true q513
            go_wp2
            go_ret2
            exact ⟨by first | rfl | (simp [errW_none, errW_some] <;> rfl) | (simp [*, errW_none, errW_some] <;> rfl), by exact uT HB.out⟩
          · replace c22 := Bool.eq_false_iff.mpr c22
            subst c22
            replace H : (if (rd l1 x19_1) < (l0_1.length : Int) then (graph_Weight.l0 k1 (x6_1.set ((rd l1 x19_1) : Int).toNat true) (wrap64 (x7_1 + ((rd_T36 l0_1 (rd l1 x19_1)).f2))) l1 (l1.length : Int) (wrap64 (x19_1 + 1)) a0_0 l0_1) else (none)) = some (r1, r2) := by rw [if_neg (show ¬ (false = true) by decide)] at H; exact H
            obtain ⟨y514, hy514⟩ : ∃ y_ : List Bool, y_ = (x6_1.set ((rd l1 x19_1) : Int).toNat true) := ⟨_, rfl⟩
            replace H : (if (rd l1 x19_1) < (l0_1.length : Int) then (graph_Weight.l0 k1 y514 (wrap64 (x7_1 + ((rd_T36 l0_1 (rd l1 x19_1)).f2))) l1 (l1.length : Int) (wrap64 (x19_1 + 1)) a0_0 l0_1) else (none)) = some (r1, r2) := by first | (rw [hy514]; with_reducible exact H) | (have H2_ := bsm H; first | (rw [hy514]; with_reducible exact H2_) | with_reducible exact H2_) | with_reducible exact H | (rw [hy514]; exact H) | exact H
            have Ny514 := zMk hy514
            clear hy514
            by_cases c25 : (rd l1 x19_1) < (l0_1.length : Int)
            rotate_left
            · rw [if_neg c25] at H; exact absurd H (by simp)
            rw [if_pos c25] at H
            have c25b0 : decide ((rd l1 x19_1) < (l0_1.length : Int)) = true := decide_eq_true c25
            clear c25
            have H' := zMk H
            clear H
            have p512 : 0 ≤ (x19_1 : Int) := of_decide_eq_true (by assumption)
            have q512 : x19_1 < (l1.length : Int) := of_decide_eq_true (by assumption)
            obtain ⟨ad512, e512, hx512_0⟩ := zAi HR1.out x19_1 p512 q512
            cases e512
            replace hx512_0 := (HB.out.cell (World.block_lt_of_cell? w _ hx512_0)).trans hx512_0
            replace p512 := eq_true p512
            replace q512 := eq_true q512
            obtain ⟨Ao26, co26, eo26⟩ := zRs HO_6.out
            subst eo26
            have p513 : 0 ≤ ((rd l1 x19_1) : Int) := of_decide_eq_true (by assumption)
            have q513 : (rd l1 x19_1) < (x6_1.length : Int) := of_decide_eq_true (by assumption)
            obtain ⟨ad513, e513, hx513_0⟩ := Kd.at_bool (zRr HO_6.out).2.2 (rd l1 x19_1) p513 q513
            (try rw [← Nbq21.out] at hx513_0)
            cases e513
            replace p513 := eq_true p513
            replace q513 := eq_true q513
            have p24 : 0 ≤ ((rd l1 x19_1) : Int) := of_decide_eq_true (by assumption)
            have q24 : ((rd l1 x19_1) : Int) < ((x6_1.length : Int) : Int) := of_decide_eq_true (by assumption)
            obtain ⟨go24, co24, eo24, gb24, gl24, cl24, HG24⟩ := Kd.R_form HO_6.out (by omega)
            (first |  cases eo24|  (injection eo24 with ea_ en_ ec_; (first |  subst ea_|  (injection ea_ with ea_; subst ea_)); subst ec_; clear en_))
            have GB24 := zMk gb24
            have IGB24 := ownGe GB24.out
            have GG24 := zMk HG24
            clear gb24 gl24 HG24
            (first | simp only [add_plain] at hx513_0 | skip)
            obtain ⟨hx24_0, hf24_0⟩ := Kd.R_celln false HO_6.out ((rd l1 x19_1) : Int) p24 q24
            replace p24 := eq_true p24
            replace q24 := eq_true q24
            have HP27 := Kd.R_putg HO_6.out ((rd l1 x19_1) : Int) true
            go_wp2_with (first | ((with_reducible refine gate_store (t := 4) (p := 39) rfl ?_); refine store_event (t := 4) (p := 39) (v := ?vo_w28) (w1 := (wr.setCell ⟨go24, ((rd l1 x19_1) : Int).toNat, none⟩ (.bool true))) ?hg ?ho ?hn ?hr ?_; (case ho => rfl); (case hg => rfl); (case hn => rfl); (case hr => first | (go_simp; done)|(go_simp; rfl)|(go_simp; rw [show ∀ x : Int, IntKind.u32.wrap (IntKind.u8.wrap x) = x % 256 from fun x => (by show (x % 256) % 4294967296 = x % 256; omega)])); intro w28 hw; have hg : wr.grownBy w28 (some go24) := (by rw [hw]; exact HP27.2); have hp_ : Kd.R Kd.bool 4 w28 w.heap.size (fun _ => True) (.slice (some ⟨go24, 0, none⟩) x6_1.length co26) y514 := (by rw [hw, Ny514.out]; exact HP27.1); clear HP27; replace BK507 := zMk (blk_grown (g := gb507) (o := .cells #[.int .i64 a0_0, .slice A0_1 l0_1.length c0_1] 24 (0, 0)) (by (with_reducible repeat (first |  refine zKn ?_ _|  refine zKd ?_|  refine zKa ?_ _)); exact BK507.out) hg (Kd.R_ne HO_6.out BK507.out (by decide))); replace HO_6 := zMk (hp_); replace HB := zMk ((by rw [hw]; exact below_set (HB.out) GB24.out : Below w.heap.size w w28)); clear hg hw hp_; have hcz29_0 : w28.cell? ⟨gb507, 0, none⟩ = some (.int .i64 a0_0) := (zKc BK507.out 0).trans rfl; have hcz29_1 : w28.cell? ⟨gb507, 1, none⟩ = some (.slice A0_1 l0_1.length c0_1) := (zKc BK507.out 1).trans rfl; have hfz29_0 := zKf BK507.out 0; have hfz29_1 := zKf BK507.out 1; have p515 : 0 ≤ ((rd l1 x19_1) : Int) := of_decide_eq_true (by first | (with_reducible assumption)|  assumption); have q515 : (rd l1 x19_1) < (l0_1.length : Int) := of_decide_eq_true (by first | (with_reducible assumption)|  assumption); obtain ⟨ad515, e515, hx515_0, hx515_1, hx515_2⟩ := at_T36 HR0_1.out (rd l1 x19_1) p515 q515; cases e515; replace hx515_0 := (HB.out.cell (World.block_lt_of_cell? w _ hx515_0)).trans hx515_0; replace hx515_1 := (HB.out.cell (World.block_lt_of_cell? w _ hx515_1)).trans hx515_1; replace hx515_2 := (HB.out.cell (World.block_lt_of_cell? w _ hx515_2)).trans hx515_2; replace p515 := eq_true p515; replace q515 := eq_true q515))
            go_roundg k1
            case measure => have := HK1.out; omega
            case rel => exact ⟨(y514), (wrap64 (x7_1 + ((rd_T36 l0_1 (rd l1 x19_1)).f2))), (wrap64 (x19_1 + 1)), (by first | rfl | (simp; done) | (simp [*]; done)), (by first | rfl | (simp; done) | (simp [*]; done)), H', ⟨by have := HK1.out; omega⟩, ⟨by exact uR HO_6.out⟩, ⟨by (with_reducible repeat (first | refine zKn ?_ _ | refine zKd ?_ | refine zKa ?_ _)); exact BK507.out⟩, ⟨by exact uT HB.out⟩⟩
    · rw [if_neg c13] at H
      have c13b0 : decide (x19_1 < (l1.length : Int)) = false := decide_eq_false c13
      clear c13
      simp only [Option.some.injEq, Prod.mk.injEq] at H
      obtain ⟨rfl, rfl⟩ := H
      go_wp2
      go_ret2
      exact ⟨by first | rfl | (simp [errW_none, errW_some] <;> rfl) | (simp [*, errW_none, errW_some] <;> rfl), by exact uT HB.out⟩
  · rw [if_neg c4] at H
    have c4b0 : (t508 == 0) = false := beq_eq_false_iff_ne.mpr c4
    have c4b1 : (t508 != 0) = true := bne_iff_ne.mpr c4
    simp only [Option.some.injEq, Prod.mk.injEq] at H
    obtain ⟨rfl, rfl⟩ := H
    go_enter Try.func19, Try.ntmps19
    go_wp2_with (first | ((with_reducible refine gate_dst (N := 2) rfl ?_); (try (refine gate_guard (by rfl) ?_; dsimp only)); refine box_event ?hg (N := 2) ?hd (cs := #[.int .i64 a0_0, .slice A0_1 l0_1.length c0_1]) (t := 24) ?hr ?_; (case hd => rfl); (case hg => rfl); (case hr => first | (go_simp; done)|(go_simp; rfl)|(go_simp; rw [show ∀ x : Int, IntKind.u32.wrap (IntKind.u8.wrap x) = x % 256 from fun x => (by show (x % 256) % 4294967296 = x % 256; omega)])); intro gb507 hg w30 hbox hb; have BK507 := zMk (hbox); have GW507 := zMk ((by rw [hg]; exact (zBs (by exact uT HB.out)) : w.heap.size ≤ gb507)); have GE507 := zMk ((by rw [hg]; exact (zBs (by exact uT HB.out)) : w.heap.size ≤ gb507)); have IGE507 := ownGe GE507.out; replace HB := zMk (zBt (by exact uT HB.out) hb); clear hb hbox hg; have hcz31_0 : w30.cell? ⟨gb507, 0, none⟩ = some (.int .i64 a0_0) := (zKc BK507.out 0).trans rfl; have hcz31_1 : w30.cell? ⟨gb507, 1, none⟩ = some (.slice A0_1 l0_1.length c0_1) := (zKc BK507.out 1).trans rfl; have hfz31_0 := zKf BK507.out 0; have hfz31_1 := zKf BK507.out 1)|((with_reducible refine gate_callee (f := 11) rfl ?_); refine goesL_ (some 11) rfl rfl Try.func11 (by kernel_rfl) rfl #[.agg #[.int .i64 a0_0, .slice A0_1 l0_1.length c0_1]] rfl (by (try simp only [zMa, zMc, zMn]); first |  done|  rfl|  (simp only [zLd, zLt]; rfl)) ?_; (with_reducible refine (graph_Right.calls k a0_0 _ _ l0_1 t508 _ ?side1 ?side2 A3.out).mono ?_); (case side1 => repeat (first |  exact (Kd.C_below HR0_1.out HB.out)|(with_reducible refine zCa ?_ _)|(with_reducible refine zCn ?_ _)|(with_reducible refine zCd ?_))); (case side2 => exact HC0_1.out); rintro e w32 ⟨rfl, hb⟩; refine ⟨_, rfl, ?_⟩; replace BK507 := zMk (zKb (g := gb507) (o := .cells #[.int .i64 a0_0, .slice A0_1 l0_1.length c0_1] 24 (0, 0)) (by (with_reducible repeat (first |  refine zKn ?_ _|  refine zKd ?_|  refine zKa ?_ _)); exact BK507.out) hb); replace HB := zMk (zBt (by exact uT HB.out) hb)))
    go_ret2
    exact ⟨by first | rfl | (simp [errW_none, errW_some] <;> rfl) | (simp [*, errW_none, errW_some] <;> rfl), by exact uT HB.out⟩


def filigreeref04_Weight.l0 : Nat → List Int → Int → Int → Int → List (S36) → Option (Int × Int)
  | 0, _, _, _, _, _ => none
  | k + 1, x1, x6, x7, x573000, x573001 => if x7 < (x1.length : Int) then (if 0 ≤ x7 then (if (rd x1 x7) < 0 then (some (0, 1)) else (if (rd x1 x7) ≥ (x573001.length : Int) then (some (0, 1)) else (if x7 ≤ (x1.length : Int) then ((filigreeref04_Has.f k (x1.take (x7 : Int).toNat) (rd x1 x7)).bind fun t577 => (if t577 = true then (some (0, 1)) else (if 0 ≤ (rd x1 x7) then (if (rd x1 x7) < (x573001.length : Int) then (filigreeref04_Weight.l0 k x1 (wrap64 (x6 + ((rd_T36 x573001 (rd x1 x7)).f2))) (wrap64 (x7 + 1)) x573000 x573001) else (none)) else (none)))) else (none)))) else (none)) else (some (x6, 0))
def filigreeref04_Weight.f (k : Nat) (a0_0 : Int) (l0_1 : List (S36)) (l1 : List Int) : Option (Int × Int) := filigreeref04_Weight.l0 k l1 0 0 a0_0 l0_1
theorem filigreeref04_Weight.has_len (k : Nat) (A0 : Option Addr) (c0 : Nat) (l0 : List Int) (a1 : Int) (r : Bool) (w : World) (n : Nat) (hn : l0.length = n) (hr : Kd.C (Kd.int .i64) w A0 l0.length l0) (hc : l0.length ≤ c0) (h : filigreeref04_Has.f k l0 a1 = some r) :
    Calls Try.prog 31 #[.slice A0 n c0, .int .i64 a1] w fun e w' => e = .returned (.bool r) ∧ Drawn0 w w' := by
  subst hn
  exact filigreeref04_Has.calls k A0 c0 l0 a1 r w hr hc h
theorem filigreeref04_Weight.take_len {l : List Int} {x : Int} (h : decide (x ≤ (l.length : Int)) = true) : (l.take x.toNat).length = x.toNat := by
  have := of_decide_eq_true h
  rw [zLt]
  omega
theorem filigreeref04_Weight.calls (k : Nat) (a0_0 : Int) (A0_1 : Option Addr) (c0_1 : Nat) (l0_1 : List (S36)) (A1 : Option Addr) (c1 : Nat) (l1 : List Int) (r1 : Int) (r2 : Int) (w : World) (hr0_1 : Kd.C k36 w A0_1 l0_1.length l0_1) (hc0_1 : l0_1.length ≤ c0_1) (hr1 : Kd.C (Kd.int .i64) w A1 l1.length l1) (hc1 : l1.length ≤ c1) (h : filigreeref04_Weight.f k a0_0 l0_1 l1 = some (r1, r2)) :
    Calls Try.prog 20 #[.agg #[.int .i64 a0_0, .slice A0_1 l0_1.length c0_1], .slice A1 l1.length c1] w fun e w' => e = .returned (.tuple #[.int .i64 r1, .int .i64 r2]) ∧ Below w.heap.size w w' := by
  have hu24 := Try.underlying24
  have HR0_1 := zMk hr0_1
  have HC0_1 := zMk hc0_1
  clear hr0_1 hc0_1
  have HR1 := zMk hr1
  have HC1 := zMk hc1
  clear hr1 hc1
  have HB := zMk (Below.refl w.heap.size w)
  have H : (filigreeref04_Weight.l0 k l1 0 0 a0_0 l0_1) = some (r1, r2) := h
  clear h
  have H' := zMk H
  clear H
  go_enter Try.func20, Try.ntmps20
  go_wp2_with (first | ((with_reducible refine gate_dst (N := 2) rfl ?_); (try (refine gate_guard (by rfl) ?_; dsimp only)); refine box_event ?hg (N := 2) ?hd (cs := #[.int .i64 a0_0, .slice A0_1 l0_1.length c0_1]) (t := 24) ?hr ?_; (case hd => rfl); (case hg => rfl); (case hr => first | (go_simp; done)|(go_simp; rfl)|(go_simp; rw [show ∀ x : Int, IntKind.u32.wrap (IntKind.u8.wrap x) = x % 256 from fun x => (by show (x % 256) % 4294967296 = x % 256; omega)])); intro gb572 hg w3 hbox hb; have BK572 := zMk (hbox); have GW572 := zMk ((by rw [hg]; exact (zBs (by exact uT HB.out)) : w.heap.size ≤ gb572)); have GE572 := zMk ((by rw [hg]; exact (zBs (by exact uT HB.out)) : w.heap.size ≤ gb572)); have IGE572 := ownGe GE572.out; replace HB := zMk (zBt (by exact uT HB.out) hb); clear hb hbox hg))
  repeat (go_quiet (first | ((with_reducible refine gate_dst (N := 2) rfl ?_); (try (refine gate_guard (by rfl) ?_; dsimp only)); refine box_event ?hg (N := 2) ?hd (cs := #[.int .i64 a0_0, .slice A0_1 l0_1.length c0_1]) (t := 24) ?hr ?_; (case hd => rfl); (case hg => rfl); (case hr => first | (go_simp; done)|(go_simp; rfl)|(go_simp; rw [show ∀ x : Int, IntKind.u32.wrap (IntKind.u8.wrap x) = x % 256 from fun x => (by show (x % 256) % 4294967296 = x % 256; omega)])); intro gb572 hg w3 hbox hb; have BK572 := zMk (hbox); have GW572 := zMk ((by rw [hg]; exact (zBs (by exact uT HB.out)) : w.heap.size ≤ gb572)); have GE572 := zMk ((by rw [hg]; exact (zBs (by exact uT HB.out)) : w.heap.size ≤ gb572)); have IGE572 := ownGe GE572.out; replace HB := zMk (zBt (by exact uT HB.out) hb); clear hb hbox hg)); try go_wp2_with (first | ((with_reducible refine gate_dst (N := 2) rfl ?_); (try (refine gate_guard (by rfl) ?_; dsimp only)); refine box_event ?hg (N := 2) ?hd (cs := #[.int .i64 a0_0, .slice A0_1 l0_1.length c0_1]) (t := 24) ?hr ?_; (case hd => rfl); (case hg => rfl); (case hr => first | (go_simp; done)|(go_simp; rfl)|(go_simp; rw [show ∀ x : Int, IntKind.u32.wrap (IntKind.u8.wrap x) = x % 256 from fun x => (by show (x % 256) % 4294967296 = x % 256; omega)])); intro gb572 hg w3 hbox hb; have BK572 := zMk (hbox); have GW572 := zMk ((by rw [hg]; exact (zBs (by exact uT HB.out)) : w.heap.size ≤ gb572)); have GE572 := zMk ((by rw [hg]; exact (zBs (by exact uT HB.out)) : w.heap.size ≤ gb572)); have IGE572 := ownGe GE572.out; replace HB := zMk (zBt (by exact uT HB.out) hb); clear hb hbox hg)))
  go_loopg [6, 7] k (fun kq v6 v7 w' => ∃ (x6_1 : Int) (x7_1 : Int), v6 = .int .i64 x6_1 ∧ v7 = .int .i64 x7_1 ∧ Aside0 (filigreeref04_Weight.l0 kq l1 x6_1 x7_1 a0_0 l0_1 = some (r1, r2)) ∧ Aside0 (kq ≤ k) ∧ Aside0 (w'.heap[gb572]? = some (.cells #[.int .i64 a0_0, (.slice A0_1 l0_1.length c0_1)] 24 (0, 0))) ∧ Aside0 (Below w.heap.size w w'))
  case atStart => exact ⟨(0), (0), (by first | rfl | (simp; done) | (simp [*]; done)), (by first | rfl | (simp; done) | (simp [*]; done)), H', ⟨Nat.le_refl _⟩, ⟨by (with_reducible repeat (first | refine zKn ?_ _ | refine zKd ?_ | refine zKa ?_ _)); exact BK572.out⟩, ⟨by exact uT HB.out⟩⟩
  clear H'
  obtain ⟨x6_1, x7_1, rfl, rfl, HA, HK1, BK572, HB⟩ := hrel
  rcases gk with _ | k1
  · exact absurd HA.out (by simp [filigreeref04_Weight.l0])
  have H := HA.out
  clear HA
  simp only [filigreeref04_Weight.l0] at H
  by_cases c4 : x7_1 < (l1.length : Int)
  · rw [if_pos c4] at H
    have c4b0 : decide (x7_1 < (l1.length : Int)) = true := decide_eq_true c4
    clear c4
    by_cases c5 : 0 ≤ x7_1
    rotate_left
    · rw [if_neg c5] at H; exact absurd H (by simp)
    rw [if_pos c5] at H
    have c5b0 : decide (0 ≤ x7_1) = true := decide_eq_true c5
    clear c5
    by_cases c6 : (rd l1 x7_1) < 0
    · rw [if_pos c6] at H
      have c6b0 : decide ((rd l1 x7_1) < 0) = true := decide_eq_true c6
      clear c6
      simp only [Option.some.injEq, Prod.mk.injEq] at H
      obtain ⟨rfl, rfl⟩ := H
      have p573 : 0 ≤ (x7_1 : Int) := of_decide_eq_true (by assumption)
      have q573 : x7_1 < (l1.length : Int) := of_decide_eq_true (by assumption)
      obtain ⟨ad573, e573, hx573_0⟩ := zAi HR1.out x7_1 p573 q573
      cases e573
      replace hx573_0 := (HB.out.cell (World.block_lt_of_cell? w _ hx573_0)).trans hx573_0
      replace p573 := eq_true p573
      replace q573 := eq_true q573
      go_wp2
      repeat (go_quiet (fail); try go_wp2)
      go_ret2
      exact ⟨by first | rfl | (simp [errW_none, errW_some] <;> rfl) | (simp [*, errW_none, errW_some] <;> rfl), by exact uT HB.out⟩
    · rw [if_neg c6] at H
      have c6b0 : decide ((rd l1 x7_1) < 0) = false := decide_eq_false c6
      clear c6
      by_cases c7 : (rd l1 x7_1) ≥ (l0_1.length : Int)
      · rw [if_pos c7] at H
        have c7b0 : decide ((l0_1.length : Int) ≤ (rd l1 x7_1)) = true := decide_eq_true c7
        clear c7
        simp only [Option.some.injEq, Prod.mk.injEq] at H
        obtain ⟨rfl, rfl⟩ := H
        have p573 : 0 ≤ (x7_1 : Int) := of_decide_eq_true (by assumption)
        have q573 : x7_1 < (l1.length : Int) := of_decide_eq_true (by assumption)
        obtain ⟨ad573, e573, hx573_0⟩ := zAi HR1.out x7_1 p573 q573
        cases e573
        replace hx573_0 := (HB.out.cell (World.block_lt_of_cell? w _ hx573_0)).trans hx573_0
        replace p573 := eq_true p573
        replace q573 := eq_true q573
        have p574 : 0 ≤ (x7_1 : Int) := of_decide_eq_true (by assumption)
        have q574 : x7_1 < (l1.length : Int) := of_decide_eq_true (by assumption)
        obtain ⟨ad574, e574, hx574_0⟩ := zAi HR1.out x7_1 p574 q574
        obtain rfl : ad573 = ad574 := (by injection e574)
        replace hx574_0 := (HB.out.cell (World.block_lt_of_cell? w _ hx574_0)).trans hx574_0
        replace p574 := eq_true p574
        replace q574 := eq_true q574
        have hcz8_0 : wr.cell? ⟨gb572, 0, none⟩ = some (.int .i64 a0_0) := (zKc BK572.out 0).trans rfl
        have hcz8_1 : wr.cell? ⟨gb572, 1, none⟩ = some (.slice A0_1 l0_1.length c0_1) := (zKc BK572.out 1).trans rfl
        have hfz8_0 := zKf BK572.out 0
        have hfz8_1 := zKf BK572.out 1
        go_wp2
        repeat (go_quiet (fail); try go_wp2)
        go_ret2
        exact ⟨by first | rfl | (simp [errW_none, errW_some] <;> rfl) | (simp [*, errW_none, errW_some] <;> rfl), by exact uT HB.out⟩
      · rw [if_neg c7] at H
        have c7b0 : decide ((l0_1.length : Int) ≤ (rd l1 x7_1)) = false := decide_eq_false c7
        clear c7
        have c9b0 := eq_true (of_decide_eq_true (by assumption) : 0 ≤ x7_1)
        by_cases c10 : x7_1 ≤ (l1.length : Int)
        rotate_left
        · rw [if_neg c10] at H; exact absurd H (by simp)
        rw [if_pos c10] at H
        have c10b0 := eq_true c10
        have c10b1 : decide (x7_1 ≤ (l1.length : Int)) = true := decide_eq_true c10
        clear c10
        replace H := bnd H
        obtain ⟨t577, A110, H⟩ := H
        have A11 := zMk A110
        clear A110
        by_cases c12 : t577 = true
        · subst c12
          replace H : (some (0, 1)) = some (r1, r2) := by rw [if_pos rfl] at H; exact H
          simp only [Option.some.injEq, Prod.mk.injEq] at H
          obtain ⟨rfl, rfl⟩ := H
          have p573 : 0 ≤ (x7_1 : Int) := of_decide_eq_true (by assumption)
          have q573 : x7_1 < (l1.length : Int) := of_decide_eq_true (by assumption)
          obtain ⟨ad573, e573, hx573_0⟩ := zAi HR1.out x7_1 p573 q573
          cases e573
          replace hx573_0 := (HB.out.cell (World.block_lt_of_cell? w _ hx573_0)).trans hx573_0
          replace p573 := eq_true p573
          replace q573 := eq_true q573
          have p574 : 0 ≤ (x7_1 : Int) := of_decide_eq_true (by assumption)
          have q574 : x7_1 < (l1.length : Int) := of_decide_eq_true (by assumption)
          obtain ⟨ad574, e574, hx574_0⟩ := zAi HR1.out x7_1 p574 q574
          obtain rfl : ad573 = ad574 := (by injection e574)
          replace hx574_0 := (HB.out.cell (World.block_lt_of_cell? w _ hx574_0)).trans hx574_0
          replace p574 := eq_true p574
          replace q574 := eq_true q574
          have hcz13_0 : wr.cell? ⟨gb572, 0, none⟩ = some (.int .i64 a0_0) := (zKc BK572.out 0).trans rfl
          have hcz13_1 : wr.cell? ⟨gb572, 1, none⟩ = some (.slice A0_1 l0_1.length c0_1) := (zKc BK572.out 1).trans rfl
          have hfz13_0 := zKf BK572.out 0
          have hfz13_1 := zKf BK572.out 1
          obtain ⟨i014, hi014, _, hsz14, _⟩ := info_parts info3
          obtain ⟨hcut14, hA14, hC14⟩ := print_take_of (P := Try.prog) (Value.int .i64) 0 33 3 .i64 Try.underlying33 hi014 hsz14 (some ad573) c1 l1 x7_1 (of_decide_eq_true (by assumption)) (of_decide_eq_true (by assumption)) HC1.out
          have HR575 := zMk (Kd.C_of_reads (h1 := fun _ => rfl) (hA14 _ (Kd.reads_of_C HR1.out)))
          have HC575 := zMk hC14
          clear hA14 hC14 hi014 hsz14
          have p576 : 0 ≤ (x7_1 : Int) := of_decide_eq_true (by assumption)
          have q576 : x7_1 < (l1.length : Int) := of_decide_eq_true (by assumption)
          obtain ⟨ad576, e576, hx576_0⟩ := zAi HR1.out x7_1 p576 q576
          obtain rfl : ad573 = ad576 := (by injection e576)
          replace hx576_0 := (HB.out.cell (World.block_lt_of_cell? w _ hx576_0)).trans hx576_0
          replace p576 := eq_true p576
          replace q576 := eq_true q576
          go_wp2_with (first | (go_at_call 31; (with_reducible refine (filigreeref04_Weight.has_len k1 _ _ (l1.take (x7_1 : Int).toNat) (rd l1 x7_1) true _ _ (filigreeref04_Weight.take_len c10b1) ?side1 ?side2 A11.out).mono ?_); (case side1 => repeat (first | exact (Kd.C_below HR575.out HB.out) | (with_reducible refine zCa ?_ _) | (with_reducible refine zCn ?_ _) | (with_reducible refine zCd ?_))); (case side2 => exact HC575.out); rintro e w' ⟨rfl, ⟨nd, rfl⟩⟩; (try first | exact ⟨rfl, _, World.drewN_drewN _ _ _⟩ | exact ⟨rfl, _, Eq.trans (World.drewN_drewN _ _ _) (congrArg (World.drewN _) (Nat.add_assoc _ _ _))⟩)))
          repeat (go_quiet (first | (go_at_call 31; (with_reducible refine (filigreeref04_Weight.has_len k1 _ _ (l1.take (x7_1 : Int).toNat) (rd l1 x7_1) true _ _ (filigreeref04_Weight.take_len c10b1) ?side1 ?side2 A11.out).mono ?_); (case side1 => repeat (first | exact (Kd.C_below HR575.out HB.out) | (with_reducible refine zCa ?_ _) | (with_reducible refine zCn ?_ _) | (with_reducible refine zCd ?_))); (case side2 => exact HC575.out); rintro e w' ⟨rfl, ⟨nd, rfl⟩⟩; (try first | exact ⟨rfl, _, World.drewN_drewN _ _ _⟩ | exact ⟨rfl, _, Eq.trans (World.drewN_drewN _ _ _) (congrArg (World.drewN _) (Nat.add_assoc _ _ _))⟩))); try go_wp2_with (first | (go_at_call 31; (with_reducible refine (filigreeref04_Weight.has_len k1 _ _ (l1.take (x7_1 : Int).toNat) (rd l1 x7_1) true _ _ (filigreeref04_Weight.take_len c10b1) ?side1 ?side2 A11.out).mono ?_); (case side1 => repeat (first | exact (Kd.C_below HR575.out HB.out) | (with_reducible refine zCa ?_ _) | (with_reducible refine zCn ?_ _) | (with_reducible refine zCd ?_))); (case side2 => exact HC575.out); rintro e w' ⟨rfl, ⟨nd, rfl⟩⟩; (try first | exact ⟨rfl, _, World.drewN_drewN _ _ _⟩ | exact ⟨rfl, _, Eq.trans (World.drewN_drewN _ _ _) (congrArg (World.drewN _) (Nat.add_assoc _ _ _))⟩))))
          go_ret2
          exact ⟨by first | rfl | (simp [errW_none, errW_some] <;> rfl) | (simp [*, errW_none, errW_some] <;> rfl), by exact uT HB.out⟩
        · replace c12 := Bool.eq_false_iff.mpr c12
          subst c12
          replace H : (if 0 ≤ (rd l1 x7_1) then (if (rd l1 x7_1) < (l0_1.length : Int) then (filigreeref04_Weight.l0 k1 l1 (wrap64 (x6_1 + ((rd_T36 l0_1 (rd l1 x7_1)).f2))) (wrap64 (x7_1 + 1)) a0_0 l0_1) else (none)) else (none)) = some (r1, r2) := by rw [if_neg (show ¬ (false = true) by decide)] at H; exact H
          by_cases c15 : 0 ≤ (rd l1 x7_1)
          rotate_left
          · rw [if_neg c15] at H; exact absurd H (by simp)
          rw [if_pos c15] at H
          have c15b0 : decide (0 ≤ (rd l1 x7_1)) = true := decide_eq_true c15
          clear c15
          by_cases c16 : (rd l1 x7_1) < (l0_1.length : Int)
          rotate_left
          · rw [if_neg c16] at H; exact absurd H (by simp)
          rw [if_pos c16] at H
          have c16b0 : decide ((rd l1 x7_1) < (l0_1.length : Int)) = true := decide_eq_true c16
          clear c16
          have H' := zMk H
          clear H
          have p573 : 0 ≤ (x7_1 : Int) := of_decide_eq_true (by assumption)
          have q573 : x7_1 < (l1.length : Int) := of_decide_eq_true (by assumption)
          obtain ⟨ad573, e573, hx573_0⟩ := zAi HR1.out x7_1 p573 q573
          cases e573
          replace hx573_0 := (HB.out.cell (World.block_lt_of_cell? w _ hx573_0)).trans hx573_0
          replace p573 := eq_true p573
          replace q573 := eq_true q573
          have p574 : 0 ≤ (x7_1 : Int) := of_decide_eq_true (by assumption)
          have q574 : x7_1 < (l1.length : Int) := of_decide_eq_true (by assumption)
          obtain ⟨ad574, e574, hx574_0⟩ := zAi HR1.out x7_1 p574 q574
          obtain rfl : ad573 = ad574 := (by injection e574)
          replace hx574_0 := (HB.out.cell (World.block_lt_of_cell? w _ hx574_0)).trans hx574_0
          replace p574 := eq_true p574
          replace q574 := eq_true q574
          have hcz17_0 : wr.cell? ⟨gb572, 0, none⟩ = some (.int .i64 a0_0) := (zKc BK572.out 0).trans rfl
          have hcz17_1 : wr.cell? ⟨gb572, 1, none⟩ = some (.slice A0_1 l0_1.length c0_1) := (zKc BK572.out 1).trans rfl
          have hfz17_0 := zKf BK572.out 0
          have hfz17_1 := zKf BK572.out 1
          obtain ⟨i018, hi018, _, hsz18, _⟩ := info_parts info3
          obtain ⟨hcut18, hA18, hC18⟩ := print_take_of (P := Try.prog) (Value.int .i64) 0 33 3 .i64 Try.underlying33 hi018 hsz18 (some ad573) c1 l1 x7_1 (of_decide_eq_true (by assumption)) (of_decide_eq_true (by assumption)) HC1.out
          have HR575 := zMk (Kd.C_of_reads (h1 := fun _ => rfl) (hA18 _ (Kd.reads_of_C HR1.out)))
          have HC575 := zMk hC18
          clear hA18 hC18 hi018 hsz18
          have p576 : 0 ≤ (x7_1 : Int) := of_decide_eq_true (by assumption)
          have q576 : x7_1 < (l1.length : Int) := of_decide_eq_true (by assumption)
          obtain ⟨ad576, e576, hx576_0⟩ := zAi HR1.out x7_1 p576 q576
          obtain rfl : ad573 = ad576 := (by injection e576)
          replace hx576_0 := (HB.out.cell (World.block_lt_of_cell? w _ hx576_0)).trans hx576_0
          replace p576 := eq_true p576
          replace q576 := eq_true q576
          go_wp2_with (first | (go_at_call 31; (with_reducible refine (filigreeref04_Weight.has_len k1 _ _ (l1.take (x7_1 : Int).toNat) (rd l1 x7_1) false _ _ (filigreeref04_Weight.take_len c10b1) ?side1 ?side2 A11.out).mono ?_); (case side1 => repeat (first | exact (Kd.C_below HR575.out HB.out) | (with_reducible refine zCa ?_ _) | (with_reducible refine zCn ?_ _) | (with_reducible refine zCd ?_))); (case side2 => exact HC575.out); rintro e w' ⟨rfl, ⟨nd, rfl⟩⟩; (try first | exact ⟨rfl, _, World.drewN_drewN _ _ _⟩ | exact ⟨rfl, _, Eq.trans (World.drewN_drewN _ _ _) (congrArg (World.drewN _) (Nat.add_assoc _ _ _))⟩); have p578 : 0 ≤ (x7_1 : Int) := of_decide_eq_true (by assumption); have q578 : x7_1 < (l1.length : Int) := of_decide_eq_true (by assumption); obtain ⟨ad578, e578, hx578_0⟩ := zAi HR1.out x7_1 p578 q578; obtain rfl : ad573 = ad578 := (by injection e578); replace hx578_0 := (HB.out.cell (World.block_lt_of_cell? w _ hx578_0)).trans hx578_0; replace p578 := eq_true p578; replace q578 := eq_true q578; have p579 : 0 ≤ ((rd l1 x7_1) : Int) := of_decide_eq_true (by assumption); have q579 : (rd l1 x7_1) < (l0_1.length : Int) := of_decide_eq_true (by assumption); obtain ⟨ad579, e579, hx579_0, hx579_1, hx579_2⟩ := at_T36 HR0_1.out (rd l1 x7_1) p579 q579; cases e579; replace hx579_0 := (HB.out.cell (World.block_lt_of_cell? w _ hx579_0)).trans hx579_0; replace hx579_1 := (HB.out.cell (World.block_lt_of_cell? w _ hx579_1)).trans hx579_1; replace hx579_2 := (HB.out.cell (World.block_lt_of_cell? w _ hx579_2)).trans hx579_2; replace p579 := eq_true p579; replace q579 := eq_true q579))
          repeat (go_quiet (first | (go_at_call 31; (with_reducible refine (filigreeref04_Weight.has_len k1 _ _ (l1.take (x7_1 : Int).toNat) (rd l1 x7_1) false _ _ (filigreeref04_Weight.take_len c10b1) ?side1 ?side2 A11.out).mono ?_); (case side1 => repeat (first | exact (Kd.C_below HR575.out HB.out) | (with_reducible refine zCa ?_ _) | (with_reducible refine zCn ?_ _) | (with_reducible refine zCd ?_))); (case side2 => exact HC575.out); rintro e w' ⟨rfl, ⟨nd, rfl⟩⟩; (try first | exact ⟨rfl, _, World.drewN_drewN _ _ _⟩ | exact ⟨rfl, _, Eq.trans (World.drewN_drewN _ _ _) (congrArg (World.drewN _) (Nat.add_assoc _ _ _))⟩); have p578 : 0 ≤ (x7_1 : Int) := of_decide_eq_true (by assumption); have q578 : x7_1 < (l1.length : Int) := of_decide_eq_true (by assumption); obtain ⟨ad578, e578, hx578_0⟩ := zAi HR1.out x7_1 p578 q578; obtain rfl : ad573 = ad578 := (by injection e578); replace hx578_0 := (HB.out.cell (World.block_lt_of_cell? w _ hx578_0)).trans hx578_0; replace p578 := eq_true p578; replace q578 := eq_true q578; have p579 : 0 ≤ ((rd l1 x7_1) : Int) := of_decide_eq_true (by assumption); have q579 : (rd l1 x7_1) < (l0_1.length : Int) := of_decide_eq_true (by assumption); obtain ⟨ad579, e579, hx579_0, hx579_1, hx579_2⟩ := at_T36 HR0_1.out (rd l1 x7_1) p579 q579; cases e579; replace hx579_0 := (HB.out.cell (World.block_lt_of_cell? w _ hx579_0)).trans hx579_0; replace hx579_1 := (HB.out.cell (World.block_lt_of_cell? w _ hx579_1)).trans hx579_1; replace hx579_2 := (HB.out.cell (World.block_lt_of_cell? w _ hx579_2)).trans hx579_2; replace p579 := eq_true p579; replace q579 := eq_true q579)); try go_wp2_with (first | (go_at_call 31; (with_reducible refine (filigreeref04_Weight.has_len k1 _ _ (l1.take (x7_1 : Int).toNat) (rd l1 x7_1) false _ _ (filigreeref04_Weight.take_len c10b1) ?side1 ?side2 A11.out).mono ?_); (case side1 => repeat (first | exact (Kd.C_below HR575.out HB.out) | (with_reducible refine zCa ?_ _) | (with_reducible refine zCn ?_ _) | (with_reducible refine zCd ?_))); (case side2 => exact HC575.out); rintro e w' ⟨rfl, ⟨nd, rfl⟩⟩; (try first | exact ⟨rfl, _, World.drewN_drewN _ _ _⟩ | exact ⟨rfl, _, Eq.trans (World.drewN_drewN _ _ _) (congrArg (World.drewN _) (Nat.add_assoc _ _ _))⟩); have p578 : 0 ≤ (x7_1 : Int) := of_decide_eq_true (by assumption); have q578 : x7_1 < (l1.length : Int) := of_decide_eq_true (by assumption); obtain ⟨ad578, e578, hx578_0⟩ := zAi HR1.out x7_1 p578 q578; obtain rfl : ad573 = ad578 := (by injection e578); replace hx578_0 := (HB.out.cell (World.block_lt_of_cell? w _ hx578_0)).trans hx578_0; replace p578 := eq_true p578; replace q578 := eq_true q578; have p579 : 0 ≤ ((rd l1 x7_1) : Int) := of_decide_eq_true (by assumption); have q579 : (rd l1 x7_1) < (l0_1.length : Int) := of_decide_eq_true (by assumption); obtain ⟨ad579, e579, hx579_0, hx579_1, hx579_2⟩ := at_T36 HR0_1.out (rd l1 x7_1) p579 q579; cases e579; replace hx579_0 := (HB.out.cell (World.block_lt_of_cell? w _ hx579_0)).trans hx579_0; replace hx579_1 := (HB.out.cell (World.block_lt_of_cell? w _ hx579_1)).trans hx579_1; replace hx579_2 := (HB.out.cell (World.block_lt_of_cell? w _ hx579_2)).trans hx579_2; replace p579 := eq_true p579; replace q579 := eq_true q579)))
          go_roundg k1
          case measure => have := HK1.out; omega
          case rel => exact ⟨(wrap64 (x6_1 + ((rd_T36 l0_1 (rd l1 x7_1)).f2))), (wrap64 (x7_1 + 1)), (by first | rfl | (simp; done) | (simp [*]; done)), (by first | rfl | (simp; done) | (simp [*]; done)), H', ⟨by have := HK1.out; omega⟩, ⟨by (with_reducible repeat (first | refine zKn ?_ _ | refine zKd ?_ | refine zKa ?_ _)); exact BK572.out⟩, ⟨by exact uT HB.out⟩⟩
  · rw [if_neg c4] at H
    have c4b0 : decide (x7_1 < (l1.length : Int)) = false := decide_eq_false c4
    clear c4
    simp only [Option.some.injEq, Prod.mk.injEq] at H
    obtain ⟨rfl, rfl⟩ := H
    go_wp2
    repeat (go_quiet (fail); try go_wp2)
    go_ret2
    exact ⟨by first | rfl | (simp [errW_none, errW_some] <;> rfl) | (simp [*, errW_none, errW_some] <;> rfl), by exact uT HB.out⟩

def wgt (E : List S36) : List Int → Int → List Int → Int × Int
  | _, w, [] => (w, 0)
  | seen, w, x :: t => if x < 0 then (0, 1) else if x ≥ E.length then (0, 1) else if x ∈ seen then (0, 1) else wgt E (seen ++ [x]) (wrap64 (w + (rd_T36 E x).f2)) t
theorem takeI (l : List Int) (i : Nat) (h : i < l.length) : l.take (i + 1) = l.take i ++ [rd l (i : Int)] := by
  rw [List.take_succ_eq_append_getElem h, rdI_get l i h]
theorem Weight_l0 (n : Int) (E : List S36) (l : List Int) (hm : l.length ≤ 1000000) (d : Nat) : ∀ (k i : Nat) (w : Int) (met : List Bool), l.length - i = d → i ≤ l.length → d + 1 ≤ k → met.length = E.length →
    (∀ j : Nat, j < E.length → met.getD j false = decide ((j : Int) ∈ l.take i)) →
    graph_Weight.l0 k met w l (l.length : Int) i n E = some (wgt E (l.take i) w (l.drop i)) := by
  induction d with
  | zero =>
    intro k i w met hd hi hk hl hmet
    obtain ⟨k, rfl⟩ : ∃ m, k = m + 1 := ⟨k - 1, by omega⟩
    obtain rfl : i = l.length := by omega
    rw [List.drop_length]
    simp only [graph_Weight.l0]
    rw [if_neg (by omega)]
    simp [wgt]
  | succ d ih =>
    intro k i w met hd hi hk hl hmet
    obtain ⟨k, rfl⟩ : ∃ m, k = m + 1 := ⟨k - 1, by omega⟩
    have hlt : i < l.length := by omega
    have hwn : wrap64 ((i : Int) + 1) = ((i + 1 : Nat) : Int) := by rw [w64 (by omega) (by omega)]; omega
    rw [dropI l i hlt]
    simp only [graph_Weight.l0]
    rw [if_pos (by omega), if_pos (by omega), if_pos (by omega)]
    unfold wgt
    by_cases h1 : rd l (i : Int) < 0
    · rw [if_pos h1, if_pos h1]
    rw [if_neg h1, if_neg h1]
    by_cases h2 : rd l (i : Int) ≥ (E.length : Int)
    · rw [if_pos (by omega), if_pos h2]
    obtain ⟨q, hq⟩ : ∃ q : Nat, rd l (i : Int) = q := ⟨(rd l (i : Int)).toNat, by omega⟩
    have hmq := hmet q (by omega)
    have hrq : rdOf false met (rd l (i : Int)) = decide (rd l (i : Int) ∈ l.take i) := by
      unfold rdOf
      rw [hq, zTn]
      exact hmq
    rw [if_neg (by omega), if_neg h2, if_pos (by omega), if_pos (by omega), hrq]
    by_cases h3 : rd l (i : Int) ∈ l.take i
    · rw [if_pos (decide_eq_true h3), if_pos h3]
    rw [if_neg (by simpa using h3), if_neg h3, if_pos (by omega), hwn, ih k (i + 1) _ _ (by omega) (by omega) (by omega) (by rw [List.length_set]; exact hl) ?_, takeI l i hlt]
    intro j hj
    rw [takeI l i hlt, hq, zTn]
    by_cases hjq : j = q
    · subst hjq
      simp [List.getD_eq_getElem?_getD, hl, hj]
    · have : (met.set q true).getD j false = met.getD j false := by
        simp [List.getD_eq_getElem?_getD, Ne.symm hjq]
      rw [this, hmet j hj, decide_eq_decide, List.mem_append]
      constructor
      · exact Or.inl
      · rintro (h | h)
        · exact h
        · simp at h; omega
theorem Weight_eq (k : Nat) (n : Int) (E : List S36) (l : List Int) (hm : l.length ≤ 1000000) (hE : E.length ≤ 1000000) (hk : l.length + E.length + 4 ≤ k) :
    graph_Weight.f k n E l = some (if rightI n E = 0 then wgt E [] 0 l else (0, 1)) := by
  unfold graph_Weight.f
  rw [Right_eq k n E (by omega), zOb]
  by_cases h : rightI n E = 0
  · rw [if_pos h, if_pos h, if_pos (by omega), if_pos (by omega)]
    have := Weight_l0 n E l hm l.length k 0 0 (List.replicate (E.length : Int).toNat false) (by omega) (by omega) (by omega) (by simp) (by intro j hj; simp [List.getD_eq_getElem?_getD, List.getElem?_replicate, hj])
    simpa using this
  · rw [if_neg h, if_neg h]

section
open Go.Sort hiding Below
theorem reps_ints {l : List Int} {inner : List Value} {w : World} {base : Nat} {ok : Nat → Prop} (h : Reps ((Kd.int .i64).M w base ok) 1 l inner) : inner = l.map (.int .i64) := by
  apply List.ext_getElem?
  intro t
  rcases Nat.lt_or_ge t l.length with ht | ht
  · have h2 := h.2 t l[t] (by simp [ht])
    have h3 : ((inner.drop (t * 1)).take 1)[0]? = inner[t]? := by rw [List.getElem?_take_of_lt (by omega), List.getElem?_drop]; simp
    have h4 : (inner.drop (t * 1)).take 1 = [.int .i64 l[t]] := h2
    rw [← h3, h4]
    simp [ht]
  · rw [List.getElem?_eq_none (by rw [h.1]; omega), List.getElem?_eq_none (by simpa using ht)]
theorem ints_reps (l : List Int) {w : World} {base : Nat} {ok : Nat → Prop} : Reps ((Kd.int .i64).M w base ok) 1 l (l.map (.int .i64)) := by
  refine ⟨by simp, fun j p hj => ?_⟩
  have hl : j < l.length := by
    rcases Nat.lt_or_ge j l.length with h | h
    · exact h
    · rw [List.getElem?_eq_none h] at hj; cases hj
  have e : l[j] = p := by rw [List.getElem?_eq_getElem hl] at hj; exact zOi hj
  show _ = _
  rw [List.drop_eq_getElem_cons (by simp; omega)]
  simp [e]
theorem sortI_held {w : World} {g : Nat} {cur : Array Value} {e : TypeId} {l0 : List Int} (hb : w.heap[g]? = some (.cells cur e (0, 0))) (h4 : cur.toList.take l0.length = l0.map (.int .i64)) : Holds (Value.int .i64) w g 0 l0.toArray := by
  intro j hj
  have hj' : j < l0.length := by simpa using hj
  refine ⟨?_, by simp [World.frozen?, hb]⟩
  have h5 : cur.toList[j]? = some (.int .i64 l0[j]) := by
    have h6 : (cur.toList.take l0.length)[j]? = some (.int .i64 l0[j]) := by rw [h4]; simp [hj']
    rwa [List.getElem?_take_of_lt hj'] at h6
  unfold World.cell?
  rw [Nat.zero_add, hb]
  simp only
  rw [← Array.getElem?_toList, h5]
  simp [hj']
theorem sortI_blk {w : World} {g n : Nat} {os : Array Obj} {cur : Array Value} {e : TypeId} (d : Array Int) (hb : w.heap[g]? = some (.cells cur e (0, 0))) :
    (grow (putRow (Value.int .i64) (Sort.ahead w n) g 0 d) os).heap[g]? = some (.cells (putCells (Value.int .i64) 0 d cur) e (0, 0)) := by
  have hg : g < w.heap.size := (Array.getElem?_eq_some_iff.1 hb).1
  rw [heap_grow_old _ _ (by simpa [putRow, mapBlock, Sort.ahead] using hg)]
  simp [putRow, mapBlock, Sort.ahead, Array.getElem?_modify, hb, onCells]
theorem sortI_grown {w : World} {g n : Nat} {os : Array Obj} (d : Array Int) : w.grownBy (grow (putRow (Value.int .i64) (Sort.ahead w n) g 0 d) os) (some g) := by
  refine ⟨rfl, rfl, rfl, by simp [putRow, mapBlock, Sort.ahead], fun k hk hne => ?_⟩
  rw [heap_grow_old _ _ (by simpa [putRow, mapBlock, Sort.ahead] using hk)]
  have : g ≠ k := fun e => hne (by rw [e])
  simp [putRow, mapBlock, Sort.ahead, Array.getElem?_modify, this]
theorem sortI_take (cur : Array Value) (ts : List Int) (h : ts.length ≤ cur.size) : (putCells (Value.int .i64) 0 ts.toArray cur).toList.take ts.length = ts.map (Value.int .i64) := by
  apply List.ext_getElem?
  intro j
  by_cases hj : j < ts.length
  · rw [List.getElem?_take_of_lt hj, Array.getElem?_toList]
    simp [putCells, hj, show j < cur.size by omega]
  · rw [List.getElem?_take_eq_none (by omega), List.getElem?_eq_none (by simp; omega)]
def slices_Sort_int_int.f (l0 : List Int) : Option (List Int) := if l0.length < 4611686018427387904 then some (l0.mergeSort fun x y => decide (x ≤ y)) else none
theorem slices_Sort_int_int.calls (P0_ : Nat → Prop) (u0 : Value) (l0 : List Int) (r : List Int) (w0 w : World) (hB : Below w0.heap.size w0 w) (ho0 : Kd.R (Kd.int .i64) 3 w w0.heap.size P0_ u0 l0) (h : slices_Sort_int_int.f l0 = some r) :
    Calls Try.prog 46 #[u0] w fun e w' => e = .returned (.tuple #[]) ∧ Kd.R (Kd.int .i64) 3 w' w0.heap.size (fun k_ => (P0_ k_ ∨ w.heap.size ≤ k_)) u0 r ∧ Below w0.heap.size w0 w' ∧ Kept w w' (fun k_ => P0_ k_) := by
  unfold slices_Sort_int_int.f at h
  by_cases hl : l0.length < 4611686018427387904
  · rw [if_pos hl] at h
    obtain rfl := zOi h
    obtain ⟨hok, inner, ⟨hlen, ho⟩, hr⟩ := ho0
    rcases ho with ⟨rfl, h0⟩ | ⟨g, cap, cur, rfl, hg, hb, h1, h2, h3, h4⟩
    · have : l0 = [] := List.length_eq_zero_iff.1 h0
      subst this
      refine (Try.slices_Sort_int_none none 0 w).mono ?_
      rintro e w' ⟨rfl, rfl⟩
      refine ⟨rfl, ?_, hB, Kept.refl _ _⟩
      have : (([] : List Int).mergeSort fun x y => decide (x ≤ y)) = [] := by simp
      rw [this]
      exact Kd.R_nil _ _ _ _ _
    · have hblk : g < w.heap.size := (Array.getElem?_eq_some_iff.1 hb).1
      have hin := reps_ints hr
      subst hin
      have hH : Holds (Value.int .i64) w g 0 l0.toArray := by
        intro j hj
        have hj' : j < l0.length := by simpa using hj
        refine ⟨?_, by simp [World.frozen?, hb]⟩
        have h5 : cur.toList[j]? = some (.int .i64 l0[j]) := by
          have h6 : (cur.toList.take (l0.length * 1))[j]? = some (.int .i64 l0[j]) := by
            have h7 : cur.toList.take (l0.length * 1) = l0.map (.int .i64) := h4
            rw [h7]; simp [hj']
          rwa [List.getElem?_take_of_lt (by omega)] at h6
        unfold World.cell?
        rw [Nat.zero_add, hb]
        simp only
        rw [← Array.getElem?_toList, h5]
        simp [hj']
      refine (Try.slices_Sort_int g 0 cap l0 w hH hblk hl).mono ?_
      rintro e w' ⟨rfl, n, os, rfl⟩
      have hsl : (l0.mergeSort fun x y => decide (x ≤ y)).length = l0.length := List.length_mergeSort _
      have hgr : w.grownBy (grow (putRow (Value.int .i64) (Sort.ahead w n) g 0 (l0.mergeSort fun x y => decide (x ≤ y)).toArray) os) (some g) := sortI_grown _
      have hsz : (Kd.int .i64).sz = 1 := rfl
      have hcs : cur.size = cap := by rw [h3, hsz, Nat.mul_one]
      generalize (l0.mergeSort fun x y => decide (x ≤ y)) = m at hsl hgr ⊢
      refine ⟨rfl, ?_, hB.grown hgr hB.size (fun k hk => by cases hk; exact hg), ?_⟩
      · rw [← hsl]
        refine ⟨fun k hk => ?_, m.map (.int .i64), ⟨by rw [List.length_map, hsz, Nat.mul_one], .inr ⟨g, cap, _, rfl, hg, sortI_blk _ hb, by omega, h2, ?_, ?_⟩⟩, ints_reps _⟩
        · have : g = k := by simpa [Value.ownBlock] using hk
          exact .inl (this ▸ hok g (by simp [Value.ownBlock]))
        · rw [hsz, Nat.mul_one]; simp [putCells, hcs]
        · rw [hsz, Nat.mul_one]; exact sortI_take cur m (by omega)
      · exact Kept.of_grown hgr (Kept.refl _ _) (fun k hk => .inl (by cases hk; exact hok g (by simp [Value.ownBlock])))
  · rw [if_neg hl] at h
    cases h
theorem slices_Sort_int_int.row (P0_ : Nat → Prop) (u0 : Value) (l0 : List Int) (base : Nat) (w : World) (ho0 : Kd.R (Kd.int .i64) 3 w base P0_ u0 l0) (hl : l0.length < 4611686018427387904) :
    Calls Try.prog 46 #[u0] w fun e w' => e = .returned (.tuple #[]) ∧ ∃ row, w.grownBy w' row ∧ (∀ k, row = some k → P0_ k ∧ base ≤ k) ∧ Kd.R (Kd.int .i64) 3 w' base P0_ u0 (l0.mergeSort fun x y => decide (x ≤ y)) := by
  obtain ⟨hok, inner, ⟨hlen, ho⟩, hr⟩ := ho0
  rcases ho with ⟨rfl, h0⟩ | ⟨g, cap, cur, rfl, hg, hb, h1, h2, h3, h4⟩
  · have : l0 = [] := List.length_eq_zero_iff.1 h0
    subst this
    refine (Try.slices_Sort_int_none none 0 w).mono ?_
    rintro e w' ⟨rfl, rfl⟩
    have : (([] : List Int).mergeSort fun x y => decide (x ≤ y)) = [] := by simp
    rw [this]
    exact ⟨rfl, none, ⟨rfl, rfl, rfl, Nat.le_refl _, fun _ _ _ => rfl⟩, fun k hk => by (cases hk), Kd.R_nil _ _ _ _ _⟩
  · have hblk : g < w.heap.size := (Array.getElem?_eq_some_iff.1 hb).1
    have hin := reps_ints hr
    subst hin
    have hsz : (Kd.int .i64).sz = 1 := rfl
    have hH : Holds (Value.int .i64) w g 0 l0.toArray := sortI_held hb (by rw [hsz, Nat.mul_one] at h4; exact h4)
    refine (Try.slices_Sort_int g 0 cap l0 w hH hblk hl).mono ?_
    rintro e w' ⟨rfl, n, os, rfl⟩
    have hsl : (l0.mergeSort fun x y => decide (x ≤ y)).length = l0.length := List.length_mergeSort _
    have hcs : cur.size = cap := by rw [h3, hsz, Nat.mul_one]
    generalize (l0.mergeSort fun x y => decide (x ≤ y)) = m at hsl ⊢
    have hP : P0_ g := hok g (by simp [Value.ownBlock])
    refine ⟨rfl, some g, sortI_grown _, fun k hk => by (cases hk; exact ⟨hP, hg⟩), ?_⟩
    rw [← hsl]
    refine ⟨fun k hk => ?_, m.map (.int .i64), ⟨by rw [List.length_map, hsz, Nat.mul_one], .inr ⟨g, cap, _, rfl, hg, sortI_blk _ hb, by omega, h2, ?_, ?_⟩⟩, ints_reps _⟩
    · have : g = k := by simpa [Value.ownBlock] using hk
      exact this ▸ hP
    · rw [hsz, Nat.mul_one]; simp [putCells, hcs]
    · rw [hsz, Nat.mul_one]; exact sortI_take cur m (by omega)
end

end Go.Proofs.Yteicpdkembmilaa.A
