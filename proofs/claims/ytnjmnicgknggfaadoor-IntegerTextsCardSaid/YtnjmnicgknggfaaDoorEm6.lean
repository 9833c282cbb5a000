/- Lemmas for the statement: the walks of the functions that it reaches, and plain laws. -/
import Derived.Test.YtnjmnicgknggfaaDoorEm3
import Derived.Test.YtnjmnicgknggfaaDoorEm4
import Derived.Test.YtnjmnicgknggfaaDoorEm2
import Derived.Test.YtnjmnicgknggfaaDoorEm5
import Derived.Test.YtnjmnicgknggfaaDoorEm1
set_option linter.unusedVariables false
set_option linter.unusedSimpArgs false
namespace Go.Proofs.YtnjmnicgknggfaaDoor.E
open Go Go.RowKit Go.Proofs.YtnjmnicgknggfaaDoorW.PrintWords Go.Proofs.YtnjmnicgknggfaaDoorW.PrintLast Go.Proofs.YtnjmnicgknggfaaDoorW.PrintMore
attribute [local go_sem] max2_int min2_int max_two min_two max_three min_three max_four min_four
open Go.Proofs.YtnjmnicgknggfaaDoorW.PrintWords.Kd renaming R_alloc → zRa, R_drewN → zRn, R_drew → zRd, V_alloc → zVa, V_drewN → zVn, V_drew → zVd, V_below → zVb, C_alloc → zCa, C_drewN → zCn, C_drew → zCd, R_mono → zRm, V_mono → zVm, at_int → zAi, R_elder' → zRe, R_lower → zRl, R_new' → zRw, R_lt → zRt, R_below → zRb, R_base → zRz, R_reads' → zRr, R_slice → zRs, V_elder' → zVe, V_lower → zVl, V_slice → zVs, V_reads' → zVr
open Go.Proofs.YtnjmnicgknggfaaDoorW.PrintWords renaming pw_below_drewN → zBn, below_alloc → zBa, below_drew1 → zBd, below_size → zBs, below_step → zBt, blk_drewN → zKn, blk_drew → zKd, blk_alloc → zKa, blk_below → zKb, blk_cell → zKc, blk_frozen → zKf
open List renaming setIfInBounds_toArray → zSa, set_cons_zero → zSb, set_cons_succ → zSc, length_drop → zLd, length_take → zLt, map_toArray → zMa, map_cons → zMc, map_nil → zMn, length_cons → zLc, length_nil → zLn
open Go.Proofs.YtnjmnicgknggfaaDoorW.PrintWords.Aside0 renaming mk → zMk
open Option renaming bind_eq_some_iff → zBi, bind_some → zOb
open Option.some renaming inj → zOi
open Int renaming toNat_natCast → zTn
/- Texts of whole numbers, written and read. -/
section
open Go.Lib
theorem ext_list (s : ByteArray) (i j : Nat) : (s.extract i j).data.toList = (s.data.toList.drop i).take (j - i) := by
  rw [ByteArray.data_extract, Array.toList_extract, List.extract_eq_take_drop]
theorem toList_data (s : ByteArray) : s.toList = s.data.toList := ByteArray.toList_eq s
/-- A number's text: its sign, its digits. -/
def itext (z : Int) : List UInt8 := if z < 0 then 45 :: decDigits z.natAbs else decDigits z.natAbs
theorem bytes_ext {s t : ByteArray} (h : s.data.toList = t.data.toList) : s = t := ByteArray.ext (Array.toList_inj.1 h)
theorem cat_minus (l : List UInt8) : (⟨#[45]⟩ : ByteArray) ++ bytesOf l = bytesOf (45 :: l) := bytes_ext (by rw [ByteArray.toList_data_append]; rfl)
theorem cat_none (l : List UInt8) : (⟨#[]⟩ : ByteArray) ++ bytesOf l = bytesOf l := bytes_ext (by rw [ByteArray.toList_data_append]; rfl)
theorem natAbs_sg (a : Bool) {v : Int} (h : 0 ≤ v) : (sg a v).natAbs = v.toNat := by cases a <;> simp [sg] <;> omega
theorem digits_le_gen {l : List Int} (hl : Limbs l) (M : Nat) (hM : 10 * l.length + 1 ≤ M) : (decDigits (val l).toNat).length ≤ M := by
  refine dec_len_le M _ (by omega) ?_
  have h1 := val_lt hl
  have h2 := pow_limbs10 l.length
  have h3 : ((10 : Nat) : Int) ^ (10 * l.length) ≤ ((10 : Nat) : Int) ^ M := by
    rw [← Int.natCast_pow, ← Int.natCast_pow]
    exact Int.ofNat_le.2 (Nat.pow_le_pow_right (by omega) (by omega))
  have h4 : ((10 ^ M : Nat) : Int) = ((10 : Nat) : Int) ^ M := Int.natCast_pow ..
  have h5 : val l < ((10 ^ M : Nat) : Int) := by
    rw [h4]
    exact Int.lt_of_lt_of_le h1 (Int.le_trans h2 h3)
  have h0 := val_nonneg hl
  generalize (10 ^ M : Nat) = P at h5 ⊢
  omega
theorem digits_le {l : List Int} (hl : Limbs l) (h : l.length ≤ 600) : (decDigits (val l).toNat).length ≤ 7000 := digits_le_gen hl 7000 (by omega)
theorem itext_f (a : Bool) (x : List Int) (hx : Limbs x) (lx : x.length ≤ 600) (k : Nat) (hk : 300000 ≤ k) : integer_Text.f k a x = some (bytesOf (itext (sg a (val x)))) := by
  obtain ⟨p, q, e, i, l⟩ := norm_int a x hx (by omega)
  have h0 := val_nonneg hx
  have hd := digits_le hx lx
  unfold integer_Text.f
  rw [e, zOb, text_f x hx (by omega) k (by omega)]
  have hn := natAbs_sg a h0
  have hp := i.neg
  unfold itext
  rw [hn]
  by_cases c : sg a (val x) < 0
  · rw [decide_eq_true c] at hp
    subst hp
    rw [if_pos rfl, if_pos c, zOb, if_pos (by rw [bytesOf_size]; omega), cat_minus]
  · rw [decide_eq_false c] at hp
    subst hp
    rw [if_neg Bool.false_ne_true, if_neg c, zOb, if_pos (by rw [bytesOf_size]; omega), cat_none]
theorem ritext_f (a : Bool) (x : List Int) (hx : Limbs x) (lx : x.length ≤ 4) (k : Nat) (hk : 300000 ≤ k) : filigreeref02_Text.f k a x = some (bytesOf (itext (sg a (val x)))) := by
  obtain ⟨p, q, e, i, l⟩ := rnorm_int a x hx (by omega) k (by omega)
  have h0 := val_nonneg hx
  have hd := digits_le i.num.limbs (by omega)
  unfold filigreeref02_Text.f
  rw [e, zOb, rtext_f q i.num.limbs (by omega) k (by omega)]
  have hn : (val q).toNat = (sg a (val x)).natAbs := by rw [i.num.eq]; omega
  have hp := i.neg
  unfold itext
  rw [hn] at hd ⊢
  by_cases c : sg a (val x) < 0
  · rw [decide_eq_true c] at hp
    subst hp
    rw [if_pos rfl, if_pos c, zOb, if_pos (by rw [bytesOf_size]; omega), cat_minus]
  · rw [decide_eq_false c] at hp
    subst hp
    rw [if_neg Bool.false_ne_true, if_neg c, zOb]
/-- The digits of a text, behind a sign. -/
def bare (l : List UInt8) : List UInt8 × Bool := match l with
  | 45 :: m => (m, true)
  | m => (m, false)
theorem bare_minus (m : List UInt8) : bare (45 :: m) = (m, true) := rfl
theorem bare_plain {l : List UInt8} (h : l.getD 0 0 ≠ 45) : bare l = (l, false) := by
  cases l with
  | nil => rfl
  | cons c m =>
    unfold bare
    split
    · rename_i h1
      injection h1 with h2 h3
      subst h2
      exact absurd rfl h
    · rfl
theorem cut_prefix (s : ByteArray) : strings_CutPrefix.f s (⟨#[45]⟩ : ByteArray) = some (bytesOf (bare s.data.toList).1, (bare s.data.toList).2) := by
  have hsz := size_list s
  have h1 : ((⟨#[45]⟩ : ByteArray).size : Int) = 1 := rfl
  unfold strings_CutPrefix.f stringslite_CutPrefix.f stringslite_HasPrefix.f
  rw [h1]
  by_cases c : (s.size : Int) ≥ 1
  · rw [if_pos c, if_pos (by omega), if_pos (by omega), zOb]
    obtain ⟨x, m, hm⟩ : ∃ x m, s.data.toList = x :: m := by
      cases hh : s.data.toList with
      | nil => rw [hh] at hsz; exact absurd (show s.size = 0 from hsz) (by omega)
      | cons x m => exact ⟨x, m, rfl⟩
    have hl : (s.extract 0 ((1 : Int)).toNat).toList = [x] := by rw [toList_data, ext_list, hm]; rfl
    have hr : (⟨#[45]⟩ : ByteArray).toList = [45] := by rw [toList_data]
    rw [hl, hr, hm]
    by_cases h45 : x = 45
    · subst h45
      rw [bare_minus, if_pos (by simp), if_pos (by omega), if_pos (by omega), zOb]
      congr 2
      refine bytes_ext ?_
      rw [ext_list, hm, bytesOf_list]
      rw [hm] at hsz
      show (m.take (s.size - 1)) = m
      exact List.take_of_length_le (by simp at hsz; omega)
    · rw [bare_plain (by simpa using h45), if_neg (by simpa using h45), zOb]
      congr 2
      refine bytes_ext ?_
      rw [bytesOf_list, hm]
  · rw [if_neg c, zOb, if_neg (by decide), zOb]
    have hn : s.data.toList = [] := List.eq_nil_of_length_eq_zero (by omega)
    rw [hn]
    show some (s, false) = some (bytesOf [], false)
    congr 2
    exact bytes_ext hn
/-- A text that is a number's: digits that are one, no sign at nought. -/
def INum (l : List UInt8) : Prop := Numeral (bare l).1 ∧ ((bare l).2 = true → dv (bare l).1 ≠ 0)
def ival (l : List UInt8) : Int := sg (bare l).2 (dv (bare l).1 : Nat)
def IReads (l : List UInt8) (o : Option (Bool × List Int × Int)) : Prop := (INum l → ∃ x y, o = some (x, y, 0) ∧ IsInt x y (ival l) ∧ y.length ≤ 6000) ∧ (¬ INum l → o = some (false, [], 2))
theorem reads_len {l : List UInt8} {r : List Int} (hn : Numeral l) (h : IsNum r (dv l : Nat)) : r.length ≤ l.length := by
  rw [← List.take_length (l := l)] at h
  exact len_of_dv h (fun j hj => getD_digit.2 hn.2.1 j (by omega) hj) (Nat.le_refl _)
theorem num_zero {r : List Int} {v : Nat} (h : IsNum r (v : Int)) : ((r.length : Int) = 0) ↔ v = 0 := by
  constructor
  · intro h0
    have : r = [] := List.eq_nil_of_length_eq_zero (by omega)
    subst this
    have := h.eq
    simp [val] at this
    omega
  · intro h0
    subst h0
    rw [h.unique IsNum.nil]
    rfl
theorem bare_len (l : List UInt8) : (bare l).1.length ≤ l.length := by
  unfold bare
  split
  · simp
  · exact Nat.le_refl _
theorem iparse_f (s : ByteArray) (hl : s.size ≤ 6000) (k : Nat) (hk : 300000 ≤ k) : IReads s.data.toList (integer_Parse.f k s) := by
  have hsz := size_list s
  have hbl := bare_len s.data.toList
  unfold integer_Parse.f
  rw [cut_prefix, zOb]
  have p := parse_f (bytesOf (bare s.data.toList).1) (by rw [bytesOf_size]; omega) k (by omega)
  rw [bytesOf_list] at p
  by_cases hn : Numeral (bare s.data.toList).1
  · obtain ⟨r, e, n⟩ := p.1 hn
    have hrl := reads_len hn n
    rw [e, zOb, if_pos rfl]
    obtain ⟨x, y, e2, i, l2⟩ := signed_f (bare s.data.toList).2 r n.limbs (by omega)
    rw [n.eq] at i
    by_cases hb : (bare s.data.toList).2 = true
    · rw [if_pos hb]
      by_cases hz : dv (bare s.data.toList).1 = 0
      · rw [if_pos ((num_zero n).2 hz)]
        exact ⟨fun h => absurd hz (h.2 hb), fun _ => rfl⟩
      · rw [if_neg (fun h => hz ((num_zero n).1 h)), e2, zOb]
        exact ⟨fun _ => ⟨x, y, rfl, i, by omega⟩, fun h => absurd ⟨hn, fun _ => hz⟩ h⟩
    · rw [if_neg hb, e2, zOb]
      exact ⟨fun _ => ⟨x, y, rfl, i, by omega⟩, fun h => absurd ⟨hn, fun h1 => absurd h1 hb⟩ h⟩
  · rw [p.2 hn, zOb, if_neg (by decide)]
    exact ⟨fun h => absurd h.1 hn, fun _ => rfl⟩
theorem riparse_j1 (b : ByteArray) (neg : Bool) (hl : b.size ≤ 100) (k : Nat) (hk : 300000 ≤ k) :
    (Numeral b.data.toList → (neg = true → dv b.data.toList ≠ 0) → ∃ x y, filigreeref02_Parse.j1 (k + 1) b neg = some (x, y, 0) ∧ IsInt x y (sg neg (dv b.data.toList : Nat)) ∧ y.length ≤ 6000) ∧
    (¬ (Numeral b.data.toList ∧ (neg = true → dv b.data.toList ≠ 0)) → filigreeref02_Parse.j1 (k + 1) b neg = some (false, [], 2)) := by
  have hsz := size_list b
  simp only [filigreeref02_Parse.j1]
  have p := rparse_f b hl k (by omega)
  by_cases hn : Numeral b.data.toList
  · obtain ⟨r, e, n⟩ := p.1 hn
    have hrl := reads_len hn n
    rw [e, zOb, if_pos rfl]
    obtain ⟨x, y, e2, i, l2⟩ := make2_f neg r n.limbs (by omega) k (by omega)
    rw [n.eq] at i
    by_cases hb : neg = true
    · rw [if_pos hb]
      by_cases hz : dv b.data.toList = 0
      · rw [if_pos ((num_zero n).2 hz)]
        exact ⟨fun _ h => absurd hz (h hb), fun _ => rfl⟩
      · rw [if_neg (fun h => hz ((num_zero n).1 h)), e2, zOb]
        exact ⟨fun _ _ => ⟨x, y, rfl, i, by omega⟩, fun h => absurd ⟨hn, fun _ => hz⟩ h⟩
    · rw [if_neg hb, e2, zOb]
      exact ⟨fun _ _ => ⟨x, y, rfl, i, by omega⟩, fun h => absurd ⟨hn, fun h1 => absurd h1 hb⟩ h⟩
  · rw [p.2 hn, zOb, if_neg (by decide)]
    exact ⟨fun h => absurd h hn, fun _ => rfl⟩
theorem riparse_f (s : ByteArray) (hl : s.size ≤ 100) (k : Nat) (hk : 300010 ≤ k) : IReads s.data.toList (filigreeref02_Parse.f k s) := by
  have hsz := size_list s
  obtain ⟨m, rfl⟩ : ∃ m, k = m + 2 := ⟨k - 2, by omega⟩
  have plain : s.data.toList.getD 0 0 ≠ 45 → IReads s.data.toList (filigreeref02_Parse.j0 (m + 2) s false) := fun h => by
    simp only [filigreeref02_Parse.j0, Bool.false_eq_true, if_false]
    have q := riparse_j1 s false hl m (by omega)
    have hb := bare_plain h
    unfold IReads INum ival
    rw [hb]
    exact ⟨fun h1 => q.1 h1.1 h1.2, fun h1 => q.2 h1⟩
  unfold filigreeref02_Parse.f
  by_cases c : (s.size : Int) > 0
  · rw [if_pos c, if_pos c]
    obtain ⟨x, t, hm⟩ : ∃ x t, s.data.toList = x :: t := by
      cases hh : s.data.toList with
      | nil => rw [hh] at hsz; exact absurd (show s.size = 0 from hsz) (by omega)
      | cons x t => exact ⟨x, t, rfl⟩
    have hb := bt_list s 0
    rw [show ((0 : Nat) : Int) = 0 from rfl, hm] at hb
    rw [hb]
    by_cases h45 : x = 45
    · subst h45
      rw [show (((((45 : UInt8) :: t).getD 0 0).toNat : Int) == 45) = true from rfl]
      simp only [filigreeref02_Parse.j0, if_true]
      rw [if_pos (by omega)]
      have hex : (s.extract 1 s.size).data.toList = t := by
        rw [ext_list, hm]
        rw [hm] at hsz
        exact List.take_of_length_le (by simp at hsz; simp; omega)
      have hes : (s.extract 1 s.size).size ≤ 100 := by
        rw [size_list, hex]
        rw [hm] at hsz
        simp at hsz
        omega
      have q := riparse_j1 (s.extract 1 s.size) true hes m (by omega)
      rw [hex] at q
      unfold IReads INum ival
      rw [hm, bare_minus]
      exact ⟨fun h1 => q.1 h1.1 h1.2, fun h1 => q.2 h1⟩
    · have hne : ((((x :: t).getD 0 0).toNat : Int) == 45) = false := by
        refine beq_eq_false_iff_ne.2 fun h => h45 (UInt8.toNat_inj.1 ?_)
        show x.toNat = 45
        have : ((x :: t).getD 0 0) = x := rfl
        rw [this] at h
        omega
      rw [hne]
      exact plain (by rw [hm]; exact h45)
  · rw [if_neg c]
    have hn : s.data.toList = [] := List.eq_nil_of_length_eq_zero (by omega)
    exact plain (by rw [hn]; decide)
theorem IReads.same {l : List UInt8} {o o' : Option (Bool × List Int × Int)} (h : IReads l o) (h' : IReads l o') : o = o' ∧ ∃ x y e, o = some (x, y, e) ∧ y.length ≤ 6000 := by
  by_cases c : INum l
  · obtain ⟨x, y, e, i, l⟩ := h.1 c
    obtain ⟨x', y', e', i', _⟩ := h'.1 c
    obtain ⟨rfl, rfl⟩ := i.unique i'
    exact ⟨e.trans e'.symm, x, y, 0, e, l⟩
  · exact ⟨(h.2 c).trans (h'.2 c).symm, false, [], 2, h.2 c, by simp⟩
end

/-! ### filigreelaw02_IntegerTexts: function 8 -/
def filigreelaw02_IntegerTexts.j0 : Nat → ByteArray → Bool → Bool → List Int → Option (Bool)
  | 0, _, _, _, _ => none
  | k + 1, x1, x17, x1153000, x1153001 => if x17 = true then ((filigreelaw02_alive.f k).bind fun t1153 => (some t1153)) else ((integer_Parse.f k x1).bind fun bt1154 => ((filigreeref02_Parse.f k x1).bind fun bt1160 => ((integer_Text.f k x1153000 x1153001).bind fun t1166 => ((filigreeref02_Text.f k x1153000 x1153001).bind fun t1167 => (if t1166.toList = t1167.toList then ((filigreeref02_Same.f k bt1154.1 bt1154.2.1 bt1160.1 bt1160.2.1).bind fun t1168 => (if t1168 = true then (if bt1154.2.2 = bt1160.2.2 then ((filigreelaw02_alive.f k).bind fun t1169 => (some t1169)) else (some false)) else (some false))) else (some false))))))
def filigreelaw02_IntegerTexts.f (k : Nat) (a0_0 : Bool) (l0_1 : List Int) (a1 : ByteArray) : Option (Bool) := if (l0_1.length : Int) > 4 then (filigreelaw02_IntegerTexts.j0 k a1 true a0_0 l0_1) else (filigreelaw02_IntegerTexts.j0 k a1 (decide ((a1.size : Int) > 40)) a0_0 l0_1)
def filigreelaw02_IntegerTexts.T5 : Bool × List (List Nat × List Nat) := (true, [([], []), ([0], [0]), ([], []), ([2, 1], [2]), ([1, 3], [1, 3]), ([4, 3], [4]), ([5], [5]), ([5], [5]), ([6, 7, 5, 5], [5, 6, 7]), ([5, 8], [5, 8]), ([9, 8], [9]), ([10], [10]), ([10], [10]), ([11, 12, 10], [10, 11, 12]), ([10, 13], [10, 13]), ([14, 10], [14]), ([15, 15], [15]), ([15, 16], [15, 16]), ([17, 16, 0, 1, 2, 3, 4, 5, 6, 7, 8, 9, 10, 11, 12, 13, 14, 15, 16, 17], [17])])
def filigreelaw02_IntegerTexts.B5 : List Nat := [0, 1, 0, 7, 15, 31, 63, 63, 255, 511, 1023, 2047, 2047, 8191, 16383, 32767, 65535, 131071, 262143]
theorem filigreelaw02_IntegerTexts.tab5 : rtab .any (opsOf Tryd.f8 5) = filigreelaw02_IntegerTexts.T5 := by kernel_rfl
theorem filigreelaw02_IntegerTexts.bits5 : waitsOk filigreelaw02_IntegerTexts.T5.2 filigreelaw02_IntegerTexts.B5 = true := by kernel_rfl
set_option maxHeartbeats 8000000 in
set_option maxRecDepth 100000 in
theorem filigreelaw02_IntegerTexts.calls (k : Nat) (a0_0 : Bool) (A0_1 : Option Addr) (c0_1 : Nat) (l0_1 : List Int) (a1 : ByteArray) (r : Bool) (w : World) (hr0_1 : Kd.C (Kd.int .u32) w A0_1 l0_1.length l0_1) (hc0_1 : l0_1.length ≤ c0_1) (ht_ : Tabs w) (h : filigreelaw02_IntegerTexts.f k a0_0 l0_1 a1 = some r) (hr_ : r = true) :
    Calls Tryd.prog 8 #[.agg #[.bool a0_0, .slice A0_1 l0_1.length c0_1], .string a1] w fun e w' => e = .returned (.bool r) ∧ Below w.heap.size w w' := by
  have HTAB := zMk ht_
  clear ht_
  have HRT := zMk hr_
  clear hr_
  have hu24 := Tryd.underlying24
  have HR0_1 := zMk hr0_1
  have HC0_1 := zMk hc0_1
  clear hr0_1 hc0_1
  have HB := zMk (Below.refl w.heap.size w)
  have H : (if (l0_1.length : Int) > 4 then (filigreelaw02_IntegerTexts.j0 k a1 true a0_0 l0_1) else (filigreelaw02_IntegerTexts.j0 k a1 (decide ((a1.size : Int) > 40)) a0_0 l0_1)) = some r := h
  clear h
  have HC3 := zMk H
  clear H
  go_enter Tryd.func8, Tryd.ntmps8
  go_upto_region 1 with (first |  ((with_reducible refine gate_dst (N := 2) rfl ?_); (try (refine gate_guard (by rfl) ?_; dsimp only)); refine box_event ?hg (N := 2) ?hd (cs := #[.bool a0_0, .slice A0_1 l0_1.length c0_1]) (t := 24) ?hr ?_; (case hd => rfl); (case hg => rfl); (case hr => first |  (go_simp; done)|  (go_simp; rfl)|  (go_simp; rw [show ∀ x : Int, IntKind.u32.wrap (IntKind.u8.wrap x) = x % 256 from fun x => (by show (x % 256) % 4294967296 = x % 256; omega)])); intro gb1152 hg w4 hbox hb; have BK1152 := zMk (hbox); have GW1152 := zMk ((by rw [hg]; exact (zBs (by exact uT HB.out)) : w.heap.size ≤ gb1152)); have GE1152 := zMk ((by rw [hg]; exact (zBs (by exact uT HB.out)) : w.heap.size ≤ gb1152)); have IGE1152 := ownGe GE1152.out; replace HB := zMk (zBt (by exact uT HB.out) hb); clear hb hbox hg))
  (try simp only [Act.put, zSa, zSb, zSc])
  go_cut [17] (fun v17 wc => ∃ (kq : Nat) (x17_2 : Bool), v17 = .bool x17_2 ∧ Aside0 (filigreelaw02_IntegerTexts.j0 kq a1 x17_2 a0_0 l0_1 = some r) ∧ Aside0 (kq ≤ k) ∧ Aside0 (wc.heap[gb1152]? = some (.cells #[.bool a0_0, (.slice A0_1 l0_1.length c0_1)] 24 (0, 0))) ∧ Aside0 (Below w.heap.size w wc))
  case first =>
    have H := HC3.out
    clear HC3
    by_cases c5 : (l0_1.length : Int) > 4
    · rw [if_pos c5] at H
      have c5b0 : decide (4 < (l0_1.length : Int)) = true := decide_eq_true c5
      have c5b1 : decide (4 < l0_1.length) = true := decide_eq_true (by omega)
      clear c5
      (first | rw [c5b0] | (simp only [i64_w, i32_w]; rw [c5b0]) | rw [c5b1] | skip)
      have H' := zMk H
      clear H
      have hcz6_0 : w4.cell? ⟨gb1152, 0, none⟩ = some (.bool a0_0) := (zKc BK1152.out 0).trans rfl
      have hcz6_1 : w4.cell? ⟨gb1152, 1, none⟩ = some (.slice A0_1 l0_1.length c0_1) := (zKc BK1152.out 1).trans rfl
      have hfz6_0 := zKf BK1152.out 0
      have hfz6_1 := zKf BK1152.out 1
      go_wp2
      go_meet
      case rel => exact ⟨_, (true), (by first | rfl | (simp; done) | (simp [*]; done)), H', ⟨by first | omega | exact Nat.le_refl _⟩, ⟨by (with_reducible repeat (first | refine zKn ?_ _ | refine zKd ?_ | refine zKa ?_ _)); exact BK1152.out⟩, ⟨by exact uT HB.out⟩⟩
    · rw [if_neg c5] at H
      have c5b0 : decide (4 < (l0_1.length : Int)) = false := decide_eq_false c5
      have c5b1 : decide (4 < l0_1.length) = false := decide_eq_false (by omega)
      clear c5
      (first | rw [c5b0] | (simp only [i64_w, i32_w]; rw [c5b0]) | rw [c5b1] | skip)
      have H' := zMk H
      clear H
      have hcz7_0 : w4.cell? ⟨gb1152, 0, none⟩ = some (.bool a0_0) := (zKc BK1152.out 0).trans rfl
      have hcz7_1 : w4.cell? ⟨gb1152, 1, none⟩ = some (.slice A0_1 l0_1.length c0_1) := (zKc BK1152.out 1).trans rfl
      have hfz7_0 := zKf BK1152.out 0
      have hfz7_1 := zKf BK1152.out 1
      go_wp2
      go_meet
      case rel => exact ⟨_, (decide ((a1.size : Int) > 40)), (by first | rfl | (simp; done) | (simp [*]; done)), H', ⟨by first | omega | exact Nat.le_refl _⟩, ⟨by (with_reducible repeat (first | refine zKn ?_ _ | refine zKd ?_ | refine zKa ?_ _)); exact BK1152.out⟩, ⟨by exact uT HB.out⟩⟩
  case rest =>
    clear HC3
    obtain ⟨kq, x17_2, rfl, HA, HJ2, BK1152, HB⟩ := hcut
    rcases kq with _ | kj2
    · exact absurd HA.out (by simp [filigreelaw02_IntegerTexts.j0])
    have H := HA.out
    clear HA
    simp only [filigreelaw02_IntegerTexts.j0] at H
    by_cases c8 : x17_2 = true
    · subst c8
      have H1 : ((filigreelaw02_alive.f kj2).bind fun t1153 => (some t1153)) = some r := by rw [if_pos rfl] at H; exact H
      clear H
      have H := H1
      clear H1
      replace H := bnd H
      obtain ⟨t1153, A90, H⟩ := H
      have A9 := zMk A90
      clear A90
      obtain rfl := zOi H
      go_wp2_with (first |  ((with_reducible refine gate_callee (f := 11) rfl ?_); refine goesL_ (some 18) rfl rfl Tryd.func11 (by kernel_rfl) rfl #[] rfl (by (try simp only [zMa, zMc, zMn]); first |  done|  rfl|  (simp only [zLd, zLt]; rfl)) ?_; (with_reducible refine (filigreelaw02_alive.calls kj2  t1153 _ (Tabs.stays HTAB.out (by exact uT HB.out)) A9.out HRT.out).mono ?_); rintro e w10 ⟨rfl, hb⟩; refine ⟨_, rfl, ?_⟩; replace BK1152 := zMk (zKb (g := gb1152) (o := .cells #[.bool a0_0, .slice A0_1 l0_1.length c0_1] 24 (0, 0)) (by (with_reducible repeat (first |  refine zKn ?_ _|  refine zKd ?_|  refine zKa ?_ _)); exact BK1152.out) hb); replace HB := zMk (zBt (by exact uT HB.out) hb); (try clear hb); (try clear hb2); (try clear hk); (try clear hi)))
      go_ret
      exact ⟨by first | rfl | (simp [errW_none, errW_some] <;> rfl) | (simp [*, errW_none, errW_some] <;> rfl), by exact uT HB.out⟩
    · replace c8 := Bool.eq_false_iff.mpr c8
      subst c8
      have H1 : ((integer_Parse.f kj2 a1).bind fun bt1154 => ((filigreeref02_Parse.f kj2 a1).bind fun bt1160 => ((integer_Text.f kj2 a0_0 l0_1).bind fun t1166 => ((filigreeref02_Text.f kj2 a0_0 l0_1).bind fun t1167 => (if t1166.toList = t1167.toList then ((filigreeref02_Same.f kj2 bt1154.1 bt1154.2.1 bt1160.1 bt1160.2.1).bind fun t1168 => (if t1168 = true then (if bt1154.2.2 = bt1160.2.2 then ((filigreelaw02_alive.f kj2).bind fun t1169 => (some t1169)) else (some false)) else (some false))) else (some false)))))) = some r := by rw [if_neg (show ¬ (false = true) by decide)] at H; exact H
      clear H
      have H := H1
      clear H1
      replace H := bnd H
      obtain ⟨⟨t1154, t1155, t1158⟩, A110, H⟩ := H
      replace H : ((filigreeref02_Parse.f kj2 a1).bind fun bt1160 => ((integer_Text.f kj2 a0_0 l0_1).bind fun t1166 => ((filigreeref02_Text.f kj2 a0_0 l0_1).bind fun t1167 => (if t1166.toList = t1167.toList then ((filigreeref02_Same.f kj2 t1154 t1155 bt1160.1 bt1160.2.1).bind fun t1168 => (if t1168 = true then (if t1158 = bt1160.2.2 then ((filigreelaw02_alive.f kj2).bind fun t1169 => (some t1169)) else (some false)) else (some false))) else (some false))))) = some r := H
      have A11 := zMk A110
      clear A110
      replace H := bnd H
      obtain ⟨⟨t1160, t1161, t1164⟩, A120, H⟩ := H
      replace H : ((integer_Text.f kj2 a0_0 l0_1).bind fun t1166 => ((filigreeref02_Text.f kj2 a0_0 l0_1).bind fun t1167 => (if t1166.toList = t1167.toList then ((filigreeref02_Same.f kj2 t1154 t1155 t1160 t1161).bind fun t1168 => (if t1168 = true then (if t1158 = t1164 then ((filigreelaw02_alive.f kj2).bind fun t1169 => (some t1169)) else (some false)) else (some false))) else (some false)))) = some r := H
      have A12 := zMk A120
      clear A120
      replace H := bnd H
      obtain ⟨t1166, A130, H⟩ := H
      have A13 := zMk A130
      clear A130
      replace H := bnd H
      obtain ⟨t1167, A140, H⟩ := H
      have A14 := zMk A140
      clear A140
      by_cases c15 : t1166.toList = t1167.toList
      · rw [if_pos c15] at H
        have c15b0 : (t1166.toList == t1167.toList) = true := beq_iff_eq.mpr c15
        have c15b1 : (t1166.toList != t1167.toList) = false := bne_eq_false_iff_eq.mpr c15
        clear c15
        replace H := bnd H
        obtain ⟨t1168, A160, H⟩ := H
        have A16 := zMk A160
        clear A160
        by_cases c17 : t1168 = true
        · subst c17
          have H1 : (if t1158 = t1164 then ((filigreelaw02_alive.f kj2).bind fun t1169 => (some t1169)) else (some false)) = some r := by rw [if_pos rfl] at H; exact H
          clear H
          have H := H1
          clear H1
          by_cases c18 : t1158 = t1164
          · rw [if_pos c18] at H
            have c18b0 : (t1158 == t1164) = true := beq_iff_eq.mpr c18
            have c18b1 : (t1158 != t1164) = false := bne_eq_false_iff_eq.mpr c18
            clear c18
            replace H := bnd H
            obtain ⟨t1169, A190, H⟩ := H
            have A19 := zMk A190
            clear A190
            obtain rfl := zOi H
            try go_wp2_with (first |  ((with_reducible refine gate_callee (f := 27) rfl ?_); refine goesL_ (some 21) rfl rfl Tryd.func27 (by kernel_rfl) rfl #[.string a1] rfl (by (try simp only [zMa, zMc, zMn]); first |  done|  rfl|  (simp only [zLd, zLt]; rfl)) ?_; (with_reducible refine (integer_Parse.calls kj2 a1 t1154 t1155 t1158 _ A11.out).mono ?_); rintro e w20 ⟨v1156, rfl, ho0, hb⟩; refine ⟨_, rfl, ?_⟩; have HO1157 := zMk (zRl ho0 (zBs (by exact uT HB.out))); replace BK1152 := zMk (zKb (g := gb1152) (o := .cells #[.bool a0_0, .slice A0_1 l0_1.length c0_1] 24 (0, 0)) (by (with_reducible repeat (first |  refine zKn ?_ _|  refine zKd ?_|  refine zKa ?_ _)); exact BK1152.out) hb); replace HB := zMk (zBt (by exact uT HB.out) hb); (try clear hb); (try clear hb2); (try clear hk); (try clear hi); (try clear ho0))|  ((with_reducible refine gate_dst (N := 5) rfl ?_); (try (refine gate_guard (by rfl) ?_; dsimp only)); refine box_event ?hg (N := 5) ?hd (cs := #[.bool false, .slice none 0 0]) (t := 24) ?hr ?_; (case hd => rfl); (case hg => rfl); (case hr => first |  (go_simp; done)|  (go_simp; rfl)|  (go_simp; rw [show ∀ x : Int, IntKind.u32.wrap (IntKind.u8.wrap x) = x % 256 from fun x => (by show (x % 256) % 4294967296 = x % 256; omega)])); intro gb1159 hg w21 hbox hb; replace HO1157 := zMk (zRb (by exact uR HO1157.out) hb); have BK1159 := zMk (hbox); have GW1159 := zMk ((by rw [hg]; exact (zBs (by exact uT HB.out)) : w.heap.size ≤ gb1159)); have GE1159 := zMk ((by rw [hg]; exact (zBs (by exact uT HB.out)) : w.heap.size ≤ gb1159)); have IGE1159 := ownGe GE1159.out; replace HB := zMk (zBt (by exact uT HB.out) hb); have NB1152_1159 := zMk ((by rw [hg]; exact Nat.ne_of_lt (blk_lt (g := gb1152) (o := .cells #[.bool a0_0, .slice A0_1 l0_1.length c0_1] 24 (0, 0)) (by (with_reducible repeat (first |  refine zKn ?_ _|  refine zKd ?_|  refine zKa ?_ _)); exact BK1152.out)) : gb1152 ≠ gb1159)); have NB1159_1152 := zMk ((by rw [hg]; exact Nat.ne_of_gt (blk_lt (g := gb1152) (o := .cells #[.bool a0_0, .slice A0_1 l0_1.length c0_1] 24 (0, 0)) (by (with_reducible repeat (first |  refine zKn ?_ _|  refine zKd ?_|  refine zKa ?_ _)); exact BK1152.out)) : gb1159 ≠ gb1152)); replace BK1152 := zMk (zKb (g := gb1152) (o := .cells #[.bool a0_0, .slice A0_1 l0_1.length c0_1] 24 (0, 0)) (by (with_reducible repeat (first |  refine zKn ?_ _|  refine zKd ?_|  refine zKa ?_ _)); exact BK1152.out) hb); clear hb hbox hg; have hnb22 := NB1159_1152.out; have hnc22 := NB1152_1159.out; have hcz23_0 : w21.cell? ⟨gb1159, 0, none⟩ = some (.bool false) := (zKc BK1159.out 0).trans rfl; have hcz23_1 : w21.cell? ⟨gb1159, 1, none⟩ = some (.slice none 0 0) := (zKc BK1159.out 1).trans rfl; have hfz23_0 := zKf BK1159.out 0; have hfz23_1 := zKf BK1159.out 1; obtain ⟨Ao24, co24, eo24⟩ := zRs HO1157.out; subst eo24)|  ((with_reducible refine gate_callee (f := 28) rfl ?_); refine goesL_ (some 26) rfl rfl Tryd.func28 (by kernel_rfl) rfl #[.string a1] rfl (by (try simp only [zMa, zMc, zMn]); first |  done|  rfl|  (simp only [zLd, zLt]; rfl)) ?_; (with_reducible refine (filigreeref02_Parse.calls kj2 a1 t1160 t1161 t1164 _ A12.out).mono ?_); rintro e w25 ⟨v1162, rfl, ho0, hb⟩; refine ⟨_, rfl, ?_⟩; have HO1163 := zMk (zRl (zRw ho0 (zRt (by (with_reducible repeat (first |  apply zRa|  apply zRn|  apply zRd)); exact (zRm (Kd.R_far (p := ⟨gb1159, 1, none⟩) (Kd.R_far (p := ⟨gb1159, 0, none⟩) (Kd.R_types HO1157.out BK1159.out (by decide)) (fun _ hk => hk.2) (.bool t1154)) (fun _ hk => hk.2) (.slice Ao24 t1155.length co24)) (fun _ h_ => h_.1))))) (zBs (by exact uT HB.out))); replace HO1157 := zMk (zRe (by (with_reducible repeat (first |  apply zRa|  apply zRn|  apply zRd)); exact (zRm (Kd.R_far (p := ⟨gb1159, 1, none⟩) (Kd.R_far (p := ⟨gb1159, 0, none⟩) (Kd.R_types HO1157.out BK1159.out (by decide)) (fun _ hk => hk.2) (.bool t1154)) (fun _ hk => hk.2) (.slice Ao24 t1155.length co24)) (fun _ h_ => h_.1))) (zRz ho0) hb); replace BK1152 := zMk (zKb (g := gb1152) (o := .cells #[.bool a0_0, .slice A0_1 l0_1.length c0_1] 24 (0, 0)) (by (with_reducible repeat (first |  refine zKn ?_ _|  refine zKd ?_|  refine zKa ?_ _)); refine blk_far ?_ NB1152_1159.out _; (with_reducible repeat (first |  refine zKn ?_ _|  refine zKd ?_|  refine zKa ?_ _)); refine blk_far ?_ NB1152_1159.out _; (with_reducible repeat (first |  refine zKn ?_ _|  refine zKd ?_|  refine zKa ?_ _)); exact BK1152.out) hb); replace BK1159 := zMk (zKb (g := gb1159) (o := .cells #[.bool t1154, .slice Ao24 t1155.length co24] 24 (0, 0)) (by (with_reducible repeat (first |  refine zKn ?_ _|  refine zKd ?_|  refine zKa ?_ _)); refine blk_put (cs := #[.bool t1154, .slice none 0 0]) ?_ 1 _ rfl; (with_reducible repeat (first |  refine zKn ?_ _|  refine zKd ?_|  refine zKa ?_ _)); refine blk_put (cs := #[.bool false, .slice none 0 0]) ?_ 0 _ rfl; (with_reducible repeat (first |  refine zKn ?_ _|  refine zKd ?_|  refine zKa ?_ _)); exact BK1159.out) hb); replace HB := zMk (zBt (by exact uT HB.out) hb); (try clear hb); (try clear hb2); (try clear hk); (try clear hi); (try clear ho0))|  ((with_reducible refine gate_dst (N := 7) rfl ?_); (try (refine gate_guard (by rfl) ?_; dsimp only)); refine box_event ?hg (N := 7) ?hd (cs := #[.bool false, .slice none 0 0]) (t := 24) ?hr ?_; (case hd => rfl); (case hg => rfl); (case hr => first |  (go_simp; done)|  (go_simp; rfl)|  (go_simp; rw [show ∀ x : Int, IntKind.u32.wrap (IntKind.u8.wrap x) = x % 256 from fun x => (by show (x % 256) % 4294967296 = x % 256; omega)])); intro gb1165 hg w26 hbox hb; replace HO1157 := zMk (zRb (by exact uR HO1157.out) hb); replace HO1163 := zMk (zRb (by exact uR HO1163.out) hb); have BK1165 := zMk (hbox); have GW1165 := zMk ((by rw [hg]; exact (zBs (by exact uT HB.out)) : w.heap.size ≤ gb1165)); have GE1165 := zMk ((by rw [hg]; exact (zBs (by exact uT HB.out)) : w.heap.size ≤ gb1165)); have IGE1165 := ownGe GE1165.out; replace HB := zMk (zBt (by exact uT HB.out) hb); have NB1152_1165 := zMk ((by rw [hg]; exact Nat.ne_of_lt (blk_lt (g := gb1152) (o := .cells #[.bool a0_0, .slice A0_1 l0_1.length c0_1] 24 (0, 0)) (by (with_reducible repeat (first |  refine zKn ?_ _|  refine zKd ?_|  refine zKa ?_ _)); exact BK1152.out)) : gb1152 ≠ gb1165)); have NB1165_1152 := zMk ((by rw [hg]; exact Nat.ne_of_gt (blk_lt (g := gb1152) (o := .cells #[.bool a0_0, .slice A0_1 l0_1.length c0_1] 24 (0, 0)) (by (with_reducible repeat (first |  refine zKn ?_ _|  refine zKd ?_|  refine zKa ?_ _)); exact BK1152.out)) : gb1165 ≠ gb1152)); replace BK1152 := zMk (zKb (g := gb1152) (o := .cells #[.bool a0_0, .slice A0_1 l0_1.length c0_1] 24 (0, 0)) (by (with_reducible repeat (first |  refine zKn ?_ _|  refine zKd ?_|  refine zKa ?_ _)); exact BK1152.out) hb); have NB1159_1165 := zMk ((by rw [hg]; exact Nat.ne_of_lt (blk_lt (g := gb1159) (o := .cells #[.bool t1154, .slice Ao24 t1155.length co24] 24 (0, 0)) (by (with_reducible repeat (first |  refine zKn ?_ _|  refine zKd ?_|  refine zKa ?_ _)); exact BK1159.out)) : gb1159 ≠ gb1165)); have NB1165_1159 := zMk ((by rw [hg]; exact Nat.ne_of_gt (blk_lt (g := gb1159) (o := .cells #[.bool t1154, .slice Ao24 t1155.length co24] 24 (0, 0)) (by (with_reducible repeat (first |  refine zKn ?_ _|  refine zKd ?_|  refine zKa ?_ _)); exact BK1159.out)) : gb1165 ≠ gb1159)); replace BK1159 := zMk (zKb (g := gb1159) (o := .cells #[.bool t1154, .slice Ao24 t1155.length co24] 24 (0, 0)) (by (with_reducible repeat (first |  refine zKn ?_ _|  refine zKd ?_|  refine zKa ?_ _)); exact BK1159.out) hb); clear hb hbox hg; have hnb27 := NB1165_1152.out; have hnc27 := NB1152_1165.out; have hnb28 := NB1165_1159.out; have hnc28 := NB1159_1165.out; have hcz29_0 : w26.cell? ⟨gb1165, 0, none⟩ = some (.bool false) := (zKc BK1165.out 0).trans rfl; have hcz29_1 : w26.cell? ⟨gb1165, 1, none⟩ = some (.slice none 0 0) := (zKc BK1165.out 1).trans rfl; have hfz29_0 := zKf BK1165.out 0; have hfz29_1 := zKf BK1165.out 1; obtain ⟨Ao30, co30, eo30⟩ := zRs HO1163.out; subst eo30))
            have n0_ : Aside0 (Kd.R (Kd.int .u32) 58 ((w26.setCell ⟨gb1165, 0, none⟩ (.bool t1160)).setCell ⟨gb1165, 1, none⟩ (.slice Ao30 t1161.length co30)) w.heap.size (fun k_ => some k_ ≠ (.slice Ao30 t1161.length co30 : Value).ownBlock) (.slice Ao24 t1155.length co24) t1155) := ⟨by (with_reducible repeat (first |  apply zRa|  apply zRn|  apply zRd)); exact zRm (Kd.R_far (p := ⟨gb1165, 1, none⟩) (Kd.R_far (p := ⟨gb1165, 0, none⟩) (Kd.R_types HO1157.out BK1165.out (by decide)) (fun _ hk => hk.2) (.bool t1160)) (fun _ hk => hk.2) (.slice Ao30 t1161.length co30)) (fun _ hk => hk.1.2)⟩
            have n1_ : Aside0 (Kd.R (Kd.int .u32) 58 ((w26.setCell ⟨gb1165, 0, none⟩ (.bool t1160)).setCell ⟨gb1165, 1, none⟩ (.slice Ao30 t1161.length co30)) w.heap.size (fun k_ => some k_ ≠ (.slice Ao24 t1155.length co24 : Value).ownBlock) (.slice Ao30 t1161.length co30) t1161) := ⟨by (with_reducible repeat (first | apply zRa | apply zRn | apply zRd)); exact zRm (Kd.R_far (p := ⟨gb1165, 1, none⟩) (Kd.R_far (p := ⟨gb1165, 0, none⟩) (Kd.R_types HO1163.out BK1165.out (by decide)) (fun _ hk => hk.2) (.bool t1160)) (fun _ hk => hk.2) (.slice Ao30 t1161.length co30)) (fun _ hk => hk.1.2)⟩
            have n2_ : Aside0 (((w26.setCell ⟨gb1165, 0, none⟩ (.bool t1160)).setCell ⟨gb1165, 1, none⟩ (.slice Ao30 t1161.length co30)).heap[gb1152]? = some (.cells #[.bool a0_0, .slice A0_1 l0_1.length c0_1] 24 (0, 0))) := ⟨by (with_reducible repeat (first | refine zKn ?_ _ | refine zKd ?_ | refine zKa ?_ _)); refine blk_far ?_ NB1152_1165.out _; (with_reducible repeat (first | refine zKn ?_ _ | refine zKd ?_ | refine zKa ?_ _)); refine blk_far ?_ NB1152_1165.out _; (with_reducible repeat (first | refine zKn ?_ _ | refine zKd ?_ | refine zKa ?_ _)); exact BK1152.out⟩
            have n3_ : Aside0 (((w26.setCell ⟨gb1165, 0, none⟩ (.bool t1160)).setCell ⟨gb1165, 1, none⟩ (.slice Ao30 t1161.length co30)).heap[gb1159]? = some (.cells #[.bool t1154, .slice Ao24 t1155.length co24] 24 (0, 0))) := ⟨by (with_reducible repeat (first | refine zKn ?_ _ | refine zKd ?_ | refine zKa ?_ _)); refine blk_far ?_ NB1159_1165.out _; (with_reducible repeat (first | refine zKn ?_ _ | refine zKd ?_ | refine zKa ?_ _)); refine blk_far ?_ NB1159_1165.out _; (with_reducible repeat (first | refine zKn ?_ _ | refine zKd ?_ | refine zKa ?_ _)); exact BK1159.out⟩
            have n4_ : Aside0 (((w26.setCell ⟨gb1165, 0, none⟩ (.bool t1160)).setCell ⟨gb1165, 1, none⟩ (.slice Ao30 t1161.length co30)).heap[gb1165]? = some (.cells #[.bool t1160, .slice Ao30 t1161.length co30] 24 (0, 0))) := ⟨by (with_reducible repeat (first | refine zKn ?_ _ | refine zKd ?_ | refine zKa ?_ _)); refine blk_put (cs := #[.bool t1160, .slice none 0 0]) ?_ 1 _ rfl; (with_reducible repeat (first | refine zKn ?_ _ | refine zKd ?_ | refine zKa ?_ _)); refine blk_put (cs := #[.bool false, .slice none 0 0]) ?_ 0 _ rfl; (with_reducible repeat (first | refine zKn ?_ _ | refine zKd ?_ | refine zKa ?_ _)); exact BK1165.out⟩
            have n5_ : Aside0 (Below w.heap.size w ((w26.setCell ⟨gb1165, 0, none⟩ (.bool t1160)).setCell ⟨gb1165, 1, none⟩ (.slice Ao30 t1161.length co30))) := ⟨by exact uT HB.out⟩
            (try clear HO1157)
            (try clear HO1163)
            (try clear BK1152)
            (try clear BK1159)
            (try clear BK1165)
            (try clear HB)
            generalize ((w26.setCell ⟨gb1165, 0, none⟩ (.bool t1160)).setCell ⟨gb1165, 1, none⟩ (.slice Ao30 t1161.length co30)) = w31 at n0_ n1_ n2_ n3_ n4_ n5_ ⊢
            have HO1157 := n0_
            have HO1163 := n1_
            have BK1152 := n2_
            have BK1159 := n3_
            have BK1165 := n4_
            have HB := n5_
            clear n0_ n1_ n2_ n3_ n4_ n5_
            replace HO1157 := zMk (zRd HO1157.out)
            replace HO1163 := zMk (zRd HO1163.out)
            replace BK1152 := zMk (zKd BK1152.out)
            replace BK1159 := zMk (zKd BK1159.out)
            replace BK1165 := zMk (zKd BK1165.out)
            replace HB := zMk (zBd HB.out)
            refine start_ (n := 19) (S := fun w' => w'.cell? ⟨gb1152, 0, none⟩ = some (.bool a0_0) ∧ w'.cell? ⟨gb1152, 1, none⟩ = some (.slice A0_1 l0_1.length c0_1) ∧ w'.cell? ⟨gb1159, 0, none⟩ = some (.bool t1154) ∧ w'.cell? ⟨gb1159, 1, none⟩ = some (.slice Ao24 t1155.length co24) ∧ w'.cell? ⟨gb1165, 0, none⟩ = some (.bool t1160) ∧ w'.cell? ⟨gb1165, 1, none⟩ = some (.slice Ao30 t1161.length co30)) (ds := []) #[false, false, false, false, false, false, false, false, false, false, false, false, false, false, false, false, false, false, false] (by kernel_rfl) rfl rfl ⟨(zKc BK1152.out 0).trans rfl, (zKc BK1152.out 1).trans rfl, (zKc BK1159.out 0).trans rfl, (zKc BK1159.out 1).trans rfl, (zKc BK1165.out 0).trans rfl, (zKc BK1165.out 1).trans rfl⟩ (fun hHeld => ?_); refine with_tabW filigreelaw02_IntegerTexts.tab5 filigreelaw02_IntegerTexts.bits5 (fun HT_ HW_ => ?_)
            generalize w31.drew = w32 at HO1157 HO1163 BK1152 BK1159 BK1165 HB hHeld ⊢
            refine take_ (i := 0) (N := some 29) (v := ?_) (a' := ?_) #[true, false, false, false, false, false, false, false, false, false, false, false, false, false, false, false, false, false, false] rfl rfl (take_ofW HT_.out HW_.out (by kernel_rfl)) (fun _ _ _ h => h) (Or.inl ⟨by rfl, ?_⟩) hHeld ?_ ?_
            rotate_left
            · rintro w' ⟨s0, s1, s2, s3, s4, s5⟩
              go_simp
              with_reducible rfl
            rotate_left
            · simp only [Act.put, zSa, zSb, zSc, i64_w, i32_w]
              rfl
            refine take_ (i := 2) (N := some 31) (v := ?_) (a' := ?_) #[true, false, true, false, false, false, false, false, false, false, false, false, false, false, false, false, false, false, false] rfl rfl (take_ofW HT_.out HW_.out (by kernel_rfl)) (fun _ _ _ h => h) (Or.inl ⟨by rfl, ?_⟩) hHeld ?_ ?_
            rotate_left
            · rintro w' ⟨s0, s1, s2, s3, s4, s5⟩
              go_simp
              with_reducible rfl
            rotate_left
            · simp only [Act.put, zSa, zSb, zSc, i64_w, i32_w]
              rfl
            refine one_ (i := 1) (N := some 30) #[true, true, true, false, false, false, false, false, false, false, false, false, false, false, false, false, false, false, false] rfl rfl (one_of HT_.out (by kernel_rfl)) (by decide) (fun K hK => ?_)
            refine goes_ Tryd.func29 (by kernel_rfl) rfl #[.agg #[.bool a0_0, .slice A0_1 l0_1.length c0_1]] (by rfl) rfl rfl (by (try simp only [zMa, zMc, zMn]); first | done | rfl | (simp only [zLd, zLt]; rfl)) ?_
            with_reducible refine (integer_Text.calls kj2 a0_0 _ _ l0_1 t1166 _ ?side1 ?side2 (Tabs.stays HTAB.out (by exact uT HB.out)) A13.out).mono ?_
            (case side1 => repeat (first | exact (Kd.C_below HR0_1.out HB.out) | (with_reducible refine zCa ?_ _) | (with_reducible refine zCn ?_ _) | (with_reducible refine zCd ?_)))
            (case side2 => exact HC0_1.out)
            rintro e w33 ⟨rfl, hb⟩
            refine ⟨_, rfl, ?_⟩
            replace HO1157 := zMk (zRb (by exact uR HO1157.out) hb)
            replace HO1163 := zMk (zRb (by exact uR HO1163.out) hb)
            replace BK1152 := zMk (zKb (g := gb1152) (o := .cells #[.bool a0_0, .slice A0_1 l0_1.length c0_1] 24 (0, 0)) (by (with_reducible repeat (first | refine zKn ?_ _ | refine zKd ?_ | refine zKa ?_ _)); exact BK1152.out) hb)
            replace BK1159 := zMk (zKb (g := gb1159) (o := .cells #[.bool t1154, .slice Ao24 t1155.length co24] 24 (0, 0)) (by (with_reducible repeat (first | refine zKn ?_ _ | refine zKd ?_ | refine zKa ?_ _)); exact BK1159.out) hb)
            replace BK1165 := zMk (zKb (g := gb1165) (o := .cells #[.bool t1160, .slice Ao30 t1161.length co30] 24 (0, 0)) (by (with_reducible repeat (first | refine zKn ?_ _ | refine zKd ?_ | refine zKa ?_ _)); exact BK1165.out) hb)
            replace HB := zMk (zBt (by exact uT HB.out) hb)
            (try clear hb)
            (try clear hb2)
            (try clear hk)
            (try clear hi)
            refine hK.out _ _ ⟨(zKc BK1152.out 0).trans rfl, (zKc BK1152.out 1).trans rfl, (zKc BK1159.out 0).trans rfl, (zKc BK1159.out 1).trans rfl, (zKc BK1165.out 0).trans rfl, (zKc BK1165.out 1).trans rfl⟩ (fun hHeld => ?_)
            clear hK K
            refine norm_ (a' := ?_) ?_ ?_
            rotate_left
            · show Act.put _ (some 30) _ = _
              simp only [Act.put, zSa, zSb, zSc, i64_w, i32_w]
              rfl
            refine one_ (i := 3) (N := some 32) #[true, true, true, true, false, false, false, false, false, false, false, false, false, false, false, false, false, false, false] rfl rfl (one_of HT_.out (by kernel_rfl)) (by decide) (fun K hK => ?_)
            refine goes_ Tryd.func30 (by kernel_rfl) rfl #[.agg #[.bool a0_0, .slice A0_1 l0_1.length c0_1]] (by rfl) rfl rfl (by (try simp only [zMa, zMc, zMn]); first | done | rfl | (simp only [zLd, zLt]; rfl)) ?_
            with_reducible refine (filigreeref02_Text.calls kj2 a0_0 _ _ l0_1 t1167 _ ?side1 ?side2 A14.out).mono ?_
            (case side1 => repeat (first | exact (Kd.C_below HR0_1.out HB.out) | (with_reducible refine zCa ?_ _) | (with_reducible refine zCn ?_ _) | (with_reducible refine zCd ?_)))
            (case side2 => exact HC0_1.out)
            rintro e w34 ⟨rfl, hb⟩
            refine ⟨_, rfl, ?_⟩
            replace HO1157 := zMk (zRb (by exact uR HO1157.out) hb)
            replace HO1163 := zMk (zRb (by exact uR HO1163.out) hb)
            replace BK1152 := zMk (zKb (g := gb1152) (o := .cells #[.bool a0_0, .slice A0_1 l0_1.length c0_1] 24 (0, 0)) (by (with_reducible repeat (first | refine zKn ?_ _ | refine zKd ?_ | refine zKa ?_ _)); exact BK1152.out) hb)
            replace BK1159 := zMk (zKb (g := gb1159) (o := .cells #[.bool t1154, .slice Ao24 t1155.length co24] 24 (0, 0)) (by (with_reducible repeat (first | refine zKn ?_ _ | refine zKd ?_ | refine zKa ?_ _)); exact BK1159.out) hb)
            replace BK1165 := zMk (zKb (g := gb1165) (o := .cells #[.bool t1160, .slice Ao30 t1161.length co30] 24 (0, 0)) (by (with_reducible repeat (first | refine zKn ?_ _ | refine zKd ?_ | refine zKa ?_ _)); exact BK1165.out) hb)
            replace HB := zMk (zBt (by exact uT HB.out) hb)
            (try clear hb)
            (try clear hb2)
            (try clear hk)
            (try clear hi)
            refine hK.out _ _ ⟨(zKc BK1152.out 0).trans rfl, (zKc BK1152.out 1).trans rfl, (zKc BK1159.out 0).trans rfl, (zKc BK1159.out 1).trans rfl, (zKc BK1165.out 0).trans rfl, (zKc BK1165.out 1).trans rfl⟩ (fun hHeld => ?_)
            clear hK K
            refine norm_ (a' := ?_) ?_ ?_
            rotate_left
            · show Act.put _ (some 32) _ = _
              simp only [Act.put, zSa, zSb, zSc, i64_w, i32_w]
              rfl
            refine pure_ (i := 4) (N := some 33) (v := ?_) (a' := ?_) #[true, true, true, true, true, false, false, false, false, false, false, false, false, false, false, false, false, false, false] rfl rfl (any_of HT_.out (by kernel_rfl)) (fun _ _ _ h => h) (Or.inl ⟨by rfl, ?_⟩) ?_ ?_
            rotate_left
            · intro w'
              go_simp
              with_reducible rfl
            rotate_left
            · simp only [Act.put, zSa, zSb, zSc, i64_w, i32_w]
              rfl
            refine pure_ (i := 5) (N := some 34) (v := ?_) (a' := ?_) #[true, true, true, true, true, true, false, false, false, false, false, false, false, false, false, false, false, false, false] rfl rfl (any_of HT_.out (by kernel_rfl)) (fun _ _ _ h => h) (Or.inl ⟨by rfl, ?_⟩) ?_ ?_
            rotate_left
            · intro w'
              go_simp
              with_reducible rfl
            rotate_left
            · simp only [Act.put, zSa, zSb, zSc, i64_w, i32_w]
              rfl
            refine take_ (i := 6) (N := some 35) (v := ?_) (a' := ?_) #[true, true, true, true, true, true, true, false, false, false, false, false, false, false, false, false, false, false, false] rfl rfl (take_ofW HT_.out HW_.out (by kernel_rfl)) (fun _ _ _ h => h) (Or.inl ⟨by rfl, ?_⟩) hHeld ?_ ?_
            rotate_left
            · rintro w' ⟨s0, s1, s2, s3, s4, s5⟩
              go_simp
              with_reducible rfl
            rotate_left
            · simp only [Act.put, zSa, zSb, zSc, i64_w, i32_w]
              rfl
            refine take_ (i := 7) (N := some 36) (v := ?_) (a' := ?_) #[true, true, true, true, true, true, true, true, false, false, false, false, false, false, false, false, false, false, false] rfl rfl (take_ofW HT_.out HW_.out (by kernel_rfl)) (fun _ _ _ h => h) (Or.inl ⟨by rfl, ?_⟩) hHeld ?_ ?_
            rotate_left
            · rintro w' ⟨s0, s1, s2, s3, s4, s5⟩
              go_simp
              with_reducible rfl
            rotate_left
            · simp only [Act.put, zSa, zSb, zSc, i64_w, i32_w]
              rfl
            refine one_ (i := 8) (N := some 37) #[true, true, true, true, true, true, true, true, true, false, false, false, false, false, false, false, false, false, false] rfl rfl (one_of HT_.out (by kernel_rfl)) (by decide) (fun K hK => ?_)
            refine goes_ Tryd.func16 (by kernel_rfl) rfl #[.agg #[.bool t1154, .slice Ao24 t1155.length co24], .agg #[.bool t1160, .slice Ao30 t1161.length co30]] (by rfl) rfl rfl (by (try simp only [zMa, zMc, zMn]); first | done | rfl | (simp only [zLd, zLt]; rfl)) ?_
            with_reducible refine (filigreeref02_Same.calls kj2 t1154 _ _ t1155 t1160 _ _ t1161 true _ ?side1 ?side2 ?side3 ?side4 A16.out).mono ?_
            (case side1 => exact uC (zRr HO1157.out).2.2)
            (case side2 => exact (zRr HO1157.out).2.1)
            (case side3 => exact uC (zRr HO1163.out).2.2)
            (case side4 => exact (zRr HO1163.out).2.1)
            rintro e w35 ⟨rfl, hb⟩
            refine ⟨_, rfl, ?_⟩
            replace HO1157 := zMk (zRb (by exact uR HO1157.out) hb)
            replace HO1163 := zMk (zRb (by exact uR HO1163.out) hb)
            replace BK1152 := zMk (zKb (g := gb1152) (o := .cells #[.bool a0_0, .slice A0_1 l0_1.length c0_1] 24 (0, 0)) (by (with_reducible repeat (first | refine zKn ?_ _ | refine zKd ?_ | refine zKa ?_ _)); exact BK1152.out) hb)
            replace BK1159 := zMk (zKb (g := gb1159) (o := .cells #[.bool t1154, .slice Ao24 t1155.length co24] 24 (0, 0)) (by (with_reducible repeat (first | refine zKn ?_ _ | refine zKd ?_ | refine zKa ?_ _)); exact BK1159.out) hb)
            replace BK1165 := zMk (zKb (g := gb1165) (o := .cells #[.bool t1160, .slice Ao30 t1161.length co30] 24 (0, 0)) (by (with_reducible repeat (first | refine zKn ?_ _ | refine zKd ?_ | refine zKa ?_ _)); exact BK1165.out) hb)
            replace HB := zMk (zBt (by exact uT HB.out) hb)
            (try clear hb)
            (try clear hb2)
            (try clear hk)
            (try clear hi)
            refine hK.out _ _ ⟨(zKc BK1152.out 0).trans rfl, (zKc BK1152.out 1).trans rfl, (zKc BK1159.out 0).trans rfl, (zKc BK1159.out 1).trans rfl, (zKc BK1165.out 0).trans rfl, (zKc BK1165.out 1).trans rfl⟩ (fun hHeld => ?_)
            clear hK K
            refine norm_ (a' := ?_) ?_ ?_
            rotate_left
            · show Act.put _ (some 37) _ = _
              simp only [Act.put, zSa, zSb, zSc, i64_w, i32_w]
              rfl
            refine pure_ (i := 9) (N := some 38) (v := ?_) (a' := ?_) #[true, true, true, true, true, true, true, true, true, true, false, false, false, false, false, false, false, false, false] rfl rfl (any_of HT_.out (by kernel_rfl)) (fun _ _ _ h => h) (Or.inl ⟨by rfl, ?_⟩) ?_ ?_
            rotate_left
            · intro w'
              go_simp
              with_reducible rfl
            rotate_left
            · simp only [Act.put, zSa, zSb, zSc, i64_w, i32_w]
              rfl
            refine pure_ (i := 10) (N := some 39) (v := ?_) (a' := ?_) #[true, true, true, true, true, true, true, true, true, true, true, false, false, false, false, false, false, false, false] rfl rfl (any_of HT_.out (by kernel_rfl)) (fun _ _ _ h => h) (Or.inl ⟨by rfl, ?_⟩) ?_ ?_
            rotate_left
            · intro w'
              go_simp
              with_reducible rfl
            rotate_left
            · simp only [Act.put, zSa, zSb, zSc, i64_w, i32_w]
              rfl
            refine pure_ (i := 11) (N := some 40) (v := ?_) (a' := ?_) #[true, true, true, true, true, true, true, true, true, true, true, true, false, false, false, false, false, false, false] rfl rfl (any_of HT_.out (by kernel_rfl)) (fun _ _ _ h => h) (Or.inl ⟨by rfl, ?_⟩) ?_ ?_
            rotate_left
            · intro w'
              go_simp
              with_reducible rfl
            rotate_left
            · simp only [Act.put, zSa, zSb, zSc, i64_w, i32_w]
              rfl
            refine pure_ (i := 12) (N := some 41) (v := ?_) (a' := ?_) #[true, true, true, true, true, true, true, true, true, true, true, true, true, false, false, false, false, false, false] rfl rfl (any_of HT_.out (by kernel_rfl)) (fun _ _ _ h => h) (Or.inl ⟨by rfl, ?_⟩) ?_ ?_
            rotate_left
            · intro w'
              go_simp
              with_reducible rfl
            rotate_left
            · simp only [Act.put, zSa, zSb, zSc, i64_w, i32_w]
              rfl
            refine pure_ (i := 13) (N := some 42) (v := ?_) (a' := ?_) #[true, true, true, true, true, true, true, true, true, true, true, true, true, true, false, false, false, false, false] rfl rfl (any_of HT_.out (by kernel_rfl)) (fun _ _ _ h => h) (Or.inl ⟨by rfl, ?_⟩) ?_ ?_
            rotate_left
            · intro w'
              go_simp
              with_reducible rfl
            rotate_left
            · simp only [Act.put, zSa, zSb, zSc, i64_w, i32_w]
              rfl
            refine pure_ (i := 14) (N := some 43) (v := ?_) (a' := ?_) #[true, true, true, true, true, true, true, true, true, true, true, true, true, true, true, false, false, false, false] rfl rfl (any_of HT_.out (by kernel_rfl)) (fun _ _ _ h => h) (Or.inl ⟨by rfl, ?_⟩) ?_ ?_
            rotate_left
            · intro w'
              go_simp
              with_reducible rfl
            rotate_left
            · simp only [Act.put, zSa, zSb, zSc, i64_w, i32_w]
              rfl
            refine pure_ (i := 15) (N := some 44) (v := ?_) (a' := ?_) #[true, true, true, true, true, true, true, true, true, true, true, true, true, true, true, true, false, false, false] rfl rfl (any_of HT_.out (by kernel_rfl)) (fun _ _ _ h => h) (Or.inl ⟨by rfl, ?_⟩) ?_ ?_
            rotate_left
            · intro w'
              go_simp
              with_reducible rfl
            rotate_left
            · simp only [Act.put, zSa, zSb, zSc, i64_w, i32_w]
              rfl
            refine one_ (i := 16) (N := some 45) #[true, true, true, true, true, true, true, true, true, true, true, true, true, true, true, true, true, false, false] rfl rfl (one_of HT_.out (by kernel_rfl)) (by decide) (fun K hK => ?_)
            refine goes_ Tryd.func11 (by kernel_rfl) rfl #[] (by rfl) rfl rfl (by (try simp only [zMa, zMc, zMn]); first | done | rfl | (simp only [zLd, zLt]; rfl)) ?_
            with_reducible refine (filigreelaw02_alive.calls kj2  t1169 _ (Tabs.stays HTAB.out (by exact uT HB.out)) A19.out HRT.out).mono ?_
            rintro e w36 ⟨rfl, hb⟩
            refine ⟨_, rfl, ?_⟩
            replace HO1157 := zMk (zRb (by exact uR HO1157.out) hb)
            replace HO1163 := zMk (zRb (by exact uR HO1163.out) hb)
            replace BK1152 := zMk (zKb (g := gb1152) (o := .cells #[.bool a0_0, .slice A0_1 l0_1.length c0_1] 24 (0, 0)) (by (with_reducible repeat (first | refine zKn ?_ _ | refine zKd ?_ | refine zKa ?_ _)); exact BK1152.out) hb)
            replace BK1159 := zMk (zKb (g := gb1159) (o := .cells #[.bool t1154, .slice Ao24 t1155.length co24] 24 (0, 0)) (by (with_reducible repeat (first | refine zKn ?_ _ | refine zKd ?_ | refine zKa ?_ _)); exact BK1159.out) hb)
            replace BK1165 := zMk (zKb (g := gb1165) (o := .cells #[.bool t1160, .slice Ao30 t1161.length co30] 24 (0, 0)) (by (with_reducible repeat (first | refine zKn ?_ _ | refine zKd ?_ | refine zKa ?_ _)); exact BK1165.out) hb)
            replace HB := zMk (zBt (by exact uT HB.out) hb)
            (try clear hb)
            (try clear hb2)
            (try clear hk)
            (try clear hi)
            refine hK.out _ _ ⟨(zKc BK1152.out 0).trans rfl, (zKc BK1152.out 1).trans rfl, (zKc BK1159.out 0).trans rfl, (zKc BK1159.out 1).trans rfl, (zKc BK1165.out 0).trans rfl, (zKc BK1165.out 1).trans rfl⟩ (fun hHeld => ?_)
            clear hK K
            refine norm_ (a' := ?_) ?_ ?_
            rotate_left
            · show Act.put _ (some 45) _ = _
              simp only [Act.put, zSa, zSb, zSc, i64_w, i32_w]
              rfl
            refine pure_ (i := 17) (N := some 46) (v := ?_) (a' := ?_) #[true, true, true, true, true, true, true, true, true, true, true, true, true, true, true, true, true, true, false] rfl rfl (any_of HT_.out (by kernel_rfl)) (fun _ _ _ h => h) (Or.inl ⟨by rfl, ?_⟩) ?_ ?_
            rotate_left
            · intro w'
              go_simp
              with_reducible rfl
            rotate_left
            · simp only [Act.put, zSa, zSb, zSc, i64_w, i32_w]
              rfl
            refine pure_ (i := 18) (N := some 4) (v := ?_) (a' := ?_) #[true, true, true, true, true, true, true, true, true, true, true, true, true, true, true, true, true, true, true] rfl rfl (any_of HT_.out (by kernel_rfl)) (fun _ _ _ h => h) (Or.inl ⟨by rfl, ?_⟩) ?_ ?_
            rotate_left
            · intro w'
              go_simp
              with_reducible rfl
            rotate_left
            · simp only [Act.put, zSa, zSb, zSc, i64_w, i32_w]
              rfl
            refine done_ (done_of HT_.out (by kernel_rfl)) ?_
            try go_wp2
            go_ret
            exact ⟨by first | rfl | (simp [errW_none, errW_some] <;> rfl) | (simp [*, errW_none, errW_some] <;> rfl), by exact uT HB.out⟩
          · rw [if_neg c18] at H
            have c18b0 : (t1158 == t1164) = false := beq_eq_false_iff_ne.mpr c18
            have c18b1 : (t1158 != t1164) = true := bne_iff_ne.mpr c18
            exact absurd ((zOi H).trans HRT.out) (by decide)
        · replace c17 := Bool.eq_false_iff.mpr c17
          subst c17
          have H1 : (some false) = some r := by rw [if_neg (show ¬ (false = true) by decide)] at H; exact H
          clear H
          have H := H1
          clear H1
          exact absurd ((zOi H).trans HRT.out) (by decide)
      · rw [if_neg c15] at H
        have c15b0 : (t1166.toList == t1167.toList) = false := beq_eq_false_iff_ne.mpr c15
        have c15b1 : (t1166.toList != t1167.toList) = true := bne_iff_ne.mpr c15
        exact absurd ((zOi H).trans HRT.out) (by decide)

/-- What the walk leaves: a statement of plain lists and numbers. -/
def filigreelaw02_IntegerTexts.Pure : Prop := ∀ (a0_0 : Bool) (l0_1 : List Int) (a1 : ByteArray), l0_1.length ≤ maxLen → (∀ x ∈ l0_1, (Lit.int .u32 x).wf = true) → a1.size ≤ 140737488351232 → ∃ k, filigreelaw02_IntegerTexts.f k a0_0 l0_1 a1 = some true
/- The plain law of IntegerTexts. -/
section
open Go.Lib
theorem pure_IntegerTexts : filigreelaw02_IntegerTexts.Pure := by
  intro a x s m1 h1 ms
  have X := limbs_of_wf h1
  obtain ⟨k, hk⟩ : ∃ k : Nat, k = 999999 := ⟨_, rfl⟩
  refine ⟨k + 1, ?_⟩
  unfold filigreelaw02_IntegerTexts.f
  have away : filigreelaw02_IntegerTexts.j0 (k + 1) s true a x = some true := by
    simp only [filigreelaw02_IntegerTexts.j0, if_true]
    rw [alive_f k (by omega)]
    rfl
  by_cases c1 : (x.length : Int) > 4
  · rw [if_pos c1]
    exact away
  · rw [if_neg c1]
    by_cases c2 : (s.size : Int) > 40
    · rw [decide_eq_true c2]
      exact away
    · rw [decide_eq_false c2]
      simp only [filigreelaw02_IntegerTexts.j0, Bool.false_eq_true, if_false]
      obtain ⟨e, p, q, r, e1, hl⟩ := (iparse_f s (by omega) k (by omega)).same (riparse_f s (by omega) k (by omega))
      rw [← e, e1, zOb, zOb, itext_f a x X (by omega) k (by omega), ritext_f a x X (by omega) k (by omega), zOb, zOb, if_pos rfl, isame_f p q (by omega) k (by omega), zOb, if_pos rfl, if_pos rfl, alive_f k (by omega)]
      rfl
end
end Go.Proofs.YtnjmnicgknggfaaDoor.E
