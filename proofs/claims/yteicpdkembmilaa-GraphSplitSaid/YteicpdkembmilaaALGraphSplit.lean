/- GraphSplit: for every input that the given statement speaks of, the law returns true, never panics, and each argument reads behind the call as it read before. No condition beyond the statement's own. -/
import Derived.Test.YteicpdkembmilaaRows
import Derived.Test.YteicpdkembmilaaG6
import Derived.WalkKit
import Derived.ProofKit
import Derived.OpenShut
import Derived.ShutString
import Derived.ChangeOld
import Derived.Below
import Derived.SizedLaws
import Derived.LaidMore
import Derived.Stop.Joined
import Derived.Deep.Strs
import Derived.Deep.Slices
import Derived.Deep.Grids
import Derived.Lib.SmallJoins
import Derived.Test.YteicpdkembmilaaVSized
namespace Go.Proofs.Yteicpdkembmilaa.graphSplit
open Go Go.ChangeShapes Go.WideShapes Go.ChangeAt Go.RowKit
open Go.ChangeMaps (open_string shut_string)
open Go.Proofs.YteicpdkembmilaaW.PrintWords Go.Proofs.YteicpdkembmilaaW.PrintLast Go.Proofs.YteicpdkembmilaaW.PrintMore
set_option linter.unusedVariables false
theorem sized_any {H : Type} {enc : TypeId × Value → H} {W : World} {base : Nat} {spare : Nat → Bool} {held : Bool} {t e : TypeId} {a : Option Addr} {len cap : Nat} {d : DataW H} {ps : List MemPlace} {ts : List TypeId} {ds : List (DataW H)} {j : Nat}
    (hsz : (DataW.weightsEach Try.prog ts ds).all (· ≤ reachBytes) = true) (ht : ts[j]? = some t) (hd : ds[j]? = some d) (hu : Try.prog.underlying t = some (.slice e)) {B : Nat} (hB : Try.prog.bytesOf e = B) (h : DataW.Trod enc Try.prog W base spare held t (.slice a len cap) d ps) : len * B ≤ 140737488351232 := by
  obtain ⟨fuel, hf⟩ := h
  rcases Deep.open_slice hu hf with ⟨hcs, _⟩ | ⟨x, l, c, m, n, D, Pl, hcs, _, hl, _, _, hx, _⟩
  · simp [Value.cells] at hcs
    obtain ⟨rfl, rfl, rfl⟩ := hcs
    simp
  · simp [Value.cells] at hcs
    obtain ⟨rfl, rfl, rfl⟩ := hcs
    obtain ⟨hx, _⟩ := Prod.mk.inj hx
    subst hx
    have z := sized_slice hsz ht hd hu
    rw [hB] at z
    simp only [List.length_map, List.length_range] at z
    exact Nat.le_trans (Nat.mul_le_mul_right B (Nat.le_add_right len _)) z
def IsBools (w : World) (a : Option Addr) (len cap : Nat) (zs : List Bool) : Prop :=
  (a = none ∧ len = 0 ∧ cap = 0 ∧ zs = []) ∨
  ∃ x, a = some x ∧ len ≤ cap ∧ cap ≤ maxLen ∧ zs.length = cap ∧ (∀ i, i < zs.length → w.cell? (x.add i) = some (.bool (zs.getD i false)))
theorem IsBools.ofRow {w : World} {a : Option Addr} {len cap : Nat} {zs : List Bool} (h : IsBools w a len cap zs) : ∃ l : List Bool, len = l.length ∧ Kd.C Kd.bool w a l.length l ∧ l.length ≤ maxLen ∧ l.length ≤ cap := by
  rcases h with ⟨rfl, rfl, rfl, rfl⟩ | ⟨x, rfl, h1, h2, h3, h4⟩
  · exact ⟨[], rfl, ⟨rfl, Nat.zero_le _, fun h => absurd h (by decide)⟩, Nat.zero_le _, Nat.le_refl _⟩
  · have hl : (zs.take len).length = len := by rw [List.length_take]; omega
    refine ⟨zs.take len, hl.symm, Kd.C_of_reads (d := false) (h1 := fun _ => rfl) ⟨rfl, by rw [hl]; unfold maxLen at h2; omega, fun _ => ⟨x, rfl, fun j hj => ?_⟩⟩, by rw [hl]; omega, by rw [hl]; exact h1⟩
    rw [hl] at hj
    rw [h4 j (by omega)]
    congr 2
    simp [List.getD_eq_getElem?_getD, hj]
def IsS36 (w : World) (a : Option Addr) (len cap : Nat) (zs : List A.S36) : Prop := zs.length = len ∧ len ≤ cap ∧ len ≤ maxLen ∧ Kd.C A.k36 w a len zs ∧ ∀ x ∈ zs, (Lit.int .i64 x.f0).wf = true ∧ (Lit.int .i64 x.f1).wf = true ∧ (Lit.int .i64 x.f2).wf = true
theorem IsS36.ofRow {w : World} {a : Option Addr} {len cap : Nat} {zs : List A.S36} (h : IsS36 w a len cap zs) : ∃ l : List A.S36, len = l.length ∧ Kd.C A.k36 w a l.length l ∧ l.length ≤ maxLen ∧ (∀ x ∈ l, (Lit.int .i64 x.f0).wf = true ∧ (Lit.int .i64 x.f1).wf = true ∧ (Lit.int .i64 x.f2).wf = true) ∧ l.length ≤ cap := by
  obtain ⟨rfl, h1, h2, h3, h4⟩ := h
  exact ⟨zs, rfl, h3, h2, h4, h1⟩
theorem cells_S36 {cs : List Value} (h : cs.length = 3) : ∃ u0 u1 u2, cs = [u0, u1, u2] := by
  match cs, h with
  | [u0, u1, u2], _ => exact ⟨u0, u1, u2, rfl⟩
theorem open_S36_22 {H : Type} {enc : TypeId × Value → H} {w : World} {base : Nat} {spare : Nat → Bool} {held : Bool} {fuel : Nat} {a : Option Addr} {len cap : Nat} {x : DataW H × List MemPlace} (h : DataW.trod enc Try.prog w base spare held fuel 22 [.slice a len cap] = some x) : ∃ zs, IsS36 w a len cap zs := by
  rcases Deep.open_slice Try.underlying22 h with ⟨h0, _⟩ | ⟨ad, len', cap', m, n, D, Pl, hcs, hb, hl, hm, hmm, hx, hi⟩
  · simp at h0
    obtain ⟨rfl, rfl, rfl⟩ := h0
    exact ⟨[], rfl, Nat.le_refl _, Nat.zero_le _, ⟨rfl, Nat.zero_le _, fun h => absurd h (by decide)⟩, fun x h => by cases h⟩
  · simp at hcs
    obtain ⟨rfl, rfl, rfl⟩ := hcs
    have hlm : len ≤ m := by rw [hmm]; split <;> omega
    have hel : ∀ i, i < len → ∃ s : A.S36, w.cell? (ad.add (i * 3 + 0)) = some (.int .i64 s.f0) ∧ w.cell? (ad.add (i * 3 + 1)) = some (.int .i64 s.f1) ∧ w.cell? (ad.add (i * 3 + 2)) = some (.int .i64 s.f2) ∧ (Lit.int .i64 s.f0).wf = true ∧ (Lit.int .i64 s.f1).wf = true ∧ (Lit.int .i64 s.f2).wf = true := by
      intro i hi'
      obtain ⟨cs', hc, ht'⟩ := hi i (by omega)
      have hC : Try.prog.cellsOf 36 = 3 := by kernel_rfl
      rw [hC] at hc
      obtain ⟨_, hcl, hat⟩ := World.cells?_some hc
      obtain ⟨y0, y1, y2, n', _, _, g0, g1, g2⟩ := Deep.trod_struct3 Try.underlying36 ht'
      obtain ⟨n0, e0, _, w0⟩ := DataW.trod_int Try.underlying3 g0
      have c0 := hat 0 (by decide)
      obtain ⟨n1, e1, _, w1⟩ := DataW.trod_int Try.underlying3 g1
      have c1 := hat 1 (by decide)
      obtain ⟨n2, e2, _, w2⟩ := DataW.trod_int Try.underlying2 g2
      have c2 := hat 2 (by decide)
      obtain ⟨u0, u1, u2, rfl⟩ := cells_S36 hcl
      clear hcl
      have z0 : Try.prog.cellsOf 3 = 1 := by kernel_rfl
      obtain rfl : u0 = .int .i64 n0 := by simpa [z0] using e0
      have z1 : Try.prog.cellsOf 3 = 1 := by kernel_rfl
      obtain rfl : u1 = .int .i64 n1 := by simpa [z1] using e1
      have z2 : Try.prog.cellsOf 2 = 1 := by kernel_rfl
      obtain rfl : u2 = .int .i64 n2 := by simpa [z2] using e2
      exact ⟨⟨n0, n1, n2⟩, (by rw [← Deep.add_add]; exact c0), (by rw [← Deep.add_add]; exact c1), (by rw [← Deep.add_add]; exact c2), w0, w1, w2⟩
    have hex : ∀ d, d ≤ len → ∃ zs : List A.S36, zs.length = d ∧ ∀ i s, zs[i]? = some s → w.cell? (ad.add (i * 3 + 0)) = some (.int .i64 s.f0) ∧ w.cell? (ad.add (i * 3 + 1)) = some (.int .i64 s.f1) ∧ w.cell? (ad.add (i * 3 + 2)) = some (.int .i64 s.f2) ∧ (Lit.int .i64 s.f0).wf = true ∧ (Lit.int .i64 s.f1).wf = true ∧ (Lit.int .i64 s.f2).wf = true := by
      intro d
      induction d with
      | zero => intro _; exact ⟨[], rfl, fun i s h => by simp at h⟩
      | succ d ih =>
        intro hd
        obtain ⟨zs, hz, hzs⟩ := ih (by omega)
        obtain ⟨s, hs⟩ := hel d (by omega)
        refine ⟨zs ++ [s], by simp [hz], fun i t ht => ?_⟩
        rcases Nat.lt_or_ge i zs.length with h1 | h1
        · rw [List.getElem?_append_left h1] at ht; exact hzs i t ht
        · rw [List.getElem?_append_right h1] at ht
          rcases Nat.eq_zero_or_pos (i - zs.length) with h2 | h2
          · rw [h2] at ht
            obtain rfl : s = t := by simpa using ht
            obtain rfl : i = d := by omega
            exact hs
          · rw [List.getElem?_eq_none (by simp; omega)] at ht; cases ht
    obtain ⟨zs, hz, hzs⟩ := hex len (Nat.le_refl _)
    refine ⟨zs, hz, hl, Nat.le_trans hl hm, ⟨hz, by unfold maxLen at hm; omega, fun _ => ⟨ad, rfl, fun j p hp => ?_⟩⟩, fun x hx => ?_⟩
    · obtain ⟨c0, c1, c2, _⟩ := hzs j p hp
      refine ⟨[.int .i64 p.f0, .int .i64 p.f1, .int .i64 p.f2], rfl, A.k36_mk w p, fun i u hu => ?_⟩
      match i, hu with
      | 0, hu => rw [← Option.some.inj hu]; exact c0
      | 1, hu => rw [← Option.some.inj hu]; exact c1
      | 2, hu => rw [← Option.some.inj hu]; exact c2
      | i + 3, hu => simp at hu
    · obtain ⟨i, hi'⟩ := List.getElem?_of_mem hx
      have := hzs i x hi'
      exact ⟨this.2.2.2.1, this.2.2.2.2.1, this.2.2.2.2.2⟩
theorem walk (P : A.filigreelaw04_GraphSplit.Pure) (a0_0 : Int) (a0_1 : Option Addr) (len0_1 cap0_1 : Nat) (z0_1 : List A.S36) (a1 : Option Addr) (len1 cap1 : Nat) (z1 : List Bool) (w : World) (w0_0 : (Lit.int .i64 a0_0).wf = true) (w0_1 : IsS36 w a0_1 len0_1 cap0_1 z0_1) (w1 : IsBools w a1 len1 cap1 z1) (y1 : len1 * 1 ≤ 140737488351232) :
    Calls Try.prog 8 #[.agg #[.int .i64 a0_0, .slice a0_1 len0_1 cap0_1], .slice a1 len1 cap1] w fun e w' => e = .returned (.bool true) ∧ Below w.heap.size w w' := by
  obtain ⟨l0_1, rfl, hr0_1, hm0_1, hw0_1, hc0_1⟩ := IsS36.ofRow w0_1
  obtain ⟨l1, rfl, hr1, hm1, hc1⟩ := IsBools.ofRow w1
  obtain ⟨k, h⟩ := P a0_0 l0_1 l1 w0_0 hm0_1 hw0_1 hm1 y1
  refine (A.filigreelaw04_GraphSplit.calls k a0_0 a0_1 cap0_1 l0_1 a1 cap1 l1 true w hr0_1 hc0_1 hr1 hc1 h rfl).mono ?_
  rintro e w' ⟨rfl, hd⟩
  exact ⟨rfl, hd⟩
theorem own : ownKnob Try.prog.godebug = none := by kernel_rfl
theorem laidOut : laidOutB Try.prog = true := by kernel_rfl
def IsRow (k : IntKind) (w : World) (a : Option Addr) (len cap : Nat) (zs : List Int) : Prop :=
  (a = none ∧ len = 0 ∧ cap = 0 ∧ zs = []) ∨
  ∃ x, a = some x ∧ len ≤ cap ∧ cap ≤ maxLen ∧ zs.length = cap ∧ (∀ i, i < zs.length → w.cell? (x.add i) = some (.int k (zs.getD i 0))) ∧ ∀ n ∈ zs, (Lit.int k n).wf = true
set_option maxRecDepth 100000 in
theorem lifted (os : Os) (started : os.Started) (H : Type) (enc : TypeId × Value → H) :
    ReturnsInHanded {} Try.checked os 8 .any (Rows.graphSplitSpec.pre6 enc Try.prog Try.f8 Rows.graphSplitRow.domain false) (Rows.graphSplitSpec.post enc Try.prog Try.f8 false true false false) := by
  refine returnsInHanded_of_change_sized (C := Try.checked) own started (by kernel_rfl) Try.func8
    (ChangeSpec.witness6 (enc := enc) (C := Try.checked) false ⟨#[], #[.agg #[.int .i64 0, .slice none 0 0], .slice none 0 0], []⟩ 8 (by kernel_rfl) (by kernel_rfl) (by kernel_rfl) (by kernel_rfl)) ?_
  intro W base args ds gs before hval0 hW hcnd hsz0 _
  have hsz : (DataW.weightsEach Try.prog (Try.f8.params.toList ++ Rows.graphSplitSpec.plain.varTypes Try.prog) (ds ++ gs)).all (· ≤ reachBytes) = true := hsz0
  have hval : ∀ (j : Nat) t v, Try.f8.params[j]? = some t → args[j]? = some v → Value.okWide Try.prog W .any base t v := hval0
  have hW' := hW
  obtain ⟨p, q, hA0, hV, rfl, hfz, hnd⟩ := hW
  have hA : DataW.TrodAll enc Try.prog W 0 (fun _ => true) true Try.f8.params.toList args.toList ds p := hA0
  rw [Try.params8] at hA hval hsz
  obtain ⟨v0, vs0, d0, ds0, p0, q0, hargs, rfl, rfl, h0, r0⟩ := trodAll_cons hA
  obtain ⟨v1, vs1, d1, ds1, p1, q1, rfl, rfl, rfl, h1, r1⟩ := trodAll_cons r0
  obtain ⟨rfl, rfl, rfl⟩ := trodAll_nil r1
  obtain rfl : args = #[v0, v1] := by cases args; simp_all
  obtain ⟨rfl, rfl⟩ := trodVars_none hV
  have k0 := h0
  have lt0 : ∀ x ∈ p0, x.block < W.heap.size := by obtain ⟨m, hm⟩ := k0; exact DataW.trod_lt m _ _ _ hm
  obtain ⟨v0_0, v0_1, y0_0, y0_1, n0_, rfl, rfl, rfl, g0_0, g0_1⟩ := Go.Joins.open_agg2 Try.underlying24 (by kernel_rfl) (by kernel_rfl) (hval 0 24 v0 rfl rfl) h0
  obtain ⟨a0_0, e0_0, _, w0_0⟩ := DataW.trod_int Try.underlying3 g0_0
  obtain rfl : v0_0 = .int .i64 a0_0 := by simpa using e0_0
  obtain ⟨a0_1, len0_1, cap0_1, e0_1⟩ := Go.Joins.slice_form Try.underlying22 g0_1
  obtain rfl : v0_1 = .slice a0_1 len0_1 cap0_1 := by simpa using e0_1
  obtain ⟨z0_1, w0_1⟩ : ∃ zs, IsS36 W a0_1 len0_1 cap0_1 zs := by
    exact open_S36_22 g0_1
  obtain ⟨a1, len1, cap1, rfl⟩ := okWide_slice Try.underlying41 (hval 1 41 v1 rfl rfl)
  have k1 := h1
  have lt1 : ∀ x ∈ p1, x.block < W.heap.size := by obtain ⟨m, hm⟩ := k1; exact DataW.trod_lt m _ _ _ hm
  obtain ⟨z1, w1⟩ : ∃ zs, IsBools W a1 len1 cap1 zs := by
    obtain ⟨fuel, hf⟩ := h1
    rcases Deep.open_bools Try.underlying41 Try.underlying4 (by kernel_rfl) hf with ⟨hcs, _⟩ | ⟨x, l, c, B, hcs, _, hl, hm, _, hcell⟩
    · simp [Value.cells] at hcs
      obtain ⟨rfl, rfl, rfl⟩ := hcs
      exact ⟨[], .inl ⟨rfl, rfl, rfl, rfl⟩⟩
    · simp [Value.cells] at hcs
      obtain ⟨rfl, rfl, rfl⟩ := hcs
      exact ⟨(List.range cap1).map B, .inr ⟨_, rfl, hl, hm, by simp, fun i hi => by rw [hcell i (by simpa using hi)]; simp [List.getD, show i < cap1 by simpa using hi]⟩⟩
  have y1 : len1 * 1 ≤ 140737488351232 := sized_any hsz (j := 1) (t := 41) rfl rfl Try.underlying41 (by kernel_rfl) h1
  clear hA0 hval0 hsz0 hsz
  refine (walk A.pure_GraphSplit a0_0 a0_1 len0_1 cap0_1 z0_1 a1 len1 cap1 z1 W w0_0 w0_1 w1 y1).mono fun e W' ⟨he, bel⟩ => ?_
  subst he
  exact ⟨_, rfl, _, _, _, [], _, [], hW', trodAll_mk1 (shut_bool Try.underlying4 _), (trodAll_cons_mk (Below.trod laidOut (by kernel_rfl) (of_decide_eq_true (by kernel_rfl)) k0 bel lt0) (trodAll_cons_mk (Below.trod laidOut (by kernel_rfl) (of_decide_eq_true (by kernel_rfl)) k1 bel lt1) trodAll_mk0)), rfl, bel.frame _, fun h => by cases h⟩
theorem over : Rows.graphSplitRow.holds Try.pinned (OpenSpec.ofChange Rows.graphSplitSpec) :=
  OpenClaim.holds_of_wide 8 Try.f8 rfl rfl rfl rfl rfl rfl rfl ⟨rfl, rfl, rfl, rfl, rfl⟩ rfl rfl rfl rfl rfl (by kernel_rfl) Try.func8 (by kernel_rfl)
    (of_decide_eq_true (by kernel_rfl)) (by unfold Func.isWrapper; first | (rw [if_pos (by decide +kernel)]; kernel_rfl) | (rw [if_neg (by decide +kernel)]; exact ⟨rfl, rfl⟩))
    (fun os started H enc _ => lifted os started H enc)
end Go.Proofs.Yteicpdkembmilaa.graphSplit
namespace Go.Proofs.Yteicpdkembmilaa
/-- The row, under a short name, for the claim. -/
theorem graphSplit_holds : Rows.GraphSplitSaid := graphSplit.over
#print axioms graphSplit_holds
end Go.Proofs.Yteicpdkembmilaa
