/- PartsCuts: for every input that the given statement speaks of, the law returns true, never panics, and each argument reads behind the call as it read before. No condition beyond the statement's own. -/
import Derived.Test.YtkiemlbobcklpaaRows
import Derived.Test.YtkiemlbobcklpaaG6
import Derived.WalkKit
import Derived.ProofKit
import Derived.OpenShut
import Derived.ShutString
import Derived.ChangeOld
import Derived.Below
import Derived.SizedLaws
import Derived.LaidMore
import Derived.Stop.Joined
import Derived.Deep.Strs
import Derived.Deep.Slices
import Derived.Deep.Grids
import Derived.Lib.SmallJoins
import Derived.Test.YtkiemlbobcklpaaVSized
namespace Go.Proofs.Ytkiemlbobcklpaa.partsCuts
open Go Go.ChangeShapes Go.WideShapes Go.ChangeAt Go.RowKit
open Go.ChangeMaps (open_string shut_string)
open Go.Proofs.YtkiemlbobcklpaaW.PrintWords Go.Proofs.YtkiemlbobcklpaaW.PrintLast Go.Proofs.YtkiemlbobcklpaaW.PrintMore
set_option linter.unusedVariables false
theorem sized_any {H : Type} {enc : TypeId × Value → H} {W : World} {base : Nat} {spare : Nat → Bool} {held : Bool} {t e : TypeId} {a : Option Addr} {len cap : Nat} {d : DataW H} {ps : List MemPlace} {ts : List TypeId} {ds : List (DataW H)} {j : Nat}
    (hsz : (DataW.weightsEach Try.prog ts ds).all (· ≤ reachBytes) = true) (ht : ts[j]? = some t) (hd : ds[j]? = some d) (hu : Try.prog.underlying t = some (.slice e)) {B : Nat} (hB : Try.prog.bytesOf e = B) (h : DataW.Trod enc Try.prog W base spare held t (.slice a len cap) d ps) : len * B ≤ 140737488351232 := by
  obtain ⟨fuel, hf⟩ := h
  rcases Deep.open_slice hu hf with ⟨hcs, _⟩ | ⟨x, l, c, m, n, D, Pl, hcs, _, hl, _, _, hx, _⟩
  · simp [Value.cells] at hcs
    obtain ⟨rfl, rfl, rfl⟩ := hcs
    simp
  · simp [Value.cells] at hcs
    obtain ⟨rfl, rfl, rfl⟩ := hcs
    obtain ⟨hx, _⟩ := Prod.mk.inj hx
    subst hx
    have z := sized_slice hsz ht hd hu
    rw [hB] at z
    simp only [List.length_map, List.length_range] at z
    exact Nat.le_trans (Nat.mul_le_mul_right B (Nat.le_add_right len _)) z
def IsS43 (w : World) (a : Option Addr) (len cap : Nat) (zs : List A.S43) : Prop := zs.length = len ∧ len ≤ cap ∧ len ≤ maxLen ∧ Kd.C A.k43 w a len zs ∧ ∀ x ∈ zs, (Lit.int .i64 x.f0).wf = true ∧ (Lit.int .i64 x.f1).wf = true ∧ (Lit.int .i64 x.f2).wf = true
theorem IsS43.ofRow {w : World} {a : Option Addr} {len cap : Nat} {zs : List A.S43} (h : IsS43 w a len cap zs) : ∃ l : List A.S43, len = l.length ∧ Kd.C A.k43 w a l.length l ∧ l.length ≤ maxLen ∧ (∀ x ∈ l, (Lit.int .i64 x.f0).wf = true ∧ (Lit.int .i64 x.f1).wf = true ∧ (Lit.int .i64 x.f2).wf = true) ∧ l.length ≤ cap := by
  obtain ⟨rfl, h1, h2, h3, h4⟩ := h
  exact ⟨zs, rfl, h3, h2, h4, h1⟩
theorem cells_S43 {cs : List Value} (h : cs.length = 3) : ∃ u0 u1 u2, cs = [u0, u1, u2] := by
  match cs, h with
  | [u0, u1, u2], _ => exact ⟨u0, u1, u2, rfl⟩
theorem open_S43_22 {H : Type} {enc : TypeId × Value → H} {w : World} {base : Nat} {spare : Nat → Bool} {held : Bool} {fuel : Nat} {a : Option Addr} {len cap : Nat} {x : DataW H × List MemPlace} (h : DataW.trod enc Try.prog w base spare held fuel 22 [.slice a len cap] = some x) : ∃ zs, IsS43 w a len cap zs := by
  rcases Deep.open_slice Try.underlying22 h with ⟨h0, _⟩ | ⟨ad, len', cap', m, n, D, Pl, hcs, hb, hl, hm, hmm, hx, hi⟩
  · simp at h0
    obtain ⟨rfl, rfl, rfl⟩ := h0
    exact ⟨[], rfl, Nat.le_refl _, Nat.zero_le _, ⟨rfl, Nat.zero_le _, fun h => absurd h (by decide)⟩, fun x h => by cases h⟩
  · simp at hcs
    obtain ⟨rfl, rfl, rfl⟩ := hcs
    have hlm : len ≤ m := by rw [hmm]; split <;> omega
    have hel : ∀ i, i < len → ∃ s : A.S43, w.cell? (ad.add (i * 3 + 0)) = some (.int .i64 s.f0) ∧ w.cell? (ad.add (i * 3 + 1)) = some (.int .i64 s.f1) ∧ w.cell? (ad.add (i * 3 + 2)) = some (.int .i64 s.f2) ∧ (Lit.int .i64 s.f0).wf = true ∧ (Lit.int .i64 s.f1).wf = true ∧ (Lit.int .i64 s.f2).wf = true := by
      intro i hi'
      obtain ⟨cs', hc, ht'⟩ := hi i (by omega)
      have hC : Try.prog.cellsOf 43 = 3 := by kernel_rfl
      rw [hC] at hc
      obtain ⟨_, hcl, hat⟩ := World.cells?_some hc
      obtain ⟨y0, y1, y2, n', _, _, g0, g1, g2⟩ := Deep.trod_struct3 Try.underlying43 ht'
      obtain ⟨n0, e0, _, w0⟩ := DataW.trod_int Try.underlying3 g0
      have c0 := hat 0 (by decide)
      obtain ⟨n1, e1, _, w1⟩ := DataW.trod_int Try.underlying3 g1
      have c1 := hat 1 (by decide)
      obtain ⟨n2, e2, _, w2⟩ := DataW.trod_int Try.underlying2 g2
      have c2 := hat 2 (by decide)
      obtain ⟨u0, u1, u2, rfl⟩ := cells_S43 hcl
      clear hcl
      have z0 : Try.prog.cellsOf 3 = 1 := by kernel_rfl
      obtain rfl : u0 = .int .i64 n0 := by simpa [z0] using e0
      have z1 : Try.prog.cellsOf 3 = 1 := by kernel_rfl
      obtain rfl : u1 = .int .i64 n1 := by simpa [z1] using e1
      have z2 : Try.prog.cellsOf 2 = 1 := by kernel_rfl
      obtain rfl : u2 = .int .i64 n2 := by simpa [z2] using e2
      exact ⟨⟨n0, n1, n2⟩, (by rw [← Deep.add_add]; exact c0), (by rw [← Deep.add_add]; exact c1), (by rw [← Deep.add_add]; exact c2), w0, w1, w2⟩
    have hex : ∀ d, d ≤ len → ∃ zs : List A.S43, zs.length = d ∧ ∀ i s, zs[i]? = some s → w.cell? (ad.add (i * 3 + 0)) = some (.int .i64 s.f0) ∧ w.cell? (ad.add (i * 3 + 1)) = some (.int .i64 s.f1) ∧ w.cell? (ad.add (i * 3 + 2)) = some (.int .i64 s.f2) ∧ (Lit.int .i64 s.f0).wf = true ∧ (Lit.int .i64 s.f1).wf = true ∧ (Lit.int .i64 s.f2).wf = true := by
      intro d
      induction d with
      | zero => intro _; exact ⟨[], rfl, fun i s h => by simp at h⟩
      | succ d ih =>
        intro hd
        obtain ⟨zs, hz, hzs⟩ := ih (by omega)
        obtain ⟨s, hs⟩ := hel d (by omega)
        refine ⟨zs ++ [s], by simp [hz], fun i t ht => ?_⟩
        rcases Nat.lt_or_ge i zs.length with h1 | h1
        · rw [List.getElem?_append_left h1] at ht; exact hzs i t ht
        · rw [List.getElem?_append_right h1] at ht
          rcases Nat.eq_zero_or_pos (i - zs.length) with h2 | h2
          · rw [h2] at ht
            obtain rfl : s = t := by simpa using ht
            obtain rfl : i = d := by omega
            exact hs
          · rw [List.getElem?_eq_none (by simp; omega)] at ht; cases ht
    obtain ⟨zs, hz, hzs⟩ := hex len (Nat.le_refl _)
    refine ⟨zs, hz, hl, Nat.le_trans hl hm, ⟨hz, by unfold maxLen at hm; omega, fun _ => ⟨ad, rfl, fun j p hp => ?_⟩⟩, fun x hx => ?_⟩
    · obtain ⟨c0, c1, c2, _⟩ := hzs j p hp
      refine ⟨[.int .i64 p.f0, .int .i64 p.f1, .int .i64 p.f2], rfl, A.k43_mk w p, fun i u hu => ?_⟩
      match i, hu with
      | 0, hu => rw [← Option.some.inj hu]; exact c0
      | 1, hu => rw [← Option.some.inj hu]; exact c1
      | 2, hu => rw [← Option.some.inj hu]; exact c2
      | i + 3, hu => simp at hu
    · obtain ⟨i, hi'⟩ := List.getElem?_of_mem hx
      have := hzs i x hi'
      exact ⟨this.2.2.2.1, this.2.2.2.2.1, this.2.2.2.2.2⟩
theorem walk (P : A.w6_PartsCuts.Pure) (a0_0 : Int) (a0_1 : Option Addr) (len0_1 cap0_1 : Nat) (z0_1 : List A.S43) (w : World) (w0_0 : (Lit.int .i64 a0_0).wf = true) (w0_1 : IsS43 w a0_1 len0_1 cap0_1 z0_1) :
    Calls Try.prog 4 #[.agg #[.int .i64 a0_0, .slice a0_1 len0_1 cap0_1]] w fun e w' => e = .returned (.bool true) ∧ Below w.heap.size w w' := by
  obtain ⟨l0_1, rfl, hr0_1, hm0_1, hw0_1, hc0_1⟩ := IsS43.ofRow w0_1
  obtain ⟨k, h⟩ := P a0_0 l0_1 w0_0 hm0_1 hw0_1
  refine (A.w6_PartsCuts.calls k a0_0 a0_1 cap0_1 l0_1 true w hr0_1 hc0_1 h rfl).mono ?_
  rintro e w' ⟨rfl, hd⟩
  exact ⟨rfl, hd⟩
theorem own : ownKnob Try.prog.godebug = none := by kernel_rfl
theorem laidOut : laidOutB Try.prog = true := by kernel_rfl
def IsRow (k : IntKind) (w : World) (a : Option Addr) (len cap : Nat) (zs : List Int) : Prop :=
  (a = none ∧ len = 0 ∧ cap = 0 ∧ zs = []) ∨
  ∃ x, a = some x ∧ len ≤ cap ∧ cap ≤ maxLen ∧ zs.length = cap ∧ (∀ i, i < zs.length → w.cell? (x.add i) = some (.int k (zs.getD i 0))) ∧ ∀ n ∈ zs, (Lit.int k n).wf = true
set_option maxRecDepth 100000 in
theorem lifted (os : Os) (started : os.Started) (H : Type) (enc : TypeId × Value → H) :
    ReturnsInHanded {} Try.checked os 4 .any (Rows.partsCutsSpec.pre6 enc Try.prog Try.f4 Rows.partsCutsRow.domain false) (Rows.partsCutsSpec.post enc Try.prog Try.f4 false true false false) := by
  refine returnsInHanded_of_change_sized (C := Try.checked) own started (by kernel_rfl) Try.func4
    (ChangeSpec.witness6 (enc := enc) (C := Try.checked) false ⟨#[], #[.agg #[.int .i64 0, .slice none 0 0]], []⟩ 8 (by kernel_rfl) (by kernel_rfl) (by kernel_rfl) (by kernel_rfl)) ?_
  intro W base args ds gs before hval0 hW hcnd hsz0 _
  have hsz : (DataW.weightsEach Try.prog (Try.f4.params.toList ++ Rows.partsCutsSpec.plain.varTypes Try.prog) (ds ++ gs)).all (· ≤ reachBytes) = true := hsz0
  have hval : ∀ (j : Nat) t v, Try.f4.params[j]? = some t → args[j]? = some v → Value.okWide Try.prog W .any base t v := hval0
  have hW' := hW
  obtain ⟨p, q, hA0, hV, rfl, hfz, hnd⟩ := hW
  have hA : DataW.TrodAll enc Try.prog W 0 (fun _ => true) true Try.f4.params.toList args.toList ds p := hA0
  rw [Try.params4] at hA hval hsz
  obtain ⟨v0, vs0, d0, ds0, p0, q0, hargs, rfl, rfl, h0, r0⟩ := trodAll_cons hA
  obtain ⟨rfl, rfl, rfl⟩ := trodAll_nil r0
  obtain rfl : args = #[v0] := by cases args; simp_all
  obtain ⟨rfl, rfl⟩ := trodVars_none hV
  have k0 := h0
  have lt0 : ∀ x ∈ p0, x.block < W.heap.size := by obtain ⟨m, hm⟩ := k0; exact DataW.trod_lt m _ _ _ hm
  obtain ⟨v0_0, v0_1, y0_0, y0_1, n0_, rfl, rfl, rfl, g0_0, g0_1⟩ := Go.Joins.open_agg2 Try.underlying24 (by kernel_rfl) (by kernel_rfl) (hval 0 24 v0 rfl rfl) h0
  obtain ⟨a0_0, e0_0, _, w0_0⟩ := DataW.trod_int Try.underlying3 g0_0
  obtain rfl : v0_0 = .int .i64 a0_0 := by simpa using e0_0
  obtain ⟨a0_1, len0_1, cap0_1, e0_1⟩ := Go.Joins.slice_form Try.underlying22 g0_1
  obtain rfl : v0_1 = .slice a0_1 len0_1 cap0_1 := by simpa using e0_1
  obtain ⟨z0_1, w0_1⟩ : ∃ zs, IsS43 W a0_1 len0_1 cap0_1 zs := by
    exact open_S43_22 g0_1
  clear hA0 hval0 hsz0 hsz
  refine (walk A.pure_PartsCuts a0_0 a0_1 len0_1 cap0_1 z0_1 W w0_0 w0_1).mono fun e W' ⟨he, bel⟩ => ?_
  subst he
  exact ⟨_, rfl, _, _, _, [], _, [], hW', trodAll_mk1 (shut_bool Try.underlying4 _), (trodAll_cons_mk (Below.trod laidOut (by kernel_rfl) (of_decide_eq_true (by kernel_rfl)) k0 bel lt0) trodAll_mk0), rfl, bel.frame _, fun h => by cases h⟩
theorem over : Rows.partsCutsRow.holds Try.pinned (OpenSpec.ofChange Rows.partsCutsSpec) :=
  OpenClaim.holds_of_wide 4 Try.f4 rfl rfl rfl rfl rfl rfl rfl ⟨rfl, rfl, rfl, rfl, rfl⟩ rfl rfl rfl rfl rfl (by kernel_rfl) Try.func4 (by kernel_rfl)
    (of_decide_eq_true (by kernel_rfl)) (by unfold Func.isWrapper; first | (rw [if_pos (by decide +kernel)]; kernel_rfl) | (rw [if_neg (by decide +kernel)]; exact ⟨rfl, rfl⟩))
    (fun os started H enc _ => lifted os started H enc)
end Go.Proofs.Ytkiemlbobcklpaa.partsCuts
namespace Go.Proofs.Ytkiemlbobcklpaa
/-- The row, under a short name, for the claim. -/
theorem partsCuts_holds : Rows.PartsCutsSaid := partsCuts.over
#print axioms partsCuts_holds
end Go.Proofs.Ytkiemlbobcklpaa
