/- Lemmas for the statement: the walks of the functions that it reaches, and plain laws. -/
import Derived.Test.YtkiemlbobcklpaaG3
import Derived.Test.YtkiemlbobcklpaaG1
set_option linter.unusedVariables false
set_option linter.unusedSimpArgs false
set_option maxHeartbeats 8000000
set_option maxRecDepth 100000
namespace Go.Proofs.Ytkiemlbobcklpaa.A
open Go Go.RowKit Go.Proofs.YtkiemlbobcklpaaW.PrintWords Go.Proofs.YtkiemlbobcklpaaW.PrintLast Go.Proofs.YtkiemlbobcklpaaW.PrintMore
attribute [local go_sem] max2_int min2_int max_two min_two max_three min_three max_four min_four
open Go.Proofs.YtkiemlbobcklpaaW.PrintWords.Kd renaming R_alloc → zRa, R_drewN → zRn, R_drew → zRd, C_alloc → zCa, C_drewN → zCn, C_drew → zCd, R_mono → zRm, at_int → zAi, R_elder' → zRe, R_lower → zRl, R_new' → zRw, R_lt → zRt, R_below → zRb, R_base → zRz, R_reads' → zRr, R_slice → zRs
open Go.Proofs.YtkiemlbobcklpaaW.PrintWords renaming pw_below_drewN → zBn, below_alloc → zBa, below_drew1 → zBd, below_size → zBs, below_step → zBt, blk_drewN → zKn, blk_drew → zKd, blk_alloc → zKa, blk_below → zKb, blk_cell → zKc, blk_frozen → zKf
open List renaming setIfInBounds_toArray → zSa, set_cons_zero → zSb, set_cons_succ → zSc, length_drop → zLd, length_take → zLt, map_toArray → zMa, map_cons → zMc, map_nil → zMn, length_cons → zLc, length_nil → zLn
open Go.Proofs.YtkiemlbobcklpaaW.PrintWords.Aside0 renaming mk → zMk
open Option renaming bind_eq_some_iff → zBi, bind_some → zOb
open Option.some renaming inj → zOi
open Int renaming toNat_natCast → zTn
-- LEAVE
theorem wk_add (g n : Nat) : (⟨g, 0, none⟩ : Addr).add n = ⟨g, n, none⟩ := by
  unfold Addr.add
  split
  · simp_all
  · simp
def wkCut (more : Wk → Int → Option Bool) (near : List (List S51)) (p : Int) (s3 : Wk) : Option Wk :=
  (if 1 < s3.stack.length then some true else if p < (s3.next.length : Int) ∧ p < (near.length : Int) then (if rd s3.next p < ((rd_L3 near p).length : Int) then more s3 p else some false) else none).bind fun c =>
    if c = true then (if p < (s3.cut.length : Int) then some { s3 with cut := s3.cut.set p.toNat true } else none) else some s3
def wkTail (off : Wk → Int → Option Wk) (more : Wk → Int → Option Bool) (near : List (List S51)) (o p : Int) (f : S51) (s2 : Wk) : Option Wk :=
  if o ≤ rd s2.low f.f0 then (off s2 f.f1).bind (wkCut more near p) else some s2
def wkLeave (off : Wk → Int → Option Wk) (more : Wk → Int → Option Bool) (near : List (List S51)) (s : Wk) : Option Wk :=
  if s.stack.length = 0 then none
  else if s.stack.length = 1 then some { s with stack := s.stack.take 0 }
  else
    let m := s.stack.length - 1
    let f := rd_T51 s.stack (m : Int)
    let p := (rd_T51 s.stack ((m - 1 : Nat) : Int)).f0
    if 0 ≤ p ∧ p < (s.low.length : Int) ∧ p < (s.ord.length : Int) ∧ 0 ≤ f.f0 ∧ f.f0 < (s.low.length : Int) then
      wkTail off more near (rd s.ord p) p f { s with stack := s.stack.take m, low := s.low.set p.toNat (if rd s.low f.f0 < rd s.low p then rd s.low f.f0 else rd s.low p) }
    else none
theorem wkLeave.calls (off : Wk → Int → Option Wk) (more : Wk → Int → Option Bool) (near : List (List S51)) (w0 wn w : World) (gw : Nat) (An : Option Addr) (cn : Nat) (V : WkV) (s s' : Wk)
    (hoff : ∀ (W : World) (V : WkV) (s s' : Wk) (x : Int), WkW w0 wn W gw (.slice An near.length cn) V s → off s x = some s' → Calls Try.prog 71 #[.pointer (some ⟨gw, 0, none⟩), .int .i64 x] W fun e W' => e = .returned (.tuple #[]) ∧ Below w0.heap.size w0 W' ∧ ∃ V', WkW w0 wn W' gw (.slice An near.length cn) V' s')
    (hmore : ∀ (W : World) (V : WkV) (s : Wk) (x : Int) (b : Bool), WkW w0 wn W gw (.slice An near.length cn) V s → more s x = some b → Calls Try.prog 72 #[.pointer (some ⟨gw, 0, none⟩), .int .i64 x] W fun e W' => e = .returned (.bool b) ∧ Below W.heap.size W W')
    (nb : Nat) (okn : Nat → Prop) (hn : Kd.S (Kd.slice 51 k51) 49 wn nb okn (.slice An near.length cn) near) (h : WkW w0 wn w gw (.slice An near.length cn) V s) (he : wkLeave off more near s = some s') :
    Calls Try.prog 63 #[.pointer (some ⟨gw, 0, none⟩)] w fun e w' => e = .returned (.tuple #[]) ∧ ∃ V', WkW w0 wn w' gw (.slice An near.length cn) V' s' := by
  have hu55 := Try.underlying55
  have hu89 := Try.underlying89
  have HOFF := zMk hoff
  have HMORE := zMk hmore
  have HN := zMk hn
  have HW := zMk h
  have HE := zMk he
  clear hoff hmore hn h he
  obtain ⟨m, hm⟩ : ∃ m, s.stack.length = m + 1 := by
    have he := HE.out
    unfold wkLeave at he
    by_cases h0 : s.stack.length = 0
    · rw [if_pos h0] at he; cases he
    · exact ⟨s.stack.length - 1, by omega⟩
  have hs := HW.out.hS
  obtain ⟨gs, cS, eS, -, -, -⟩ := Kd.R_form hs (by omega)
  rw [hm] at eS
  have ES := zMk eS
  rw [eS] at hs
  have hlm := wk_len hs
  rw [hm] at hlm
  have hmx : maxLen ≤ 9223372036854775807 := by decide
  have HMX := zMk (show m + 1 ≤ 9223372036854775807 by omega)
  have hfx := at_T51 (by have hc := (zRr hs).2.2; rw [hm] at hc; exact hc) (m : Int) (by omega) (by omega)
  obtain ⟨ad, ea, hx0, hx1⟩ := hfx
  cases ea
  simp only [zTn] at hx0 hx1
  obtain ⟨f, hf⟩ : ∃ f, f = rd_T51 s.stack (m : Int) := ⟨_, rfl⟩
  rw [← hf] at hx0 hx1
  rw [wk_add] at hx0 hx1
  have X0 := zMk (show w.cell? ⟨gs, m * 2, none⟩ = some (.int .i64 f.f0) from hx0)
  have X1 := zMk (show w.cell? ⟨gs, m * 2 + 1, none⟩ = some (.int .i64 f.f1) from hx1)
  clear hx0 hx1
  have FF := zMk hf
  have HM := zMk hm
  have hcS : m + 1 ≤ cS := (zRr hs).2.1 |> (fun h => by omega)
  have qm : (m ≤ cS) = True := eq_true (by omega)
  have HCS := zMk hcS
  clear hf hm eS hlm hmx hs hcS
  go_enter Try.func63, Try.ntmps63
  go_upto_region 0 with (fail)
  have HWd := zMk (HW.out.below (zBd (Below.refl w.heap.size w)))
  have BL := zMk (zBd (Below.refl w.heap.size w))
  have p7 : (0 ≤ (m : Int)) = True := eq_true (by omega)
  have p8 : ((m : Int) < (m : Int) + 1) = True := eq_true (by omega)
  have hwj : IntKind.i64.wrap (m : Int) = (m : Int) := IntWalk.i64_in _ ⟨by omega, by have := HMX.out; omega⟩
  have hw64 : wrap64 (m : Int) = (m : Int) := by have := HMX.out; unfold wrap64; omega
  refine start_ (n := 14) (S := fun w' => w'.cell? ⟨gw, 9, none⟩ = some (.slice (some ⟨gs, 0, none⟩) (m + 1) cS) ∧ w'.cell? ⟨gs, m * 2, none⟩ = some (.int .i64 f.f0) ∧ w'.cell? ⟨gs, m * 2 + 1, none⟩ = some (.int .i64 f.f1)) (ds := [13]) #[false, false, false, false, false, false, false, false, false, false, false, false, false, false] (by kernel_rfl) rfl rfl ⟨(zKc HWd.out.hw 9).trans (congrArg some ES.out), (Below.cell BL.out (World.block_lt_of_cell? w _ X0.out)).trans X0.out, (Below.cell BL.out (World.block_lt_of_cell? w _ X1.out)).trans X1.out⟩ (fun hHeld => ?_)
  generalize w.drew = wd at HWd BL hHeld ⊢
  refine pure_ (i := 0) (N := some 4) (v := ?_) (a' := ?_) #[true, false, false, false, false, false, false, false, false, false, false, false, false, false] rfl rfl (by kernel_rfl) (fun _ _ _ h => h) (Or.inl ⟨by rfl, ?_⟩) ?_ ?_
  rotate_left
  · intro w'
    go_simp
    with_reducible rfl
  rotate_left
  · simp only [Act.put, zSa, zSb, zSc, i64_w, i32_w]
    rfl
  refine pure_ (i := 1) (N := some 5) (v := ?_) (a' := ?_) #[true, true, false, false, false, false, false, false, false, false, false, false, false, false] rfl rfl (by kernel_rfl) (fun _ _ _ h => h) (Or.inl ⟨by rfl, ?_⟩) ?_ ?_
  rotate_left
  · intro w'
    go_simp
    with_reducible rfl
  rotate_left
  · simp only [Act.put, zSa, zSb, zSc, i64_w, i32_w]
    rfl
  refine pure_ (i := 2) (N := some 6) (v := ?_) (a' := ?_) #[true, true, true, false, false, false, false, false, false, false, false, false, false, false] rfl rfl (by kernel_rfl) (fun _ _ _ h => h) (Or.inl ⟨by rfl, ?_⟩) ?_ ?_
  rotate_left
  · intro w'
    go_simp
    with_reducible rfl
  rotate_left
  · simp only [Act.put, zSa, zSb, zSc, i64_w, i32_w]
    rfl
  refine pure_ (i := 4) (N := some 8) (v := ?_) (a' := ?_) #[true, true, true, false, true, false, false, false, false, false, false, false, false, false] rfl rfl (by kernel_rfl) (fun _ _ _ h => h) (Or.inl ⟨by rfl, ?_⟩) ?_ ?_
  rotate_left
  · intro w'
    go_simp
    with_reducible rfl
  rotate_left
  · simp only [Act.put, zSa, zSb, zSc, i64_w, i32_w]
    rfl
  refine pure_ (i := 5) (N := some 9) (v := ?_) (a' := ?_) #[true, true, true, false, true, true, false, false, false, false, false, false, false, false] rfl rfl (by kernel_rfl) (fun _ _ _ h => h) (Or.inl ⟨by rfl, ?_⟩) ?_ ?_
  rotate_left
  · intro w'
    go_simp
    with_reducible rfl
  rotate_left
  · simp only [Act.put, zSa, zSb, zSc, i64_w, i32_w]
    rfl
  refine pure_ (i := 6) (N := some 10) (v := ?_) (a' := ?_) #[true, true, true, false, true, true, true, false, false, false, false, false, false, false] rfl rfl (by kernel_rfl) (fun _ _ _ h => h) (Or.inl ⟨by rfl, ?_⟩) ?_ ?_
  rotate_left
  · intro w'
    go_simp
    with_reducible rfl
  rotate_left
  · simp only [Act.put, zSa, zSb, zSc, i64_w, i32_w]
    rfl
  refine take_ (i := 3) (N := some 7) (v := ?_) (a' := ?_) #[true, true, true, true, true, true, true, false, false, false, false, false, false, false] rfl rfl (by kernel_rfl) (fun _ _ _ h => h) (Or.inl ⟨by rfl, ?_⟩) hHeld ?_ ?_
  rotate_left
  · rintro w' ⟨s0, s1, s2⟩
    go_simp
    with_reducible rfl
  rotate_left
  · simp only [Act.put, zSa, zSb, zSc, i64_w, i32_w]
    rfl
  refine take_ (i := 7) (N := some 11) (v := ?_) (a' := ?_) #[true, true, true, true, true, true, true, true, false, false, false, false, false, false] rfl rfl (by kernel_rfl) (fun _ _ _ h => h) (Or.inl ⟨by rfl, ?_⟩) hHeld ?_ ?_
  rotate_left
  · rintro w' ⟨s0, s1, s2⟩
    go_simp
    with_reducible rfl
  rotate_left
  · simp only [Act.put, zSa, zSb, zSc, i64_w, i32_w]
    rfl
  refine pure_ (i := 8) (N := some 12) (v := ?_) (a' := ?_) #[true, true, true, true, true, true, true, true, true, false, false, false, false, false] rfl rfl (by kernel_rfl) (fun _ _ _ h => h) (Or.inl ⟨by rfl, ?_⟩) ?_ ?_
  rotate_left
  · intro w'
    go_simp
    with_reducible rfl
  rotate_left
  · simp only [Act.put, zSa, zSb, zSc, i64_w, i32_w]
    rfl
  refine pure_ (i := 9) (N := some 13) (v := ?_) (a' := ?_) #[true, true, true, true, true, true, true, true, true, true, false, false, false, false] rfl rfl (by kernel_rfl) (fun _ _ _ h => h) (Or.inl ⟨by rfl, ?_⟩) ?_ ?_
  rotate_left
  · intro w'
    go_simp
    with_reducible rfl
  rotate_left
  · simp only [Act.put, zSa, zSb, zSc, i64_w, i32_w]
    rfl
  refine pure_ (i := 10) (N := some 14) (v := ?_) (a' := ?_) #[true, true, true, true, true, true, true, true, true, true, true, false, false, false] rfl rfl (by kernel_rfl) (fun _ _ _ h => h) (Or.inl ⟨by rfl, ?_⟩) ?_ ?_
  rotate_left
  · intro w'
    go_simp
    with_reducible rfl
  rotate_left
  · simp only [Act.put, zSa, zSb, zSc, i64_w, i32_w]
    rfl
  refine take_ (i := 11) (N := some 15) (v := ?_) (a' := ?_) #[true, true, true, true, true, true, true, true, true, true, true, true, false, false] rfl rfl (by kernel_rfl) (fun _ _ _ h => h) (Or.inl ⟨by rfl, ?_⟩) hHeld ?_ ?_
  rotate_left
  · rintro w' ⟨s0, s1, s2⟩
    go_simp
    with_reducible rfl
  rotate_left
  · simp only [Act.put, zSa, zSb, zSc, i64_w, i32_w]
    rfl
  refine one_ (i := 12) (N := some 2) #[true, true, true, true, true, true, true, true, true, true, true, true, true, false] rfl rfl (by kernel_rfl) (by decide) (fun K hK => ?_)
  refine box_step ?hg (N := 2) ?hd (cs := #[.int .i64 0, .int .i64 0]) (t := 89) ?hr ?_; (case hd => rfl); (case hg => rfl); (case hr => first | (go_simp; done) | (go_simp; rfl))
  intro bf hg wb hbox hb
  replace HWd := zMk (HWd.out.below hb)
  have BL0 := BL
  replace BL := zMk (zBt BL.out hb)
  have BF := zMk hbox
  have HBF := zMk (hg ▸ zBs BL0.out : w.heap.size ≤ bf)
  clear hg hbox hb
  refine hK.out _ _ ⟨(zKc HWd.out.hw 9).trans (congrArg some ES.out), (Below.cell BL.out (World.block_lt_of_cell? w _ X0.out)).trans X0.out, (Below.cell BL.out (World.block_lt_of_cell? w _ X1.out)).trans X1.out⟩ (fun hHeld => ?_)
  clear hK K
  refine norm_ (a' := ?_) ?_ ?_
  rotate_left
  · show Act.put _ (some 2) _ = _
    simp only [Act.put, zSa, zSb, zSc, i64_w, i32_w]
    rfl
  refine last_ (i := 13) (N := none) #[true, true, true, true, true, true, true, true, true, true, true, true, true, true] rfl rfl (by kernel_rfl) (by decide) (fun K hK => ?_)
  have hb0 : wb.cell? ⟨bf, 0, none⟩ = some (.int .i64 0) := (zKc BF.out 0).trans rfl
  have hb1 : wb.cell? ⟨bf, 1, none⟩ = some (.int .i64 0) := (zKc BF.out 1).trans rfl
  have hf0 := zKf BF.out 0
  have hf1 := zKf BF.out 1
  refine skip_ (w1 := ?_) (by rfl) rfl ?_ ?_
  rotate_left
  · go_simp
    rfl
  refine hK.out _ _ ?_
  clear hK K
  refine done_ (by kernel_rfl) ?_
  clear HWd X0 X1 hb0 hb1 hf0 hf1
  have HW1 := zMk (show WkW w0 wn ((wb.setCell ⟨bf, 0, none⟩ (.int .i64 f.f0)).setCell ⟨bf, 1, none⟩ (.int .i64 f.f1)) gw (.slice An near.length cn) V s from HW.out.below (below_set (below_set BL.out HBF.out) HBF.out))
  have BF1 := zMk (blk_put (cs := #[.int .i64 f.f0, .int .i64 0]) (blk_put (cs := #[.int .i64 0, .int .i64 0]) BF.out 0 (.int .i64 f.f0) rfl) 1 (.int .i64 f.f1) rfl)
  generalize ((wb.setCell ⟨bf, 0, none⟩ (.int .i64 f.f0)).setCell ⟨bf, 1, none⟩ (.int .i64 f.f1)) = w1 at HW1 BF1 ⊢
  clear BL BF HBF HW
  have z9 : w1.cell? ⟨gw, 9, none⟩ = some (.slice (some ⟨gs, 0, none⟩) (m + 1) cS) := (zKc HW1.out.hw 9).trans (congrArg some ES.out)
  have f9 := zKf HW1.out.hw 9
  go_upto_region 1 with (fail)
  clear z9 f9
  have HW1d := zMk (HW1.out.below (zBd (Below.refl w1.heap.size w1)))
  have BF1d := zMk (zKd BF1.out)
  refine start_ (n := 15) (S := fun w' => w'.cell? ⟨gw, 9, none⟩ = some (.slice (some ⟨gs, 0, none⟩) (m + 1) cS)) (ds := [14]) #[false, false, false, false, false, false, false, false, false, false, false, false, false, false, false] (by kernel_rfl) rfl rfl ((zKc HW1d.out.hw 9).trans (congrArg some ES.out)) (fun hHeld => ?_)
  generalize w1.drew = w2 at HW1d BF1d hHeld ⊢
  refine pure_ (i := 0) (N := some 16) (v := ?_) (a' := ?_) #[true, false, false, false, false, false, false, false, false, false, false, false, false, false, false] rfl rfl (by kernel_rfl) (fun _ _ _ h => h) (Or.inl ⟨by rfl, ?_⟩) ?_ ?_
  rotate_left
  · intro w'
    go_simp
    with_reducible rfl
  rotate_left
  · simp only [Act.put, zSa, zSb, zSc, i64_w, i32_w]
    rfl
  refine pure_ (i := 1) (N := some 17) (v := ?_) (a' := ?_) #[true, true, false, false, false, false, false, false, false, false, false, false, false, false, false] rfl rfl (by kernel_rfl) (fun _ _ _ h => h) (Or.inl ⟨by rfl, ?_⟩) ?_ ?_
  rotate_left
  · intro w'
    go_simp
    with_reducible rfl
  rotate_left
  · simp only [Act.put, zSa, zSb, zSc, i64_w, i32_w]
    rfl
  refine pure_ (i := 2) (N := some 18) (v := ?_) (a' := ?_) #[true, true, true, false, false, false, false, false, false, false, false, false, false, false, false] rfl rfl (by kernel_rfl) (fun _ _ _ h => h) (Or.inl ⟨by rfl, ?_⟩) ?_ ?_
  rotate_left
  · intro w'
    go_simp
    with_reducible rfl
  rotate_left
  · simp only [Act.put, zSa, zSb, zSc, i64_w, i32_w]
    rfl
  refine pure_ (i := 3) (N := some 19) (v := ?_) (a' := ?_) #[true, true, true, true, false, false, false, false, false, false, false, false, false, false, false] rfl rfl (by kernel_rfl) (fun _ _ _ h => h) (Or.inl ⟨by rfl, ?_⟩) ?_ ?_
  rotate_left
  · intro w'
    go_simp
    with_reducible rfl
  rotate_left
  · simp only [Act.put, zSa, zSb, zSc, i64_w, i32_w]
    rfl
  refine pure_ (i := 5) (N := some 21) (v := ?_) (a' := ?_) #[true, true, true, true, false, true, false, false, false, false, false, false, false, false, false] rfl rfl (by kernel_rfl) (fun _ _ _ h => h) (Or.inl ⟨by rfl, ?_⟩) ?_ ?_
  rotate_left
  · intro w'
    go_simp
    with_reducible rfl
  rotate_left
  · simp only [Act.put, zSa, zSb, zSc, i64_w, i32_w]
    rfl
  refine pure_ (i := 6) (N := some 22) (v := ?_) (a' := ?_) #[true, true, true, true, false, true, true, false, false, false, false, false, false, false, false] rfl rfl (by kernel_rfl) (fun _ _ _ h => h) (Or.inl ⟨by rfl, ?_⟩) ?_ ?_
  rotate_left
  · intro w'
    go_simp
    with_reducible rfl
  rotate_left
  · simp only [Act.put, zSa, zSb, zSc, i64_w, i32_w]
    rfl
  refine pure_ (i := 7) (N := some 23) (v := ?_) (a' := ?_) #[true, true, true, true, false, true, true, true, false, false, false, false, false, false, false] rfl rfl (by kernel_rfl) (fun _ _ _ h => h) (Or.inl ⟨by rfl, ?_⟩) ?_ ?_
  rotate_left
  · intro w'
    go_simp
    with_reducible rfl
  rotate_left
  · simp only [Act.put, zSa, zSb, zSc, i64_w, i32_w]
    rfl
  refine take_ (i := 4) (N := some 20) (v := ?_) (a' := ?_) #[true, true, true, true, true, true, true, true, false, false, false, false, false, false, false] rfl rfl (by kernel_rfl) (fun _ _ _ h => h) (Or.inl ⟨by rfl, ?_⟩) hHeld ?_ ?_
  rotate_left
  · intro w' s0
    go_simp
    with_reducible rfl
  rotate_left
  · simp only [Act.put, zSa, zSb, zSc, i64_w, i32_w]
    rfl
  refine take_ (i := 8) (N := some 24) (v := ?_) (a' := ?_) #[true, true, true, true, true, true, true, true, true, false, false, false, false, false, false] rfl rfl (by kernel_rfl) (fun _ _ _ h => h) (Or.inl ⟨by rfl, ?_⟩) hHeld ?_ ?_
  rotate_left
  · intro w' s0
    go_simp
    with_reducible rfl
  rotate_left
  · simp only [Act.put, zSa, zSb, zSc, i64_w, i32_w]
    rfl
  refine pure_ (i := 9) (N := some 25) (v := ?_) (a' := ?_) #[true, true, true, true, true, true, true, true, true, true, false, false, false, false, false] rfl rfl (by kernel_rfl) (fun _ _ _ h => h) (Or.inl ⟨by rfl, ?_⟩) ?_ ?_
  rotate_left
  · intro w'
    go_simp
    with_reducible rfl
  rotate_left
  · simp only [Act.put, zSa, zSb, zSc, i64_w, i32_w]
    rfl
  refine pure_ (i := 10) (N := some 26) (v := ?_) (a' := ?_) #[true, true, true, true, true, true, true, true, true, true, true, false, false, false, false] rfl rfl (by kernel_rfl) (fun _ _ _ h => h) (Or.inl ⟨by rfl, ?_⟩) ?_ ?_
  rotate_left
  · intro w'
    go_simp
    with_reducible rfl
  rotate_left
  · simp only [Act.put, zSa, zSb, zSc, i64_w, i32_w]
    rfl
  refine pure_ (i := 11) (N := some 27) (v := ?_) (a' := ?_) #[true, true, true, true, true, true, true, true, true, true, true, true, false, false, false] rfl rfl (by kernel_rfl) (fun _ _ _ h => h) (Or.inl ⟨by rfl, ?_⟩) ?_ ?_
  rotate_left
  · intro w'
    go_simp
    with_reducible rfl
  rotate_left
  · simp only [Act.put, zSa, zSb, zSc, i64_w, i32_w]
    rfl
  refine pure_ (i := 12) (N := some 28) (v := ?_) (a' := ?_) #[true, true, true, true, true, true, true, true, true, true, true, true, true, false, false] rfl rfl (by kernel_rfl) (fun _ _ _ h => h) (Or.inl ⟨by rfl, ?_⟩) ?_ ?_
  rotate_left
  · intro w'
    go_simp
    with_reducible rfl
  rotate_left
  · simp only [Act.put, zSa, zSb, zSc, i64_w, i32_w]
    rfl
  refine pure_ (i := 13) (N := some 29) (v := ?_) (a' := ?_) #[true, true, true, true, true, true, true, true, true, true, true, true, true, true, false] rfl rfl (by kernel_rfl) (fun _ _ _ h => h) (Or.inl ⟨by rfl, ?_⟩) ?_ ?_
  rotate_left
  · intro w'
    go_simp
    with_reducible rfl
  rotate_left
  · simp only [Act.put, zSa, zSb, zSc, i64_w, i32_w]
    rfl
  refine last_ (i := 14) (N := none) #[true, true, true, true, true, true, true, true, true, true, true, true, true, true, true] rfl rfl (by kernel_rfl) (by decide) (fun K hK => ?_)
  have f9 := zKf HW1d.out.hw 9
  refine skip_ (w1 := ?_) (by rfl) rfl ?_ ?_
  rotate_left
  · go_simp
    rfl
  refine hK.out _ _ ?_
  clear hK K
  refine done_ (by kernel_rfl) ?_
  have HW2 := zMk (show WkW w0 wn (w2.setCell ⟨gw, 9, none⟩ (.slice (some ⟨gs, 0, none⟩) m cS)) gw (.slice An near.length cn) { V with vS := .slice (some ⟨gs, 0, none⟩) m cS } { s with stack := s.stack.take m } from HW1d.out.fstack (by
    have h3 := HW1d.out.hS
    rw [ES.out] at h3
    exact Kd.R_take h3 (by have := HM.out; omega)))
  have BF2 := zMk (blk_far (p := ⟨gw, 9, none⟩) BF1d.out (show bf ≠ gw from by
    rintro rfl
    have h3 := HW1d.out.hw
    rw [BF1d.out] at h3
    injection h3 with h3
    injection h3 with _ h3
    exact absurd h3 (by decide)) (.slice (some ⟨gs, 0, none⟩) m cS))
  clear HW1 HW1d BF1 BF1d f9
  generalize w2.setCell ⟨gw, 9, none⟩ (.slice (some ⟨gs, 0, none⟩) m cS) = w3 at HW2 BF2 ⊢
  have z9 : w3.cell? ⟨gw, 9, none⟩ = some (.slice (some ⟨gs, 0, none⟩) m cS) := (zKc HW2.out.hw 9).trans rfl
  go_upto_if 35 with (fail)
  clear z9
  have he := HE.out
  clear HE
  unfold wkLeave at he
  rw [if_neg (by have := HM.out; omega)] at he
  by_cases hm0 : m = 0
  · subst hm0
    rw [if_pos HM.out] at he
    obtain rfl := zOi he
    go_wp2
    first | go_end0 | ((try simp only [Exit.inBlock, Exit.then]); refine bodyPost_ret (results_none rfl _ _ _) rfl ?_)
    exact ⟨rfl, _, HW2.out⟩
  rw [if_neg (by have := HM.out; omega)] at he
  obtain ⟨j, rfl⟩ : ∃ j, m = j + 1 := ⟨m - 1, by omega⟩
  have hq0 : (((j + 1 : Nat) : Int) == 0) = false := beq_eq_false_iff_ne.mpr (by omega)
  rw [show s.stack.length - 1 = j + 1 by have := HM.out; omega] at he
  dsimp only at he
  rw [← FF.out, Nat.add_sub_cancel] at he
  have hs := HW2.out.hS
  have hfx := at_T51 (by have hc := (zRr hs).2.2; rw [show (s.stack.take (j + 1)).length = j + 1 by rw [zLt]; have := HM.out; omega] at hc; exact hc) (j : Int) (by omega) (by omega)
  obtain ⟨ad, ea, hx0, hx1⟩ := hfx
  cases ea
  simp only [zTn] at hx0 hx1
  rw [wk_add] at hx0
  rw [show rd_T51 (s.stack.take (j + 1)) (j : Int) = rd_T51 s.stack (j : Int) by unfold rd_T51; rw [zTn, List.getD_eq_getElem?_getD, List.getD_eq_getElem?_getD, List.getElem?_take_of_lt (by omega)]] at hx0
  obtain ⟨p, hp⟩ : ∃ p, p = (rd_T51 s.stack (j : Int)).f0 := ⟨_, rfl⟩
  rw [← hp] at hx0 he
  have XP := zMk (show w3.cell? ⟨gs, j * 2, none⟩ = some (.int .i64 p) from hx0)
  have HE := zMk he
  clear he hp hx0 hx1 hs hm0 p7 p8 hwj hw64 qm FF
  go_upto_region 3 with (fail)
  have p7 : (0 ≤ (j : Int)) = True := eq_true (by omega)
  have p8 : ((j : Int) < (j : Int) + 1) = True := eq_true (by omega)
  have hwj : IntKind.i64.wrap (j : Int) = (j : Int) := IntWalk.i64_in _ ⟨by omega, by have := HMX.out; omega⟩
  have hw64 : wrap64 (j : Int) = (j : Int) := by have := HMX.out; unfold wrap64; omega
  have BL3 := zMk (zBd (Below.refl w3.heap.size w3))
  have HW3 := zMk (HW2.out.below BL3.out)
  have BF3 := zMk (zKd BF2.out)
  refine start_ (n := 14) (S := fun w' => w'.cell? ⟨gw, 9, none⟩ = some (.slice (some ⟨gs, 0, none⟩) (j + 1) cS) ∧ w'.cell? ⟨gs, j * 2, none⟩ = some (.int .i64 p)) (ds := []) #[false, false, false, false, false, false, false, false, false, false, false, false, false, false] (by kernel_rfl) rfl rfl ⟨(zKc HW3.out.hw 9).trans rfl, (Below.cell BL3.out (World.block_lt_of_cell? w3 _ XP.out)).trans XP.out⟩ (fun hHeld => ?_)
  generalize w3.drew = w4 at HW3 BF3 BL3 hHeld ⊢
  refine pure_ (i := 0) (N := some 36) (v := ?_) (a' := ?_) #[true, false, false, false, false, false, false, false, false, false, false, false, false, false] rfl rfl (by kernel_rfl) (fun _ _ _ h => h) (Or.inl ⟨by rfl, ?_⟩) ?_ ?_
  rotate_left
  · intro w'
    go_simp
    with_reducible rfl
  rotate_left
  · simp only [Act.put, zSa, zSb, zSc, i64_w, i32_w]
    rfl
  refine pure_ (i := 1) (N := some 37) (v := ?_) (a' := ?_) #[true, true, false, false, false, false, false, false, false, false, false, false, false, false] rfl rfl (by kernel_rfl) (fun _ _ _ h => h) (Or.inl ⟨by rfl, ?_⟩) ?_ ?_
  rotate_left
  · intro w'
    go_simp
    with_reducible rfl
  rotate_left
  · simp only [Act.put, zSa, zSb, zSc, i64_w, i32_w]
    rfl
  refine pure_ (i := 2) (N := some 38) (v := ?_) (a' := ?_) #[true, true, true, false, false, false, false, false, false, false, false, false, false, false] rfl rfl (by kernel_rfl) (fun _ _ _ h => h) (Or.inl ⟨by rfl, ?_⟩) ?_ ?_
  rotate_left
  · intro w'
    go_simp
    with_reducible rfl
  rotate_left
  · simp only [Act.put, zSa, zSb, zSc, i64_w, i32_w]
    rfl
  refine pure_ (i := 4) (N := some 40) (v := ?_) (a' := ?_) #[true, true, true, false, true, false, false, false, false, false, false, false, false, false] rfl rfl (by kernel_rfl) (fun _ _ _ h => h) (Or.inl ⟨by rfl, ?_⟩) ?_ ?_
  rotate_left
  · intro w'
    go_simp
    with_reducible rfl
  rotate_left
  · simp only [Act.put, zSa, zSb, zSc, i64_w, i32_w]
    rfl
  refine pure_ (i := 5) (N := some 41) (v := ?_) (a' := ?_) #[true, true, true, false, true, true, false, false, false, false, false, false, false, false] rfl rfl (by kernel_rfl) (fun _ _ _ h => h) (Or.inl ⟨by rfl, ?_⟩) ?_ ?_
  rotate_left
  · intro w'
    go_simp
    with_reducible rfl
  rotate_left
  · simp only [Act.put, zSa, zSb, zSc, i64_w, i32_w]
    rfl
  refine pure_ (i := 6) (N := some 42) (v := ?_) (a' := ?_) #[true, true, true, false, true, true, true, false, false, false, false, false, false, false] rfl rfl (by kernel_rfl) (fun _ _ _ h => h) (Or.inl ⟨by rfl, ?_⟩) ?_ ?_
  rotate_left
  · intro w'
    go_simp
    with_reducible rfl
  rotate_left
  · simp only [Act.put, zSa, zSb, zSc, i64_w, i32_w]
    rfl
  refine take_ (i := 3) (N := some 39) (v := ?_) (a' := ?_) #[true, true, true, true, true, true, true, false, false, false, false, false, false, false] rfl rfl (by kernel_rfl) (fun _ _ _ h => h) (Or.inl ⟨by rfl, ?_⟩) hHeld ?_ ?_
  rotate_left
  · rintro w' ⟨s0, s1⟩
    go_simp
    with_reducible rfl
  rotate_left
  · simp only [Act.put, zSa, zSb, zSc, i64_w, i32_w]
    rfl
  refine take_ (i := 7) (N := some 43) (v := ?_) (a' := ?_) #[true, true, true, true, true, true, true, true, false, false, false, false, false, false] rfl rfl (by kernel_rfl) (fun _ _ _ h => h) (Or.inl ⟨by rfl, ?_⟩) hHeld ?_ ?_
  rotate_left
  · rintro w' ⟨s0, s1⟩
    go_simp
    with_reducible rfl
  rotate_left
  · simp only [Act.put, zSa, zSb, zSc, i64_w, i32_w]
    rfl
  refine pure_ (i := 8) (N := some 44) (v := ?_) (a' := ?_) #[true, true, true, true, true, true, true, true, true, false, false, false, false, false] rfl rfl (by kernel_rfl) (fun _ _ _ h => h) (Or.inl ⟨by rfl, ?_⟩) ?_ ?_
  rotate_left
  · intro w'
    go_simp
    with_reducible rfl
  rotate_left
  · simp only [Act.put, zSa, zSb, zSc, i64_w, i32_w]
    rfl
  refine pure_ (i := 9) (N := some 45) (v := ?_) (a' := ?_) #[true, true, true, true, true, true, true, true, true, true, false, false, false, false] rfl rfl (by kernel_rfl) (fun _ _ _ h => h) (Or.inl ⟨by rfl, ?_⟩) ?_ ?_
  rotate_left
  · intro w'
    go_simp
    with_reducible rfl
  rotate_left
  · simp only [Act.put, zSa, zSb, zSc, i64_w, i32_w]
    rfl
  refine pure_ (i := 10) (N := some 46) (v := ?_) (a' := ?_) #[true, true, true, true, true, true, true, true, true, true, true, false, false, false] rfl rfl (by kernel_rfl) (fun _ _ _ h => h) (Or.inl ⟨by rfl, ?_⟩) ?_ ?_
  rotate_left
  · intro w'
    go_simp
    with_reducible rfl
  rotate_left
  · simp only [Act.put, zSa, zSb, zSc, i64_w, i32_w]
    rfl
  refine pure_ (i := 11) (N := some 47) (v := ?_) (a' := ?_) #[true, true, true, true, true, true, true, true, true, true, true, true, false, false] rfl rfl (by kernel_rfl) (fun _ _ _ h => h) (Or.inl ⟨by rfl, ?_⟩) ?_ ?_
  rotate_left
  · intro w'
    go_simp
    with_reducible rfl
  rotate_left
  · simp only [Act.put, zSa, zSb, zSc, i64_w, i32_w]
    rfl
  refine take_ (i := 12) (N := some 48) (v := ?_) (a' := ?_) #[true, true, true, true, true, true, true, true, true, true, true, true, true, false] rfl rfl (by kernel_rfl) (fun _ _ _ h => h) (Or.inl ⟨by rfl, ?_⟩) hHeld ?_ ?_
  rotate_left
  · rintro w' ⟨s0, s1⟩
    go_simp
    with_reducible rfl
  rotate_left
  · simp only [Act.put, zSa, zSb, zSc, i64_w, i32_w]
    rfl
  refine pure_ (i := 13) (N := some 3) (v := ?_) (a' := ?_) #[true, true, true, true, true, true, true, true, true, true, true, true, true, true] rfl rfl (by kernel_rfl) (fun _ _ _ h => h) (Or.inl ⟨by rfl, ?_⟩) ?_ ?_
  rotate_left
  · intro w'
    go_simp
    with_reducible rfl
  rotate_left
  · simp only [Act.put, zSa, zSb, zSc, i64_w, i32_w]
    rfl
  refine done_ (by kernel_rfl) ?_
  clear HW2 BF2 BL3 XP
  have he := HE.out
  clear HE
  by_cases hb : 0 ≤ p ∧ p < (s.low.length : Int) ∧ p < (s.ord.length : Int) ∧ 0 ≤ f.f0 ∧ f.f0 < (s.low.length : Int)
  rotate_left
  · rw [if_neg hb] at he; cases he
  rw [if_pos hb] at he
  have HB := zMk hb
  have HE := zMk he
  clear hb he p7 p8 hwj hw64
  obtain ⟨g2, c2, e2, -, -, -⟩ := Kd.R_form HW3.out.h2 (by have := HB.out; show 0 < s.low.length; omega)
  have E2 := zMk (show V.v2 = .slice (some ⟨g2, 0, none⟩) s.low.length c2 from e2)
  clear e2
  go_upto_region 4 with (fail)
  have HW4 := zMk (HW3.out.below (zBd (Below.refl w4.heap.size w4)))
  have BF4 := zMk (zKd BF3.out)
  have h2' := HW4.out.h2
  rw [show ({ V with vS := .slice (some ⟨gs, 0, none⟩) (j + 1) cS } : WkV).v2 = V.v2 from rfl, E2.out] at h2'
  obtain ⟨hxp, hfp⟩ := Kd.R_celln (0 : Int) h2' p HB.out.1 HB.out.2.1
  obtain ⟨hxf, -⟩ := Kd.R_celln (0 : Int) h2' f.f0 HB.out.2.2.2.1 HB.out.2.2.2.2
  have HXP := zMk (show w4.drew.cell? ⟨g2, p.toNat, none⟩ = some (.int .i64 (rd s.low p)) from hxp)
  have HXF := zMk (show w4.drew.cell? ⟨g2, f.f0.toNat, none⟩ = some (.int .i64 (rd s.low f.f0)) from hxf)
  clear h2' hxp hxf
  have b1 : (0 ≤ p) = True := eq_true HB.out.1
  have b2 : (p < (s.low.length : Int)) = True := eq_true HB.out.2.1
  have b3 : (0 ≤ f.f0) = True := eq_true HB.out.2.2.2.1
  have b4 : (f.f0 < (s.low.length : Int)) = True := eq_true HB.out.2.2.2.2
  refine start_ (n := 23) (S := fun w' => w'.cell? ⟨gw, 2, none⟩ = some (.slice (some ⟨g2, 0, none⟩) s.low.length c2) ∧ w'.cell? ⟨bf, 0, none⟩ = some (.int .i64 f.f0) ∧ w'.cell? ⟨g2, p.toNat, none⟩ = some (.int .i64 (rd s.low p)) ∧ w'.cell? ⟨g2, f.f0.toNat, none⟩ = some (.int .i64 (rd s.low f.f0))) (ds := [22]) #[false, false, false, false, false, false, false, false, false, false, false, false, false, false, false, false, false, false, false, false, false, false, false] (by kernel_rfl) rfl rfl ⟨(zKc HW4.out.hw 2).trans (congrArg some E2.out), (zKc BF4.out 0).trans rfl, HXP.out, HXF.out⟩ (fun hHeld => ?_)
  generalize w4.drew = w5 at HW4 BF4 HXP HXF hfp hHeld ⊢
  refine pure_ (i := 0) (N := some 49) (v := ?_) (a' := ?_) #[true, false, false, false, false, false, false, false, false, false, false, false, false, false, false, false, false, false, false, false, false, false, false] rfl rfl (by kernel_rfl) (fun _ _ _ h => h) (Or.inl ⟨by rfl, ?_⟩) ?_ ?_
  rotate_left
  · intro w'
    go_simp
    with_reducible rfl
  rotate_left
  · simp only [Act.put, zSa, zSb, zSc, i64_w, i32_w]
    rfl
  refine pure_ (i := 1) (N := some 50) (v := ?_) (a' := ?_) #[true, true, false, false, false, false, false, false, false, false, false, false, false, false, false, false, false, false, false, false, false, false, false] rfl rfl (by kernel_rfl) (fun _ _ _ h => h) (Or.inl ⟨by rfl, ?_⟩) ?_ ?_
  rotate_left
  · intro w'
    go_simp
    with_reducible rfl
  rotate_left
  · simp only [Act.put, zSa, zSb, zSc, i64_w, i32_w]
    rfl
  refine pure_ (i := 2) (N := some 51) (v := ?_) (a' := ?_) #[true, true, true, false, false, false, false, false, false, false, false, false, false, false, false, false, false, false, false, false, false, false, false] rfl rfl (by kernel_rfl) (fun _ _ _ h => h) (Or.inl ⟨by rfl, ?_⟩) ?_ ?_
  rotate_left
  · intro w'
    go_simp
    with_reducible rfl
  rotate_left
  · simp only [Act.put, zSa, zSb, zSc, i64_w, i32_w]
    rfl
  refine pure_ (i := 4) (N := some 53) (v := ?_) (a' := ?_) #[true, true, true, false, true, false, false, false, false, false, false, false, false, false, false, false, false, false, false, false, false, false, false] rfl rfl (by kernel_rfl) (fun _ _ _ h => h) (Or.inl ⟨by rfl, ?_⟩) ?_ ?_
  rotate_left
  · intro w'
    go_simp
    with_reducible rfl
  rotate_left
  · simp only [Act.put, zSa, zSb, zSc, i64_w, i32_w]
    rfl
  refine pure_ (i := 5) (N := some 54) (v := ?_) (a' := ?_) #[true, true, true, false, true, true, false, false, false, false, false, false, false, false, false, false, false, false, false, false, false, false, false] rfl rfl (by kernel_rfl) (fun _ _ _ h => h) (Or.inl ⟨by rfl, ?_⟩) ?_ ?_
  rotate_left
  · intro w'
    go_simp
    with_reducible rfl
  rotate_left
  · simp only [Act.put, zSa, zSb, zSc, i64_w, i32_w]
    rfl
  refine pure_ (i := 6) (N := some 55) (v := ?_) (a' := ?_) #[true, true, true, false, true, true, true, false, false, false, false, false, false, false, false, false, false, false, false, false, false, false, false] rfl rfl (by kernel_rfl) (fun _ _ _ h => h) (Or.inl ⟨by rfl, ?_⟩) ?_ ?_
  rotate_left
  · intro w'
    go_simp
    with_reducible rfl
  rotate_left
  · simp only [Act.put, zSa, zSb, zSc, i64_w, i32_w]
    rfl
  refine pure_ (i := 7) (N := some 56) (v := ?_) (a' := ?_) #[true, true, true, false, true, true, true, true, false, false, false, false, false, false, false, false, false, false, false, false, false, false, false] rfl rfl (by kernel_rfl) (fun _ _ _ h => h) (Or.inl ⟨by rfl, ?_⟩) ?_ ?_
  rotate_left
  · intro w'
    go_simp
    with_reducible rfl
  rotate_left
  · simp only [Act.put, zSa, zSb, zSc, i64_w, i32_w]
    rfl
  refine pure_ (i := 9) (N := some 58) (v := ?_) (a' := ?_) #[true, true, true, false, true, true, true, true, false, true, false, false, false, false, false, false, false, false, false, false, false, false, false] rfl rfl (by kernel_rfl) (fun _ _ _ h => h) (Or.inl ⟨by rfl, ?_⟩) ?_ ?_
  rotate_left
  · intro w'
    go_simp
    with_reducible rfl
  rotate_left
  · simp only [Act.put, zSa, zSb, zSc, i64_w, i32_w]
    rfl
  refine pure_ (i := 12) (N := some 61) (v := ?_) (a' := ?_) #[true, true, true, false, true, true, true, true, false, true, false, false, true, false, false, false, false, false, false, false, false, false, false] rfl rfl (by kernel_rfl) (fun _ _ _ h => h) (Or.inl ⟨by rfl, ?_⟩) ?_ ?_
  rotate_left
  · intro w'
    go_simp
    with_reducible rfl
  rotate_left
  · simp only [Act.put, zSa, zSb, zSc, i64_w, i32_w]
    rfl
  refine pure_ (i := 13) (N := some 62) (v := ?_) (a' := ?_) #[true, true, true, false, true, true, true, true, false, true, false, false, true, true, false, false, false, false, false, false, false, false, false] rfl rfl (by kernel_rfl) (fun _ _ _ h => h) (Or.inl ⟨by rfl, ?_⟩) ?_ ?_
  rotate_left
  · intro w'
    go_simp
    with_reducible rfl
  rotate_left
  · simp only [Act.put, zSa, zSb, zSc, i64_w, i32_w]
    rfl
  refine pure_ (i := 14) (N := some 63) (v := ?_) (a' := ?_) #[true, true, true, false, true, true, true, true, false, true, false, false, true, true, true, false, false, false, false, false, false, false, false] rfl rfl (by kernel_rfl) (fun _ _ _ h => h) (Or.inl ⟨by rfl, ?_⟩) ?_ ?_
  rotate_left
  · intro w'
    go_simp
    with_reducible rfl
  rotate_left
  · simp only [Act.put, zSa, zSb, zSc, i64_w, i32_w]
    rfl
  refine pure_ (i := 16) (N := some 65) (v := ?_) (a' := ?_) #[true, true, true, false, true, true, true, true, false, true, false, false, true, true, true, false, true, false, false, false, false, false, false] rfl rfl (by kernel_rfl) (fun _ _ _ h => h) (Or.inl ⟨by rfl, ?_⟩) ?_ ?_
  rotate_left
  · intro w'
    go_simp
    with_reducible rfl
  rotate_left
  · simp only [Act.put, zSa, zSb, zSc, i64_w, i32_w]
    rfl
  refine take_ (i := 3) (N := some 52) (v := ?_) (a' := ?_) #[true, true, true, true, true, true, true, true, false, true, false, false, true, true, true, false, true, false, false, false, false, false, false] rfl rfl (by kernel_rfl) (fun _ _ _ h => h) (Or.inl ⟨by rfl, ?_⟩) hHeld ?_ ?_
  rotate_left
  · rintro w' ⟨s0, s1, s2, s3⟩
    go_simp
    with_reducible rfl
  rotate_left
  · simp only [Act.put, zSa, zSb, zSc, i64_w, i32_w]
    rfl
  refine take_ (i := 8) (N := some 57) (v := ?_) (a' := ?_) #[true, true, true, true, true, true, true, true, true, true, false, false, true, true, true, false, true, false, false, false, false, false, false] rfl rfl (by kernel_rfl) (fun _ _ _ h => h) (Or.inl ⟨by rfl, ?_⟩) hHeld ?_ ?_
  rotate_left
  · rintro w' ⟨s0, s1, s2, s3⟩
    go_simp
    with_reducible rfl
  rotate_left
  · simp only [Act.put, zSa, zSb, zSc, i64_w, i32_w]
    rfl
  refine pure_ (i := 10) (N := some 59) (v := ?_) (a' := ?_) #[true, true, true, true, true, true, true, true, true, true, true, false, true, true, true, false, true, false, false, false, false, false, false] rfl rfl (by kernel_rfl) (fun _ _ _ h => h) (Or.inl ⟨by rfl, ?_⟩) ?_ ?_
  rotate_left
  · intro w'
    go_simp
    with_reducible rfl
  rotate_left
  · simp only [Act.put, zSa, zSb, zSc, i64_w, i32_w]
    rfl
  refine take_ (i := 11) (N := some 60) (v := ?_) (a' := ?_) #[true, true, true, true, true, true, true, true, true, true, true, true, true, true, true, false, true, false, false, false, false, false, false] rfl rfl (by kernel_rfl) (fun _ _ _ h => h) (Or.inl ⟨by rfl, ?_⟩) hHeld ?_ ?_
  rotate_left
  · rintro w' ⟨s0, s1, s2, s3⟩
    go_simp
    with_reducible rfl
  rotate_left
  · simp only [Act.put, zSa, zSb, zSc, i64_w, i32_w]
    rfl
  refine take_ (i := 15) (N := some 64) (v := ?_) (a' := ?_) #[true, true, true, true, true, true, true, true, true, true, true, true, true, true, true, true, true, false, false, false, false, false, false] rfl rfl (by kernel_rfl) (fun _ _ _ h => h) (Or.inl ⟨by rfl, ?_⟩) hHeld ?_ ?_
  rotate_left
  · rintro w' ⟨s0, s1, s2, s3⟩
    go_simp
    with_reducible rfl
  rotate_left
  · simp only [Act.put, zSa, zSb, zSc, i64_w, i32_w]
    rfl
  refine take_ (i := 17) (N := some 66) (v := ?_) (a' := ?_) #[true, true, true, true, true, true, true, true, true, true, true, true, true, true, true, true, true, true, false, false, false, false, false] rfl rfl (by kernel_rfl) (fun _ _ _ h => h) (Or.inl ⟨by rfl, ?_⟩) hHeld ?_ ?_
  rotate_left
  · rintro w' ⟨s0, s1, s2, s3⟩
    go_simp
    with_reducible rfl
  rotate_left
  · simp only [Act.put, zSa, zSb, zSc, i64_w, i32_w]
    rfl
  refine pure_ (i := 18) (N := some 67) (v := ?_) (a' := ?_) #[true, true, true, true, true, true, true, true, true, true, true, true, true, true, true, true, true, true, true, false, false, false, false] rfl rfl (by kernel_rfl) (fun _ _ _ h => h) (Or.inl ⟨by rfl, ?_⟩) ?_ ?_
  rotate_left
  · intro w'
    go_simp
    with_reducible rfl
  rotate_left
  · simp only [Act.put, zSa, zSb, zSc, i64_w, i32_w]
    rfl
  refine take_ (i := 19) (N := some 68) (v := ?_) (a' := ?_) #[true, true, true, true, true, true, true, true, true, true, true, true, true, true, true, true, true, true, true, true, false, false, false] rfl rfl (by kernel_rfl) (fun _ _ _ h => h) (Or.inl ⟨by rfl, ?_⟩) hHeld ?_ ?_
  rotate_left
  · rintro w' ⟨s0, s1, s2, s3⟩
    go_simp
    with_reducible rfl
  rotate_left
  · simp only [Act.put, zSa, zSb, zSc, i64_w, i32_w]
    rfl
  refine pure_ (i := 20) (N := some 69) (v := ?_) (a' := ?_) #[true, true, true, true, true, true, true, true, true, true, true, true, true, true, true, true, true, true, true, true, true, false, false] rfl rfl (by kernel_rfl) (fun _ _ _ h => h) (Or.inl ⟨by rfl, ?_⟩) ?_ ?_
  rotate_left
  · intro w'
    go_simp
    with_reducible rfl
  rotate_left
  · simp only [Act.put, zSa, zSb, zSc, i64_w, i32_w]
    rfl
  refine pure_ (i := 21) (N := some 70) (v := ?_) (a' := ?_) #[true, true, true, true, true, true, true, true, true, true, true, true, true, true, true, true, true, true, true, true, true, true, false] rfl rfl (by kernel_rfl) (fun _ _ _ h => h) (Or.inl ⟨by rfl, ?_⟩) ?_ ?_
  rotate_left
  · intro w'
    go_simp
    with_reducible rfl
  rotate_left
  · simp only [Act.put, zSa, zSb, zSc, i64_w, i32_w]
    rfl
  refine last_ (i := 22) (N := none) #[true, true, true, true, true, true, true, true, true, true, true, true, true, true, true, true, true, true, true, true, true, true, true] rfl rfl (by kernel_rfl) (by decide) (fun K hK => ?_)
  have hxp := HXP.out
  refine skip_ (w1 := ?_) (by rfl) rfl ?_ ?_
  rotate_left
  · go_simp
    rfl
  refine hK.out _ _ ?_
  clear hK K
  refine done_ (by kernel_rfl) ?_
  have HW5 := zMk (HW4.out.put2 (show ({ V with vS := .slice (some ⟨gs, 0, none⟩) (j + 1) cS } : WkV).v2 = _ from E2.out) p (if rd s.low f.f0 < rd s.low p then rd s.low f.f0 else rd s.low p))
  have BF5 := zMk (blk_far (p := ⟨g2, p.toNat, none⟩) BF4.out (show bf ≠ g2 from by
    rintro rfl
    obtain ⟨cells, h3⟩ := Kd.R_typed HW4.out.h2 bf (by show V.v2.ownBlock = _; rw [E2.out]; exact wk_own)
    rw [BF4.out] at h3
    injection h3 with h3
    injection h3 with _ h3
    exact absurd h3 (by decide)) (.int .i64 (if rd s.low f.f0 < rd s.low p then rd s.low f.f0 else rd s.low p)))
  clear HW3 HW4 BF3 BF4 HXP HXF hfp hxp
  generalize w5.setCell ⟨g2, p.toNat, none⟩ (.int .i64 (if rd s.low f.f0 < rd s.low p then rd s.low f.f0 else rd s.low p)) = w6 at HW5 BF5 ⊢
  have he := HE.out
  clear HE
  generalize hx : (if rd s.low f.f0 < rd s.low p then rd s.low f.f0 else rd s.low p) = x at HW5 he
  clear hx
  obtain ⟨s2, hs2⟩ : ∃ s2 : Wk, s2 = { s with stack := s.stack.take (j + 1), low := s.low.set p.toNat x } := ⟨_, rfl⟩
  rw [← hs2] at he
  have HS2 := zMk (show WkW w0 wn w6 gw (.slice An near.length cn) { V with vS := .slice (some ⟨gs, 0, none⟩) (j + 1) cS } s2 from hs2 ▸ HW5.out)
  have L2 := zMk (show s2.low.length = s.low.length by rw [hs2]; exact List.length_set ..)
  have O2 := zMk (show s2.ord = s.ord by rw [hs2])
  have HE := zMk he
  clear HW5 he hs2
  obtain ⟨g1, c1, e1, -, -, -⟩ := Kd.R_form HS2.out.h1 (by rw [O2.out]; have := HB.out; omega)
  have E1 := zMk (show V.v1 = .slice (some ⟨g1, 0, none⟩) s.ord.length c1 from by rw [← O2.out]; exact e1)
  clear e1
  go_upto_region 5 with (fail)
  have HS5 := zMk (HS2.out.below (zBd (Below.refl w6.heap.size w6)))
  have BF6 := zMk (zKd BF5.out)
  have h2' := HS5.out.h2
  rw [show ({ V with vS := .slice (some ⟨gs, 0, none⟩) (j + 1) cS } : WkV).v2 = V.v2 from rfl, E2.out] at h2'
  obtain ⟨hxf, -⟩ := Kd.R_celln (0 : Int) h2' f.f0 HB.out.2.2.2.1 HB.out.2.2.2.2
  have h1' := HS5.out.h1
  rw [show ({ V with vS := .slice (some ⟨gs, 0, none⟩) (j + 1) cS } : WkV).v1 = V.v1 from rfl, E1.out] at h1'
  obtain ⟨hxo, -⟩ := Kd.R_celln (0 : Int) h1' p HB.out.1 HB.out.2.2.1
  rw [O2.out] at hxo
  have HXO := zMk (show w6.drew.cell? ⟨g1, p.toNat, none⟩ = some (.int .i64 (rd s.ord p)) from hxo)
  have HXF := zMk (show w6.drew.cell? ⟨g2, f.f0.toNat, none⟩ = some (.int .i64 (rd s2.low f.f0)) from hxf)
  clear h2' h1' hxo hxf
  have b5 : (p < (s.ord.length : Int)) = True := eq_true HB.out.2.2.1
  refine start_ (n := 16) (S := fun w' => w'.cell? ⟨gw, 2, none⟩ = some (.slice (some ⟨g2, 0, none⟩) s.low.length c2) ∧ w'.cell? ⟨bf, 0, none⟩ = some (.int .i64 f.f0) ∧ w'.cell? ⟨gw, 1, none⟩ = some (.slice (some ⟨g1, 0, none⟩) s.ord.length c1) ∧ w'.cell? ⟨g1, p.toNat, none⟩ = some (.int .i64 (rd s.ord p)) ∧ w'.cell? ⟨g2, f.f0.toNat, none⟩ = some (.int .i64 (rd s2.low f.f0))) (ds := []) #[false, false, false, false, false, false, false, false, false, false, false, false, false, false, false, false] (by kernel_rfl) rfl rfl ⟨(zKc HS5.out.hw 2).trans (congrArg some E2.out), (zKc BF6.out 0).trans rfl, (zKc HS5.out.hw 1).trans (congrArg some E1.out), HXO.out, HXF.out⟩ (fun hHeld => ?_)
  generalize w6.drew = w7 at HS5 BF6 HXO HXF hHeld ⊢
  refine pure_ (i := 0) (N := some 71) (v := ?_) (a' := ?_) #[true, false, false, false, false, false, false, false, false, false, false, false, false, false, false, false] rfl rfl (by kernel_rfl) (fun _ _ _ h => h) (Or.inl ⟨by rfl, ?_⟩) ?_ ?_
  rotate_left
  · intro w'
    go_simp
    with_reducible rfl
  rotate_left
  · simp only [Act.put, zSa, zSb, zSc, i64_w, i32_w]
    rfl
  refine pure_ (i := 1) (N := some 72) (v := ?_) (a' := ?_) #[true, true, false, false, false, false, false, false, false, false, false, false, false, false, false, false] rfl rfl (by kernel_rfl) (fun _ _ _ h => h) (Or.inl ⟨by rfl, ?_⟩) ?_ ?_
  rotate_left
  · intro w'
    go_simp
    with_reducible rfl
  rotate_left
  · simp only [Act.put, zSa, zSb, zSc, i64_w, i32_w]
    rfl
  refine pure_ (i := 2) (N := some 73) (v := ?_) (a' := ?_) #[true, true, true, false, false, false, false, false, false, false, false, false, false, false, false, false] rfl rfl (by kernel_rfl) (fun _ _ _ h => h) (Or.inl ⟨by rfl, ?_⟩) ?_ ?_
  rotate_left
  · intro w'
    go_simp
    with_reducible rfl
  rotate_left
  · simp only [Act.put, zSa, zSb, zSc, i64_w, i32_w]
    rfl
  refine pure_ (i := 4) (N := some 75) (v := ?_) (a' := ?_) #[true, true, true, false, true, false, false, false, false, false, false, false, false, false, false, false] rfl rfl (by kernel_rfl) (fun _ _ _ h => h) (Or.inl ⟨by rfl, ?_⟩) ?_ ?_
  rotate_left
  · intro w'
    go_simp
    with_reducible rfl
  rotate_left
  · simp only [Act.put, zSa, zSb, zSc, i64_w, i32_w]
    rfl
  refine pure_ (i := 8) (N := some 79) (v := ?_) (a' := ?_) #[true, true, true, false, true, false, false, false, true, false, false, false, false, false, false, false] rfl rfl (by kernel_rfl) (fun _ _ _ h => h) (Or.inl ⟨by rfl, ?_⟩) ?_ ?_
  rotate_left
  · intro w'
    go_simp
    with_reducible rfl
  rotate_left
  · simp only [Act.put, zSa, zSb, zSc, i64_w, i32_w]
    rfl
  refine pure_ (i := 9) (N := some 80) (v := ?_) (a' := ?_) #[true, true, true, false, true, false, false, false, true, true, false, false, false, false, false, false] rfl rfl (by kernel_rfl) (fun _ _ _ h => h) (Or.inl ⟨by rfl, ?_⟩) ?_ ?_
  rotate_left
  · intro w'
    go_simp
    with_reducible rfl
  rotate_left
  · simp only [Act.put, zSa, zSb, zSc, i64_w, i32_w]
    rfl
  refine pure_ (i := 10) (N := some 81) (v := ?_) (a' := ?_) #[true, true, true, false, true, false, false, false, true, true, true, false, false, false, false, false] rfl rfl (by kernel_rfl) (fun _ _ _ h => h) (Or.inl ⟨by rfl, ?_⟩) ?_ ?_
  rotate_left
  · intro w'
    go_simp
    with_reducible rfl
  rotate_left
  · simp only [Act.put, zSa, zSb, zSc, i64_w, i32_w]
    rfl
  refine pure_ (i := 12) (N := some 83) (v := ?_) (a' := ?_) #[true, true, true, false, true, false, false, false, true, true, true, false, true, false, false, false] rfl rfl (by kernel_rfl) (fun _ _ _ h => h) (Or.inl ⟨by rfl, ?_⟩) ?_ ?_
  rotate_left
  · intro w'
    go_simp
    with_reducible rfl
  rotate_left
  · simp only [Act.put, zSa, zSb, zSc, i64_w, i32_w]
    rfl
  refine take_ (i := 3) (N := some 74) (v := ?_) (a' := ?_) #[true, true, true, true, true, false, false, false, true, true, true, false, true, false, false, false] rfl rfl (by kernel_rfl) (fun _ _ _ h => h) (Or.inl ⟨by rfl, ?_⟩) hHeld ?_ ?_
  rotate_left
  · rintro w' ⟨s0, s1, s2, s3, s4⟩
    go_simp
    with_reducible rfl
  rotate_left
  · simp only [Act.put, zSa, zSb, zSc, i64_w, i32_w]
    rfl
  refine take_ (i := 5) (N := some 76) (v := ?_) (a' := ?_) #[true, true, true, true, true, true, false, false, true, true, true, false, true, false, false, false] rfl rfl (by kernel_rfl) (fun _ _ _ h => h) (Or.inl ⟨by rfl, ?_⟩) hHeld ?_ ?_
  rotate_left
  · rintro w' ⟨s0, s1, s2, s3, s4⟩
    go_simp
    with_reducible rfl
  rotate_left
  · simp only [Act.put, zSa, zSb, zSc, i64_w, i32_w]
    rfl
  refine pure_ (i := 6) (N := some 77) (v := ?_) (a' := ?_) #[true, true, true, true, true, true, true, false, true, true, true, false, true, false, false, false] rfl rfl (by kernel_rfl) (fun _ _ _ h => h) (Or.inl ⟨by rfl, ?_⟩) ?_ ?_
  rotate_left
  · intro w'
    go_simp
    with_reducible rfl
  rotate_left
  · simp only [Act.put, zSa, zSb, zSc, i64_w, i32_w]
    rfl
  refine take_ (i := 7) (N := some 78) (v := ?_) (a' := ?_) #[true, true, true, true, true, true, true, true, true, true, true, false, true, false, false, false] rfl rfl (by kernel_rfl) (fun _ _ _ h => h) (Or.inl ⟨by rfl, ?_⟩) hHeld ?_ ?_
  rotate_left
  · rintro w' ⟨s0, s1, s2, s3, s4⟩
    go_simp
    with_reducible rfl
  rotate_left
  · simp only [Act.put, zSa, zSb, zSc, i64_w, i32_w]
    rfl
  refine take_ (i := 11) (N := some 82) (v := ?_) (a' := ?_) #[true, true, true, true, true, true, true, true, true, true, true, true, true, false, false, false] rfl rfl (by kernel_rfl) (fun _ _ _ h => h) (Or.inl ⟨by rfl, ?_⟩) hHeld ?_ ?_
  rotate_left
  · rintro w' ⟨s0, s1, s2, s3, s4⟩
    go_simp
    with_reducible rfl
  rotate_left
  · simp only [Act.put, zSa, zSb, zSc, i64_w, i32_w]
    rfl
  refine pure_ (i := 13) (N := some 84) (v := ?_) (a' := ?_) #[true, true, true, true, true, true, true, true, true, true, true, true, true, true, false, false] rfl rfl (by kernel_rfl) (fun _ _ _ h => h) (Or.inl ⟨by rfl, ?_⟩) ?_ ?_
  rotate_left
  · intro w'
    go_simp
    with_reducible rfl
  rotate_left
  · simp only [Act.put, zSa, zSb, zSc, i64_w, i32_w]
    rfl
  refine take_ (i := 14) (N := some 85) (v := ?_) (a' := ?_) #[true, true, true, true, true, true, true, true, true, true, true, true, true, true, true, false] rfl rfl (by kernel_rfl) (fun _ _ _ h => h) (Or.inl ⟨by rfl, ?_⟩) hHeld ?_ ?_
  rotate_left
  · rintro w' ⟨s0, s1, s2, s3, s4⟩
    go_simp
    with_reducible rfl
  rotate_left
  · simp only [Act.put, zSa, zSb, zSc, i64_w, i32_w]
    rfl
  refine pure_ (i := 15) (N := some 86) (v := ?_) (a' := ?_) #[true, true, true, true, true, true, true, true, true, true, true, true, true, true, true, true] rfl rfl (by kernel_rfl) (fun _ _ _ h => h) (Or.inl ⟨by rfl, ?_⟩) ?_ ?_
  rotate_left
  · intro w'
    go_simp
    with_reducible rfl
  rotate_left
  · simp only [Act.put, zSa, zSb, zSc, i64_w, i32_w]
    rfl
  refine done_ (by kernel_rfl) ?_
  have HS6 := HS5
  have hfb0 : w7.cell? ⟨bf, 1, none⟩ = some (.int .i64 f.f1) := (zKc BF6.out 1).trans rfl
  clear HXO HXF HS2 BF5 b1 b2 b3 b4 b5
  have he := HE.out
  clear HE
  unfold wkTail at he
  by_cases hle : rd s.ord p ≤ rd s2.low f.f0
  rotate_left
  · rw [if_neg hle] at he
    obtain rfl := zOi he
    have hd : decide (rd s.ord p ≤ rd s2.low f.f0) = false := decide_eq_false hle
    go_upto_if 86 with (fail)
    first | rw [hd] | skip
    clear hle
    go_wp2
    first | go_end0 | ((try simp only [Exit.inBlock, Exit.then]); refine bodyPost_ret (results_none rfl _ _ _) rfl ?_)
    exact ⟨rfl, _, HS6.out⟩
  rw [if_pos hle] at he
  have hd : decide (rd s.ord p ≤ rd s2.low f.f0) = true := decide_eq_true hle
  obtain ⟨s3, ho, he⟩ := Option.bind_eq_some_iff.1 he
  have HO3 := zMk ho
  have HE := zMk he
  clear ho he hle
  go_upto_if 86 with (fail)
  first | rw [hd] | skip
  clear hd
  go_upto_region 7 with (go_at_call 71; refine (HOFF.out _ _ _ _ _ HS6.out HO3.out).mono ?_; rintro e w8 ⟨rfl, hb8, V3, h8⟩; have HS8 := zMk h8; clear hb8 h8)
  clear HS6 HS5 BF6 hfb0 HO3 E1 E2 L2 O2
  have he := HE.out
  clear HE
  unfold wkCut at he
  obtain ⟨c, hcn, he⟩ := Option.bind_eq_some_iff.1 he
  have HCN := zMk hcn
  have HE := zMk he
  clear hcn he
  obtain ⟨A9, c9, e9⟩ := zRs HS8.out.hS
  have E9 := zMk e9
  clear e9
  have P0 := zMk HB.out.1
  go_cut [119] from 91 to 118 (fun v119 wc => v119 = .bool c ∧ Aside0 (WkW w0 wn wc gw (.slice An near.length cn) V3 s3))
  case first =>
    have HS9 := zMk (HS8.out.below (zBd (Below.refl w8.heap.size w8)))
    by_cases h1 : 1 < s3.stack.length
    · have hcn := HCN.out
      rw [if_pos h1] at hcn
      obtain rfl := zOi hcn
      have hd : decide ((1 : Int) < (s3.stack.length : Int)) = true := decide_eq_true (by omega)
      have HH1 := zMk h1
      clear hcn h1
      refine start_ (n := 29) (S := fun w' => w'.cell? ⟨gw, 9, none⟩ = some (.slice A9 s3.stack.length c9)) (ds := []) #[false, false, false, false, false, false, false, false, false, false, false, false, false, false, false, false, false, false, false, false, false, false, false, false, false, false, false, false, false] (by kernel_rfl) rfl rfl ((zKc HS9.out.hw 9).trans (congrArg some E9.out)) (fun hHeld => ?_)
      generalize w8.drew = w9 at HS9 hHeld ⊢
      refine pure_ (i := 0) (N := some 91) (v := ?_) (a' := ?_) #[true, false, false, false, false, false, false, false, false, false, false, false, false, false, false, false, false, false, false, false, false, false, false, false, false, false, false, false, false] rfl rfl (by kernel_rfl) (fun _ _ _ h => h) (Or.inl ⟨by rfl, ?_⟩) ?_ ?_
      rotate_left
      · intro w'
        go_simp
        with_reducible rfl
      rotate_left
      · simp only [Act.put, zSa, zSb, zSc, i64_w, i32_w]
        rfl
      refine pure_ (i := 1) (N := some 92) (v := ?_) (a' := ?_) #[true, true, false, false, false, false, false, false, false, false, false, false, false, false, false, false, false, false, false, false, false, false, false, false, false, false, false, false, false] rfl rfl (by kernel_rfl) (fun _ _ _ h => h) (Or.inl ⟨by rfl, ?_⟩) ?_ ?_
      rotate_left
      · intro w'
        go_simp
        with_reducible rfl
      rotate_left
      · simp only [Act.put, zSa, zSb, zSc, i64_w, i32_w]
        rfl
      refine pure_ (i := 2) (N := some 93) (v := ?_) (a' := ?_) #[true, true, true, false, false, false, false, false, false, false, false, false, false, false, false, false, false, false, false, false, false, false, false, false, false, false, false, false, false] rfl rfl (by kernel_rfl) (fun _ _ _ h => h) (Or.inl ⟨by rfl, ?_⟩) ?_ ?_
      rotate_left
      · intro w'
        go_simp
        with_reducible rfl
      rotate_left
      · simp only [Act.put, zSa, zSb, zSc, i64_w, i32_w]
        rfl
      refine take_ (i := 3) (N := some 94) (v := ?_) (a' := ?_) #[true, true, true, true, false, false, false, false, false, false, false, false, false, false, false, false, false, false, false, false, false, false, false, false, false, false, false, false, false] rfl rfl (by kernel_rfl) (fun _ _ _ h => h) (Or.inl ⟨by rfl, ?_⟩) hHeld ?_ ?_
      rotate_left
      · intro w' s0
        go_simp
        with_reducible rfl
      rotate_left
      · simp only [Act.put, zSa, zSb, zSc, i64_w, i32_w]
        rfl
      refine pure_ (i := 4) (N := some 95) (v := ?_) (a' := ?_) #[true, true, true, true, true, false, false, false, false, false, false, false, false, false, false, false, false, false, false, false, false, false, false, false, false, false, false, false, false] rfl rfl (by kernel_rfl) (fun _ _ _ h => h) (Or.inl ⟨by rfl, ?_⟩) ?_ ?_
      rotate_left
      · intro w'
        go_simp
        with_reducible rfl
      rotate_left
      · simp only [Act.put, zSa, zSb, zSc, i64_w, i32_w]
        rfl
      refine pure_ (i := 5) (N := some 96) (v := ?_) (a' := ?_) #[true, true, true, true, true, true, false, false, false, false, false, false, false, false, false, false, false, false, false, false, false, false, false, false, false, false, false, false, false] rfl rfl (by kernel_rfl) (fun _ _ _ h => h) (Or.inl ⟨by rfl, ?_⟩) ?_ ?_
      rotate_left
      · intro w'
        go_simp
        with_reducible rfl
      rotate_left
      · simp only [Act.put, zSa, zSb, zSc, i64_w, i32_w]
        rfl
      refine pure_ (i := 6) (N := some 97) (v := ?_) (a' := ?_) #[true, true, true, true, true, true, true, false, false, false, false, false, false, false, false, false, false, false, false, false, false, false, false, false, false, false, false, false, false] rfl rfl (by kernel_rfl) (fun _ _ _ h => h) (Or.inl ⟨by rfl, ?_⟩) ?_ ?_
      rotate_left
      · intro w'
        go_simp
        with_reducible rfl
      rotate_left
      · simp only [Act.put, zSa, zSb, zSc, i64_w, i32_w]
        rfl
      refine pure_ (i := 7) (N := some 98) (v := undef) (a' := ?_) #[true, true, true, true, true, true, true, true, false, false, false, false, false, false, false, false, false, false, false, false, false, false, false, false, false, false, false, false, false] rfl rfl (by kernel_rfl) (fun _ _ _ h => h) (Or.inr ⟨by rfl, rfl⟩) ?_ ?_
      rotate_left
      · simp only [Act.put, zSa, zSb, zSc, i64_w, i32_w]
        rfl
      refine pure_ (i := 8) (N := some 99) (v := undef) (a' := ?_) #[true, true, true, true, true, true, true, true, true, false, false, false, false, false, false, false, false, false, false, false, false, false, false, false, false, false, false, false, false] rfl rfl (by kernel_rfl) (fun _ _ _ h => h) (Or.inr ⟨by rfl, rfl⟩) ?_ ?_
      rotate_left
      · simp only [Act.put, zSa, zSb, zSc, i64_w, i32_w]
        rfl
      refine pure_ (i := 9) (N := some 100) (v := undef) (a' := ?_) #[true, true, true, true, true, true, true, true, true, true, false, false, false, false, false, false, false, false, false, false, false, false, false, false, false, false, false, false, false] rfl rfl (by kernel_rfl) (fun _ _ _ h => h) (Or.inr ⟨by rfl, rfl⟩) ?_ ?_
      rotate_left
      · simp only [Act.put, zSa, zSb, zSc, i64_w, i32_w]
        rfl
      refine pure_ (i := 10) (N := some 101) (v := undef) (a' := ?_) #[true, true, true, true, true, true, true, true, true, true, true, false, false, false, false, false, false, false, false, false, false, false, false, false, false, false, false, false, false] rfl rfl (by kernel_rfl) (fun _ _ _ h => h) (Or.inr ⟨by rfl, rfl⟩) ?_ ?_
      rotate_left
      · simp only [Act.put, zSa, zSb, zSc, i64_w, i32_w]
        rfl
      refine pure_ (i := 11) (N := some 102) (v := undef) (a' := ?_) #[true, true, true, true, true, true, true, true, true, true, true, true, false, false, false, false, false, false, false, false, false, false, false, false, false, false, false, false, false] rfl rfl (by kernel_rfl) (fun _ _ _ h => h) (Or.inr ⟨by rfl, rfl⟩) ?_ ?_
      rotate_left
      · simp only [Act.put, zSa, zSb, zSc, i64_w, i32_w]
        rfl
      refine pure_ (i := 12) (N := some 103) (v := undef) (a' := ?_) #[true, true, true, true, true, true, true, true, true, true, true, true, true, false, false, false, false, false, false, false, false, false, false, false, false, false, false, false, false] rfl rfl (by kernel_rfl) (fun _ _ _ h => h) (Or.inr ⟨by rfl, rfl⟩) ?_ ?_
      rotate_left
      · simp only [Act.put, zSa, zSb, zSc, i64_w, i32_w]
        rfl
      refine pure_ (i := 13) (N := some 104) (v := undef) (a' := ?_) #[true, true, true, true, true, true, true, true, true, true, true, true, true, true, false, false, false, false, false, false, false, false, false, false, false, false, false, false, false] rfl rfl (by kernel_rfl) (fun _ _ _ h => h) (Or.inr ⟨by rfl, rfl⟩) ?_ ?_
      rotate_left
      · simp only [Act.put, zSa, zSb, zSc, i64_w, i32_w]
        rfl
      refine pure_ (i := 14) (N := some 105) (v := undef) (a' := ?_) #[true, true, true, true, true, true, true, true, true, true, true, true, true, true, true, false, false, false, false, false, false, false, false, false, false, false, false, false, false] rfl rfl (by kernel_rfl) (fun _ _ _ h => h) (Or.inr ⟨by rfl, rfl⟩) ?_ ?_
      rotate_left
      · simp only [Act.put, zSa, zSb, zSc, i64_w, i32_w]
        rfl
      refine pure_ (i := 15) (N := some 106) (v := undef) (a' := ?_) #[true, true, true, true, true, true, true, true, true, true, true, true, true, true, true, true, false, false, false, false, false, false, false, false, false, false, false, false, false] rfl rfl (by kernel_rfl) (fun _ _ _ h => h) (Or.inr ⟨by rfl, rfl⟩) ?_ ?_
      rotate_left
      · simp only [Act.put, zSa, zSb, zSc, i64_w, i32_w]
        rfl
      refine pure_ (i := 16) (N := some 107) (v := undef) (a' := ?_) #[true, true, true, true, true, true, true, true, true, true, true, true, true, true, true, true, true, false, false, false, false, false, false, false, false, false, false, false, false] rfl rfl (by kernel_rfl) (fun _ _ _ h => h) (Or.inr ⟨by rfl, rfl⟩) ?_ ?_
      rotate_left
      · simp only [Act.put, zSa, zSb, zSc, i64_w, i32_w]
        rfl
      refine pure_ (i := 17) (N := some 108) (v := undef) (a' := ?_) #[true, true, true, true, true, true, true, true, true, true, true, true, true, true, true, true, true, true, false, false, false, false, false, false, false, false, false, false, false] rfl rfl (by kernel_rfl) (fun _ _ _ h => h) (Or.inr ⟨by rfl, rfl⟩) ?_ ?_
      rotate_left
      · simp only [Act.put, zSa, zSb, zSc, i64_w, i32_w]
        rfl
      refine pure_ (i := 18) (N := some 109) (v := undef) (a' := ?_) #[true, true, true, true, true, true, true, true, true, true, true, true, true, true, true, true, true, true, true, false, false, false, false, false, false, false, false, false, false] rfl rfl (by kernel_rfl) (fun _ _ _ h => h) (Or.inr ⟨by rfl, rfl⟩) ?_ ?_
      rotate_left
      · simp only [Act.put, zSa, zSb, zSc, i64_w, i32_w]
        rfl
      refine pure_ (i := 19) (N := some 110) (v := undef) (a' := ?_) #[true, true, true, true, true, true, true, true, true, true, true, true, true, true, true, true, true, true, true, true, false, false, false, false, false, false, false, false, false] rfl rfl (by kernel_rfl) (fun _ _ _ h => h) (Or.inr ⟨by rfl, rfl⟩) ?_ ?_
      rotate_left
      · simp only [Act.put, zSa, zSb, zSc, i64_w, i32_w]
        rfl
      refine pure_ (i := 20) (N := some 111) (v := undef) (a' := ?_) #[true, true, true, true, true, true, true, true, true, true, true, true, true, true, true, true, true, true, true, true, true, false, false, false, false, false, false, false, false] rfl rfl (by kernel_rfl) (fun _ _ _ h => h) (Or.inr ⟨by rfl, rfl⟩) ?_ ?_
      rotate_left
      · simp only [Act.put, zSa, zSb, zSc, i64_w, i32_w]
        rfl
      refine pure_ (i := 21) (N := some 112) (v := undef) (a' := ?_) #[true, true, true, true, true, true, true, true, true, true, true, true, true, true, true, true, true, true, true, true, true, true, false, false, false, false, false, false, false] rfl rfl (by kernel_rfl) (fun _ _ _ h => h) (Or.inr ⟨by rfl, rfl⟩) ?_ ?_
      rotate_left
      · simp only [Act.put, zSa, zSb, zSc, i64_w, i32_w]
        rfl
      refine pure_ (i := 22) (N := some 113) (v := undef) (a' := ?_) #[true, true, true, true, true, true, true, true, true, true, true, true, true, true, true, true, true, true, true, true, true, true, true, false, false, false, false, false, false] rfl rfl (by kernel_rfl) (fun _ _ _ h => h) (Or.inr ⟨by rfl, rfl⟩) ?_ ?_
      rotate_left
      · simp only [Act.put, zSa, zSb, zSc, i64_w, i32_w]
        rfl
      refine pure_ (i := 23) (N := some 114) (v := undef) (a' := ?_) #[true, true, true, true, true, true, true, true, true, true, true, true, true, true, true, true, true, true, true, true, true, true, true, true, false, false, false, false, false] rfl rfl (by kernel_rfl) (fun _ _ _ h => h) (Or.inr ⟨by rfl, rfl⟩) ?_ ?_
      rotate_left
      · simp only [Act.put, zSa, zSb, zSc, i64_w, i32_w]
        rfl
      refine pure_ (i := 24) (N := some 115) (v := undef) (a' := ?_) #[true, true, true, true, true, true, true, true, true, true, true, true, true, true, true, true, true, true, true, true, true, true, true, true, true, false, false, false, false] rfl rfl (by kernel_rfl) (fun _ _ _ h => h) (Or.inr ⟨by rfl, rfl⟩) ?_ ?_
      rotate_left
      · simp only [Act.put, zSa, zSb, zSc, i64_w, i32_w]
        rfl
      refine pure_ (i := 25) (N := some 116) (v := undef) (a' := ?_) #[true, true, true, true, true, true, true, true, true, true, true, true, true, true, true, true, true, true, true, true, true, true, true, true, true, true, false, false, false] rfl rfl (by kernel_rfl) (fun _ _ _ h => h) (Or.inr ⟨by rfl, rfl⟩) ?_ ?_
      rotate_left
      · simp only [Act.put, zSa, zSb, zSc, i64_w, i32_w]
        rfl
      refine pure_ (i := 26) (N := some 117) (v := undef) (a' := ?_) #[true, true, true, true, true, true, true, true, true, true, true, true, true, true, true, true, true, true, true, true, true, true, true, true, true, true, true, false, false] rfl rfl (by kernel_rfl) (fun _ _ _ h => h) (Or.inr ⟨by rfl, rfl⟩) ?_ ?_
      rotate_left
      · simp only [Act.put, zSa, zSb, zSc, i64_w, i32_w]
        rfl
      refine pure_ (i := 27) (N := some 118) (v := undef) (a' := ?_) #[true, true, true, true, true, true, true, true, true, true, true, true, true, true, true, true, true, true, true, true, true, true, true, true, true, true, true, true, false] rfl rfl (by kernel_rfl) (fun _ _ _ h => h) (Or.inr ⟨by rfl, rfl⟩) ?_ ?_
      rotate_left
      · simp only [Act.put, zSa, zSb, zSc, i64_w, i32_w]
        rfl
      refine pure_ (i := 28) (N := some 119) (v := ?_) (a' := ?_) #[true, true, true, true, true, true, true, true, true, true, true, true, true, true, true, true, true, true, true, true, true, true, true, true, true, true, true, true, true] rfl rfl (by kernel_rfl) (fun _ _ _ h => h) (Or.inl ⟨by rfl, ?_⟩) ?_ ?_
      rotate_left
      · intro w'
        go_simp
        with_reducible rfl
      rotate_left
      · simp only [Act.put, zSa, zSb, zSc, i64_w, i32_w]
        rfl
      refine done_ (by kernel_rfl) ?_
      try go_wp2
      go_meet
      case rel => exact ⟨rfl, HS9⟩
    · have hcn := HCN.out
      rw [if_neg h1] at hcn
      by_cases hpn : p < (s3.next.length : Int) ∧ p < (near.length : Int)
      rotate_left
      · rw [if_neg hpn] at hcn; cases hcn
      rw [if_pos hpn] at hcn
      have hd : decide ((1 : Int) < (s3.stack.length : Int)) = false := decide_eq_false (by omega)
      obtain ⟨g3, c3, e3, -, -, -⟩ := Kd.R_form HS9.out.h3 (by have := P0.out; omega)
      have E3 := zMk e3
      have h3' := HS9.out.h3
      rw [e3] at h3'
      obtain ⟨hxn, -⟩ := Kd.R_celln (0 : Int) h3' p P0.out hpn.1
      have HXN := zMk (show w8.drew.cell? ⟨g3, p.toNat, none⟩ = some (.int .i64 (rd s3.next p)) from hxn)
      obtain ⟨adn, Ai, ci, ea, hcl, -, -⟩ := at_L3 (HS9.out.near HN.out) p P0.out hpn.2
      cases ea
      have HCL := zMk hcl
      have p1 : (0 ≤ p) = True := eq_true P0.out
      have p2 : (p < (s3.next.length : Int)) = True := eq_true hpn.1
      have p3 : (p < (near.length : Int)) = True := eq_true hpn.2
      clear h1 hpn e3 h3' hxn hcl
      generalize rd_L3 near p = L at HCL hcn
      by_cases hnl : rd s3.next p < (L.length : Int)
      · rw [if_pos hnl] at hcn
        have hd2 : decide (rd s3.next p < (L.length : Int)) = true := decide_eq_true hnl
        have HMC := zMk hcn
        clear hcn hnl
        refine wp_region_still_tail 26 (by kernel_rfl) (by kernel_rfl) ?_
        generalize hw9 : w8.drew = w9 at HS9 HXN HCL
        show wpStill _ _ w8.drew (fun a' => wpList _ _ _ _ a' w8.drew) _ _
        rw [hw9]
        clear hw9
        have z9 : w9.cell? ⟨gw, 9, none⟩ = some (.slice A9 s3.stack.length c9) := (zKc HS9.out.hw 9).trans (congrArg some E9.out)
        have z3 : w9.cell? ⟨gw, 3, none⟩ = some (.slice (some ⟨g3, 0, none⟩) s3.next.length c3) := (zKc HS9.out.hw 3).trans (congrArg some E3.out)
        have z0 : w9.cell? ⟨gw, 0, none⟩ = some (.slice (some adn) near.length cn) := (zKc HS9.out.hw 0).trans rfl
        have zx := HXN.out
        have zl := HCL.out
        simp only [List.take_succ_cons, List.take_zero, List.drop_succ_cons, List.drop_zero]
        repeat still_step
        refine wpStill_nil ?_
        clear z9 z3 z0 zx zl
        go_wp2_with (go_at_call 72; refine (HMORE.out _ _ _ _ _ HS9.out HMC.out).mono ?_; rintro e w10 ⟨rfl, hb⟩; have HS10 := zMk (HS9.out.below hb); clear hb)
        try go_wp2
        go_meet
        case rel => exact ⟨rfl, HS10⟩
      · rw [if_neg hnl] at hcn
        obtain rfl := zOi hcn
        have hd2 : decide (rd s3.next p < (L.length : Int)) = false := decide_eq_false hnl
        clear hcn hnl
        refine start_ (n := 29) (S := fun w' => w'.cell? ⟨gw, 9, none⟩ = some (.slice A9 s3.stack.length c9) ∧ w'.cell? ⟨gw, 3, none⟩ = some (.slice (some ⟨g3, 0, none⟩) s3.next.length c3) ∧ w'.cell? ⟨g3, p.toNat, none⟩ = some (.int .i64 (rd s3.next p)) ∧ w'.cell? ⟨gw, 0, none⟩ = some (.slice (some adn) near.length cn) ∧ w'.cell? (adn.add p.toNat) = some (.slice Ai L.length ci)) (ds := []) #[false, false, false, false, false, false, false, false, false, false, false, false, false, false, false, false, false, false, false, false, false, false, false, false, false, false, false, false, false] (by kernel_rfl) rfl rfl ⟨(zKc HS9.out.hw 9).trans (congrArg some E9.out), (zKc HS9.out.hw 3).trans (congrArg some E3.out), HXN.out, (zKc HS9.out.hw 0).trans rfl, HCL.out⟩ (fun hHeld => ?_)
        generalize w8.drew = w9 at HS9 HXN HCL hHeld ⊢
        refine pure_ (i := 0) (N := some 91) (v := ?_) (a' := ?_) #[true, false, false, false, false, false, false, false, false, false, false, false, false, false, false, false, false, false, false, false, false, false, false, false, false, false, false, false, false] rfl rfl (by kernel_rfl) (fun _ _ _ h => h) (Or.inl ⟨by rfl, ?_⟩) ?_ ?_
        rotate_left
        · intro w'
          go_simp
          with_reducible rfl
        rotate_left
        · simp only [Act.put, zSa, zSb, zSc, i64_w, i32_w]
          rfl
        refine pure_ (i := 1) (N := some 92) (v := ?_) (a' := ?_) #[true, true, false, false, false, false, false, false, false, false, false, false, false, false, false, false, false, false, false, false, false, false, false, false, false, false, false, false, false] rfl rfl (by kernel_rfl) (fun _ _ _ h => h) (Or.inl ⟨by rfl, ?_⟩) ?_ ?_
        rotate_left
        · intro w'
          go_simp
          with_reducible rfl
        rotate_left
        · simp only [Act.put, zSa, zSb, zSc, i64_w, i32_w]
          rfl
        refine pure_ (i := 2) (N := some 93) (v := ?_) (a' := ?_) #[true, true, true, false, false, false, false, false, false, false, false, false, false, false, false, false, false, false, false, false, false, false, false, false, false, false, false, false, false] rfl rfl (by kernel_rfl) (fun _ _ _ h => h) (Or.inl ⟨by rfl, ?_⟩) ?_ ?_
        rotate_left
        · intro w'
          go_simp
          with_reducible rfl
        rotate_left
        · simp only [Act.put, zSa, zSb, zSc, i64_w, i32_w]
          rfl
        refine take_ (i := 3) (N := some 94) (v := ?_) (a' := ?_) #[true, true, true, true, false, false, false, false, false, false, false, false, false, false, false, false, false, false, false, false, false, false, false, false, false, false, false, false, false] rfl rfl (by kernel_rfl) (fun _ _ _ h => h) (Or.inl ⟨by rfl, ?_⟩) hHeld ?_ ?_
        rotate_left
        · rintro w' ⟨s0, s1, s2, s3, s4⟩
          go_simp
          with_reducible rfl
        rotate_left
        · simp only [Act.put, zSa, zSb, zSc, i64_w, i32_w]
          rfl
        refine pure_ (i := 4) (N := some 95) (v := ?_) (a' := ?_) #[true, true, true, true, true, false, false, false, false, false, false, false, false, false, false, false, false, false, false, false, false, false, false, false, false, false, false, false, false] rfl rfl (by kernel_rfl) (fun _ _ _ h => h) (Or.inl ⟨by rfl, ?_⟩) ?_ ?_
        rotate_left
        · intro w'
          go_simp
          with_reducible rfl
        rotate_left
        · simp only [Act.put, zSa, zSb, zSc, i64_w, i32_w]
          rfl
        refine pure_ (i := 5) (N := some 96) (v := ?_) (a' := ?_) #[true, true, true, true, true, true, false, false, false, false, false, false, false, false, false, false, false, false, false, false, false, false, false, false, false, false, false, false, false] rfl rfl (by kernel_rfl) (fun _ _ _ h => h) (Or.inl ⟨by rfl, ?_⟩) ?_ ?_
        rotate_left
        · intro w'
          go_simp
          with_reducible rfl
        rotate_left
        · simp only [Act.put, zSa, zSb, zSc, i64_w, i32_w]
          rfl
        refine pure_ (i := 6) (N := some 97) (v := ?_) (a' := ?_) #[true, true, true, true, true, true, true, false, false, false, false, false, false, false, false, false, false, false, false, false, false, false, false, false, false, false, false, false, false] rfl rfl (by kernel_rfl) (fun _ _ _ h => h) (Or.inl ⟨by rfl, ?_⟩) ?_ ?_
        rotate_left
        · intro w'
          go_simp
          with_reducible rfl
        rotate_left
        · simp only [Act.put, zSa, zSb, zSc, i64_w, i32_w]
          rfl
        refine pure_ (i := 7) (N := some 98) (v := ?_) (a' := ?_) #[true, true, true, true, true, true, true, true, false, false, false, false, false, false, false, false, false, false, false, false, false, false, false, false, false, false, false, false, false] rfl rfl (by kernel_rfl) (fun _ _ _ h => h) (Or.inl ⟨by rfl, ?_⟩) ?_ ?_
        rotate_left
        · intro w'
          go_simp
          with_reducible rfl
        rotate_left
        · simp only [Act.put, zSa, zSb, zSc, i64_w, i32_w]
          rfl
        refine pure_ (i := 8) (N := some 99) (v := ?_) (a' := ?_) #[true, true, true, true, true, true, true, true, true, false, false, false, false, false, false, false, false, false, false, false, false, false, false, false, false, false, false, false, false] rfl rfl (by kernel_rfl) (fun _ _ _ h => h) (Or.inl ⟨by rfl, ?_⟩) ?_ ?_
        rotate_left
        · intro w'
          go_simp
          with_reducible rfl
        rotate_left
        · simp only [Act.put, zSa, zSb, zSc, i64_w, i32_w]
          rfl
        refine pure_ (i := 9) (N := some 100) (v := ?_) (a' := ?_) #[true, true, true, true, true, true, true, true, true, true, false, false, false, false, false, false, false, false, false, false, false, false, false, false, false, false, false, false, false] rfl rfl (by kernel_rfl) (fun _ _ _ h => h) (Or.inl ⟨by rfl, ?_⟩) ?_ ?_
        rotate_left
        · intro w'
          go_simp
          with_reducible rfl
        rotate_left
        · simp only [Act.put, zSa, zSb, zSc, i64_w, i32_w]
          rfl
        refine pure_ (i := 11) (N := some 102) (v := ?_) (a' := ?_) #[true, true, true, true, true, true, true, true, true, true, false, true, false, false, false, false, false, false, false, false, false, false, false, false, false, false, false, false, false] rfl rfl (by kernel_rfl) (fun _ _ _ h => h) (Or.inl ⟨by rfl, ?_⟩) ?_ ?_
        rotate_left
        · intro w'
          go_simp
          with_reducible rfl
        rotate_left
        · simp only [Act.put, zSa, zSb, zSc, i64_w, i32_w]
          rfl
        refine pure_ (i := 14) (N := some 105) (v := ?_) (a' := ?_) #[true, true, true, true, true, true, true, true, true, true, false, true, false, false, true, false, false, false, false, false, false, false, false, false, false, false, false, false, false] rfl rfl (by kernel_rfl) (fun _ _ _ h => h) (Or.inl ⟨by rfl, ?_⟩) ?_ ?_
        rotate_left
        · intro w'
          go_simp
          with_reducible rfl
        rotate_left
        · simp only [Act.put, zSa, zSb, zSc, i64_w, i32_w]
          rfl
        refine pure_ (i := 15) (N := some 106) (v := ?_) (a' := ?_) #[true, true, true, true, true, true, true, true, true, true, false, true, false, false, true, true, false, false, false, false, false, false, false, false, false, false, false, false, false] rfl rfl (by kernel_rfl) (fun _ _ _ h => h) (Or.inl ⟨by rfl, ?_⟩) ?_ ?_
        rotate_left
        · intro w'
          go_simp
          with_reducible rfl
        rotate_left
        · simp only [Act.put, zSa, zSb, zSc, i64_w, i32_w]
          rfl
        refine pure_ (i := 16) (N := some 107) (v := ?_) (a' := ?_) #[true, true, true, true, true, true, true, true, true, true, false, true, false, false, true, true, true, false, false, false, false, false, false, false, false, false, false, false, false] rfl rfl (by kernel_rfl) (fun _ _ _ h => h) (Or.inl ⟨by rfl, ?_⟩) ?_ ?_
        rotate_left
        · intro w'
          go_simp
          with_reducible rfl
        rotate_left
        · simp only [Act.put, zSa, zSb, zSc, i64_w, i32_w]
          rfl
        refine pure_ (i := 18) (N := some 109) (v := ?_) (a' := ?_) #[true, true, true, true, true, true, true, true, true, true, false, true, false, false, true, true, true, false, true, false, false, false, false, false, false, false, false, false, false] rfl rfl (by kernel_rfl) (fun _ _ _ h => h) (Or.inl ⟨by rfl, ?_⟩) ?_ ?_
        rotate_left
        · intro w'
          go_simp
          with_reducible rfl
        rotate_left
        · simp only [Act.put, zSa, zSb, zSc, i64_w, i32_w]
          rfl
        refine take_ (i := 10) (N := some 101) (v := ?_) (a' := ?_) #[true, true, true, true, true, true, true, true, true, true, true, true, false, false, true, true, true, false, true, false, false, false, false, false, false, false, false, false, false] rfl rfl (by kernel_rfl) (fun _ _ _ h => h) (Or.inl ⟨by rfl, ?_⟩) hHeld ?_ ?_
        rotate_left
        · rintro w' ⟨s0, s1, s2, s3, s4⟩
          go_simp
          with_reducible rfl
        rotate_left
        · simp only [Act.put, zSa, zSb, zSc, i64_w, i32_w]
          rfl
        refine pure_ (i := 12) (N := some 103) (v := ?_) (a' := ?_) #[true, true, true, true, true, true, true, true, true, true, true, true, true, false, true, true, true, false, true, false, false, false, false, false, false, false, false, false, false] rfl rfl (by kernel_rfl) (fun _ _ _ h => h) (Or.inl ⟨by rfl, ?_⟩) ?_ ?_
        rotate_left
        · intro w'
          go_simp
          with_reducible rfl
        rotate_left
        · simp only [Act.put, zSa, zSb, zSc, i64_w, i32_w]
          rfl
        refine take_ (i := 13) (N := some 104) (v := ?_) (a' := ?_) #[true, true, true, true, true, true, true, true, true, true, true, true, true, true, true, true, true, false, true, false, false, false, false, false, false, false, false, false, false] rfl rfl (by kernel_rfl) (fun _ _ _ h => h) (Or.inl ⟨by rfl, ?_⟩) hHeld ?_ ?_
        rotate_left
        · rintro w' ⟨s0, s1, s2, s3, s4⟩
          go_simp
          with_reducible rfl
        rotate_left
        · simp only [Act.put, zSa, zSb, zSc, i64_w, i32_w]
          rfl
        refine take_ (i := 17) (N := some 108) (v := ?_) (a' := ?_) #[true, true, true, true, true, true, true, true, true, true, true, true, true, true, true, true, true, true, true, false, false, false, false, false, false, false, false, false, false] rfl rfl (by kernel_rfl) (fun _ _ _ h => h) (Or.inl ⟨by rfl, ?_⟩) hHeld ?_ ?_
        rotate_left
        · rintro w' ⟨s0, s1, s2, s3, s4⟩
          go_simp
          with_reducible rfl
        rotate_left
        · simp only [Act.put, zSa, zSb, zSc, i64_w, i32_w]
          rfl
        refine pure_ (i := 19) (N := some 110) (v := ?_) (a' := ?_) #[true, true, true, true, true, true, true, true, true, true, true, true, true, true, true, true, true, true, true, true, false, false, false, false, false, false, false, false, false] rfl rfl (by kernel_rfl) (fun _ _ _ h => h) (Or.inl ⟨by rfl, ?_⟩) ?_ ?_
        rotate_left
        · intro w'
          go_simp
          with_reducible rfl
        rotate_left
        · simp only [Act.put, zSa, zSb, zSc, i64_w, i32_w]
          rfl
        refine take_ (i := 20) (N := some 111) (v := ?_) (a' := ?_) #[true, true, true, true, true, true, true, true, true, true, true, true, true, true, true, true, true, true, true, true, true, false, false, false, false, false, false, false, false] rfl rfl (by kernel_rfl) (fun _ _ _ h => h) (Or.inl ⟨by rfl, ?_⟩) hHeld ?_ ?_
        rotate_left
        · rintro w' ⟨s0, s1, s2, s3, s4⟩
          go_simp
          with_reducible rfl
        rotate_left
        · simp only [Act.put, zSa, zSb, zSc, i64_w, i32_w]
          rfl
        refine pure_ (i := 21) (N := some 112) (v := ?_) (a' := ?_) #[true, true, true, true, true, true, true, true, true, true, true, true, true, true, true, true, true, true, true, true, true, true, false, false, false, false, false, false, false] rfl rfl (by kernel_rfl) (fun _ _ _ h => h) (Or.inl ⟨by rfl, ?_⟩) ?_ ?_
        rotate_left
        · intro w'
          go_simp
          with_reducible rfl
        rotate_left
        · simp only [Act.put, zSa, zSb, zSc, i64_w, i32_w]
          rfl
        refine pure_ (i := 22) (N := some 113) (v := ?_) (a' := ?_) #[true, true, true, true, true, true, true, true, true, true, true, true, true, true, true, true, true, true, true, true, true, true, true, false, false, false, false, false, false] rfl rfl (by kernel_rfl) (fun _ _ _ h => h) (Or.inl ⟨by rfl, ?_⟩) ?_ ?_
        rotate_left
        · intro w'
          go_simp
          with_reducible rfl
        rotate_left
        · simp only [Act.put, zSa, zSb, zSc, i64_w, i32_w]
          rfl
        refine pure_ (i := 23) (N := some 114) (v := ?_) (a' := ?_) #[true, true, true, true, true, true, true, true, true, true, true, true, true, true, true, true, true, true, true, true, true, true, true, true, false, false, false, false, false] rfl rfl (by kernel_rfl) (fun _ _ _ h => h) (Or.inl ⟨by rfl, ?_⟩) ?_ ?_
        rotate_left
        · intro w'
          go_simp
          with_reducible rfl
        rotate_left
        · simp only [Act.put, zSa, zSb, zSc, i64_w, i32_w]
          rfl
        refine pure_ (i := 24) (N := some 115) (v := undef) (a' := ?_) #[true, true, true, true, true, true, true, true, true, true, true, true, true, true, true, true, true, true, true, true, true, true, true, true, true, false, false, false, false] rfl rfl (by kernel_rfl) (fun _ _ _ h => h) (Or.inr ⟨by rfl, rfl⟩) ?_ ?_
        rotate_left
        · simp only [Act.put, zSa, zSb, zSc, i64_w, i32_w]
          rfl
        refine pure_ (i := 25) (N := some 116) (v := undef) (a' := ?_) #[true, true, true, true, true, true, true, true, true, true, true, true, true, true, true, true, true, true, true, true, true, true, true, true, true, true, false, false, false] rfl rfl (by kernel_rfl) (fun _ _ _ h => h) (Or.inr ⟨by rfl, rfl⟩) ?_ ?_
        rotate_left
        · simp only [Act.put, zSa, zSb, zSc, i64_w, i32_w]
          rfl
        refine pure_ (i := 26) (N := some 117) (v := undef) (a' := ?_) #[true, true, true, true, true, true, true, true, true, true, true, true, true, true, true, true, true, true, true, true, true, true, true, true, true, true, true, false, false] rfl rfl (by kernel_rfl) (fun _ _ _ h => h) (Or.inr ⟨by rfl, rfl⟩) ?_ ?_
        rotate_left
        · simp only [Act.put, zSa, zSb, zSc, i64_w, i32_w]
          rfl
        refine pure_ (i := 27) (N := some 118) (v := ?_) (a' := ?_) #[true, true, true, true, true, true, true, true, true, true, true, true, true, true, true, true, true, true, true, true, true, true, true, true, true, true, true, true, false] rfl rfl (by kernel_rfl) (fun _ _ _ h => h) (Or.inl ⟨by rfl, ?_⟩) ?_ ?_
        rotate_left
        · intro w'
          go_simp
          with_reducible rfl
        rotate_left
        · simp only [Act.put, zSa, zSb, zSc, i64_w, i32_w]
          rfl
        refine pure_ (i := 28) (N := some 119) (v := ?_) (a' := ?_) #[true, true, true, true, true, true, true, true, true, true, true, true, true, true, true, true, true, true, true, true, true, true, true, true, true, true, true, true, true] rfl rfl (by kernel_rfl) (fun _ _ _ h => h) (Or.inl ⟨by rfl, ?_⟩) ?_ ?_
        rotate_left
        · intro w'
          go_simp
          with_reducible rfl
        rotate_left
        · simp only [Act.put, zSa, zSb, zSc, i64_w, i32_w]
          rfl
        refine done_ (by kernel_rfl) ?_
        try go_wp2
        go_meet
        case rel => exact ⟨rfl, HS9⟩
  case rest =>
    clear HS8
    obtain ⟨rfl, HS9⟩ := hcut
    have he := HE.out
    clear HE HCN
    cases c with
    | false =>
      rw [if_neg Bool.false_ne_true] at he
      obtain rfl := zOi he
      go_wp2
      first | go_end0 | ((try simp only [Exit.inBlock, Exit.then]); refine bodyPost_ret (results_none rfl _ _ _) rfl ?_)
      exact ⟨rfl, _, HS9.out⟩
    | true =>
      rw [if_pos rfl] at he
      by_cases hpc : p < (s3.cut.length : Int)
      rotate_left
      · rw [if_neg hpc] at he; cases he
      rw [if_pos hpc] at he
      obtain rfl := zOi he
      obtain ⟨g6, c6, e6, -, -, -⟩ := Kd.R_form HS9.out.h6 (by have := P0.out; omega)
      have z6 : wc.cell? ⟨gw, 6, none⟩ = some (.slice (some ⟨g6, 0, none⟩) s3.cut.length c6) := (zKc HS9.out.hw 6).trans (congrArg some e6)
      have h6' := HS9.out.h6
      rw [e6] at h6'
      obtain ⟨hxc, hfc⟩ := Kd.R_celln false h6' p P0.out hpc
      have p1 : (0 ≤ p) = True := eq_true P0.out
      have p2 : (p < (s3.cut.length : Int)) = True := eq_true hpc
      have HF := zMk (HS9.out.put6 e6 p true)
      clear he h6' hpc e6
      go_wp2
      first | go_end0 | ((try simp only [Exit.inBlock, Exit.then]); refine bodyPost_ret (results_none rfl _ _ _) rfl ?_)
      exact ⟨rfl, _, HF.out⟩
-- RUN
theorem WkW.box51 {w0 wn W : World} {gw g : Nat} {vn : Value} {V : WkV} {s : Wk} {cells : Array Value} (h : WkW w0 wn W gw vn V s) (hg : W.heap[g]? = some (.cells cells 51 (0, 0))) (hgb : w0.heap.size ≤ g) (hgn : wn.heap.size ≤ g) (j : Nat) (u : Value) : WkW w0 wn (W.setCell ⟨g, j, none⟩ u) gw vn V s := by
  have hne : gw ≠ g := by
    rintro rfl
    have h2 := h.hw
    rw [hg] at h2
    injection h2 with h2
    injection h2 with _ h2
    exact absurd h2 (by decide)
  exact { h with hK := h.hK.far hgn _ _, hBl := below_set h.hBl hgb, hw := blk_far h.hw hne _, h1 := Kd.R_set h.h1 hg (by decide) _ _, h2 := Kd.R_set h.h2 hg (by decide) _ _, h3 := Kd.R_set h.h3 hg (by decide) _ _, hE := Kd.R_set h.hE hg (by decide) _ _, h5 := Kd.R_set h.h5 hg (by decide) _ _, h6 := Kd.R_set h.h6 hg (by decide) _ _, hB := Kd.S_set h.hB hg (by decide) _ _, hS := Kd.R_set h.hS hg (by decide) _ _ }
theorem arc_far {W : World} {g ba : Nat} {cells cb : Array Value} {t : Nat} (hb : W.heap[ba]? = some (.cells cb 51 (0, 0))) (hg : W.heap[g]? = some (.cells cells t (0, 0))) (ht : t ≠ 51) (j : Nat) (u : Value) : (W.setCell ⟨g, j, none⟩ u).heap[ba]? = some (.cells cb 51 (0, 0)) := by
  refine blk_far (p := ⟨g, j, none⟩) hb ?_ u
  rintro rfl
  rw [hg] at hb
  injection hb with hb
  injection hb with _ hb
  exact ht hb
def wkFar (s : Wk) (v : Int) (a : S51) : Option Wk :=
  if 0 ≤ a.f0 ∧ a.f0 < (s.ord.length : Int) ∧ v < (s.low.length : Int) then
    (if rd s.ord a.f0 = 0 then wkEnter s a.f0 a.f1 else some { s with low := s.low.set v.toNat (if rd s.ord a.f0 < rd s.low v then rd s.ord a.f0 else rd s.low v) })
  else none
def wkArc (s : Wk) (v : Int) (a : S51) : Option Wk :=
  if 0 ≤ a.f1 ∧ a.f1 < (s.taken.length : Int) then
    (if rdOf false s.taken a.f1 = true then some s
     else if s.edges.length < 17592186044415 then wkFar { s with taken := s.taken.set a.f1.toNat true, edges := s.edges ++ [a.f1] } v a else none)
  else none
def wkLoop (leave : Wk → Option Wk) (near : List (List S51)) : Nat → Wk → Option Wk
  | 0, _ => none
  | k + 1, s =>
    if s.stack.length = 0 then some s
    else
      let v := (rd_T51 s.stack ((s.stack.length - 1 : Nat) : Int)).f0
      if 0 ≤ v ∧ v < (s.next.length : Int) ∧ v < (near.length : Int) then
        (if rd s.next v = ((rd_L3 near v).length : Int) then (leave s).bind (wkLoop leave near k)
         else if 0 ≤ rd s.next v ∧ rd s.next v < ((rd_L3 near v).length : Int) then
           (wkArc { s with next := s.next.set v.toNat (wrap64 (rd s.next v + 1)) } v (rd_T51 (rd_L3 near v) (rd s.next v))).bind (wkLoop leave near k)
         else none)
      else none
def wkRun (leave : Wk → Option Wk) (near : List (List S51)) (k : Nat) (s : Wk) (root : Int) : Option Wk := (wkEnter s root (-1)).bind (wkLoop leave near k)
theorem wkRun.calls (leave : Wk → Option Wk) (near : List (List S51)) (k : Nat) (w0 wn w : World) (gw : Nat) (An : Option Addr) (cn : Nat) (V : WkV) (s s' : Wk) (root : Int)
    (hleave : ∀ (W : World) (V : WkV) (s s' : Wk), WkW w0 wn W gw (.slice An near.length cn) V s → leave s = some s' → Calls Try.prog 63 #[.pointer (some ⟨gw, 0, none⟩)] W fun e W' => e = .returned (.tuple #[]) ∧ ∃ V', WkW w0 wn W' gw (.slice An near.length cn) V' s')
    (nb : Nat) (okn : Nat → Prop) (hn : Kd.S (Kd.slice 51 k51) 49 wn nb okn (.slice An near.length cn) near) (h : WkW w0 wn w gw (.slice An near.length cn) V s) (he : wkRun leave near k s root = some s') :
    Calls Try.prog 45 #[.pointer (some ⟨gw, 0, none⟩), .int .i64 root] w fun e w' => e = .returned (.tuple #[]) ∧ ∃ V', WkW w0 wn w' gw (.slice An near.length cn) V' s' := by
  have hu55 := Try.underlying55
  have hu89 := Try.underlying89
  have hu51 := Try.underlying51
  have HL := zMk hleave
  have HN := zMk hn
  have HW := zMk h
  unfold wkRun at he
  obtain ⟨s1, h1, he⟩ := Option.bind_eq_some_iff.1 he
  have H1 := zMk h1
  have HE := zMk he
  clear hleave hn h h1 he
  go_enter Try.func45, Try.ntmps45
  go_wp2_with (go_at_call 62; refine (wkEnter.calls w0 wn _ gw _ V s s1 root (-1) HW.out H1.out).mono ?_; rintro e w1 ⟨rfl, vS, h1⟩; have HW1 := zMk h1; clear h1)
  clear HW H1
  go_loopg [] k (fun kq w' => ∃ (V : WkV) (s : Wk), Aside0 (WkW w0 wn w' gw (.slice An near.length cn) V s) ∧ Aside0 (wkLoop leave near kq s = some s'))
  case atStart => exact ⟨_, s1, HW1, HE⟩
  case round =>
    clear HW1 HE
    obtain ⟨V, s, HW, HE⟩ := hrel
    rcases gk with _ | k1
    · exact absurd HE.out (by simp [wkLoop])
    have he := HE.out
    clear HE
    rw [wkLoop] at he
    by_cases h0 : s.stack.length = 0
    · rw [if_pos h0] at he
      obtain rfl := zOi he
      obtain ⟨AS, cS, eS⟩ := zRs HW.out.hS
      have z9 : wr.cell? ⟨gw, 9, none⟩ = some (.slice AS s.stack.length cS) := (zKc HW.out.hw 9).trans (congrArg some eS)
      rw [h0] at z9
      go_wp2
      first | go_end0 | ((try simp only [Exit.inBlock, Exit.then]); refine bodyPost_ret (results_none rfl _ _ _) rfl ?_)
      exact ⟨rfl, _, HW.out⟩
    · rw [if_neg h0] at he
      obtain ⟨j, hj⟩ : ∃ j, s.stack.length = j + 1 := ⟨s.stack.length - 1, by omega⟩
      rw [show s.stack.length - 1 = j by omega] at he
      dsimp only at he
      obtain ⟨gs, cS, eS, -, -, -⟩ := Kd.R_form HW.out.hS (by omega)
      rw [hj] at eS
      have ES := zMk eS
      have hs := HW.out.hS
      rw [eS] at hs
      have hlm := wk_len hs
      rw [hj] at hlm
      have hmx : maxLen ≤ 9223372036854775807 := by decide
      have HMX := zMk (show j + 1 ≤ 9223372036854775807 by omega)
      have hfx := at_T51 (by have hc := (zRr hs).2.2; rw [hj] at hc; exact hc) (j : Int) (by omega) (by omega)
      obtain ⟨ad, ea, hx0, hx1⟩ := hfx
      cases ea
      simp only [zTn] at hx0 hx1
      rw [wk_add] at hx0
      obtain ⟨v, hv⟩ : ∃ v, v = (rd_T51 s.stack (j : Int)).f0 := ⟨_, rfl⟩
      rw [← hv] at hx0 he
      have XV := zMk (show wr.cell? ⟨gs, j * 2, none⟩ = some (.int .i64 v) from hx0)
      by_cases hb : 0 ≤ v ∧ v < (s.next.length : Int) ∧ v < (near.length : Int)
      rotate_left
      · rw [if_neg hb] at he; cases he
      rw [if_pos hb] at he
      have HB := zMk hb
      have HE := zMk he
      have z9 : wr.cell? ⟨gw, 9, none⟩ = some (.slice (some ⟨gs, 0, none⟩) (j + 1) cS) := (zKc HW.out.hw 9).trans (congrArg some ES.out)
      have HJ := zMk hj
      clear hb he hv hx0 hx1 hs hlm hmx eS hj h0
      go_upto_region 2 with (fail)
      clear z9
      have p7 : (0 ≤ (j : Int)) = True := eq_true (by omega)
      have p8 : ((j : Int) < (j : Int) + 1) = True := eq_true (by omega)
      have hwj : IntKind.i64.wrap (j : Int) = (j : Int) := IntWalk.i64_in _ ⟨by omega, by have := HMX.out; omega⟩
      have hw64 : wrap64 (j : Int) = (j : Int) := by have := HMX.out; unfold wrap64; omega
      have BL := zMk (zBd (Below.refl wr.heap.size wr))
      have HW2 := zMk (HW.out.below BL.out)
      refine start_ (n := 14) (S := fun w' => w'.cell? ⟨gw, 9, none⟩ = some (.slice (some ⟨gs, 0, none⟩) (j + 1) cS) ∧ w'.cell? ⟨gs, j * 2, none⟩ = some (.int .i64 v)) (ds := []) #[false, false, false, false, false, false, false, false, false, false, false, false, false, false] (by kernel_rfl) rfl rfl ⟨(zKc HW2.out.hw 9).trans (congrArg some ES.out), (Below.cell BL.out (World.block_lt_of_cell? wr _ XV.out)).trans XV.out⟩ (fun hHeld => ?_)
      generalize wr.drew = w2 at HW2 BL hHeld ⊢
      refine pure_ (i := 0) (N := some 15) (v := ?_) (a' := ?_) #[true, false, false, false, false, false, false, false, false, false, false, false, false, false] rfl rfl (by kernel_rfl) (fun _ _ _ h => h) (Or.inl ⟨by rfl, ?_⟩) ?_ ?_
      rotate_left
      · intro w'
        go_simp
        with_reducible rfl
      rotate_left
      · simp only [Act.put, zSa, zSb, zSc, i64_w, i32_w]
        rfl
      refine pure_ (i := 1) (N := some 16) (v := ?_) (a' := ?_) #[true, true, false, false, false, false, false, false, false, false, false, false, false, false] rfl rfl (by kernel_rfl) (fun _ _ _ h => h) (Or.inl ⟨by rfl, ?_⟩) ?_ ?_
      rotate_left
      · intro w'
        go_simp
        with_reducible rfl
      rotate_left
      · simp only [Act.put, zSa, zSb, zSc, i64_w, i32_w]
        rfl
      refine pure_ (i := 2) (N := some 17) (v := ?_) (a' := ?_) #[true, true, true, false, false, false, false, false, false, false, false, false, false, false] rfl rfl (by kernel_rfl) (fun _ _ _ h => h) (Or.inl ⟨by rfl, ?_⟩) ?_ ?_
      rotate_left
      · intro w'
        go_simp
        with_reducible rfl
      rotate_left
      · simp only [Act.put, zSa, zSb, zSc, i64_w, i32_w]
        rfl
      refine pure_ (i := 4) (N := some 19) (v := ?_) (a' := ?_) #[true, true, true, false, true, false, false, false, false, false, false, false, false, false] rfl rfl (by kernel_rfl) (fun _ _ _ h => h) (Or.inl ⟨by rfl, ?_⟩) ?_ ?_
      rotate_left
      · intro w'
        go_simp
        with_reducible rfl
      rotate_left
      · simp only [Act.put, zSa, zSb, zSc, i64_w, i32_w]
        rfl
      refine pure_ (i := 5) (N := some 20) (v := ?_) (a' := ?_) #[true, true, true, false, true, true, false, false, false, false, false, false, false, false] rfl rfl (by kernel_rfl) (fun _ _ _ h => h) (Or.inl ⟨by rfl, ?_⟩) ?_ ?_
      rotate_left
      · intro w'
        go_simp
        with_reducible rfl
      rotate_left
      · simp only [Act.put, zSa, zSb, zSc, i64_w, i32_w]
        rfl
      refine pure_ (i := 6) (N := some 21) (v := ?_) (a' := ?_) #[true, true, true, false, true, true, true, false, false, false, false, false, false, false] rfl rfl (by kernel_rfl) (fun _ _ _ h => h) (Or.inl ⟨by rfl, ?_⟩) ?_ ?_
      rotate_left
      · intro w'
        go_simp
        with_reducible rfl
      rotate_left
      · simp only [Act.put, zSa, zSb, zSc, i64_w, i32_w]
        rfl
      refine take_ (i := 3) (N := some 18) (v := ?_) (a' := ?_) #[true, true, true, true, true, true, true, false, false, false, false, false, false, false] rfl rfl (by kernel_rfl) (fun _ _ _ h => h) (Or.inl ⟨by rfl, ?_⟩) hHeld ?_ ?_
      rotate_left
      · rintro w' ⟨s0, s1⟩
        go_simp
        with_reducible rfl
      rotate_left
      · simp only [Act.put, zSa, zSb, zSc, i64_w, i32_w]
        rfl
      refine take_ (i := 7) (N := some 22) (v := ?_) (a' := ?_) #[true, true, true, true, true, true, true, true, false, false, false, false, false, false] rfl rfl (by kernel_rfl) (fun _ _ _ h => h) (Or.inl ⟨by rfl, ?_⟩) hHeld ?_ ?_
      rotate_left
      · rintro w' ⟨s0, s1⟩
        go_simp
        with_reducible rfl
      rotate_left
      · simp only [Act.put, zSa, zSb, zSc, i64_w, i32_w]
        rfl
      refine pure_ (i := 8) (N := some 23) (v := ?_) (a' := ?_) #[true, true, true, true, true, true, true, true, true, false, false, false, false, false] rfl rfl (by kernel_rfl) (fun _ _ _ h => h) (Or.inl ⟨by rfl, ?_⟩) ?_ ?_
      rotate_left
      · intro w'
        go_simp
        with_reducible rfl
      rotate_left
      · simp only [Act.put, zSa, zSb, zSc, i64_w, i32_w]
        rfl
      refine pure_ (i := 9) (N := some 24) (v := ?_) (a' := ?_) #[true, true, true, true, true, true, true, true, true, true, false, false, false, false] rfl rfl (by kernel_rfl) (fun _ _ _ h => h) (Or.inl ⟨by rfl, ?_⟩) ?_ ?_
      rotate_left
      · intro w'
        go_simp
        with_reducible rfl
      rotate_left
      · simp only [Act.put, zSa, zSb, zSc, i64_w, i32_w]
        rfl
      refine pure_ (i := 10) (N := some 25) (v := ?_) (a' := ?_) #[true, true, true, true, true, true, true, true, true, true, true, false, false, false] rfl rfl (by kernel_rfl) (fun _ _ _ h => h) (Or.inl ⟨by rfl, ?_⟩) ?_ ?_
      rotate_left
      · intro w'
        go_simp
        with_reducible rfl
      rotate_left
      · simp only [Act.put, zSa, zSb, zSc, i64_w, i32_w]
        rfl
      refine pure_ (i := 11) (N := some 26) (v := ?_) (a' := ?_) #[true, true, true, true, true, true, true, true, true, true, true, true, false, false] rfl rfl (by kernel_rfl) (fun _ _ _ h => h) (Or.inl ⟨by rfl, ?_⟩) ?_ ?_
      rotate_left
      · intro w'
        go_simp
        with_reducible rfl
      rotate_left
      · simp only [Act.put, zSa, zSb, zSc, i64_w, i32_w]
        rfl
      refine take_ (i := 12) (N := some 27) (v := ?_) (a' := ?_) #[true, true, true, true, true, true, true, true, true, true, true, true, true, false] rfl rfl (by kernel_rfl) (fun _ _ _ h => h) (Or.inl ⟨by rfl, ?_⟩) hHeld ?_ ?_
      rotate_left
      · rintro w' ⟨s0, s1⟩
        go_simp
        with_reducible rfl
      rotate_left
      · simp only [Act.put, zSa, zSb, zSc, i64_w, i32_w]
        rfl
      refine pure_ (i := 13) (N := some 4) (v := ?_) (a' := ?_) #[true, true, true, true, true, true, true, true, true, true, true, true, true, true] rfl rfl (by kernel_rfl) (fun _ _ _ h => h) (Or.inl ⟨by rfl, ?_⟩) ?_ ?_
      rotate_left
      · intro w'
        go_simp
        with_reducible rfl
      rotate_left
      · simp only [Act.put, zSa, zSb, zSc, i64_w, i32_w]
        rfl
      refine done_ (by kernel_rfl) ?_
      clear p7 p8 hwj hw64 XV BL HW
      obtain ⟨g3, c3, e3, -, -, -⟩ := Kd.R_form HW2.out.h3 (by have := HB.out; omega)
      have E3 := zMk e3
      clear e3
      go_upto_region 3 with (fail)
      have HW3 := zMk (HW2.out.below (zBd (Below.refl w2.heap.size w2)))
      have h3' := HW3.out.h3
      rw [E3.out] at h3'
      obtain ⟨hxn, -⟩ := Kd.R_celln (0 : Int) h3' v HB.out.1 HB.out.2.1
      have HXN := zMk (show w2.drew.cell? ⟨g3, v.toNat, none⟩ = some (.int .i64 (rd s.next v)) from hxn)
      obtain ⟨adn, Ai, ci, ea, hcl, -, hCi⟩ := at_L3 (HW3.out.near HN.out) v HB.out.1 HB.out.2.2
      cases ea
      have HCL := zMk hcl
      have he := HE.out
      clear HE
      generalize rd_L3 near v = L at HCL hCi he
      have HCI := zMk hCi
      have HE := zMk he
      have p1 : (0 ≤ v) = True := eq_true HB.out.1
      have p2 : (v < (s.next.length : Int)) = True := eq_true HB.out.2.1
      have p3 : (v < (near.length : Int)) = True := eq_true HB.out.2.2
      clear h3' hxn hcl hCi he
      refine start_ (n := 16) (S := fun w' => w'.cell? ⟨gw, 3, none⟩ = some (.slice (some ⟨g3, 0, none⟩) s.next.length c3) ∧ w'.cell? ⟨g3, v.toNat, none⟩ = some (.int .i64 (rd s.next v)) ∧ w'.cell? ⟨gw, 0, none⟩ = some (.slice (some adn) near.length cn) ∧ w'.cell? (adn.add v.toNat) = some (.slice Ai L.length ci)) (ds := []) #[false, false, false, false, false, false, false, false, false, false, false, false, false, false, false, false] (by kernel_rfl) rfl rfl ⟨(zKc HW3.out.hw 3).trans (congrArg some E3.out), HXN.out, (zKc HW3.out.hw 0).trans rfl, HCL.out⟩ (fun hHeld => ?_)
      generalize w2.drew = w3 at HW3 HXN HCL HCI hHeld ⊢
      refine pure_ (i := 0) (N := some 28) (v := ?_) (a' := ?_) #[true, false, false, false, false, false, false, false, false, false, false, false, false, false, false, false] rfl rfl (by kernel_rfl) (fun _ _ _ h => h) (Or.inl ⟨by rfl, ?_⟩) ?_ ?_
      rotate_left
      · intro w'
        go_simp
        with_reducible rfl
      rotate_left
      · simp only [Act.put, zSa, zSb, zSc, i64_w, i32_w]
        rfl
      refine pure_ (i := 1) (N := some 29) (v := ?_) (a' := ?_) #[true, true, false, false, false, false, false, false, false, false, false, false, false, false, false, false] rfl rfl (by kernel_rfl) (fun _ _ _ h => h) (Or.inl ⟨by rfl, ?_⟩) ?_ ?_
      rotate_left
      · intro w'
        go_simp
        with_reducible rfl
      rotate_left
      · simp only [Act.put, zSa, zSb, zSc, i64_w, i32_w]
        rfl
      refine pure_ (i := 2) (N := some 30) (v := ?_) (a' := ?_) #[true, true, true, false, false, false, false, false, false, false, false, false, false, false, false, false] rfl rfl (by kernel_rfl) (fun _ _ _ h => h) (Or.inl ⟨by rfl, ?_⟩) ?_ ?_
      rotate_left
      · intro w'
        go_simp
        with_reducible rfl
      rotate_left
      · simp only [Act.put, zSa, zSb, zSc, i64_w, i32_w]
        rfl
      refine pure_ (i := 4) (N := some 32) (v := ?_) (a' := ?_) #[true, true, true, false, true, false, false, false, false, false, false, false, false, false, false, false] rfl rfl (by kernel_rfl) (fun _ _ _ h => h) (Or.inl ⟨by rfl, ?_⟩) ?_ ?_
      rotate_left
      · intro w'
        go_simp
        with_reducible rfl
      rotate_left
      · simp only [Act.put, zSa, zSb, zSc, i64_w, i32_w]
        rfl
      refine pure_ (i := 7) (N := some 35) (v := ?_) (a' := ?_) #[true, true, true, false, true, false, false, true, false, false, false, false, false, false, false, false] rfl rfl (by kernel_rfl) (fun _ _ _ h => h) (Or.inl ⟨by rfl, ?_⟩) ?_ ?_
      rotate_left
      · intro w'
        go_simp
        with_reducible rfl
      rotate_left
      · simp only [Act.put, zSa, zSb, zSc, i64_w, i32_w]
        rfl
      refine pure_ (i := 8) (N := some 36) (v := ?_) (a' := ?_) #[true, true, true, false, true, false, false, true, true, false, false, false, false, false, false, false] rfl rfl (by kernel_rfl) (fun _ _ _ h => h) (Or.inl ⟨by rfl, ?_⟩) ?_ ?_
      rotate_left
      · intro w'
        go_simp
        with_reducible rfl
      rotate_left
      · simp only [Act.put, zSa, zSb, zSc, i64_w, i32_w]
        rfl
      refine pure_ (i := 9) (N := some 37) (v := ?_) (a' := ?_) #[true, true, true, false, true, false, false, true, true, true, false, false, false, false, false, false] rfl rfl (by kernel_rfl) (fun _ _ _ h => h) (Or.inl ⟨by rfl, ?_⟩) ?_ ?_
      rotate_left
      · intro w'
        go_simp
        with_reducible rfl
      rotate_left
      · simp only [Act.put, zSa, zSb, zSc, i64_w, i32_w]
        rfl
      refine pure_ (i := 11) (N := some 39) (v := ?_) (a' := ?_) #[true, true, true, false, true, false, false, true, true, true, false, true, false, false, false, false] rfl rfl (by kernel_rfl) (fun _ _ _ h => h) (Or.inl ⟨by rfl, ?_⟩) ?_ ?_
      rotate_left
      · intro w'
        go_simp
        with_reducible rfl
      rotate_left
      · simp only [Act.put, zSa, zSb, zSc, i64_w, i32_w]
        rfl
      refine take_ (i := 3) (N := some 31) (v := ?_) (a' := ?_) #[true, true, true, true, true, false, false, true, true, true, false, true, false, false, false, false] rfl rfl (by kernel_rfl) (fun _ _ _ h => h) (Or.inl ⟨by rfl, ?_⟩) hHeld ?_ ?_
      rotate_left
      · rintro w' ⟨s0, s1, s2, s3⟩
        go_simp
        with_reducible rfl
      rotate_left
      · simp only [Act.put, zSa, zSb, zSc, i64_w, i32_w]
        rfl
      refine pure_ (i := 5) (N := some 33) (v := ?_) (a' := ?_) #[true, true, true, true, true, true, false, true, true, true, false, true, false, false, false, false] rfl rfl (by kernel_rfl) (fun _ _ _ h => h) (Or.inl ⟨by rfl, ?_⟩) ?_ ?_
      rotate_left
      · intro w'
        go_simp
        with_reducible rfl
      rotate_left
      · simp only [Act.put, zSa, zSb, zSc, i64_w, i32_w]
        rfl
      refine take_ (i := 6) (N := some 34) (v := ?_) (a' := ?_) #[true, true, true, true, true, true, true, true, true, true, false, true, false, false, false, false] rfl rfl (by kernel_rfl) (fun _ _ _ h => h) (Or.inl ⟨by rfl, ?_⟩) hHeld ?_ ?_
      rotate_left
      · rintro w' ⟨s0, s1, s2, s3⟩
        go_simp
        with_reducible rfl
      rotate_left
      · simp only [Act.put, zSa, zSb, zSc, i64_w, i32_w]
        rfl
      refine take_ (i := 10) (N := some 38) (v := ?_) (a' := ?_) #[true, true, true, true, true, true, true, true, true, true, true, true, false, false, false, false] rfl rfl (by kernel_rfl) (fun _ _ _ h => h) (Or.inl ⟨by rfl, ?_⟩) hHeld ?_ ?_
      rotate_left
      · rintro w' ⟨s0, s1, s2, s3⟩
        go_simp
        with_reducible rfl
      rotate_left
      · simp only [Act.put, zSa, zSb, zSc, i64_w, i32_w]
        rfl
      refine pure_ (i := 12) (N := some 40) (v := ?_) (a' := ?_) #[true, true, true, true, true, true, true, true, true, true, true, true, true, false, false, false] rfl rfl (by kernel_rfl) (fun _ _ _ h => h) (Or.inl ⟨by rfl, ?_⟩) ?_ ?_
      rotate_left
      · intro w'
        go_simp
        with_reducible rfl
      rotate_left
      · simp only [Act.put, zSa, zSb, zSc, i64_w, i32_w]
        rfl
      refine take_ (i := 13) (N := some 41) (v := ?_) (a' := ?_) #[true, true, true, true, true, true, true, true, true, true, true, true, true, true, false, false] rfl rfl (by kernel_rfl) (fun _ _ _ h => h) (Or.inl ⟨by rfl, ?_⟩) hHeld ?_ ?_
      rotate_left
      · rintro w' ⟨s0, s1, s2, s3⟩
        go_simp
        with_reducible rfl
      rotate_left
      · simp only [Act.put, zSa, zSb, zSc, i64_w, i32_w]
        rfl
      refine pure_ (i := 14) (N := some 42) (v := ?_) (a' := ?_) #[true, true, true, true, true, true, true, true, true, true, true, true, true, true, true, false] rfl rfl (by kernel_rfl) (fun _ _ _ h => h) (Or.inl ⟨by rfl, ?_⟩) ?_ ?_
      rotate_left
      · intro w'
        go_simp
        with_reducible rfl
      rotate_left
      · simp only [Act.put, zSa, zSb, zSc, i64_w, i32_w]
        rfl
      refine pure_ (i := 15) (N := some 43) (v := ?_) (a' := ?_) #[true, true, true, true, true, true, true, true, true, true, true, true, true, true, true, true] rfl rfl (by kernel_rfl) (fun _ _ _ h => h) (Or.inl ⟨by rfl, ?_⟩) ?_ ?_
      rotate_left
      · intro w'
        go_simp
        with_reducible rfl
      rotate_left
      · simp only [Act.put, zSa, zSb, zSc, i64_w, i32_w]
        rfl
      refine done_ (by kernel_rfl) ?_
      clear HXN HW2
      have he := HE.out
      clear HE
      by_cases hnl : rd s.next v = (L.length : Int)
      · rw [if_pos hnl] at he
        obtain ⟨s2, h2, he⟩ := Option.bind_eq_some_iff.1 he
        have H2 := zMk h2
        have HE := zMk he
        have hd : (rd s.next v == (L.length : Int)) = true := beq_iff_eq.mpr hnl
        clear h2 he hnl
        go_upto_if 43 with (fail)
        first | rw [hd] | skip
        clear hd
        go_wp2_with (go_at_call 63; refine (HL.out _ _ _ _ HW3.out H2.out).mono ?_; rintro e w4 ⟨rfl, V4, h4⟩; have HW4 := zMk h4; clear h4)
        go_roundg k1
        case measure => omega
        case rel => exact ⟨V4, s2, HW4, HE⟩
      · rw [if_neg hnl] at he
        by_cases hnr : 0 ≤ rd s.next v ∧ rd s.next v < (L.length : Int)
        rotate_left
        · rw [if_neg hnr] at he; cases he
        rw [if_pos hnr] at he
        obtain ⟨s2, h2, he⟩ := Option.bind_eq_some_iff.1 he
        have hd : (rd s.next v == (L.length : Int)) = false := beq_eq_false_iff_ne.mpr hnl
        go_upto_if 43 with (fail)
        first | rw [hd] | skip
        obtain ⟨ad2, ea, hx0, hx1⟩ := at_T51 HCI.out (rd s.next v) hnr.1 hnr.2
        cases ea
        obtain ⟨a, ha⟩ : ∃ a, a = rd_T51 L (rd s.next v) := ⟨_, rfl⟩
        rw [← ha] at hx0 hx1 h2
        have X0 := zMk (hx0)
        have X1 := zMk (hx1)
        have H2 := zMk h2
        have HE := zMk he
        have HNR := zMk hnr
        have q1 : (0 ≤ rd s.next v) = True := eq_true hnr.1
        have q2 : (rd s.next v < (L.length : Int)) = True := eq_true hnr.2
        clear hd hx0 hx1 h2 he hnr hnl ha
        go_upto_region 5 with (fail)
        have BL := zMk (zBd (Below.refl w3.heap.size w3))
        have HW5 := zMk (HW3.out.below BL.out)
        have h3' := HW5.out.h3
        rw [E3.out] at h3'
        obtain ⟨hxn, -⟩ := Kd.R_celln (0 : Int) h3' v HB.out.1 HB.out.2.1
        have HXN := zMk (show w3.drew.cell? ⟨g3, v.toNat, none⟩ = some (.int .i64 (rd s.next v)) from hxn)
        replace HCL := zMk ((BL.out.cell (World.block_lt_of_cell? w3 _ HCL.out)).trans HCL.out)
        have XA := zMk ((BL.out.cell (World.block_lt_of_cell? w3 _ X0.out)).trans X0.out)
        have XB := zMk ((BL.out.cell (World.block_lt_of_cell? w3 _ X1.out)).trans X1.out)
        clear h3' hxn
        refine start_ (n := 18) (S := fun w' => w'.cell? ⟨gw, 3, none⟩ = some (.slice (some ⟨g3, 0, none⟩) s.next.length c3) ∧ w'.cell? ⟨g3, v.toNat, none⟩ = some (.int .i64 (rd s.next v)) ∧ w'.cell? ⟨gw, 0, none⟩ = some (.slice (some adn) near.length cn) ∧ w'.cell? (adn.add v.toNat) = some (.slice (some ad2) L.length ci) ∧ w'.cell? (ad2.add ((rd s.next v).toNat * 2)) = some (.int .i64 a.f0) ∧ w'.cell? ⟨(ad2.add ((rd s.next v).toNat * 2)).block, (ad2.add ((rd s.next v).toNat * 2)).off + 1, none⟩ = some (.int .i64 a.f1)) (ds := [17]) #[false, false, false, false, false, false, false, false, false, false, false, false, false, false, false, false, false, false] (by kernel_rfl) rfl rfl ⟨(zKc HW5.out.hw 3).trans (congrArg some E3.out), HXN.out, (zKc HW5.out.hw 0).trans rfl, HCL.out, XA.out, XB.out⟩ (fun hHeld => ?_)
        generalize w3.drew = w5 at HW5 BL HXN HCL XA XB hHeld ⊢
        refine pure_ (i := 0) (N := some 46) (v := ?_) (a' := ?_) #[true, false, false, false, false, false, false, false, false, false, false, false, false, false, false, false, false, false] rfl rfl (by kernel_rfl) (fun _ _ _ h => h) (Or.inl ⟨by rfl, ?_⟩) ?_ ?_
        rotate_left
        · intro w'
          go_simp
          with_reducible rfl
        rotate_left
        · simp only [Act.put, zSa, zSb, zSc, i64_w, i32_w]
          rfl
        refine pure_ (i := 1) (N := some 47) (v := ?_) (a' := ?_) #[true, true, false, false, false, false, false, false, false, false, false, false, false, false, false, false, false, false] rfl rfl (by kernel_rfl) (fun _ _ _ h => h) (Or.inl ⟨by rfl, ?_⟩) ?_ ?_
        rotate_left
        · intro w'
          go_simp
          with_reducible rfl
        rotate_left
        · simp only [Act.put, zSa, zSb, zSc, i64_w, i32_w]
          rfl
        refine pure_ (i := 2) (N := some 48) (v := ?_) (a' := ?_) #[true, true, true, false, false, false, false, false, false, false, false, false, false, false, false, false, false, false] rfl rfl (by kernel_rfl) (fun _ _ _ h => h) (Or.inl ⟨by rfl, ?_⟩) ?_ ?_
        rotate_left
        · intro w'
          go_simp
          with_reducible rfl
        rotate_left
        · simp only [Act.put, zSa, zSb, zSc, i64_w, i32_w]
          rfl
        refine pure_ (i := 4) (N := some 50) (v := ?_) (a' := ?_) #[true, true, true, false, true, false, false, false, false, false, false, false, false, false, false, false, false, false] rfl rfl (by kernel_rfl) (fun _ _ _ h => h) (Or.inl ⟨by rfl, ?_⟩) ?_ ?_
        rotate_left
        · intro w'
          go_simp
          with_reducible rfl
        rotate_left
        · simp only [Act.put, zSa, zSb, zSc, i64_w, i32_w]
          rfl
        refine pure_ (i := 7) (N := some 53) (v := ?_) (a' := ?_) #[true, true, true, false, true, false, false, true, false, false, false, false, false, false, false, false, false, false] rfl rfl (by kernel_rfl) (fun _ _ _ h => h) (Or.inl ⟨by rfl, ?_⟩) ?_ ?_
        rotate_left
        · intro w'
          go_simp
          with_reducible rfl
        rotate_left
        · simp only [Act.put, zSa, zSb, zSc, i64_w, i32_w]
          rfl
        refine pure_ (i := 8) (N := some 54) (v := ?_) (a' := ?_) #[true, true, true, false, true, false, false, true, true, false, false, false, false, false, false, false, false, false] rfl rfl (by kernel_rfl) (fun _ _ _ h => h) (Or.inl ⟨by rfl, ?_⟩) ?_ ?_
        rotate_left
        · intro w'
          go_simp
          with_reducible rfl
        rotate_left
        · simp only [Act.put, zSa, zSb, zSc, i64_w, i32_w]
          rfl
        refine pure_ (i := 9) (N := some 55) (v := ?_) (a' := ?_) #[true, true, true, false, true, false, false, true, true, true, false, false, false, false, false, false, false, false] rfl rfl (by kernel_rfl) (fun _ _ _ h => h) (Or.inl ⟨by rfl, ?_⟩) ?_ ?_
        rotate_left
        · intro w'
          go_simp
          with_reducible rfl
        rotate_left
        · simp only [Act.put, zSa, zSb, zSc, i64_w, i32_w]
          rfl
        refine pure_ (i := 11) (N := some 57) (v := ?_) (a' := ?_) #[true, true, true, false, true, false, false, true, true, true, false, true, false, false, false, false, false, false] rfl rfl (by kernel_rfl) (fun _ _ _ h => h) (Or.inl ⟨by rfl, ?_⟩) ?_ ?_
        rotate_left
        · intro w'
          go_simp
          with_reducible rfl
        rotate_left
        · simp only [Act.put, zSa, zSb, zSc, i64_w, i32_w]
          rfl
        refine take_ (i := 3) (N := some 49) (v := ?_) (a' := ?_) #[true, true, true, true, true, false, false, true, true, true, false, true, false, false, false, false, false, false] rfl rfl (by kernel_rfl) (fun _ _ _ h => h) (Or.inl ⟨by rfl, ?_⟩) hHeld ?_ ?_
        rotate_left
        · rintro w' ⟨s0, s1, s2, s3, s4, s5⟩
          go_simp
          with_reducible rfl
        rotate_left
        · simp only [Act.put, zSa, zSb, zSc, i64_w, i32_w]
          rfl
        refine pure_ (i := 5) (N := some 51) (v := ?_) (a' := ?_) #[true, true, true, true, true, true, false, true, true, true, false, true, false, false, false, false, false, false] rfl rfl (by kernel_rfl) (fun _ _ _ h => h) (Or.inl ⟨by rfl, ?_⟩) ?_ ?_
        rotate_left
        · intro w'
          go_simp
          with_reducible rfl
        rotate_left
        · simp only [Act.put, zSa, zSb, zSc, i64_w, i32_w]
          rfl
        refine take_ (i := 6) (N := some 52) (v := ?_) (a' := ?_) #[true, true, true, true, true, true, true, true, true, true, false, true, false, false, false, false, false, false] rfl rfl (by kernel_rfl) (fun _ _ _ h => h) (Or.inl ⟨by rfl, ?_⟩) hHeld ?_ ?_
        rotate_left
        · rintro w' ⟨s0, s1, s2, s3, s4, s5⟩
          go_simp
          with_reducible rfl
        rotate_left
        · simp only [Act.put, zSa, zSb, zSc, i64_w, i32_w]
          rfl
        refine take_ (i := 10) (N := some 56) (v := ?_) (a' := ?_) #[true, true, true, true, true, true, true, true, true, true, true, true, false, false, false, false, false, false] rfl rfl (by kernel_rfl) (fun _ _ _ h => h) (Or.inl ⟨by rfl, ?_⟩) hHeld ?_ ?_
        rotate_left
        · rintro w' ⟨s0, s1, s2, s3, s4, s5⟩
          go_simp
          with_reducible rfl
        rotate_left
        · simp only [Act.put, zSa, zSb, zSc, i64_w, i32_w]
          rfl
        refine pure_ (i := 12) (N := some 58) (v := ?_) (a' := ?_) #[true, true, true, true, true, true, true, true, true, true, true, true, true, false, false, false, false, false] rfl rfl (by kernel_rfl) (fun _ _ _ h => h) (Or.inl ⟨by rfl, ?_⟩) ?_ ?_
        rotate_left
        · intro w'
          go_simp
          with_reducible rfl
        rotate_left
        · simp only [Act.put, zSa, zSb, zSc, i64_w, i32_w]
          rfl
        refine take_ (i := 13) (N := some 59) (v := ?_) (a' := ?_) #[true, true, true, true, true, true, true, true, true, true, true, true, true, true, false, false, false, false] rfl rfl (by kernel_rfl) (fun _ _ _ h => h) (Or.inl ⟨by rfl, ?_⟩) hHeld ?_ ?_
        rotate_left
        · rintro w' ⟨s0, s1, s2, s3, s4, s5⟩
          go_simp
          with_reducible rfl
        rotate_left
        · simp only [Act.put, zSa, zSb, zSc, i64_w, i32_w]
          rfl
        refine pure_ (i := 14) (N := some 60) (v := ?_) (a' := ?_) #[true, true, true, true, true, true, true, true, true, true, true, true, true, true, true, false, false, false] rfl rfl (by kernel_rfl) (fun _ _ _ h => h) (Or.inl ⟨by rfl, ?_⟩) ?_ ?_
        rotate_left
        · intro w'
          go_simp
          with_reducible rfl
        rotate_left
        · simp only [Act.put, zSa, zSb, zSc, i64_w, i32_w]
          rfl
        refine take_ (i := 15) (N := some 61) (v := ?_) (a' := ?_) #[true, true, true, true, true, true, true, true, true, true, true, true, true, true, true, true, false, false] rfl rfl (by kernel_rfl) (fun _ _ _ h => h) (Or.inl ⟨by rfl, ?_⟩) hHeld ?_ ?_
        rotate_left
        · rintro w' ⟨s0, s1, s2, s3, s4, s5⟩
          go_simp
          with_reducible rfl
        rotate_left
        · simp only [Act.put, zSa, zSb, zSc, i64_w, i32_w]
          rfl
        refine one_ (i := 16) (N := some 5) #[true, true, true, true, true, true, true, true, true, true, true, true, true, true, true, true, true, false] rfl rfl (by kernel_rfl) (by decide) (fun K hK => ?_)
        refine box_step ?hg (N := 5) ?hd (cs := #[.int .i64 0, .int .i64 0]) (t := 51) ?hr ?_; (case hd => rfl); (case hg => rfl); (case hr => first | (go_simp; done) | (go_simp; rfl))
        intro ba hg wb hbox hb
        have HBA := zMk (show w0.heap.size ≤ ba ∧ wn.heap.size ≤ ba from ⟨hg ▸ zBs HW5.out.hBl, hg ▸ HW5.out.hK.1⟩)
        replace HW5 := zMk (HW5.out.below hb)
        have BL5 := zMk hb
        have BA := zMk hbox
        clear hg hbox hb
        refine hK.out _ _ ⟨(zKc HW5.out.hw 3).trans (congrArg some E3.out), (Below.cell BL5.out (World.block_lt_of_cell? w5 _ HXN.out)).trans HXN.out, (zKc HW5.out.hw 0).trans rfl, (Below.cell BL5.out (World.block_lt_of_cell? w5 _ HCL.out)).trans HCL.out, (Below.cell BL5.out (World.block_lt_of_cell? w5 _ XA.out)).trans XA.out, (Below.cell BL5.out (World.block_lt_of_cell? w5 _ XB.out)).trans XB.out⟩ (fun hHeld => ?_)
        clear hK K
        refine norm_ (a' := ?_) ?_ ?_
        rotate_left
        · show Act.put _ (some 5) _ = _
          simp only [Act.put, zSa, zSb, zSc, i64_w, i32_w]
          rfl
        refine last_ (i := 17) (N := none) #[true, true, true, true, true, true, true, true, true, true, true, true, true, true, true, true, true, true] rfl rfl (by kernel_rfl) (by decide) (fun K hK => ?_)
        have hb0 : wb.cell? ⟨ba, 0, none⟩ = some (.int .i64 0) := (zKc BA.out 0).trans rfl
        have hb1 : wb.cell? ⟨ba, 1, none⟩ = some (.int .i64 0) := (zKc BA.out 1).trans rfl
        have hf0 := zKf BA.out 0
        have hf1 := zKf BA.out 1
        refine skip_ (w1 := ?_) (by rfl) rfl ?_ ?_
        rotate_left
        · go_simp
          rfl
        refine hK.out _ _ ?_
        clear hK K
        refine done_ (by kernel_rfl) ?_
        have B1 := blk_put (cs := #[.int .i64 0, .int .i64 0]) BA.out 0 (.int .i64 a.f0) rfl
        have HW6 := zMk ((HW5.out.box51 BA.out HBA.out.1 HBA.out.2 0 (.int .i64 a.f0)).box51 B1 HBA.out.1 HBA.out.2 1 (.int .i64 a.f1))
        have BA6 := zMk (blk_put (cs := #[.int .i64 a.f0, .int .i64 0]) B1 1 (.int .i64 a.f1) rfl)
        clear B1 BA HW5 HXN HCL HCI XA XB X0 X1 BL BL5 hb0 hb1 hf0 hf1 HW3 p3 q1 q2
        generalize ((wb.setCell ⟨ba, 0, none⟩ (.int .i64 a.f0)).setCell ⟨ba, 1, none⟩ (.int .i64 a.f1)) = w6 at HW6 BA6 ⊢
        have h3' := HW6.out.h3
        rw [E3.out] at h3'
        obtain ⟨hxn, hfn⟩ := Kd.R_celln (0 : Int) h3' v HB.out.1 HB.out.2.1
        have zn : w6.cell? ⟨g3, v.toNat, none⟩ = some (.int .i64 (rd s.next v)) := hxn
        have z3 : w6.cell? ⟨gw, 3, none⟩ = some (.slice (some ⟨g3, 0, none⟩) s.next.length c3) := (zKc HW6.out.hw 3).trans (congrArg some E3.out)
        clear hxn h3'
        go_upto_region 7 with (fail)
        obtain ⟨t3, ht3⟩ := Kd.R_typed HW6.out.h3 g3 (by rw [E3.out]; exact wk_own)
        have BA7 := zMk (arc_far BA6.out ht3 (by decide) v.toNat (.int .i64 (wrap64 (rd s.next v + 1))))
        have HW7 := zMk (HW6.out.put3 E3.out v (wrap64 (rd s.next v + 1)))
        clear zn z3 hfn HW6 BA6 ht3
        generalize w6.setCell ⟨g3, v.toNat, none⟩ (.int .i64 (wrap64 (rd s.next v + 1))) = w7 at HW7 BA7 ⊢
        have h2 := H2.out
        clear H2
        generalize hsn : ({ s with next := s.next.set v.toNat (wrap64 (rd s.next v + 1)) } : Wk) = s1 at HW7 h2
        unfold wkArc at h2
        by_cases hta : 0 ≤ a.f1 ∧ a.f1 < (s1.taken.length : Int)
        rotate_left
        · rw [if_neg hta] at h2; cases h2
        rw [if_pos hta] at h2
        obtain ⟨g5, c5, e5, -, -, -⟩ := Kd.R_form HW7.out.h5 (by omega)
        have E5 := zMk e5
        have HTA := zMk hta
        have H2 := zMk h2
        have HW8 := zMk (HW7.out.below (zBd (Below.refl w7.heap.size w7)))
        have BA8 := zMk (zKd BA7.out)
        have h5' := HW8.out.h5
        rw [e5] at h5'
        obtain ⟨hxt, -⟩ := Kd.R_celln false h5' a.f1 hta.1 hta.2
        have HXT := zMk (show w7.drew.cell? ⟨g5, a.f1.toNat, none⟩ = some (.bool (rdOf false s1.taken a.f1)) from hxt)
        have q1 : (0 ≤ a.f1) = True := eq_true hta.1
        have q2 : (a.f1 < (s1.taken.length : Int)) = True := eq_true hta.2
        clear h2 hta e5 h5' hxt hsn
        refine start_ (n := 8) (S := fun w' => w'.cell? ⟨gw, 5, none⟩ = some (.slice (some ⟨g5, 0, none⟩) s1.taken.length c5) ∧ w'.cell? ⟨ba, 1, none⟩ = some (.int .i64 a.f1) ∧ w'.cell? ⟨g5, a.f1.toNat, none⟩ = some (.bool (rdOf false s1.taken a.f1))) (ds := []) #[false, false, false, false, false, false, false, false] (by kernel_rfl) rfl rfl ⟨(zKc HW8.out.hw 5).trans (congrArg some E5.out), (zKc BA8.out 1).trans rfl, HXT.out⟩ (fun hHeld => ?_)
        generalize w7.drew = w8 at HW8 BA8 HXT hHeld ⊢
        refine pure_ (i := 0) (N := some 71) (v := ?_) (a' := ?_) #[true, false, false, false, false, false, false, false] rfl rfl (by kernel_rfl) (fun _ _ _ h => h) (Or.inl ⟨by rfl, ?_⟩) ?_ ?_
        rotate_left
        · intro w'
          go_simp
          with_reducible rfl
        rotate_left
        · simp only [Act.put, zSa, zSb, zSc, i64_w, i32_w]
          rfl
        refine pure_ (i := 1) (N := some 72) (v := ?_) (a' := ?_) #[true, true, false, false, false, false, false, false] rfl rfl (by kernel_rfl) (fun _ _ _ h => h) (Or.inl ⟨by rfl, ?_⟩) ?_ ?_
        rotate_left
        · intro w'
          go_simp
          with_reducible rfl
        rotate_left
        · simp only [Act.put, zSa, zSb, zSc, i64_w, i32_w]
          rfl
        refine pure_ (i := 2) (N := some 73) (v := ?_) (a' := ?_) #[true, true, true, false, false, false, false, false] rfl rfl (by kernel_rfl) (fun _ _ _ h => h) (Or.inl ⟨by rfl, ?_⟩) ?_ ?_
        rotate_left
        · intro w'
          go_simp
          with_reducible rfl
        rotate_left
        · simp only [Act.put, zSa, zSb, zSc, i64_w, i32_w]
          rfl
        refine pure_ (i := 4) (N := some 75) (v := ?_) (a' := ?_) #[true, true, true, false, true, false, false, false] rfl rfl (by kernel_rfl) (fun _ _ _ h => h) (Or.inl ⟨by rfl, ?_⟩) ?_ ?_
        rotate_left
        · intro w'
          go_simp
          with_reducible rfl
        rotate_left
        · simp only [Act.put, zSa, zSb, zSc, i64_w, i32_w]
          rfl
        refine take_ (i := 3) (N := some 74) (v := ?_) (a' := ?_) #[true, true, true, true, true, false, false, false] rfl rfl (by kernel_rfl) (fun _ _ _ h => h) (Or.inl ⟨by rfl, ?_⟩) hHeld ?_ ?_
        rotate_left
        · rintro w' ⟨s0, s1, s2⟩
          go_simp
          with_reducible rfl
        rotate_left
        · simp only [Act.put, zSa, zSb, zSc, i64_w, i32_w]
          rfl
        refine take_ (i := 5) (N := some 76) (v := ?_) (a' := ?_) #[true, true, true, true, true, true, false, false] rfl rfl (by kernel_rfl) (fun _ _ _ h => h) (Or.inl ⟨by rfl, ?_⟩) hHeld ?_ ?_
        rotate_left
        · rintro w' ⟨s0, s1, s2⟩
          go_simp
          with_reducible rfl
        rotate_left
        · simp only [Act.put, zSa, zSb, zSc, i64_w, i32_w]
          rfl
        refine pure_ (i := 6) (N := some 77) (v := ?_) (a' := ?_) #[true, true, true, true, true, true, true, false] rfl rfl (by kernel_rfl) (fun _ _ _ h => h) (Or.inl ⟨by rfl, ?_⟩) ?_ ?_
        rotate_left
        · intro w'
          go_simp
          with_reducible rfl
        rotate_left
        · simp only [Act.put, zSa, zSb, zSc, i64_w, i32_w]
          rfl
        refine take_ (i := 7) (N := some 78) (v := ?_) (a' := ?_) #[true, true, true, true, true, true, true, true] rfl rfl (by kernel_rfl) (fun _ _ _ h => h) (Or.inl ⟨by rfl, ?_⟩) hHeld ?_ ?_
        rotate_left
        · rintro w' ⟨s0, s1, s2⟩
          go_simp
          with_reducible rfl
        rotate_left
        · simp only [Act.put, zSa, zSb, zSc, i64_w, i32_w]
          rfl
        refine done_ (by kernel_rfl) ?_
        have h2 := H2.out
        clear H2 HXT HW7 BA7
        generalize htk : rdOf false s1.taken a.f1 = tk at h2 ⊢
        cases tk with
        | true =>
          rw [if_pos rfl] at h2
          obtain rfl := zOi h2
          clear h2 htk
          go_wp2
          go_roundg k1
          case measure => omega
          case rel => exact ⟨V, s1, HW8, HE⟩
        | false =>
          rw [if_neg Bool.false_ne_true] at h2
          by_cases hel : s1.edges.length < 17592186044415
          rotate_left
          · rw [if_neg hel] at h2; cases h2
          rw [if_pos hel] at h2
          have HEL := zMk hel
          have H2 := zMk h2
          clear hel h2 htk
          go_upto_region 8 with (fail)
          have HW9 := zMk (HW8.out.below (zBd (Below.refl w8.heap.size w8)))
          have BA9 := zMk (zKd BA8.out)
          refine start_ (n := 8) (S := fun w' => w'.cell? ⟨gw, 5, none⟩ = some (.slice (some ⟨g5, 0, none⟩) s1.taken.length c5) ∧ w'.cell? ⟨ba, 1, none⟩ = some (.int .i64 a.f1)) (ds := [7]) #[false, false, false, false, false, false, false, false] (by kernel_rfl) rfl rfl ⟨(zKc HW9.out.hw 5).trans (congrArg some E5.out), (zKc BA9.out 1).trans rfl⟩ (fun hHeld => ?_)
          generalize w8.drew = w9 at HW9 BA9 hHeld ⊢
          refine pure_ (i := 0) (N := some 79) (v := ?_) (a' := ?_) #[true, false, false, false, false, false, false, false] rfl rfl (by kernel_rfl) (fun _ _ _ h => h) (Or.inl ⟨by rfl, ?_⟩) ?_ ?_
          rotate_left
          · intro w'
            go_simp
            with_reducible rfl
          rotate_left
          · simp only [Act.put, zSa, zSb, zSc, i64_w, i32_w]
            rfl
          refine pure_ (i := 1) (N := some 80) (v := ?_) (a' := ?_) #[true, true, false, false, false, false, false, false] rfl rfl (by kernel_rfl) (fun _ _ _ h => h) (Or.inl ⟨by rfl, ?_⟩) ?_ ?_
          rotate_left
          · intro w'
            go_simp
            with_reducible rfl
          rotate_left
          · simp only [Act.put, zSa, zSb, zSc, i64_w, i32_w]
            rfl
          refine pure_ (i := 2) (N := some 81) (v := ?_) (a' := ?_) #[true, true, true, false, false, false, false, false] rfl rfl (by kernel_rfl) (fun _ _ _ h => h) (Or.inl ⟨by rfl, ?_⟩) ?_ ?_
          rotate_left
          · intro w'
            go_simp
            with_reducible rfl
          rotate_left
          · simp only [Act.put, zSa, zSb, zSc, i64_w, i32_w]
            rfl
          refine pure_ (i := 4) (N := some 83) (v := ?_) (a' := ?_) #[true, true, true, false, true, false, false, false] rfl rfl (by kernel_rfl) (fun _ _ _ h => h) (Or.inl ⟨by rfl, ?_⟩) ?_ ?_
          rotate_left
          · intro w'
            go_simp
            with_reducible rfl
          rotate_left
          · simp only [Act.put, zSa, zSb, zSc, i64_w, i32_w]
            rfl
          refine take_ (i := 3) (N := some 82) (v := ?_) (a' := ?_) #[true, true, true, true, true, false, false, false] rfl rfl (by kernel_rfl) (fun _ _ _ h => h) (Or.inl ⟨by rfl, ?_⟩) hHeld ?_ ?_
          rotate_left
          · rintro w' ⟨s0, s1⟩
            go_simp
            with_reducible rfl
          rotate_left
          · simp only [Act.put, zSa, zSb, zSc, i64_w, i32_w]
            rfl
          refine take_ (i := 5) (N := some 84) (v := ?_) (a' := ?_) #[true, true, true, true, true, true, false, false] rfl rfl (by kernel_rfl) (fun _ _ _ h => h) (Or.inl ⟨by rfl, ?_⟩) hHeld ?_ ?_
          rotate_left
          · rintro w' ⟨s0, s1⟩
            go_simp
            with_reducible rfl
          rotate_left
          · simp only [Act.put, zSa, zSb, zSc, i64_w, i32_w]
            rfl
          refine pure_ (i := 6) (N := some 85) (v := ?_) (a' := ?_) #[true, true, true, true, true, true, true, false] rfl rfl (by kernel_rfl) (fun _ _ _ h => h) (Or.inl ⟨by rfl, ?_⟩) ?_ ?_
          rotate_left
          · intro w'
            go_simp
            with_reducible rfl
          rotate_left
          · simp only [Act.put, zSa, zSb, zSc, i64_w, i32_w]
            rfl
          refine last_ (i := 7) (N := none) #[true, true, true, true, true, true, true, true] rfl rfl (by kernel_rfl) (by decide) (fun K hK => ?_)
          have h5' := HW9.out.h5
          rw [E5.out] at h5'
          obtain ⟨hxt2, hft⟩ := Kd.R_celln false h5' a.f1 HTA.out.1 HTA.out.2
          clear h5'
          refine skip_ (w1 := ?_) (by rfl) rfl ?_ ?_
          rotate_left
          · go_simp
            rfl
          refine hK.out _ _ ?_
          clear hK K
          refine done_ (by kernel_rfl) ?_
          obtain ⟨t5, ht5⟩ := Kd.R_typed HW9.out.h5 g5 (by rw [E5.out]; exact wk_own)
          have BA10 := zMk (arc_far BA9.out ht5 (by decide) a.f1.toNat (.bool true))
          have HW10 := zMk (HW9.out.put5 E5.out a.f1 true)
          clear HW8 HW9 BA8 BA9 ht5 hft hxt2
          generalize w9.setCell ⟨g5, a.f1.toNat, none⟩ (.bool true) = w10 at HW10 BA10 ⊢
          obtain ⟨s3, hs3⟩ : ∃ s3 : Wk, s3 = { s1 with taken := s1.taken.set a.f1.toNat true } := ⟨_, rfl⟩
          have HS3 := zMk (show WkW w0 wn w10 gw (.slice (some adn) near.length cn) V s3 from hs3 ▸ HW10.out)
          have h2 := H2.out
          rw [show ({ s1 with taken := s1.taken.set a.f1.toNat true, edges := s1.edges ++ [a.f1] } : Wk) = { s3 with edges := s3.edges ++ [a.f1] } by rw [hs3]] at h2
          have HEL3 := zMk (show s3.edges.length < 17592186044415 by rw [hs3]; exact HEL.out)
          have H3 := zMk h2
          clear HW10 H2 h2 hs3
          obtain ⟨AE, cE, eE⟩ := zRs HS3.out.hE
          have EE := zMk eE
          clear eE
          go_upto_region 9 with (fail)
          have HW11 := zMk (HS3.out.below (zBd (Below.refl w10.heap.size w10)))
          have BA11 := zMk (zKd BA10.out)
          refine start_ (n := 12) (S := fun w' => w'.cell? ⟨gw, 4, none⟩ = some (.slice AE s3.edges.length cE) ∧ w'.cell? ⟨ba, 1, none⟩ = some (.int .i64 a.f1)) (ds := [11]) #[false, false, false, false, false, false, false, false, false, false, false, false] (by kernel_rfl) rfl rfl ⟨(zKc HW11.out.hw 4).trans (congrArg some EE.out), (zKc BA11.out 1).trans rfl⟩ (fun hHeld => ?_)
          generalize w10.drew = w11 at HW11 BA11 hHeld ⊢
          refine pure_ (i := 0) (N := some 86) (v := ?_) (a' := ?_) #[true, false, false, false, false, false, false, false, false, false, false, false] rfl rfl (by kernel_rfl) (fun _ _ _ h => h) (Or.inl ⟨by rfl, ?_⟩) ?_ ?_
          rotate_left
          · intro w'
            go_simp
            with_reducible rfl
          rotate_left
          · simp only [Act.put, zSa, zSb, zSc, i64_w, i32_w]
            rfl
          refine pure_ (i := 1) (N := some 87) (v := ?_) (a' := ?_) #[true, true, false, false, false, false, false, false, false, false, false, false] rfl rfl (by kernel_rfl) (fun _ _ _ h => h) (Or.inl ⟨by rfl, ?_⟩) ?_ ?_
          rotate_left
          · intro w'
            go_simp
            with_reducible rfl
          rotate_left
          · simp only [Act.put, zSa, zSb, zSc, i64_w, i32_w]
            rfl
          refine pure_ (i := 2) (N := some 88) (v := ?_) (a' := ?_) #[true, true, true, false, false, false, false, false, false, false, false, false] rfl rfl (by kernel_rfl) (fun _ _ _ h => h) (Or.inl ⟨by rfl, ?_⟩) ?_ ?_
          rotate_left
          · intro w'
            go_simp
            with_reducible rfl
          rotate_left
          · simp only [Act.put, zSa, zSb, zSc, i64_w, i32_w]
            rfl
          refine pure_ (i := 3) (N := some 89) (v := ?_) (a' := ?_) #[true, true, true, true, false, false, false, false, false, false, false, false] rfl rfl (by kernel_rfl) (fun _ _ _ h => h) (Or.inl ⟨by rfl, ?_⟩) ?_ ?_
          rotate_left
          · intro w'
            go_simp
            with_reducible rfl
          rotate_left
          · simp only [Act.put, zSa, zSb, zSc, i64_w, i32_w]
            rfl
          refine pure_ (i := 5) (N := some 91) (v := ?_) (a' := ?_) #[true, true, true, true, false, true, false, false, false, false, false, false] rfl rfl (by kernel_rfl) (fun _ _ _ h => h) (Or.inl ⟨by rfl, ?_⟩) ?_ ?_
          rotate_left
          · intro w'
            go_simp
            with_reducible rfl
          rotate_left
          · simp only [Act.put, zSa, zSb, zSc, i64_w, i32_w]
            rfl
          refine take_ (i := 4) (N := some 90) (v := ?_) (a' := ?_) #[true, true, true, true, true, true, false, false, false, false, false, false] rfl rfl (by kernel_rfl) (fun _ _ _ h => h) (Or.inl ⟨by rfl, ?_⟩) hHeld ?_ ?_
          rotate_left
          · rintro w' ⟨s0, s1⟩
            go_simp
            with_reducible rfl
          rotate_left
          · simp only [Act.put, zSa, zSb, zSc, i64_w, i32_w]
            rfl
          refine take_ (i := 6) (N := some 92) (v := ?_) (a' := ?_) #[true, true, true, true, true, true, true, false, false, false, false, false] rfl rfl (by kernel_rfl) (fun _ _ _ h => h) (Or.inl ⟨by rfl, ?_⟩) hHeld ?_ ?_
          rotate_left
          · rintro w' ⟨s0, s1⟩
            go_simp
            with_reducible rfl
          rotate_left
          · simp only [Act.put, zSa, zSb, zSc, i64_w, i32_w]
            rfl
          refine one_ (i := 7) (N := some 93) #[true, true, true, true, true, true, true, true, false, false, false, false] rfl rfl (by kernel_rfl) (by decide) (fun K hK => ?_)
          refine Kd.R_lit_step (Kd.int .i64) _ 3 ?hg (N := 93) ?hd (xs := ([a.f1] : List Int)) (inner := [.int .i64 a.f1]) (ok := fun _ => True) (okp := fun _ => True) ?hr ?hp (fun _ hk => hk) trivial (Below.refl _ _) (Nat.le_refl _) (by simp) ?_; (case hd => rfl); (case hg => rfl); (case hr => first | (go_simp; done) | (go_simp; rfl)); (case hp => exact (Reps.one (show Kd.M (Kd.int .i64) _ _ _ a.f1 [.int .i64 a.f1] from rfl) (Reps.none _ _)))
          intro vL wl ho hb _ _
          replace HW11 := zMk (HW11.out.below hb)
          replace BA11 := zMk (zKb BA11.out hb)
          obtain ⟨AL, cL, eL⟩ := zRs ho
          subst eL
          have RL := zMk ho
          clear ho hb
          refine hK.out _ _ ⟨(zKc HW11.out.hw 4).trans (congrArg some EE.out), (zKc BA11.out 1).trans rfl⟩ (fun hHeld => ?_)
          clear hK K
          refine norm_ (a' := ?_) ?_ ?_
          rotate_left
          · show Act.put _ (some 93) _ = _
            simp only [Act.put, zSa, zSb, zSc, i64_w, i32_w]
            rfl
          refine one_ (i := 8) (N := some 94) #[true, true, true, true, true, true, true, true, true, false, false, false] rfl rfl (by kernel_rfl) (by decide) (fun K hK => ?_)
          have hE' : Kd.R (Kd.int .i64) 3 wl w0.heap.size (fun _ => True) (.slice AE s3.edges.length cE) s3.edges := EE.out ▸ HW11.out.hE
          refine Kd.R_append_rows_step (Kd.int .i64) (w0 := w0) w0.heap.size (by rfl) (.tmp 90) (.tmp 93) 33 3 (.int .i64 0) 8 rfl Try.underlying33 info3 rfl (by decide) (by omega) (.slice AE s3.edges.length cE) s3.edges [a.f1] _ _ _ (fun _ => True) (fun _ => False) rfl rfl ?aO ?aR (fun _ _ h => h) (fun _ h => h.elim) ?aF ?aB ?aS ?aL ?_
          (case aO => exact hE')
          (case aR => exact uC (zRr RL.out).2.2)
          (case aF => exact fun _ _ => trivial)
          (case aB => exact HW11.out.hBl)
          (case aS => exact zBs HW11.out.hBl)
          (case aL => have := HEL3.out; simp only [zLc, zLn]; omega)
          intro vQ wq ho hb hg hat
          have HF := zMk (HW11.out.gedges hb (EE.out ▸ hg) ho (EE.out ▸ hat))
          have BQ := zMk (blk_grown BA11.out hg (Kd.R_ne hE' BA11.out (by decide)))
          have HQ := zMk (blk_grown HW11.out.hw hg (Kd.R_ne hE' HW11.out.hw (by decide)))
          generalize hen : s3.edges ++ [a.f1] = en at ho HF
          obtain ⟨AQ, cQ, eQ⟩ := zRs ho
          subst eQ
          have HEN := zMk hen
          clear ho hb hg hat hE' hen
          refine hK.out _ _ ⟨(zKc HQ.out 4).trans (congrArg some EE.out), (zKc BQ.out 1).trans rfl⟩ (fun hHeld => ?_)
          clear hK K
          refine norm_ (a' := ?_) ?_ ?_
          rotate_left
          · show Act.put _ (some 94) _ = _
            simp only [Act.put, zSa, zSb, zSc, i64_w, i32_w]
            rfl
          refine pure_ (i := 9) (N := some 95) (v := ?_) (a' := ?_) #[true, true, true, true, true, true, true, true, true, true, false, false] rfl rfl (by kernel_rfl) (fun _ _ _ h => h) (Or.inl ⟨by rfl, ?_⟩) ?_ ?_
          rotate_left
          · intro w'
            go_simp
            with_reducible rfl
          rotate_left
          · simp only [Act.put, zSa, zSb, zSc, i64_w, i32_w]
            rfl
          refine pure_ (i := 10) (N := some 96) (v := ?_) (a' := ?_) #[true, true, true, true, true, true, true, true, true, true, true, false] rfl rfl (by kernel_rfl) (fun _ _ _ h => h) (Or.inl ⟨by rfl, ?_⟩) ?_ ?_
          rotate_left
          · intro w'
            go_simp
            with_reducible rfl
          rotate_left
          · simp only [Act.put, zSa, zSb, zSc, i64_w, i32_w]
            rfl
          refine last_ (i := 11) (N := none) #[true, true, true, true, true, true, true, true, true, true, true, true] rfl rfl (by kernel_rfl) (by decide) (fun K hK => ?_)
          have z4 : wq.cell? ⟨gw, 4, none⟩ = some (.slice AE s3.edges.length cE) := (zKc HQ.out 4).trans (congrArg some EE.out)
          have f4 := zKf HQ.out 4
          refine skip_ (w1 := ?_) (by rfl) rfl ?_ ?_
          rotate_left
          · go_simp
            rfl
          refine hK.out _ _ ?_
          clear hK K
          refine done_ (by kernel_rfl) ?_
          have BA12 := zMk (arc_far BQ.out HQ.out (by decide) 4 (.slice AQ en.length cQ))
          have h3 := H3.out
          rw [HEN.out] at h3
          clear HS3 HW11 BA10 BA11 BQ HQ RL z4 f4 H3 HEN HEL HEL3
          generalize wq.setCell ⟨gw, 4, none⟩ (.slice AQ en.length cQ) = w12 at HF BA12 ⊢
          obtain ⟨s4, hs4⟩ : ∃ s4 : Wk, s4 = { s3 with edges := en } := ⟨_, rfl⟩
          rw [← hs4] at h3
          obtain ⟨V4, hV4⟩ : ∃ V4 : WkV, V4 = { V with vE := .slice AQ en.length cQ } := ⟨_, rfl⟩
          have HS4 := zMk (show WkW w0 wn w12 gw (.slice (some adn) near.length cn) V4 s4 from by rw [hs4, hV4]; exact HF.out)
          clear HF hs4 hV4
          unfold wkFar at h3
          by_cases hfa : 0 ≤ a.f0 ∧ a.f0 < (s4.ord.length : Int) ∧ v < (s4.low.length : Int)
          rotate_left
          · rw [if_neg hfa] at h3; cases h3
          rw [if_pos hfa] at h3
          have HFA := zMk hfa
          have H4 := zMk h3
          obtain ⟨g1, c1, e1, -, -, -⟩ := Kd.R_form HS4.out.h1 (by omega)
          have E1 := zMk e1
          clear hfa h3 e1
          go_upto_region 10 with (fail)
          have HW13 := zMk (HS4.out.below (zBd (Below.refl w12.heap.size w12)))
          have BA13 := zMk (zKd BA12.out)
          have h1' := HW13.out.h1
          rw [E1.out] at h1'
          obtain ⟨hxo, -⟩ := Kd.R_celln (0 : Int) h1' a.f0 HFA.out.1 HFA.out.2.1
          have HXO := zMk (show w12.drew.cell? ⟨g1, a.f0.toNat, none⟩ = some (.int .i64 (rd s4.ord a.f0)) from hxo)
          have u1 : (0 ≤ a.f0) = True := eq_true HFA.out.1
          have u2 : (a.f0 < (s4.ord.length : Int)) = True := eq_true HFA.out.2.1
          clear h1' hxo
          refine start_ (n := 9) (S := fun w' => w'.cell? ⟨gw, 1, none⟩ = some (.slice (some ⟨g1, 0, none⟩) s4.ord.length c1) ∧ w'.cell? ⟨ba, 0, none⟩ = some (.int .i64 a.f0) ∧ w'.cell? ⟨g1, a.f0.toNat, none⟩ = some (.int .i64 (rd s4.ord a.f0))) (ds := []) #[false, false, false, false, false, false, false, false, false] (by kernel_rfl) rfl rfl ⟨(zKc HW13.out.hw 1).trans (congrArg some E1.out), (zKc BA13.out 0).trans rfl, HXO.out⟩ (fun hHeld => ?_)
          generalize w12.drew = w13 at HW13 BA13 HXO hHeld ⊢
          refine pure_ (i := 0) (N := some 97) (v := ?_) (a' := ?_) #[true, false, false, false, false, false, false, false, false] rfl rfl (by kernel_rfl) (fun _ _ _ h => h) (Or.inl ⟨by rfl, ?_⟩) ?_ ?_
          rotate_left
          · intro w'
            go_simp
            with_reducible rfl
          rotate_left
          · simp only [Act.put, zSa, zSb, zSc, i64_w, i32_w]
            rfl
          refine pure_ (i := 1) (N := some 98) (v := ?_) (a' := ?_) #[true, true, false, false, false, false, false, false, false] rfl rfl (by kernel_rfl) (fun _ _ _ h => h) (Or.inl ⟨by rfl, ?_⟩) ?_ ?_
          rotate_left
          · intro w'
            go_simp
            with_reducible rfl
          rotate_left
          · simp only [Act.put, zSa, zSb, zSc, i64_w, i32_w]
            rfl
          refine pure_ (i := 2) (N := some 99) (v := ?_) (a' := ?_) #[true, true, true, false, false, false, false, false, false] rfl rfl (by kernel_rfl) (fun _ _ _ h => h) (Or.inl ⟨by rfl, ?_⟩) ?_ ?_
          rotate_left
          · intro w'
            go_simp
            with_reducible rfl
          rotate_left
          · simp only [Act.put, zSa, zSb, zSc, i64_w, i32_w]
            rfl
          refine pure_ (i := 4) (N := some 101) (v := ?_) (a' := ?_) #[true, true, true, false, true, false, false, false, false] rfl rfl (by kernel_rfl) (fun _ _ _ h => h) (Or.inl ⟨by rfl, ?_⟩) ?_ ?_
          rotate_left
          · intro w'
            go_simp
            with_reducible rfl
          rotate_left
          · simp only [Act.put, zSa, zSb, zSc, i64_w, i32_w]
            rfl
          refine take_ (i := 3) (N := some 100) (v := ?_) (a' := ?_) #[true, true, true, true, true, false, false, false, false] rfl rfl (by kernel_rfl) (fun _ _ _ h => h) (Or.inl ⟨by rfl, ?_⟩) hHeld ?_ ?_
          rotate_left
          · rintro w' ⟨s0, s1, s2⟩
            go_simp
            with_reducible rfl
          rotate_left
          · simp only [Act.put, zSa, zSb, zSc, i64_w, i32_w]
            rfl
          refine take_ (i := 5) (N := some 102) (v := ?_) (a' := ?_) #[true, true, true, true, true, true, false, false, false] rfl rfl (by kernel_rfl) (fun _ _ _ h => h) (Or.inl ⟨by rfl, ?_⟩) hHeld ?_ ?_
          rotate_left
          · rintro w' ⟨s0, s1, s2⟩
            go_simp
            with_reducible rfl
          rotate_left
          · simp only [Act.put, zSa, zSb, zSc, i64_w, i32_w]
            rfl
          refine pure_ (i := 6) (N := some 103) (v := ?_) (a' := ?_) #[true, true, true, true, true, true, true, false, false] rfl rfl (by kernel_rfl) (fun _ _ _ h => h) (Or.inl ⟨by rfl, ?_⟩) ?_ ?_
          rotate_left
          · intro w'
            go_simp
            with_reducible rfl
          rotate_left
          · simp only [Act.put, zSa, zSb, zSc, i64_w, i32_w]
            rfl
          refine take_ (i := 7) (N := some 104) (v := ?_) (a' := ?_) #[true, true, true, true, true, true, true, true, false] rfl rfl (by kernel_rfl) (fun _ _ _ h => h) (Or.inl ⟨by rfl, ?_⟩) hHeld ?_ ?_
          rotate_left
          · rintro w' ⟨s0, s1, s2⟩
            go_simp
            with_reducible rfl
          rotate_left
          · simp only [Act.put, zSa, zSb, zSc, i64_w, i32_w]
            rfl
          refine pure_ (i := 8) (N := some 105) (v := ?_) (a' := ?_) #[true, true, true, true, true, true, true, true, true] rfl rfl (by kernel_rfl) (fun _ _ _ h => h) (Or.inl ⟨by rfl, ?_⟩) ?_ ?_
          rotate_left
          · intro w'
            go_simp
            with_reducible rfl
          rotate_left
          · simp only [Act.put, zSa, zSb, zSc, i64_w, i32_w]
            rfl
          refine done_ (by kernel_rfl) ?_
          clear HXO HS4 BA12
          have h4 := H4.out
          clear H4
          by_cases hoz : rd s4.ord a.f0 = 0
          · rw [if_pos hoz] at h4
            have H5 := zMk h4
            have hd : (rd s4.ord a.f0 == 0) = true := beq_iff_eq.mpr hoz
            go_upto_if 105 with (fail)
            first | rw [hd] | skip
            clear h4 hoz hd
            have y0 : w13.cell? ⟨ba, 0, none⟩ = some (.int .i64 a.f0) := (zKc BA13.out 0).trans rfl
            have y1 : w13.cell? ⟨ba, 1, none⟩ = some (.int .i64 a.f1) := (zKc BA13.out 1).trans rfl
            go_wp2_with (go_at_call 62; refine (wkEnter.calls w0 wn _ gw _ V4 s4 s2 a.f0 a.f1 HW13.out H5.out).mono ?_; rintro e w14 ⟨rfl, vS, h6⟩; have HW14 := zMk h6; clear h6)
            clear y0 y1
            go_roundg k1
            case measure => omega
            case rel => exact ⟨_, s2, HW14, HE⟩
          · rw [if_neg hoz] at h4
            have h4s := zOi h4
            have hd : (rd s4.ord a.f0 == 0) = false := beq_eq_false_iff_ne.mpr hoz
            go_upto_if 105 with (fail)
            first | rw [hd] | skip
            have H4S := zMk h4s
            clear h4 h4s hoz hd
            obtain ⟨g2, c2, e2, -, -, -⟩ := Kd.R_form HW13.out.h2 (by have := HFA.out; have := HB.out; omega)
            have E2 := zMk e2
            clear e2
            go_upto_region 12 with (fail)
            have HW14 := zMk (HW13.out.below (zBd (Below.refl w13.heap.size w13)))
            have BA14 := zMk (zKd BA13.out)
            have h1' := HW14.out.h1
            rw [E1.out] at h1'
            obtain ⟨hxo, -⟩ := Kd.R_celln (0 : Int) h1' a.f0 HFA.out.1 HFA.out.2.1
            have HXO := zMk (show w13.drew.cell? ⟨g1, a.f0.toNat, none⟩ = some (.int .i64 (rd s4.ord a.f0)) from hxo)
            have h2' := HW14.out.h2
            rw [E2.out] at h2'
            obtain ⟨hxl, hfl⟩ := Kd.R_celln (0 : Int) h2' v HB.out.1 HFA.out.2.2
            have HXL := zMk (show w13.drew.cell? ⟨g2, v.toNat, none⟩ = some (.int .i64 (rd s4.low v)) from hxl)
            have u3 : (v < (s4.low.length : Int)) = True := eq_true HFA.out.2.2
            clear h1' hxo h2' hxl
            refine start_ (n := 23) (S := fun w' => w'.cell? ⟨gw, 1, none⟩ = some (.slice (some ⟨g1, 0, none⟩) s4.ord.length c1) ∧ w'.cell? ⟨ba, 0, none⟩ = some (.int .i64 a.f0) ∧ w'.cell? ⟨g1, a.f0.toNat, none⟩ = some (.int .i64 (rd s4.ord a.f0)) ∧ w'.cell? ⟨gw, 2, none⟩ = some (.slice (some ⟨g2, 0, none⟩) s4.low.length c2) ∧ w'.cell? ⟨g2, v.toNat, none⟩ = some (.int .i64 (rd s4.low v))) (ds := [22]) #[false, false, false, false, false, false, false, false, false, false, false, false, false, false, false, false, false, false, false, false, false, false, false] (by kernel_rfl) rfl rfl ⟨(zKc HW14.out.hw 1).trans (congrArg some E1.out), (zKc BA14.out 0).trans rfl, HXO.out, (zKc HW14.out.hw 2).trans (congrArg some E2.out), HXL.out⟩ (fun hHeld => ?_)
            generalize w13.drew = w14 at HW14 BA14 HXO HXL hfl hHeld ⊢
            refine pure_ (i := 0) (N := some 112) (v := ?_) (a' := ?_) #[true, false, false, false, false, false, false, false, false, false, false, false, false, false, false, false, false, false, false, false, false, false, false] rfl rfl (by kernel_rfl) (fun _ _ _ h => h) (Or.inl ⟨by rfl, ?_⟩) ?_ ?_
            rotate_left
            · intro w'
              go_simp
              with_reducible rfl
            rotate_left
            · simp only [Act.put, zSa, zSb, zSc, i64_w, i32_w]
              rfl
            refine pure_ (i := 1) (N := some 113) (v := ?_) (a' := ?_) #[true, true, false, false, false, false, false, false, false, false, false, false, false, false, false, false, false, false, false, false, false, false, false] rfl rfl (by kernel_rfl) (fun _ _ _ h => h) (Or.inl ⟨by rfl, ?_⟩) ?_ ?_
            rotate_left
            · intro w'
              go_simp
              with_reducible rfl
            rotate_left
            · simp only [Act.put, zSa, zSb, zSc, i64_w, i32_w]
              rfl
            refine pure_ (i := 2) (N := some 114) (v := ?_) (a' := ?_) #[true, true, true, false, false, false, false, false, false, false, false, false, false, false, false, false, false, false, false, false, false, false, false] rfl rfl (by kernel_rfl) (fun _ _ _ h => h) (Or.inl ⟨by rfl, ?_⟩) ?_ ?_
            rotate_left
            · intro w'
              go_simp
              with_reducible rfl
            rotate_left
            · simp only [Act.put, zSa, zSb, zSc, i64_w, i32_w]
              rfl
            refine pure_ (i := 4) (N := some 116) (v := ?_) (a' := ?_) #[true, true, true, false, true, false, false, false, false, false, false, false, false, false, false, false, false, false, false, false, false, false, false] rfl rfl (by kernel_rfl) (fun _ _ _ h => h) (Or.inl ⟨by rfl, ?_⟩) ?_ ?_
            rotate_left
            · intro w'
              go_simp
              with_reducible rfl
            rotate_left
            · simp only [Act.put, zSa, zSb, zSc, i64_w, i32_w]
              rfl
            refine pure_ (i := 5) (N := some 117) (v := ?_) (a' := ?_) #[true, true, true, false, true, true, false, false, false, false, false, false, false, false, false, false, false, false, false, false, false, false, false] rfl rfl (by kernel_rfl) (fun _ _ _ h => h) (Or.inl ⟨by rfl, ?_⟩) ?_ ?_
            rotate_left
            · intro w'
              go_simp
              with_reducible rfl
            rotate_left
            · simp only [Act.put, zSa, zSb, zSc, i64_w, i32_w]
              rfl
            refine pure_ (i := 6) (N := some 118) (v := ?_) (a' := ?_) #[true, true, true, false, true, true, true, false, false, false, false, false, false, false, false, false, false, false, false, false, false, false, false] rfl rfl (by kernel_rfl) (fun _ _ _ h => h) (Or.inl ⟨by rfl, ?_⟩) ?_ ?_
            rotate_left
            · intro w'
              go_simp
              with_reducible rfl
            rotate_left
            · simp only [Act.put, zSa, zSb, zSc, i64_w, i32_w]
              rfl
            refine pure_ (i := 7) (N := some 119) (v := ?_) (a' := ?_) #[true, true, true, false, true, true, true, true, false, false, false, false, false, false, false, false, false, false, false, false, false, false, false] rfl rfl (by kernel_rfl) (fun _ _ _ h => h) (Or.inl ⟨by rfl, ?_⟩) ?_ ?_
            rotate_left
            · intro w'
              go_simp
              with_reducible rfl
            rotate_left
            · simp only [Act.put, zSa, zSb, zSc, i64_w, i32_w]
              rfl
            refine pure_ (i := 9) (N := some 121) (v := ?_) (a' := ?_) #[true, true, true, false, true, true, true, true, false, true, false, false, false, false, false, false, false, false, false, false, false, false, false] rfl rfl (by kernel_rfl) (fun _ _ _ h => h) (Or.inl ⟨by rfl, ?_⟩) ?_ ?_
            rotate_left
            · intro w'
              go_simp
              with_reducible rfl
            rotate_left
            · simp only [Act.put, zSa, zSb, zSc, i64_w, i32_w]
              rfl
            refine pure_ (i := 12) (N := some 124) (v := ?_) (a' := ?_) #[true, true, true, false, true, true, true, true, false, true, false, false, true, false, false, false, false, false, false, false, false, false, false] rfl rfl (by kernel_rfl) (fun _ _ _ h => h) (Or.inl ⟨by rfl, ?_⟩) ?_ ?_
            rotate_left
            · intro w'
              go_simp
              with_reducible rfl
            rotate_left
            · simp only [Act.put, zSa, zSb, zSc, i64_w, i32_w]
              rfl
            refine pure_ (i := 13) (N := some 125) (v := ?_) (a' := ?_) #[true, true, true, false, true, true, true, true, false, true, false, false, true, true, false, false, false, false, false, false, false, false, false] rfl rfl (by kernel_rfl) (fun _ _ _ h => h) (Or.inl ⟨by rfl, ?_⟩) ?_ ?_
            rotate_left
            · intro w'
              go_simp
              with_reducible rfl
            rotate_left
            · simp only [Act.put, zSa, zSb, zSc, i64_w, i32_w]
              rfl
            refine pure_ (i := 14) (N := some 126) (v := ?_) (a' := ?_) #[true, true, true, false, true, true, true, true, false, true, false, false, true, true, true, false, false, false, false, false, false, false, false] rfl rfl (by kernel_rfl) (fun _ _ _ h => h) (Or.inl ⟨by rfl, ?_⟩) ?_ ?_
            rotate_left
            · intro w'
              go_simp
              with_reducible rfl
            rotate_left
            · simp only [Act.put, zSa, zSb, zSc, i64_w, i32_w]
              rfl
            refine pure_ (i := 16) (N := some 128) (v := ?_) (a' := ?_) #[true, true, true, false, true, true, true, true, false, true, false, false, true, true, true, false, true, false, false, false, false, false, false] rfl rfl (by kernel_rfl) (fun _ _ _ h => h) (Or.inl ⟨by rfl, ?_⟩) ?_ ?_
            rotate_left
            · intro w'
              go_simp
              with_reducible rfl
            rotate_left
            · simp only [Act.put, zSa, zSb, zSc, i64_w, i32_w]
              rfl
            refine take_ (i := 3) (N := some 115) (v := ?_) (a' := ?_) #[true, true, true, true, true, true, true, true, false, true, false, false, true, true, true, false, true, false, false, false, false, false, false] rfl rfl (by kernel_rfl) (fun _ _ _ h => h) (Or.inl ⟨by rfl, ?_⟩) hHeld ?_ ?_
            rotate_left
            · rintro w' ⟨s0, s1, s2, s3, s4⟩
              go_simp
              with_reducible rfl
            rotate_left
            · simp only [Act.put, zSa, zSb, zSc, i64_w, i32_w]
              rfl
            refine take_ (i := 8) (N := some 120) (v := ?_) (a' := ?_) #[true, true, true, true, true, true, true, true, true, true, false, false, true, true, true, false, true, false, false, false, false, false, false] rfl rfl (by kernel_rfl) (fun _ _ _ h => h) (Or.inl ⟨by rfl, ?_⟩) hHeld ?_ ?_
            rotate_left
            · rintro w' ⟨s0, s1, s2, s3, s4⟩
              go_simp
              with_reducible rfl
            rotate_left
            · simp only [Act.put, zSa, zSb, zSc, i64_w, i32_w]
              rfl
            refine pure_ (i := 10) (N := some 122) (v := ?_) (a' := ?_) #[true, true, true, true, true, true, true, true, true, true, true, false, true, true, true, false, true, false, false, false, false, false, false] rfl rfl (by kernel_rfl) (fun _ _ _ h => h) (Or.inl ⟨by rfl, ?_⟩) ?_ ?_
            rotate_left
            · intro w'
              go_simp
              with_reducible rfl
            rotate_left
            · simp only [Act.put, zSa, zSb, zSc, i64_w, i32_w]
              rfl
            refine take_ (i := 11) (N := some 123) (v := ?_) (a' := ?_) #[true, true, true, true, true, true, true, true, true, true, true, true, true, true, true, false, true, false, false, false, false, false, false] rfl rfl (by kernel_rfl) (fun _ _ _ h => h) (Or.inl ⟨by rfl, ?_⟩) hHeld ?_ ?_
            rotate_left
            · rintro w' ⟨s0, s1, s2, s3, s4⟩
              go_simp
              with_reducible rfl
            rotate_left
            · simp only [Act.put, zSa, zSb, zSc, i64_w, i32_w]
              rfl
            refine take_ (i := 15) (N := some 127) (v := ?_) (a' := ?_) #[true, true, true, true, true, true, true, true, true, true, true, true, true, true, true, true, true, false, false, false, false, false, false] rfl rfl (by kernel_rfl) (fun _ _ _ h => h) (Or.inl ⟨by rfl, ?_⟩) hHeld ?_ ?_
            rotate_left
            · rintro w' ⟨s0, s1, s2, s3, s4⟩
              go_simp
              with_reducible rfl
            rotate_left
            · simp only [Act.put, zSa, zSb, zSc, i64_w, i32_w]
              rfl
            refine take_ (i := 17) (N := some 129) (v := ?_) (a' := ?_) #[true, true, true, true, true, true, true, true, true, true, true, true, true, true, true, true, true, true, false, false, false, false, false] rfl rfl (by kernel_rfl) (fun _ _ _ h => h) (Or.inl ⟨by rfl, ?_⟩) hHeld ?_ ?_
            rotate_left
            · rintro w' ⟨s0, s1, s2, s3, s4⟩
              go_simp
              with_reducible rfl
            rotate_left
            · simp only [Act.put, zSa, zSb, zSc, i64_w, i32_w]
              rfl
            refine pure_ (i := 18) (N := some 130) (v := ?_) (a' := ?_) #[true, true, true, true, true, true, true, true, true, true, true, true, true, true, true, true, true, true, true, false, false, false, false] rfl rfl (by kernel_rfl) (fun _ _ _ h => h) (Or.inl ⟨by rfl, ?_⟩) ?_ ?_
            rotate_left
            · intro w'
              go_simp
              with_reducible rfl
            rotate_left
            · simp only [Act.put, zSa, zSb, zSc, i64_w, i32_w]
              rfl
            refine take_ (i := 19) (N := some 131) (v := ?_) (a' := ?_) #[true, true, true, true, true, true, true, true, true, true, true, true, true, true, true, true, true, true, true, true, false, false, false] rfl rfl (by kernel_rfl) (fun _ _ _ h => h) (Or.inl ⟨by rfl, ?_⟩) hHeld ?_ ?_
            rotate_left
            · rintro w' ⟨s0, s1, s2, s3, s4⟩
              go_simp
              with_reducible rfl
            rotate_left
            · simp only [Act.put, zSa, zSb, zSc, i64_w, i32_w]
              rfl
            refine pure_ (i := 20) (N := some 132) (v := ?_) (a' := ?_) #[true, true, true, true, true, true, true, true, true, true, true, true, true, true, true, true, true, true, true, true, true, false, false] rfl rfl (by kernel_rfl) (fun _ _ _ h => h) (Or.inl ⟨by rfl, ?_⟩) ?_ ?_
            rotate_left
            · intro w'
              go_simp
              with_reducible rfl
            rotate_left
            · simp only [Act.put, zSa, zSb, zSc, i64_w, i32_w]
              rfl
            refine pure_ (i := 21) (N := some 133) (v := ?_) (a' := ?_) #[true, true, true, true, true, true, true, true, true, true, true, true, true, true, true, true, true, true, true, true, true, true, false] rfl rfl (by kernel_rfl) (fun _ _ _ h => h) (Or.inl ⟨by rfl, ?_⟩) ?_ ?_
            rotate_left
            · intro w'
              go_simp
              with_reducible rfl
            rotate_left
            · simp only [Act.put, zSa, zSb, zSc, i64_w, i32_w]
              rfl
            refine last_ (i := 22) (N := none) #[true, true, true, true, true, true, true, true, true, true, true, true, true, true, true, true, true, true, true, true, true, true, true] rfl rfl (by kernel_rfl) (by decide) (fun K hK => ?_)
            have hxl2 := HXL.out
            refine skip_ (w1 := ?_) (by rfl) rfl ?_ ?_
            rotate_left
            · go_simp
              rfl
            refine hK.out _ _ ?_
            clear hK K
            refine done_ (by kernel_rfl) ?_
            have HF := zMk (HW14.out.put2 E2.out v (if rd s4.ord a.f0 < rd s4.low v then rd s4.ord a.f0 else rd s4.low v))
            rw [H4S.out] at HF
            clear HW13 HW14 BA13 BA14 HXO HXL hxl2
            generalize w14.setCell ⟨g2, v.toNat, none⟩ (.int .i64 (if rd s4.ord a.f0 < rd s4.low v then rd s4.ord a.f0 else rd s4.low v)) = w15 at HF ⊢
            try go_wp2
            all_goals
              go_roundg k1
              case measure => omega
              case rel => exact ⟨_, s2, HF, HE⟩
theorem wkRun2.calls (near : List (List S51)) (k : Nat) (w0 wn w : World) (gw : Nat) (An : Option Addr) (cn : Nat) (V : WkV) (s s' : Wk) (root : Int) (nb : Nat) (okn : Nat → Prop) (hn : Kd.S (Kd.slice 51 k51) 49 wn nb okn (.slice An near.length cn) near)
    (h : WkW w0 wn w gw (.slice An near.length cn) V s) (he : wkRun (wkLeave wkOff (wkMore near) near) near k s root = some s') :
    Calls Try.prog 45 #[.pointer (some ⟨gw, 0, none⟩), .int .i64 root] w fun e w' => e = .returned (.tuple #[]) ∧ ∃ V', WkW w0 wn w' gw (.slice An near.length cn) V' s' :=
  wkRun.calls (wkLeave wkOff (wkMore near) near) near k w0 wn w gw An cn V s s' root
    (fun W V s s' hW hl => wkLeave.calls wkOff (wkMore near) near w0 wn W gw An cn V s s'
      (fun W V s s' x hW ho => wkOff.calls w0 wn W gw _ V s s' x hW ho)
      (fun W V s x b hW hm => wkMore.calls near w0 wn W gw An cn V s x b nb okn hn hW hm)
      nb okn hn hW hl)
    nb okn hn h he
-- WALKED
def wkStart (n m : Nat) : Wk := ⟨List.replicate n 0, List.replicate n 0, List.replicate n 0, [], List.replicate m false, List.replicate n false, [], 0, []⟩
def wkAll (run : Wk → Int → Option Wk) : Nat → Nat → Wk → Option Wk
  | 0, _, s => some s
  | d + 1, v, s => if (v : Int) < (s.ord.length : Int) then (if rd s.ord (v : Int) = 0 then (run s (v : Int)).bind (wkAll run d (v + 1)) else wkAll run d (v + 1) s) else none
def wkWalked (k : Nat) (n : Int) (E : List S43) : Option Wk :=
  if 0 ≤ n ∧ n ≤ 35184372088832 ∧ E.length ≤ 35184372088832 then (parts_arcs.f k n E).bind fun near => (wkAll (wkRun (wkLeave wkOff (wkMore near) near) near k) n.toNat 0 (wkStart n.toNat E.length)).bind wkSorts else none
def wkWalked.T2 : Bool × List (List Nat × List Nat) := (true, [([], []), ([0], [0]), ([], []), ([2, 2], [2]), ([], []), ([4, 4], [4]), ([], []), ([6, 6], [6]), ([], []), ([8, 8], [8]), ([], []), ([10, 10], [10]), ([1, 3, 5, 7, 9, 11], [1, 3, 5, 7, 9, 11]), ([12], [12]), ([13, 1, 0, 1, 2, 3, 4, 5, 6, 7, 8, 9, 10, 11, 12, 13], [13])])
def wkWalked.B2 : List Nat := [0, 1, 0, 4, 0, 16, 0, 64, 0, 256, 0, 1024, 4095, 8191, 16383]
theorem wkWalked.tab2 : rtab .any (opsOf Try.f31 2) = wkWalked.T2 := by kernel_rfl
theorem wkWalked.bits2 : waitsOk wkWalked.T2.2 wkWalked.B2 = true := by kernel_rfl
theorem wkWalked.calls (k : Nat) (n : Int) (A0 : Option Addr) (c0 : Nat) (E : List S43) (s' : Wk) (w : World) (hr0 : Kd.C k43 w A0 E.length E) (hc0 : E.length ≤ c0) (h : wkWalked k n E = some s') :
    Calls Try.prog 31 #[.agg #[.int .i64 n, .slice A0 E.length c0]] w fun e w' => ∃ (gw : Nat) (vn : Value) (V : WkV) (w0 wn : World), e = .returned (.pointer (some ⟨gw, 0, none⟩)) ∧ WkW w0 wn w' gw vn V s' ∧ Below w.heap.size w w0 := by
  have hu24 := Try.underlying24
  have hu55 := Try.underlying55
  have HR := zMk hr0
  have HC := zMk hc0
  unfold wkWalked at h
  by_cases hn : 0 ≤ n ∧ n ≤ 35184372088832 ∧ E.length ≤ 35184372088832
  rotate_left
  · rw [if_neg hn] at h; cases h
  rw [if_pos hn] at h
  obtain ⟨nn, rfl⟩ : ∃ nn : Nat, n = (nn : Int) := ⟨n.toNat, by omega⟩
  rw [zTn] at h
  obtain ⟨near, hN, h⟩ := Option.bind_eq_some_iff.1 h
  obtain ⟨sr, hA, h⟩ := Option.bind_eq_some_iff.1 h
  have HN := zMk hN
  have HA := zMk hA
  have HZ := zMk h
  have HNN := zMk (show nn ≤ 35184372088832 by omega)
  have HEL := zMk hn.2.2
  clear hr0 hc0 h hn hN hA
  go_enter Try.func31, Try.ntmps31
  go_upto_region 1 with (fail)
  have BM0 := heap_alloc_new w (.cells #[.int .i64 (nn : Int), .slice A0 E.length c0] 24)
  have HB10 := zBd (zBa (Below.refl w.heap.size w) (.cells #[.int .i64 (nn : Int), .slice A0 E.length c0] 24))
  generalize w.alloc (.cells #[.int .i64 (nn : Int), .slice A0 E.length c0] 24) = w0 at BM0 HB10 ⊢
  obtain ⟨gb, hgb⟩ : ∃ gb, gb = w.heap.size := ⟨_, rfl⟩
  rw [← hgb] at BM0 ⊢
  clear hgb
  have BM := zMk (zKd BM0)
  have HB1 := zMk HB10
  clear BM0 HB10
  refine start_ (n := 7) (S := fun w' => w'.cell? ⟨gb, 0, none⟩ = some (.int .i64 (nn : Int)) ∧ w'.cell? ⟨gb, 1, none⟩ = some (.slice A0 E.length c0)) (ds := []) #[false, false, false, false, false, false, false] (by kernel_rfl) rfl rfl ⟨(zKc BM.out 0).trans rfl, (zKc BM.out 1).trans rfl⟩ (fun hHeld => ?_)
  generalize w0.drew = w1 at BM HB1 hHeld ⊢
  refine pure_ (i := 0) (N := some 8) (v := ?_) (a' := ?_) #[true, false, false, false, false, false, false] rfl rfl (by kernel_rfl) (fun _ _ _ h => h) (Or.inl ⟨by rfl, ?_⟩) ?_ ?_
  rotate_left
  · intro w'
    go_simp
    with_reducible rfl
  rotate_left
  · simp only [Act.put, zSa, zSb, zSc, i64_w, i32_w]
    rfl
  refine pure_ (i := 2) (N := some 10) (v := ?_) (a' := ?_) #[true, false, true, false, false, false, false] rfl rfl (by kernel_rfl) (fun _ _ _ h => h) (Or.inl ⟨by rfl, ?_⟩) ?_ ?_
  rotate_left
  · intro w'
    go_simp
    with_reducible rfl
  rotate_left
  · simp only [Act.put, zSa, zSb, zSc, i64_w, i32_w]
    rfl
  refine take_ (i := 1) (N := some 9) (v := ?_) (a' := ?_) #[true, true, true, false, false, false, false] rfl rfl (by kernel_rfl) (fun _ _ _ h => h) (Or.inl ⟨by rfl, ?_⟩) hHeld ?_ ?_
  rotate_left
  · rintro w' ⟨s0, s1⟩
    go_simp
    with_reducible rfl
  rotate_left
  · simp only [Act.put, zSa, zSb, zSc, i64_w, i32_w]
    rfl
  refine pure_ (i := 5) (N := some 3) (v := ?_) (a' := ?_) #[true, true, true, false, false, true, false] rfl rfl (by kernel_rfl) (fun _ _ _ h => h) (Or.inl ⟨by rfl, ?_⟩) ?_ ?_
  rotate_left
  · intro w'
    go_simp
    with_reducible rfl
  rotate_left
  · simp only [Act.put, zSa, zSb, zSc, i64_w, i32_w]
    rfl
  refine take_ (i := 3) (N := some 11) (v := ?_) (a' := ?_) #[true, true, true, true, false, true, false] rfl rfl (by kernel_rfl) (fun _ _ _ h => h) (Or.inl ⟨by rfl, ?_⟩) hHeld ?_ ?_
  rotate_left
  · rintro w' ⟨s0, s1⟩
    go_simp
    with_reducible rfl
  rotate_left
  · simp only [Act.put, zSa, zSb, zSc, i64_w, i32_w]
    rfl
  refine pure_ (i := 4) (N := some 12) (v := ?_) (a' := ?_) #[true, true, true, true, true, true, false] rfl rfl (by kernel_rfl) (fun _ _ _ h => h) (Or.inl ⟨by rfl, ?_⟩) ?_ ?_
  rotate_left
  · intro w'
    go_simp
    with_reducible rfl
  rotate_left
  · simp only [Act.put, zSa, zSb, zSc, i64_w, i32_w]
    rfl
  refine pure_ (i := 6) (N := some 4) (v := ?_) (a' := ?_) #[true, true, true, true, true, true, true] rfl rfl (by kernel_rfl) (fun _ _ _ h => h) (Or.inl ⟨by rfl, ?_⟩) ?_ ?_
  rotate_left
  · intro w'
    go_simp
    with_reducible rfl
  rotate_left
  · simp only [Act.put, zSa, zSb, zSc, i64_w, i32_w]
    rfl
  refine done_ (by kernel_rfl) ?_
  replace BM := zMk (zKd BM.out)
  replace HB1 := zMk (zBd HB1.out)
  go_upto_region 2 with (fail)
  refine start_ (n := 15) (S := fun w' => True) (ds := []) #[false, false, false, false, false, false, false, false, false, false, false, false, false, false, false] (by kernel_rfl) rfl rfl trivial (fun hHeld => ?_)
  refine with_tabW wkWalked.tab2 wkWalked.bits2 (fun HT_ HW_ => ?_)
  generalize w1.drew = w2 at BM HB1 hHeld ⊢
  clear hHeld
  have HBr := Below.refl w2.heap.size w2
  have h0l : ∀ k_, (Value.bool false).ownBlock = some k_ → k_ < w2.heap.size := fun k_ hk => by cases hk
  have h0d : ∀ k_, (Value.bool false).ownBlock = some k_ → some k_ ≠ (Value.bool false).ownBlock := fun k_ hk => by cases hk
  refine pure_ (i := 2) (N := some 15) (v := ?_) (a' := ?_) #[false, false, true, false, false, false, false, false, false, false, false, false, false, false, false] rfl rfl (any_of HT_.out (by kernel_rfl)) (fun _ _ _ h => h) (Or.inl ⟨by rfl, ?_⟩) ?_ ?_
  rotate_left
  · intro w'
    go_simp
    with_reducible rfl
  rotate_left
  · simp only [Act.put, zSa, zSb, zSc, i64_w, i32_w]
    rfl
  refine pure_ (i := 4) (N := some 17) (v := ?_) (a' := ?_) #[false, false, true, false, true, false, false, false, false, false, false, false, false, false, false] rfl rfl (any_of HT_.out (by kernel_rfl)) (fun _ _ _ h => h) (Or.inl ⟨by rfl, ?_⟩) ?_ ?_
  rotate_left
  · intro w'
    go_simp
    with_reducible rfl
  rotate_left
  · simp only [Act.put, zSa, zSb, zSc, i64_w, i32_w]
    rfl
  refine pure_ (i := 6) (N := some 19) (v := ?_) (a' := ?_) #[false, false, true, false, true, false, true, false, false, false, false, false, false, false, false] rfl rfl (any_of HT_.out (by kernel_rfl)) (fun _ _ _ h => h) (Or.inl ⟨by rfl, ?_⟩) ?_ ?_
  rotate_left
  · intro w'
    go_simp
    with_reducible rfl
  rotate_left
  · simp only [Act.put, zSa, zSb, zSc, i64_w, i32_w]
    rfl
  refine pure_ (i := 8) (N := some 21) (v := ?_) (a' := ?_) #[false, false, true, false, true, false, true, false, true, false, false, false, false, false, false] rfl rfl (any_of HT_.out (by kernel_rfl)) (fun _ _ _ h => h) (Or.inl ⟨by rfl, ?_⟩) ?_ ?_
  rotate_left
  · intro w'
    go_simp
    with_reducible rfl
  rotate_left
  · simp only [Act.put, zSa, zSb, zSc, i64_w, i32_w]
    rfl
  refine pure_ (i := 10) (N := some 23) (v := ?_) (a' := ?_) #[false, false, true, false, true, false, true, false, true, false, true, false, false, false, false] rfl rfl (any_of HT_.out (by kernel_rfl)) (fun _ _ _ h => h) (Or.inl ⟨by rfl, ?_⟩) ?_ ?_
  rotate_left
  · intro w'
    go_simp
    with_reducible rfl
  rotate_left
  · simp only [Act.put, zSa, zSb, zSc, i64_w, i32_w]
    rfl
  refine inv_at [0, 1, 3, 5, 7, 9, 11, 12, 13, 14] (fun a0_ b a w' => ∃ (vA : Value) (va : Value) (vb : Value) (vc : Value) (vd : Value) (ve : Value) (gw : Nat) (m12_ : Value) (m13_ : Value) (m14_ : Value), a = putSel a0_ b [(0, 13, .agg #[.int .i64 (nn : Int), .slice A0 E.length c0]), (1, 14, vA), (3, 16, va), (5, 18, vb), (7, 20, vc), (9, 22, vd), (11, 24, ve), (12, 25, m12_), (13, 26, m13_), (14, 5, m14_)] ∧ (Below w2.heap.size w2 w') ∧ (b 1 = true → Kd.S (Kd.slice 51 k51) 49 w' w2.heap.size (fun _ => True) vA near) ∧ (b 3 = true → Kd.R wkI 3 w' w2.heap.size (fun _ => True) va (List.replicate nn 0)) ∧ (b 5 = true → Kd.R wkI 3 w' w2.heap.size (fun _ => True) vb (List.replicate nn 0)) ∧ (b 7 = true → Kd.R wkI 3 w' w2.heap.size (fun _ => True) vc (List.replicate nn 0)) ∧ (b 9 = true → Kd.R Kd.bool 4 w' w2.heap.size (fun _ => True) vd (List.replicate E.length false)) ∧ (b 11 = true → Kd.R Kd.bool 4 w' w2.heap.size (fun _ => True) ve (List.replicate nn false)) ∧ (∀ k_, va.ownBlock = some k_ → k_ < w'.heap.size) ∧ (∀ k_, vb.ownBlock = some k_ → k_ < w'.heap.size) ∧ (∀ k_, vc.ownBlock = some k_ → k_ < w'.heap.size) ∧ (∀ k_, vd.ownBlock = some k_ → k_ < w'.heap.size) ∧ (∀ k_, ve.ownBlock = some k_ → k_ < w'.heap.size) ∧ (∀ k_, va.ownBlock = some k_ → some k_ ≠ vb.ownBlock) ∧ (∀ k_, va.ownBlock = some k_ → some k_ ≠ vc.ownBlock) ∧ (∀ k_, vb.ownBlock = some k_ → some k_ ≠ vc.ownBlock) ∧ (∀ k_, vd.ownBlock = some k_ → some k_ ≠ ve.ownBlock) ∧ (b 13 = true → w'.heap[gw]? = some (.cells #[vA, va, vb, vc, .slice none 0 0, vd, ve, .slice none 0 0, .int .i64 0, .slice none 0 0] 55 (0, 0)) ∧ w2.heap.size ≤ gw) ∧ (b 12 = true → (m12_ : Value) = .agg #[vA, va, vb, vc, .slice none 0 0, vd, ve, .slice none 0 0, .int .i64 0, .slice none 0 0]) ∧ (b 13 = true → (m13_ : Value) = .pointer (some ⟨gw, 0, none⟩)) ∧ (b 14 = true → (m14_ : Value) = .pointer (some ⟨gw, 0, none⟩))) HT_.out HW_.out (by kernel_rfl) (by kernel_rfl) ?_ ?_ ?_
  · exact ⟨.bool false, .bool false, .bool false, .bool false, .bool false, .bool false, 0, .bool false, .bool false, .bool false, by simp only [putSel, Bool.false_eq_true, if_false], HBr, fun h_ => absurd h_ (by decide), fun h_ => absurd h_ (by decide), fun h_ => absurd h_ (by decide), fun h_ => absurd h_ (by decide), fun h_ => absurd h_ (by decide), fun h_ => absurd h_ (by decide), h0l, h0l, h0l, h0l, h0l, h0d, h0d, h0d, h0d, fun h_ => absurd h_ (by decide), fun h_ => absurd h_ (by decide), fun h_ => absurd h_ (by decide), fun h_ => absurd h_ (by decide)⟩
  · skip
    refine steps_cons ?_ ?_
    · rintro b a w' ⟨vA, va, vb, vc, vd, ve, gw, m12_, m13_, m14_, ha, Q_HB, Q_NA, Q_RA, Q_RB, Q_RC, Q_RD, Q_RE, Q_LA, Q_LB, Q_LC, Q_LD, Q_LE, Q_D12, Q_D13, Q_D23, Q_D56, Q_GW, Q_X12_, Q_X13_, Q_X14_⟩ hb_ hon hoff
      refine ⟨_, rfl, fun K hK => ?_⟩
      have e1 : a.tmps[1]? = some (.pointer (some ⟨gb, 0, none⟩)) := by rw [ha]; exact (putSel_off rfl).trans rfl
      replace ha := zMk ha
      have HB := zMk Q_HB
      have LA := zMk Q_LA
      have LB := zMk Q_LB
      have LC := zMk Q_LC
      have LD := zMk Q_LD
      have LE := zMk Q_LE
      have D12 := zMk Q_D12
      have D13 := zMk Q_D13
      have D23 := zMk Q_D23
      have D56 := zMk Q_D56
      have bm_ := zKb BM.out HB.out
      have z0_ := (zKc bm_ 0).trans rfl
      have z1_ := (zKc bm_ 1).trans rfl
      simp only [List.getElem?_toArray, List.getElem?_cons_succ, List.getElem?_cons_zero] at z0_ z1_
      refine value_ (w1 := w') (v := .agg #[.int .i64 (nn : Int), .slice A0 E.length c0]) (by rfl) rfl ?_ ?_
      · go_simp
        (try simp only [i64_w])
        try rfl
      refine hK.out _ _ ⟨vA, va, vb, vc, vd, ve, gw, m12_, m13_, m14_, (by rw [ha.out]; exact putSel_upk 0 hb_ rfl rfl rfl), Q_HB, fun h0_ => absurd ((hoff 1 (by kernel_rfl)).symm.trans h0_) (by decide), Q_RA, Q_RB, Q_RC, Q_RD, Q_RE, Q_LA, Q_LB, Q_LC, Q_LD, Q_LE, Q_D12, Q_D13, Q_D23, Q_D56, fun h0_ => absurd ((hoff 13 (by kernel_rfl)).symm.trans h0_) (by decide), fun h0_ => absurd ((hoff 12 (by kernel_rfl)).symm.trans h0_) (by decide), fun h0_ => absurd ((hoff 13 (by kernel_rfl)).symm.trans h0_) (by decide), fun h0_ => absurd ((hoff 14 (by kernel_rfl)).symm.trans h0_) (by decide)⟩
    refine steps_cons ?_ ?_
    · rintro b a w' ⟨vA, va, vb, vc, vd, ve, gw, m12_, m13_, m14_, ha, Q_HB, Q_NA, Q_RA, Q_RB, Q_RC, Q_RD, Q_RE, Q_LA, Q_LB, Q_LC, Q_LD, Q_LE, Q_D12, Q_D13, Q_D23, Q_D56, Q_GW, Q_X12_, Q_X13_, Q_X14_⟩ hb_ hon hoff
      refine ⟨_, rfl, fun K hK => ?_⟩
      have e13 : a.tmps[13]? = some (.agg #[.int .i64 (nn : Int), .slice A0 E.length c0]) := by rw [ha]; exact putSel_on (e := (0, 13, .agg #[.int .i64 (nn : Int), .slice A0 E.length c0])) 0 rfl rfl (hon 0 (by kernel_rfl)) rfl
      replace ha := zMk ha
      have HB := zMk Q_HB
      have LA := zMk Q_LA
      have LB := zMk Q_LB
      have LC := zMk Q_LC
      have LD := zMk Q_LD
      have LE := zMk Q_LE
      have D12 := zMk Q_D12
      have D13 := zMk Q_D13
      have D23 := zMk Q_D23
      have D56 := zMk Q_D56
      refine goes_ Try.func28 (by kernel_rfl) rfl #[.agg #[.int .i64 (nn : Int), .slice A0 E.length c0]] (by rfl) rfl rfl (by first | (simp only [zMa, zMc, zMn, Act.eval, Array.getD_eq_getD_getElem?, Option.getD_some, e13]; done) | (simp only [zMa, zMc, zMn, Act.eval, Array.getD_eq_getD_getElem?, Option.getD_some, e13]; rfl)) ?_
      with_reducible refine (parts_arcs.calls k (nn : Int) A0 c0 E near w' (Kd.C_below HR.out (zBt HB1.out HB.out)) HC.out HN.out).mono ?_
      rintro e w3_ ⟨vN_, rfl, ho, hb⟩
      refine ⟨_, rfl, ?_⟩
      have hbq := HB.out
      have hs_ := Kd.S_lower ho (zBs hbq)
      refine hK.out _ _ ⟨vN_, va, vb, vc, vd, ve, gw, m12_, m13_, m14_, (by rw [ha.out]; exact putSel_upk 1 hb_ rfl rfl rfl), zBt hbq hb, fun _ => hs_, fun h0_ => zRb (Q_RA h0_) hb, fun h0_ => zRb (Q_RB h0_) hb, fun h0_ => zRb (Q_RC h0_) hb, fun h0_ => zRb (Q_RD h0_) hb, fun h0_ => zRb (Q_RE h0_) hb, (fun k_ hk => Nat.lt_of_lt_of_le (LA.out k_ hk) (zBs hb)), (fun k_ hk => Nat.lt_of_lt_of_le (LB.out k_ hk) (zBs hb)), (fun k_ hk => Nat.lt_of_lt_of_le (LC.out k_ hk) (zBs hb)), (fun k_ hk => Nat.lt_of_lt_of_le (LD.out k_ hk) (zBs hb)), (fun k_ hk => Nat.lt_of_lt_of_le (LE.out k_ hk) (zBs hb)), Q_D12, Q_D13, Q_D23, Q_D56, fun h0_ => absurd ((hoff 13 (by kernel_rfl)).symm.trans h0_) (by decide), fun h0_ => absurd ((hoff 12 (by kernel_rfl)).symm.trans h0_) (by decide), fun h0_ => absurd ((hoff 13 (by kernel_rfl)).symm.trans h0_) (by decide), fun h0_ => absurd ((hoff 14 (by kernel_rfl)).symm.trans h0_) (by decide)⟩
    refine steps_cons ?_ ?_
    · rintro b a w' ⟨vA, va, vb, vc, vd, ve, gw, m12_, m13_, m14_, ha, Q_HB, Q_NA, Q_RA, Q_RB, Q_RC, Q_RD, Q_RE, Q_LA, Q_LB, Q_LC, Q_LD, Q_LE, Q_D12, Q_D13, Q_D23, Q_D56, Q_GW, Q_X12_, Q_X13_, Q_X14_⟩ hb_ hon hoff
      refine ⟨_, rfl, fun K hK => ?_⟩
      have e15 : a.tmps[15]? = some (.int .i64 (nn : Int)) := by rw [ha]; exact (putSel_off rfl).trans rfl
      replace ha := zMk ha
      have HB := zMk Q_HB
      have LA := zMk Q_LA
      have LB := zMk Q_LB
      have LC := zMk Q_LC
      have LD := zMk Q_LD
      have LE := zMk Q_LE
      have D12 := zMk Q_D12
      have D13 := zMk Q_D13
      have D23 := zMk Q_D23
      have D56 := zMk Q_D56
      have hbq := HB.out
      refine Kd.R_make_step wkI (w0 := w') w'.heap.size 3 (by rfl) (N := 16) rfl 33 _ _ rfl (nn : Int) (by simp only [Act.eval, Array.getD_eq_getD_getElem?, e15, Option.getD_some]) (by simp only [Act.eval, Array.getD_eq_getD_getElem?, e15, Option.getD_some]) Try.underlying33 (.int .i64 0) 8 info3 rfl (by decide) (by omega) (0 : Int) (ok := fun _ => True) (okp := fun _ => True) rfl (fun _ hk => hk) trivial (Int.natCast_nonneg _) (by rw [zTn]; have := HNN.out; omega) (Below.refl _ _) (Nat.le_refl _) ?_
      intro vN_ w3_ ho hb hg hnew
      clear hg
      rw [zTn] at ho
      have RX := zMk (zRl ho (zBs hbq))
      refine hK.out _ _ ⟨vA, vN_, vb, vc, vd, ve, gw, m12_, m13_, m14_, (by rw [ha.out]; exact putSel_upk 2 hb_ rfl rfl rfl), zBt hbq hb, fun h0_ => Kd.S_below (Q_NA h0_) hb, fun _ => RX.out, fun h0_ => zRb (Q_RB h0_) hb, fun h0_ => zRb (Q_RC h0_) hb, fun h0_ => zRb (Q_RD h0_) hb, fun h0_ => zRb (Q_RE h0_) hb, zRt RX.out, (fun k_ hk => Nat.lt_of_lt_of_le (LB.out k_ hk) (zBs hb)), (fun k_ hk => Nat.lt_of_lt_of_le (LC.out k_ hk) (zBs hb)), (fun k_ hk => Nat.lt_of_lt_of_le (LD.out k_ hk) (zBs hb)), (fun k_ hk => Nat.lt_of_lt_of_le (LE.out k_ hk) (zBs hb)), (fun k_ hk e_ => by have h1_ := LB.out k_ e_.symm; obtain ⟨b_, h2_, h3_⟩ := hnew; rw [h2_] at hk; injection hk with hk; omega), (fun k_ hk e_ => by have h1_ := LC.out k_ e_.symm; obtain ⟨b_, h2_, h3_⟩ := hnew; rw [h2_] at hk; injection hk with hk; omega), Q_D23, Q_D56, fun h0_ => absurd ((hoff 13 (by kernel_rfl)).symm.trans h0_) (by decide), fun h0_ => absurd ((hoff 12 (by kernel_rfl)).symm.trans h0_) (by decide), fun h0_ => absurd ((hoff 13 (by kernel_rfl)).symm.trans h0_) (by decide), fun h0_ => absurd ((hoff 14 (by kernel_rfl)).symm.trans h0_) (by decide)⟩
    refine steps_cons ?_ ?_
    · rintro b a w' ⟨vA, va, vb, vc, vd, ve, gw, m12_, m13_, m14_, ha, Q_HB, Q_NA, Q_RA, Q_RB, Q_RC, Q_RD, Q_RE, Q_LA, Q_LB, Q_LC, Q_LD, Q_LE, Q_D12, Q_D13, Q_D23, Q_D56, Q_GW, Q_X12_, Q_X13_, Q_X14_⟩ hb_ hon hoff
      refine ⟨_, rfl, fun K hK => ?_⟩
      have e17 : a.tmps[17]? = some (.int .i64 (nn : Int)) := by rw [ha]; exact (putSel_off rfl).trans rfl
      replace ha := zMk ha
      have HB := zMk Q_HB
      have LA := zMk Q_LA
      have LB := zMk Q_LB
      have LC := zMk Q_LC
      have LD := zMk Q_LD
      have LE := zMk Q_LE
      have D12 := zMk Q_D12
      have D13 := zMk Q_D13
      have D23 := zMk Q_D23
      have D56 := zMk Q_D56
      have hbq := HB.out
      refine Kd.R_make_step wkI (w0 := w') w'.heap.size 3 (by rfl) (N := 18) rfl 33 _ _ rfl (nn : Int) (by simp only [Act.eval, Array.getD_eq_getD_getElem?, e17, Option.getD_some]) (by simp only [Act.eval, Array.getD_eq_getD_getElem?, e17, Option.getD_some]) Try.underlying33 (.int .i64 0) 8 info3 rfl (by decide) (by omega) (0 : Int) (ok := fun _ => True) (okp := fun _ => True) rfl (fun _ hk => hk) trivial (Int.natCast_nonneg _) (by rw [zTn]; have := HNN.out; omega) (Below.refl _ _) (Nat.le_refl _) ?_
      intro vN_ w3_ ho hb hg hnew
      clear hg
      rw [zTn] at ho
      have RX := zMk (zRl ho (zBs hbq))
      refine hK.out _ _ ⟨vA, va, vN_, vc, vd, ve, gw, m12_, m13_, m14_, (by rw [ha.out]; exact putSel_upk 3 hb_ rfl rfl rfl), zBt hbq hb, fun h0_ => Kd.S_below (Q_NA h0_) hb, fun h0_ => zRb (Q_RA h0_) hb, fun _ => RX.out, fun h0_ => zRb (Q_RC h0_) hb, fun h0_ => zRb (Q_RD h0_) hb, fun h0_ => zRb (Q_RE h0_) hb, (fun k_ hk => Nat.lt_of_lt_of_le (LA.out k_ hk) (zBs hb)), zRt RX.out, (fun k_ hk => Nat.lt_of_lt_of_le (LC.out k_ hk) (zBs hb)), (fun k_ hk => Nat.lt_of_lt_of_le (LD.out k_ hk) (zBs hb)), (fun k_ hk => Nat.lt_of_lt_of_le (LE.out k_ hk) (zBs hb)), (fun k_ hk e_ => by have h1_ := LA.out k_ hk; obtain ⟨b_, h2_, h3_⟩ := hnew; rw [h2_] at e_; injection e_ with e_; omega), Q_D13, (fun k_ hk e_ => by have h1_ := LC.out k_ e_.symm; obtain ⟨b_, h2_, h3_⟩ := hnew; rw [h2_] at hk; injection hk with hk; omega), Q_D56, fun h0_ => absurd ((hoff 13 (by kernel_rfl)).symm.trans h0_) (by decide), fun h0_ => absurd ((hoff 12 (by kernel_rfl)).symm.trans h0_) (by decide), fun h0_ => absurd ((hoff 13 (by kernel_rfl)).symm.trans h0_) (by decide), fun h0_ => absurd ((hoff 14 (by kernel_rfl)).symm.trans h0_) (by decide)⟩
    refine steps_cons ?_ ?_
    · rintro b a w' ⟨vA, va, vb, vc, vd, ve, gw, m12_, m13_, m14_, ha, Q_HB, Q_NA, Q_RA, Q_RB, Q_RC, Q_RD, Q_RE, Q_LA, Q_LB, Q_LC, Q_LD, Q_LE, Q_D12, Q_D13, Q_D23, Q_D56, Q_GW, Q_X12_, Q_X13_, Q_X14_⟩ hb_ hon hoff
      refine ⟨_, rfl, fun K hK => ?_⟩
      have e19 : a.tmps[19]? = some (.int .i64 (nn : Int)) := by rw [ha]; exact (putSel_off rfl).trans rfl
      replace ha := zMk ha
      have HB := zMk Q_HB
      have LA := zMk Q_LA
      have LB := zMk Q_LB
      have LC := zMk Q_LC
      have LD := zMk Q_LD
      have LE := zMk Q_LE
      have D12 := zMk Q_D12
      have D13 := zMk Q_D13
      have D23 := zMk Q_D23
      have D56 := zMk Q_D56
      have hbq := HB.out
      refine Kd.R_make_step wkI (w0 := w') w'.heap.size 3 (by rfl) (N := 20) rfl 33 _ _ rfl (nn : Int) (by simp only [Act.eval, Array.getD_eq_getD_getElem?, e19, Option.getD_some]) (by simp only [Act.eval, Array.getD_eq_getD_getElem?, e19, Option.getD_some]) Try.underlying33 (.int .i64 0) 8 info3 rfl (by decide) (by omega) (0 : Int) (ok := fun _ => True) (okp := fun _ => True) rfl (fun _ hk => hk) trivial (Int.natCast_nonneg _) (by rw [zTn]; have := HNN.out; omega) (Below.refl _ _) (Nat.le_refl _) ?_
      intro vN_ w3_ ho hb hg hnew
      clear hg
      rw [zTn] at ho
      have RX := zMk (zRl ho (zBs hbq))
      refine hK.out _ _ ⟨vA, va, vb, vN_, vd, ve, gw, m12_, m13_, m14_, (by rw [ha.out]; exact putSel_upk 4 hb_ rfl rfl rfl), zBt hbq hb, fun h0_ => Kd.S_below (Q_NA h0_) hb, fun h0_ => zRb (Q_RA h0_) hb, fun h0_ => zRb (Q_RB h0_) hb, fun _ => RX.out, fun h0_ => zRb (Q_RD h0_) hb, fun h0_ => zRb (Q_RE h0_) hb, (fun k_ hk => Nat.lt_of_lt_of_le (LA.out k_ hk) (zBs hb)), (fun k_ hk => Nat.lt_of_lt_of_le (LB.out k_ hk) (zBs hb)), zRt RX.out, (fun k_ hk => Nat.lt_of_lt_of_le (LD.out k_ hk) (zBs hb)), (fun k_ hk => Nat.lt_of_lt_of_le (LE.out k_ hk) (zBs hb)), Q_D12, (fun k_ hk e_ => by have h1_ := LA.out k_ hk; obtain ⟨b_, h2_, h3_⟩ := hnew; rw [h2_] at e_; injection e_ with e_; omega), (fun k_ hk e_ => by have h1_ := LB.out k_ hk; obtain ⟨b_, h2_, h3_⟩ := hnew; rw [h2_] at e_; injection e_ with e_; omega), Q_D56, fun h0_ => absurd ((hoff 13 (by kernel_rfl)).symm.trans h0_) (by decide), fun h0_ => absurd ((hoff 12 (by kernel_rfl)).symm.trans h0_) (by decide), fun h0_ => absurd ((hoff 13 (by kernel_rfl)).symm.trans h0_) (by decide), fun h0_ => absurd ((hoff 14 (by kernel_rfl)).symm.trans h0_) (by decide)⟩
    refine steps_cons ?_ ?_
    · rintro b a w' ⟨vA, va, vb, vc, vd, ve, gw, m12_, m13_, m14_, ha, Q_HB, Q_NA, Q_RA, Q_RB, Q_RC, Q_RD, Q_RE, Q_LA, Q_LB, Q_LC, Q_LD, Q_LE, Q_D12, Q_D13, Q_D23, Q_D56, Q_GW, Q_X12_, Q_X13_, Q_X14_⟩ hb_ hon hoff
      refine ⟨_, rfl, fun K hK => ?_⟩
      have e21 : a.tmps[21]? = some (.int .i64 (E.length : Int)) := by rw [ha]; exact (putSel_off rfl).trans rfl
      replace ha := zMk ha
      have HB := zMk Q_HB
      have LA := zMk Q_LA
      have LB := zMk Q_LB
      have LC := zMk Q_LC
      have LD := zMk Q_LD
      have LE := zMk Q_LE
      have D12 := zMk Q_D12
      have D13 := zMk Q_D13
      have D23 := zMk Q_D23
      have D56 := zMk Q_D56
      have hbq := HB.out
      refine Kd.R_make_step Kd.bool (w0 := w') w'.heap.size 4 (by rfl) (N := 22) rfl 36 _ _ rfl (E.length : Int) (by simp only [Act.eval, Array.getD_eq_getD_getElem?, e21, Option.getD_some]) (by simp only [Act.eval, Array.getD_eq_getD_getElem?, e21, Option.getD_some]) Try.underlying36 (.bool false) 1 info4 rfl (by decide) (by omega) false (ok := fun _ => True) (okp := fun _ => True) rfl (fun _ hk => hk) trivial (Int.natCast_nonneg _) (by rw [zTn]; have := HEL.out; omega) (Below.refl _ _) (Nat.le_refl _) ?_
      intro vN_ w3_ ho hb hg hnew
      clear hg
      rw [zTn] at ho
      have RX := zMk (zRl ho (zBs hbq))
      refine hK.out _ _ ⟨vA, va, vb, vc, vN_, ve, gw, m12_, m13_, m14_, (by rw [ha.out]; exact putSel_upk 5 hb_ rfl rfl rfl), zBt hbq hb, fun h0_ => Kd.S_below (Q_NA h0_) hb, fun h0_ => zRb (Q_RA h0_) hb, fun h0_ => zRb (Q_RB h0_) hb, fun h0_ => zRb (Q_RC h0_) hb, fun _ => RX.out, fun h0_ => zRb (Q_RE h0_) hb, (fun k_ hk => Nat.lt_of_lt_of_le (LA.out k_ hk) (zBs hb)), (fun k_ hk => Nat.lt_of_lt_of_le (LB.out k_ hk) (zBs hb)), (fun k_ hk => Nat.lt_of_lt_of_le (LC.out k_ hk) (zBs hb)), zRt RX.out, (fun k_ hk => Nat.lt_of_lt_of_le (LE.out k_ hk) (zBs hb)), Q_D12, Q_D13, Q_D23, (fun k_ hk e_ => by have h1_ := LE.out k_ e_.symm; obtain ⟨b_, h2_, h3_⟩ := hnew; rw [h2_] at hk; injection hk with hk; omega), fun h0_ => absurd ((hoff 13 (by kernel_rfl)).symm.trans h0_) (by decide), fun h0_ => absurd ((hoff 12 (by kernel_rfl)).symm.trans h0_) (by decide), fun h0_ => absurd ((hoff 13 (by kernel_rfl)).symm.trans h0_) (by decide), fun h0_ => absurd ((hoff 14 (by kernel_rfl)).symm.trans h0_) (by decide)⟩
    refine steps_cons ?_ ?_
    · rintro b a w' ⟨vA, va, vb, vc, vd, ve, gw, m12_, m13_, m14_, ha, Q_HB, Q_NA, Q_RA, Q_RB, Q_RC, Q_RD, Q_RE, Q_LA, Q_LB, Q_LC, Q_LD, Q_LE, Q_D12, Q_D13, Q_D23, Q_D56, Q_GW, Q_X12_, Q_X13_, Q_X14_⟩ hb_ hon hoff
      refine ⟨_, rfl, fun K hK => ?_⟩
      have e23 : a.tmps[23]? = some (.int .i64 (nn : Int)) := by rw [ha]; exact (putSel_off rfl).trans rfl
      replace ha := zMk ha
      have HB := zMk Q_HB
      have LA := zMk Q_LA
      have LB := zMk Q_LB
      have LC := zMk Q_LC
      have LD := zMk Q_LD
      have LE := zMk Q_LE
      have D12 := zMk Q_D12
      have D13 := zMk Q_D13
      have D23 := zMk Q_D23
      have D56 := zMk Q_D56
      have hbq := HB.out
      refine Kd.R_make_step Kd.bool (w0 := w') w'.heap.size 4 (by rfl) (N := 24) rfl 36 _ _ rfl (nn : Int) (by simp only [Act.eval, Array.getD_eq_getD_getElem?, e23, Option.getD_some]) (by simp only [Act.eval, Array.getD_eq_getD_getElem?, e23, Option.getD_some]) Try.underlying36 (.bool false) 1 info4 rfl (by decide) (by omega) false (ok := fun _ => True) (okp := fun _ => True) rfl (fun _ hk => hk) trivial (Int.natCast_nonneg _) (by rw [zTn]; have := HNN.out; omega) (Below.refl _ _) (Nat.le_refl _) ?_
      intro vN_ w3_ ho hb hg hnew
      clear hg
      rw [zTn] at ho
      have RX := zMk (zRl ho (zBs hbq))
      refine hK.out _ _ ⟨vA, va, vb, vc, vd, vN_, gw, m12_, m13_, m14_, (by rw [ha.out]; exact putSel_upk 6 hb_ rfl rfl rfl), zBt hbq hb, fun h0_ => Kd.S_below (Q_NA h0_) hb, fun h0_ => zRb (Q_RA h0_) hb, fun h0_ => zRb (Q_RB h0_) hb, fun h0_ => zRb (Q_RC h0_) hb, fun h0_ => zRb (Q_RD h0_) hb, fun _ => RX.out, (fun k_ hk => Nat.lt_of_lt_of_le (LA.out k_ hk) (zBs hb)), (fun k_ hk => Nat.lt_of_lt_of_le (LB.out k_ hk) (zBs hb)), (fun k_ hk => Nat.lt_of_lt_of_le (LC.out k_ hk) (zBs hb)), (fun k_ hk => Nat.lt_of_lt_of_le (LD.out k_ hk) (zBs hb)), zRt RX.out, Q_D12, Q_D13, Q_D23, (fun k_ hk e_ => by have h1_ := LD.out k_ hk; obtain ⟨b_, h2_, h3_⟩ := hnew; rw [h2_] at e_; injection e_ with e_; omega), fun h0_ => absurd ((hoff 13 (by kernel_rfl)).symm.trans h0_) (by decide), fun h0_ => absurd ((hoff 12 (by kernel_rfl)).symm.trans h0_) (by decide), fun h0_ => absurd ((hoff 13 (by kernel_rfl)).symm.trans h0_) (by decide), fun h0_ => absurd ((hoff 14 (by kernel_rfl)).symm.trans h0_) (by decide)⟩
    refine steps_cons ?_ ?_
    · rintro b a w' ⟨vA, va, vb, vc, vd, ve, gw, m12_, m13_, m14_, ha, Q_HB, Q_NA, Q_RA, Q_RB, Q_RC, Q_RD, Q_RE, Q_LA, Q_LB, Q_LC, Q_LD, Q_LE, Q_D12, Q_D13, Q_D23, Q_D56, Q_GW, Q_X12_, Q_X13_, Q_X14_⟩ hb_ hon hoff
      refine ⟨_, rfl, fun K hK => ?_⟩
      have e14 : a.tmps[14]? = some (vA) := by rw [ha]; exact putSel_on (e := (1, 14, vA)) 1 rfl rfl (hon 1 (by kernel_rfl)) rfl
      have e16 : a.tmps[16]? = some (va) := by rw [ha]; exact putSel_on (e := (3, 16, va)) 2 rfl rfl (hon 3 (by kernel_rfl)) rfl
      have e18 : a.tmps[18]? = some (vb) := by rw [ha]; exact putSel_on (e := (5, 18, vb)) 3 rfl rfl (hon 5 (by kernel_rfl)) rfl
      have e20 : a.tmps[20]? = some (vc) := by rw [ha]; exact putSel_on (e := (7, 20, vc)) 4 rfl rfl (hon 7 (by kernel_rfl)) rfl
      have e22 : a.tmps[22]? = some (vd) := by rw [ha]; exact putSel_on (e := (9, 22, vd)) 5 rfl rfl (hon 9 (by kernel_rfl)) rfl
      have e24 : a.tmps[24]? = some (ve) := by rw [ha]; exact putSel_on (e := (11, 24, ve)) 6 rfl rfl (hon 11 (by kernel_rfl)) rfl
      replace ha := zMk ha
      have HB := zMk Q_HB
      have NA := zMk (Q_NA (hon 1 (by kernel_rfl)))
      have RA := zMk (Q_RA (hon 3 (by kernel_rfl)))
      have RB := zMk (Q_RB (hon 5 (by kernel_rfl)))
      have RC := zMk (Q_RC (hon 7 (by kernel_rfl)))
      have RD := zMk (Q_RD (hon 9 (by kernel_rfl)))
      have RE := zMk (Q_RE (hon 11 (by kernel_rfl)))
      have LA := zMk Q_LA
      have LB := zMk Q_LB
      have LC := zMk Q_LC
      have LD := zMk Q_LD
      have LE := zMk Q_LE
      have D12 := zMk Q_D12
      have D13 := zMk Q_D13
      have D23 := zMk Q_D23
      have D56 := zMk Q_D56
      obtain ⟨AvA_, cvA_, evA_⟩ := Kd.S_slice NA.out
      subst evA_
      obtain ⟨Ava_, cva_, eva_⟩ := zRs RA.out
      subst eva_
      obtain ⟨Avb_, cvb_, evb_⟩ := zRs RB.out
      subst evb_
      obtain ⟨Avc_, cvc_, evc_⟩ := zRs RC.out
      subst evc_
      obtain ⟨Avd_, cvd_, evd_⟩ := zRs RD.out
      subst evd_
      obtain ⟨Ave_, cve_, eve_⟩ := zRs RE.out
      subst eve_
      refine value_ (w1 := w') (v := .agg #[(.slice AvA_ near.length cvA_), (.slice Ava_ (List.replicate nn (0 : Int)).length cva_), (.slice Avb_ (List.replicate nn (0 : Int)).length cvb_), (.slice Avc_ (List.replicate nn (0 : Int)).length cvc_), .slice none 0 0, (.slice Avd_ (List.replicate E.length false).length cvd_), (.slice Ave_ (List.replicate nn false).length cve_), .slice none 0 0, .int .i64 0, .slice none 0 0]) (by rfl) rfl ?_ ?_
      · go_simp
        (try simp only [i64_w])
        try rfl
      refine hK.out _ _ ⟨(.slice AvA_ near.length cvA_), (.slice Ava_ (List.replicate nn (0 : Int)).length cva_), (.slice Avb_ (List.replicate nn (0 : Int)).length cvb_), (.slice Avc_ (List.replicate nn (0 : Int)).length cvc_), (.slice Avd_ (List.replicate E.length false).length cvd_), (.slice Ave_ (List.replicate nn false).length cve_), gw, (.agg #[(.slice AvA_ near.length cvA_), (.slice Ava_ (List.replicate nn (0 : Int)).length cva_), (.slice Avb_ (List.replicate nn (0 : Int)).length cvb_), (.slice Avc_ (List.replicate nn (0 : Int)).length cvc_), .slice none 0 0, (.slice Avd_ (List.replicate E.length false).length cvd_), (.slice Ave_ (List.replicate nn false).length cve_), .slice none 0 0, .int .i64 0, .slice none 0 0]), m13_, m14_, (by rw [ha.out]; exact putSel_upk 7 hb_ rfl rfl rfl), Q_HB, Q_NA, Q_RA, Q_RB, Q_RC, Q_RD, Q_RE, Q_LA, Q_LB, Q_LC, Q_LD, Q_LE, Q_D12, Q_D13, Q_D23, Q_D56, fun h0_ => absurd ((hoff 13 (by kernel_rfl)).symm.trans h0_) (by decide), fun _ => rfl, fun h0_ => absurd ((hoff 13 (by kernel_rfl)).symm.trans h0_) (by decide), fun h0_ => absurd ((hoff 14 (by kernel_rfl)).symm.trans h0_) (by decide)⟩
    refine steps_cons ?_ ?_
    · rintro b a w' ⟨vA, va, vb, vc, vd, ve, gw, m12_, m13_, m14_, ha, Q_HB, Q_NA, Q_RA, Q_RB, Q_RC, Q_RD, Q_RE, Q_LA, Q_LB, Q_LC, Q_LD, Q_LE, Q_D12, Q_D13, Q_D23, Q_D56, Q_GW, Q_X12_, Q_X13_, Q_X14_⟩ hb_ hon hoff
      refine ⟨_, rfl, fun K hK => ?_⟩
      have e25 : a.tmps[25]? = some (m12_) := by rw [ha]; exact putSel_on (e := (12, 25, m12_)) 7 rfl rfl (hon 12 (by kernel_rfl)) rfl
      rw [Q_X12_ (hon 12 (by kernel_rfl))] at e25
      replace ha := zMk ha
      have HB := zMk Q_HB
      have NA := zMk (Q_NA (hon 1 (by kernel_rfl)))
      have RA := zMk (Q_RA (hon 3 (by kernel_rfl)))
      have RB := zMk (Q_RB (hon 5 (by kernel_rfl)))
      have RC := zMk (Q_RC (hon 7 (by kernel_rfl)))
      have RD := zMk (Q_RD (hon 9 (by kernel_rfl)))
      have RE := zMk (Q_RE (hon 11 (by kernel_rfl)))
      have LA := zMk Q_LA
      have LB := zMk Q_LB
      have LC := zMk Q_LC
      have LD := zMk Q_LD
      have LE := zMk Q_LE
      have D12 := zMk Q_D12
      have D13 := zMk Q_D13
      have D23 := zMk Q_D23
      have D56 := zMk Q_D56
      have hbq := HB.out
      refine box_step (by rfl) (N := 26) rfl (cs := #[vA, va, vb, vc, .slice none 0 0, vd, ve, .slice none 0 0, .int .i64 0, .slice none 0 0]) (t := 55) ?hr ?_; (case hr => first | (go_simp; done) | (go_simp; rfl))
      intro gN_ hg w3_ hbox hb
      refine hK.out _ _ ⟨vA, va, vb, vc, vd, ve, gN_, m12_, (.pointer (some ⟨gN_, 0, none⟩)), m14_, (by rw [ha.out]; exact putSel_upk 8 hb_ rfl rfl rfl), zBt hbq hb, fun _ => Kd.S_below NA.out hb, fun _ => zRb RA.out hb, fun _ => zRb RB.out hb, fun _ => zRb RC.out hb, fun _ => zRb RD.out hb, fun _ => zRb RE.out hb, (fun k_ hk => Nat.lt_of_lt_of_le (LA.out k_ hk) (zBs hb)), (fun k_ hk => Nat.lt_of_lt_of_le (LB.out k_ hk) (zBs hb)), (fun k_ hk => Nat.lt_of_lt_of_le (LC.out k_ hk) (zBs hb)), (fun k_ hk => Nat.lt_of_lt_of_le (LD.out k_ hk) (zBs hb)), (fun k_ hk => Nat.lt_of_lt_of_le (LE.out k_ hk) (zBs hb)), Q_D12, Q_D13, Q_D23, Q_D56, fun _ => ⟨hbox, hg ▸ zBs hbq⟩, Q_X12_, fun _ => rfl, fun h0_ => absurd ((hoff 14 (by kernel_rfl)).symm.trans h0_) (by decide)⟩
    refine steps_cons ?_ ?_
    · rintro b a w' ⟨vA, va, vb, vc, vd, ve, gw, m12_, m13_, m14_, ha, Q_HB, Q_NA, Q_RA, Q_RB, Q_RC, Q_RD, Q_RE, Q_LA, Q_LB, Q_LC, Q_LD, Q_LE, Q_D12, Q_D13, Q_D23, Q_D56, Q_GW, Q_X12_, Q_X13_, Q_X14_⟩ hb_ hon hoff
      refine ⟨_, rfl, fun K hK => ?_⟩
      have e26 : a.tmps[26]? = some (m13_) := by rw [ha]; exact putSel_on (e := (13, 26, m13_)) 8 rfl rfl (hon 13 (by kernel_rfl)) rfl
      rw [Q_X13_ (hon 13 (by kernel_rfl))] at e26
      replace ha := zMk ha
      have HB := zMk Q_HB
      have NA := zMk (Q_NA (hon 1 (by kernel_rfl)))
      have RA := zMk (Q_RA (hon 3 (by kernel_rfl)))
      have RB := zMk (Q_RB (hon 5 (by kernel_rfl)))
      have RC := zMk (Q_RC (hon 7 (by kernel_rfl)))
      have RD := zMk (Q_RD (hon 9 (by kernel_rfl)))
      have RE := zMk (Q_RE (hon 11 (by kernel_rfl)))
      have LA := zMk Q_LA
      have LB := zMk Q_LB
      have LC := zMk Q_LC
      have LD := zMk Q_LD
      have LE := zMk Q_LE
      have D12 := zMk Q_D12
      have D13 := zMk Q_D13
      have D23 := zMk Q_D23
      have D56 := zMk Q_D56
      have GW := zMk (Q_GW (hon 13 (by kernel_rfl)))
      refine value_ (w1 := w') (v := .pointer (some ⟨gw, 0, none⟩)) (by rfl) rfl ?_ ?_
      · go_simp
        (try simp only [i64_w])
        try rfl
      refine hK.out _ _ ⟨vA, va, vb, vc, vd, ve, gw, m12_, m13_, (.pointer (some ⟨gw, 0, none⟩)), (by rw [ha.out]; exact putSel_upk 9 hb_ rfl rfl rfl), Q_HB, Q_NA, Q_RA, Q_RB, Q_RC, Q_RD, Q_RE, Q_LA, Q_LB, Q_LC, Q_LD, Q_LE, Q_D12, Q_D13, Q_D23, Q_D56, Q_GW, Q_X12_, Q_X13_, fun _ => rfl⟩
    exact steps_nil
  rintro b a w' hall ⟨vA, va, vb, vc, vd, ve, gw, m12_, m13_, m14_, ha, Q_HB, Q_NA, Q_RA, Q_RB, Q_RC, Q_RD, Q_RE, Q_LA, Q_LB, Q_LC, Q_LD, Q_LE, Q_D12, Q_D13, Q_D23, Q_D56, Q_GW, Q_X12_, Q_X13_, Q_X14_⟩
  have hb0_ := hall 0 (by kernel_rfl)
  have hb1_ := hall 1 (by kernel_rfl)
  have hb3_ := hall 3 (by kernel_rfl)
  have hb5_ := hall 5 (by kernel_rfl)
  have hb7_ := hall 7 (by kernel_rfl)
  have hb9_ := hall 9 (by kernel_rfl)
  have hb11_ := hall 11 (by kernel_rfl)
  have hb12_ := hall 12 (by kernel_rfl)
  have hb13_ := hall 13 (by kernel_rfl)
  have hb14_ := hall 14 (by kernel_rfl)
  subst ha
  obtain rfl := Q_X12_ hb12_
  obtain rfl := Q_X13_ hb13_
  obtain rfl := Q_X14_ hb14_
  simp only [putSel, hb0_, hb1_, hb3_, hb5_, hb7_, hb9_, hb11_, hb12_, hb13_, hb14_, if_true, Act.put, zSa, zSb, zSc]
  have HB := zMk Q_HB
  clear Q_HB
  have NA := zMk (Q_NA hb1_)
  clear Q_NA
  have RA := zMk (Q_RA hb3_)
  clear Q_RA
  have RB := zMk (Q_RB hb5_)
  clear Q_RB
  have RC := zMk (Q_RC hb7_)
  clear Q_RC
  have RD := zMk (Q_RD hb9_)
  clear Q_RD
  have RE := zMk (Q_RE hb11_)
  clear Q_RE
  have LA := zMk Q_LA
  clear Q_LA
  have LB := zMk Q_LB
  clear Q_LB
  have LC := zMk Q_LC
  clear Q_LC
  have LD := zMk Q_LD
  clear Q_LD
  have LE := zMk Q_LE
  clear Q_LE
  have D12 := zMk Q_D12
  clear Q_D12
  have D13 := zMk Q_D13
  clear Q_D13
  have D23 := zMk Q_D23
  clear Q_D23
  have D56 := zMk Q_D56
  clear Q_D56
  have GW := zMk (Q_GW hb13_)
  clear Q_GW
  clear hall hb0_ hb1_ hb3_ hb5_ hb7_ hb9_ hb11_ hb12_ hb13_ hb14_
  obtain ⟨An, cn, en⟩ := Kd.S_slice NA.out
  subst en
  have HW := zMk (show WkW w2 w' w' gw (.slice An near.length cn) ⟨va, vb, vc, .slice none 0 0, vd, ve, .slice none 0 0, .slice none 0 0⟩ (wkStart nn E.length) from
    { hBl := HB.out, hK := ⟨Nat.le_refl _, fun _ _ _ _ h => h⟩, hgw := GW.out.2, hw := GW.out.1, h1 := RA.out, h2 := RB.out, h3 := RC.out, hE := Kd.R_nil _ _ _ _ _, h5 := RD.out, h6 := RE.out, hB := Kd.S_nil _ _ _ _ _, hS := Kd.R_nil _ _ _ _ _, d12 := D12.out, d13 := D13.out, d23 := D23.out, dE1 := fun k hk => (by cases hk), dE2 := fun k hk => (by cases hk), dE3 := fun k hk => (by cases hk), d56 := D56.out })
  clear HB RA RB RC RD RE LA LB LC LD LE D12 D13 D23 D56 GW BM HN
  have HL0 := zMk (show (wkStart nn E.length).ord.length = nn from List.length_replicate)
  generalize wkStart nn E.length = s0 at HW HA HL0
  generalize ({ v1 := va, v2 := vb, v3 := vc, vE := .slice none 0 0, v5 := vd, v6 := ve, vB := .slice none 0 0, vS := .slice none 0 0 } : WkV) = V0 at HW
  go_wp2
  go_loopg [30] nn (fun kx s30 wr => ∃ (v : Nat) (V : WkV) (s : Wk), s30 = .int .i64 (v : Int) ∧ v ≤ nn ∧ nn - v ≤ kx ∧ Aside0 (WkW w2 w' wr gw (.slice An near.length cn) V s) ∧ Aside0 (wkAll (wkRun (wkLeave wkOff (wkMore near) near) near k) (nn - v) v s = some sr))
  case atStart => exact ⟨0, V0, s0, rfl, Nat.zero_le _, Nat.le_refl _, HW, HA⟩
  case round =>
    clear HW HA HL0
    obtain ⟨v, V, s, rfl, hv, hg3, HW, HA⟩ := hrel
    by_cases hlt : v < nn
    rotate_left
    · have h := HA.out
      rw [show nn - v = 0 by omega, wkAll] at h
      obtain rfl := zOi h
      have hvn : ((v : Int) < (nn : Int)) = False := eq_false (by omega)
      clear h HA
      obtain ⟨AB, cB, eB⟩ := Kd.S_slice HW.out.hB
      have z7 : wr.cell? ⟨gw, 7, none⟩ = some (.slice AB s.blocks.length cB) := (zKc HW.out.hw 7).trans (congrArg some eB)
      have EB := zMk eB
      clear eB
      go_wp2_with (go_at_call 46; refine (wkSorts.calls w2 w' _ gw _ V s s' AB cB HW.out EB.out HZ.out).mono ?_; rintro e wz ⟨rfl, hz⟩; have HF := zMk hz; clear hz)
      go_ret
      exact ⟨_, _, V, w2, w', rfl, HF.out, HB1.out⟩
    have h := HA.out
    clear HA
    rw [show nn - v = (nn - (v + 1)) + 1 by omega, wkAll] at h
    by_cases hvl : (v : Int) < (s.ord.length : Int)
    rotate_left
    · rw [if_neg hvl] at h; cases h
    rw [if_pos hvl] at h
    obtain ⟨g1, c1, e1, -, -, -⟩ := Kd.R_form HW.out.h1 (by omega)
    have z1 : wr.cell? ⟨gw, 1, none⟩ = some (.slice (some ⟨g1, 0, none⟩) s.ord.length c1) := (zKc HW.out.hw 1).trans (congrArg some e1)
    have h1' := HW.out.h1
    rw [e1] at h1'
    have p0 : 0 ≤ (v : Int) := Int.natCast_nonneg v
    have q0 : (v : Int) < (nn : Int) := by omega
    obtain ⟨hx, -⟩ := Kd.R_celln (0 : Int) h1' (v : Int) p0 hvl
    rw [zTn] at hx
    have zx : wr.cell? ⟨g1, v, none⟩ = some (.int .i64 (rd s.ord (v : Int))) := hx
    have hi64 : wrap64 ((v : Int) + 1) = ((v + 1 : Nat) : Int) := by have := HNN.out; unfold wrap64; omega
    have HH := zMk h
    clear hx h1' e1 h
    replace p0 := eq_true p0
    replace q0 := eq_true q0
    replace hvl := eq_true hvl
    have h := HH.out
    clear HH
    by_cases hz : rd s.ord (v : Int) = 0
    · rw [if_pos hz] at h
      obtain ⟨s2, h2, h⟩ := Option.bind_eq_some_iff.1 h
      have H2 := zMk h2
      have HA := zMk h
      rw [hz] at zx
      clear h h2 hz
      go_wp2_with (go_at_call 45; refine (wkRun2.calls near k w2 w' _ gw An cn V s s2 (v : Int) _ _ NA.out HW.out H2.out).mono ?_; rintro e wz ⟨rfl, V2, hz⟩; have HF := zMk hz; clear hz)
      go_roundg (nn - (v + 1))
      case measure => omega
      case rel => exact ⟨v + 1, V2, s2, by first | rfl | exact congrArg (Value.int .i64) (by omega) | exact congrArg (Value.int .i64) hi64 | exact congrArg (Value.int .i64) (by simp only [i64_w]; exact hi64), by omega, Nat.le_refl _, HF, HA⟩
    · rw [if_neg hz] at h
      have HA := zMk h
      have hd : (rd s.ord (v : Int) == 0) = false := beq_eq_false_iff_ne.mpr hz
      clear h hz
      go_wp2
      go_roundg (nn - (v + 1))
      case measure => omega
      case rel => exact ⟨v + 1, V, s, by first | rfl | exact congrArg (Value.int .i64) (by omega) | exact congrArg (Value.int .i64) hi64 | exact congrArg (Value.int .i64) (by simp only [i64_w]; exact hi64), by omega, Nat.le_refl _, HW, HA⟩
def ptCuts (cut : List Bool) : Nat → Nat → List Int → Option (List Int)
  | 0, _, out => some out
  | d + 1, v, out => if rdOf false cut (v : Int) = true then (if out.length < 17592186044415 then ptCuts cut d (v + 1) (out ++ [(v : Int)]) else none) else ptCuts cut d (v + 1) out
def parts_Blocks.f (k : Nat) (n : Int) (E : List S43) : Option (List (List Int)) :=
  (graph_Right.f k n E).bind fun q => if q = 0 then (wkWalked k n E).bind fun s => some s.blocks else some []
def parts_Cuts.f (k : Nat) (n : Int) (E : List S43) : Option (List Int) :=
  (graph_Right.f k n E).bind fun q => if q = 0 then (wkWalked k n E).bind fun s => ptCuts s.cut s.cut.length 0 [] else some []
theorem parts_Blocks.calls (k : Nat) (n : Int) (A0 : Option Addr) (c0 : Nat) (E : List S43) (r : List (List Int)) (w : World) (hr0 : Kd.C k43 w A0 E.length E) (hc0 : E.length ≤ c0) (h : parts_Blocks.f k n E = some r) :
    Calls Try.prog 19 #[.agg #[.int .i64 n, .slice A0 E.length c0]] w fun e w' => ∃ v0_ : Value, e = .returned v0_ ∧ Kd.S (Kd.slice 3 (Kd.int .i64)) 33 w' w.heap.size (fun _ => True) v0_ r ∧ Below w.heap.size w w' := by
  have hu24 := Try.underlying24
  have hu55 := Try.underlying55
  have HR := zMk hr0
  have HC := zMk hc0
  unfold parts_Blocks.f at h
  obtain ⟨q, hq, h⟩ := Option.bind_eq_some_iff.1 h
  have HQ := zMk hq
  have HH := zMk h
  clear hr0 hc0 hq h
  go_enter Try.func19, Try.ntmps19
  go_upto_region 1 with (fail)
  have BM := zMk (heap_alloc_new w (.cells #[.int .i64 n, .slice A0 E.length c0] 24))
  have HB := zMk (zBa (Below.refl w.heap.size w) (.cells #[.int .i64 n, .slice A0 E.length c0] 24))
  generalize w.alloc (.cells #[.int .i64 n, .slice A0 E.length c0] 24) = w0 at BM HB ⊢
  obtain ⟨gb, hgb⟩ : ∃ gb, gb = w.heap.size := ⟨_, rfl⟩
  rw [← hgb] at BM ⊢
  clear hgb
  have z0 : w0.cell? ⟨gb, 0, none⟩ = some (.int .i64 n) := (zKc BM.out 0).trans rfl
  have z1 : w0.cell? ⟨gb, 1, none⟩ = some (.slice A0 E.length c0) := (zKc BM.out 1).trans rfl
  go_upto_if 5 with (go_at_call 27; refine (graph_Right.calls k n A0 c0 E q _ (Kd.C_below HR.out HB.out) HC.out HQ.out).mono ?_; rintro e w1 ⟨rfl, hb⟩; have BM1 := zMk (zKb BM.out hb); have HB1 := zMk (zBt HB.out hb); clear hb)
  clear z0 z1 BM HB HQ
  have h := HH.out
  clear HH
  by_cases hq0 : q = 0
  rotate_left
  · rw [if_neg hq0] at h
    have qb : (q != 0) = true := bne_iff_ne.mpr hq0
    obtain rfl := zOi h
    first | rw [qb] | skip
    go_wp2
    go_ret
    exact ⟨_, rfl, Kd.S_nil _ _ _ _ _, HB1.out⟩
  subst hq0
  rw [if_pos rfl] at h
  have qb : ((0 : Int) != 0) = false := rfl
  first | rw [qb] | skip
  obtain ⟨s, hs, h⟩ := Option.bind_eq_some_iff.1 h
  obtain rfl := zOi h
  have HS := zMk hs
  clear h hs
  have z0 : w1.cell? ⟨gb, 0, none⟩ = some (.int .i64 n) := (zKc BM1.out 0).trans rfl
  have z1 : w1.cell? ⟨gb, 1, none⟩ = some (.slice A0 E.length c0) := (zKc BM1.out 1).trans rfl
  go_wp2_with (go_at_call 31; refine (wkWalked.calls k n A0 c0 E s _ (Kd.C_below HR.out HB1.out) HC.out HS.out).mono ?_; rintro e wz ⟨gw, vn, V, wa, wn, rfl, hw, hb⟩; have HW := zMk hw; have HBz := zMk (zBt HB1.out (zBt hb hw.hBl)); have HSZ := zMk (zBs (zBt HB1.out hb)); have z7 : wz.cell? ⟨gw, 7, none⟩ = some V.vB := (zKc hw.hw 7).trans rfl; clear hw hb)
  go_ret
  exact ⟨_, rfl, Kd.S_mono (Kd.S_lower HW.out.hB HSZ.out) (fun _ _ => trivial), HBz.out⟩
theorem parts_Cuts.calls (k : Nat) (n : Int) (A0 : Option Addr) (c0 : Nat) (E : List S43) (r : List Int) (w : World) (hr0 : Kd.C k43 w A0 E.length E) (hc0 : E.length ≤ c0) (h : parts_Cuts.f k n E = some r) :
    Calls Try.prog 14 #[.agg #[.int .i64 n, .slice A0 E.length c0]] w fun e w' => ∃ v0_ : Value, e = .returned v0_ ∧ Kd.R (Kd.int .i64) 3 w' w.heap.size (fun _ => True) v0_ r ∧ Below w.heap.size w w' := by
  have hu24 := Try.underlying24
  have hu55 := Try.underlying55
  have HR := zMk hr0
  have HC := zMk hc0
  unfold parts_Cuts.f at h
  obtain ⟨q, hq, h⟩ := Option.bind_eq_some_iff.1 h
  have HQ := zMk hq
  have HH := zMk h
  clear hr0 hc0 hq h
  go_enter Try.func14, Try.ntmps14
  go_upto_region 1 with (fail)
  have BM := zMk (heap_alloc_new w (.cells #[.int .i64 n, .slice A0 E.length c0] 24))
  have HB := zMk (zBa (Below.refl w.heap.size w) (.cells #[.int .i64 n, .slice A0 E.length c0] 24))
  generalize w.alloc (.cells #[.int .i64 n, .slice A0 E.length c0] 24) = w0 at BM HB ⊢
  obtain ⟨gb, hgb⟩ : ∃ gb, gb = w.heap.size := ⟨_, rfl⟩
  rw [← hgb] at BM ⊢
  clear hgb
  have z0 : w0.cell? ⟨gb, 0, none⟩ = some (.int .i64 n) := (zKc BM.out 0).trans rfl
  have z1 : w0.cell? ⟨gb, 1, none⟩ = some (.slice A0 E.length c0) := (zKc BM.out 1).trans rfl
  go_upto_if 7 with (go_at_call 27; refine (graph_Right.calls k n A0 c0 E q _ (Kd.C_below HR.out HB.out) HC.out HQ.out).mono ?_; rintro e w1 ⟨rfl, hb⟩; have BM1 := zMk (zKb BM.out hb); have HB1 := zMk (zBt HB.out hb); clear hb)
  clear z0 z1 BM HB HQ
  have h := HH.out
  clear HH
  by_cases hq0 : q = 0
  rotate_left
  · rw [if_neg hq0] at h
    have qb : (q != 0) = true := bne_iff_ne.mpr hq0
    obtain rfl := zOi h
    first | rw [qb] | skip
    go_wp2
    go_ret
    exact ⟨_, rfl, Kd.R_nil _ _ _ _ _, HB1.out⟩
  subst hq0
  rw [if_pos rfl] at h
  have qb : ((0 : Int) != 0) = false := rfl
  first | rw [qb] | skip
  obtain ⟨s, hs, h⟩ := Option.bind_eq_some_iff.1 h
  have HS := zMk hs
  have HH := zMk h
  clear h hs
  have z0 : w1.cell? ⟨gb, 0, none⟩ = some (.int .i64 n) := (zKc BM1.out 0).trans rfl
  have z1 : w1.cell? ⟨gb, 1, none⟩ = some (.slice A0 E.length c0) := (zKc BM1.out 1).trans rfl
  go_wp2_with (go_at_call 31; refine (wkWalked.calls k n A0 c0 E s _ (Kd.C_below HR.out HB1.out) HC.out HS.out).mono ?_; rintro e wz ⟨gw, vn, V, wa, wn, rfl, hw, hb⟩; have HBz := zMk (zBt HB1.out (zBt hb hw.hBl)); have H6 := zMk hw.h6; obtain ⟨A6, c6, e6⟩ := zRs hw.h6; have E6 := zMk e6; have z6 : wz.cell? ⟨gw, 6, none⟩ = some (.slice A6 s.cut.length c6) := (zKc hw.hw 6).trans (congrArg some e6); clear hw hb e6)
  clear z0 z1 z6 BM1 HB1 HS HR
  have H6C := zMk (show Kd.R Kd.bool 4 wz wa.heap.size (fun _ => True) (.slice A6 s.cut.length c6) s.cut from E6.out ▸ H6.out)
  clear H6 E6
  generalize s.cut = cut at H6C HH
  have HCL := zMk (wk_len H6C.out)
  go_loopg [2, 14] cut.length (fun kx s2 s14 wr => ∃ (v : Nat) (out : List Int) (vO : Value), s2 = vO ∧ s14 = .int .i64 (v : Int) ∧ v ≤ cut.length ∧ cut.length - v ≤ kx ∧ Aside0 (Kd.R (Kd.int .i64) 3 wr wz.heap.size (fun _ => True) vO out) ∧ Aside0 (Below wz.heap.size wz wr) ∧ Aside0 (ptCuts cut (cut.length - v) v out = some r))
  case atStart => exact ⟨0, [], .slice none 0 0, rfl, rfl, Nat.zero_le _, Nat.le_refl _, ⟨Kd.R_nil _ _ _ _ _⟩, ⟨Below.refl _ _⟩, HH⟩
  case round =>
    clear HH
    obtain ⟨v, out, vO, hs2, rfl, hv, hg3, RO, HB, HH⟩ := hrel
    obtain ⟨s2, e2⟩ : ∃ s2 : Value, s2 = vO := ⟨_, rfl⟩
    subst hs2
    subst e2
    by_cases hlt : v < cut.length
    rotate_left
    · have h := HH.out
      rw [show cut.length - v = 0 by omega, ptCuts] at h
      obtain rfl := zOi h
      have hvn : ((v : Int) < (cut.length : Int)) = False := eq_false (by omega)
      clear h HH
      go_wp2
      go_ret
      exact ⟨_, rfl, zRl RO.out (zBs HBz.out), zBt HBz.out HB.out⟩
    have h := HH.out
    clear HH
    rw [show cut.length - v = (cut.length - (v + 1)) + 1 by omega, ptCuts] at h
    have h6 := zRb H6C.out HB.out
    obtain ⟨g6, c6', e6, -, -, -⟩ := Kd.R_form h6 (by omega)
    injection e6 with ea en ec
    subst ea
    subst ec
    clear en
    have p0 : 0 ≤ (v : Int) := Int.natCast_nonneg v
    have q0 : (v : Int) < (cut.length : Int) := by omega
    obtain ⟨hx, -⟩ := Kd.R_celln false h6 (v : Int) p0 q0
    rw [zTn] at hx
    have hi64 : wrap64 ((v : Int) + 1) = ((v + 1 : Nat) : Int) := by
      have a1 := HCL.out
      have a2 : maxLen ≤ 9223372036854775807 := by decide
      unfold wrap64; omega
    replace p0 := eq_true p0
    replace q0 := eq_true q0
    clear h6
    by_cases hmet : rdOf false cut (v : Int) = true
    rotate_left
    · rw [if_neg hmet] at h
      have HH := zMk h
      have hx2 : wr.cell? ⟨g6, v, none⟩ = some (.bool false) := by rw [hx]; exact congrArg (fun z => some (Value.bool z)) (Bool.eq_false_iff.mpr hmet)
      clear hx h hmet
      go_wp2
      go_roundg (cut.length - (v + 1))
      case measure => omega
      case rel => exact ⟨v + 1, out, s2, rfl, by first | rfl | exact congrArg (Value.int .i64) (by omega) | exact congrArg (Value.int .i64) hi64 | exact congrArg (Value.int .i64) (by simp only [i64_w]; exact hi64), by omega, Nat.le_refl _, RO, HB, HH⟩
    · rw [if_pos hmet] at h
      by_cases hol : out.length < 17592186044415
      rotate_left
      · rw [if_neg hol] at h; cases h
      rw [if_pos hol] at h
      have HH := zMk h
      have HOL := zMk hol
      have hx2 : wr.cell? ⟨g6, v, none⟩ = some (.bool true) := by rw [hx]; exact congrArg (fun z => some (Value.bool z)) hmet
      clear hx h hmet hol
      go_wp2_with ((with_reducible refine gate_builtin (b := .append) (xs := #[.tmp 20, .tmp 22]) rfl ?_); at_builtin; refine Kd.R_append (Kd.int .i64) (w0 := wz) wz.heap.size rfl (.tmp 20) (.tmp 22) 33 3 (.int .i64 0) 8 rfl Try.underlying33 info3 rfl (by decide) (by omega) s2 out (v : Int) [.int .i64 (v : Int)] (fun _ => True) (fun _ => False) rfl rfl ?aP (fun _ hk => hk.elim) ?aF ?aO ?aB ?aS ?aL ?_; (case aP => exact rfl); (case aB => exact HB.out); (case aF => exact (fun _ _ => trivial)); (case aO => exact RO.out); (case aS => exact (zBs HB.out)); (case aL => have := HOL.out; omega); intro vQ w7 ho hb hg hat; have RQ := zMk ho; have HB7 := zMk hb; clear ho hb hg hat)
      go_roundg (cut.length - (v + 1))
      case measure => omega
      case rel => exact ⟨v + 1, out ++ [(v : Int)], vQ, rfl, by first | rfl | exact congrArg (Value.int .i64) (by omega) | exact congrArg (Value.int .i64) hi64 | exact congrArg (Value.int .i64) (by simp only [i64_w]; exact hi64), by omega, Nat.le_refl _, RQ, HB7, HH⟩

def parts_Bridges.l0 : Nat → List Int → List (List Int) → Int → Int → Option (List Int)
  | 0, _, _, _, _ => none
  | k + 1, x2, x6, x7, x8 => if x8 < x7 then (if 0 ≤ x8 then (if x8 < (x6.length : Int) then (if ((rd_L4 x6 x8).length : Int) = 1 then (if 0 < ((rd_L4 x6 x8).length : Int) then (if x2.length < 17592186044416 then (parts_Bridges.l0 k (x2 ++ [rd (rd_L4 x6 x8) 0]) x6 x7 (wrap64 (x8 + 1))) else (none)) else (none)) else (parts_Bridges.l0 k x2 x6 x7 (wrap64 (x8 + 1)))) else (none)) else (none)) else (some x2)
def parts_Bridges.f (k : Nat) (a0_0 : Int) (l0_1 : List (S43)) : Option (List Int) := (parts_Blocks.f k a0_0 l0_1).bind fun t277 => (parts_Bridges.l0 k ([] : List Int) t277 (t277.length : Int) 0)
theorem parts_Bridges.calls (k : Nat) (a0_0 : Int) (A0_1 : Option Addr) (c0_1 : Nat) (l0_1 : List (S43)) (r : List Int) (w : World) (hr0_1 : Kd.C k43 w A0_1 l0_1.length l0_1) (hc0_1 : l0_1.length ≤ c0_1) (h : parts_Bridges.f k a0_0 l0_1 = some r) :
    Calls Try.prog 15 #[.agg #[.int .i64 a0_0, .slice A0_1 l0_1.length c0_1]] w fun e w' => ∃ v0_ : Value, e = .returned (v0_) ∧ Kd.R (Kd.int .i64) 3 w' w.heap.size (fun _ => True) v0_ r ∧ Below w.heap.size w w' := by
  have hu24 := Try.underlying24
  have HR0_1 := zMk hr0_1
  have HC0_1 := zMk hc0_1
  clear hr0_1 hc0_1
  have HB := zMk (Below.refl w.heap.size w)
  have H : ((parts_Blocks.f k a0_0 l0_1).bind fun t277 => (parts_Bridges.l0 k ([] : List Int) t277 (t277.length : Int) 0)) = some r := h
  clear h
  replace H := bnd H
  obtain ⟨t277, A20, H⟩ := H
  have A2 := zMk A20
  clear A20
  have H' := zMk H
  clear H
  go_enter Try.func15, Try.ntmps15
  go_wp2_with (first | ((with_reducible refine gate_dst (N := 1) rfl ?_); refine box_event ?hg (N := 1) ?hd (cs := #[.int .i64 a0_0, .slice A0_1 l0_1.length c0_1]) (t := 24) ?hr ?_; (case hd => rfl); (case hg => rfl); (case hr => first | (go_simp; done)|(go_simp; rfl)|(go_simp; rw [show ∀ x : Int, IntKind.u32.wrap (IntKind.u8.wrap x) = x % 256 from fun x => (by show (x % 256) % 4294967296 = x % 256; omega)])); intro gb276 hg w3 hbox hb; have BK276 := zMk (hbox); have GW276 := zMk ((by rw [hg]; exact (zBs (by exact uT HB.out)) : w.heap.size ≤ gb276)); have GE276 := zMk ((by rw [hg]; exact (zBs (by exact uT HB.out)) : w.heap.size ≤ gb276)); have IGE276 := ownGe GE276.out; replace HB := zMk (zBt (by exact uT HB.out) hb); clear hb hbox hg; have hcz4_0 : w3.cell? ⟨gb276, 0, none⟩ = some (.int .i64 a0_0) := (zKc BK276.out 0).trans rfl; have hcz4_1 : w3.cell? ⟨gb276, 1, none⟩ = some (.slice A0_1 l0_1.length c0_1) := (zKc BK276.out 1).trans rfl; have hfz4_0 := zKf BK276.out 0; have hfz4_1 := zKf BK276.out 1)|((with_reducible refine gate_callee (f := 19) rfl ?_); refine goesL_ (some 6) rfl rfl Try.func19 (by kernel_rfl) rfl #[.agg #[.int .i64 a0_0, .slice A0_1 l0_1.length c0_1]] rfl (by (try simp only [zMa, zMc, zMn]); first |  done|  rfl|  (simp only [zLd, zLt]; rfl)) ?_; (with_reducible refine (parts_Blocks.calls k a0_0 _ _ l0_1 t277 _ ?side1 ?side2 A2.out).mono ?_); (case side1 => repeat (first |  exact (Kd.C_below HR0_1.out HB.out)|(with_reducible refine zCa ?_ _)|(with_reducible refine zCn ?_ _)|(with_reducible refine zCd ?_))); (case side2 => exact HC0_1.out); rintro e w5 ⟨v278, rfl, ho0, hb⟩; refine ⟨_, rfl, ?_⟩; have HO279 := zMk (Kd.S_lower ho0 (zBs (by exact uT HB.out))); replace BK276 := zMk (zKb (g := gb276) (o := .cells #[.int .i64 a0_0, .slice A0_1 l0_1.length c0_1] 24 (0, 0)) (by (with_reducible repeat (first |  refine zKn ?_ _|  refine zKd ?_|  refine zKa ?_ _)); exact BK276.out) hb); replace HB := zMk (zBt (by exact uT HB.out) hb); obtain ⟨Ao6, co6, eo6⟩ := Kd.S_slice HO279.out; subst eo6))
  go_loopg [2, 8] k (fun kq v2 v8 w' => ∃ (x2_1 : List Int) (x8_1 : Int), v8 = .int .i64 x8_1 ∧ Aside0 (parts_Bridges.l0 kq x2_1 t277 (t277.length : Int) x8_1 = some r) ∧ Aside0 (kq ≤ k) ∧ Aside0 (Kd.R (Kd.int .i64) 3 w' w.heap.size (fun _ => True) v2 x2_1) ∧ Aside0 (Kd.S (Kd.slice 3 (Kd.int .i64)) 33 w' w.heap.size (fun k_ => some k_ ≠ (v2 : Value).ownBlock) (.slice Ao6 t277.length co6) t277) ∧ Aside0 (w'.heap[gb276]? = some (.cells #[.int .i64 a0_0, (.slice A0_1 l0_1.length c0_1)] 24 (0, 0))) ∧ Aside0 (Below w.heap.size w w'))
  case atStart => exact ⟨(([] : List Int)), (0), (by first | rfl | (simp; done) | (simp [*]; done)), H', ⟨Nat.le_refl _⟩, ⟨by first | exact Kd.R_nil _ _ _ _ _ | exact Kd.N_nil _ _ _ _ _ | exact Kd.V_nil _ _ _ _ _ | exact Kd.Q_nil _ _ _ _ _ | exact Kd.S_nil _ _ _ _ _⟩, ⟨by (with_reducible repeat (first | apply Kd.S_alloc | apply Kd.S_drewN | apply Kd.S_drew)); exact Kd.S_mono HO279.out (fun _ hk => (by simp [Value.ownBlock]))⟩, ⟨by (with_reducible repeat (first | refine zKn ?_ _ | refine zKd ?_ | refine zKa ?_ _)); exact BK276.out⟩, ⟨by exact uT HB.out⟩⟩
  clear H'
  obtain ⟨x2_1, x8_1, rfl, HA, HK1, HO_2, HO_6, BK276, HB⟩ := hrel
  rcases gk with _ | k1
  · exact absurd HA.out (by simp [parts_Bridges.l0])
  have H := HA.out
  clear HA
  simp only [parts_Bridges.l0] at H
  by_cases c7 : x8_1 < (t277.length : Int)
  · rw [if_pos c7] at H
    have c7b0 : decide (x8_1 < (t277.length : Int)) = true := decide_eq_true c7
    clear c7
    by_cases c8 : 0 ≤ x8_1
    rotate_left
    · rw [if_neg c8] at H; exact absurd H (by simp)
    rw [if_pos c8] at H
    have c8b0 : decide (0 ≤ x8_1) = true := decide_eq_true c8
    clear c8
    by_cases c9 : x8_1 < (t277.length : Int)
    rotate_left
    · rw [if_neg c9] at H; exact absurd H (by simp)
    rw [if_pos c9] at H
    have c9b0 : decide (x8_1 < (t277.length : Int)) = true := decide_eq_true c9
    clear c9
    by_cases c10 : ((rd_L4 t277 x8_1).length : Int) = 1
    · rw [if_pos c10] at H
      have c10b0 : (((rd_L4 t277 x8_1).length : Int) == 1) = true := beq_iff_eq.mpr c10
      have c10b1 : (((rd_L4 t277 x8_1).length : Int) != 1) = false := bne_eq_false_iff_eq.mpr c10
      clear c10
      by_cases c11 : 0 < ((rd_L4 t277 x8_1).length : Int)
      rotate_left
      · rw [if_neg c11] at H; exact absurd H (by simp)
      rw [if_pos c11] at H
      have c11b0 : decide (0 < ((rd_L4 t277 x8_1).length : Int)) = true := decide_eq_true c11
      have c11b1 : decide (0 < (rd_L4 t277 x8_1).length) = true := decide_eq_true (by omega)
      clear c11
      by_cases c12 : x2_1.length < 17592186044416
      rotate_left
      · rw [if_neg c12] at H; exact absurd H (by simp)
      rw [if_pos c12] at H
      have LMc12 := zMk c12
      clear c12
      obtain ⟨y282, hy282⟩ : ∃ y_ : List Int, y_ = (x2_1 ++ [rd (rd_L4 t277 x8_1) 0]) := ⟨_, rfl⟩
      replace H : (parts_Bridges.l0 k1 y282 t277 (t277.length : Int) (wrap64 (x8_1 + 1))) = some r := by first | (rw [hy282]; with_reducible exact H) | (have H2_ := bsm H; first | (rw [hy282]; with_reducible exact H2_) | with_reducible exact H2_) | with_reducible exact H | (rw [hy282]; exact H) | exact H
      have Ny282 := zMk hy282
      clear hy282
      have H' := zMk H
      clear H
      have p280 : 0 ≤ (x8_1 : Int) := of_decide_eq_true (by assumption)
      have q280 : x8_1 < (t277.length : Int) := of_decide_eq_true (by assumption)
      obtain ⟨ad280, A280_0, c280_0, e280, hx280_0, hl280_0, hi280_0⟩ := at_L4 (Kd.S_reads' HO_6.out).2.2 x8_1 p280 q280
      cases e280
      obtain ⟨ce280, hce280, hMe280, hcc280⟩ := Kd.S_get HO_6.out [] x8_1 p280 (by first | exact q280 | exact of_decide_eq_true (by assumption) | (have e_ := (Kd.S_reads' HO_6.out).1; omega))
      obtain ⟨ve280_0, rfl, ge280_0⟩ := hMe280
      have hv280_0 := hcc280 0 _ rfl
      rw [Nat.add_zero, show ((Kd.slice 3 (Kd.int .i64))).sz = 1 from rfl, Nat.mul_one] at hv280_0
      replace hv280_0 := zOi (hv280_0.symm.trans hx280_0)
      rw [hv280_0] at ge280_0
      have HL280_0 := zMk (show Kd.R (Kd.int .i64) 3 _ _ _ _ (rd_L4 t277 x8_1) from ge280_0)
      clear hv280_0 ge280_0 hcc280 hce280
      have HR280_0 := zMk hi280_0
      have HC280_0 := zMk hl280_0
      clear hi280_0 hl280_0
      replace p280 := eq_true p280
      replace q280 := eq_true q280
      have p281 : 0 ≤ (0 : Int) := (by omega)
      have q281 : 0 < ((rd_L4 t277 x8_1).length : Int) := of_decide_eq_true (by assumption)
      obtain ⟨ad281, e281, hx281_0⟩ := zAi (by repeat (first | (with_reducible exact HR280_0.out) | (with_reducible refine zCa ?_ _) | (with_reducible refine zCn ?_ _) | (with_reducible refine zCd ?_) | exact HR280_0.out)) 0 p281 q281
      cases e281
      have qi281 : (0 < (rd_L4 t277 x8_1).length) = True := eq_true (by omega)
      (try rw [show ((0 : Int)).toNat = 0 from rfl] at hx281_0)
      (try rw [Addr.add_zero'] at hx281_0)
      replace p281 := eq_true p281
      replace q281 := eq_true q281
      go_wp2_with (first | ((with_reducible refine gate_builtin (b := .append) (xs := #[.tmp 15, .tmp 19]) rfl ?_); at_builtin; refine Kd.R_append (Kd.int .i64) (w0 := w) w.heap.size rfl (.tmp 15) (.tmp 19) 33 3 (.int .i64 0) 8 rfl Try.underlying33 info3 rfl (by decide) (by omega) u2 x2_1 (rd (rd_L4 t277 x8_1) 0) [.int .i64 (rd (rd_L4 t277 x8_1) 0)] (fun _ => True) (fun _ => False) rfl rfl ?aP (fun _ hk => hk.elim) ?aF ?aO ?aB ?aS ?aL ?_; (case aP => exact rfl); (case aB => exact (by exact uT HB.out)); (case aF => exact (fun _ _ => trivial)); (case aO => exact (by exact uR HO_2.out)); (case aS => exact (zBs (by exact uT HB.out))); (case aL => have := LMc12.out; omega); intro v283 w13 ho hb hg hat; rw [← Ny282.out] at ho; replace HO_6 := zMk (Kd.S_after (ok := (fun _ => True)) (by (with_reducible repeat (first |  apply Kd.S_alloc|  apply Kd.S_drewN|  apply Kd.S_drew)); exact Kd.S_mono HO_6.out (fun _ hk => ⟨trivial, hk⟩)) hg hat); replace BK276 := zMk (blk_grown (g := gb276) (o := .cells #[.int .i64 a0_0, .slice A0_1 l0_1.length c0_1] 24 (0, 0)) (by (with_reducible repeat (first |  refine zKn ?_ _|  refine zKd ?_|  refine zKa ?_ _)); exact BK276.out) hg (Kd.R_ne HO_2.out BK276.out (by decide))); replace HL280_0 := zMk (Kd.R_after (ok := (fun k_ => some k_ ≠ (.slice (some ad280) t277.length co6 : Value).ownBlock)) (by (with_reducible repeat (first |  apply zRa|  apply zRn|  apply zRd)); exact zRm HL280_0.out (fun _ hk => ⟨hk.2, hk.1⟩)) hg hat); replace HB := zMk (hb); have HO284 := zMk (ho); clear HO_2 ho hb hg hat))
      go_roundg k1
      case measure => have := HK1.out; omega
      case rel => exact ⟨(y282), (wrap64 (x8_1 + 1)), (by first | rfl | (simp; done) | (simp [*]; done)), H', ⟨by have := HK1.out; omega⟩, ⟨by exact uR HO284.out⟩, ⟨by (with_reducible repeat (first | apply Kd.S_alloc | apply Kd.S_drewN | apply Kd.S_drew)); exact Kd.S_mono HO_6.out (fun _ hk => hk.2)⟩, ⟨by (with_reducible repeat (first | refine zKn ?_ _ | refine zKd ?_ | refine zKa ?_ _)); exact BK276.out⟩, ⟨by exact uT HB.out⟩⟩
    · rw [if_neg c10] at H
      have c10b0 : (((rd_L4 t277 x8_1).length : Int) == 1) = false := beq_eq_false_iff_ne.mpr c10
      have c10b1 : (((rd_L4 t277 x8_1).length : Int) != 1) = true := bne_iff_ne.mpr c10
      have H' := zMk H
      clear H
      have p280 : 0 ≤ (x8_1 : Int) := of_decide_eq_true (by assumption)
      have q280 : x8_1 < (t277.length : Int) := of_decide_eq_true (by assumption)
      obtain ⟨ad280, A280_0, c280_0, e280, hx280_0, hl280_0, hi280_0⟩ := at_L4 (Kd.S_reads' HO_6.out).2.2 x8_1 p280 q280
      cases e280
      obtain ⟨ce280, hce280, hMe280, hcc280⟩ := Kd.S_get HO_6.out [] x8_1 p280 (by first | exact q280 | exact of_decide_eq_true (by assumption) | (have e_ := (Kd.S_reads' HO_6.out).1; omega))
      obtain ⟨ve280_0, rfl, ge280_0⟩ := hMe280
      have hv280_0 := hcc280 0 _ rfl
      rw [Nat.add_zero, show ((Kd.slice 3 (Kd.int .i64))).sz = 1 from rfl, Nat.mul_one] at hv280_0
      replace hv280_0 := zOi (hv280_0.symm.trans hx280_0)
      rw [hv280_0] at ge280_0
      have HL280_0 := zMk (show Kd.R (Kd.int .i64) 3 _ _ _ _ (rd_L4 t277 x8_1) from ge280_0)
      clear hv280_0 ge280_0 hcc280 hce280
      have HR280_0 := zMk hi280_0
      have HC280_0 := zMk hl280_0
      clear hi280_0 hl280_0
      replace p280 := eq_true p280
      replace q280 := eq_true q280
      go_wp2
      go_roundg k1
      case measure => have := HK1.out; omega
      case rel => exact ⟨(x2_1), (wrap64 (x8_1 + 1)), (by first | rfl | (simp; done) | (simp [*]; done)), H', ⟨by have := HK1.out; omega⟩, ⟨by exact uR HO_2.out⟩, ⟨by (with_reducible repeat (first | apply Kd.S_alloc | apply Kd.S_drewN | apply Kd.S_drew)); exact HO_6.out⟩, ⟨by (with_reducible repeat (first | refine zKn ?_ _ | refine zKd ?_ | refine zKa ?_ _)); exact BK276.out⟩, ⟨by exact uT HB.out⟩⟩
  · rw [if_neg c7] at H
    have c7b0 : decide (x8_1 < (t277.length : Int)) = false := decide_eq_false c7
    clear c7
    obtain rfl := zOi H
    go_wp2
    go_ret
    exact ⟨_, by first | rfl | (simp [errW_none, errW_some] <;> rfl) | (simp [*, errW_none, errW_some] <;> rfl), by exact uR HO_2.out, by exact uT HB.out⟩


def filigreeref04_Ints.l0 : Nat → List Int → List Int → Int → Option (Bool)
  | 0, _, _, _ => none
  | k + 1, x0, x1, x5 => if x5 < (x0.length : Int) then (if 0 ≤ x5 then (if x5 < (x1.length : Int) then (if (rd x0 x5) = (rd x1 x5) then (filigreeref04_Ints.l0 k x0 x1 (wrap64 (x5 + 1))) else (some false)) else (none)) else (none)) else (some true)
def filigreeref04_Ints.f (k : Nat) (l0 : List Int) (l1 : List Int) : Option (Bool) := if (l0.length : Int) = (l1.length : Int) then (filigreeref04_Ints.l0 k l0 l1 0) else (some false)
theorem filigreeref04_Ints.calls (k : Nat) (A0 : Option Addr) (c0 : Nat) (l0 : List Int) (A1 : Option Addr) (c1 : Nat) (l1 : List Int) (r : Bool) (w : World) (hr0 : Kd.C (Kd.int .i64) w A0 l0.length l0) (hc0 : l0.length ≤ c0) (hr1 : Kd.C (Kd.int .i64) w A1 l1.length l1) (hc1 : l1.length ≤ c1) (h : filigreeref04_Ints.f k l0 l1 = some r) :
    Calls Try.prog 16 #[.slice A0 l0.length c0, .slice A1 l1.length c1] w fun e w' => e = .returned (.bool r) ∧ Drawn0 w w' := by
  have HR0 := zMk hr0
  have HC0 := zMk hc0
  clear hr0 hc0
  have HR1 := zMk hr1
  have HC1 := zMk hc1
  clear hr1 hc1
  have H : (if (l0.length : Int) = (l1.length : Int) then (filigreeref04_Ints.l0 k l0 l1 0) else (some false)) = some r := h
  clear h
  by_cases c3 : (l0.length : Int) = (l1.length : Int)
  · rw [if_pos c3] at H
    have c3b0 : ((l0.length : Int) == (l1.length : Int)) = true := beq_iff_eq.mpr c3
    have c3b1 : ((l0.length : Int) != (l1.length : Int)) = false := bne_eq_false_iff_eq.mpr c3
    have c3b2 : (l0.length == l1.length) = true := by first | simpa using c3 | (simp at c3 ⊢; omega)
    clear c3
    have H' := zMk H
    clear H
    go_enter Try.func16, Try.ntmps16
    go_wp2
    repeat (go_quiet (fail); try go_wp2)
    go_loopg [5] k (fun kq v5 w' => ∃ (x5_1 : Int), v5 = .int .i64 x5_1 ∧ Aside0 (filigreeref04_Ints.l0 kq l0 l1 x5_1 = some r) ∧ Aside0 (kq ≤ k) ∧ Drawn0 w w')
    case atStart => exact ⟨(0), (by first | rfl | (simp; done) | (simp [*]; done)), H', ⟨Nat.le_refl _⟩, by repeat (first | exact Drawn0.refl _ | apply Drawn0.step)⟩
    clear H'
    obtain ⟨x5_1, rfl, HA, HK1, ⟨m1, rfl⟩⟩ := hrel
    rcases gk with _ | k1
    · exact absurd HA.out (by simp [filigreeref04_Ints.l0])
    have H := HA.out
    clear HA
    simp only [filigreeref04_Ints.l0] at H
    by_cases c4 : x5_1 < (l0.length : Int)
    · rw [if_pos c4] at H
      have c4b0 : decide (x5_1 < (l0.length : Int)) = true := decide_eq_true c4
      clear c4
      by_cases c5 : 0 ≤ x5_1
      rotate_left
      · rw [if_neg c5] at H; exact absurd H (by simp)
      rw [if_pos c5] at H
      have c5b0 : decide (0 ≤ x5_1) = true := decide_eq_true c5
      clear c5
      by_cases c6 : x5_1 < (l1.length : Int)
      rotate_left
      · rw [if_neg c6] at H; exact absurd H (by simp)
      rw [if_pos c6] at H
      have c6b0 : decide (x5_1 < (l1.length : Int)) = true := decide_eq_true c6
      clear c6
      by_cases c7 : (rd l0 x5_1) = (rd l1 x5_1)
      · rw [if_pos c7] at H
        have c7b0 : ((rd l0 x5_1) == (rd l1 x5_1)) = true := beq_iff_eq.mpr c7
        have c7b1 : ((rd l0 x5_1) != (rd l1 x5_1)) = false := bne_eq_false_iff_eq.mpr c7
        clear c7
        have H' := zMk H
        clear H
        have p285 : 0 ≤ (x5_1 : Int) := of_decide_eq_true (by assumption)
        have q285 : x5_1 < (l0.length : Int) := of_decide_eq_true (by assumption)
        obtain ⟨ad285, e285, hx285_0⟩ := zAi HR0.out x5_1 p285 q285
        cases e285
        replace p285 := eq_true p285
        replace q285 := eq_true q285
        have p286 : 0 ≤ (x5_1 : Int) := of_decide_eq_true (by assumption)
        have q286 : x5_1 < (l1.length : Int) := of_decide_eq_true (by assumption)
        obtain ⟨ad286, e286, hx286_0⟩ := zAi HR1.out x5_1 p286 q286
        cases e286
        replace p286 := eq_true p286
        replace q286 := eq_true q286
        go_wp2
        repeat (go_quiet (fail); try go_wp2)
        go_roundg k1
        case measure => have := HK1.out; omega
        case rel => exact ⟨(wrap64 (x5_1 + 1)), (by first | rfl | (simp; done) | (simp [*]; done)), H', ⟨by have := HK1.out; omega⟩, by repeat (first | exact Drawn0.refl _ | apply Drawn0.step)⟩
      · rw [if_neg c7] at H
        have c7b0 : ((rd l0 x5_1) == (rd l1 x5_1)) = false := beq_eq_false_iff_ne.mpr c7
        have c7b1 : ((rd l0 x5_1) != (rd l1 x5_1)) = true := bne_iff_ne.mpr c7
        obtain rfl := zOi H
        have p285 : 0 ≤ (x5_1 : Int) := of_decide_eq_true (by assumption)
        have q285 : x5_1 < (l0.length : Int) := of_decide_eq_true (by assumption)
        obtain ⟨ad285, e285, hx285_0⟩ := zAi HR0.out x5_1 p285 q285
        cases e285
        replace p285 := eq_true p285
        replace q285 := eq_true q285
        have p286 : 0 ≤ (x5_1 : Int) := of_decide_eq_true (by assumption)
        have q286 : x5_1 < (l1.length : Int) := of_decide_eq_true (by assumption)
        obtain ⟨ad286, e286, hx286_0⟩ := zAi HR1.out x5_1 p286 q286
        cases e286
        replace p286 := eq_true p286
        replace q286 := eq_true q286
        go_wp2
        repeat (go_quiet (fail); try go_wp2)
        go_ret
        exact ⟨by first | rfl | (simp; done) | (simp [*]; done), by repeat (first | exact Drawn0.refl _ | apply Drawn0.step)⟩
    · rw [if_neg c4] at H
      have c4b0 : decide (x5_1 < (l0.length : Int)) = false := decide_eq_false c4
      clear c4
      obtain rfl := zOi H
      go_wp2
      repeat (go_quiet (fail); try go_wp2)
      go_ret
      exact ⟨by first | rfl | (simp; done) | (simp [*]; done), by repeat (first | exact Drawn0.refl _ | apply Drawn0.step)⟩
  · rw [if_neg c3] at H
    have c3b0 : ((l0.length : Int) == (l1.length : Int)) = false := beq_eq_false_iff_ne.mpr c3
    have c3b1 : ((l0.length : Int) != (l1.length : Int)) = true := bne_iff_ne.mpr c3
    have c3b2 : (l0.length == l1.length) = false := by first | simpa using c3 | (simp at c3 ⊢; omega)
    obtain rfl := zOi H
    go_enter Try.func16, Try.ntmps16
    go_wp2
    repeat (go_quiet (fail); try go_wp2)
    go_ret
    exact ⟨by first | rfl | (simp; done) | (simp [*]; done), by repeat (first | exact Drawn0.refl _ | apply Drawn0.step)⟩

end Go.Proofs.Ytkiemlbobcklpaa.A
