/- Lemmas for the statement: the walks of the functions that it reaches, and plain laws. -/
import Derived.Test.YtkiemlbobcklpaaG1
set_option linter.unusedVariables false
set_option linter.unusedSimpArgs false
set_option maxHeartbeats 8000000
set_option maxRecDepth 100000
namespace Go.Proofs.Ytkiemlbobcklpaa.A
open Go Go.RowKit Go.Proofs.YtkiemlbobcklpaaW.PrintWords Go.Proofs.YtkiemlbobcklpaaW.PrintLast Go.Proofs.YtkiemlbobcklpaaW.PrintMore
attribute [local go_sem] max2_int min2_int max_two min_two max_three min_three max_four min_four
open Go.Proofs.YtkiemlbobcklpaaW.PrintWords.Kd renaming R_alloc → zRa, R_drewN → zRn, R_drew → zRd, C_alloc → zCa, C_drewN → zCn, C_drew → zCd, R_mono → zRm, at_int → zAi, R_elder' → zRe, R_lower → zRl, R_new' → zRw, R_lt → zRt, R_below → zRb, R_base → zRz, R_reads' → zRr, R_slice → zRs
open Go.Proofs.YtkiemlbobcklpaaW.PrintWords renaming pw_below_drewN → zBn, below_alloc → zBa, below_drew1 → zBd, below_size → zBs, below_step → zBt, blk_drewN → zKn, blk_drew → zKd, blk_alloc → zKa, blk_below → zKb, blk_cell → zKc, blk_frozen → zKf
open List renaming setIfInBounds_toArray → zSa, set_cons_zero → zSb, set_cons_succ → zSc, length_drop → zLd, length_take → zLt, map_toArray → zMa, map_cons → zMc, map_nil → zMn, length_cons → zLc, length_nil → zLn
open Go.Proofs.YtkiemlbobcklpaaW.PrintWords.Aside0 renaming mk → zMk
open Option renaming bind_eq_some_iff → zBi, bind_some → zOb
open Option.some renaming inj → zOi
open Int renaming toNat_natCast → zTn

mutual
def filigreeref04_Right.l0 : Nat → Int → Int → List (S43) → Option (Int)
  | 0, _, _, _ => none
  | k + 1, x4, x311000, x311001 => if x4 < (x311001.length : Int) then (if 0 ≤ x4 then ((filigreeref04_edge.f k x311000 ((rd_T43 x311001 x4).f0) ((rd_T43 x311001 x4).f1) ((rd_T43 x311001 x4).f2)).bind fun t313 => (if t313 = 0 then (if ((rd_T43 x311001 x4).f0) > ((rd_T43 x311001 x4).f1) then (some 1) else (if x4 > 0 then (if 0 ≤ (wrap64 (x4 - 1)) then (if (wrap64 (x4 - 1)) < (x311001.length : Int) then ((filigreeref04_below.f ((rd_T43 x311001 (wrap64 (x4 - 1))).f0) ((rd_T43 x311001 (wrap64 (x4 - 1))).f1) ((rd_T43 x311001 (wrap64 (x4 - 1))).f2) ((rd_T43 x311001 x4).f0) ((rd_T43 x311001 x4).f1) ((rd_T43 x311001 x4).f2)).bind fun t318 => (filigreeref04_Right.j1 k x4 (!t318) x311000 x311001)) else (none)) else (none)) else (filigreeref04_Right.j1 k x4 false x311000 x311001))) else (some t313))) else (none)) else (some 0)
def filigreeref04_Right.j1 : Nat → Int → Bool → Int → List (S43) → Option (Int)
  | 0, _, _, _, _ => none
  | k + 1, x4, x62, x311000, x311001 => if x62 = true then (if 0 ≤ x4 then (if x4 < (x311001.length : Int) then (if 0 ≤ (wrap64 (x4 - 1)) then (if (wrap64 (x4 - 1)) < (x311001.length : Int) then ((filigreeref04_below.f ((rd_T43 x311001 x4).f0) ((rd_T43 x311001 x4).f1) ((rd_T43 x311001 x4).f2) ((rd_T43 x311001 (wrap64 (x4 - 1))).f0) ((rd_T43 x311001 (wrap64 (x4 - 1))).f1) ((rd_T43 x311001 (wrap64 (x4 - 1))).f2)).bind fun t321 => (if t321 = true then (some 1) else (some 7))) else (none)) else (none)) else (none)) else (none)) else (filigreeref04_Right.l0 k (wrap64 (x4 + 1)) x311000 x311001)
end
def filigreeref04_Right.f (k : Nat) (a0_0 : Int) (l0_1 : List (S43)) : Option (Int) := (filigreeref04_many.f a0_0 (l0_1.length : Int)).bind fun t311 => (if t311 = 0 then (filigreeref04_Right.l0 k 0 a0_0 l0_1) else (some t311))
def filigreeref04_Right.T7 : Bool × List (List Nat × List Nat) := (true, [([], []), ([0], [0]), ([], []), ([2], [2]), ([], []), ([3, 4], [3, 4]), ([5], [5]), ([1, 6], [1, 6]), ([7, 7, 0, 1, 2, 3, 4, 5, 6, 7], [7])])
def filigreeref04_Right.B7 : List Nat := [0, 1, 0, 4, 0, 28, 60, 127, 255]
theorem filigreeref04_Right.tab7 : rtab .any (opsOf Try.f10 7) = filigreeref04_Right.T7 := by kernel_rfl
theorem filigreeref04_Right.bits7 : waitsOk filigreeref04_Right.T7.2 filigreeref04_Right.B7 = true := by kernel_rfl
def filigreeref04_Right.T10 : Bool × List (List Nat × List Nat) := (true, [([], []), ([0], [0]), ([], []), ([1, 2], [1, 2]), ([3], [3]), ([4], [4]), ([], []), ([6], [6]), ([], []), ([7, 8], [7, 8]), ([9], [9]), ([10], [10]), ([5, 11], [5, 11])])
def filigreeref04_Right.B10 : List Nat := [0, 1, 0, 7, 15, 31, 0, 64, 0, 448, 960, 1984, 4095]
theorem filigreeref04_Right.tab10 : rtab .any (opsOf Try.f10 10) = filigreeref04_Right.T10 := by kernel_rfl
theorem filigreeref04_Right.bits10 : waitsOk filigreeref04_Right.T10.2 filigreeref04_Right.B10 = true := by kernel_rfl
def filigreeref04_Right.T12 : Bool × List (List Nat × List Nat) := (true, [([], []), ([0], [0]), ([1], [1]), ([2], [2]), ([3, 2], [2, 3]), ([2], [2]), ([5, 2], [2, 5]), ([4, 6, 2], [2, 4, 6]), ([7, 2], [2, 7]), ([2], [2]), ([9, 2], [2, 9]), ([2], [2]), ([10, 11, 2], [2, 10, 11]), ([12, 2], [2, 12]), ([8, 13, 2, 2], [2, 8, 13]), ([14, 2], [2, 14]), ([2, 15], [2, 15])])
def filigreeref04_Right.B12 : List Nat := [0, 1, 3, 7, 15, 7, 39, 127, 255, 7, 519, 7, 3591, 7687, 16383, 32767, 65535]
theorem filigreeref04_Right.tab12 : rtab .any (opsOf Try.f10 12) = filigreeref04_Right.T12 := by kernel_rfl
theorem filigreeref04_Right.bits12 : waitsOk filigreeref04_Right.T12.2 filigreeref04_Right.B12 = true := by kernel_rfl
def filigreeref04_Right.T13 : Bool × List (List Nat × List Nat) := (true, [([], []), ([0], [0]), ([], []), ([1, 2], [1, 2]), ([3], [3]), ([], []), ([5], [5]), ([], []), ([7], [7]), ([6, 8], [6, 8]), ([9], [9]), ([4, 10], [4, 10])])
def filigreeref04_Right.B13 : List Nat := [0, 1, 0, 7, 15, 0, 32, 0, 128, 480, 992, 2047]
theorem filigreeref04_Right.tab13 : rtab .any (opsOf Try.f10 13) = filigreeref04_Right.T13 := by kernel_rfl
theorem filigreeref04_Right.bits13 : waitsOk filigreeref04_Right.T13.2 filigreeref04_Right.B13 = true := by kernel_rfl
theorem filigreeref04_Right.calls (k : Nat) (a0_0 : Int) (A0_1 : Option Addr) (c0_1 : Nat) (l0_1 : List (S43)) (r : Int) (w : World) (hr0_1 : Kd.C k43 w A0_1 l0_1.length l0_1) (hc0_1 : l0_1.length ≤ c0_1) (h : filigreeref04_Right.f k a0_0 l0_1 = some r) :
    Calls Try.prog 10 #[.agg #[.int .i64 a0_0, .slice A0_1 l0_1.length c0_1]] w fun e w' => e = .returned (.int .i64 r) ∧ Below w.heap.size w w' := by
  have hu24 := Try.underlying24
  have hu43 := Try.underlying43
  have HR0_1 := zMk hr0_1
  have HC0_1 := zMk hc0_1
  clear hr0_1 hc0_1
  have HB := zMk (Below.refl w.heap.size w)
  have H : ((filigreeref04_many.f a0_0 (l0_1.length : Int)).bind fun t311 => (if t311 = 0 then (filigreeref04_Right.l0 k 0 a0_0 l0_1) else (some t311))) = some r := h
  clear h
  replace H := bnd H
  obtain ⟨t311, A20, H⟩ := H
  have A2 := zMk A20
  clear A20
  by_cases c3 : t311 = 0
  · rw [if_pos c3] at H
    have c3b0 : (t311 == 0) = true := beq_iff_eq.mpr c3
    have c3b1 : (t311 != 0) = false := bne_eq_false_iff_eq.mpr c3
    clear c3
    have H' := zMk H
    clear H
    go_enter Try.func10, Try.ntmps10
    go_wp2_with (first | ((with_reducible refine gate_dst (N := 1) rfl ?_); refine box_event ?hg (N := 1) ?hd (cs := #[.int .i64 a0_0, .slice A0_1 l0_1.length c0_1]) (t := 24) ?hr ?_; (case hd => rfl); (case hg => rfl); (case hr => first | (go_simp; done)|(go_simp; rfl)|(go_simp; rw [show ∀ x : Int, IntKind.u32.wrap (IntKind.u8.wrap x) = x % 256 from fun x => (by show (x % 256) % 4294967296 = x % 256; omega)])); intro gb310 hg w4 hbox hb; have BK310 := zMk (hbox); have GW310 := zMk ((by rw [hg]; exact (zBs (by exact uT HB.out)) : w.heap.size ≤ gb310)); have GE310 := zMk ((by rw [hg]; exact (zBs (by exact uT HB.out)) : w.heap.size ≤ gb310)); have IGE310 := ownGe GE310.out; replace HB := zMk (zBt (by exact uT HB.out) hb); clear hb hbox hg; have hcz5_0 : w4.cell? ⟨gb310, 0, none⟩ = some (.int .i64 a0_0) := (zKc BK310.out 0).trans rfl; have hcz5_1 : w4.cell? ⟨gb310, 1, none⟩ = some (.slice A0_1 l0_1.length c0_1) := (zKc BK310.out 1).trans rfl; have hfz5_0 := zKf BK310.out 0; have hfz5_1 := zKf BK310.out 1)|((with_reducible refine gate_callee (f := 24) rfl ?_); refine goesL_ (some 11) rfl rfl Try.func24 (by kernel_rfl) rfl #[.int .i64 a0_0, .int .i64 (l0_1.length : Int)] rfl (by (try simp only [zMa, zMc, zMn]); first |  done|  rfl|  (simp only [zLd, zLt]; rfl)) ?_; (with_reducible refine (filigreeref04_many.calls a0_0 (l0_1.length : Int) t311 _ A2.out).mono ?_); rintro e w' ⟨rfl, ⟨nd, rfl⟩⟩; refine ⟨_, rfl, ?_⟩))
    go_loopg [4] k (fun kq v4 w' => ∃ (x4_1 : Int), v4 = .int .i64 x4_1 ∧ Aside0 (filigreeref04_Right.l0 kq x4_1 a0_0 l0_1 = some r) ∧ Aside0 (kq ≤ k) ∧ Aside0 (w'.heap[gb310]? = some (.cells #[.int .i64 a0_0, (.slice A0_1 l0_1.length c0_1)] 24 (0, 0))) ∧ Aside0 (Below w.heap.size w w'))
    case atStart => exact ⟨(0), (by first | rfl | (simp; done) | (simp [*]; done)), H', ⟨Nat.le_refl _⟩, ⟨by (with_reducible repeat (first | refine zKn ?_ _ | refine zKd ?_ | refine zKa ?_ _)); exact BK310.out⟩, ⟨by exact uT HB.out⟩⟩
    clear H'
    obtain ⟨x4_1, rfl, HA, HK1, BK310, HB⟩ := hrel
    rcases gk with _ | k1
    · exact absurd HA.out (by simp [filigreeref04_Right.l0])
    have H := HA.out
    clear HA
    simp only [filigreeref04_Right.l0] at H
    by_cases c6 : x4_1 < (l0_1.length : Int)
    · rw [if_pos c6] at H
      have c6b0 : decide (x4_1 < (l0_1.length : Int)) = true := decide_eq_true c6
      clear c6
      by_cases c7 : 0 ≤ x4_1
      rotate_left
      · rw [if_neg c7] at H; exact absurd H (by simp)
      rw [if_pos c7] at H
      have c7b0 : decide (0 ≤ x4_1) = true := decide_eq_true c7
      clear c7
      replace H := bnd H
      obtain ⟨t313, A80, H⟩ := H
      have A8 := zMk A80
      clear A80
      by_cases c9 : t313 = 0
      · rw [if_pos c9] at H
        have c9b0 : (t313 == 0) = true := beq_iff_eq.mpr c9
        have c9b1 : (t313 != 0) = false := bne_eq_false_iff_eq.mpr c9
        clear c9
        by_cases c10 : ((rd_T43 l0_1 x4_1).f0) > ((rd_T43 l0_1 x4_1).f1)
        · rw [if_pos c10] at H
          have c10b0 : decide (((rd_T43 l0_1 x4_1).f1) < ((rd_T43 l0_1 x4_1).f0)) = true := decide_eq_true c10
          clear c10
          obtain rfl := zOi H
          have hcz11_0 : wr.cell? ⟨gb310, 0, none⟩ = some (.int .i64 a0_0) := (zKc BK310.out 0).trans rfl
          have hcz11_1 : wr.cell? ⟨gb310, 1, none⟩ = some (.slice A0_1 l0_1.length c0_1) := (zKc BK310.out 1).trans rfl
          have hfz11_0 := zKf BK310.out 0
          have hfz11_1 := zKf BK310.out 1
          try go_wp2
          replace BK310 := zMk (zKd BK310.out)
          replace HB := zMk (zBd HB.out)
          have p312 : 0 ≤ (x4_1 : Int) := of_decide_eq_true (by assumption)
          have q312 : x4_1 < (l0_1.length : Int) := of_decide_eq_true (by assumption)
          obtain ⟨ad312, e312, hx312_0, hx312_1, hx312_2⟩ := at_T43 HR0_1.out x4_1 p312 q312
          have hw312_2 := hx312_2
          have hw312_1 := hx312_1
          have hw312_0 := hx312_0
          cases e312
          replace hx312_0 := (HB.out.cell (World.block_lt_of_cell? w _ hx312_0)).trans hx312_0
          replace hx312_1 := (HB.out.cell (World.block_lt_of_cell? w _ hx312_1)).trans hx312_1
          replace hx312_2 := (HB.out.cell (World.block_lt_of_cell? w _ hx312_2)).trans hx312_2
          replace p312 := eq_true p312
          replace q312 := eq_true q312
          refine start_ (n := 9) (S := fun w' => w'.cell? ⟨gb310, 0, none⟩ = some (.int .i64 a0_0) ∧ w'.cell? ⟨gb310, 1, none⟩ = some (.slice (some ad312) l0_1.length c0_1) ∧ w'.cell? (ad312.add ((x4_1).toNat * 3)) = some (.int .i64 ((rd_T43 l0_1 x4_1).f0)) ∧ w'.cell? ⟨(ad312.add ((x4_1).toNat * 3)).block, (ad312.add ((x4_1).toNat * 3)).off + 1, none⟩ = some (.int .i64 ((rd_T43 l0_1 x4_1).f1)) ∧ w'.cell? ⟨(ad312.add ((x4_1).toNat * 3)).block, (ad312.add ((x4_1).toNat * 3)).off + 2, none⟩ = some (.int .i64 ((rd_T43 l0_1 x4_1).f2))) (ds := []) #[false, false, false, false, false, false, false, false, false] (by kernel_rfl) rfl rfl ⟨(zKc BK310.out 0).trans rfl, (zKc BK310.out 1).trans rfl, ((HB.out.cell (World.block_lt_of_cell? w _ hw312_0)).trans hw312_0), ((HB.out.cell (World.block_lt_of_cell? w _ hw312_1)).trans hw312_1), ((HB.out.cell (World.block_lt_of_cell? w _ hw312_2)).trans hw312_2)⟩ (fun hHeld => ?_); refine with_tabW filigreeref04_Right.tab7 filigreeref04_Right.bits7 (fun HT_ HW_ => ?_)
          generalize wr.drew = w12 at BK310 HB hx312_0 hx312_1 hx312_2 hHeld ⊢
          refine pure_ (i := 0) (N := some 22) (v := ?_) (a' := ?_) #[true, false, false, false, false, false, false, false, false] rfl rfl (any_of HT_.out (by kernel_rfl)) (fun _ _ _ h => h) (Or.inl ⟨by rfl, ?_⟩) ?_ ?_
          rotate_left
          · intro w'
            go_simp
            with_reducible rfl
          rotate_left
          · simp only [Act.put, zSa, zSb, zSc, i64_w, i32_w]
            rfl
          refine pure_ (i := 2) (N := some 24) (v := ?_) (a' := ?_) #[true, false, true, false, false, false, false, false, false] rfl rfl (any_of HT_.out (by kernel_rfl)) (fun _ _ _ h => h) (Or.inl ⟨by rfl, ?_⟩) ?_ ?_
          rotate_left
          · intro w'
            go_simp
            with_reducible rfl
          rotate_left
          · simp only [Act.put, zSa, zSb, zSc, i64_w, i32_w]
            rfl
          refine pure_ (i := 4) (N := some 26) (v := ?_) (a' := ?_) #[true, false, true, false, true, false, false, false, false] rfl rfl (any_of HT_.out (by kernel_rfl)) (fun _ _ _ h => h) (Or.inl ⟨by rfl, ?_⟩) ?_ ?_
          rotate_left
          · intro w'
            go_simp
            with_reducible rfl
          rotate_left
          · simp only [Act.put, zSa, zSb, zSc, i64_w, i32_w]
            rfl
          refine take_ (i := 1) (N := some 23) (v := ?_) (a' := ?_) #[true, true, true, false, true, false, false, false, false] rfl rfl (take_ofW HT_.out HW_.out (by kernel_rfl)) (fun _ _ _ h => h) (Or.inl ⟨by rfl, ?_⟩) hHeld ?_ ?_
          rotate_left
          · rintro w' ⟨s0, s1, s2, s3, s4⟩
            go_simp
            with_reducible rfl
          rotate_left
          · simp only [Act.put, zSa, zSb, zSc, i64_w, i32_w]
            rfl
          refine take_ (i := 3) (N := some 25) (v := ?_) (a' := ?_) #[true, true, true, true, true, false, false, false, false] rfl rfl (take_ofW HT_.out HW_.out (by kernel_rfl)) (fun _ _ _ h => h) (Or.inl ⟨by rfl, ?_⟩) hHeld ?_ ?_
          rotate_left
          · rintro w' ⟨s0, s1, s2, s3, s4⟩
            go_simp
            with_reducible rfl
          rotate_left
          · simp only [Act.put, zSa, zSb, zSc, i64_w, i32_w]
            rfl
          refine pure_ (i := 5) (N := some 27) (v := ?_) (a' := ?_) #[true, true, true, true, true, true, false, false, false] rfl rfl (any_of HT_.out (by kernel_rfl)) (fun _ _ _ h => h) (Or.inl ⟨by rfl, ?_⟩) ?_ ?_
          rotate_left
          · intro w'
            go_simp
            with_reducible rfl
          rotate_left
          · simp only [Act.put, zSa, zSb, zSc, i64_w, i32_w]
            rfl
          refine take_ (i := 6) (N := some 28) (v := ?_) (a' := ?_) #[true, true, true, true, true, true, true, false, false] rfl rfl (take_ofW HT_.out HW_.out (by kernel_rfl)) (fun _ _ _ h => h) (Or.inl ⟨by rfl, ?_⟩) hHeld ?_ ?_
          rotate_left
          · rintro w' ⟨s0, s1, s2, s3, s4⟩
            go_simp
            with_reducible rfl
          rotate_left
          · simp only [Act.put, zSa, zSb, zSc, i64_w, i32_w]
            rfl
          refine one_ (i := 7) (N := some 29) #[true, true, true, true, true, true, true, true, false] rfl rfl (one_of HT_.out (by kernel_rfl)) (by decide) (fun K hK => ?_)
          refine goes_ Try.func25 (by kernel_rfl) rfl #[.int .i64 a0_0, .agg #[.int .i64 ((rd_T43 l0_1 x4_1).f0), .int .i64 ((rd_T43 l0_1 x4_1).f1), .int .i64 ((rd_T43 l0_1 x4_1).f2)]] (by rfl) rfl rfl (by (try simp only [zMa, zMc, zMn]); first | done | rfl | (simp only [zLd, zLt]; rfl)) ?_
          with_reducible refine (filigreeref04_edge.calls k1 a0_0 ((rd_T43 l0_1 x4_1).f0) ((rd_T43 l0_1 x4_1).f1) ((rd_T43 l0_1 x4_1).f2) t313 _ A8.out).mono ?_
          rintro e w13 ⟨rfl, hb⟩
          refine ⟨_, rfl, ?_⟩
          replace BK310 := zMk (zKb (g := gb310) (o := .cells #[.int .i64 a0_0, .slice (some ad312) l0_1.length c0_1] 24 (0, 0)) (by (with_reducible repeat (first | refine zKn ?_ _ | refine zKd ?_ | refine zKa ?_ _)); exact BK310.out) hb)
          replace HB := zMk (zBt (by exact uT HB.out) hb)
          refine hK.out _ _ ⟨(zKc BK310.out 0).trans rfl, (zKc BK310.out 1).trans rfl, ((HB.out.cell (World.block_lt_of_cell? w _ hw312_0)).trans hw312_0), ((HB.out.cell (World.block_lt_of_cell? w _ hw312_1)).trans hw312_1), ((HB.out.cell (World.block_lt_of_cell? w _ hw312_2)).trans hw312_2)⟩ (fun hHeld => ?_)
          clear hK K
          refine norm_ (a' := ?_) ?_ ?_
          rotate_left
          · show Act.put _ (some 29) _ = _
            simp only [Act.put, zSa, zSb, zSc, i64_w, i32_w]
            rfl
          refine pure_ (i := 8) (N := some 5) (v := ?_) (a' := ?_) #[true, true, true, true, true, true, true, true, true] rfl rfl (any_of HT_.out (by kernel_rfl)) (fun _ _ _ h => h) (Or.inl ⟨by rfl, ?_⟩) ?_ ?_
          rotate_left
          · intro w'
            go_simp
            with_reducible rfl
          rotate_left
          · simp only [Act.put, zSa, zSb, zSc, i64_w, i32_w]
            rfl
          refine done_ (done_of HT_.out (by kernel_rfl)) ?_
          try go_wp2
          replace BK310 := zMk (zKd BK310.out)
          replace HB := zMk (zBd HB.out)
          have p314 : 0 ≤ (x4_1 : Int) := of_decide_eq_true (by assumption)
          have q314 : x4_1 < (l0_1.length : Int) := of_decide_eq_true (by assumption)
          obtain ⟨ad314, e314, hx314_0, hx314_1, hx314_2⟩ := at_T43 HR0_1.out x4_1 p314 q314
          have hw314_2 := hx314_2
          have hw314_1 := hx314_1
          have hw314_0 := hx314_0
          obtain rfl : ad312 = ad314 := (by injection e314)
          replace hx314_0 := (HB.out.cell (World.block_lt_of_cell? w _ hx314_0)).trans hx314_0
          replace hx314_1 := (HB.out.cell (World.block_lt_of_cell? w _ hx314_1)).trans hx314_1
          replace hx314_2 := (HB.out.cell (World.block_lt_of_cell? w _ hx314_2)).trans hx314_2
          replace p314 := eq_true p314
          replace q314 := eq_true q314
          have p315 : 0 ≤ (x4_1 : Int) := of_decide_eq_true (by assumption)
          have q315 : x4_1 < (l0_1.length : Int) := of_decide_eq_true (by assumption)
          obtain ⟨ad315, e315, hx315_0, hx315_1, hx315_2⟩ := at_T43 HR0_1.out x4_1 p315 q315
          have hw315_2 := hx315_2
          have hw315_1 := hx315_1
          have hw315_0 := hx315_0
          obtain rfl : ad312 = ad315 := (by injection e315)
          replace hx315_0 := (HB.out.cell (World.block_lt_of_cell? w _ hx315_0)).trans hx315_0
          replace hx315_1 := (HB.out.cell (World.block_lt_of_cell? w _ hx315_1)).trans hx315_1
          replace hx315_2 := (HB.out.cell (World.block_lt_of_cell? w _ hx315_2)).trans hx315_2
          replace p315 := eq_true p315
          replace q315 := eq_true q315
          refine start_ (n := 13) (S := fun w' => w'.cell? ⟨gb310, 0, none⟩ = some (.int .i64 a0_0) ∧ w'.cell? ⟨gb310, 1, none⟩ = some (.slice (some ad312) l0_1.length c0_1) ∧ w'.cell? (ad312.add ((x4_1).toNat * 3)) = some (.int .i64 ((rd_T43 l0_1 x4_1).f0)) ∧ w'.cell? ⟨(ad312.add ((x4_1).toNat * 3)).block, (ad312.add ((x4_1).toNat * 3)).off + 1, none⟩ = some (.int .i64 ((rd_T43 l0_1 x4_1).f1)) ∧ w'.cell? ⟨(ad312.add ((x4_1).toNat * 3)).block, (ad312.add ((x4_1).toNat * 3)).off + 2, none⟩ = some (.int .i64 ((rd_T43 l0_1 x4_1).f2)) ∧ w'.cell? (ad312.add ((x4_1).toNat * 3)) = some (.int .i64 ((rd_T43 l0_1 x4_1).f0)) ∧ w'.cell? ⟨(ad312.add ((x4_1).toNat * 3)).block, (ad312.add ((x4_1).toNat * 3)).off + 1, none⟩ = some (.int .i64 ((rd_T43 l0_1 x4_1).f1)) ∧ w'.cell? ⟨(ad312.add ((x4_1).toNat * 3)).block, (ad312.add ((x4_1).toNat * 3)).off + 2, none⟩ = some (.int .i64 ((rd_T43 l0_1 x4_1).f2))) (ds := []) #[false, false, false, false, false, false, false, false, false, false, false, false, false] (by kernel_rfl) rfl rfl ⟨(zKc BK310.out 0).trans rfl, (zKc BK310.out 1).trans rfl, ((HB.out.cell (World.block_lt_of_cell? w _ hw314_0)).trans hw314_0), ((HB.out.cell (World.block_lt_of_cell? w _ hw314_1)).trans hw314_1), ((HB.out.cell (World.block_lt_of_cell? w _ hw314_2)).trans hw314_2), ((HB.out.cell (World.block_lt_of_cell? w _ hw315_0)).trans hw315_0), ((HB.out.cell (World.block_lt_of_cell? w _ hw315_1)).trans hw315_1), ((HB.out.cell (World.block_lt_of_cell? w _ hw315_2)).trans hw315_2)⟩ (fun hHeld => ?_); refine with_tabW filigreeref04_Right.tab10 filigreeref04_Right.bits10 (fun HT_ HW_ => ?_)
          generalize w13.drew = w14 at BK310 HB hx314_0 hx314_1 hx314_2 hx315_0 hx315_1 hx315_2 hHeld ⊢
          refine pure_ (i := 0) (N := some 33) (v := ?_) (a' := ?_) #[true, false, false, false, false, false, false, false, false, false, false, false, false] rfl rfl (any_of HT_.out (by kernel_rfl)) (fun _ _ _ h => h) (Or.inl ⟨by rfl, ?_⟩) ?_ ?_
          rotate_left
          · intro w'
            go_simp
            with_reducible rfl
          rotate_left
          · simp only [Act.put, zSa, zSb, zSc, i64_w, i32_w]
            rfl
          refine pure_ (i := 2) (N := some 35) (v := ?_) (a' := ?_) #[true, false, true, false, false, false, false, false, false, false, false, false, false] rfl rfl (any_of HT_.out (by kernel_rfl)) (fun _ _ _ h => h) (Or.inl ⟨by rfl, ?_⟩) ?_ ?_
          rotate_left
          · intro w'
            go_simp
            with_reducible rfl
          rotate_left
          · simp only [Act.put, zSa, zSb, zSc, i64_w, i32_w]
            rfl
          refine pure_ (i := 6) (N := some 39) (v := ?_) (a' := ?_) #[true, false, true, false, false, false, true, false, false, false, false, false, false] rfl rfl (any_of HT_.out (by kernel_rfl)) (fun _ _ _ h => h) (Or.inl ⟨by rfl, ?_⟩) ?_ ?_
          rotate_left
          · intro w'
            go_simp
            with_reducible rfl
          rotate_left
          · simp only [Act.put, zSa, zSb, zSc, i64_w, i32_w]
            rfl
          refine pure_ (i := 8) (N := some 41) (v := ?_) (a' := ?_) #[true, false, true, false, false, false, true, false, true, false, false, false, false] rfl rfl (any_of HT_.out (by kernel_rfl)) (fun _ _ _ h => h) (Or.inl ⟨by rfl, ?_⟩) ?_ ?_
          rotate_left
          · intro w'
            go_simp
            with_reducible rfl
          rotate_left
          · simp only [Act.put, zSa, zSb, zSc, i64_w, i32_w]
            rfl
          refine take_ (i := 1) (N := some 34) (v := ?_) (a' := ?_) #[true, true, true, false, false, false, true, false, true, false, false, false, false] rfl rfl (take_ofW HT_.out HW_.out (by kernel_rfl)) (fun _ _ _ h => h) (Or.inl ⟨by rfl, ?_⟩) hHeld ?_ ?_
          rotate_left
          · rintro w' ⟨s0, s1, s2, s3, s4, s5, s6, s7⟩
            go_simp
            with_reducible rfl
          rotate_left
          · simp only [Act.put, zSa, zSb, zSc, i64_w, i32_w]
            rfl
          refine pure_ (i := 3) (N := some 36) (v := ?_) (a' := ?_) #[true, true, true, true, false, false, true, false, true, false, false, false, false] rfl rfl (any_of HT_.out (by kernel_rfl)) (fun _ _ _ h => h) (Or.inl ⟨by rfl, ?_⟩) ?_ ?_
          rotate_left
          · intro w'
            go_simp
            with_reducible rfl
          rotate_left
          · simp only [Act.put, zSa, zSb, zSc, i64_w, i32_w]
            rfl
          refine pure_ (i := 4) (N := some 37) (v := ?_) (a' := ?_) #[true, true, true, true, true, false, true, false, true, false, false, false, false] rfl rfl (any_of HT_.out (by kernel_rfl)) (fun _ _ _ h => h) (Or.inl ⟨by rfl, ?_⟩) ?_ ?_
          rotate_left
          · intro w'
            go_simp
            with_reducible rfl
          rotate_left
          · simp only [Act.put, zSa, zSb, zSc, i64_w, i32_w]
            rfl
          refine take_ (i := 5) (N := some 38) (v := ?_) (a' := ?_) #[true, true, true, true, true, true, true, false, true, false, false, false, false] rfl rfl (take_ofW HT_.out HW_.out (by kernel_rfl)) (fun _ _ _ h => h) (Or.inl ⟨by rfl, ?_⟩) hHeld ?_ ?_
          rotate_left
          · rintro w' ⟨s0, s1, s2, s3, s4, s5, s6, s7⟩
            go_simp
            with_reducible rfl
          rotate_left
          · simp only [Act.put, zSa, zSb, zSc, i64_w, i32_w]
            rfl
          refine take_ (i := 7) (N := some 40) (v := ?_) (a' := ?_) #[true, true, true, true, true, true, true, true, true, false, false, false, false] rfl rfl (take_ofW HT_.out HW_.out (by kernel_rfl)) (fun _ _ _ h => h) (Or.inl ⟨by rfl, ?_⟩) hHeld ?_ ?_
          rotate_left
          · rintro w' ⟨s0, s1, s2, s3, s4, s5, s6, s7⟩
            go_simp
            with_reducible rfl
          rotate_left
          · simp only [Act.put, zSa, zSb, zSc, i64_w, i32_w]
            rfl
          refine pure_ (i := 9) (N := some 42) (v := ?_) (a' := ?_) #[true, true, true, true, true, true, true, true, true, true, false, false, false] rfl rfl (any_of HT_.out (by kernel_rfl)) (fun _ _ _ h => h) (Or.inl ⟨by rfl, ?_⟩) ?_ ?_
          rotate_left
          · intro w'
            go_simp
            with_reducible rfl
          rotate_left
          · simp only [Act.put, zSa, zSb, zSc, i64_w, i32_w]
            rfl
          refine pure_ (i := 10) (N := some 43) (v := ?_) (a' := ?_) #[true, true, true, true, true, true, true, true, true, true, true, false, false] rfl rfl (any_of HT_.out (by kernel_rfl)) (fun _ _ _ h => h) (Or.inl ⟨by rfl, ?_⟩) ?_ ?_
          rotate_left
          · intro w'
            go_simp
            with_reducible rfl
          rotate_left
          · simp only [Act.put, zSa, zSb, zSc, i64_w, i32_w]
            rfl
          refine take_ (i := 11) (N := some 44) (v := ?_) (a' := ?_) #[true, true, true, true, true, true, true, true, true, true, true, true, false] rfl rfl (take_ofW HT_.out HW_.out (by kernel_rfl)) (fun _ _ _ h => h) (Or.inl ⟨by rfl, ?_⟩) hHeld ?_ ?_
          rotate_left
          · rintro w' ⟨s0, s1, s2, s3, s4, s5, s6, s7⟩
            go_simp
            with_reducible rfl
          rotate_left
          · simp only [Act.put, zSa, zSb, zSc, i64_w, i32_w]
            rfl
          refine pure_ (i := 12) (N := some 45) (v := ?_) (a' := ?_) #[true, true, true, true, true, true, true, true, true, true, true, true, true] rfl rfl (any_of HT_.out (by kernel_rfl)) (fun _ _ _ h => h) (Or.inl ⟨by rfl, ?_⟩) ?_ ?_
          rotate_left
          · intro w'
            go_simp
            with_reducible rfl
          rotate_left
          · simp only [Act.put, zSa, zSb, zSc, i64_w, i32_w]
            rfl
          refine done_ (done_of HT_.out (by kernel_rfl)) ?_
          try go_wp2
          go_ret
          exact ⟨by first | rfl | (simp [errW_none, errW_some] <;> rfl) | (simp [*, errW_none, errW_some] <;> rfl), by exact uT HB.out⟩
        · rw [if_neg c10] at H
          have c10b0 : decide (((rd_T43 l0_1 x4_1).f1) < ((rd_T43 l0_1 x4_1).f0)) = false := decide_eq_false c10
          clear c10
          have HC15 := zMk H
          clear H
          have hcz16_0 : wr.cell? ⟨gb310, 0, none⟩ = some (.int .i64 a0_0) := (zKc BK310.out 0).trans rfl
          have hcz16_1 : wr.cell? ⟨gb310, 1, none⟩ = some (.slice A0_1 l0_1.length c0_1) := (zKc BK310.out 1).trans rfl
          have hfz16_0 := zKf BK310.out 0
          have hfz16_1 := zKf BK310.out 1
          try go_wp2
          replace BK310 := zMk (zKd BK310.out)
          replace HB := zMk (zBd HB.out)
          have p312 : 0 ≤ (x4_1 : Int) := of_decide_eq_true (by assumption)
          have q312 : x4_1 < (l0_1.length : Int) := of_decide_eq_true (by assumption)
          obtain ⟨ad312, e312, hx312_0, hx312_1, hx312_2⟩ := at_T43 HR0_1.out x4_1 p312 q312
          have hw312_2 := hx312_2
          have hw312_1 := hx312_1
          have hw312_0 := hx312_0
          cases e312
          replace hx312_0 := (HB.out.cell (World.block_lt_of_cell? w _ hx312_0)).trans hx312_0
          replace hx312_1 := (HB.out.cell (World.block_lt_of_cell? w _ hx312_1)).trans hx312_1
          replace hx312_2 := (HB.out.cell (World.block_lt_of_cell? w _ hx312_2)).trans hx312_2
          replace p312 := eq_true p312
          replace q312 := eq_true q312
          refine start_ (n := 9) (S := fun w' => w'.cell? ⟨gb310, 0, none⟩ = some (.int .i64 a0_0) ∧ w'.cell? ⟨gb310, 1, none⟩ = some (.slice (some ad312) l0_1.length c0_1) ∧ w'.cell? (ad312.add ((x4_1).toNat * 3)) = some (.int .i64 ((rd_T43 l0_1 x4_1).f0)) ∧ w'.cell? ⟨(ad312.add ((x4_1).toNat * 3)).block, (ad312.add ((x4_1).toNat * 3)).off + 1, none⟩ = some (.int .i64 ((rd_T43 l0_1 x4_1).f1)) ∧ w'.cell? ⟨(ad312.add ((x4_1).toNat * 3)).block, (ad312.add ((x4_1).toNat * 3)).off + 2, none⟩ = some (.int .i64 ((rd_T43 l0_1 x4_1).f2))) (ds := []) #[false, false, false, false, false, false, false, false, false] (by kernel_rfl) rfl rfl ⟨(zKc BK310.out 0).trans rfl, (zKc BK310.out 1).trans rfl, ((HB.out.cell (World.block_lt_of_cell? w _ hw312_0)).trans hw312_0), ((HB.out.cell (World.block_lt_of_cell? w _ hw312_1)).trans hw312_1), ((HB.out.cell (World.block_lt_of_cell? w _ hw312_2)).trans hw312_2)⟩ (fun hHeld => ?_); refine with_tabW filigreeref04_Right.tab7 filigreeref04_Right.bits7 (fun HT_ HW_ => ?_)
          generalize wr.drew = w17 at BK310 HB hx312_0 hx312_1 hx312_2 hHeld ⊢
          refine pure_ (i := 0) (N := some 22) (v := ?_) (a' := ?_) #[true, false, false, false, false, false, false, false, false] rfl rfl (any_of HT_.out (by kernel_rfl)) (fun _ _ _ h => h) (Or.inl ⟨by rfl, ?_⟩) ?_ ?_
          rotate_left
          · intro w'
            go_simp
            with_reducible rfl
          rotate_left
          · simp only [Act.put, zSa, zSb, zSc, i64_w, i32_w]
            rfl
          refine pure_ (i := 2) (N := some 24) (v := ?_) (a' := ?_) #[true, false, true, false, false, false, false, false, false] rfl rfl (any_of HT_.out (by kernel_rfl)) (fun _ _ _ h => h) (Or.inl ⟨by rfl, ?_⟩) ?_ ?_
          rotate_left
          · intro w'
            go_simp
            with_reducible rfl
          rotate_left
          · simp only [Act.put, zSa, zSb, zSc, i64_w, i32_w]
            rfl
          refine pure_ (i := 4) (N := some 26) (v := ?_) (a' := ?_) #[true, false, true, false, true, false, false, false, false] rfl rfl (any_of HT_.out (by kernel_rfl)) (fun _ _ _ h => h) (Or.inl ⟨by rfl, ?_⟩) ?_ ?_
          rotate_left
          · intro w'
            go_simp
            with_reducible rfl
          rotate_left
          · simp only [Act.put, zSa, zSb, zSc, i64_w, i32_w]
            rfl
          refine take_ (i := 1) (N := some 23) (v := ?_) (a' := ?_) #[true, true, true, false, true, false, false, false, false] rfl rfl (take_ofW HT_.out HW_.out (by kernel_rfl)) (fun _ _ _ h => h) (Or.inl ⟨by rfl, ?_⟩) hHeld ?_ ?_
          rotate_left
          · rintro w' ⟨s0, s1, s2, s3, s4⟩
            go_simp
            with_reducible rfl
          rotate_left
          · simp only [Act.put, zSa, zSb, zSc, i64_w, i32_w]
            rfl
          refine take_ (i := 3) (N := some 25) (v := ?_) (a' := ?_) #[true, true, true, true, true, false, false, false, false] rfl rfl (take_ofW HT_.out HW_.out (by kernel_rfl)) (fun _ _ _ h => h) (Or.inl ⟨by rfl, ?_⟩) hHeld ?_ ?_
          rotate_left
          · rintro w' ⟨s0, s1, s2, s3, s4⟩
            go_simp
            with_reducible rfl
          rotate_left
          · simp only [Act.put, zSa, zSb, zSc, i64_w, i32_w]
            rfl
          refine pure_ (i := 5) (N := some 27) (v := ?_) (a' := ?_) #[true, true, true, true, true, true, false, false, false] rfl rfl (any_of HT_.out (by kernel_rfl)) (fun _ _ _ h => h) (Or.inl ⟨by rfl, ?_⟩) ?_ ?_
          rotate_left
          · intro w'
            go_simp
            with_reducible rfl
          rotate_left
          · simp only [Act.put, zSa, zSb, zSc, i64_w, i32_w]
            rfl
          refine take_ (i := 6) (N := some 28) (v := ?_) (a' := ?_) #[true, true, true, true, true, true, true, false, false] rfl rfl (take_ofW HT_.out HW_.out (by kernel_rfl)) (fun _ _ _ h => h) (Or.inl ⟨by rfl, ?_⟩) hHeld ?_ ?_
          rotate_left
          · rintro w' ⟨s0, s1, s2, s3, s4⟩
            go_simp
            with_reducible rfl
          rotate_left
          · simp only [Act.put, zSa, zSb, zSc, i64_w, i32_w]
            rfl
          refine one_ (i := 7) (N := some 29) #[true, true, true, true, true, true, true, true, false] rfl rfl (one_of HT_.out (by kernel_rfl)) (by decide) (fun K hK => ?_)
          refine goes_ Try.func25 (by kernel_rfl) rfl #[.int .i64 a0_0, .agg #[.int .i64 ((rd_T43 l0_1 x4_1).f0), .int .i64 ((rd_T43 l0_1 x4_1).f1), .int .i64 ((rd_T43 l0_1 x4_1).f2)]] (by rfl) rfl rfl (by (try simp only [zMa, zMc, zMn]); first | done | rfl | (simp only [zLd, zLt]; rfl)) ?_
          with_reducible refine (filigreeref04_edge.calls k1 a0_0 ((rd_T43 l0_1 x4_1).f0) ((rd_T43 l0_1 x4_1).f1) ((rd_T43 l0_1 x4_1).f2) t313 _ A8.out).mono ?_
          rintro e w18 ⟨rfl, hb⟩
          refine ⟨_, rfl, ?_⟩
          replace BK310 := zMk (zKb (g := gb310) (o := .cells #[.int .i64 a0_0, .slice (some ad312) l0_1.length c0_1] 24 (0, 0)) (by (with_reducible repeat (first | refine zKn ?_ _ | refine zKd ?_ | refine zKa ?_ _)); exact BK310.out) hb)
          replace HB := zMk (zBt (by exact uT HB.out) hb)
          refine hK.out _ _ ⟨(zKc BK310.out 0).trans rfl, (zKc BK310.out 1).trans rfl, ((HB.out.cell (World.block_lt_of_cell? w _ hw312_0)).trans hw312_0), ((HB.out.cell (World.block_lt_of_cell? w _ hw312_1)).trans hw312_1), ((HB.out.cell (World.block_lt_of_cell? w _ hw312_2)).trans hw312_2)⟩ (fun hHeld => ?_)
          clear hK K
          refine norm_ (a' := ?_) ?_ ?_
          rotate_left
          · show Act.put _ (some 29) _ = _
            simp only [Act.put, zSa, zSb, zSc, i64_w, i32_w]
            rfl
          refine pure_ (i := 8) (N := some 5) (v := ?_) (a' := ?_) #[true, true, true, true, true, true, true, true, true] rfl rfl (any_of HT_.out (by kernel_rfl)) (fun _ _ _ h => h) (Or.inl ⟨by rfl, ?_⟩) ?_ ?_
          rotate_left
          · intro w'
            go_simp
            with_reducible rfl
          rotate_left
          · simp only [Act.put, zSa, zSb, zSc, i64_w, i32_w]
            rfl
          refine done_ (done_of HT_.out (by kernel_rfl)) ?_
          try go_wp2
          replace BK310 := zMk (zKd BK310.out)
          replace HB := zMk (zBd HB.out)
          have p314 : 0 ≤ (x4_1 : Int) := of_decide_eq_true (by assumption)
          have q314 : x4_1 < (l0_1.length : Int) := of_decide_eq_true (by assumption)
          obtain ⟨ad314, e314, hx314_0, hx314_1, hx314_2⟩ := at_T43 HR0_1.out x4_1 p314 q314
          have hw314_2 := hx314_2
          have hw314_1 := hx314_1
          have hw314_0 := hx314_0
          obtain rfl : ad312 = ad314 := (by injection e314)
          replace hx314_0 := (HB.out.cell (World.block_lt_of_cell? w _ hx314_0)).trans hx314_0
          replace hx314_1 := (HB.out.cell (World.block_lt_of_cell? w _ hx314_1)).trans hx314_1
          replace hx314_2 := (HB.out.cell (World.block_lt_of_cell? w _ hx314_2)).trans hx314_2
          replace p314 := eq_true p314
          replace q314 := eq_true q314
          have p315 : 0 ≤ (x4_1 : Int) := of_decide_eq_true (by assumption)
          have q315 : x4_1 < (l0_1.length : Int) := of_decide_eq_true (by assumption)
          obtain ⟨ad315, e315, hx315_0, hx315_1, hx315_2⟩ := at_T43 HR0_1.out x4_1 p315 q315
          have hw315_2 := hx315_2
          have hw315_1 := hx315_1
          have hw315_0 := hx315_0
          obtain rfl : ad312 = ad315 := (by injection e315)
          replace hx315_0 := (HB.out.cell (World.block_lt_of_cell? w _ hx315_0)).trans hx315_0
          replace hx315_1 := (HB.out.cell (World.block_lt_of_cell? w _ hx315_1)).trans hx315_1
          replace hx315_2 := (HB.out.cell (World.block_lt_of_cell? w _ hx315_2)).trans hx315_2
          replace p315 := eq_true p315
          replace q315 := eq_true q315
          refine start_ (n := 13) (S := fun w' => w'.cell? ⟨gb310, 0, none⟩ = some (.int .i64 a0_0) ∧ w'.cell? ⟨gb310, 1, none⟩ = some (.slice (some ad312) l0_1.length c0_1) ∧ w'.cell? (ad312.add ((x4_1).toNat * 3)) = some (.int .i64 ((rd_T43 l0_1 x4_1).f0)) ∧ w'.cell? ⟨(ad312.add ((x4_1).toNat * 3)).block, (ad312.add ((x4_1).toNat * 3)).off + 1, none⟩ = some (.int .i64 ((rd_T43 l0_1 x4_1).f1)) ∧ w'.cell? ⟨(ad312.add ((x4_1).toNat * 3)).block, (ad312.add ((x4_1).toNat * 3)).off + 2, none⟩ = some (.int .i64 ((rd_T43 l0_1 x4_1).f2)) ∧ w'.cell? (ad312.add ((x4_1).toNat * 3)) = some (.int .i64 ((rd_T43 l0_1 x4_1).f0)) ∧ w'.cell? ⟨(ad312.add ((x4_1).toNat * 3)).block, (ad312.add ((x4_1).toNat * 3)).off + 1, none⟩ = some (.int .i64 ((rd_T43 l0_1 x4_1).f1)) ∧ w'.cell? ⟨(ad312.add ((x4_1).toNat * 3)).block, (ad312.add ((x4_1).toNat * 3)).off + 2, none⟩ = some (.int .i64 ((rd_T43 l0_1 x4_1).f2))) (ds := []) #[false, false, false, false, false, false, false, false, false, false, false, false, false] (by kernel_rfl) rfl rfl ⟨(zKc BK310.out 0).trans rfl, (zKc BK310.out 1).trans rfl, ((HB.out.cell (World.block_lt_of_cell? w _ hw314_0)).trans hw314_0), ((HB.out.cell (World.block_lt_of_cell? w _ hw314_1)).trans hw314_1), ((HB.out.cell (World.block_lt_of_cell? w _ hw314_2)).trans hw314_2), ((HB.out.cell (World.block_lt_of_cell? w _ hw315_0)).trans hw315_0), ((HB.out.cell (World.block_lt_of_cell? w _ hw315_1)).trans hw315_1), ((HB.out.cell (World.block_lt_of_cell? w _ hw315_2)).trans hw315_2)⟩ (fun hHeld => ?_); refine with_tabW filigreeref04_Right.tab10 filigreeref04_Right.bits10 (fun HT_ HW_ => ?_)
          generalize w18.drew = w19 at BK310 HB hx314_0 hx314_1 hx314_2 hx315_0 hx315_1 hx315_2 hHeld ⊢
          refine pure_ (i := 0) (N := some 33) (v := ?_) (a' := ?_) #[true, false, false, false, false, false, false, false, false, false, false, false, false] rfl rfl (any_of HT_.out (by kernel_rfl)) (fun _ _ _ h => h) (Or.inl ⟨by rfl, ?_⟩) ?_ ?_
          rotate_left
          · intro w'
            go_simp
            with_reducible rfl
          rotate_left
          · simp only [Act.put, zSa, zSb, zSc, i64_w, i32_w]
            rfl
          refine pure_ (i := 2) (N := some 35) (v := ?_) (a' := ?_) #[true, false, true, false, false, false, false, false, false, false, false, false, false] rfl rfl (any_of HT_.out (by kernel_rfl)) (fun _ _ _ h => h) (Or.inl ⟨by rfl, ?_⟩) ?_ ?_
          rotate_left
          · intro w'
            go_simp
            with_reducible rfl
          rotate_left
          · simp only [Act.put, zSa, zSb, zSc, i64_w, i32_w]
            rfl
          refine pure_ (i := 6) (N := some 39) (v := ?_) (a' := ?_) #[true, false, true, false, false, false, true, false, false, false, false, false, false] rfl rfl (any_of HT_.out (by kernel_rfl)) (fun _ _ _ h => h) (Or.inl ⟨by rfl, ?_⟩) ?_ ?_
          rotate_left
          · intro w'
            go_simp
            with_reducible rfl
          rotate_left
          · simp only [Act.put, zSa, zSb, zSc, i64_w, i32_w]
            rfl
          refine pure_ (i := 8) (N := some 41) (v := ?_) (a' := ?_) #[true, false, true, false, false, false, true, false, true, false, false, false, false] rfl rfl (any_of HT_.out (by kernel_rfl)) (fun _ _ _ h => h) (Or.inl ⟨by rfl, ?_⟩) ?_ ?_
          rotate_left
          · intro w'
            go_simp
            with_reducible rfl
          rotate_left
          · simp only [Act.put, zSa, zSb, zSc, i64_w, i32_w]
            rfl
          refine take_ (i := 1) (N := some 34) (v := ?_) (a' := ?_) #[true, true, true, false, false, false, true, false, true, false, false, false, false] rfl rfl (take_ofW HT_.out HW_.out (by kernel_rfl)) (fun _ _ _ h => h) (Or.inl ⟨by rfl, ?_⟩) hHeld ?_ ?_
          rotate_left
          · rintro w' ⟨s0, s1, s2, s3, s4, s5, s6, s7⟩
            go_simp
            with_reducible rfl
          rotate_left
          · simp only [Act.put, zSa, zSb, zSc, i64_w, i32_w]
            rfl
          refine pure_ (i := 3) (N := some 36) (v := ?_) (a' := ?_) #[true, true, true, true, false, false, true, false, true, false, false, false, false] rfl rfl (any_of HT_.out (by kernel_rfl)) (fun _ _ _ h => h) (Or.inl ⟨by rfl, ?_⟩) ?_ ?_
          rotate_left
          · intro w'
            go_simp
            with_reducible rfl
          rotate_left
          · simp only [Act.put, zSa, zSb, zSc, i64_w, i32_w]
            rfl
          refine pure_ (i := 4) (N := some 37) (v := ?_) (a' := ?_) #[true, true, true, true, true, false, true, false, true, false, false, false, false] rfl rfl (any_of HT_.out (by kernel_rfl)) (fun _ _ _ h => h) (Or.inl ⟨by rfl, ?_⟩) ?_ ?_
          rotate_left
          · intro w'
            go_simp
            with_reducible rfl
          rotate_left
          · simp only [Act.put, zSa, zSb, zSc, i64_w, i32_w]
            rfl
          refine take_ (i := 5) (N := some 38) (v := ?_) (a' := ?_) #[true, true, true, true, true, true, true, false, true, false, false, false, false] rfl rfl (take_ofW HT_.out HW_.out (by kernel_rfl)) (fun _ _ _ h => h) (Or.inl ⟨by rfl, ?_⟩) hHeld ?_ ?_
          rotate_left
          · rintro w' ⟨s0, s1, s2, s3, s4, s5, s6, s7⟩
            go_simp
            with_reducible rfl
          rotate_left
          · simp only [Act.put, zSa, zSb, zSc, i64_w, i32_w]
            rfl
          refine take_ (i := 7) (N := some 40) (v := ?_) (a' := ?_) #[true, true, true, true, true, true, true, true, true, false, false, false, false] rfl rfl (take_ofW HT_.out HW_.out (by kernel_rfl)) (fun _ _ _ h => h) (Or.inl ⟨by rfl, ?_⟩) hHeld ?_ ?_
          rotate_left
          · rintro w' ⟨s0, s1, s2, s3, s4, s5, s6, s7⟩
            go_simp
            with_reducible rfl
          rotate_left
          · simp only [Act.put, zSa, zSb, zSc, i64_w, i32_w]
            rfl
          refine pure_ (i := 9) (N := some 42) (v := ?_) (a' := ?_) #[true, true, true, true, true, true, true, true, true, true, false, false, false] rfl rfl (any_of HT_.out (by kernel_rfl)) (fun _ _ _ h => h) (Or.inl ⟨by rfl, ?_⟩) ?_ ?_
          rotate_left
          · intro w'
            go_simp
            with_reducible rfl
          rotate_left
          · simp only [Act.put, zSa, zSb, zSc, i64_w, i32_w]
            rfl
          refine pure_ (i := 10) (N := some 43) (v := ?_) (a' := ?_) #[true, true, true, true, true, true, true, true, true, true, true, false, false] rfl rfl (any_of HT_.out (by kernel_rfl)) (fun _ _ _ h => h) (Or.inl ⟨by rfl, ?_⟩) ?_ ?_
          rotate_left
          · intro w'
            go_simp
            with_reducible rfl
          rotate_left
          · simp only [Act.put, zSa, zSb, zSc, i64_w, i32_w]
            rfl
          refine take_ (i := 11) (N := some 44) (v := ?_) (a' := ?_) #[true, true, true, true, true, true, true, true, true, true, true, true, false] rfl rfl (take_ofW HT_.out HW_.out (by kernel_rfl)) (fun _ _ _ h => h) (Or.inl ⟨by rfl, ?_⟩) hHeld ?_ ?_
          rotate_left
          · rintro w' ⟨s0, s1, s2, s3, s4, s5, s6, s7⟩
            go_simp
            with_reducible rfl
          rotate_left
          · simp only [Act.put, zSa, zSb, zSc, i64_w, i32_w]
            rfl
          refine pure_ (i := 12) (N := some 45) (v := ?_) (a' := ?_) #[true, true, true, true, true, true, true, true, true, true, true, true, true] rfl rfl (any_of HT_.out (by kernel_rfl)) (fun _ _ _ h => h) (Or.inl ⟨by rfl, ?_⟩) ?_ ?_
          rotate_left
          · intro w'
            go_simp
            with_reducible rfl
          rotate_left
          · simp only [Act.put, zSa, zSb, zSc, i64_w, i32_w]
            rfl
          refine done_ (done_of HT_.out (by kernel_rfl)) ?_
          go_upto_region 12 with (fail)
          go_cut [62] (fun v62 wc => ∃ (kq : Nat) (x62_14 : Bool), v62 = .bool x62_14 ∧ Aside0 (filigreeref04_Right.j1 kq x4_1 x62_14 a0_0 l0_1 = some r) ∧ Aside0 (kq ≤ k1) ∧ Aside0 (wc.heap[gb310]? = some (.cells #[.int .i64 a0_0, (.slice (some ad312) l0_1.length c0_1)] 24 (0, 0))) ∧ Aside0 (Below w.heap.size w wc))
          case first =>
            have H := HC15.out
            clear HC15
            by_cases c20 : x4_1 > 0
            · rw [if_pos c20] at H
              have c20b0 : decide (0 < x4_1) = true := decide_eq_true c20
              clear c20
              (first | rw [c20b0] | (simp only [i64_w, i32_w]; rw [c20b0]) | rw [c20b1] | skip)
              obtain ⟨ji21, hji21⟩ : ∃ j_ : Int, (wrap64 (x4_1 - 1)) = j_ := ⟨_, rfl⟩
              replace H : (if 0 ≤ (ji21) then (if (ji21) < (l0_1.length : Int) then ((filigreeref04_below.f ((rd_T43 l0_1 (ji21)).f0) ((rd_T43 l0_1 (ji21)).f1) ((rd_T43 l0_1 (ji21)).f2) ((rd_T43 l0_1 x4_1).f0) ((rd_T43 l0_1 x4_1).f1) ((rd_T43 l0_1 x4_1).f2)).bind fun t318 => (filigreeref04_Right.j1 k1 x4_1 (!t318) a0_0 l0_1)) else (none)) else (none)) = some r := by first | (rw [hji21] at H; exact H) | (simp only [hji21] at H ⊢; exact H)
              have hji21w : (IntKind.i64.wrap (x4_1 - 1)) = ji21 := (i64_w _).trans hji21
              by_cases c22 : 0 ≤ (ji21)
              rotate_left
              · rw [if_neg c22] at H; exact absurd H (by simp)
              rw [if_pos c22] at H
              have c22b0 : decide (0 ≤ (ji21)) = true := decide_eq_true c22
              clear c22
              by_cases c23 : (ji21) < (l0_1.length : Int)
              rotate_left
              · rw [if_neg c23] at H; exact absurd H (by simp)
              rw [if_pos c23] at H
              have c23b0 : decide ((ji21) < (l0_1.length : Int)) = true := decide_eq_true c23
              clear c23
              replace H := bnd H
              obtain ⟨t318, A240, H⟩ := H
              have A24 := zMk A240
              clear A240
              have H' := zMk H
              clear H
              try go_wp2
              replace BK310 := zMk (zKd BK310.out)
              replace HB := zMk (zBd HB.out)
              have p316 : 0 ≤ ((ji21) : Int) := of_decide_eq_true (by assumption)
              have q316 : (ji21) < (l0_1.length : Int) := of_decide_eq_true (by assumption)
              obtain ⟨ad316, e316, hx316_0, hx316_1, hx316_2⟩ := at_T43 HR0_1.out (ji21) p316 q316
              have hw316_2 := hx316_2
              have hw316_1 := hx316_1
              have hw316_0 := hx316_0
              obtain rfl : ad312 = ad316 := (by injection e316)
              replace hx316_0 := (HB.out.cell (World.block_lt_of_cell? w _ hx316_0)).trans hx316_0
              replace hx316_1 := (HB.out.cell (World.block_lt_of_cell? w _ hx316_1)).trans hx316_1
              replace hx316_2 := (HB.out.cell (World.block_lt_of_cell? w _ hx316_2)).trans hx316_2
              replace p316 := eq_true p316
              replace q316 := eq_true q316
              have p317 : 0 ≤ (x4_1 : Int) := of_decide_eq_true (by assumption)
              have q317 : x4_1 < (l0_1.length : Int) := of_decide_eq_true (by assumption)
              obtain ⟨ad317, e317, hx317_0, hx317_1, hx317_2⟩ := at_T43 HR0_1.out x4_1 p317 q317
              have hw317_2 := hx317_2
              have hw317_1 := hx317_1
              have hw317_0 := hx317_0
              obtain rfl : ad312 = ad317 := (by injection e317)
              replace hx317_0 := (HB.out.cell (World.block_lt_of_cell? w _ hx317_0)).trans hx317_0
              replace hx317_1 := (HB.out.cell (World.block_lt_of_cell? w _ hx317_1)).trans hx317_1
              replace hx317_2 := (HB.out.cell (World.block_lt_of_cell? w _ hx317_2)).trans hx317_2
              replace p317 := eq_true p317
              replace q317 := eq_true q317
              refine start_ (n := 17) (S := fun w' => w'.cell? ⟨gb310, 0, none⟩ = some (.int .i64 a0_0) ∧ w'.cell? ⟨gb310, 1, none⟩ = some (.slice (some ad312) l0_1.length c0_1) ∧ w'.cell? (ad312.add (((ji21)).toNat * 3)) = some (.int .i64 ((rd_T43 l0_1 (ji21)).f0)) ∧ w'.cell? ⟨(ad312.add (((ji21)).toNat * 3)).block, (ad312.add (((ji21)).toNat * 3)).off + 1, none⟩ = some (.int .i64 ((rd_T43 l0_1 (ji21)).f1)) ∧ w'.cell? ⟨(ad312.add (((ji21)).toNat * 3)).block, (ad312.add (((ji21)).toNat * 3)).off + 2, none⟩ = some (.int .i64 ((rd_T43 l0_1 (ji21)).f2)) ∧ w'.cell? (ad312.add ((x4_1).toNat * 3)) = some (.int .i64 ((rd_T43 l0_1 x4_1).f0)) ∧ w'.cell? ⟨(ad312.add ((x4_1).toNat * 3)).block, (ad312.add ((x4_1).toNat * 3)).off + 1, none⟩ = some (.int .i64 ((rd_T43 l0_1 x4_1).f1)) ∧ w'.cell? ⟨(ad312.add ((x4_1).toNat * 3)).block, (ad312.add ((x4_1).toNat * 3)).off + 2, none⟩ = some (.int .i64 ((rd_T43 l0_1 x4_1).f2))) (ds := []) #[false, false, false, false, false, false, false, false, false, false, false, false, false, false, false, false, false] (by kernel_rfl) rfl rfl ⟨(zKc BK310.out 0).trans rfl, (zKc BK310.out 1).trans rfl, ((HB.out.cell (World.block_lt_of_cell? w _ hw316_0)).trans hw316_0), ((HB.out.cell (World.block_lt_of_cell? w _ hw316_1)).trans hw316_1), ((HB.out.cell (World.block_lt_of_cell? w _ hw316_2)).trans hw316_2), ((HB.out.cell (World.block_lt_of_cell? w _ hw317_0)).trans hw317_0), ((HB.out.cell (World.block_lt_of_cell? w _ hw317_1)).trans hw317_1), ((HB.out.cell (World.block_lt_of_cell? w _ hw317_2)).trans hw317_2)⟩ (fun hHeld => ?_); refine with_tabW filigreeref04_Right.tab12 filigreeref04_Right.bits12 (fun HT_ HW_ => ?_)
              generalize w19.drew = w25 at BK310 HB hx316_0 hx316_1 hx316_2 hx317_0 hx317_1 hx317_2 hHeld ⊢
              refine pure_ (i := 0) (N := some 46) (v := ?_) (a' := ?_) #[true, false, false, false, false, false, false, false, false, false, false, false, false, false, false, false, false] rfl rfl (any_of HT_.out (by kernel_rfl)) (fun _ _ _ h => h) (Or.inl ⟨by rfl, ?_⟩) ?_ ?_
              rotate_left
              · intro w'
                go_simp
                with_reducible rfl
              rotate_left
              · simp only [Act.put, zSa, zSb, zSc, i64_w, i32_w]
                rfl
              refine pure_ (i := 1) (N := some 47) (v := ?_) (a' := ?_) #[true, true, false, false, false, false, false, false, false, false, false, false, false, false, false, false, false] rfl rfl (any_of HT_.out (by kernel_rfl)) (fun _ _ _ h => h) (Or.inl ⟨by rfl, ?_⟩) ?_ ?_
              rotate_left
              · intro w'
                go_simp
                with_reducible rfl
              rotate_left
              · simp only [Act.put, zSa, zSb, zSc, i64_w, i32_w]
                rfl
              refine pure_ (i := 2) (N := some 48) (v := ?_) (a' := ?_) #[true, true, true, false, false, false, false, false, false, false, false, false, false, false, false, false, false] rfl rfl (any_of HT_.out (by kernel_rfl)) (fun _ _ _ h => h) (Or.inl ⟨by rfl, ?_⟩) ?_ ?_
              rotate_left
              · intro w'
                go_simp
                with_reducible rfl
              rotate_left
              · simp only [Act.put, zSa, zSb, zSc, i64_w, i32_w]
                rfl
              refine pure_ (i := 3) (N := some 49) (v := ?_) (a' := ?_) #[true, true, true, true, false, false, false, false, false, false, false, false, false, false, false, false, false] rfl rfl (any_of HT_.out (by kernel_rfl)) (fun _ _ _ h => h) (Or.inl ⟨by rfl, ?_⟩) ?_ ?_
              rotate_left
              · intro w'
                go_simp
                with_reducible rfl
              rotate_left
              · simp only [Act.put, zSa, zSb, zSc, i64_w, i32_w]
                rfl
              refine pure_ (i := 5) (N := some 51) (v := ?_) (a' := ?_) #[true, true, true, true, false, true, false, false, false, false, false, false, false, false, false, false, false] rfl rfl (any_of HT_.out (by kernel_rfl)) (fun _ _ _ h => h) (Or.inl ⟨by rfl, ?_⟩) ?_ ?_
              rotate_left
              · intro w'
                go_simp
                with_reducible rfl
              rotate_left
              · simp only [Act.put, zSa, zSb, zSc, i64_w, i32_w]
                rfl
              refine pure_ (i := 6) (N := some 52) (v := ?_) (a' := ?_) #[true, true, true, true, false, true, true, false, false, false, false, false, false, false, false, false, false] rfl rfl (any_of HT_.out (by kernel_rfl)) (fun _ _ _ h => h) (Or.inl ⟨by rfl, ?_⟩) ?_ ?_
              rotate_left
              · intro w'
                go_simp
                with_reducible rfl
              rotate_left
              · simp only [Act.put, zSa, zSb, zSc, i64_w, i32_w]
                rfl
              refine pure_ (i := 9) (N := some 55) (v := ?_) (a' := ?_) #[true, true, true, true, false, true, true, false, false, true, false, false, false, false, false, false, false] rfl rfl (any_of HT_.out (by kernel_rfl)) (fun _ _ _ h => h) (Or.inl ⟨by rfl, ?_⟩) ?_ ?_
              rotate_left
              · intro w'
                go_simp
                with_reducible rfl
              rotate_left
              · simp only [Act.put, zSa, zSb, zSc, i64_w, i32_w]
                rfl
              refine pure_ (i := 11) (N := some 57) (v := ?_) (a' := ?_) #[true, true, true, true, false, true, true, false, false, true, false, true, false, false, false, false, false] rfl rfl (any_of HT_.out (by kernel_rfl)) (fun _ _ _ h => h) (Or.inl ⟨by rfl, ?_⟩) ?_ ?_
              rotate_left
              · intro w'
                go_simp
                with_reducible rfl
              rotate_left
              · simp only [Act.put, zSa, zSb, zSc, i64_w, i32_w]
                rfl
              refine take_ (i := 4) (N := some 50) (v := ?_) (a' := ?_) #[true, true, true, true, true, true, true, false, false, true, false, true, false, false, false, false, false] rfl rfl (take_ofW HT_.out HW_.out (by kernel_rfl)) (fun _ _ _ h => h) (Or.inl ⟨by rfl, ?_⟩) hHeld ?_ ?_
              rotate_left
              · rintro w' ⟨s0, s1, s2, s3, s4, s5, s6, s7⟩
                go_simp
                with_reducible rfl
              rotate_left
              · simp only [Act.put, zSa, zSb, zSc, i64_w, i32_w]
                rfl
              refine pure_ (i := 7) (N := some 53) (v := ?_) (a' := ?_) #[true, true, true, true, true, true, true, true, false, true, false, true, false, false, false, false, false] rfl rfl (any_of HT_.out (by kernel_rfl)) (fun _ _ _ h => h) (Or.inl ⟨by rfl, ?_⟩) ?_ ?_
              rotate_left
              · intro w'
                go_simp
                with_reducible rfl
              rotate_left
              · simp only [Act.put, zSa, zSb, zSc, i64_w, i32_w]
                rfl
              refine take_ (i := 8) (N := some 54) (v := ?_) (a' := ?_) #[true, true, true, true, true, true, true, true, true, true, false, true, false, false, false, false, false] rfl rfl (take_ofW HT_.out HW_.out (by kernel_rfl)) (fun _ _ _ h => h) (Or.inl ⟨by rfl, ?_⟩) hHeld ?_ ?_
              rotate_left
              · rintro w' ⟨s0, s1, s2, s3, s4, s5, s6, s7⟩
                go_simp
                with_reducible rfl
              rotate_left
              · simp only [Act.put, zSa, zSb, zSc, i64_w, i32_w]
                rfl
              refine take_ (i := 10) (N := some 56) (v := ?_) (a' := ?_) #[true, true, true, true, true, true, true, true, true, true, true, true, false, false, false, false, false] rfl rfl (take_ofW HT_.out HW_.out (by kernel_rfl)) (fun _ _ _ h => h) (Or.inl ⟨by rfl, ?_⟩) hHeld ?_ ?_
              rotate_left
              · rintro w' ⟨s0, s1, s2, s3, s4, s5, s6, s7⟩
                go_simp
                with_reducible rfl
              rotate_left
              · simp only [Act.put, zSa, zSb, zSc, i64_w, i32_w]
                rfl
              refine pure_ (i := 12) (N := some 58) (v := ?_) (a' := ?_) #[true, true, true, true, true, true, true, true, true, true, true, true, true, false, false, false, false] rfl rfl (any_of HT_.out (by kernel_rfl)) (fun _ _ _ h => h) (Or.inl ⟨by rfl, ?_⟩) ?_ ?_
              rotate_left
              · intro w'
                go_simp
                with_reducible rfl
              rotate_left
              · simp only [Act.put, zSa, zSb, zSc, i64_w, i32_w]
                rfl
              refine take_ (i := 13) (N := some 59) (v := ?_) (a' := ?_) #[true, true, true, true, true, true, true, true, true, true, true, true, true, true, false, false, false] rfl rfl (take_ofW HT_.out HW_.out (by kernel_rfl)) (fun _ _ _ h => h) (Or.inl ⟨by rfl, ?_⟩) hHeld ?_ ?_
              rotate_left
              · rintro w' ⟨s0, s1, s2, s3, s4, s5, s6, s7⟩
                go_simp
                with_reducible rfl
              rotate_left
              · simp only [Act.put, zSa, zSb, zSc, i64_w, i32_w]
                rfl
              refine one_ (i := 14) (N := some 60) #[true, true, true, true, true, true, true, true, true, true, true, true, true, true, true, false, false] rfl rfl (one_of HT_.out (by kernel_rfl)) (by decide) (fun K hK => ?_)
              refine goes_ Try.func26 (by kernel_rfl) rfl #[.agg #[.int .i64 ((rd_T43 l0_1 (ji21)).f0), .int .i64 ((rd_T43 l0_1 (ji21)).f1), .int .i64 ((rd_T43 l0_1 (ji21)).f2)], .agg #[.int .i64 ((rd_T43 l0_1 x4_1).f0), .int .i64 ((rd_T43 l0_1 x4_1).f1), .int .i64 ((rd_T43 l0_1 x4_1).f2)]] (by rfl) rfl rfl (by (try simp only [zMa, zMc, zMn]); first | done | (simp only [hji21]; rfl) | rfl | (simp only [zLd, zLt]; rfl)) ?_
              with_reducible refine (filigreeref04_below.calls ((rd_T43 l0_1 (ji21)).f0) ((rd_T43 l0_1 (ji21)).f1) ((rd_T43 l0_1 (ji21)).f2) ((rd_T43 l0_1 x4_1).f0) ((rd_T43 l0_1 x4_1).f1) ((rd_T43 l0_1 x4_1).f2) t318 _ A24.out).mono ?_
              rintro e w26 ⟨rfl, hb⟩
              refine ⟨_, rfl, ?_⟩
              replace BK310 := zMk (zKb (g := gb310) (o := .cells #[.int .i64 a0_0, .slice (some ad312) l0_1.length c0_1] 24 (0, 0)) (by (with_reducible repeat (first | refine zKn ?_ _ | refine zKd ?_ | refine zKa ?_ _)); exact BK310.out) hb)
              replace HB := zMk (zBt (by exact uT HB.out) hb)
              refine hK.out _ _ ⟨(zKc BK310.out 0).trans rfl, (zKc BK310.out 1).trans rfl, ((HB.out.cell (World.block_lt_of_cell? w _ hw316_0)).trans hw316_0), ((HB.out.cell (World.block_lt_of_cell? w _ hw316_1)).trans hw316_1), ((HB.out.cell (World.block_lt_of_cell? w _ hw316_2)).trans hw316_2), ((HB.out.cell (World.block_lt_of_cell? w _ hw317_0)).trans hw317_0), ((HB.out.cell (World.block_lt_of_cell? w _ hw317_1)).trans hw317_1), ((HB.out.cell (World.block_lt_of_cell? w _ hw317_2)).trans hw317_2)⟩ (fun hHeld => ?_)
              clear hK K
              refine norm_ (a' := ?_) ?_ ?_
              rotate_left
              · show Act.put _ (some 60) _ = _
                simp only [Act.put, zSa, zSb, zSc, i64_w, i32_w]
                rfl
              refine pure_ (i := 15) (N := some 61) (v := ?_) (a' := ?_) #[true, true, true, true, true, true, true, true, true, true, true, true, true, true, true, true, false] rfl rfl (any_of HT_.out (by kernel_rfl)) (fun _ _ _ h => h) (Or.inl ⟨by rfl, ?_⟩) ?_ ?_
              rotate_left
              · intro w'
                go_simp
                with_reducible rfl
              rotate_left
              · simp only [Act.put, zSa, zSb, zSc, i64_w, i32_w]
                rfl
              refine pure_ (i := 16) (N := some 62) (v := ?_) (a' := ?_) #[true, true, true, true, true, true, true, true, true, true, true, true, true, true, true, true, true] rfl rfl (any_of HT_.out (by kernel_rfl)) (fun _ _ _ h => h) (Or.inl ⟨by rfl, ?_⟩) ?_ ?_
              rotate_left
              · intro w'
                go_simp
                with_reducible rfl
              rotate_left
              · simp only [Act.put, zSa, zSb, zSc, i64_w, i32_w]
                rfl
              refine done_ (done_of HT_.out (by kernel_rfl)) ?_
              try go_wp2
              go_meet
              case rel => exact ⟨_, (!t318), (by first | rfl | (simp; done) | (simp [*]; done)), H', ⟨by have := HK1.out; first | omega | exact Nat.le_refl _⟩, ⟨by (with_reducible repeat (first | refine zKn ?_ _ | refine zKd ?_ | refine zKa ?_ _)); exact BK310.out⟩, ⟨by exact uT HB.out⟩⟩
            · rw [if_neg c20] at H
              have c20b0 : decide (0 < x4_1) = false := decide_eq_false c20
              clear c20
              (first | rw [c20b0] | (simp only [i64_w, i32_w]; rw [c20b0]) | rw [c20b1] | skip)
              have H' := zMk H
              clear H
              try go_wp2
              replace BK310 := zMk (zKd BK310.out)
              replace HB := zMk (zBd HB.out)
              refine start_ (n := 17) (S := fun w' => True) (ds := []) #[false, false, false, false, false, false, false, false, false, false, false, false, false, false, false, false, false] (by kernel_rfl) rfl rfl trivial (fun hHeld => ?_); refine with_tabW filigreeref04_Right.tab12 filigreeref04_Right.bits12 (fun HT_ HW_ => ?_)
              generalize w19.drew = w27 at BK310 HB hHeld ⊢
              refine pure_ (i := 0) (N := some 46) (v := ?_) (a' := ?_) #[true, false, false, false, false, false, false, false, false, false, false, false, false, false, false, false, false] rfl rfl (any_of HT_.out (by kernel_rfl)) (fun _ _ _ h => h) (Or.inl ⟨by rfl, ?_⟩) ?_ ?_
              rotate_left
              · intro w'
                go_simp
                with_reducible rfl
              rotate_left
              · simp only [Act.put, zSa, zSb, zSc, i64_w, i32_w]
                rfl
              refine pure_ (i := 1) (N := some 47) (v := ?_) (a' := ?_) #[true, true, false, false, false, false, false, false, false, false, false, false, false, false, false, false, false] rfl rfl (any_of HT_.out (by kernel_rfl)) (fun _ _ _ h => h) (Or.inl ⟨by rfl, ?_⟩) ?_ ?_
              rotate_left
              · intro w'
                go_simp
                with_reducible rfl
              rotate_left
              · simp only [Act.put, zSa, zSb, zSc, i64_w, i32_w]
                rfl
              refine pure_ (i := 2) (N := some 48) (v := ?_) (a' := ?_) #[true, true, true, false, false, false, false, false, false, false, false, false, false, false, false, false, false] rfl rfl (any_of HT_.out (by kernel_rfl)) (fun _ _ _ h => h) (Or.inl ⟨by rfl, ?_⟩) ?_ ?_
              rotate_left
              · intro w'
                go_simp
                with_reducible rfl
              rotate_left
              · simp only [Act.put, zSa, zSb, zSc, i64_w, i32_w]
                rfl
              refine pure_ (i := 3) (N := some 49) (v := undef) (a' := ?_) #[true, true, true, true, false, false, false, false, false, false, false, false, false, false, false, false, false] rfl rfl (any_of HT_.out (by kernel_rfl)) (fun _ _ _ h => h) (Or.inr ⟨by rfl, rfl⟩) ?_ ?_
              rotate_left
              · simp only [Act.put, zSa, zSb, zSc, i64_w, i32_w]
                rfl
              refine pure_ (i := 4) (N := some 50) (v := undef) (a' := ?_) #[true, true, true, true, true, false, false, false, false, false, false, false, false, false, false, false, false] rfl rfl (any_of HT_.out (by kernel_rfl)) (fun _ _ _ h => h) (Or.inr ⟨by rfl, rfl⟩) ?_ ?_
              rotate_left
              · simp only [Act.put, zSa, zSb, zSc, i64_w, i32_w]
                rfl
              refine pure_ (i := 5) (N := some 51) (v := undef) (a' := ?_) #[true, true, true, true, true, true, false, false, false, false, false, false, false, false, false, false, false] rfl rfl (any_of HT_.out (by kernel_rfl)) (fun _ _ _ h => h) (Or.inr ⟨by rfl, rfl⟩) ?_ ?_
              rotate_left
              · simp only [Act.put, zSa, zSb, zSc, i64_w, i32_w]
                rfl
              refine pure_ (i := 6) (N := some 52) (v := undef) (a' := ?_) #[true, true, true, true, true, true, true, false, false, false, false, false, false, false, false, false, false] rfl rfl (any_of HT_.out (by kernel_rfl)) (fun _ _ _ h => h) (Or.inr ⟨by rfl, rfl⟩) ?_ ?_
              rotate_left
              · simp only [Act.put, zSa, zSb, zSc, i64_w, i32_w]
                rfl
              refine pure_ (i := 7) (N := some 53) (v := undef) (a' := ?_) #[true, true, true, true, true, true, true, true, false, false, false, false, false, false, false, false, false] rfl rfl (any_of HT_.out (by kernel_rfl)) (fun _ _ _ h => h) (Or.inr ⟨by rfl, rfl⟩) ?_ ?_
              rotate_left
              · simp only [Act.put, zSa, zSb, zSc, i64_w, i32_w]
                rfl
              refine pure_ (i := 8) (N := some 54) (v := undef) (a' := ?_) #[true, true, true, true, true, true, true, true, true, false, false, false, false, false, false, false, false] rfl rfl (any_of HT_.out (by kernel_rfl)) (fun _ _ _ h => h) (Or.inr ⟨by rfl, rfl⟩) ?_ ?_
              rotate_left
              · simp only [Act.put, zSa, zSb, zSc, i64_w, i32_w]
                rfl
              refine pure_ (i := 9) (N := some 55) (v := undef) (a' := ?_) #[true, true, true, true, true, true, true, true, true, true, false, false, false, false, false, false, false] rfl rfl (any_of HT_.out (by kernel_rfl)) (fun _ _ _ h => h) (Or.inr ⟨by rfl, rfl⟩) ?_ ?_
              rotate_left
              · simp only [Act.put, zSa, zSb, zSc, i64_w, i32_w]
                rfl
              refine pure_ (i := 10) (N := some 56) (v := undef) (a' := ?_) #[true, true, true, true, true, true, true, true, true, true, true, false, false, false, false, false, false] rfl rfl (any_of HT_.out (by kernel_rfl)) (fun _ _ _ h => h) (Or.inr ⟨by rfl, rfl⟩) ?_ ?_
              rotate_left
              · simp only [Act.put, zSa, zSb, zSc, i64_w, i32_w]
                rfl
              refine pure_ (i := 11) (N := some 57) (v := undef) (a' := ?_) #[true, true, true, true, true, true, true, true, true, true, true, true, false, false, false, false, false] rfl rfl (any_of HT_.out (by kernel_rfl)) (fun _ _ _ h => h) (Or.inr ⟨by rfl, rfl⟩) ?_ ?_
              rotate_left
              · simp only [Act.put, zSa, zSb, zSc, i64_w, i32_w]
                rfl
              refine pure_ (i := 12) (N := some 58) (v := undef) (a' := ?_) #[true, true, true, true, true, true, true, true, true, true, true, true, true, false, false, false, false] rfl rfl (any_of HT_.out (by kernel_rfl)) (fun _ _ _ h => h) (Or.inr ⟨by rfl, rfl⟩) ?_ ?_
              rotate_left
              · simp only [Act.put, zSa, zSb, zSc, i64_w, i32_w]
                rfl
              refine pure_ (i := 13) (N := some 59) (v := undef) (a' := ?_) #[true, true, true, true, true, true, true, true, true, true, true, true, true, true, false, false, false] rfl rfl (any_of HT_.out (by kernel_rfl)) (fun _ _ _ h => h) (Or.inr ⟨by rfl, rfl⟩) ?_ ?_
              rotate_left
              · simp only [Act.put, zSa, zSb, zSc, i64_w, i32_w]
                rfl
              refine pure_ (i := 14) (N := some 60) (v := undef) (a' := ?_) #[true, true, true, true, true, true, true, true, true, true, true, true, true, true, true, false, false] rfl rfl (any_of HT_.out (by kernel_rfl)) (fun _ _ _ h => h) (Or.inr ⟨by rfl, rfl⟩) ?_ ?_
              rotate_left
              · simp only [Act.put, zSa, zSb, zSc, i64_w, i32_w]
                rfl
              refine pure_ (i := 15) (N := some 61) (v := undef) (a' := ?_) #[true, true, true, true, true, true, true, true, true, true, true, true, true, true, true, true, false] rfl rfl (any_of HT_.out (by kernel_rfl)) (fun _ _ _ h => h) (Or.inr ⟨by rfl, rfl⟩) ?_ ?_
              rotate_left
              · simp only [Act.put, zSa, zSb, zSc, i64_w, i32_w]
                rfl
              refine pure_ (i := 16) (N := some 62) (v := ?_) (a' := ?_) #[true, true, true, true, true, true, true, true, true, true, true, true, true, true, true, true, true] rfl rfl (any_of HT_.out (by kernel_rfl)) (fun _ _ _ h => h) (Or.inl ⟨by rfl, ?_⟩) ?_ ?_
              rotate_left
              · intro w'
                go_simp
                with_reducible rfl
              rotate_left
              · simp only [Act.put, zSa, zSb, zSc, i64_w, i32_w]
                rfl
              refine done_ (done_of HT_.out (by kernel_rfl)) ?_
              try go_wp2
              go_meet
              case rel => exact ⟨_, (false), (by first | rfl | (simp; done) | (simp [*]; done)), H', ⟨by have := HK1.out; first | omega | exact Nat.le_refl _⟩, ⟨by (with_reducible repeat (first | refine zKn ?_ _ | refine zKd ?_ | refine zKa ?_ _)); exact BK310.out⟩, ⟨by exact uT HB.out⟩⟩
          case rest =>
            clear HC15
            obtain ⟨kq, x62_14, rfl, HA, HJ14, BK310, HB⟩ := hcut
            rcases kq with _ | kj14
            · exact absurd HA.out (by simp [filigreeref04_Right.j1])
            have H := HA.out
            clear HA
            simp only [filigreeref04_Right.j1] at H
            by_cases c28 : x62_14 = true
            · subst c28
              replace H : (if 0 ≤ x4_1 then (if x4_1 < (l0_1.length : Int) then (if 0 ≤ (wrap64 (x4_1 - 1)) then (if (wrap64 (x4_1 - 1)) < (l0_1.length : Int) then ((filigreeref04_below.f ((rd_T43 l0_1 x4_1).f0) ((rd_T43 l0_1 x4_1).f1) ((rd_T43 l0_1 x4_1).f2) ((rd_T43 l0_1 (wrap64 (x4_1 - 1))).f0) ((rd_T43 l0_1 (wrap64 (x4_1 - 1))).f1) ((rd_T43 l0_1 (wrap64 (x4_1 - 1))).f2)).bind fun t321 => (if t321 = true then (some 1) else (some 7))) else (none)) else (none)) else (none)) else (none)) = some r := by rw [if_pos rfl] at H; exact H
              by_cases c29 : 0 ≤ x4_1
              rotate_left
              · rw [if_neg c29] at H; exact absurd H (by simp)
              rw [if_pos c29] at H
              have c29b0 : decide (0 ≤ x4_1) = true := decide_eq_true c29
              clear c29
              by_cases c30 : x4_1 < (l0_1.length : Int)
              rotate_left
              · rw [if_neg c30] at H; exact absurd H (by simp)
              rw [if_pos c30] at H
              have c30b0 : decide (x4_1 < (l0_1.length : Int)) = true := decide_eq_true c30
              clear c30
              obtain ⟨ji31, hji31⟩ : ∃ j_ : Int, (wrap64 (x4_1 - 1)) = j_ := ⟨_, rfl⟩
              replace H : (if 0 ≤ (ji31) then (if (ji31) < (l0_1.length : Int) then ((filigreeref04_below.f ((rd_T43 l0_1 x4_1).f0) ((rd_T43 l0_1 x4_1).f1) ((rd_T43 l0_1 x4_1).f2) ((rd_T43 l0_1 (ji31)).f0) ((rd_T43 l0_1 (ji31)).f1) ((rd_T43 l0_1 (ji31)).f2)).bind fun t321 => (if t321 = true then (some 1) else (some 7))) else (none)) else (none)) = some r := by first | (rw [hji31] at H; exact H) | (simp only [hji31] at H ⊢; exact H)
              have hji31w : (IntKind.i64.wrap (x4_1 - 1)) = ji31 := (i64_w _).trans hji31
              by_cases c32 : 0 ≤ (ji31)
              rotate_left
              · rw [if_neg c32] at H; exact absurd H (by simp)
              rw [if_pos c32] at H
              have c32b0 : decide (0 ≤ (ji31)) = true := decide_eq_true c32
              clear c32
              by_cases c33 : (ji31) < (l0_1.length : Int)
              rotate_left
              · rw [if_neg c33] at H; exact absurd H (by simp)
              rw [if_pos c33] at H
              have c33b0 : decide ((ji31) < (l0_1.length : Int)) = true := decide_eq_true c33
              clear c33
              replace H := bnd H
              obtain ⟨t321, A340, H⟩ := H
              have A34 := zMk A340
              clear A340
              by_cases c35 : t321 = true
              · subst c35
                replace H : (some 1) = some r := by rw [if_pos rfl] at H; exact H
                obtain rfl := zOi H
                try go_wp2
                replace BK310 := zMk (zKd BK310.out)
                replace HB := zMk (zBd HB.out)
                have p319 : 0 ≤ (x4_1 : Int) := of_decide_eq_true (by assumption)
                have q319 : x4_1 < (l0_1.length : Int) := of_decide_eq_true (by assumption)
                obtain ⟨ad319, e319, hx319_0, hx319_1, hx319_2⟩ := at_T43 HR0_1.out x4_1 p319 q319
                have hw319_2 := hx319_2
                have hw319_1 := hx319_1
                have hw319_0 := hx319_0
                obtain rfl : ad312 = ad319 := (by injection e319)
                replace hx319_0 := (HB.out.cell (World.block_lt_of_cell? w _ hx319_0)).trans hx319_0
                replace hx319_1 := (HB.out.cell (World.block_lt_of_cell? w _ hx319_1)).trans hx319_1
                replace hx319_2 := (HB.out.cell (World.block_lt_of_cell? w _ hx319_2)).trans hx319_2
                replace p319 := eq_true p319
                replace q319 := eq_true q319
                have p320 : 0 ≤ ((ji31) : Int) := of_decide_eq_true (by assumption)
                have q320 : (ji31) < (l0_1.length : Int) := of_decide_eq_true (by assumption)
                obtain ⟨ad320, e320, hx320_0, hx320_1, hx320_2⟩ := at_T43 HR0_1.out (ji31) p320 q320
                have hw320_2 := hx320_2
                have hw320_1 := hx320_1
                have hw320_0 := hx320_0
                obtain rfl : ad312 = ad320 := (by injection e320)
                replace hx320_0 := (HB.out.cell (World.block_lt_of_cell? w _ hx320_0)).trans hx320_0
                replace hx320_1 := (HB.out.cell (World.block_lt_of_cell? w _ hx320_1)).trans hx320_1
                replace hx320_2 := (HB.out.cell (World.block_lt_of_cell? w _ hx320_2)).trans hx320_2
                replace p320 := eq_true p320
                replace q320 := eq_true q320
                refine start_ (n := 12) (S := fun w' => w'.cell? ⟨gb310, 0, none⟩ = some (.int .i64 a0_0) ∧ w'.cell? ⟨gb310, 1, none⟩ = some (.slice (some ad312) l0_1.length c0_1) ∧ w'.cell? (ad312.add ((x4_1).toNat * 3)) = some (.int .i64 ((rd_T43 l0_1 x4_1).f0)) ∧ w'.cell? ⟨(ad312.add ((x4_1).toNat * 3)).block, (ad312.add ((x4_1).toNat * 3)).off + 1, none⟩ = some (.int .i64 ((rd_T43 l0_1 x4_1).f1)) ∧ w'.cell? ⟨(ad312.add ((x4_1).toNat * 3)).block, (ad312.add ((x4_1).toNat * 3)).off + 2, none⟩ = some (.int .i64 ((rd_T43 l0_1 x4_1).f2)) ∧ w'.cell? (ad312.add (((ji31)).toNat * 3)) = some (.int .i64 ((rd_T43 l0_1 (ji31)).f0)) ∧ w'.cell? ⟨(ad312.add (((ji31)).toNat * 3)).block, (ad312.add (((ji31)).toNat * 3)).off + 1, none⟩ = some (.int .i64 ((rd_T43 l0_1 (ji31)).f1)) ∧ w'.cell? ⟨(ad312.add (((ji31)).toNat * 3)).block, (ad312.add (((ji31)).toNat * 3)).off + 2, none⟩ = some (.int .i64 ((rd_T43 l0_1 (ji31)).f2))) (ds := []) #[false, false, false, false, false, false, false, false, false, false, false, false] (by kernel_rfl) rfl rfl ⟨(zKc BK310.out 0).trans rfl, (zKc BK310.out 1).trans rfl, ((HB.out.cell (World.block_lt_of_cell? w _ hw319_0)).trans hw319_0), ((HB.out.cell (World.block_lt_of_cell? w _ hw319_1)).trans hw319_1), ((HB.out.cell (World.block_lt_of_cell? w _ hw319_2)).trans hw319_2), ((HB.out.cell (World.block_lt_of_cell? w _ hw320_0)).trans hw320_0), ((HB.out.cell (World.block_lt_of_cell? w _ hw320_1)).trans hw320_1), ((HB.out.cell (World.block_lt_of_cell? w _ hw320_2)).trans hw320_2)⟩ (fun hHeld => ?_); refine with_tabW filigreeref04_Right.tab13 filigreeref04_Right.bits13 (fun HT_ HW_ => ?_)
                generalize wc.drew = w36 at BK310 HB hx319_0 hx319_1 hx319_2 hx320_0 hx320_1 hx320_2 hHeld ⊢
                refine pure_ (i := 0) (N := some 63) (v := ?_) (a' := ?_) #[true, false, false, false, false, false, false, false, false, false, false, false] rfl rfl (any_of HT_.out (by kernel_rfl)) (fun _ _ _ h => h) (Or.inl ⟨by rfl, ?_⟩) ?_ ?_
                rotate_left
                · intro w'
                  go_simp
                  with_reducible rfl
                rotate_left
                · simp only [Act.put, zSa, zSb, zSc, i64_w, i32_w]
                  rfl
                refine pure_ (i := 2) (N := some 65) (v := ?_) (a' := ?_) #[true, false, true, false, false, false, false, false, false, false, false, false] rfl rfl (any_of HT_.out (by kernel_rfl)) (fun _ _ _ h => h) (Or.inl ⟨by rfl, ?_⟩) ?_ ?_
                rotate_left
                · intro w'
                  go_simp
                  with_reducible rfl
                rotate_left
                · simp only [Act.put, zSa, zSb, zSc, i64_w, i32_w]
                  rfl
                refine pure_ (i := 5) (N := some 68) (v := ?_) (a' := ?_) #[true, false, true, false, false, true, false, false, false, false, false, false] rfl rfl (any_of HT_.out (by kernel_rfl)) (fun _ _ _ h => h) (Or.inl ⟨by rfl, ?_⟩) ?_ ?_
                rotate_left
                · intro w'
                  go_simp
                  with_reducible rfl
                rotate_left
                · simp only [Act.put, zSa, zSb, zSc, i64_w, i32_w]
                  rfl
                refine pure_ (i := 7) (N := some 70) (v := ?_) (a' := ?_) #[true, false, true, false, false, true, false, true, false, false, false, false] rfl rfl (any_of HT_.out (by kernel_rfl)) (fun _ _ _ h => h) (Or.inl ⟨by rfl, ?_⟩) ?_ ?_
                rotate_left
                · intro w'
                  go_simp
                  with_reducible rfl
                rotate_left
                · simp only [Act.put, zSa, zSb, zSc, i64_w, i32_w]
                  rfl
                refine pure_ (i := 8) (N := some 71) (v := ?_) (a' := ?_) #[true, false, true, false, false, true, false, true, true, false, false, false] rfl rfl (any_of HT_.out (by kernel_rfl)) (fun _ _ _ h => h) (Or.inl ⟨by rfl, ?_⟩) ?_ ?_
                rotate_left
                · intro w'
                  go_simp
                  with_reducible rfl
                rotate_left
                · simp only [Act.put, zSa, zSb, zSc, i64_w, i32_w]
                  rfl
                refine take_ (i := 1) (N := some 64) (v := ?_) (a' := ?_) #[true, true, true, false, false, true, false, true, true, false, false, false] rfl rfl (take_ofW HT_.out HW_.out (by kernel_rfl)) (fun _ _ _ h => h) (Or.inl ⟨by rfl, ?_⟩) hHeld ?_ ?_
                rotate_left
                · rintro w' ⟨s0, s1, s2, s3, s4, s5, s6, s7⟩
                  go_simp
                  with_reducible rfl
                rotate_left
                · simp only [Act.put, zSa, zSb, zSc, i64_w, i32_w]
                  rfl
                refine pure_ (i := 3) (N := some 66) (v := ?_) (a' := ?_) #[true, true, true, true, false, true, false, true, true, false, false, false] rfl rfl (any_of HT_.out (by kernel_rfl)) (fun _ _ _ h => h) (Or.inl ⟨by rfl, ?_⟩) ?_ ?_
                rotate_left
                · intro w'
                  go_simp
                  with_reducible rfl
                rotate_left
                · simp only [Act.put, zSa, zSb, zSc, i64_w, i32_w]
                  rfl
                refine take_ (i := 4) (N := some 67) (v := ?_) (a' := ?_) #[true, true, true, true, true, true, false, true, true, false, false, false] rfl rfl (take_ofW HT_.out HW_.out (by kernel_rfl)) (fun _ _ _ h => h) (Or.inl ⟨by rfl, ?_⟩) hHeld ?_ ?_
                rotate_left
                · rintro w' ⟨s0, s1, s2, s3, s4, s5, s6, s7⟩
                  go_simp
                  with_reducible rfl
                rotate_left
                · simp only [Act.put, zSa, zSb, zSc, i64_w, i32_w]
                  rfl
                refine take_ (i := 6) (N := some 69) (v := ?_) (a' := ?_) #[true, true, true, true, true, true, true, true, true, false, false, false] rfl rfl (take_ofW HT_.out HW_.out (by kernel_rfl)) (fun _ _ _ h => h) (Or.inl ⟨by rfl, ?_⟩) hHeld ?_ ?_
                rotate_left
                · rintro w' ⟨s0, s1, s2, s3, s4, s5, s6, s7⟩
                  go_simp
                  with_reducible rfl
                rotate_left
                · simp only [Act.put, zSa, zSb, zSc, i64_w, i32_w]
                  rfl
                refine pure_ (i := 9) (N := some 72) (v := ?_) (a' := ?_) #[true, true, true, true, true, true, true, true, true, true, false, false] rfl rfl (any_of HT_.out (by kernel_rfl)) (fun _ _ _ h => h) (Or.inl ⟨by rfl, ?_⟩) ?_ ?_
                rotate_left
                · intro w'
                  go_simp
                  with_reducible rfl
                rotate_left
                · simp only [Act.put, zSa, zSb, zSc, i64_w, i32_w]
                  rfl
                refine take_ (i := 10) (N := some 73) (v := ?_) (a' := ?_) #[true, true, true, true, true, true, true, true, true, true, true, false] rfl rfl (take_ofW HT_.out HW_.out (by kernel_rfl)) (fun _ _ _ h => h) (Or.inl ⟨by rfl, ?_⟩) hHeld ?_ ?_
                rotate_left
                · rintro w' ⟨s0, s1, s2, s3, s4, s5, s6, s7⟩
                  go_simp
                  with_reducible rfl
                rotate_left
                · simp only [Act.put, zSa, zSb, zSc, i64_w, i32_w]
                  rfl
                refine one_ (i := 11) (N := some 74) #[true, true, true, true, true, true, true, true, true, true, true, true] rfl rfl (one_of HT_.out (by kernel_rfl)) (by decide) (fun K hK => ?_)
                refine goes_ Try.func26 (by kernel_rfl) rfl #[.agg #[.int .i64 ((rd_T43 l0_1 x4_1).f0), .int .i64 ((rd_T43 l0_1 x4_1).f1), .int .i64 ((rd_T43 l0_1 x4_1).f2)], .agg #[.int .i64 ((rd_T43 l0_1 (ji31)).f0), .int .i64 ((rd_T43 l0_1 (ji31)).f1), .int .i64 ((rd_T43 l0_1 (ji31)).f2)]] (by rfl) rfl rfl (by (try simp only [zMa, zMc, zMn]); first | done | (simp only [hji31]; rfl) | rfl | (simp only [zLd, zLt]; rfl)) ?_
                with_reducible refine (filigreeref04_below.calls ((rd_T43 l0_1 x4_1).f0) ((rd_T43 l0_1 x4_1).f1) ((rd_T43 l0_1 x4_1).f2) ((rd_T43 l0_1 (ji31)).f0) ((rd_T43 l0_1 (ji31)).f1) ((rd_T43 l0_1 (ji31)).f2) true _ A34.out).mono ?_
                rintro e w37 ⟨rfl, hb⟩
                refine ⟨_, rfl, ?_⟩
                replace BK310 := zMk (zKb (g := gb310) (o := .cells #[.int .i64 a0_0, .slice (some ad312) l0_1.length c0_1] 24 (0, 0)) (by (with_reducible repeat (first | refine zKn ?_ _ | refine zKd ?_ | refine zKa ?_ _)); exact BK310.out) hb)
                replace HB := zMk (zBt (by exact uT HB.out) hb)
                refine hK.out _ _ ⟨(zKc BK310.out 0).trans rfl, (zKc BK310.out 1).trans rfl, ((HB.out.cell (World.block_lt_of_cell? w _ hw319_0)).trans hw319_0), ((HB.out.cell (World.block_lt_of_cell? w _ hw319_1)).trans hw319_1), ((HB.out.cell (World.block_lt_of_cell? w _ hw319_2)).trans hw319_2), ((HB.out.cell (World.block_lt_of_cell? w _ hw320_0)).trans hw320_0), ((HB.out.cell (World.block_lt_of_cell? w _ hw320_1)).trans hw320_1), ((HB.out.cell (World.block_lt_of_cell? w _ hw320_2)).trans hw320_2)⟩ (fun hHeld => ?_)
                clear hK K
                refine norm_ (a' := ?_) ?_ ?_
                rotate_left
                · show Act.put _ (some 74) _ = _
                  simp only [Act.put, zSa, zSb, zSc, i64_w, i32_w]
                  rfl
                refine done_ (done_of HT_.out (by kernel_rfl)) ?_
                try go_wp2
                go_ret
                exact ⟨by first | rfl | (simp [errW_none, errW_some] <;> rfl) | (simp only [← hji31]; first | rfl | (simp [errW_none, errW_some] <;> rfl)) | (simp [*, errW_none, errW_some] <;> rfl), by exact uT HB.out⟩
              · replace c35 := Bool.eq_false_iff.mpr c35
                subst c35
                replace H : (some 7) = some r := by rw [if_neg (show ¬ (false = true) by decide)] at H; exact H
                obtain rfl := zOi H
                try go_wp2
                replace BK310 := zMk (zKd BK310.out)
                replace HB := zMk (zBd HB.out)
                have p319 : 0 ≤ (x4_1 : Int) := of_decide_eq_true (by assumption)
                have q319 : x4_1 < (l0_1.length : Int) := of_decide_eq_true (by assumption)
                obtain ⟨ad319, e319, hx319_0, hx319_1, hx319_2⟩ := at_T43 HR0_1.out x4_1 p319 q319
                have hw319_2 := hx319_2
                have hw319_1 := hx319_1
                have hw319_0 := hx319_0
                obtain rfl : ad312 = ad319 := (by injection e319)
                replace hx319_0 := (HB.out.cell (World.block_lt_of_cell? w _ hx319_0)).trans hx319_0
                replace hx319_1 := (HB.out.cell (World.block_lt_of_cell? w _ hx319_1)).trans hx319_1
                replace hx319_2 := (HB.out.cell (World.block_lt_of_cell? w _ hx319_2)).trans hx319_2
                replace p319 := eq_true p319
                replace q319 := eq_true q319
                have p320 : 0 ≤ ((ji31) : Int) := of_decide_eq_true (by assumption)
                have q320 : (ji31) < (l0_1.length : Int) := of_decide_eq_true (by assumption)
                obtain ⟨ad320, e320, hx320_0, hx320_1, hx320_2⟩ := at_T43 HR0_1.out (ji31) p320 q320
                have hw320_2 := hx320_2
                have hw320_1 := hx320_1
                have hw320_0 := hx320_0
                obtain rfl : ad312 = ad320 := (by injection e320)
                replace hx320_0 := (HB.out.cell (World.block_lt_of_cell? w _ hx320_0)).trans hx320_0
                replace hx320_1 := (HB.out.cell (World.block_lt_of_cell? w _ hx320_1)).trans hx320_1
                replace hx320_2 := (HB.out.cell (World.block_lt_of_cell? w _ hx320_2)).trans hx320_2
                replace p320 := eq_true p320
                replace q320 := eq_true q320
                refine start_ (n := 12) (S := fun w' => w'.cell? ⟨gb310, 0, none⟩ = some (.int .i64 a0_0) ∧ w'.cell? ⟨gb310, 1, none⟩ = some (.slice (some ad312) l0_1.length c0_1) ∧ w'.cell? (ad312.add ((x4_1).toNat * 3)) = some (.int .i64 ((rd_T43 l0_1 x4_1).f0)) ∧ w'.cell? ⟨(ad312.add ((x4_1).toNat * 3)).block, (ad312.add ((x4_1).toNat * 3)).off + 1, none⟩ = some (.int .i64 ((rd_T43 l0_1 x4_1).f1)) ∧ w'.cell? ⟨(ad312.add ((x4_1).toNat * 3)).block, (ad312.add ((x4_1).toNat * 3)).off + 2, none⟩ = some (.int .i64 ((rd_T43 l0_1 x4_1).f2)) ∧ w'.cell? (ad312.add (((ji31)).toNat * 3)) = some (.int .i64 ((rd_T43 l0_1 (ji31)).f0)) ∧ w'.cell? ⟨(ad312.add (((ji31)).toNat * 3)).block, (ad312.add (((ji31)).toNat * 3)).off + 1, none⟩ = some (.int .i64 ((rd_T43 l0_1 (ji31)).f1)) ∧ w'.cell? ⟨(ad312.add (((ji31)).toNat * 3)).block, (ad312.add (((ji31)).toNat * 3)).off + 2, none⟩ = some (.int .i64 ((rd_T43 l0_1 (ji31)).f2))) (ds := []) #[false, false, false, false, false, false, false, false, false, false, false, false] (by kernel_rfl) rfl rfl ⟨(zKc BK310.out 0).trans rfl, (zKc BK310.out 1).trans rfl, ((HB.out.cell (World.block_lt_of_cell? w _ hw319_0)).trans hw319_0), ((HB.out.cell (World.block_lt_of_cell? w _ hw319_1)).trans hw319_1), ((HB.out.cell (World.block_lt_of_cell? w _ hw319_2)).trans hw319_2), ((HB.out.cell (World.block_lt_of_cell? w _ hw320_0)).trans hw320_0), ((HB.out.cell (World.block_lt_of_cell? w _ hw320_1)).trans hw320_1), ((HB.out.cell (World.block_lt_of_cell? w _ hw320_2)).trans hw320_2)⟩ (fun hHeld => ?_); refine with_tabW filigreeref04_Right.tab13 filigreeref04_Right.bits13 (fun HT_ HW_ => ?_)
                generalize wc.drew = w38 at BK310 HB hx319_0 hx319_1 hx319_2 hx320_0 hx320_1 hx320_2 hHeld ⊢
                refine pure_ (i := 0) (N := some 63) (v := ?_) (a' := ?_) #[true, false, false, false, false, false, false, false, false, false, false, false] rfl rfl (any_of HT_.out (by kernel_rfl)) (fun _ _ _ h => h) (Or.inl ⟨by rfl, ?_⟩) ?_ ?_
                rotate_left
                · intro w'
                  go_simp
                  with_reducible rfl
                rotate_left
                · simp only [Act.put, zSa, zSb, zSc, i64_w, i32_w]
                  rfl
                refine pure_ (i := 2) (N := some 65) (v := ?_) (a' := ?_) #[true, false, true, false, false, false, false, false, false, false, false, false] rfl rfl (any_of HT_.out (by kernel_rfl)) (fun _ _ _ h => h) (Or.inl ⟨by rfl, ?_⟩) ?_ ?_
                rotate_left
                · intro w'
                  go_simp
                  with_reducible rfl
                rotate_left
                · simp only [Act.put, zSa, zSb, zSc, i64_w, i32_w]
                  rfl
                refine pure_ (i := 5) (N := some 68) (v := ?_) (a' := ?_) #[true, false, true, false, false, true, false, false, false, false, false, false] rfl rfl (any_of HT_.out (by kernel_rfl)) (fun _ _ _ h => h) (Or.inl ⟨by rfl, ?_⟩) ?_ ?_
                rotate_left
                · intro w'
                  go_simp
                  with_reducible rfl
                rotate_left
                · simp only [Act.put, zSa, zSb, zSc, i64_w, i32_w]
                  rfl
                refine pure_ (i := 7) (N := some 70) (v := ?_) (a' := ?_) #[true, false, true, false, false, true, false, true, false, false, false, false] rfl rfl (any_of HT_.out (by kernel_rfl)) (fun _ _ _ h => h) (Or.inl ⟨by rfl, ?_⟩) ?_ ?_
                rotate_left
                · intro w'
                  go_simp
                  with_reducible rfl
                rotate_left
                · simp only [Act.put, zSa, zSb, zSc, i64_w, i32_w]
                  rfl
                refine pure_ (i := 8) (N := some 71) (v := ?_) (a' := ?_) #[true, false, true, false, false, true, false, true, true, false, false, false] rfl rfl (any_of HT_.out (by kernel_rfl)) (fun _ _ _ h => h) (Or.inl ⟨by rfl, ?_⟩) ?_ ?_
                rotate_left
                · intro w'
                  go_simp
                  with_reducible rfl
                rotate_left
                · simp only [Act.put, zSa, zSb, zSc, i64_w, i32_w]
                  rfl
                refine take_ (i := 1) (N := some 64) (v := ?_) (a' := ?_) #[true, true, true, false, false, true, false, true, true, false, false, false] rfl rfl (take_ofW HT_.out HW_.out (by kernel_rfl)) (fun _ _ _ h => h) (Or.inl ⟨by rfl, ?_⟩) hHeld ?_ ?_
                rotate_left
                · rintro w' ⟨s0, s1, s2, s3, s4, s5, s6, s7⟩
                  go_simp
                  with_reducible rfl
                rotate_left
                · simp only [Act.put, zSa, zSb, zSc, i64_w, i32_w]
                  rfl
                refine pure_ (i := 3) (N := some 66) (v := ?_) (a' := ?_) #[true, true, true, true, false, true, false, true, true, false, false, false] rfl rfl (any_of HT_.out (by kernel_rfl)) (fun _ _ _ h => h) (Or.inl ⟨by rfl, ?_⟩) ?_ ?_
                rotate_left
                · intro w'
                  go_simp
                  with_reducible rfl
                rotate_left
                · simp only [Act.put, zSa, zSb, zSc, i64_w, i32_w]
                  rfl
                refine take_ (i := 4) (N := some 67) (v := ?_) (a' := ?_) #[true, true, true, true, true, true, false, true, true, false, false, false] rfl rfl (take_ofW HT_.out HW_.out (by kernel_rfl)) (fun _ _ _ h => h) (Or.inl ⟨by rfl, ?_⟩) hHeld ?_ ?_
                rotate_left
                · rintro w' ⟨s0, s1, s2, s3, s4, s5, s6, s7⟩
                  go_simp
                  with_reducible rfl
                rotate_left
                · simp only [Act.put, zSa, zSb, zSc, i64_w, i32_w]
                  rfl
                refine take_ (i := 6) (N := some 69) (v := ?_) (a' := ?_) #[true, true, true, true, true, true, true, true, true, false, false, false] rfl rfl (take_ofW HT_.out HW_.out (by kernel_rfl)) (fun _ _ _ h => h) (Or.inl ⟨by rfl, ?_⟩) hHeld ?_ ?_
                rotate_left
                · rintro w' ⟨s0, s1, s2, s3, s4, s5, s6, s7⟩
                  go_simp
                  with_reducible rfl
                rotate_left
                · simp only [Act.put, zSa, zSb, zSc, i64_w, i32_w]
                  rfl
                refine pure_ (i := 9) (N := some 72) (v := ?_) (a' := ?_) #[true, true, true, true, true, true, true, true, true, true, false, false] rfl rfl (any_of HT_.out (by kernel_rfl)) (fun _ _ _ h => h) (Or.inl ⟨by rfl, ?_⟩) ?_ ?_
                rotate_left
                · intro w'
                  go_simp
                  with_reducible rfl
                rotate_left
                · simp only [Act.put, zSa, zSb, zSc, i64_w, i32_w]
                  rfl
                refine take_ (i := 10) (N := some 73) (v := ?_) (a' := ?_) #[true, true, true, true, true, true, true, true, true, true, true, false] rfl rfl (take_ofW HT_.out HW_.out (by kernel_rfl)) (fun _ _ _ h => h) (Or.inl ⟨by rfl, ?_⟩) hHeld ?_ ?_
                rotate_left
                · rintro w' ⟨s0, s1, s2, s3, s4, s5, s6, s7⟩
                  go_simp
                  with_reducible rfl
                rotate_left
                · simp only [Act.put, zSa, zSb, zSc, i64_w, i32_w]
                  rfl
                refine one_ (i := 11) (N := some 74) #[true, true, true, true, true, true, true, true, true, true, true, true] rfl rfl (one_of HT_.out (by kernel_rfl)) (by decide) (fun K hK => ?_)
                refine goes_ Try.func26 (by kernel_rfl) rfl #[.agg #[.int .i64 ((rd_T43 l0_1 x4_1).f0), .int .i64 ((rd_T43 l0_1 x4_1).f1), .int .i64 ((rd_T43 l0_1 x4_1).f2)], .agg #[.int .i64 ((rd_T43 l0_1 (ji31)).f0), .int .i64 ((rd_T43 l0_1 (ji31)).f1), .int .i64 ((rd_T43 l0_1 (ji31)).f2)]] (by rfl) rfl rfl (by (try simp only [zMa, zMc, zMn]); first | done | (simp only [hji31]; rfl) | rfl | (simp only [zLd, zLt]; rfl)) ?_
                with_reducible refine (filigreeref04_below.calls ((rd_T43 l0_1 x4_1).f0) ((rd_T43 l0_1 x4_1).f1) ((rd_T43 l0_1 x4_1).f2) ((rd_T43 l0_1 (ji31)).f0) ((rd_T43 l0_1 (ji31)).f1) ((rd_T43 l0_1 (ji31)).f2) false _ A34.out).mono ?_
                rintro e w39 ⟨rfl, hb⟩
                refine ⟨_, rfl, ?_⟩
                replace BK310 := zMk (zKb (g := gb310) (o := .cells #[.int .i64 a0_0, .slice (some ad312) l0_1.length c0_1] 24 (0, 0)) (by (with_reducible repeat (first | refine zKn ?_ _ | refine zKd ?_ | refine zKa ?_ _)); exact BK310.out) hb)
                replace HB := zMk (zBt (by exact uT HB.out) hb)
                refine hK.out _ _ ⟨(zKc BK310.out 0).trans rfl, (zKc BK310.out 1).trans rfl, ((HB.out.cell (World.block_lt_of_cell? w _ hw319_0)).trans hw319_0), ((HB.out.cell (World.block_lt_of_cell? w _ hw319_1)).trans hw319_1), ((HB.out.cell (World.block_lt_of_cell? w _ hw319_2)).trans hw319_2), ((HB.out.cell (World.block_lt_of_cell? w _ hw320_0)).trans hw320_0), ((HB.out.cell (World.block_lt_of_cell? w _ hw320_1)).trans hw320_1), ((HB.out.cell (World.block_lt_of_cell? w _ hw320_2)).trans hw320_2)⟩ (fun hHeld => ?_)
                clear hK K
                refine norm_ (a' := ?_) ?_ ?_
                rotate_left
                · show Act.put _ (some 74) _ = _
                  simp only [Act.put, zSa, zSb, zSc, i64_w, i32_w]
                  rfl
                refine done_ (done_of HT_.out (by kernel_rfl)) ?_
                try go_wp2
                go_ret
                exact ⟨by first | rfl | (simp [errW_none, errW_some] <;> rfl) | (simp only [← hji31]; first | rfl | (simp [errW_none, errW_some] <;> rfl)) | (simp [*, errW_none, errW_some] <;> rfl), by exact uT HB.out⟩
            · replace c28 := Bool.eq_false_iff.mpr c28
              subst c28
              replace H : (filigreeref04_Right.l0 kj14 (wrap64 (x4_1 + 1)) a0_0 l0_1) = some r := by rw [if_neg (show ¬ (false = true) by decide)] at H; exact H
              have H' := zMk H
              clear H
              go_wp2
              go_roundg kj14
              case measure => have := HK1.out; have := HJ14.out; omega
              case rel => exact ⟨(wrap64 (x4_1 + 1)), (by first | rfl | (simp; done) | (simp [*]; done)), H', ⟨by have := HK1.out; have := HJ14.out; omega⟩, ⟨by (with_reducible repeat (first | refine zKn ?_ _ | refine zKd ?_ | refine zKa ?_ _)); exact BK310.out⟩, ⟨by exact uT HB.out⟩⟩
      · rw [if_neg c9] at H
        have c9b0 : (t313 == 0) = false := beq_eq_false_iff_ne.mpr c9
        have c9b1 : (t313 != 0) = true := bne_iff_ne.mpr c9
        obtain rfl := zOi H
        have hcz40_0 : wr.cell? ⟨gb310, 0, none⟩ = some (.int .i64 a0_0) := (zKc BK310.out 0).trans rfl
        have hcz40_1 : wr.cell? ⟨gb310, 1, none⟩ = some (.slice A0_1 l0_1.length c0_1) := (zKc BK310.out 1).trans rfl
        have hfz40_0 := zKf BK310.out 0
        have hfz40_1 := zKf BK310.out 1
        try go_wp2
        replace BK310 := zMk (zKd BK310.out)
        replace HB := zMk (zBd HB.out)
        have p312 : 0 ≤ (x4_1 : Int) := of_decide_eq_true (by assumption)
        have q312 : x4_1 < (l0_1.length : Int) := of_decide_eq_true (by assumption)
        obtain ⟨ad312, e312, hx312_0, hx312_1, hx312_2⟩ := at_T43 HR0_1.out x4_1 p312 q312
        have hw312_2 := hx312_2
        have hw312_1 := hx312_1
        have hw312_0 := hx312_0
        cases e312
        replace hx312_0 := (HB.out.cell (World.block_lt_of_cell? w _ hx312_0)).trans hx312_0
        replace hx312_1 := (HB.out.cell (World.block_lt_of_cell? w _ hx312_1)).trans hx312_1
        replace hx312_2 := (HB.out.cell (World.block_lt_of_cell? w _ hx312_2)).trans hx312_2
        replace p312 := eq_true p312
        replace q312 := eq_true q312
        refine start_ (n := 9) (S := fun w' => w'.cell? ⟨gb310, 0, none⟩ = some (.int .i64 a0_0) ∧ w'.cell? ⟨gb310, 1, none⟩ = some (.slice (some ad312) l0_1.length c0_1) ∧ w'.cell? (ad312.add ((x4_1).toNat * 3)) = some (.int .i64 ((rd_T43 l0_1 x4_1).f0)) ∧ w'.cell? ⟨(ad312.add ((x4_1).toNat * 3)).block, (ad312.add ((x4_1).toNat * 3)).off + 1, none⟩ = some (.int .i64 ((rd_T43 l0_1 x4_1).f1)) ∧ w'.cell? ⟨(ad312.add ((x4_1).toNat * 3)).block, (ad312.add ((x4_1).toNat * 3)).off + 2, none⟩ = some (.int .i64 ((rd_T43 l0_1 x4_1).f2))) (ds := []) #[false, false, false, false, false, false, false, false, false] (by kernel_rfl) rfl rfl ⟨(zKc BK310.out 0).trans rfl, (zKc BK310.out 1).trans rfl, ((HB.out.cell (World.block_lt_of_cell? w _ hw312_0)).trans hw312_0), ((HB.out.cell (World.block_lt_of_cell? w _ hw312_1)).trans hw312_1), ((HB.out.cell (World.block_lt_of_cell? w _ hw312_2)).trans hw312_2)⟩ (fun hHeld => ?_); refine with_tabW filigreeref04_Right.tab7 filigreeref04_Right.bits7 (fun HT_ HW_ => ?_)
        generalize wr.drew = w41 at BK310 HB hx312_0 hx312_1 hx312_2 hHeld ⊢
        refine pure_ (i := 0) (N := some 22) (v := ?_) (a' := ?_) #[true, false, false, false, false, false, false, false, false] rfl rfl (any_of HT_.out (by kernel_rfl)) (fun _ _ _ h => h) (Or.inl ⟨by rfl, ?_⟩) ?_ ?_
        rotate_left
        · intro w'
          go_simp
          with_reducible rfl
        rotate_left
        · simp only [Act.put, zSa, zSb, zSc, i64_w, i32_w]
          rfl
        refine pure_ (i := 2) (N := some 24) (v := ?_) (a' := ?_) #[true, false, true, false, false, false, false, false, false] rfl rfl (any_of HT_.out (by kernel_rfl)) (fun _ _ _ h => h) (Or.inl ⟨by rfl, ?_⟩) ?_ ?_
        rotate_left
        · intro w'
          go_simp
          with_reducible rfl
        rotate_left
        · simp only [Act.put, zSa, zSb, zSc, i64_w, i32_w]
          rfl
        refine pure_ (i := 4) (N := some 26) (v := ?_) (a' := ?_) #[true, false, true, false, true, false, false, false, false] rfl rfl (any_of HT_.out (by kernel_rfl)) (fun _ _ _ h => h) (Or.inl ⟨by rfl, ?_⟩) ?_ ?_
        rotate_left
        · intro w'
          go_simp
          with_reducible rfl
        rotate_left
        · simp only [Act.put, zSa, zSb, zSc, i64_w, i32_w]
          rfl
        refine take_ (i := 1) (N := some 23) (v := ?_) (a' := ?_) #[true, true, true, false, true, false, false, false, false] rfl rfl (take_ofW HT_.out HW_.out (by kernel_rfl)) (fun _ _ _ h => h) (Or.inl ⟨by rfl, ?_⟩) hHeld ?_ ?_
        rotate_left
        · rintro w' ⟨s0, s1, s2, s3, s4⟩
          go_simp
          with_reducible rfl
        rotate_left
        · simp only [Act.put, zSa, zSb, zSc, i64_w, i32_w]
          rfl
        refine take_ (i := 3) (N := some 25) (v := ?_) (a' := ?_) #[true, true, true, true, true, false, false, false, false] rfl rfl (take_ofW HT_.out HW_.out (by kernel_rfl)) (fun _ _ _ h => h) (Or.inl ⟨by rfl, ?_⟩) hHeld ?_ ?_
        rotate_left
        · rintro w' ⟨s0, s1, s2, s3, s4⟩
          go_simp
          with_reducible rfl
        rotate_left
        · simp only [Act.put, zSa, zSb, zSc, i64_w, i32_w]
          rfl
        refine pure_ (i := 5) (N := some 27) (v := ?_) (a' := ?_) #[true, true, true, true, true, true, false, false, false] rfl rfl (any_of HT_.out (by kernel_rfl)) (fun _ _ _ h => h) (Or.inl ⟨by rfl, ?_⟩) ?_ ?_
        rotate_left
        · intro w'
          go_simp
          with_reducible rfl
        rotate_left
        · simp only [Act.put, zSa, zSb, zSc, i64_w, i32_w]
          rfl
        refine take_ (i := 6) (N := some 28) (v := ?_) (a' := ?_) #[true, true, true, true, true, true, true, false, false] rfl rfl (take_ofW HT_.out HW_.out (by kernel_rfl)) (fun _ _ _ h => h) (Or.inl ⟨by rfl, ?_⟩) hHeld ?_ ?_
        rotate_left
        · rintro w' ⟨s0, s1, s2, s3, s4⟩
          go_simp
          with_reducible rfl
        rotate_left
        · simp only [Act.put, zSa, zSb, zSc, i64_w, i32_w]
          rfl
        refine one_ (i := 7) (N := some 29) #[true, true, true, true, true, true, true, true, false] rfl rfl (one_of HT_.out (by kernel_rfl)) (by decide) (fun K hK => ?_)
        refine goes_ Try.func25 (by kernel_rfl) rfl #[.int .i64 a0_0, .agg #[.int .i64 ((rd_T43 l0_1 x4_1).f0), .int .i64 ((rd_T43 l0_1 x4_1).f1), .int .i64 ((rd_T43 l0_1 x4_1).f2)]] (by rfl) rfl rfl (by (try simp only [zMa, zMc, zMn]); first | done | rfl | (simp only [zLd, zLt]; rfl)) ?_
        with_reducible refine (filigreeref04_edge.calls k1 a0_0 ((rd_T43 l0_1 x4_1).f0) ((rd_T43 l0_1 x4_1).f1) ((rd_T43 l0_1 x4_1).f2) t313 _ A8.out).mono ?_
        rintro e w42 ⟨rfl, hb⟩
        refine ⟨_, rfl, ?_⟩
        replace BK310 := zMk (zKb (g := gb310) (o := .cells #[.int .i64 a0_0, .slice (some ad312) l0_1.length c0_1] 24 (0, 0)) (by (with_reducible repeat (first | refine zKn ?_ _ | refine zKd ?_ | refine zKa ?_ _)); exact BK310.out) hb)
        replace HB := zMk (zBt (by exact uT HB.out) hb)
        refine hK.out _ _ ⟨(zKc BK310.out 0).trans rfl, (zKc BK310.out 1).trans rfl, ((HB.out.cell (World.block_lt_of_cell? w _ hw312_0)).trans hw312_0), ((HB.out.cell (World.block_lt_of_cell? w _ hw312_1)).trans hw312_1), ((HB.out.cell (World.block_lt_of_cell? w _ hw312_2)).trans hw312_2)⟩ (fun hHeld => ?_)
        clear hK K
        refine norm_ (a' := ?_) ?_ ?_
        rotate_left
        · show Act.put _ (some 29) _ = _
          simp only [Act.put, zSa, zSb, zSc, i64_w, i32_w]
          rfl
        refine pure_ (i := 8) (N := some 5) (v := ?_) (a' := ?_) #[true, true, true, true, true, true, true, true, true] rfl rfl (any_of HT_.out (by kernel_rfl)) (fun _ _ _ h => h) (Or.inl ⟨by rfl, ?_⟩) ?_ ?_
        rotate_left
        · intro w'
          go_simp
          with_reducible rfl
        rotate_left
        · simp only [Act.put, zSa, zSb, zSc, i64_w, i32_w]
          rfl
        refine done_ (done_of HT_.out (by kernel_rfl)) ?_
        try go_wp2
        go_ret
        exact ⟨by first | rfl | (simp [errW_none, errW_some] <;> rfl) | (simp [*, errW_none, errW_some] <;> rfl), by exact uT HB.out⟩
    · rw [if_neg c6] at H
      have c6b0 : decide (x4_1 < (l0_1.length : Int)) = false := decide_eq_false c6
      clear c6
      obtain rfl := zOi H
      have hcz43_0 : wr.cell? ⟨gb310, 0, none⟩ = some (.int .i64 a0_0) := (zKc BK310.out 0).trans rfl
      have hcz43_1 : wr.cell? ⟨gb310, 1, none⟩ = some (.slice A0_1 l0_1.length c0_1) := (zKc BK310.out 1).trans rfl
      have hfz43_0 := zKf BK310.out 0
      have hfz43_1 := zKf BK310.out 1
      go_wp2
      go_ret
      exact ⟨by first | rfl | (simp [errW_none, errW_some] <;> rfl) | (simp [*, errW_none, errW_some] <;> rfl), by exact uT HB.out⟩
  · rw [if_neg c3] at H
    have c3b0 : (t311 == 0) = false := beq_eq_false_iff_ne.mpr c3
    have c3b1 : (t311 != 0) = true := bne_iff_ne.mpr c3
    obtain rfl := zOi H
    go_enter Try.func10, Try.ntmps10
    go_wp2_with (first | ((with_reducible refine gate_dst (N := 1) rfl ?_); refine box_event ?hg (N := 1) ?hd (cs := #[.int .i64 a0_0, .slice A0_1 l0_1.length c0_1]) (t := 24) ?hr ?_; (case hd => rfl); (case hg => rfl); (case hr => first | (go_simp; done)|(go_simp; rfl)|(go_simp; rw [show ∀ x : Int, IntKind.u32.wrap (IntKind.u8.wrap x) = x % 256 from fun x => (by show (x % 256) % 4294967296 = x % 256; omega)])); intro gb310 hg w44 hbox hb; have BK310 := zMk (hbox); have GW310 := zMk ((by rw [hg]; exact (zBs (by exact uT HB.out)) : w.heap.size ≤ gb310)); have GE310 := zMk ((by rw [hg]; exact (zBs (by exact uT HB.out)) : w.heap.size ≤ gb310)); have IGE310 := ownGe GE310.out; replace HB := zMk (zBt (by exact uT HB.out) hb); clear hb hbox hg; have hcz45_0 : w44.cell? ⟨gb310, 0, none⟩ = some (.int .i64 a0_0) := (zKc BK310.out 0).trans rfl; have hcz45_1 : w44.cell? ⟨gb310, 1, none⟩ = some (.slice A0_1 l0_1.length c0_1) := (zKc BK310.out 1).trans rfl; have hfz45_0 := zKf BK310.out 0; have hfz45_1 := zKf BK310.out 1)|((with_reducible refine gate_callee (f := 24) rfl ?_); refine goesL_ (some 11) rfl rfl Try.func24 (by kernel_rfl) rfl #[.int .i64 a0_0, .int .i64 (l0_1.length : Int)] rfl (by (try simp only [zMa, zMc, zMn]); first |  done|  rfl|  (simp only [zLd, zLt]; rfl)) ?_; (with_reducible refine (filigreeref04_many.calls a0_0 (l0_1.length : Int) t311 _ A2.out).mono ?_); rintro e w' ⟨rfl, ⟨nd, rfl⟩⟩; refine ⟨_, rfl, ?_⟩))
    go_ret
    exact ⟨by first | rfl | (simp [errW_none, errW_some] <;> rfl) | (simp [*, errW_none, errW_some] <;> rfl), by exact uT HB.out⟩

theorem w64 {x : Int} (h0 : -9223372036854775808 ≤ x) (h1 : x ≤ 9223372036854775807) : wrap64 x = x := by unfold wrap64; omega
def aloneI (n : Int) (e : S43) : Int :=
  if e.f0 < 0 ∨ e.f0 ≥ n ∨ e.f1 < 0 ∨ e.f1 ≥ n then 5 else if e.f0 = e.f1 then 6 else if e.f2 ≤ -2147483648 ∨ e.f2 ≥ 2147483648 then 8 else 0
theorem alone_eq (k : Nat) (n : Int) (e : S43) : graph_alone.f (k + 1) n e.f0 e.f1 e.f2 = some (aloneI n e) := by
  unfold graph_alone.f aloneI
  simp only [graph_alone.j0, mn, mx, if_true]
  by_cases h1 : e.f1 < e.f0 <;> by_cases h2 : e.f0 < e.f1 <;> simp only [h1, h2, if_true, if_false]
  all_goals repeat' split
  all_goals first | rfl | (exfalso; omega) | (exfalso; simp only [decide_eq_true_eq] at *; omega)
theorem edge_eq (k : Nat) (n : Int) (e : S43) : filigreeref04_edge.f (k + 1) n e.f0 e.f1 e.f2 = some (aloneI n e) := by
  unfold filigreeref04_edge.f aloneI
  simp only [filigreeref04_edge.j0, decide_eq_true_eq, if_true]
  repeat' split
  all_goals first | rfl | (exfalso; omega) | (exfalso; simp only [decide_eq_true_eq] at *; omega)
def ordE (a b : S43) : Int := if a.f0 < b.f0 then -1 else if b.f0 < a.f0 then 1 else if a.f1 < b.f1 then -1 else if b.f1 < a.f1 then 1 else 0
theorem compare_eq (a b : Int) : cmp_Compare_int.f a b = some (if a < b then -1 else if b < a then 1 else 0) := by
  simp only [cmp_Compare_int.f, cmp_isNaN_int.f, zOb, bne_self_eq_false, Bool.false_eq_true, if_false]
  repeat' split
  all_goals first | rfl | omega
theorem or_eq (k : Nat) (p q : Int) : cmp_Or_int.f (k + 3) [p, q] = some (if p = 0 then q else p) := by
  unfold cmp_Or_int.f
  simp only [cmp_Or_int.l0, zLc, zLn]
  by_cases hp : p = 0
  · subst hp
    by_cases hq : q = 0
    · subst hq; simp [rd, wrap64]
    · simp [rd, wrap64, hq]
  · simp [rd, hp]
theorem order_eq (k : Nat) (a b : S43) : graph_order.f (k + 3) a.f0 a.f1 a.f2 b.f0 b.f1 b.f2 = some (ordE a b) := by
  simp only [graph_order.f, compare_eq, zOb, or_eq, ordE]
  congr 1
  repeat' split
  all_goals omega
theorem below_eq (a b : S43) : filigreeref04_below.f a.f0 a.f1 a.f2 b.f0 b.f1 b.f2 = some (decide (ordE a b = -1)) := by
  unfold filigreeref04_below.f ordE
  by_cases h1 : a.f0 < b.f0
  · simp [h1]
  · rw [if_neg h1, if_neg h1]
    by_cases h2 : b.f0 < a.f0
    · rw [if_neg (by omega), if_pos h2]; simp
    · rw [if_pos (by omega), if_neg h2]
      by_cases h3 : a.f1 < b.f1
      · simp [h3]
      · rw [if_neg h3]
        by_cases h4 : b.f1 < a.f1
        · rw [if_pos h4]; simp [h3]
        · rw [if_neg h4]; simp [h3]
theorem ordE_swap (a b : S43) : ordE b a = - ordE a b := by
  unfold ordE
  repeat' split
  all_goals omega
theorem ordE_cases (a b : S43) : ordE a b = -1 ∨ ordE a b = 0 ∨ ordE a b = 1 := by
  unfold ordE
  repeat' split
  all_goals simp
def rgt (n : Int) : Option S43 → List S43 → Int
  | _, [] => 0
  | p, e :: l =>
    if aloneI n e ≠ 0 then aloneI n e
    else if e.f0 > e.f1 then 1
    else match p with
      | none => rgt n (some e) l
      | some p => if ordE p e = 0 then 7 else if ordE p e = 1 then 1 else rgt n (some e) l
def sizesI (n m : Int) : Int := if n < 0 then 1 else if n > 1048576 then 4 else if m > 4194304 then 4 else 0
theorem sizes_eq (n m : Int) : graph_sizes.f n m = some (sizesI n m) := by
  unfold graph_sizes.f sizesI
  repeat' split
  all_goals rfl
theorem many_eq (n m : Int) : filigreeref04_many.f n m = some (sizesI n m) := by
  unfold filigreeref04_many.f sizesI
  repeat' split
  all_goals rfl
def rightI (n : Int) (l : List S43) : Int := if sizesI n l.length = 0 then rgt n none l else sizesI n l.length
def lastE (l : List S43) (i : Nat) : Option S43 := if i = 0 then none else some (rd_T43 l ((i - 1 : Nat) : Int))
theorem rdE_get (l : List S43) (i : Nat) (h : i < l.length) : rd_T43 l (i : Int) = l[i] := by
  unfold rd_T43
  rw [zTn]
  simp [h]
theorem dropE (l : List S43) (i : Nat) (h : i < l.length) : l.drop i = rd_T43 l (i : Int) :: l.drop (i + 1) := by
  rw [List.drop_eq_getElem_cons h, rdE_get l i h]
theorem Right_l0 (n : Int) (l : List S43) (hm : l.length ≤ 4194304) (d : Nat) : ∀ (k i : Nat), l.length - i = d → i ≤ l.length → d + 4 ≤ k →
    graph_Right.l0 k l (l.length : Int) i n l = some (rgt n (lastE l i) (l.drop i)) := by
  induction d with
  | zero =>
    intro k i hd hi hk
    obtain ⟨k, rfl⟩ : ∃ m, k = m + 1 := ⟨k - 1, by omega⟩
    obtain rfl : i = l.length := by omega
    rw [List.drop_length]
    simp only [graph_Right.l0]
    rw [if_neg (by omega)]
    simp [rgt]
  | succ d ih =>
    intro k i hd hi hk
    obtain ⟨k, rfl⟩ : ∃ m, k = m + 1 := ⟨k - 1, by omega⟩
    obtain ⟨k1, hk1⟩ : ∃ m, k = m + 1 := ⟨k - 1, by omega⟩
    obtain ⟨k3, hk3⟩ : ∃ m, k = m + 3 := ⟨k - 3, by omega⟩
    have hlt : i < l.length := by omega
    rw [dropE l i hlt]
    have hnext := ih k (i + 1) (by omega) (by omega) (by omega)
    have hl1 : lastE l (i + 1) = some (rd_T43 l (i : Int)) := by unfold lastE; rw [if_neg (by omega)]; rfl
    rw [hl1] at hnext
    have hwn : wrap64 ((i : Int) + 1) = ((i + 1 : Nat) : Int) := by rw [w64 (by omega) (by omega)]; omega
    simp only [graph_Right.l0]
    rw [if_pos (by omega), if_pos (by omega), if_pos (by omega)]
    have ha : graph_alone.f k n (rd_T43 l (i : Int)).f0 (rd_T43 l (i : Int)).f1 (rd_T43 l (i : Int)).f2 = some (aloneI n (rd_T43 l (i : Int))) := by rw [hk1]; exact alone_eq _ _ _
    rw [ha, zOb]
    unfold rgt
    by_cases h0 : aloneI n (rd_T43 l (i : Int)) = 0
    · rw [if_pos h0, if_neg (not_not_intro h0)]
      by_cases hgt : (rd_T43 l (i : Int)).f0 > (rd_T43 l (i : Int)).f1
      · rw [if_pos hgt, if_pos hgt]
      · rw [if_neg hgt, if_neg hgt]
        by_cases hi0 : i = 0
        · rw [if_pos (by omega), hwn, hnext]
          simp [lastE, hi0]
        · have hwm : wrap64 ((i : Int) - 1) = ((i - 1 : Nat) : Int) := by rw [w64 (by omega) (by omega)]; omega
          have ho : graph_order.f k (rd_T43 l ((i - 1 : Nat) : Int)).f0 (rd_T43 l ((i - 1 : Nat) : Int)).f1 (rd_T43 l ((i - 1 : Nat) : Int)).f2 (rd_T43 l (i : Int)).f0 (rd_T43 l (i : Int)).f1 (rd_T43 l (i : Int)).f2 = some (ordE (rd_T43 l ((i - 1 : Nat) : Int)) (rd_T43 l (i : Int))) := by rw [hk3]; exact order_eq _ _ _
          rw [if_neg (by omega), hwm, if_pos (by omega), if_pos (by omega), ho, zOb, hwn, hnext]
          have hl0 : lastE l i = some (rd_T43 l ((i - 1 : Nat) : Int)) := by unfold lastE; rw [if_neg hi0]
          rw [hl0]
          repeat' split
          all_goals simp_all
    · rw [if_neg h0, if_pos h0]
theorem Right_eq (k : Nat) (n : Int) (l : List S43) (hk : l.length + 4 ≤ k) : graph_Right.f k n l = some (rightI n l) := by
  unfold graph_Right.f rightI
  rw [sizes_eq, zOb]
  by_cases h : sizesI n l.length = 0
  · rw [if_pos h, if_pos h]
    have hm : l.length ≤ 4194304 := by
      unfold sizesI at h
      repeat' split at h
      all_goals omega
    have := Right_l0 n l hm l.length k 0 (by omega) (by omega) (by omega)
    simpa [lastE] using this
  · rw [if_neg h, if_neg h]
theorem refRight_l0 (n : Int) (l : List S43) (hm : l.length ≤ 4194304) (d : Nat) : ∀ (k i : Nat), l.length - i = d → i ≤ l.length → 2 * d + 3 ≤ k →
    filigreeref04_Right.l0 k i n l = some (rgt n (lastE l i) (l.drop i)) := by
  induction d with
  | zero =>
    intro k i hd hi hk
    obtain ⟨k, rfl⟩ : ∃ m, k = m + 1 := ⟨k - 1, by omega⟩
    obtain rfl : i = l.length := by omega
    rw [List.drop_length]
    simp only [filigreeref04_Right.l0]
    rw [if_neg (by omega)]
    simp [rgt]
  | succ d ih =>
    intro k i hd hi hk
    obtain ⟨k, rfl⟩ : ∃ m, k = m + 2 := ⟨k - 2, by omega⟩
    have hlt : i < l.length := by omega
    rw [dropE l i hlt]
    have hnext := ih k (i + 1) (by omega) (by omega) (by omega)
    have hl1 : lastE l (i + 1) = some (rd_T43 l (i : Int)) := by unfold lastE; rw [if_neg (by omega)]; rfl
    rw [hl1] at hnext
    have hwn : wrap64 ((i : Int) + 1) = ((i + 1 : Nat) : Int) := by rw [w64 (by omega) (by omega)]; omega
    simp only [filigreeref04_Right.l0]
    rw [if_pos (by omega), if_pos (by omega), edge_eq, zOb]
    unfold rgt
    by_cases h0 : aloneI n (rd_T43 l (i : Int)) = 0
    · rw [if_pos h0, if_neg (not_not_intro h0)]
      by_cases hgt : (rd_T43 l (i : Int)).f0 > (rd_T43 l (i : Int)).f1
      · rw [if_pos hgt, if_pos hgt]
      · rw [if_neg hgt, if_neg hgt]
        by_cases hi0 : i = 0
        · rw [if_neg (by omega)]
          simp only [filigreeref04_Right.j1]
          rw [if_neg (by simp), hwn, hnext]
          simp [lastE, hi0]
        · have hwm : wrap64 ((i : Int) - 1) = ((i - 1 : Nat) : Int) := by rw [w64 (by omega) (by omega)]; omega
          have hl0 : lastE l i = some (rd_T43 l ((i - 1 : Nat) : Int)) := by unfold lastE; rw [if_neg hi0]
          rw [if_pos (by omega), hwm, if_pos (by omega), if_pos (by omega), below_eq, zOb, hl0]
          simp only [filigreeref04_Right.j1]
          rw [hwm, hwn, hnext]
          have hsw := ordE_swap (rd_T43 l ((i - 1 : Nat) : Int)) (rd_T43 l (i : Int))
          rcases ordE_cases (rd_T43 l ((i - 1 : Nat) : Int)) (rd_T43 l (i : Int)) with h | h | h
          · rw [if_neg (by simp [h])]
            simp [h]
          · rw [if_pos (by simp [h]), if_pos (by omega), if_pos (by omega), if_pos (by omega), if_pos (by omega), below_eq, zOb, hsw, h]
            simp
          · rw [if_pos (by simp [h]), if_pos (by omega), if_pos (by omega), if_pos (by omega), if_pos (by omega), below_eq, zOb, hsw, h]
            simp
    · rw [if_neg h0, if_pos h0]
theorem refRight_eq (k : Nat) (n : Int) (l : List S43) (hk : 2 * l.length + 3 ≤ k) : filigreeref04_Right.f k n l = some (rightI n l) := by
  unfold filigreeref04_Right.f rightI
  rw [many_eq, zOb]
  by_cases h : sizesI n l.length = 0
  · rw [if_pos h, if_pos h]
    have hm : l.length ≤ 4194304 := by
      unfold sizesI at h
      repeat' split at h
      all_goals omega
    have := refRight_l0 n l hm l.length k 0 (by omega) (by omega) (by omega)
    simpa [lastE] using this
  · rw [if_neg h, if_neg h]
theorem w64n (i : Nat) (h : i ≤ 9000000000000000000) : wrap64 ((i : Int) + 1) = ((i + 1 : Nat) : Int) := by rw [w64 (by omega) (by omega)]; omega
inductive Cn (E : List S43) : Int → Int → Prop
  | refl (u : Int) : Cn E u u
  | fwd {u : Int} (e : S43) : e ∈ E → Cn E u e.f0 → Cn E u e.f1
  | bwd {u : Int} (e : S43) : e ∈ E → Cn E u e.f1 → Cn E u e.f0
theorem Cn.trans {E : List S43} {u v w : Int} (h1 : Cn E u v) (h2 : Cn E v w) : Cn E u w := by
  induction h2 with
  | refl => exact h1
  | fwd e he _ ih => exact .fwd e he ih
  | bwd e he _ ih => exact .bwd e he ih
theorem Cn.symm {E : List S43} {u v : Int} (h : Cn E u v) : Cn E v u := by
  induction h with
  | refl => exact .refl _
  | fwd e he _ ih => exact Cn.trans (.bwd e he (.refl _)) ih
  | bwd e he _ ih => exact Cn.trans (.fwd e he (.refl _)) ih
theorem Cn.mono {E F : List S43} {u v : Int} (hs : ∀ e ∈ E, e ∈ F) (h : Cn E u v) : Cn F u v := by
  induction h with
  | refl => exact .refl _
  | fwd e he _ ih => exact .fwd e (hs e he) ih
  | bwd e he _ ih => exact .bwd e (hs e he) ih
def Ends (N : Nat) (E : List S43) : Prop := ∀ e ∈ E, 0 ≤ e.f0 ∧ e.f0 < (N : Int) ∧ 0 ≤ e.f1 ∧ e.f1 < (N : Int)
theorem Cn.inn {N : Nat} {E : List S43} (hE : Ends N E) {u v : Int} (h : Cn E u v) (hu : 0 ≤ u ∧ u < (N : Int)) : 0 ≤ v ∧ v < (N : Int) := by
  cases h with
  | refl => exact hu
  | fwd e he _ => exact ⟨(hE e he).2.2.1, (hE e he).2.2.2⟩
  | bwd e he _ => exact ⟨(hE e he).1, (hE e he).2.1⟩
def Root (E : List S43) (r : Int) : Prop := ∀ v, 0 ≤ v → Cn E r v → r ≤ v
theorem root_ex (E : List S43) : ∀ (n : Nat) (v : Int), (∃ u : Int, 0 ≤ u ∧ u ≤ n ∧ Cn E v u) → ∃ r, 0 ≤ r ∧ Root E r ∧ Cn E v r
  | 0, v, ⟨u, h0, h1, hc⟩ => ⟨u, h0, fun x hx _ => by omega, hc⟩
  | n + 1, v, ⟨u, h0, h1, hc⟩ => by
    by_cases h : ∃ x : Int, 0 ≤ x ∧ x ≤ n ∧ Cn E v x
    · exact root_ex E n v h
    · refine ⟨u, h0, fun x hx hux => ?_, hc⟩
      have h2 : ¬ x ≤ n := fun h3 => h ⟨x, hx, h3, hc.trans hux⟩
      omega
theorem root_of (E : List S43) (v : Int) (hv : 0 ≤ v) : ∃ r, 0 ≤ r ∧ r ≤ v ∧ Root E r ∧ Cn E v r := by
  obtain ⟨r, h0, h1, h2⟩ := root_ex E v.toNat v ⟨v, hv, by omega, .refl _⟩
  exact ⟨r, h0, h1 v hv h2.symm, h1, h2⟩
theorem root_eq {E : List S43} {r s : Int} (hr0 : 0 ≤ r) (hs0 : 0 ≤ s) (hr : Root E r) (hs : Root E s) (h : Cn E r s) : r = s := by
  have h1 := hr s hs0 h
  have h2 := hs r hr0 h.symm
  omega
theorem up_eq {l m : List Int} (hl : l.Pairwise (· < ·)) (hm : m.Pairwise (· < ·)) (h : ∀ x, x ∈ l ↔ x ∈ m) : l = m := by
  refine List.Perm.eq_of_pairwise (le := fun a b : Int => a < b) (fun a b _ _ h1 h2 => by omega) hl hm ?_
  exact (List.perm_ext_iff_of_nodup (hl.imp (fun h => by omega)) (hm.imp (fun h => by omega))).2 h
def ups (N : Nat) : List Int := (List.range N).map fun i : Nat => (i : Int)
theorem mem_ups {N : Nat} {v : Int} : v ∈ ups N ↔ 0 ≤ v ∧ v < (N : Int) := by
  unfold ups
  rw [List.mem_map]
  constructor
  · rintro ⟨i, hi, rfl⟩; rw [List.mem_range] at hi; omega
  · rintro ⟨h0, h1⟩; exact ⟨v.toNat, List.mem_range.2 (by omega), by omega⟩
theorem ups_up (N : Nat) : (ups N).Pairwise (· < ·) := by
  unfold ups
  rw [List.pairwise_map]
  exact (List.pairwise_lt_range (n := N)).imp (fun h => by omega)
theorem ups_len (N : Nat) : (ups N).length = N := by simp [ups]
theorem rd_nat (l : List Int) (i : Nat) (h : i < l.length) : rd l (i : Int) = l[i] := by unfold rd; rw [zTn]; simp [h]
theorem rd_set (l : List Int) (i v x : Int) (hi : 0 ≤ i) (h : i < (l.length : Int)) (hv : 0 ≤ v) : rd (l.set i.toNat x) v = if v = i then x else rd l v := by
  unfold rd
  rw [List.getD_eq_getElem?_getD, List.getD_eq_getElem?_getD, List.getElem?_set]
  by_cases e : v = i
  · subst e
    rw [if_pos rfl, if_pos rfl, if_pos (by omega)]; rfl
  · rw [if_neg (by omega), if_neg e]
theorem rdb_set (l : List Bool) (i v : Int) (x : Bool) (hi : 0 ≤ i) (h : i < (l.length : Int)) (hv : 0 ≤ v) : rdOf false (l.set i.toNat x) v = if v = i then x else rdOf false l v := by
  unfold rdOf
  rw [List.getD_eq_getElem?_getD, List.getD_eq_getElem?_getD, List.getElem?_set]
  by_cases e : v = i
  · subst e
    rw [if_pos rfl, if_pos rfl, if_pos (by omega)]; rfl
  · rw [if_neg (by omega), if_neg e]
theorem rdb_rep (n : Nat) (x : Int) : rdOf false (List.replicate n false) x = false := by
  unfold rdOf
  rw [List.getD_eq_getElem?_getD, List.getElem?_replicate]
  split <;> rfl
theorem count_le (r : Int) : ∀ (l m : List Int), l.length = m.length → (∀ i : Nat, i < l.length → rd l i = r → rd m i = r) → l.count r ≤ m.count r
  | [], [], _, _ => Nat.le_refl _
  | [], _ :: _, h, _ => by simp at h
  | _ :: _, [], h, _ => by simp at h
  | a :: l, b :: m, h, hm => by
    have h1 := count_le r l m (by simpa using h) (fun i hi => by
      have := hm (i + 1) (by simpa using hi)
      simpa [rd] using this)
    have h2 : a = r → b = r := by
      have := hm 0 (by simp)
      simpa [rd] using this
    rw [List.count_cons, List.count_cons]
    by_cases e : a = r
    · rw [if_pos (by simpa using e), if_pos (by simpa using h2 e)]; omega
    · rw [if_neg (by simpa using e)]; omega
theorem count_lt (r : Int) : ∀ (l m : List Int), l.length = m.length → (∀ i : Nat, i < l.length → rd l i = r → rd m i = r) → (∃ i : Nat, i < l.length ∧ rd l i ≠ r ∧ rd m i = r) → l.count r < m.count r
  | [], _, _, _, ⟨i, hi, _⟩ => by simp at hi
  | _ :: _, [], h, _, _ => by simp at h
  | a :: l, b :: m, h, hm, ⟨i, hi, h3, h4⟩ => by
    have hm' : ∀ i : Nat, i < l.length → rd l i = r → rd m i = r := fun i hi => by
      have := hm (i + 1) (by simpa using hi)
      simpa [rd] using this
    have h2 : a = r → b = r := by
      have := hm 0 (by simp)
      simpa [rd] using this
    rw [List.count_cons, List.count_cons]
    cases i with
    | zero =>
      have e1 : a ≠ r := by simpa [rd] using h3
      have e2 : b = r := by simpa [rd] using h4
      have h1 := count_le r l m (by simpa using h) hm'
      rw [if_neg (by simpa using e1), if_pos (by simpa using e2)]; omega
    | succ i =>
      have h1 := count_lt r l m (by simpa using h) hm' ⟨i, by simpa using hi, by simpa [rd] using h3, by simpa [rd] using h4⟩
      by_cases e : a = r
      · rw [if_pos (by simpa using e), if_pos (by simpa using h2 e)]; omega
      · rw [if_neg (by simpa using e)]; omega

mutual
def filigreeref06_Labels.l0 : Nat → List Int → Int → Int → List (S43) → Option (List Int)
  | 0, _, _, _, _ => none
  | k + 1, x3, x4, x376000, x376001 => if x4 < x376000 then (if 0 ≤ x4 then (if x4 < (x3.length : Int) then (filigreeref06_Labels.l0 k (x3.set (x4 : Int).toNat x4) (wrap64 (x4 + 1)) x376000 x376001) else (none)) else (none)) else (filigreeref06_Labels.l1 k x3 0 x376000 x376001)
def filigreeref06_Labels.l1 : Nat → List Int → Int → Int → List (S43) → Option (List Int)
  | 0, _, _, _, _ => none
  | k + 1, x3, x5, x376000, x376001 => if x5 < x376000 then (filigreeref06_Labels.l2 k x3 x5 0 x376000 x376001) else (some x3)
def filigreeref06_Labels.l2 : Nat → List Int → Int → Int → Int → List (S43) → Option (List Int)
  | 0, _, _, _, _, _ => none
  | k + 1, x3, x5, x6, x376000, x376001 => if x6 < (x376001.length : Int) then (if 0 ≤ x6 then (if 0 ≤ ((rd_T43 x376001 x6).f0) then (if ((rd_T43 x376001 x6).f0) < (x3.length : Int) then (if 0 ≤ ((rd_T43 x376001 x6).f1) then (if ((rd_T43 x376001 x6).f1) < (x3.length : Int) then (filigreeref06_Labels.l2 k ((x3.set (((rd_T43 x376001 x6).f0) : Int).toNat (mn (rd x3 ((rd_T43 x376001 x6).f0)) (rd x3 ((rd_T43 x376001 x6).f1)))).set (((rd_T43 x376001 x6).f1) : Int).toNat (mn (rd x3 ((rd_T43 x376001 x6).f0)) (rd x3 ((rd_T43 x376001 x6).f1)))) x5 (wrap64 (x6 + 1)) x376000 x376001) else (none)) else (none)) else (none)) else (none)) else (none)) else (filigreeref06_Labels.l1 k x3 (wrap64 (x5 + 1)) x376000 x376001)
end
def filigreeref06_Labels.f (k : Nat) (a0_0 : Int) (l0_1 : List (S43)) : Option (List Int) := if 0 ≤ a0_0 then (if (a0_0 : Int).toNat ≤ 35184372088832 then (filigreeref06_Labels.l0 k (List.replicate (a0_0 : Int).toNat 0) 0 a0_0 l0_1) else (none)) else (none)
theorem filigreeref06_Labels.calls (k : Nat) (a0_0 : Int) (A0_1 : Option Addr) (c0_1 : Nat) (l0_1 : List (S43)) (r : List Int) (w : World) (hr0_1 : Kd.C k43 w A0_1 l0_1.length l0_1) (hc0_1 : l0_1.length ≤ c0_1) (h : filigreeref06_Labels.f k a0_0 l0_1 = some r) :
    Calls Try.prog 30 #[.agg #[.int .i64 a0_0, .slice A0_1 l0_1.length c0_1]] w fun e w' => ∃ v0_ : Value, e = .returned (v0_) ∧ Kd.R (Kd.int .i64) 3 w' w.heap.size (fun _ => True) v0_ r ∧ Below w.heap.size w w' := by
  have hu24 := Try.underlying24
  have HR0_1 := zMk hr0_1
  have HC0_1 := zMk hc0_1
  clear hr0_1 hc0_1
  have HB := zMk (Below.refl w.heap.size w)
  have H : (if 0 ≤ a0_0 then (if (a0_0 : Int).toNat ≤ 35184372088832 then (filigreeref06_Labels.l0 k (List.replicate (a0_0 : Int).toNat 0) 0 a0_0 l0_1) else (none)) else (none)) = some r := h
  clear h
  by_cases c2 : 0 ≤ a0_0
  · rw [if_pos c2] at H
    have c2b0 := eq_true c2
    have c2b1 : decide (0 ≤ a0_0) = true := decide_eq_true c2
    clear c2
    by_cases c3 : (a0_0 : Int).toNat ≤ 35184372088832
    rotate_left
    · rw [if_neg c3] at H; exact absurd H (by simp)
    rw [if_pos c3] at H
    have c3b0 := eq_true c3
    have c3b1 : decide ((a0_0 : Int).toNat ≤ 35184372088832) = true := decide_eq_true c3
    clear c3
    obtain ⟨y376, hy376⟩ : ∃ y_ : List Int, y_ = (List.replicate (a0_0 : Int).toNat 0) := ⟨_, rfl⟩
    replace H : (filigreeref06_Labels.l0 k y376 0 a0_0 l0_1) = some r := by first | (rw [hy376]; with_reducible exact H) | (have H2_ := bsm H; first | (rw [hy376]; with_reducible exact H2_) | with_reducible exact H2_) | with_reducible exact H | (rw [hy376]; exact H) | exact H
    have Ny376 := zMk hy376
    clear hy376
    have H' := zMk H
    clear H
    go_enter Try.func30, Try.ntmps30
    go_wp2_with (first | ((with_reducible refine gate_dst (N := 1) rfl ?_); refine box_event ?hg (N := 1) ?hd (cs := #[.int .i64 a0_0, .slice A0_1 l0_1.length c0_1]) (t := 24) ?hr ?_; (case hd => rfl); (case hg => rfl); (case hr => first | (go_simp; done)|(go_simp; rfl)|(go_simp; rw [show ∀ x : Int, IntKind.u32.wrap (IntKind.u8.wrap x) = x % 256 from fun x => (by show (x % 256) % 4294967296 = x % 256; omega)])); intro gb375 hg w4 hbox hb; have BK375 := zMk (hbox); have GW375 := zMk ((by rw [hg]; exact (zBs (by exact uT HB.out)) : w.heap.size ≤ gb375)); have GE375 := zMk ((by rw [hg]; exact (zBs (by exact uT HB.out)) : w.heap.size ≤ gb375)); have IGE375 := ownGe GE375.out; replace HB := zMk (zBt (by exact uT HB.out) hb); clear hb hbox hg; have hcz5_0 : w4.cell? ⟨gb375, 0, none⟩ = some (.int .i64 a0_0) := (zKc BK375.out 0).trans rfl; have hcz5_1 : w4.cell? ⟨gb375, 1, none⟩ = some (.slice A0_1 l0_1.length c0_1) := (zKc BK375.out 1).trans rfl; have hfz5_0 := zKf BK375.out 0; have hfz5_1 := zKf BK375.out 1)|((with_reducible refine gate_dst (N := 10) rfl ?_); refine Kd.R_make (Kd.int .i64) _ 3 rfl (N := 10) rfl 33 _ _ rfl a0_0 rfl rfl Try.underlying33 (.int .i64 0) 8 info3 rfl (by decide) (by omega) 0 (ok := fun _ => True) (okp := fun _ => True) rfl (fun _ hk => hk) trivial (of_decide_eq_true (by first | (with_reducible assumption)|  assumption)) (Nat.le_trans (Nat.mul_le_mul_right _ (of_decide_eq_true (by first | (with_reducible assumption)|  assumption) : a0_0.toNat ≤ 35184372088832)) (by omega)) (Below.refl _ _) (Nat.le_refl _) ?_; intro v377 w6 ho7 hb hg_ hnew_; clear hg_ hnew_; (first |  rw [← Ny376.out] at ho7|  (simp only [Int.reduceToNat] at ho7; rw [← Ny376.out] at ho7)); have HO378 := zMk (zRl ho7 (zBs (by exact uT HB.out))); replace BK375 := zMk (zKb (g := gb375) (o := .cells #[.int .i64 a0_0, .slice A0_1 l0_1.length c0_1] 24 (0, 0)) (by (with_reducible repeat (first |  refine zKn ?_ _|  refine zKd ?_|  refine zKa ?_ _)); exact BK375.out) hb); replace HB := zMk (zBt (by exact uT HB.out) hb); clear hb ho7))
    repeat (go_quiet (first | ((with_reducible refine gate_dst (N := 1) rfl ?_); refine box_event ?hg (N := 1) ?hd (cs := #[.int .i64 a0_0, .slice A0_1 l0_1.length c0_1]) (t := 24) ?hr ?_; (case hd => rfl); (case hg => rfl); (case hr => first | (go_simp; done)|(go_simp; rfl)|(go_simp; rw [show ∀ x : Int, IntKind.u32.wrap (IntKind.u8.wrap x) = x % 256 from fun x => (by show (x % 256) % 4294967296 = x % 256; omega)])); intro gb375 hg w4 hbox hb; have BK375 := zMk (hbox); have GW375 := zMk ((by rw [hg]; exact (zBs (by exact uT HB.out)) : w.heap.size ≤ gb375)); have GE375 := zMk ((by rw [hg]; exact (zBs (by exact uT HB.out)) : w.heap.size ≤ gb375)); have IGE375 := ownGe GE375.out; replace HB := zMk (zBt (by exact uT HB.out) hb); clear hb hbox hg; have hcz5_0 : w4.cell? ⟨gb375, 0, none⟩ = some (.int .i64 a0_0) := (zKc BK375.out 0).trans rfl; have hcz5_1 : w4.cell? ⟨gb375, 1, none⟩ = some (.slice A0_1 l0_1.length c0_1) := (zKc BK375.out 1).trans rfl; have hfz5_0 := zKf BK375.out 0; have hfz5_1 := zKf BK375.out 1)|((with_reducible refine gate_dst (N := 10) rfl ?_); refine Kd.R_make (Kd.int .i64) _ 3 rfl (N := 10) rfl 33 _ _ rfl a0_0 rfl rfl Try.underlying33 (.int .i64 0) 8 info3 rfl (by decide) (by omega) 0 (ok := fun _ => True) (okp := fun _ => True) rfl (fun _ hk => hk) trivial (of_decide_eq_true (by first | (with_reducible assumption)|  assumption)) (Nat.le_trans (Nat.mul_le_mul_right _ (of_decide_eq_true (by first | (with_reducible assumption)|  assumption) : a0_0.toNat ≤ 35184372088832)) (by omega)) (Below.refl _ _) (Nat.le_refl _) ?_; intro v377 w6 ho7 hb hg_ hnew_; clear hg_ hnew_; (first |  rw [← Ny376.out] at ho7|  (simp only [Int.reduceToNat] at ho7; rw [← Ny376.out] at ho7)); have HO378 := zMk (zRl ho7 (zBs (by exact uT HB.out))); replace BK375 := zMk (zKb (g := gb375) (o := .cells #[.int .i64 a0_0, .slice A0_1 l0_1.length c0_1] 24 (0, 0)) (by (with_reducible repeat (first |  refine zKn ?_ _|  refine zKd ?_|  refine zKa ?_ _)); exact BK375.out) hb); replace HB := zMk (zBt (by exact uT HB.out) hb); clear hb ho7)); try go_wp2_with (first | ((with_reducible refine gate_dst (N := 1) rfl ?_); refine box_event ?hg (N := 1) ?hd (cs := #[.int .i64 a0_0, .slice A0_1 l0_1.length c0_1]) (t := 24) ?hr ?_; (case hd => rfl); (case hg => rfl); (case hr => first | (go_simp; done)|(go_simp; rfl)|(go_simp; rw [show ∀ x : Int, IntKind.u32.wrap (IntKind.u8.wrap x) = x % 256 from fun x => (by show (x % 256) % 4294967296 = x % 256; omega)])); intro gb375 hg w4 hbox hb; have BK375 := zMk (hbox); have GW375 := zMk ((by rw [hg]; exact (zBs (by exact uT HB.out)) : w.heap.size ≤ gb375)); have GE375 := zMk ((by rw [hg]; exact (zBs (by exact uT HB.out)) : w.heap.size ≤ gb375)); have IGE375 := ownGe GE375.out; replace HB := zMk (zBt (by exact uT HB.out) hb); clear hb hbox hg; have hcz5_0 : w4.cell? ⟨gb375, 0, none⟩ = some (.int .i64 a0_0) := (zKc BK375.out 0).trans rfl; have hcz5_1 : w4.cell? ⟨gb375, 1, none⟩ = some (.slice A0_1 l0_1.length c0_1) := (zKc BK375.out 1).trans rfl; have hfz5_0 := zKf BK375.out 0; have hfz5_1 := zKf BK375.out 1)|((with_reducible refine gate_dst (N := 10) rfl ?_); refine Kd.R_make (Kd.int .i64) _ 3 rfl (N := 10) rfl 33 _ _ rfl a0_0 rfl rfl Try.underlying33 (.int .i64 0) 8 info3 rfl (by decide) (by omega) 0 (ok := fun _ => True) (okp := fun _ => True) rfl (fun _ hk => hk) trivial (of_decide_eq_true (by first | (with_reducible assumption)|  assumption)) (Nat.le_trans (Nat.mul_le_mul_right _ (of_decide_eq_true (by first | (with_reducible assumption)|  assumption) : a0_0.toNat ≤ 35184372088832)) (by omega)) (Below.refl _ _) (Nat.le_refl _) ?_; intro v377 w6 ho7 hb hg_ hnew_; clear hg_ hnew_; (first |  rw [← Ny376.out] at ho7|  (simp only [Int.reduceToNat] at ho7; rw [← Ny376.out] at ho7)); have HO378 := zMk (zRl ho7 (zBs (by exact uT HB.out))); replace BK375 := zMk (zKb (g := gb375) (o := .cells #[.int .i64 a0_0, .slice A0_1 l0_1.length c0_1] 24 (0, 0)) (by (with_reducible repeat (first |  refine zKn ?_ _|  refine zKd ?_|  refine zKa ?_ _)); exact BK375.out) hb); replace HB := zMk (zBt (by exact uT HB.out) hb); clear hb ho7)))
    go_loopg [4] k (fun kq v4 w' => ∃ (x3_1 : List Int) (x4_1 : Int), v4 = .int .i64 x4_1 ∧ Aside0 (filigreeref06_Labels.l0 kq x3_1 x4_1 a0_0 l0_1 = some r) ∧ Aside0 (kq ≤ k) ∧ Aside0 (Kd.R (Kd.int .i64) 3 w' w.heap.size (fun _ => True) v377 x3_1) ∧ Aside0 (w'.heap[gb375]? = some (.cells #[.int .i64 a0_0, (.slice A0_1 l0_1.length c0_1)] 24 (0, 0))) ∧ Aside0 (Below w.heap.size w w'))
    case atStart => exact ⟨(y376), (0), (by first | rfl | (simp; done) | (simp [*]; done)), H', ⟨Nat.le_refl _⟩, ⟨by exact uR HO378.out⟩, ⟨by (with_reducible repeat (first | refine zKn ?_ _ | refine zKd ?_ | refine zKa ?_ _)); exact BK375.out⟩, ⟨by exact uT HB.out⟩⟩
    clear H'
    obtain ⟨x3_1, x4_1, rfl, HA, HK1, HO_3, BK375, HB⟩ := hrel
    rcases gk with _ | k1
    · exact absurd HA.out (by simp [filigreeref06_Labels.l0])
    have H := HA.out
    clear HA
    simp only [filigreeref06_Labels.l0] at H
    by_cases c8 : x4_1 < a0_0
    · rw [if_pos c8] at H
      have c8b0 : decide (x4_1 < a0_0) = true := decide_eq_true c8
      clear c8
      by_cases c9 : 0 ≤ x4_1
      rotate_left
      · rw [if_neg c9] at H; exact absurd H (by simp)
      rw [if_pos c9] at H
      have c9b0 : decide (0 ≤ x4_1) = true := decide_eq_true c9
      clear c9
      by_cases c10 : x4_1 < (x3_1.length : Int)
      rotate_left
      · rw [if_neg c10] at H; exact absurd H (by simp)
      rw [if_pos c10] at H
      have c10b0 : decide (x4_1 < (x3_1.length : Int)) = true := decide_eq_true c10
      clear c10
      obtain ⟨y379, hy379⟩ : ∃ y_ : List Int, y_ = (x3_1.set (x4_1 : Int).toNat x4_1) := ⟨_, rfl⟩
      replace H : (filigreeref06_Labels.l0 k1 y379 (wrap64 (x4_1 + 1)) a0_0 l0_1) = some r := by first | (rw [hy379]; with_reducible exact H) | (have H2_ := bsm H; first | (rw [hy379]; with_reducible exact H2_) | with_reducible exact H2_) | with_reducible exact H | (rw [hy379]; exact H) | exact H
      have Ny379 := zMk hy379
      clear hy379
      have H' := zMk H
      clear H
      have hcz12_0 : wr.cell? ⟨gb375, 0, none⟩ = some (.int .i64 a0_0) := (zKc BK375.out 0).trans rfl
      have hcz12_1 : wr.cell? ⟨gb375, 1, none⟩ = some (.slice A0_1 l0_1.length c0_1) := (zKc BK375.out 1).trans rfl
      have hfz12_0 := zKf BK375.out 0
      have hfz12_1 := zKf BK375.out 1
      have p11 : 0 ≤ (x4_1 : Int) := of_decide_eq_true (by assumption)
      have q11 : (x4_1 : Int) < ((x3_1.length : Int) : Int) := of_decide_eq_true (by assumption)
      obtain ⟨go11, co11, eo11, gb11, gl11, cl11, HG11⟩ := Kd.R_form HO_3.out (by omega)
      (first |  cases eo11|  (injection eo11 with ea_ en_ ec_; (first |  subst ea_|  (injection ea_ with ea_; subst ea_)); subst ec_; clear en_))
      have GB11 := zMk gb11
      have IGB11 := ownGe GB11.out
      have GG11 := zMk HG11
      clear gb11 gl11 HG11
      obtain ⟨hx11_0, hf11_0⟩ := Kd.R_celln 0 HO_3.out (x4_1 : Int) p11 q11
      replace p11 := eq_true p11
      replace q11 := eq_true q11
      have HP13 := Kd.R_putg HO_3.out (x4_1 : Int) x4_1
      go_wp2_with (first | ((with_reducible refine gate_store (t := 3) (p := 20) rfl ?_); (try (rw [drewN_self wr]; generalize hq_ : World.drewN wr _ = wr; replace HO_3 := zMk (Kd.R_at hq_ HO_3.out); replace BK375 := zMk (blk_at hq_ BK375.out); replace HB := zMk (below_at hq_ HB.out); clear hq_; (try (obtain ⟨hy13_, hz13_⟩ := Kd.R_celln 0 HO_3.out (x4_1 : Int) (of_decide_eq_true (by assumption)) (of_decide_eq_true (by assumption)))); (try (have HP13 := Kd.R_putg HO_3.out (x4_1 : Int) x4_1)))); refine store_event (t := 3) (p := 20) (v := ?vo_w14) (w1 := (wr.setCell ⟨go11, (x4_1 : Int).toNat, none⟩ (.int .i64 x4_1))) ?hg ?ho ?hn ?hr ?_; (case ho => rfl); (case hg => rfl); (case hn => rfl); (case hr => first | (go_simp; done)|(go_simp; rfl)|(go_simp; rw [show ∀ x : Int, IntKind.u32.wrap (IntKind.u8.wrap x) = x % 256 from fun x => (by show (x % 256) % 4294967296 = x % 256; omega)])); intro w14 hw; have hg : wr.grownBy w14 (some go11) := (by rw [hw]; exact HP13.2); have hp_ : Kd.R (Kd.int .i64) 3 w14 w.heap.size (fun _ => True) (.slice (some ⟨go11, 0, none⟩) x3_1.length co11) y379 := (by rw [hw, Ny379.out]; exact HP13.1); clear HP13; replace BK375 := zMk (blk_grown (g := gb375) (o := .cells #[.int .i64 a0_0, .slice A0_1 l0_1.length c0_1] 24 (0, 0)) (by (with_reducible repeat (first |  refine zKn ?_ _|  refine zKd ?_|  refine zKa ?_ _)); exact BK375.out) hg (Kd.R_ne HO_3.out BK375.out (by decide))); replace HO_3 := zMk (hp_); replace HB := zMk ((by rw [hw]; exact below_set (HB.out) GB11.out : Below w.heap.size w w14)); clear hg hw hp_))
      repeat (go_quiet (first | ((with_reducible refine gate_store (t := 3) (p := 20) rfl ?_); (try (rw [drewN_self wr]; generalize hq_ : World.drewN wr _ = wr; replace HO_3 := zMk (Kd.R_at hq_ HO_3.out); replace BK375 := zMk (blk_at hq_ BK375.out); replace HB := zMk (below_at hq_ HB.out); clear hq_; (try (obtain ⟨hy13_, hz13_⟩ := Kd.R_celln 0 HO_3.out (x4_1 : Int) (of_decide_eq_true (by assumption)) (of_decide_eq_true (by assumption)))); (try (have HP13 := Kd.R_putg HO_3.out (x4_1 : Int) x4_1)))); refine store_event (t := 3) (p := 20) (v := ?vo_w14) (w1 := (wr.setCell ⟨go11, (x4_1 : Int).toNat, none⟩ (.int .i64 x4_1))) ?hg ?ho ?hn ?hr ?_; (case ho => rfl); (case hg => rfl); (case hn => rfl); (case hr => first | (go_simp; done)|(go_simp; rfl)|(go_simp; rw [show ∀ x : Int, IntKind.u32.wrap (IntKind.u8.wrap x) = x % 256 from fun x => (by show (x % 256) % 4294967296 = x % 256; omega)])); intro w14 hw; have hg : wr.grownBy w14 (some go11) := (by rw [hw]; exact HP13.2); have hp_ : Kd.R (Kd.int .i64) 3 w14 w.heap.size (fun _ => True) (.slice (some ⟨go11, 0, none⟩) x3_1.length co11) y379 := (by rw [hw, Ny379.out]; exact HP13.1); clear HP13; replace BK375 := zMk (blk_grown (g := gb375) (o := .cells #[.int .i64 a0_0, .slice A0_1 l0_1.length c0_1] 24 (0, 0)) (by (with_reducible repeat (first |  refine zKn ?_ _|  refine zKd ?_|  refine zKa ?_ _)); exact BK375.out) hg (Kd.R_ne HO_3.out BK375.out (by decide))); replace HO_3 := zMk (hp_); replace HB := zMk ((by rw [hw]; exact below_set (HB.out) GB11.out : Below w.heap.size w w14)); clear hg hw hp_)); try go_wp2_with (first | ((with_reducible refine gate_store (t := 3) (p := 20) rfl ?_); (try (rw [drewN_self wr]; generalize hq_ : World.drewN wr _ = wr; replace HO_3 := zMk (Kd.R_at hq_ HO_3.out); replace BK375 := zMk (blk_at hq_ BK375.out); replace HB := zMk (below_at hq_ HB.out); clear hq_; (try (obtain ⟨hy13_, hz13_⟩ := Kd.R_celln 0 HO_3.out (x4_1 : Int) (of_decide_eq_true (by assumption)) (of_decide_eq_true (by assumption)))); (try (have HP13 := Kd.R_putg HO_3.out (x4_1 : Int) x4_1)))); refine store_event (t := 3) (p := 20) (v := ?vo_w14) (w1 := (wr.setCell ⟨go11, (x4_1 : Int).toNat, none⟩ (.int .i64 x4_1))) ?hg ?ho ?hn ?hr ?_; (case ho => rfl); (case hg => rfl); (case hn => rfl); (case hr => first | (go_simp; done)|(go_simp; rfl)|(go_simp; rw [show ∀ x : Int, IntKind.u32.wrap (IntKind.u8.wrap x) = x % 256 from fun x => (by show (x % 256) % 4294967296 = x % 256; omega)])); intro w14 hw; have hg : wr.grownBy w14 (some go11) := (by rw [hw]; exact HP13.2); have hp_ : Kd.R (Kd.int .i64) 3 w14 w.heap.size (fun _ => True) (.slice (some ⟨go11, 0, none⟩) x3_1.length co11) y379 := (by rw [hw, Ny379.out]; exact HP13.1); clear HP13; replace BK375 := zMk (blk_grown (g := gb375) (o := .cells #[.int .i64 a0_0, .slice A0_1 l0_1.length c0_1] 24 (0, 0)) (by (with_reducible repeat (first |  refine zKn ?_ _|  refine zKd ?_|  refine zKa ?_ _)); exact BK375.out) hg (Kd.R_ne HO_3.out BK375.out (by decide))); replace HO_3 := zMk (hp_); replace HB := zMk ((by rw [hw]; exact below_set (HB.out) GB11.out : Below w.heap.size w w14)); clear hg hw hp_)))
      go_roundg k1
      case measure => have := HK1.out; omega
      case rel => exact ⟨(y379), (wrap64 (x4_1 + 1)), (by first | rfl | (simp; done) | (simp [*]; done)), H', ⟨by have := HK1.out; omega⟩, ⟨by exact uR HO_3.out⟩, ⟨by (with_reducible repeat (first | refine zKn ?_ _ | refine zKd ?_ | refine zKa ?_ _)); exact BK375.out⟩, ⟨by exact uT HB.out⟩⟩
    · rw [if_neg c8] at H
      have c8b0 : decide (x4_1 < a0_0) = false := decide_eq_false c8
      clear c8
      have H' := zMk H
      clear H
      have hcz15_0 : wr.cell? ⟨gb375, 0, none⟩ = some (.int .i64 a0_0) := (zKc BK375.out 0).trans rfl
      have hcz15_1 : wr.cell? ⟨gb375, 1, none⟩ = some (.slice A0_1 l0_1.length c0_1) := (zKc BK375.out 1).trans rfl
      have hfz15_0 := zKf BK375.out 0
      have hfz15_1 := zKf BK375.out 1
      go_wp2
      repeat (go_quiet (fail); try go_wp2)
      go_loopg [5] k1 (fun kq v5 w' => ∃ (x3_2 : List Int) (x5_2 : Int), v5 = .int .i64 x5_2 ∧ Aside0 (filigreeref06_Labels.l1 kq x3_2 x5_2 a0_0 l0_1 = some r) ∧ Aside0 (kq ≤ k1) ∧ Aside0 (Kd.R (Kd.int .i64) 3 w' w.heap.size (fun _ => True) v377 x3_2) ∧ Aside0 (w'.heap[gb375]? = some (.cells #[.int .i64 a0_0, (.slice A0_1 l0_1.length c0_1)] 24 (0, 0))) ∧ Aside0 (Below w.heap.size w w'))
      case atStart => exact ⟨(x3_1), (0), (by first | rfl | (simp; done) | (simp [*]; done)), H', ⟨Nat.le_refl _⟩, ⟨by exact uR HO_3.out⟩, ⟨by (with_reducible repeat (first | refine zKn ?_ _ | refine zKd ?_ | refine zKa ?_ _)); exact BK375.out⟩, ⟨by exact uT HB.out⟩⟩
      clear H'
      obtain ⟨x3_2, x5_2, rfl, HA, HK2, HO_3, BK375, HB⟩ := hrel
      rcases gk with _ | k2
      · exact absurd HA.out (by simp [filigreeref06_Labels.l1])
      have H := HA.out
      clear HA
      simp only [filigreeref06_Labels.l1] at H
      by_cases c16 : x5_2 < a0_0
      · rw [if_pos c16] at H
        have c16b0 : decide (x5_2 < a0_0) = true := decide_eq_true c16
        clear c16
        have H' := zMk H
        clear H
        have hcz17_0 : wr.cell? ⟨gb375, 0, none⟩ = some (.int .i64 a0_0) := (zKc BK375.out 0).trans rfl
        have hcz17_1 : wr.cell? ⟨gb375, 1, none⟩ = some (.slice A0_1 l0_1.length c0_1) := (zKc BK375.out 1).trans rfl
        have hfz17_0 := zKf BK375.out 0
        have hfz17_1 := zKf BK375.out 1
        go_wp2
        repeat (go_quiet (fail); try go_wp2)
        go_loopg [6] k2 (fun kq v6 w' => ∃ (x3_3 : List Int) (x6_3 : Int), v6 = .int .i64 x6_3 ∧ Aside0 (filigreeref06_Labels.l2 kq x3_3 x5_2 x6_3 a0_0 l0_1 = some r) ∧ Aside0 (kq ≤ k2) ∧ Aside0 (Kd.R (Kd.int .i64) 3 w' w.heap.size (fun _ => True) v377 x3_3) ∧ Aside0 (w'.heap[gb375]? = some (.cells #[.int .i64 a0_0, (.slice A0_1 l0_1.length c0_1)] 24 (0, 0))) ∧ Aside0 (Below w.heap.size w w'))
        case atStart => exact ⟨(x3_2), (0), (by first | rfl | (simp; done) | (simp [*]; done)), H', ⟨Nat.le_refl _⟩, ⟨by exact uR HO_3.out⟩, ⟨by (with_reducible repeat (first | refine zKn ?_ _ | refine zKd ?_ | refine zKa ?_ _)); exact BK375.out⟩, ⟨by exact uT HB.out⟩⟩
        clear H'
        obtain ⟨x3_3, x6_3, rfl, HA, HK3, HO_3, BK375, HB⟩ := hrel
        rcases gk with _ | k3
        · exact absurd HA.out (by simp [filigreeref06_Labels.l2])
        have H := HA.out
        clear HA
        simp only [filigreeref06_Labels.l2] at H
        by_cases c18 : x6_3 < (l0_1.length : Int)
        · rw [if_pos c18] at H
          have c18b0 : decide (x6_3 < (l0_1.length : Int)) = true := decide_eq_true c18
          clear c18
          by_cases c19 : 0 ≤ x6_3
          rotate_left
          · rw [if_neg c19] at H; exact absurd H (by simp)
          rw [if_pos c19] at H
          have c19b0 : decide (0 ≤ x6_3) = true := decide_eq_true c19
          clear c19
          by_cases c20 : 0 ≤ ((rd_T43 l0_1 x6_3).f0)
          rotate_left
          · rw [if_neg c20] at H; exact absurd H (by simp)
          rw [if_pos c20] at H
          have c20b0 : decide (0 ≤ ((rd_T43 l0_1 x6_3).f0)) = true := decide_eq_true c20
          clear c20
          by_cases c21 : ((rd_T43 l0_1 x6_3).f0) < (x3_3.length : Int)
          rotate_left
          · rw [if_neg c21] at H; exact absurd H (by simp)
          rw [if_pos c21] at H
          have c21b0 : decide (((rd_T43 l0_1 x6_3).f0) < (x3_3.length : Int)) = true := decide_eq_true c21
          clear c21
          by_cases c22 : 0 ≤ ((rd_T43 l0_1 x6_3).f1)
          rotate_left
          · rw [if_neg c22] at H; exact absurd H (by simp)
          rw [if_pos c22] at H
          have c22b0 : decide (0 ≤ ((rd_T43 l0_1 x6_3).f1)) = true := decide_eq_true c22
          clear c22
          by_cases c23 : ((rd_T43 l0_1 x6_3).f1) < (x3_3.length : Int)
          rotate_left
          · rw [if_neg c23] at H; exact absurd H (by simp)
          rw [if_pos c23] at H
          have c23b0 : decide (((rd_T43 l0_1 x6_3).f1) < (x3_3.length : Int)) = true := decide_eq_true c23
          clear c23
          obtain ⟨ji24, hji24⟩ : ∃ j_ : Int, (mn (rd x3_3 ((rd_T43 l0_1 x6_3).f0)) (rd x3_3 ((rd_T43 l0_1 x6_3).f1))) = j_ := ⟨_, rfl⟩
          replace H : (filigreeref06_Labels.l2 k3 ((x3_3.set (((rd_T43 l0_1 x6_3).f0) : Int).toNat (ji24)).set (((rd_T43 l0_1 x6_3).f1) : Int).toNat (ji24)) x5_2 (wrap64 (x6_3 + 1)) a0_0 l0_1) = some r := by first | (rw [hji24] at H; exact H) | (simp only [hji24] at H ⊢; exact H)
          have hji24_ : (if (rd x3_3 ((rd_T43 l0_1 x6_3).f1)) < (rd x3_3 ((rd_T43 l0_1 x6_3).f0)) then (rd x3_3 ((rd_T43 l0_1 x6_3).f1)) else (rd x3_3 ((rd_T43 l0_1 x6_3).f0))) = ji24 := hji24
          obtain ⟨y385, hy385⟩ : ∃ y_ : List Int, y_ = (x3_3.set (((rd_T43 l0_1 x6_3).f0) : Int).toNat (ji24)) := ⟨_, rfl⟩
          replace H : (filigreeref06_Labels.l2 k3 (y385.set (((rd_T43 l0_1 x6_3).f1) : Int).toNat (ji24)) x5_2 (wrap64 (x6_3 + 1)) a0_0 l0_1) = some r := by first | (rw [hy385]; with_reducible exact H) | (have H2_ := bsm H; first | (rw [hy385]; with_reducible exact H2_) | with_reducible exact H2_) | with_reducible exact H | (rw [hy385]; exact H) | exact H
          have Ny385 := zMk hy385
          clear hy385
          obtain ⟨y387, hy387⟩ : ∃ y_ : List Int, y_ = (y385.set (((rd_T43 l0_1 x6_3).f1) : Int).toNat (ji24)) := ⟨_, rfl⟩
          replace H : (filigreeref06_Labels.l2 k3 y387 x5_2 (wrap64 (x6_3 + 1)) a0_0 l0_1) = some r := by first | (rw [hy387]; with_reducible exact H) | (have H2_ := bsm H; first | (rw [hy387]; with_reducible exact H2_) | with_reducible exact H2_) | with_reducible exact H | (rw [hy387]; exact H) | exact H
          have Ny387 := zMk hy387
          clear hy387
          have H' := zMk H
          clear H
          have hcz27_0 : wr.cell? ⟨gb375, 0, none⟩ = some (.int .i64 a0_0) := (zKc BK375.out 0).trans rfl
          have hcz27_1 : wr.cell? ⟨gb375, 1, none⟩ = some (.slice A0_1 l0_1.length c0_1) := (zKc BK375.out 1).trans rfl
          have hfz27_0 := zKf BK375.out 0
          have hfz27_1 := zKf BK375.out 1
          have p380 : 0 ≤ (x6_3 : Int) := of_decide_eq_true (by assumption)
          have q380 : x6_3 < (l0_1.length : Int) := of_decide_eq_true (by assumption)
          obtain ⟨ad380, e380, hx380_0, hx380_1, hx380_2⟩ := at_T43 HR0_1.out x6_3 p380 q380
          cases e380
          replace hx380_0 := (HB.out.cell (World.block_lt_of_cell? w _ hx380_0)).trans hx380_0
          replace hx380_1 := (HB.out.cell (World.block_lt_of_cell? w _ hx380_1)).trans hx380_1
          replace hx380_2 := (HB.out.cell (World.block_lt_of_cell? w _ hx380_2)).trans hx380_2
          replace p380 := eq_true p380
          replace q380 := eq_true q380
          obtain ⟨Ao28, co28, eo28⟩ := zRs HO_3.out
          subst eo28
          have p381 : 0 ≤ (((rd_T43 l0_1 x6_3).f0) : Int) := of_decide_eq_true (by assumption)
          have q381 : ((rd_T43 l0_1 x6_3).f0) < (x3_3.length : Int) := of_decide_eq_true (by assumption)
          obtain ⟨ad381, e381, hx381_0⟩ := zAi (zRr HO_3.out).2.2 ((rd_T43 l0_1 x6_3).f0) p381 q381
          cases e381
          replace p381 := eq_true p381
          replace q381 := eq_true q381
          have p382 : 0 ≤ (x6_3 : Int) := of_decide_eq_true (by assumption)
          have q382 : x6_3 < (l0_1.length : Int) := of_decide_eq_true (by assumption)
          obtain ⟨ad382, e382, hx382_0, hx382_1, hx382_2⟩ := at_T43 HR0_1.out x6_3 p382 q382
          obtain rfl : ad380 = ad382 := (by injection e382)
          replace hx382_0 := (HB.out.cell (World.block_lt_of_cell? w _ hx382_0)).trans hx382_0
          replace hx382_1 := (HB.out.cell (World.block_lt_of_cell? w _ hx382_1)).trans hx382_1
          replace hx382_2 := (HB.out.cell (World.block_lt_of_cell? w _ hx382_2)).trans hx382_2
          replace p382 := eq_true p382
          replace q382 := eq_true q382
          have p383 : 0 ≤ (((rd_T43 l0_1 x6_3).f1) : Int) := of_decide_eq_true (by assumption)
          have q383 : ((rd_T43 l0_1 x6_3).f1) < (x3_3.length : Int) := of_decide_eq_true (by assumption)
          obtain ⟨ad383, e383, hx383_0⟩ := zAi (zRr HO_3.out).2.2 ((rd_T43 l0_1 x6_3).f1) p383 q383
          obtain rfl : ad381 = ad383 := (by injection e383)
          replace p383 := eq_true p383
          replace q383 := eq_true q383
          have p384 : 0 ≤ (x6_3 : Int) := of_decide_eq_true (by assumption)
          have q384 : x6_3 < (l0_1.length : Int) := of_decide_eq_true (by assumption)
          obtain ⟨ad384, e384, hx384_0, hx384_1, hx384_2⟩ := at_T43 HR0_1.out x6_3 p384 q384
          obtain rfl : ad380 = ad384 := (by injection e384)
          replace hx384_0 := (HB.out.cell (World.block_lt_of_cell? w _ hx384_0)).trans hx384_0
          replace hx384_1 := (HB.out.cell (World.block_lt_of_cell? w _ hx384_1)).trans hx384_1
          replace hx384_2 := (HB.out.cell (World.block_lt_of_cell? w _ hx384_2)).trans hx384_2
          replace p384 := eq_true p384
          replace q384 := eq_true q384
          have p25 : 0 ≤ (((rd_T43 l0_1 x6_3).f0) : Int) := of_decide_eq_true (by assumption)
          have q25 : (((rd_T43 l0_1 x6_3).f0) : Int) < ((x3_3.length : Int) : Int) := of_decide_eq_true (by assumption)
          obtain ⟨go25, co25, eo25, gb25, gl25, cl25, HG25⟩ := Kd.R_form HO_3.out (by omega)
          (first |  cases eo25|  (injection eo25 with ea_ en_ ec_; (first |  subst ea_|  (injection ea_ with ea_; subst ea_)); subst ec_; clear en_))
          have GB25 := zMk gb25
          have IGB25 := ownGe GB25.out
          have GG25 := zMk HG25
          clear gb25 gl25 HG25
          (first | simp only [add_plain] at hx381_0 | skip)
          (first | simp only [add_plain] at hx383_0 | skip)
          obtain ⟨hx25_0, hf25_0⟩ := Kd.R_celln 0 HO_3.out (((rd_T43 l0_1 x6_3).f0) : Int) p25 q25
          replace p25 := eq_true p25
          replace q25 := eq_true q25
          have HP29 := Kd.R_putg HO_3.out (((rd_T43 l0_1 x6_3).f0) : Int) ji24
          go_wp2_with (first | ((with_reducible refine gate_store (t := 3) (p := 61) rfl ?_); (try (rw [drewN_self wr]; generalize hq_ : World.drewN wr _ = wr; replace HO_3 := zMk (Kd.R_at hq_ HO_3.out); replace BK375 := zMk (blk_at hq_ BK375.out); replace HB := zMk (below_at hq_ HB.out); clear hq_; (try (obtain ⟨hy29_, hz29_⟩ := Kd.R_celln 0 HO_3.out (((rd_T43 l0_1 x6_3).f0) : Int) (of_decide_eq_true (by assumption)) (of_decide_eq_true (by assumption)))); (try (have HP29 := Kd.R_putg HO_3.out (((rd_T43 l0_1 x6_3).f0) : Int) ji24)))); refine store_event (t := 3) (p := 61) (v := ?vo_w30) (w1 := (wr.setCell ⟨go25, (((rd_T43 l0_1 x6_3).f0) : Int).toNat, none⟩ (.int .i64 ji24))) ?hg ?ho ?hn ?hr ?_; (case ho => rfl); (case hg => rfl); (case hn => rfl); (case hr => first | (go_simp; done)|(go_simp; rfl)|(go_simp; rw [show ∀ x : Int, IntKind.u32.wrap (IntKind.u8.wrap x) = x % 256 from fun x => (by show (x % 256) % 4294967296 = x % 256; omega)])); intro w30 hw; have hg : wr.grownBy w30 (some go25) := (by rw [hw]; exact HP29.2); have hp_ : Kd.R (Kd.int .i64) 3 w30 w.heap.size (fun _ => True) (.slice (some ⟨go25, 0, none⟩) x3_3.length co28) y385 := (by rw [hw, Ny385.out]; exact HP29.1); clear HP29; replace BK375 := zMk (blk_grown (g := gb375) (o := .cells #[.int .i64 a0_0, .slice (some ad380) l0_1.length c0_1] 24 (0, 0)) (by (with_reducible repeat (first |  refine zKn ?_ _|  refine zKd ?_|  refine zKa ?_ _)); exact BK375.out) hg (Kd.R_ne HO_3.out BK375.out (by decide))); replace HO_3 := zMk (hp_); replace HB := zMk ((by rw [hw]; exact below_set (HB.out) GB25.out : Below w.heap.size w w30)); clear hg hw hp_; have hcz31_0 : w30.cell? ⟨gb375, 0, none⟩ = some (.int .i64 a0_0) := (zKc BK375.out 0).trans rfl; have hcz31_1 : w30.cell? ⟨gb375, 1, none⟩ = some (.slice (some ad380) l0_1.length c0_1) := (zKc BK375.out 1).trans rfl; have hfz31_0 := zKf BK375.out 0; have hfz31_1 := zKf BK375.out 1; have p386 : 0 ≤ (x6_3 : Int) := of_decide_eq_true (by first | (with_reducible assumption)|  assumption); have q386 : x6_3 < (l0_1.length : Int) := of_decide_eq_true (by first | (with_reducible assumption)|  assumption); obtain ⟨ad386, e386, hx386_0, hx386_1, hx386_2⟩ := at_T43 HR0_1.out x6_3 p386 q386; obtain rfl : ad380 = ad386 := (by injection e386); replace hx386_0 := (HB.out.cell (World.block_lt_of_cell? w _ hx386_0)).trans hx386_0; replace hx386_1 := (HB.out.cell (World.block_lt_of_cell? w _ hx386_1)).trans hx386_1; replace hx386_2 := (HB.out.cell (World.block_lt_of_cell? w _ hx386_2)).trans hx386_2; replace p386 := eq_true p386; replace q386 := eq_true q386; have p26 : 0 ≤ (((rd_T43 l0_1 x6_3).f1) : Int) := of_decide_eq_true (by first | (with_reducible assumption)|  assumption); have q26 : (((rd_T43 l0_1 x6_3).f1) : Int) < ((x3_3.length : Int) : Int) := of_decide_eq_true (by first | (with_reducible assumption)|  assumption); obtain ⟨hx26_0, hf26_0⟩ := Kd.R_celln 0 HO_3.out (((rd_T43 l0_1 x6_3).f1) : Int) p26 q26; replace p26 := eq_true p26; replace q26 := eq_true q26; obtain ⟨hy32_, hz32_⟩ := Kd.R_celln 0 HO_3.out (((rd_T43 l0_1 x6_3).f1) : Int) (of_decide_eq_true (by first | (with_reducible assumption)|  assumption)) (of_decide_eq_true (by first | (with_reducible assumption)|  assumption)); have HP32 := Kd.R_putg HO_3.out (((rd_T43 l0_1 x6_3).f1) : Int) ji24)|((with_reducible refine gate_store (t := 3) (p := 70) rfl ?_); (try (rw [drewN_self w30]; generalize hq_ : World.drewN w30 _ = w30; replace HO_3 := zMk (Kd.R_at hq_ HO_3.out); replace BK375 := zMk (blk_at hq_ BK375.out); replace HB := zMk (below_at hq_ HB.out); clear hq_; (try (obtain ⟨hy32_, hz32_⟩ := Kd.R_celln 0 HO_3.out (((rd_T43 l0_1 x6_3).f1) : Int) (of_decide_eq_true (by first | (with_reducible assumption)|  assumption)) (of_decide_eq_true (by first | (with_reducible assumption)|  assumption)))); (try (have HP32 := Kd.R_putg HO_3.out (((rd_T43 l0_1 x6_3).f1) : Int) ji24)))); refine store_event (t := 3) (p := 70) (v := ?vo_w33) (w1 := (w30.setCell ⟨go25, (((rd_T43 l0_1 x6_3).f1) : Int).toNat, none⟩ (.int .i64 ji24))) ?hg ?ho ?hn ?hr ?_; (case ho => rfl); (case hg => rfl); (case hn => rfl); (case hr => first | (go_simp; done)|(go_simp; rfl)|(go_simp; rw [show ∀ x : Int, IntKind.u32.wrap (IntKind.u8.wrap x) = x % 256 from fun x => (by show (x % 256) % 4294967296 = x % 256; omega)])); intro w33 hw; have hg : w30.grownBy w33 (some go25) := (by rw [hw]; exact HP32.2); have hp_ : Kd.R (Kd.int .i64) 3 w33 w.heap.size (fun _ => True) (.slice (some ⟨go25, 0, none⟩) x3_3.length co28) y387 := (by rw [hw, Ny387.out]; exact HP32.1); clear HP32; replace BK375 := zMk (blk_grown (g := gb375) (o := .cells #[.int .i64 a0_0, .slice (some ad380) l0_1.length c0_1] 24 (0, 0)) (by (with_reducible repeat (first |  refine zKn ?_ _|  refine zKd ?_|  refine zKa ?_ _)); exact BK375.out) hg (Kd.R_ne HO_3.out BK375.out (by decide))); replace HO_3 := zMk (hp_); replace HB := zMk ((by rw [hw]; exact below_set (HB.out) GB25.out : Below w.heap.size w w33)); clear hg hw hp_))
          repeat (go_quiet (first | ((with_reducible refine gate_store (t := 3) (p := 61) rfl ?_); (try (rw [drewN_self wr]; generalize hq_ : World.drewN wr _ = wr; replace HO_3 := zMk (Kd.R_at hq_ HO_3.out); replace BK375 := zMk (blk_at hq_ BK375.out); replace HB := zMk (below_at hq_ HB.out); clear hq_; (try (obtain ⟨hy29_, hz29_⟩ := Kd.R_celln 0 HO_3.out (((rd_T43 l0_1 x6_3).f0) : Int) (of_decide_eq_true (by assumption)) (of_decide_eq_true (by assumption)))); (try (have HP29 := Kd.R_putg HO_3.out (((rd_T43 l0_1 x6_3).f0) : Int) ji24)))); refine store_event (t := 3) (p := 61) (v := ?vo_w30) (w1 := (wr.setCell ⟨go25, (((rd_T43 l0_1 x6_3).f0) : Int).toNat, none⟩ (.int .i64 ji24))) ?hg ?ho ?hn ?hr ?_; (case ho => rfl); (case hg => rfl); (case hn => rfl); (case hr => first | (go_simp; done)|(go_simp; rfl)|(go_simp; rw [show ∀ x : Int, IntKind.u32.wrap (IntKind.u8.wrap x) = x % 256 from fun x => (by show (x % 256) % 4294967296 = x % 256; omega)])); intro w30 hw; have hg : wr.grownBy w30 (some go25) := (by rw [hw]; exact HP29.2); have hp_ : Kd.R (Kd.int .i64) 3 w30 w.heap.size (fun _ => True) (.slice (some ⟨go25, 0, none⟩) x3_3.length co28) y385 := (by rw [hw, Ny385.out]; exact HP29.1); clear HP29; replace BK375 := zMk (blk_grown (g := gb375) (o := .cells #[.int .i64 a0_0, .slice (some ad380) l0_1.length c0_1] 24 (0, 0)) (by (with_reducible repeat (first |  refine zKn ?_ _|  refine zKd ?_|  refine zKa ?_ _)); exact BK375.out) hg (Kd.R_ne HO_3.out BK375.out (by decide))); replace HO_3 := zMk (hp_); replace HB := zMk ((by rw [hw]; exact below_set (HB.out) GB25.out : Below w.heap.size w w30)); clear hg hw hp_; have hcz31_0 : w30.cell? ⟨gb375, 0, none⟩ = some (.int .i64 a0_0) := (zKc BK375.out 0).trans rfl; have hcz31_1 : w30.cell? ⟨gb375, 1, none⟩ = some (.slice (some ad380) l0_1.length c0_1) := (zKc BK375.out 1).trans rfl; have hfz31_0 := zKf BK375.out 0; have hfz31_1 := zKf BK375.out 1; have p386 : 0 ≤ (x6_3 : Int) := of_decide_eq_true (by first | (with_reducible assumption)|  assumption); have q386 : x6_3 < (l0_1.length : Int) := of_decide_eq_true (by first | (with_reducible assumption)|  assumption); obtain ⟨ad386, e386, hx386_0, hx386_1, hx386_2⟩ := at_T43 HR0_1.out x6_3 p386 q386; obtain rfl : ad380 = ad386 := (by injection e386); replace hx386_0 := (HB.out.cell (World.block_lt_of_cell? w _ hx386_0)).trans hx386_0; replace hx386_1 := (HB.out.cell (World.block_lt_of_cell? w _ hx386_1)).trans hx386_1; replace hx386_2 := (HB.out.cell (World.block_lt_of_cell? w _ hx386_2)).trans hx386_2; replace p386 := eq_true p386; replace q386 := eq_true q386; have p26 : 0 ≤ (((rd_T43 l0_1 x6_3).f1) : Int) := of_decide_eq_true (by first | (with_reducible assumption)|  assumption); have q26 : (((rd_T43 l0_1 x6_3).f1) : Int) < ((x3_3.length : Int) : Int) := of_decide_eq_true (by first | (with_reducible assumption)|  assumption); obtain ⟨hx26_0, hf26_0⟩ := Kd.R_celln 0 HO_3.out (((rd_T43 l0_1 x6_3).f1) : Int) p26 q26; replace p26 := eq_true p26; replace q26 := eq_true q26; obtain ⟨hy32_, hz32_⟩ := Kd.R_celln 0 HO_3.out (((rd_T43 l0_1 x6_3).f1) : Int) (of_decide_eq_true (by first | (with_reducible assumption)|  assumption)) (of_decide_eq_true (by first | (with_reducible assumption)|  assumption)); have HP32 := Kd.R_putg HO_3.out (((rd_T43 l0_1 x6_3).f1) : Int) ji24)|((with_reducible refine gate_store (t := 3) (p := 70) rfl ?_); (try (rw [drewN_self w30]; generalize hq_ : World.drewN w30 _ = w30; replace HO_3 := zMk (Kd.R_at hq_ HO_3.out); replace BK375 := zMk (blk_at hq_ BK375.out); replace HB := zMk (below_at hq_ HB.out); clear hq_; (try (obtain ⟨hy32_, hz32_⟩ := Kd.R_celln 0 HO_3.out (((rd_T43 l0_1 x6_3).f1) : Int) (of_decide_eq_true (by first | (with_reducible assumption)|  assumption)) (of_decide_eq_true (by first | (with_reducible assumption)|  assumption)))); (try (have HP32 := Kd.R_putg HO_3.out (((rd_T43 l0_1 x6_3).f1) : Int) ji24)))); refine store_event (t := 3) (p := 70) (v := ?vo_w33) (w1 := (w30.setCell ⟨go25, (((rd_T43 l0_1 x6_3).f1) : Int).toNat, none⟩ (.int .i64 ji24))) ?hg ?ho ?hn ?hr ?_; (case ho => rfl); (case hg => rfl); (case hn => rfl); (case hr => first | (go_simp; done)|(go_simp; rfl)|(go_simp; rw [show ∀ x : Int, IntKind.u32.wrap (IntKind.u8.wrap x) = x % 256 from fun x => (by show (x % 256) % 4294967296 = x % 256; omega)])); intro w33 hw; have hg : w30.grownBy w33 (some go25) := (by rw [hw]; exact HP32.2); have hp_ : Kd.R (Kd.int .i64) 3 w33 w.heap.size (fun _ => True) (.slice (some ⟨go25, 0, none⟩) x3_3.length co28) y387 := (by rw [hw, Ny387.out]; exact HP32.1); clear HP32; replace BK375 := zMk (blk_grown (g := gb375) (o := .cells #[.int .i64 a0_0, .slice (some ad380) l0_1.length c0_1] 24 (0, 0)) (by (with_reducible repeat (first |  refine zKn ?_ _|  refine zKd ?_|  refine zKa ?_ _)); exact BK375.out) hg (Kd.R_ne HO_3.out BK375.out (by decide))); replace HO_3 := zMk (hp_); replace HB := zMk ((by rw [hw]; exact below_set (HB.out) GB25.out : Below w.heap.size w w33)); clear hg hw hp_)); try go_wp2_with (first | ((with_reducible refine gate_store (t := 3) (p := 61) rfl ?_); (try (rw [drewN_self wr]; generalize hq_ : World.drewN wr _ = wr; replace HO_3 := zMk (Kd.R_at hq_ HO_3.out); replace BK375 := zMk (blk_at hq_ BK375.out); replace HB := zMk (below_at hq_ HB.out); clear hq_; (try (obtain ⟨hy29_, hz29_⟩ := Kd.R_celln 0 HO_3.out (((rd_T43 l0_1 x6_3).f0) : Int) (of_decide_eq_true (by assumption)) (of_decide_eq_true (by assumption)))); (try (have HP29 := Kd.R_putg HO_3.out (((rd_T43 l0_1 x6_3).f0) : Int) ji24)))); refine store_event (t := 3) (p := 61) (v := ?vo_w30) (w1 := (wr.setCell ⟨go25, (((rd_T43 l0_1 x6_3).f0) : Int).toNat, none⟩ (.int .i64 ji24))) ?hg ?ho ?hn ?hr ?_; (case ho => rfl); (case hg => rfl); (case hn => rfl); (case hr => first | (go_simp; done)|(go_simp; rfl)|(go_simp; rw [show ∀ x : Int, IntKind.u32.wrap (IntKind.u8.wrap x) = x % 256 from fun x => (by show (x % 256) % 4294967296 = x % 256; omega)])); intro w30 hw; have hg : wr.grownBy w30 (some go25) := (by rw [hw]; exact HP29.2); have hp_ : Kd.R (Kd.int .i64) 3 w30 w.heap.size (fun _ => True) (.slice (some ⟨go25, 0, none⟩) x3_3.length co28) y385 := (by rw [hw, Ny385.out]; exact HP29.1); clear HP29; replace BK375 := zMk (blk_grown (g := gb375) (o := .cells #[.int .i64 a0_0, .slice (some ad380) l0_1.length c0_1] 24 (0, 0)) (by (with_reducible repeat (first |  refine zKn ?_ _|  refine zKd ?_|  refine zKa ?_ _)); exact BK375.out) hg (Kd.R_ne HO_3.out BK375.out (by decide))); replace HO_3 := zMk (hp_); replace HB := zMk ((by rw [hw]; exact below_set (HB.out) GB25.out : Below w.heap.size w w30)); clear hg hw hp_; have hcz31_0 : w30.cell? ⟨gb375, 0, none⟩ = some (.int .i64 a0_0) := (zKc BK375.out 0).trans rfl; have hcz31_1 : w30.cell? ⟨gb375, 1, none⟩ = some (.slice (some ad380) l0_1.length c0_1) := (zKc BK375.out 1).trans rfl; have hfz31_0 := zKf BK375.out 0; have hfz31_1 := zKf BK375.out 1; have p386 : 0 ≤ (x6_3 : Int) := of_decide_eq_true (by first | (with_reducible assumption)|  assumption); have q386 : x6_3 < (l0_1.length : Int) := of_decide_eq_true (by first | (with_reducible assumption)|  assumption); obtain ⟨ad386, e386, hx386_0, hx386_1, hx386_2⟩ := at_T43 HR0_1.out x6_3 p386 q386; obtain rfl : ad380 = ad386 := (by injection e386); replace hx386_0 := (HB.out.cell (World.block_lt_of_cell? w _ hx386_0)).trans hx386_0; replace hx386_1 := (HB.out.cell (World.block_lt_of_cell? w _ hx386_1)).trans hx386_1; replace hx386_2 := (HB.out.cell (World.block_lt_of_cell? w _ hx386_2)).trans hx386_2; replace p386 := eq_true p386; replace q386 := eq_true q386; have p26 : 0 ≤ (((rd_T43 l0_1 x6_3).f1) : Int) := of_decide_eq_true (by first | (with_reducible assumption)|  assumption); have q26 : (((rd_T43 l0_1 x6_3).f1) : Int) < ((x3_3.length : Int) : Int) := of_decide_eq_true (by first | (with_reducible assumption)|  assumption); obtain ⟨hx26_0, hf26_0⟩ := Kd.R_celln 0 HO_3.out (((rd_T43 l0_1 x6_3).f1) : Int) p26 q26; replace p26 := eq_true p26; replace q26 := eq_true q26; obtain ⟨hy32_, hz32_⟩ := Kd.R_celln 0 HO_3.out (((rd_T43 l0_1 x6_3).f1) : Int) (of_decide_eq_true (by first | (with_reducible assumption)|  assumption)) (of_decide_eq_true (by first | (with_reducible assumption)|  assumption)); have HP32 := Kd.R_putg HO_3.out (((rd_T43 l0_1 x6_3).f1) : Int) ji24)|((with_reducible refine gate_store (t := 3) (p := 70) rfl ?_); (try (rw [drewN_self w30]; generalize hq_ : World.drewN w30 _ = w30; replace HO_3 := zMk (Kd.R_at hq_ HO_3.out); replace BK375 := zMk (blk_at hq_ BK375.out); replace HB := zMk (below_at hq_ HB.out); clear hq_; (try (obtain ⟨hy32_, hz32_⟩ := Kd.R_celln 0 HO_3.out (((rd_T43 l0_1 x6_3).f1) : Int) (of_decide_eq_true (by first | (with_reducible assumption)|  assumption)) (of_decide_eq_true (by first | (with_reducible assumption)|  assumption)))); (try (have HP32 := Kd.R_putg HO_3.out (((rd_T43 l0_1 x6_3).f1) : Int) ji24)))); refine store_event (t := 3) (p := 70) (v := ?vo_w33) (w1 := (w30.setCell ⟨go25, (((rd_T43 l0_1 x6_3).f1) : Int).toNat, none⟩ (.int .i64 ji24))) ?hg ?ho ?hn ?hr ?_; (case ho => rfl); (case hg => rfl); (case hn => rfl); (case hr => first | (go_simp; done)|(go_simp; rfl)|(go_simp; rw [show ∀ x : Int, IntKind.u32.wrap (IntKind.u8.wrap x) = x % 256 from fun x => (by show (x % 256) % 4294967296 = x % 256; omega)])); intro w33 hw; have hg : w30.grownBy w33 (some go25) := (by rw [hw]; exact HP32.2); have hp_ : Kd.R (Kd.int .i64) 3 w33 w.heap.size (fun _ => True) (.slice (some ⟨go25, 0, none⟩) x3_3.length co28) y387 := (by rw [hw, Ny387.out]; exact HP32.1); clear HP32; replace BK375 := zMk (blk_grown (g := gb375) (o := .cells #[.int .i64 a0_0, .slice (some ad380) l0_1.length c0_1] 24 (0, 0)) (by (with_reducible repeat (first |  refine zKn ?_ _|  refine zKd ?_|  refine zKa ?_ _)); exact BK375.out) hg (Kd.R_ne HO_3.out BK375.out (by decide))); replace HO_3 := zMk (hp_); replace HB := zMk ((by rw [hw]; exact below_set (HB.out) GB25.out : Below w.heap.size w w33)); clear hg hw hp_)))
          go_roundg k3
          case measure => have := HK1.out; have := HK2.out; have := HK3.out; omega
          case rel => exact ⟨(y387), (wrap64 (x6_3 + 1)), (by first | rfl | (simp; done) | (simp [*]; done)), H', ⟨by have := HK1.out; have := HK2.out; have := HK3.out; omega⟩, ⟨by exact uR HO_3.out⟩, ⟨by (with_reducible repeat (first | refine zKn ?_ _ | refine zKd ?_ | refine zKa ?_ _)); exact BK375.out⟩, ⟨by exact uT HB.out⟩⟩
        · rw [if_neg c18] at H
          have c18b0 : decide (x6_3 < (l0_1.length : Int)) = false := decide_eq_false c18
          clear c18
          have H' := zMk H
          clear H
          have hcz34_0 : wr.cell? ⟨gb375, 0, none⟩ = some (.int .i64 a0_0) := (zKc BK375.out 0).trans rfl
          have hcz34_1 : wr.cell? ⟨gb375, 1, none⟩ = some (.slice A0_1 l0_1.length c0_1) := (zKc BK375.out 1).trans rfl
          have hfz34_0 := zKf BK375.out 0
          have hfz34_1 := zKf BK375.out 1
          go_wp2
          repeat (go_quiet (fail); try go_wp2)
          go_roundg k3
          case measure => have := HK1.out; have := HK2.out; have := HK3.out; omega
          case rel => exact ⟨(x3_3), (wrap64 (x5_2 + 1)), (by first | rfl | (simp; done) | (simp [*]; done)), H', ⟨by have := HK1.out; have := HK2.out; have := HK3.out; omega⟩, ⟨by exact uR HO_3.out⟩, ⟨by (with_reducible repeat (first | refine zKn ?_ _ | refine zKd ?_ | refine zKa ?_ _)); exact BK375.out⟩, ⟨by exact uT HB.out⟩⟩
      · rw [if_neg c16] at H
        have c16b0 : decide (x5_2 < a0_0) = false := decide_eq_false c16
        clear c16
        obtain rfl := zOi H
        have hcz35_0 : wr.cell? ⟨gb375, 0, none⟩ = some (.int .i64 a0_0) := (zKc BK375.out 0).trans rfl
        have hcz35_1 : wr.cell? ⟨gb375, 1, none⟩ = some (.slice A0_1 l0_1.length c0_1) := (zKc BK375.out 1).trans rfl
        have hfz35_0 := zKf BK375.out 0
        have hfz35_1 := zKf BK375.out 1
        go_wp2
        repeat (go_quiet (fail); try go_wp2)
        go_ret
        exact ⟨_, by first | rfl | (simp [errW_none, errW_some] <;> rfl) | (simp [*, errW_none, errW_some] <;> rfl), by exact uR HO_3.out, by exact uT HB.out⟩
  · rw [if_neg c2] at H
    exact absurd H (by simp)

def stepL (l : List Int) (e : S43) : List Int := (l.set e.f0.toNat (mn (rd l e.f0) (rd l e.f1))).set e.f1.toNat (mn (rd l e.f0) (rd l e.f1))
def roundL (E : List S43) (l : List Int) : List Int := E.foldl stepL l
def itL (E : List S43) : Nat → List Int → List Int
  | 0, l => l
  | d + 1, l => itL E d (roundL E l)
theorem stepL_len (l : List Int) (e : S43) : (stepL l e).length = l.length := by simp [stepL]
theorem foldL_len (E : List S43) : ∀ l : List Int, (E.foldl stepL l).length = l.length := by
  induction E with
  | nil => intro l; rfl
  | cons e E ih => intro l; rw [List.foldl_cons, ih, stepL_len]
theorem itL_len (E : List S43) : ∀ (d : Nat) (l : List Int), (itL E d l).length = l.length
  | 0, _ => rfl
  | d + 1, l => by rw [itL, itL_len E d]; exact foldL_len E l
theorem Lab_l2 (N : Nat) (E : List S43) (hE : Ends N E) (hm : E.length ≤ 1000000000) (x5 : Int) (r : List Int) (d : Nat) : ∀ (i : Nat) (l : List Int), E.length - i = d → i ≤ E.length → l.length = N →
    Ev (fun k => filigreeref06_Labels.l1 k ((E.drop i).foldl stepL l) (wrap64 (x5 + 1)) N E) r → Ev (fun k => filigreeref06_Labels.l2 k l x5 i N E) r := by
  induction d with
  | zero =>
    intro i l hd hi hl h
    obtain rfl : i = E.length := by omega
    rw [List.drop_length] at h
    refine Ev.step (fun k => ?_) h
    simp only [filigreeref06_Labels.l2]
    rw [if_neg (by omega)]; rfl
  | succ d ih =>
    intro i l hd hi hl h
    have hlt : i < E.length := by omega
    rw [dropE E i hlt, List.foldl_cons] at h
    have hx := hE _ (show rd_T43 E (i : Int) ∈ E by rw [rdE_get E i hlt]; exact List.getElem_mem hlt)
    refine Ev.step (fun k => ?_) (ih (i + 1) _ (by omega) (by omega) (by rw [stepL_len]; exact hl) h)
    simp only [filigreeref06_Labels.l2]
    rw [if_pos (by omega), if_pos (by omega), if_pos hx.1, if_pos (by rw [hl]; exact hx.2.1), if_pos hx.2.2.1, if_pos (by rw [hl]; exact hx.2.2.2), w64n i (by omega)]
    rfl
theorem Lab_l1 (N : Nat) (E : List S43) (hE : Ends N E) (hm : E.length ≤ 1000000000) (hN : N ≤ 1000000000) (d : Nat) : ∀ (i : Nat) (l : List Int), N - i = d → i ≤ N → l.length = N →
    Ev (fun k => filigreeref06_Labels.l1 k l i N E) (itL E d l) := by
  induction d with
  | zero =>
    intro i l hd hi hl
    refine Ev.step (fun k => ?_) (Ev.now _)
    simp only [filigreeref06_Labels.l1]
    rw [if_neg (by omega)]; rfl
  | succ d ih =>
    intro i l hd hi hl
    have h1 := ih (i + 1) (roundL E l) (by omega) (by omega) (by rw [roundL, foldL_len]; exact hl)
    have h2 := Lab_l2 N E hE hm (i : Int) (itL E d (roundL E l)) E.length 0 l rfl (Nat.zero_le _) hl (by
      rw [List.drop_zero, w64n i (by omega)]; exact h1)
    refine Ev.step (fun k => ?_) h2
    simp only [filigreeref06_Labels.l1]
    rw [if_pos (by omega)]; rfl
theorem Lab_l0 (N : Nat) (E : List S43) (hE : Ends N E) (hm : E.length ≤ 1000000000) (hN : N ≤ 1000000000) (d : Nat) : ∀ (i : Nat) (l : List Int), N - i = d → i ≤ N → l.length = N → (∀ j : Nat, j < i → rd l j = j) →
    Ev (fun k => filigreeref06_Labels.l0 k l i N E) (itL E N (ups N)) := by
  induction d with
  | zero =>
    intro i l hd hi hl hr
    obtain rfl : i = N := by omega
    have e : l = ups i := by
      apply List.ext_getElem (by rw [ups_len]; exact hl)
      intro j h1 h2
      have h3 := hr j (by omega)
      rw [rd_nat l j h1] at h3
      rw [h3]
      simp [ups]
    subst e
    refine Ev.step (fun k => ?_) (Lab_l1 i E hE hm hN i 0 _ rfl (Nat.zero_le _) hl)
    simp only [filigreeref06_Labels.l0]
    rw [if_neg (by omega)]; rfl
  | succ d ih =>
    intro i l hd hi hl hr
    refine Ev.step (fun k => ?_) (ih (i + 1) (l.set i i) (by omega) (by omega) (by rw [List.length_set]; exact hl) (fun j hj => ?_))
    · simp only [filigreeref06_Labels.l0]
      rw [if_pos (by omega), if_pos (by omega), if_pos (by omega), w64n i (by omega), zTn]
    · have := rd_set l i j i (by omega) (by omega) (by omega)
      rw [zTn] at this
      rw [this]
      split
      · omega
      · exact hr j (by omega)
theorem Labels_ev (N : Nat) (E : List S43) (hE : Ends N E) (hm : E.length ≤ 1000000000) (hN : N ≤ 1000000000) : Ev (fun k => filigreeref06_Labels.f k N E) (itL E N (ups N)) := by
  refine Ev.congr (fun k => ?_) (Lab_l0 N E hE hm hN N 0 (List.replicate N 0) rfl (Nat.zero_le _) List.length_replicate (fun j hj => by omega))
  unfold filigreeref06_Labels.f
  rw [if_pos (by omega), zTn, if_pos (by omega)]; rfl
structure LabI (N : Nat) (E : List S43) (l : List Int) : Prop where
  len : l.length = N
  ok : ∀ v : Int, 0 ≤ v → v < (N : Int) → 0 ≤ rd l v ∧ rd l v ≤ v ∧ Cn E v (rd l v)
theorem LabI.start (N : Nat) (E : List S43) : LabI N E (ups N) := by
  refine ⟨ups_len N, fun v h0 h1 => ?_⟩
  obtain ⟨i, rfl⟩ := Int.eq_ofNat_of_zero_le h0
  have : rd (ups N) (i : Int) = i := by rw [rd_nat _ i (by rw [ups_len]; omega)]; simp [ups]
  rw [this]
  exact ⟨h0, Int.le_refl _, .refl _⟩
theorem mn_cases (a b : Int) : (mn a b = a ∧ a ≤ b) ∨ (mn a b = b ∧ b ≤ a) := by unfold mn; split <;> omega
theorem rd_step {N : Nat} {l : List Int} {e : S43} (hl : l.length = N) (he : 0 ≤ e.f0 ∧ e.f0 < (N : Int) ∧ 0 ≤ e.f1 ∧ e.f1 < (N : Int)) (v : Int) (hv : 0 ≤ v) : rd (stepL l e) v = if v = e.f1 ∨ v = e.f0 then mn (rd l e.f0) (rd l e.f1) else rd l v := by
  unfold stepL
  rw [rd_set _ _ _ _ he.2.2.1 (by rw [List.length_set, hl]; exact he.2.2.2) hv, rd_set _ _ _ _ he.1 (by rw [hl]; exact he.2.1) hv]
  by_cases a : v = e.f1
  · rw [if_pos a, if_pos (.inl a)]
  · rw [if_neg a]
    by_cases b : v = e.f0
    · rw [if_pos b, if_pos (.inr b)]
    · rw [if_neg b, if_neg (by rintro (h | h); exact a h; exact b h)]
theorem LabI.step {N : Nat} {E : List S43} (hE : Ends N E) {l : List Int} (h : LabI N E l) {e : S43} (he : e ∈ E) : LabI N E (stepL l e) := by
  refine ⟨by rw [stepL_len]; exact h.len, fun v h0 h1 => ?_⟩
  have hx := hE e he
  rw [rd_step h.len hx v h0]
  have a := h.ok e.f0 hx.1 hx.2.1
  have b := h.ok e.f1 hx.2.2.1 hx.2.2.2
  have c01 : Cn E e.f0 e.f1 := .fwd e he (.refl _)
  split
  · rename_i hv
    rcases mn_cases (rd l e.f0) (rd l e.f1) with ⟨e1, e2⟩ | ⟨e1, e2⟩ <;> rw [e1] <;> rcases hv with rfl | rfl
    · exact ⟨a.1, by omega, c01.symm.trans a.2.2⟩
    · exact a
    · exact b
    · exact ⟨b.1, by omega, c01.trans b.2.2⟩
  · exact h.ok v h0 h1
theorem step_gain {N : Nat} {E : List S43} (hE : Ends N E) {l : List Int} (h : LabI N E l) {e : S43} (he : e ∈ E) {r : Int} (hr : Root E r) (hd : rd l e.f0 = r ∨ rd l e.f1 = r) : rd (stepL l e) e.f0 = r ∧ rd (stepL l e) e.f1 = r := by
  have hx := hE e he
  have a := h.ok e.f0 hx.1 hx.2.1
  have b := h.ok e.f1 hx.2.2.1 hx.2.2.2
  have c01 : Cn E e.f0 e.f1 := .fwd e he (.refl _)
  have key : mn (rd l e.f0) (rd l e.f1) = r := by
    have hra : r ≤ rd l e.f0 := by
      rcases hd with hd | hd
      · omega
      · exact hr _ a.1 ((hd ▸ b.2.2.symm).trans (c01.symm.trans a.2.2))
    have hrb : r ≤ rd l e.f1 := by
      rcases hd with hd | hd
      · exact hr _ b.1 ((hd ▸ a.2.2.symm).trans (c01.trans b.2.2))
      · omega
    rcases mn_cases (rd l e.f0) (rd l e.f1) with ⟨e1, e2⟩ | ⟨e1, e2⟩ <;> rcases hd with hd | hd <;> omega
  rw [rd_step h.len hx _ hx.1, rd_step h.len hx _ hx.2.2.1, if_pos (.inr rfl), if_pos (.inl rfl)]
  exact ⟨key, key⟩
theorem step_keep {N : Nat} {E : List S43} (hE : Ends N E) {l : List Int} (h : LabI N E l) {e : S43} (he : e ∈ E) {r : Int} (hr : Root E r) {v : Int} (h0 : 0 ≤ v) (hv : rd l v = r) : rd (stepL l e) v = r := by
  have hx := hE e he
  by_cases a : v = e.f0
  · subst a; exact (step_gain hE h he hr (.inl hv)).1
  · by_cases b : v = e.f1
    · subst b; exact (step_gain hE h he hr (.inr hv)).2
    · rw [rd_step h.len hx v h0, if_neg (by rintro (h | h); exact b h; exact a h)]
      exact hv
theorem fold_keep {N : Nat} {E : List S43} (hE : Ends N E) {r : Int} (hr : Root E r) : ∀ (F : List S43), (∀ e ∈ F, e ∈ E) → ∀ l : List Int, LabI N E l → LabI N E (F.foldl stepL l) ∧ (∀ v, 0 ≤ v → rd l v = r → rd (F.foldl stepL l) v = r) ∧ ∀ e ∈ F, (rd l e.f0 = r ∨ rd l e.f1 = r) → rd (F.foldl stepL l) e.f0 = r ∧ rd (F.foldl stepL l) e.f1 = r
  | [], _, l, h => ⟨h, fun _ _ hv => hv, fun e he => by cases he⟩
  | f :: F, hF, l, h => by
    have hf : f ∈ E := hF f (List.mem_cons_self ..)
    obtain ⟨h1, h2, h3⟩ := fold_keep hE hr F (fun e he => hF e (List.mem_cons_of_mem _ he)) (stepL l f) (h.step hE hf)
    rw [List.foldl_cons]
    refine ⟨h1, fun v h0 hv => h2 v h0 (step_keep hE h hf hr h0 hv), fun e he hd => ?_⟩
    have hx := hE e (hF e he)
    rcases List.mem_cons.1 he with rfl | he
    · obtain ⟨a, b⟩ := step_gain hE h hf hr hd
      exact ⟨h2 _ hx.1 a, h2 _ hx.2.2.1 b⟩
    · exact h3 e he (hd.imp (step_keep hE h hf hr hx.1) (step_keep hE h hf hr hx.2.2.1))
def DoneL (E : List S43) (r : Int) (l : List Int) : Prop := ∀ v, Cn E r v → rd l v = r
theorem not_done {E : List S43} {r : Int} {l : List Int} (h0 : rd l r = r) (h : ¬ DoneL E r l) : ∃ e ∈ E, (rd l e.f0 = r ∧ rd l e.f1 ≠ r) ∨ (rd l e.f0 ≠ r ∧ rd l e.f1 = r) := by
  refine Classical.byContradiction fun hn => h fun v hc => ?_
  induction hc with
  | refl => exact h0
  | fwd e he _ ih => exact Classical.byContradiction fun h1 => hn ⟨e, he, .inl ⟨ih, h1⟩⟩
  | bwd e he _ ih => exact Classical.byContradiction fun h1 => hn ⟨e, he, .inr ⟨h1, ih⟩⟩
theorem it_keep {N : Nat} {E : List S43} (hE : Ends N E) {r : Int} (hr : Root E r) : ∀ (d : Nat) (l : List Int), LabI N E l → LabI N E (itL E d l) ∧ ∀ v, 0 ≤ v → rd l v = r → rd (itL E d l) v = r
  | 0, _, h => ⟨h, fun _ _ hv => hv⟩
  | d + 1, l, h => by
    obtain ⟨h1, h2, _⟩ := fold_keep hE hr E (fun _ he => he) l h
    obtain ⟨h3, h4⟩ := it_keep hE hr d (roundL E l) h1
    exact ⟨h3, fun v h0 hv => h4 v h0 (h2 v h0 hv)⟩
theorem it_done {N : Nat} {E : List S43} (hE : Ends N E) {r : Int} (hr : Root E r) (hr0 : 0 ≤ r) : ∀ (d : Nat) (l : List Int), LabI N E l → rd l r = r → DoneL E r (itL E d l) ∨ l.count r + d ≤ (itL E d l).count r
  | 0, _, _, _ => .inr (Nat.le_refl _)
  | d + 1, l, h, h0 => by
    obtain ⟨h1, h2, h3⟩ := fold_keep hE hr E (fun _ he => he) l h
    by_cases hd : DoneL E r l
    · refine .inl fun v hc => ?_
      have hv0 : 0 ≤ v := by
        cases hc with
        | refl => exact hr0
        | fwd e he _ => exact (hE e he).2.2.1
        | bwd e he _ => exact (hE e he).1
      exact (it_keep hE hr (d + 1) l h).2 v hv0 (hd v hc)
    · rcases it_done hE hr hr0 d (roundL E l) h1 (h2 r hr0 h0) with h4 | h4
      · exact .inl h4
      · right
        have hlt : l.count r < (roundL E l).count r := by
          refine count_lt r l _ (by rw [roundL, foldL_len]) (fun i hi hv => h2 i (by omega) hv) ?_
          obtain ⟨e, he, hx⟩ := not_done h0 hd
          have hb := hE e he
          rcases hx with ⟨a, b⟩ | ⟨a, b⟩
          · refine ⟨e.f1.toNat, by rw [h.len]; omega, ?_, ?_⟩
            · rwa [Int.toNat_of_nonneg hb.2.2.1]
            · rw [Int.toNat_of_nonneg hb.2.2.1]; exact (h3 e he (.inl a)).2
          · refine ⟨e.f0.toNat, by rw [h.len]; omega, ?_, ?_⟩
            · rwa [Int.toNat_of_nonneg hb.1]
            · rw [Int.toNat_of_nonneg hb.1]; exact (h3 e he (.inr b)).1
        show l.count r + (d + 1) ≤ (itL E d (roundL E l)).count r
        omega
def labs (N : Nat) (E : List S43) : List Int := itL E N (ups N)
theorem labs_len (N : Nat) (E : List S43) : (labs N E).length = N := by rw [labs, itL_len, ups_len]
theorem labs_root {N : Nat} {E : List S43} (hE : Ends N E) {r v : Int} (hr : Root E r) (hr0 : 0 ≤ r) (hr1 : r < (N : Int)) (hc : Cn E r v) : rd (labs N E) v = r := by
  have hs := LabI.start N E
  have h0 : rd (ups N) r = r := by
    obtain ⟨i, rfl⟩ := Int.eq_ofNat_of_zero_le hr0
    rw [rd_nat _ i (by rw [ups_len]; omega)]; simp [ups]
  rcases it_done hE hr hr0 N (ups N) hs h0 with h | h
  · exact h v hc
  · exfalso
    have h1 : (itL E N (ups N)).count r ≤ N := by
      have := List.count_le_length (a := r) (l := itL E N (ups N))
      rwa [itL_len, ups_len] at this
    have h2 : 0 < (ups N).count r := by
      rw [List.count_pos_iff]
      exact mem_ups.2 ⟨hr0, hr1⟩
    omega
theorem labs_iff {N : Nat} {E : List S43} (hE : Ends N E) {u v : Int} (hu : 0 ≤ u ∧ u < (N : Int)) (hv : 0 ≤ v ∧ v < (N : Int)) : rd (labs N E) u = rd (labs N E) v ↔ Cn E u v := by
  obtain ⟨r, r0, r1, hr, hur⟩ := root_of E u hu.1
  obtain ⟨s, s0, s1, hs, hvs⟩ := root_of E v hv.1
  rw [labs_root hE hr r0 (by omega) hur.symm, labs_root hE hs s0 (by omega) hvs.symm]
  constructor
  · rintro rfl; exact hur.trans hvs.symm
  · intro h; exact root_eq r0 s0 hr hs (hur.symm.trans (h.trans hvs))
theorem labs_self {N : Nat} {E : List S43} (hE : Ends N E) {v : Int} (hv : 0 ≤ v ∧ v < (N : Int)) : rd (labs N E) v = v ↔ Root E v := by
  obtain ⟨s, s0, s1, hs, hvs⟩ := root_of E v hv.1
  rw [labs_root hE hs s0 (by omega) hvs.symm]
  constructor
  · rintro rfl; exact hs
  · intro h; exact root_eq s0 hv.1 hs h hvs.symm

mutual
def filigreeref06_Components.l0 : Nat → List Int → List (List Int) → Int → Int → List (S43) → Option ((List (List Int)))
  | 0, _, _, _, _, _ => none
  | k + 1, x3, x4, x5, x459000, x459001 => if x5 < x459000 then (if 0 ≤ x5 then (if x5 < (x3.length : Int) then (if (rd x3 x5) = x5 then (filigreeref06_Components.l1 k x3 x4 x5 ([] : List Int) x5 x459000 x459001) else (filigreeref06_Components.l0 k x3 x4 (wrap64 (x5 + 1)) x459000 x459001)) else (none)) else (none)) else (some x4)
def filigreeref06_Components.l1 : Nat → List Int → List (List Int) → Int → List Int → Int → Int → List (S43) → Option ((List (List Int)))
  | 0, _, _, _, _, _, _, _ => none
  | k + 1, x3, x4, x5, x6, x7, x459000, x459001 => if x7 < x459000 then (if 0 ≤ x7 then (if x7 < (x3.length : Int) then (if (rd x3 x7) = x5 then (if x6.length < 17592186044416 then (filigreeref06_Components.l1 k x3 x4 x5 (x6 ++ [x7]) (wrap64 (x7 + 1)) x459000 x459001) else (none)) else (filigreeref06_Components.l1 k x3 x4 x5 x6 (wrap64 (x7 + 1)) x459000 x459001)) else (none)) else (none)) else (if x4.length < 5864062014805 then (filigreeref06_Components.l0 k x3 (x4 ++ [x6]) (wrap64 (x5 + 1)) x459000 x459001) else (none))
end
def filigreeref06_Components.f (k : Nat) (a0_0 : Int) (l0_1 : List (S43)) : Option ((List (List Int))) := (filigreeref06_Labels.f k a0_0 l0_1).bind fun t459 => (filigreeref06_Components.l0 k t459 ([] : List (List Int)) 0 a0_0 l0_1)
theorem filigreeref06_Components.calls (k : Nat) (a0_0 : Int) (A0_1 : Option Addr) (c0_1 : Nat) (l0_1 : List (S43)) (r : List (List Int)) (w : World) (hr0_1 : Kd.C k43 w A0_1 l0_1.length l0_1) (hc0_1 : l0_1.length ≤ c0_1) (h : filigreeref06_Components.f k a0_0 l0_1 = some r) :
    Calls Try.prog 13 #[.agg #[.int .i64 a0_0, .slice A0_1 l0_1.length c0_1]] w fun e w' => ∃ v0_ : Value, e = .returned (v0_) ∧ Kd.S (Kd.slice 3 (Kd.int .i64)) 33 w' w.heap.size (fun _ => True) v0_ r ∧ Below w.heap.size w w' := by
  have hu24 := Try.underlying24
  have HR0_1 := zMk hr0_1
  have HC0_1 := zMk hc0_1
  clear hr0_1 hc0_1
  have HB := zMk (Below.refl w.heap.size w)
  have H : ((filigreeref06_Labels.f k a0_0 l0_1).bind fun t459 => (filigreeref06_Components.l0 k t459 ([] : List (List Int)) 0 a0_0 l0_1)) = some r := h
  clear h
  replace H := bnd H
  obtain ⟨t459, A20, H⟩ := H
  have A2 := zMk A20
  clear A20
  have H' := zMk H
  clear H
  go_enter Try.func13, Try.ntmps13
  go_wp2_with (first | ((with_reducible refine gate_dst (N := 1) rfl ?_); refine box_event ?hg (N := 1) ?hd (cs := #[.int .i64 a0_0, .slice A0_1 l0_1.length c0_1]) (t := 24) ?hr ?_; (case hd => rfl); (case hg => rfl); (case hr => first | (go_simp; done)|(go_simp; rfl)|(go_simp; rw [show ∀ x : Int, IntKind.u32.wrap (IntKind.u8.wrap x) = x % 256 from fun x => (by show (x % 256) % 4294967296 = x % 256; omega)])); intro gb458 hg w3 hbox hb; have BK458 := zMk (hbox); have GW458 := zMk ((by rw [hg]; exact (zBs (by exact uT HB.out)) : w.heap.size ≤ gb458)); have GE458 := zMk ((by rw [hg]; exact (zBs (by exact uT HB.out)) : w.heap.size ≤ gb458)); have IGE458 := ownGe GE458.out; replace HB := zMk (zBt (by exact uT HB.out) hb); clear hb hbox hg; have hcz4_0 : w3.cell? ⟨gb458, 0, none⟩ = some (.int .i64 a0_0) := (zKc BK458.out 0).trans rfl; have hcz4_1 : w3.cell? ⟨gb458, 1, none⟩ = some (.slice A0_1 l0_1.length c0_1) := (zKc BK458.out 1).trans rfl; have hfz4_0 := zKf BK458.out 0; have hfz4_1 := zKf BK458.out 1)|((with_reducible refine gate_callee (f := 30) rfl ?_); refine goesL_ (some 9) rfl rfl Try.func30 (by kernel_rfl) rfl #[.agg #[.int .i64 a0_0, .slice A0_1 l0_1.length c0_1]] rfl (by (try simp only [zMa, zMc, zMn]); first |  done|  rfl|  (simp only [zLd, zLt]; rfl)) ?_; (with_reducible refine (filigreeref06_Labels.calls k a0_0 _ _ l0_1 t459 _ ?side1 ?side2 A2.out).mono ?_); (case side1 => repeat (first |  exact (Kd.C_below HR0_1.out HB.out)|(with_reducible refine zCa ?_ _)|(with_reducible refine zCn ?_ _)|(with_reducible refine zCd ?_))); (case side2 => exact HC0_1.out); rintro e w5 ⟨v460, rfl, ho0, hb⟩; refine ⟨_, rfl, ?_⟩; have HO461 := zMk (zRl ho0 (zBs (by exact uT HB.out))); replace BK458 := zMk (zKb (g := gb458) (o := .cells #[.int .i64 a0_0, .slice A0_1 l0_1.length c0_1] 24 (0, 0)) (by (with_reducible repeat (first |  refine zKn ?_ _|  refine zKd ?_|  refine zKa ?_ _)); exact BK458.out) hb); replace HB := zMk (zBt (by exact uT HB.out) hb)))
  go_loopg [4, 5] k (fun kq v4 v5 w' => ∃ (x4_1 : List (List Int)) (x5_1 : Int), v5 = .int .i64 x5_1 ∧ Aside0 (filigreeref06_Components.l0 kq t459 x4_1 x5_1 a0_0 l0_1 = some r) ∧ Aside0 (kq ≤ k) ∧ Aside0 (Kd.R (Kd.int .i64) 3 w' w.heap.size (fun _ => True) v460 t459) ∧ Aside0 (Kd.S (Kd.slice 3 (Kd.int .i64)) 33 w' w.heap.size (fun k_ => some k_ ≠ (v460 : Value).ownBlock) v4 x4_1) ∧ Aside0 (w'.heap[gb458]? = some (.cells #[.int .i64 a0_0, (.slice A0_1 l0_1.length c0_1)] 24 (0, 0))) ∧ Aside0 (Below w.heap.size w w'))
  case atStart => exact ⟨(([] : List (List Int))), (0), (by first | rfl | (simp; done) | (simp [*]; done)), H', ⟨Nat.le_refl _⟩, ⟨by exact uR HO461.out⟩, ⟨by first | exact Kd.S_nil _ _ _ _ _ | exact Kd.N_nil _ _ _ _ _ | exact Kd.V_nil _ _ _ _ _ | exact Kd.Q_nil _ _ _ _ _ | exact Kd.R_nil _ _ _ _ _⟩, ⟨by (with_reducible repeat (first | refine zKn ?_ _ | refine zKd ?_ | refine zKa ?_ _)); exact BK458.out⟩, ⟨by exact uT HB.out⟩⟩
  clear H'
  obtain ⟨x4_1, x5_1, rfl, HA, HK1, HO_3, HO_4, BK458, HB⟩ := hrel
  rcases gk with _ | k1
  · exact absurd HA.out (by simp [filigreeref06_Components.l0])
  have H := HA.out
  clear HA
  simp only [filigreeref06_Components.l0] at H
  by_cases c6 : x5_1 < a0_0
  · rw [if_pos c6] at H
    have c6b0 : decide (x5_1 < a0_0) = true := decide_eq_true c6
    clear c6
    by_cases c7 : 0 ≤ x5_1
    rotate_left
    · rw [if_neg c7] at H; exact absurd H (by simp)
    rw [if_pos c7] at H
    have c7b0 : decide (0 ≤ x5_1) = true := decide_eq_true c7
    clear c7
    by_cases c8 : x5_1 < (t459.length : Int)
    rotate_left
    · rw [if_neg c8] at H; exact absurd H (by simp)
    rw [if_pos c8] at H
    have c8b0 : decide (x5_1 < (t459.length : Int)) = true := decide_eq_true c8
    clear c8
    by_cases c9 : (rd t459 x5_1) = x5_1
    · rw [if_pos c9] at H
      have c9b0 : ((rd t459 x5_1) == x5_1) = true := beq_iff_eq.mpr c9
      have c9b1 : ((rd t459 x5_1) != x5_1) = false := bne_eq_false_iff_eq.mpr c9
      clear c9
      have H' := zMk H
      clear H
      have hcz10_0 : wr.cell? ⟨gb458, 0, none⟩ = some (.int .i64 a0_0) := (zKc BK458.out 0).trans rfl
      have hcz10_1 : wr.cell? ⟨gb458, 1, none⟩ = some (.slice A0_1 l0_1.length c0_1) := (zKc BK458.out 1).trans rfl
      have hfz10_0 := zKf BK458.out 0
      have hfz10_1 := zKf BK458.out 1
      obtain ⟨Ao11, co11, eo11⟩ := zRs HO_3.out
      subst eo11
      have p462 : 0 ≤ (x5_1 : Int) := of_decide_eq_true (by assumption)
      have q462 : x5_1 < (t459.length : Int) := of_decide_eq_true (by assumption)
      obtain ⟨ad462, e462, hx462_0⟩ := zAi (zRr HO_3.out).2.2 x5_1 p462 q462
      cases e462
      replace p462 := eq_true p462
      replace q462 := eq_true q462
      go_wp2
      go_loopg [6, 7] k1 (fun kq v6 v7 w' => ∃ (x6_2 : List Int) (x7_2 : Int), v7 = .int .i64 x7_2 ∧ Aside0 (filigreeref06_Components.l1 kq t459 x4_1 x5_1 x6_2 x7_2 a0_0 l0_1 = some r) ∧ Aside0 (kq ≤ k1) ∧ Aside0 (Kd.R (Kd.int .i64) 3 w' w.heap.size (fun k_ => some k_ ≠ (v6 : Value).ownBlock) (.slice (some ad462) t459.length co11) t459) ∧ Aside0 (Kd.S (Kd.slice 3 (Kd.int .i64)) 33 w' w.heap.size (fun k_ => some k_ ≠ ((.slice (some ad462) t459.length co11) : Value).ownBlock ∧ some k_ ≠ (v6 : Value).ownBlock) u4 x4_1) ∧ Aside0 (Kd.R (Kd.int .i64) 3 w' w.heap.size (fun k_ => some k_ ≠ ((.slice (some ad462) t459.length co11) : Value).ownBlock) v6 x6_2) ∧ Aside0 (w'.heap[gb458]? = some (.cells #[.int .i64 a0_0, (.slice A0_1 l0_1.length c0_1)] 24 (0, 0))) ∧ Aside0 (Below w.heap.size w w'))
      case atStart => exact ⟨(([] : List Int)), (x5_1), (by first | rfl | (simp; done) | (simp [*]; done)), H', ⟨Nat.le_refl _⟩, ⟨by (with_reducible repeat (first | apply zRa | apply zRn | apply zRd)); exact zRm HO_3.out (fun _ hk => (by simp [Value.ownBlock]))⟩, ⟨by (with_reducible repeat (first | apply Kd.S_alloc | apply Kd.S_drewN | apply Kd.S_drew)); exact Kd.S_mono HO_4.out (fun _ hk => ⟨hk, (by simp [Value.ownBlock])⟩)⟩, ⟨by first | exact Kd.R_nil _ _ _ _ _ | exact Kd.N_nil _ _ _ _ _ | exact Kd.V_nil _ _ _ _ _ | exact Kd.Q_nil _ _ _ _ _ | exact Kd.S_nil _ _ _ _ _⟩, ⟨by (with_reducible repeat (first | refine zKn ?_ _ | refine zKd ?_ | refine zKa ?_ _)); exact BK458.out⟩, ⟨by exact uT HB.out⟩⟩
      clear H'
      obtain ⟨x6_2, x7_2, rfl, HA, HK2, HO_3, HO_4, HO_6, BK458, HB⟩ := hrel
      rcases gk with _ | k2
      · exact absurd HA.out (by simp [filigreeref06_Components.l1])
      have H := HA.out
      clear HA
      simp only [filigreeref06_Components.l1] at H
      by_cases c12 : x7_2 < a0_0
      · rw [if_pos c12] at H
        have c12b0 : decide (x7_2 < a0_0) = true := decide_eq_true c12
        clear c12
        by_cases c13 : 0 ≤ x7_2
        rotate_left
        · rw [if_neg c13] at H; exact absurd H (by simp)
        rw [if_pos c13] at H
        have c13b0 : decide (0 ≤ x7_2) = true := decide_eq_true c13
        clear c13
        by_cases c14 : x7_2 < (t459.length : Int)
        rotate_left
        · rw [if_neg c14] at H; exact absurd H (by simp)
        rw [if_pos c14] at H
        have c14b0 : decide (x7_2 < (t459.length : Int)) = true := decide_eq_true c14
        clear c14
        by_cases c15 : (rd t459 x7_2) = x5_1
        · rw [if_pos c15] at H
          have c15b0 : ((rd t459 x7_2) == x5_1) = true := beq_iff_eq.mpr c15
          have c15b1 : ((rd t459 x7_2) != x5_1) = false := bne_eq_false_iff_eq.mpr c15
          clear c15
          by_cases c16 : x6_2.length < 17592186044416
          rotate_left
          · rw [if_neg c16] at H; exact absurd H (by simp)
          rw [if_pos c16] at H
          have LMc16 := zMk c16
          clear c16
          obtain ⟨y464, hy464⟩ : ∃ y_ : List Int, y_ = (x6_2 ++ [x7_2]) := ⟨_, rfl⟩
          replace H : (filigreeref06_Components.l1 k2 t459 x4_1 x5_1 y464 (wrap64 (x7_2 + 1)) a0_0 l0_1) = some r := by first | (rw [hy464]; with_reducible exact H) | (have H2_ := bsm H; first | (rw [hy464]; with_reducible exact H2_) | with_reducible exact H2_) | with_reducible exact H | (rw [hy464]; exact H) | exact H
          have Ny464 := zMk hy464
          clear hy464
          have H' := zMk H
          clear H
          have hcz17_0 : wr.cell? ⟨gb458, 0, none⟩ = some (.int .i64 a0_0) := (zKc BK458.out 0).trans rfl
          have hcz17_1 : wr.cell? ⟨gb458, 1, none⟩ = some (.slice A0_1 l0_1.length c0_1) := (zKc BK458.out 1).trans rfl
          have hfz17_0 := zKf BK458.out 0
          have hfz17_1 := zKf BK458.out 1
          have p463 : 0 ≤ (x7_2 : Int) := of_decide_eq_true (by assumption)
          have q463 : x7_2 < (t459.length : Int) := of_decide_eq_true (by assumption)
          obtain ⟨ad463, e463, hx463_0⟩ := zAi (zRr HO_3.out).2.2 x7_2 p463 q463
          obtain rfl : ad462 = ad463 := (by injection e463)
          replace p463 := eq_true p463
          replace q463 := eq_true q463
          go_wp2_with (first | ((with_reducible refine gate_builtin (b := .append) (xs := #[.tmp 35, .tmp 37]) rfl ?_); at_builtin; refine Kd.R_append (Kd.int .i64) (w0 := w) w.heap.size rfl (.tmp 35) (.tmp 37) 33 3 (.int .i64 0) 8 rfl Try.underlying33 info3 rfl (by decide) (by omega) u6 x6_2 x7_2 [.int .i64 x7_2] (fun k_ => some k_ ≠ (.slice (some ad462) t459.length co11 : Value).ownBlock) (fun _ => False) rfl rfl ?aP (fun _ hk => hk.elim) ?aF ?aO ?aB ?aS ?aL ?_; (case aP => exact rfl); (case aB => exact (by exact uT HB.out)); (case aF => exact (fun k_ hk => Kd.fresh' (zRt (by exact uR HO_3.out)) k_ hk)); (case aO => exact (by exact uR HO_6.out)); (case aS => exact (zBs (by exact uT HB.out))); (case aL => have := LMc16.out; omega); intro v465 w18 ho hb hg hat; rw [← Ny464.out] at ho; replace HO_3 := zMk (Kd.R_after (ok := (fun _ => True)) (by (with_reducible repeat (first |  apply zRa|  apply zRn|  apply zRd)); exact zRm HO_3.out (fun _ hk => ⟨trivial, hk⟩)) hg hat); replace HO_4 := zMk (Kd.S_after (ok := (fun k_ => some k_ ≠ (.slice (some ad462) t459.length co11 : Value).ownBlock)) (by (with_reducible repeat (first |  apply Kd.S_alloc|  apply Kd.S_drewN|  apply Kd.S_drew)); exact HO_4.out) hg hat); replace BK458 := zMk (blk_grown (g := gb458) (o := .cells #[.int .i64 a0_0, .slice A0_1 l0_1.length c0_1] 24 (0, 0)) (by (with_reducible repeat (first |  refine zKn ?_ _|  refine zKd ?_|  refine zKa ?_ _)); exact BK458.out) hg (Kd.R_ne HO_6.out BK458.out (by decide))); replace HB := zMk (hb); have HO466 := zMk (ho); clear HO_6 ho hb hg hat))
          go_roundg k2
          case measure => have := HK1.out; have := HK2.out; omega
          case rel => exact ⟨(y464), (wrap64 (x7_2 + 1)), (by first | rfl | (simp; done) | (simp [*]; done)), H', ⟨by have := HK1.out; have := HK2.out; omega⟩, ⟨by (with_reducible repeat (first | apply zRa | apply zRn | apply zRd)); exact zRm HO_3.out (fun _ hk => hk.2)⟩, ⟨by (with_reducible repeat (first | apply Kd.S_alloc | apply Kd.S_drewN | apply Kd.S_drew)); exact HO_4.out⟩, ⟨by exact uR HO466.out⟩, ⟨by (with_reducible repeat (first | refine zKn ?_ _ | refine zKd ?_ | refine zKa ?_ _)); exact BK458.out⟩, ⟨by exact uT HB.out⟩⟩
        · rw [if_neg c15] at H
          have c15b0 : ((rd t459 x7_2) == x5_1) = false := beq_eq_false_iff_ne.mpr c15
          have c15b1 : ((rd t459 x7_2) != x5_1) = true := bne_iff_ne.mpr c15
          have H' := zMk H
          clear H
          have hcz19_0 : wr.cell? ⟨gb458, 0, none⟩ = some (.int .i64 a0_0) := (zKc BK458.out 0).trans rfl
          have hcz19_1 : wr.cell? ⟨gb458, 1, none⟩ = some (.slice A0_1 l0_1.length c0_1) := (zKc BK458.out 1).trans rfl
          have hfz19_0 := zKf BK458.out 0
          have hfz19_1 := zKf BK458.out 1
          have p463 : 0 ≤ (x7_2 : Int) := of_decide_eq_true (by assumption)
          have q463 : x7_2 < (t459.length : Int) := of_decide_eq_true (by assumption)
          obtain ⟨ad463, e463, hx463_0⟩ := zAi (zRr HO_3.out).2.2 x7_2 p463 q463
          obtain rfl : ad462 = ad463 := (by injection e463)
          replace p463 := eq_true p463
          replace q463 := eq_true q463
          go_wp2
          go_roundg k2
          case measure => have := HK1.out; have := HK2.out; omega
          case rel => exact ⟨(x6_2), (wrap64 (x7_2 + 1)), (by first | rfl | (simp; done) | (simp [*]; done)), H', ⟨by have := HK1.out; have := HK2.out; omega⟩, ⟨by exact uR HO_3.out⟩, ⟨by (with_reducible repeat (first | apply Kd.S_alloc | apply Kd.S_drewN | apply Kd.S_drew)); exact HO_4.out⟩, ⟨by exact uR HO_6.out⟩, ⟨by (with_reducible repeat (first | refine zKn ?_ _ | refine zKd ?_ | refine zKa ?_ _)); exact BK458.out⟩, ⟨by exact uT HB.out⟩⟩
      · rw [if_neg c12] at H
        have c12b0 : decide (x7_2 < a0_0) = false := decide_eq_false c12
        clear c12
        by_cases c20 : x4_1.length < 5864062014805
        rotate_left
        · rw [if_neg c20] at H; exact absurd H (by simp)
        rw [if_pos c20] at H
        have LMc20 := zMk c20
        clear c20
        obtain ⟨y467, hy467⟩ : ∃ y_ : List (List Int), y_ = (x4_1 ++ [x6_2]) := ⟨_, rfl⟩
        replace H : (filigreeref06_Components.l0 k2 t459 y467 (wrap64 (x5_1 + 1)) a0_0 l0_1) = some r := by first | (rw [hy467]; with_reducible exact H) | (have H2_ := bsm H; first | (rw [hy467]; with_reducible exact H2_) | with_reducible exact H2_) | with_reducible exact H | (rw [hy467]; exact H) | exact H
        have Ny467 := zMk hy467
        clear hy467
        have H' := zMk H
        clear H
        have hcz21_0 : wr.cell? ⟨gb458, 0, none⟩ = some (.int .i64 a0_0) := (zKc BK458.out 0).trans rfl
        have hcz21_1 : wr.cell? ⟨gb458, 1, none⟩ = some (.slice A0_1 l0_1.length c0_1) := (zKc BK458.out 1).trans rfl
        have hfz21_0 := zKf BK458.out 0
        have hfz21_1 := zKf BK458.out 1
        obtain ⟨Ao23, co23, eo23⟩ := zRs HO_6.out
        subst eo23
        go_wp2_with (first | ((with_reducible refine gate_builtin (b := .append) (xs := #[.tmp 39, .tmp 41]) rfl ?_); at_builtin; refine Kd.S_append (Kd.slice 3 (Kd.int .i64)) (w0 := w) w.heap.size rfl (.tmp 39) (.tmp 41) 29 33 (.slice none 0 0) 24 rfl Try.underlying29 info33 rfl (by decide) (by omega) u4 x4_1 x6_2 [.slice Ao23 x6_2.length co23] (fun k_ => some k_ ≠ (.slice (some ad462) t459.length co11 : Value).ownBlock) (fun k_ => some k_ = (.slice Ao23 x6_2.length co23 : Value).ownBlock) rfl rfl ?aP (fun k_ hk_ => ((zRm (ok' := fun k_ => ((fun k_ => some k_ ≠ (.slice (some ad462) t459.length co11 : Value).ownBlock)) k_ ∧ some k_ ≠ (u4 : Value).ownBlock) (Kd.R_apart' (HO_6.out) (Kd.S_typed HO_4.out) (by decide)) (fun k_ hk => ⟨hk.1, hk.2⟩))).1 k_ hk_.symm) ?aF ?aO ?aB ?aS ?aL ?_; (case aP => exact Kd.M_row (zRm (Kd.R_tight rfl (zRm (ok' := fun k_ => ((fun k_ => some k_ ≠ (.slice (some ad462) t459.length co11 : Value).ownBlock)) k_ ∧ some k_ ≠ (u4 : Value).ownBlock) (Kd.R_apart' (HO_6.out) (Kd.S_typed HO_4.out) (by decide)) (fun k_ hk => ⟨hk.1, hk.2⟩))) (fun _ h_ => h_))); (case aB => exact (by exact uT HB.out)); (case aF => exact (fun k_ hk => Kd.fresh' (zRt (by exact uR HO_3.out)) k_ hk)); (case aO => exact (by (with_reducible repeat (first |  apply Kd.S_alloc|  apply Kd.S_drewN|  apply Kd.S_drew)); exact Kd.S_mono HO_4.out (fun k_ hk => ⟨hk.1, fun e_ => hk.2 e_⟩))); (case aS => exact (zBs (by exact uT HB.out))); (case aL => have := LMc20.out; omega); intro v468 w22 ho hb hg hat; rw [← Ny467.out] at ho; replace HO_3 := zMk (Kd.R_over' (by exact uR HO_3.out) (Kd.S_typed (by (with_reducible repeat (first |  apply Kd.S_alloc|  apply Kd.S_drewN|  apply Kd.S_drew)); exact HO_4.out)) (by decide) hg); replace BK458 := zMk (blk_grown (g := gb458) (o := .cells #[.int .i64 a0_0, .slice A0_1 l0_1.length c0_1] 24 (0, 0)) (by (with_reducible repeat (first |  refine zKn ?_ _|  refine zKd ?_|  refine zKa ?_ _)); exact BK458.out) hg (Kd.S_ne HO_4.out BK458.out (by decide))); replace HB := zMk (hb); have HO469 := zMk (ho); clear HO_4 HO_6 ho hb hg hat))
        go_roundg k2
        case measure => have := HK1.out; have := HK2.out; omega
        case rel => exact ⟨(y467), (wrap64 (x5_1 + 1)), (by first | rfl | (simp; done) | (simp [*]; done)), H', ⟨by have := HK1.out; have := HK2.out; omega⟩, ⟨by (with_reducible repeat (first | apply zRa | apply zRn | apply zRd)); exact zRm HO_3.out (fun _ hk => trivial)⟩, ⟨by (with_reducible repeat (first | apply Kd.S_alloc | apply Kd.S_drewN | apply Kd.S_drew)); exact HO469.out⟩, ⟨by (with_reducible repeat (first | refine zKn ?_ _ | refine zKd ?_ | refine zKa ?_ _)); exact BK458.out⟩, ⟨by exact uT HB.out⟩⟩
    · rw [if_neg c9] at H
      have c9b0 : ((rd t459 x5_1) == x5_1) = false := beq_eq_false_iff_ne.mpr c9
      have c9b1 : ((rd t459 x5_1) != x5_1) = true := bne_iff_ne.mpr c9
      have H' := zMk H
      clear H
      have hcz24_0 : wr.cell? ⟨gb458, 0, none⟩ = some (.int .i64 a0_0) := (zKc BK458.out 0).trans rfl
      have hcz24_1 : wr.cell? ⟨gb458, 1, none⟩ = some (.slice A0_1 l0_1.length c0_1) := (zKc BK458.out 1).trans rfl
      have hfz24_0 := zKf BK458.out 0
      have hfz24_1 := zKf BK458.out 1
      obtain ⟨Ao25, co25, eo25⟩ := zRs HO_3.out
      subst eo25
      have p462 : 0 ≤ (x5_1 : Int) := of_decide_eq_true (by assumption)
      have q462 : x5_1 < (t459.length : Int) := of_decide_eq_true (by assumption)
      obtain ⟨ad462, e462, hx462_0⟩ := zAi (zRr HO_3.out).2.2 x5_1 p462 q462
      cases e462
      replace p462 := eq_true p462
      replace q462 := eq_true q462
      go_wp2
      go_roundg k1
      case measure => have := HK1.out; omega
      case rel => exact ⟨(x4_1), (wrap64 (x5_1 + 1)), (by first | rfl | (simp; done) | (simp [*]; done)), H', ⟨by have := HK1.out; omega⟩, ⟨by exact uR HO_3.out⟩, ⟨by (with_reducible repeat (first | apply Kd.S_alloc | apply Kd.S_drewN | apply Kd.S_drew)); exact HO_4.out⟩, ⟨by (with_reducible repeat (first | refine zKn ?_ _ | refine zKd ?_ | refine zKa ?_ _)); exact BK458.out⟩, ⟨by exact uT HB.out⟩⟩
  · rw [if_neg c6] at H
    have c6b0 : decide (x5_1 < a0_0) = false := decide_eq_false c6
    clear c6
    obtain rfl := zOi H
    have hcz26_0 : wr.cell? ⟨gb458, 0, none⟩ = some (.int .i64 a0_0) := (zKc BK458.out 0).trans rfl
    have hcz26_1 : wr.cell? ⟨gb458, 1, none⟩ = some (.slice A0_1 l0_1.length c0_1) := (zKc BK458.out 1).trans rfl
    have hfz26_0 := zKf BK458.out 0
    have hfz26_1 := zKf BK458.out 1
    go_wp2
    go_ret
    exact ⟨_, by first | rfl | (simp [errW_none, errW_some] <;> rfl) | (simp [*, errW_none, errW_some] <;> rfl), by (with_reducible repeat (first | apply Kd.S_alloc | apply Kd.S_drewN | apply Kd.S_drew)); exact Kd.S_mono HO_4.out (fun _ hk => trivial), by exact uT HB.out⟩

def clsL (N : Nat) (l : List Int) (v : Int) : List Int := (ups N).filter fun u => rd l u == v
def compsL (N : Nat) (l : List Int) : List (List Int) := ((ups N).filter fun v => rd l v == v).map (clsL N l)
theorem ups_drop (N i : Nat) (h : i < N) : (ups N).drop i = (i : Int) :: (ups N).drop (i + 1) := by
  rw [List.drop_eq_getElem_cons (by rw [ups_len]; exact h)]
  simp [ups]
theorem ups_drop_end (N : Nat) : (ups N).drop N = [] := by rw [List.drop_eq_nil_iff, ups_len]; exact Nat.le_refl _
theorem Comp_l1 (N : Nat) (l : List Int) (hl : l.length = N) (hN : N ≤ 1000000000) (x4 : List (List Int)) (hx4 : x4.length ≤ 1000000000) (v : Int) (x45 : List S43) (r : List (List Int)) (d : Nat) : ∀ (j : Nat) (x6 : List Int), N - j = d → j ≤ N → x6.length ≤ j →
    Ev (fun k => filigreeref06_Components.l0 k l (x4 ++ [x6 ++ ((ups N).drop j).filter fun u => rd l u == v]) (wrap64 (v + 1)) N x45) r → Ev (fun k => filigreeref06_Components.l1 k l x4 v x6 j N x45) r := by
  induction d with
  | zero =>
    intro j x6 hd hj hx h
    obtain rfl : j = N := by omega
    rw [ups_drop_end, List.filter_nil, List.append_nil] at h
    refine Ev.step (fun k => ?_) h
    simp only [filigreeref06_Components.l1]
    rw [if_neg (by omega), if_pos (by omega)]
  | succ d ih =>
    intro j x6 hd hj hx h
    have hlt : j < N := by omega
    rw [ups_drop N j hlt] at h
    by_cases hc : rd l (j : Int) = v
    · rw [List.filter_cons_of_pos (by simpa using hc)] at h
      refine Ev.step (fun k => ?_) (ih (j + 1) (x6 ++ [(j : Int)]) (by omega) (by omega) (by rw [List.length_append]; simp; omega) (by rw [List.append_assoc]; exact h))
      simp only [filigreeref06_Components.l1]
      rw [if_pos (by omega), if_pos (by omega), if_pos (by omega), if_pos hc, if_pos (by omega), w64n j (by omega)]
    · rw [List.filter_cons_of_neg (by simpa using hc)] at h
      refine Ev.step (fun k => ?_) (ih (j + 1) x6 (by omega) (by omega) (by omega) h)
      simp only [filigreeref06_Components.l1]
      rw [if_pos (by omega), if_pos (by omega), if_pos (by omega), if_neg hc, w64n j (by omega)]
theorem cls_from {N : Nat} {l : List Int} (hle : ∀ u : Int, 0 ≤ u → u < (N : Int) → rd l u ≤ u) (v : Nat) (hv : v ≤ N) : ((ups N).drop v).filter (fun u => rd l u == (v : Int)) = clsL N l v := by
  have h1 : ups N = (ups N).take v ++ (ups N).drop v := (List.take_append_drop v _).symm
  unfold clsL
  conv => rhs; rw [h1]
  rw [List.filter_append]
  have h2 : ((ups N).take v).filter (fun u => rd l u == (v : Int)) = [] := by
    rw [List.filter_eq_nil_iff]
    intro u hu hc
    obtain ⟨j, hj⟩ := List.getElem?_of_mem hu
    rw [List.getElem?_take] at hj
    split at hj
    · obtain ⟨h3, h4⟩ := List.getElem?_eq_some_iff.1 hj
      have h5 : u = (j : Int) := by rw [← h4]; simp [ups]
      rw [ups_len] at h3
      have := hle u (by omega) (by omega)
      have hc : rd l u = (v : Int) := by simpa using hc
      omega
    · cases hj
  rw [h2, List.nil_append]
theorem Comp_l0 (N : Nat) (l : List Int) (hl : l.length = N) (hN : N ≤ 1000000000) (hle : ∀ u : Int, 0 ≤ u → u < (N : Int) → rd l u ≤ u) (x45 : List S43) (d : Nat) : ∀ (i : Nat) (x4 : List (List Int)), N - i = d → i ≤ N → x4.length ≤ i →
    Ev (fun k => filigreeref06_Components.l0 k l x4 i N x45) (x4 ++ (((ups N).drop i).filter fun v => rd l v == v).map (clsL N l)) := by
  induction d with
  | zero =>
    intro i x4 hd hi hx
    obtain rfl : i = N := by omega
    rw [ups_drop_end, List.filter_nil, zMn, List.append_nil]
    refine Ev.step (fun k => ?_) (Ev.now _)
    simp only [filigreeref06_Components.l0]
    rw [if_neg (by omega)]
  | succ d ih =>
    intro i x4 hd hi hx
    have hlt : i < N := by omega
    rw [ups_drop N i hlt]
    by_cases hc : rd l (i : Int) = i
    · rw [List.filter_cons_of_pos (by simpa using hc), zMc]
      have h1 := ih (i + 1) (x4 ++ [clsL N l i]) (by omega) (by omega) (by rw [List.length_append]; simp; omega)
      rw [List.append_assoc, List.singleton_append] at h1
      have h2 := Comp_l1 N l hl hN x4 (by omega) (i : Int) x45 _ (N - i) i [] rfl hi (Nat.zero_le _) (by
        rw [List.nil_append, cls_from hle i hi, w64n i (by omega)]; exact h1)
      refine Ev.step (fun k => ?_) h2
      simp only [filigreeref06_Components.l0]
      rw [if_pos (by omega), if_pos (by omega), if_pos (by omega), if_pos hc]
    · rw [List.filter_cons_of_neg (by simpa using hc)]
      refine Ev.step (fun k => ?_) (ih (i + 1) x4 (by omega) (by omega) (by omega))
      simp only [filigreeref06_Components.l0]
      rw [if_pos (by omega), if_pos (by omega), if_pos (by omega), if_neg hc, w64n i (by omega)]
theorem labs_le {N : Nat} {E : List S43} (hE : Ends N E) (u : Int) (h0 : 0 ≤ u) (h1 : u < (N : Int)) : rd (labs N E) u ≤ u := by
  obtain ⟨r, r0, r1, hr, hc⟩ := root_of E u h0
  rw [labs_root hE hr r0 (by omega) hc.symm]
  exact r1
theorem refComp_ev (N : Nat) (E : List S43) (hE : Ends N E) (hm : E.length ≤ 1000000000) (hN : N ≤ 1000000000) : Ev (fun k => filigreeref06_Components.f k N E) (compsL N (labs N E)) := by
  have h := Ev.bind (f := fun k t => filigreeref06_Components.l0 k t ([] : List (List Int)) 0 N E) (Labels_ev N E hE hm hN) (Comp_l0 N (labs N E) (labs_len N E) hN (labs_le hE) E N 0 [] rfl (Nat.zero_le _) (Nat.zero_le _))
  exact h
end Go.Proofs.Ytkiemlbobcklpaa.A
