/- Lemmas for the statement: the walks of the functions that it reaches, and plain laws. -/
import Derived.Test.YtkiemlbobcklpaaG1
import Derived.Ground.SlsfProg
import Derived.Shelf.SlSortCmp.Insertion
import Derived.Shelf.SlSortCmp.SiftDown1
import Derived.Shelf.SlSortCmp.HeapSort1
import Derived.Shelf.SlSortCmp.Insertion1
import Derived.Shelf.SlSortCmp.Median1
import Derived.Shelf.SlSortCmp.Pivot1
import Derived.Shelf.SlSortCmp.ReverseRange1
import Derived.Shelf.SlSortCmp.PartialInsertion1
import Derived.Shelf.SlSortCmp.PartitionEqual1
import Derived.Shelf.SlSortCmp.Partition1
import Derived.Shelf.SlSortCmp.Pdq1
import Derived.Shelf.SlSortCmp.Whole1
import Derived.Shelf.SlSortCmp.NoneTotal
import Derived.Test.YtkiemlbobcklpaaProg
set_option linter.unusedVariables false
set_option linter.unusedSimpArgs false
set_option maxHeartbeats 8000000
set_option maxRecDepth 100000
namespace Go.Proofs.Ytkiemlbobcklpaa.A
open Go Go.RowKit Go.Proofs.YtkiemlbobcklpaaW.PrintWords Go.Proofs.YtkiemlbobcklpaaW.PrintLast Go.Proofs.YtkiemlbobcklpaaW.PrintMore
attribute [local go_sem] max2_int min2_int max_two min_two max_three min_three max_four min_four
open Go.Proofs.YtkiemlbobcklpaaW.PrintWords.Kd renaming R_alloc → zRa, R_drewN → zRn, R_drew → zRd, C_alloc → zCa, C_drewN → zCn, C_drew → zCd, R_mono → zRm, at_int → zAi, R_elder' → zRe, R_lower → zRl, R_new' → zRw, R_lt → zRt, R_below → zRb, R_base → zRz, R_reads' → zRr, R_slice → zRs
open Go.Proofs.YtkiemlbobcklpaaW.PrintWords renaming pw_below_drewN → zBn, below_alloc → zBa, below_drew1 → zBd, below_size → zBs, below_step → zBt, blk_drewN → zKn, blk_drew → zKd, blk_alloc → zKa, blk_below → zKb, blk_cell → zKc, blk_frozen → zKf
open List renaming setIfInBounds_toArray → zSa, set_cons_zero → zSb, set_cons_succ → zSc, length_drop → zLd, length_take → zLt, map_toArray → zMa, map_cons → zMc, map_nil → zMn, length_cons → zLc, length_nil → zLn
open Go.Proofs.YtkiemlbobcklpaaW.PrintWords.Aside0 renaming mk → zMk
open Option renaming bind_eq_some_iff → zBi, bind_some → zOb
open Option.some renaming inj → zOi
open Int renaming toNat_natCast → zTn

mutual
def filigreeref04_Right.l0 : Nat → Int → Int → List (S43) → Option (Int)
  | 0, _, _, _ => none
  | k + 1, x4, x311000, x311001 => if x4 < (x311001.length : Int) then (if 0 ≤ x4 then ((filigreeref04_edge.f k x311000 ((rd_T43 x311001 x4).f0) ((rd_T43 x311001 x4).f1) ((rd_T43 x311001 x4).f2)).bind fun t313 => (if t313 = 0 then (if ((rd_T43 x311001 x4).f0) > ((rd_T43 x311001 x4).f1) then (some 1) else (if x4 > 0 then (if 0 ≤ (wrap64 (x4 - 1)) then (if (wrap64 (x4 - 1)) < (x311001.length : Int) then ((filigreeref04_below.f ((rd_T43 x311001 (wrap64 (x4 - 1))).f0) ((rd_T43 x311001 (wrap64 (x4 - 1))).f1) ((rd_T43 x311001 (wrap64 (x4 - 1))).f2) ((rd_T43 x311001 x4).f0) ((rd_T43 x311001 x4).f1) ((rd_T43 x311001 x4).f2)).bind fun t318 => (filigreeref04_Right.j1 k x4 (!t318) x311000 x311001)) else (none)) else (none)) else (filigreeref04_Right.j1 k x4 false x311000 x311001))) else (some t313))) else (none)) else (some 0)
def filigreeref04_Right.j1 : Nat → Int → Bool → Int → List (S43) → Option (Int)
  | 0, _, _, _, _ => none
  | k + 1, x4, x62, x311000, x311001 => if x62 = true then (if 0 ≤ x4 then (if x4 < (x311001.length : Int) then (if 0 ≤ (wrap64 (x4 - 1)) then (if (wrap64 (x4 - 1)) < (x311001.length : Int) then ((filigreeref04_below.f ((rd_T43 x311001 x4).f0) ((rd_T43 x311001 x4).f1) ((rd_T43 x311001 x4).f2) ((rd_T43 x311001 (wrap64 (x4 - 1))).f0) ((rd_T43 x311001 (wrap64 (x4 - 1))).f1) ((rd_T43 x311001 (wrap64 (x4 - 1))).f2)).bind fun t321 => (if t321 = true then (some 1) else (some 7))) else (none)) else (none)) else (none)) else (none)) else (filigreeref04_Right.l0 k (wrap64 (x4 + 1)) x311000 x311001)
end
def filigreeref04_Right.f (k : Nat) (a0_0 : Int) (l0_1 : List (S43)) : Option (Int) := (filigreeref04_many.f a0_0 (l0_1.length : Int)).bind fun t311 => (if t311 = 0 then (filigreeref04_Right.l0 k 0 a0_0 l0_1) else (some t311))
def filigreeref04_Right.T7 : Bool × List (List Nat × List Nat) := (true, [([], []), ([0], [0]), ([], []), ([2], [2]), ([], []), ([3, 4], [3, 4]), ([5], [5]), ([1, 6], [1, 6]), ([7, 7, 0, 1, 2, 3, 4, 5, 6, 7], [7])])
def filigreeref04_Right.B7 : List Nat := [0, 1, 0, 4, 0, 28, 60, 127, 255]
theorem filigreeref04_Right.tab7 : rtab .any (opsOf Try.f10 7) = filigreeref04_Right.T7 := by kernel_rfl
theorem filigreeref04_Right.bits7 : waitsOk filigreeref04_Right.T7.2 filigreeref04_Right.B7 = true := by kernel_rfl
def filigreeref04_Right.T10 : Bool × List (List Nat × List Nat) := (true, [([], []), ([0], [0]), ([], []), ([1, 2], [1, 2]), ([3], [3]), ([4], [4]), ([], []), ([6], [6]), ([], []), ([7, 8], [7, 8]), ([9], [9]), ([10], [10]), ([5, 11], [5, 11])])
def filigreeref04_Right.B10 : List Nat := [0, 1, 0, 7, 15, 31, 0, 64, 0, 448, 960, 1984, 4095]
theorem filigreeref04_Right.tab10 : rtab .any (opsOf Try.f10 10) = filigreeref04_Right.T10 := by kernel_rfl
theorem filigreeref04_Right.bits10 : waitsOk filigreeref04_Right.T10.2 filigreeref04_Right.B10 = true := by kernel_rfl
def filigreeref04_Right.T12 : Bool × List (List Nat × List Nat) := (true, [([], []), ([0], [0]), ([1], [1]), ([2], [2]), ([3, 2], [2, 3]), ([2], [2]), ([5, 2], [2, 5]), ([4, 6, 2], [2, 4, 6]), ([7, 2], [2, 7]), ([2], [2]), ([9, 2], [2, 9]), ([2], [2]), ([10, 11, 2], [2, 10, 11]), ([12, 2], [2, 12]), ([8, 13, 2, 2], [2, 8, 13]), ([14, 2], [2, 14]), ([2, 15], [2, 15])])
def filigreeref04_Right.B12 : List Nat := [0, 1, 3, 7, 15, 7, 39, 127, 255, 7, 519, 7, 3591, 7687, 16383, 32767, 65535]
theorem filigreeref04_Right.tab12 : rtab .any (opsOf Try.f10 12) = filigreeref04_Right.T12 := by kernel_rfl
theorem filigreeref04_Right.bits12 : waitsOk filigreeref04_Right.T12.2 filigreeref04_Right.B12 = true := by kernel_rfl
def filigreeref04_Right.T13 : Bool × List (List Nat × List Nat) := (true, [([], []), ([0], [0]), ([], []), ([1, 2], [1, 2]), ([3], [3]), ([], []), ([5], [5]), ([], []), ([7], [7]), ([6, 8], [6, 8]), ([9], [9]), ([4, 10], [4, 10])])
def filigreeref04_Right.B13 : List Nat := [0, 1, 0, 7, 15, 0, 32, 0, 128, 480, 992, 2047]
theorem filigreeref04_Right.tab13 : rtab .any (opsOf Try.f10 13) = filigreeref04_Right.T13 := by kernel_rfl
theorem filigreeref04_Right.bits13 : waitsOk filigreeref04_Right.T13.2 filigreeref04_Right.B13 = true := by kernel_rfl
theorem filigreeref04_Right.calls (k : Nat) (a0_0 : Int) (A0_1 : Option Addr) (c0_1 : Nat) (l0_1 : List (S43)) (r : Int) (w : World) (hr0_1 : Kd.C k43 w A0_1 l0_1.length l0_1) (hc0_1 : l0_1.length ≤ c0_1) (h : filigreeref04_Right.f k a0_0 l0_1 = some r) :
    Calls Try.prog 10 #[.agg #[.int .i64 a0_0, .slice A0_1 l0_1.length c0_1]] w fun e w' => e = .returned (.int .i64 r) ∧ Below w.heap.size w w' := by
  have hu24 := Try.underlying24
  have hu43 := Try.underlying43
  have HR0_1 := zMk hr0_1
  have HC0_1 := zMk hc0_1
  clear hr0_1 hc0_1
  have HB := zMk (Below.refl w.heap.size w)
  have H : ((filigreeref04_many.f a0_0 (l0_1.length : Int)).bind fun t311 => (if t311 = 0 then (filigreeref04_Right.l0 k 0 a0_0 l0_1) else (some t311))) = some r := h
  clear h
  replace H := bnd H
  obtain ⟨t311, A20, H⟩ := H
  have A2 := zMk A20
  clear A20
  by_cases c3 : t311 = 0
  · rw [if_pos c3] at H
    have c3b0 : (t311 == 0) = true := beq_iff_eq.mpr c3
    have c3b1 : (t311 != 0) = false := bne_eq_false_iff_eq.mpr c3
    clear c3
    have H' := zMk H
    clear H
    go_enter Try.func10, Try.ntmps10
    go_wp2_with (first | ((with_reducible refine gate_dst (N := 1) rfl ?_); refine box_event ?hg (N := 1) ?hd (cs := #[.int .i64 a0_0, .slice A0_1 l0_1.length c0_1]) (t := 24) ?hr ?_; (case hd => rfl); (case hg => rfl); (case hr => first | (go_simp; done)|(go_simp; rfl)|(go_simp; rw [show ∀ x : Int, IntKind.u32.wrap (IntKind.u8.wrap x) = x % 256 from fun x => (by show (x % 256) % 4294967296 = x % 256; omega)])); intro gb310 hg w4 hbox hb; have BK310 := zMk (hbox); have GW310 := zMk ((by rw [hg]; exact (zBs (by exact uT HB.out)) : w.heap.size ≤ gb310)); have GE310 := zMk ((by rw [hg]; exact (zBs (by exact uT HB.out)) : w.heap.size ≤ gb310)); have IGE310 := ownGe GE310.out; replace HB := zMk (zBt (by exact uT HB.out) hb); clear hb hbox hg; have hcz5_0 : w4.cell? ⟨gb310, 0, none⟩ = some (.int .i64 a0_0) := (zKc BK310.out 0).trans rfl; have hcz5_1 : w4.cell? ⟨gb310, 1, none⟩ = some (.slice A0_1 l0_1.length c0_1) := (zKc BK310.out 1).trans rfl; have hfz5_0 := zKf BK310.out 0; have hfz5_1 := zKf BK310.out 1)|((with_reducible refine gate_callee (f := 24) rfl ?_); refine goesL_ (some 11) rfl rfl Try.func24 (by kernel_rfl) rfl #[.int .i64 a0_0, .int .i64 (l0_1.length : Int)] rfl (by (try simp only [zMa, zMc, zMn]); first |  done|  rfl|  (simp only [zLd, zLt]; rfl)) ?_; (with_reducible refine (filigreeref04_many.calls a0_0 (l0_1.length : Int) t311 _ A2.out).mono ?_); rintro e w' ⟨rfl, ⟨nd, rfl⟩⟩; refine ⟨_, rfl, ?_⟩))
    go_loopg [4] k (fun kq v4 w' => ∃ (x4_1 : Int), v4 = .int .i64 x4_1 ∧ Aside0 (filigreeref04_Right.l0 kq x4_1 a0_0 l0_1 = some r) ∧ Aside0 (kq ≤ k) ∧ Aside0 (w'.heap[gb310]? = some (.cells #[.int .i64 a0_0, (.slice A0_1 l0_1.length c0_1)] 24 (0, 0))) ∧ Aside0 (Below w.heap.size w w'))
    case atStart => exact ⟨(0), (by first | rfl | (simp; done) | (simp [*]; done)), H', ⟨Nat.le_refl _⟩, ⟨by (with_reducible repeat (first | refine zKn ?_ _ | refine zKd ?_ | refine zKa ?_ _)); exact BK310.out⟩, ⟨by exact uT HB.out⟩⟩
    clear H'
    obtain ⟨x4_1, rfl, HA, HK1, BK310, HB⟩ := hrel
    rcases gk with _ | k1
    · exact absurd HA.out (by simp [filigreeref04_Right.l0])
    have H := HA.out
    clear HA
    simp only [filigreeref04_Right.l0] at H
    by_cases c6 : x4_1 < (l0_1.length : Int)
    · rw [if_pos c6] at H
      have c6b0 : decide (x4_1 < (l0_1.length : Int)) = true := decide_eq_true c6
      clear c6
      by_cases c7 : 0 ≤ x4_1
      rotate_left
      · rw [if_neg c7] at H; exact absurd H (by simp)
      rw [if_pos c7] at H
      have c7b0 : decide (0 ≤ x4_1) = true := decide_eq_true c7
      clear c7
      replace H := bnd H
      obtain ⟨t313, A80, H⟩ := H
      have A8 := zMk A80
      clear A80
      by_cases c9 : t313 = 0
      · rw [if_pos c9] at H
        have c9b0 : (t313 == 0) = true := beq_iff_eq.mpr c9
        have c9b1 : (t313 != 0) = false := bne_eq_false_iff_eq.mpr c9
        clear c9
        by_cases c10 : ((rd_T43 l0_1 x4_1).f0) > ((rd_T43 l0_1 x4_1).f1)
        · rw [if_pos c10] at H
          have c10b0 : decide (((rd_T43 l0_1 x4_1).f1) < ((rd_T43 l0_1 x4_1).f0)) = true := decide_eq_true c10
          clear c10
          obtain rfl := zOi H
          have hcz11_0 : wr.cell? ⟨gb310, 0, none⟩ = some (.int .i64 a0_0) := (zKc BK310.out 0).trans rfl
          have hcz11_1 : wr.cell? ⟨gb310, 1, none⟩ = some (.slice A0_1 l0_1.length c0_1) := (zKc BK310.out 1).trans rfl
          have hfz11_0 := zKf BK310.out 0
          have hfz11_1 := zKf BK310.out 1
          try go_wp2
          replace BK310 := zMk (zKd BK310.out)
          replace HB := zMk (zBd HB.out)
          have p312 : 0 ≤ (x4_1 : Int) := of_decide_eq_true (by assumption)
          have q312 : x4_1 < (l0_1.length : Int) := of_decide_eq_true (by assumption)
          obtain ⟨ad312, e312, hx312_0, hx312_1, hx312_2⟩ := at_T43 HR0_1.out x4_1 p312 q312
          have hw312_2 := hx312_2
          have hw312_1 := hx312_1
          have hw312_0 := hx312_0
          cases e312
          replace hx312_0 := (HB.out.cell (World.block_lt_of_cell? w _ hx312_0)).trans hx312_0
          replace hx312_1 := (HB.out.cell (World.block_lt_of_cell? w _ hx312_1)).trans hx312_1
          replace hx312_2 := (HB.out.cell (World.block_lt_of_cell? w _ hx312_2)).trans hx312_2
          replace p312 := eq_true p312
          replace q312 := eq_true q312
          refine start_ (n := 9) (S := fun w' => w'.cell? ⟨gb310, 0, none⟩ = some (.int .i64 a0_0) ∧ w'.cell? ⟨gb310, 1, none⟩ = some (.slice (some ad312) l0_1.length c0_1) ∧ w'.cell? (ad312.add ((x4_1).toNat * 3)) = some (.int .i64 ((rd_T43 l0_1 x4_1).f0)) ∧ w'.cell? ⟨(ad312.add ((x4_1).toNat * 3)).block, (ad312.add ((x4_1).toNat * 3)).off + 1, none⟩ = some (.int .i64 ((rd_T43 l0_1 x4_1).f1)) ∧ w'.cell? ⟨(ad312.add ((x4_1).toNat * 3)).block, (ad312.add ((x4_1).toNat * 3)).off + 2, none⟩ = some (.int .i64 ((rd_T43 l0_1 x4_1).f2))) (ds := []) #[false, false, false, false, false, false, false, false, false] (by kernel_rfl) rfl rfl ⟨(zKc BK310.out 0).trans rfl, (zKc BK310.out 1).trans rfl, ((HB.out.cell (World.block_lt_of_cell? w _ hw312_0)).trans hw312_0), ((HB.out.cell (World.block_lt_of_cell? w _ hw312_1)).trans hw312_1), ((HB.out.cell (World.block_lt_of_cell? w _ hw312_2)).trans hw312_2)⟩ (fun hHeld => ?_); refine with_tabW filigreeref04_Right.tab7 filigreeref04_Right.bits7 (fun HT_ HW_ => ?_)
          generalize wr.drew = w12 at BK310 HB hx312_0 hx312_1 hx312_2 hHeld ⊢
          refine pure_ (i := 0) (N := some 22) (v := ?_) (a' := ?_) #[true, false, false, false, false, false, false, false, false] rfl rfl (any_of HT_.out (by kernel_rfl)) (fun _ _ _ h => h) (Or.inl ⟨by rfl, ?_⟩) ?_ ?_
          rotate_left
          · intro w'
            go_simp
            with_reducible rfl
          rotate_left
          · simp only [Act.put, zSa, zSb, zSc, i64_w, i32_w]
            rfl
          refine pure_ (i := 2) (N := some 24) (v := ?_) (a' := ?_) #[true, false, true, false, false, false, false, false, false] rfl rfl (any_of HT_.out (by kernel_rfl)) (fun _ _ _ h => h) (Or.inl ⟨by rfl, ?_⟩) ?_ ?_
          rotate_left
          · intro w'
            go_simp
            with_reducible rfl
          rotate_left
          · simp only [Act.put, zSa, zSb, zSc, i64_w, i32_w]
            rfl
          refine pure_ (i := 4) (N := some 26) (v := ?_) (a' := ?_) #[true, false, true, false, true, false, false, false, false] rfl rfl (any_of HT_.out (by kernel_rfl)) (fun _ _ _ h => h) (Or.inl ⟨by rfl, ?_⟩) ?_ ?_
          rotate_left
          · intro w'
            go_simp
            with_reducible rfl
          rotate_left
          · simp only [Act.put, zSa, zSb, zSc, i64_w, i32_w]
            rfl
          refine take_ (i := 1) (N := some 23) (v := ?_) (a' := ?_) #[true, true, true, false, true, false, false, false, false] rfl rfl (take_ofW HT_.out HW_.out (by kernel_rfl)) (fun _ _ _ h => h) (Or.inl ⟨by rfl, ?_⟩) hHeld ?_ ?_
          rotate_left
          · rintro w' ⟨s0, s1, s2, s3, s4⟩
            go_simp
            with_reducible rfl
          rotate_left
          · simp only [Act.put, zSa, zSb, zSc, i64_w, i32_w]
            rfl
          refine take_ (i := 3) (N := some 25) (v := ?_) (a' := ?_) #[true, true, true, true, true, false, false, false, false] rfl rfl (take_ofW HT_.out HW_.out (by kernel_rfl)) (fun _ _ _ h => h) (Or.inl ⟨by rfl, ?_⟩) hHeld ?_ ?_
          rotate_left
          · rintro w' ⟨s0, s1, s2, s3, s4⟩
            go_simp
            with_reducible rfl
          rotate_left
          · simp only [Act.put, zSa, zSb, zSc, i64_w, i32_w]
            rfl
          refine pure_ (i := 5) (N := some 27) (v := ?_) (a' := ?_) #[true, true, true, true, true, true, false, false, false] rfl rfl (any_of HT_.out (by kernel_rfl)) (fun _ _ _ h => h) (Or.inl ⟨by rfl, ?_⟩) ?_ ?_
          rotate_left
          · intro w'
            go_simp
            with_reducible rfl
          rotate_left
          · simp only [Act.put, zSa, zSb, zSc, i64_w, i32_w]
            rfl
          refine take_ (i := 6) (N := some 28) (v := ?_) (a' := ?_) #[true, true, true, true, true, true, true, false, false] rfl rfl (take_ofW HT_.out HW_.out (by kernel_rfl)) (fun _ _ _ h => h) (Or.inl ⟨by rfl, ?_⟩) hHeld ?_ ?_
          rotate_left
          · rintro w' ⟨s0, s1, s2, s3, s4⟩
            go_simp
            with_reducible rfl
          rotate_left
          · simp only [Act.put, zSa, zSb, zSc, i64_w, i32_w]
            rfl
          refine one_ (i := 7) (N := some 29) #[true, true, true, true, true, true, true, true, false] rfl rfl (one_of HT_.out (by kernel_rfl)) (by decide) (fun K hK => ?_)
          refine goes_ Try.func25 (by kernel_rfl) rfl #[.int .i64 a0_0, .agg #[.int .i64 ((rd_T43 l0_1 x4_1).f0), .int .i64 ((rd_T43 l0_1 x4_1).f1), .int .i64 ((rd_T43 l0_1 x4_1).f2)]] (by rfl) rfl rfl (by (try simp only [zMa, zMc, zMn]); first | done | rfl | (simp only [zLd, zLt]; rfl)) ?_
          with_reducible refine (filigreeref04_edge.calls k1 a0_0 ((rd_T43 l0_1 x4_1).f0) ((rd_T43 l0_1 x4_1).f1) ((rd_T43 l0_1 x4_1).f2) t313 _ A8.out).mono ?_
          rintro e w13 ⟨rfl, hb⟩
          refine ⟨_, rfl, ?_⟩
          replace BK310 := zMk (zKb (g := gb310) (o := .cells #[.int .i64 a0_0, .slice (some ad312) l0_1.length c0_1] 24 (0, 0)) (by (with_reducible repeat (first | refine zKn ?_ _ | refine zKd ?_ | refine zKa ?_ _)); exact BK310.out) hb)
          replace HB := zMk (zBt (by exact uT HB.out) hb)
          refine hK.out _ _ ⟨(zKc BK310.out 0).trans rfl, (zKc BK310.out 1).trans rfl, ((HB.out.cell (World.block_lt_of_cell? w _ hw312_0)).trans hw312_0), ((HB.out.cell (World.block_lt_of_cell? w _ hw312_1)).trans hw312_1), ((HB.out.cell (World.block_lt_of_cell? w _ hw312_2)).trans hw312_2)⟩ (fun hHeld => ?_)
          clear hK K
          refine norm_ (a' := ?_) ?_ ?_
          rotate_left
          · show Act.put _ (some 29) _ = _
            simp only [Act.put, zSa, zSb, zSc, i64_w, i32_w]
            rfl
          refine pure_ (i := 8) (N := some 5) (v := ?_) (a' := ?_) #[true, true, true, true, true, true, true, true, true] rfl rfl (any_of HT_.out (by kernel_rfl)) (fun _ _ _ h => h) (Or.inl ⟨by rfl, ?_⟩) ?_ ?_
          rotate_left
          · intro w'
            go_simp
            with_reducible rfl
          rotate_left
          · simp only [Act.put, zSa, zSb, zSc, i64_w, i32_w]
            rfl
          refine done_ (done_of HT_.out (by kernel_rfl)) ?_
          try go_wp2
          replace BK310 := zMk (zKd BK310.out)
          replace HB := zMk (zBd HB.out)
          have p314 : 0 ≤ (x4_1 : Int) := of_decide_eq_true (by assumption)
          have q314 : x4_1 < (l0_1.length : Int) := of_decide_eq_true (by assumption)
          obtain ⟨ad314, e314, hx314_0, hx314_1, hx314_2⟩ := at_T43 HR0_1.out x4_1 p314 q314
          have hw314_2 := hx314_2
          have hw314_1 := hx314_1
          have hw314_0 := hx314_0
          obtain rfl : ad312 = ad314 := (by injection e314)
          replace hx314_0 := (HB.out.cell (World.block_lt_of_cell? w _ hx314_0)).trans hx314_0
          replace hx314_1 := (HB.out.cell (World.block_lt_of_cell? w _ hx314_1)).trans hx314_1
          replace hx314_2 := (HB.out.cell (World.block_lt_of_cell? w _ hx314_2)).trans hx314_2
          replace p314 := eq_true p314
          replace q314 := eq_true q314
          have p315 : 0 ≤ (x4_1 : Int) := of_decide_eq_true (by assumption)
          have q315 : x4_1 < (l0_1.length : Int) := of_decide_eq_true (by assumption)
          obtain ⟨ad315, e315, hx315_0, hx315_1, hx315_2⟩ := at_T43 HR0_1.out x4_1 p315 q315
          have hw315_2 := hx315_2
          have hw315_1 := hx315_1
          have hw315_0 := hx315_0
          obtain rfl : ad312 = ad315 := (by injection e315)
          replace hx315_0 := (HB.out.cell (World.block_lt_of_cell? w _ hx315_0)).trans hx315_0
          replace hx315_1 := (HB.out.cell (World.block_lt_of_cell? w _ hx315_1)).trans hx315_1
          replace hx315_2 := (HB.out.cell (World.block_lt_of_cell? w _ hx315_2)).trans hx315_2
          replace p315 := eq_true p315
          replace q315 := eq_true q315
          refine start_ (n := 13) (S := fun w' => w'.cell? ⟨gb310, 0, none⟩ = some (.int .i64 a0_0) ∧ w'.cell? ⟨gb310, 1, none⟩ = some (.slice (some ad312) l0_1.length c0_1) ∧ w'.cell? (ad312.add ((x4_1).toNat * 3)) = some (.int .i64 ((rd_T43 l0_1 x4_1).f0)) ∧ w'.cell? ⟨(ad312.add ((x4_1).toNat * 3)).block, (ad312.add ((x4_1).toNat * 3)).off + 1, none⟩ = some (.int .i64 ((rd_T43 l0_1 x4_1).f1)) ∧ w'.cell? ⟨(ad312.add ((x4_1).toNat * 3)).block, (ad312.add ((x4_1).toNat * 3)).off + 2, none⟩ = some (.int .i64 ((rd_T43 l0_1 x4_1).f2)) ∧ w'.cell? (ad312.add ((x4_1).toNat * 3)) = some (.int .i64 ((rd_T43 l0_1 x4_1).f0)) ∧ w'.cell? ⟨(ad312.add ((x4_1).toNat * 3)).block, (ad312.add ((x4_1).toNat * 3)).off + 1, none⟩ = some (.int .i64 ((rd_T43 l0_1 x4_1).f1)) ∧ w'.cell? ⟨(ad312.add ((x4_1).toNat * 3)).block, (ad312.add ((x4_1).toNat * 3)).off + 2, none⟩ = some (.int .i64 ((rd_T43 l0_1 x4_1).f2))) (ds := []) #[false, false, false, false, false, false, false, false, false, false, false, false, false] (by kernel_rfl) rfl rfl ⟨(zKc BK310.out 0).trans rfl, (zKc BK310.out 1).trans rfl, ((HB.out.cell (World.block_lt_of_cell? w _ hw314_0)).trans hw314_0), ((HB.out.cell (World.block_lt_of_cell? w _ hw314_1)).trans hw314_1), ((HB.out.cell (World.block_lt_of_cell? w _ hw314_2)).trans hw314_2), ((HB.out.cell (World.block_lt_of_cell? w _ hw315_0)).trans hw315_0), ((HB.out.cell (World.block_lt_of_cell? w _ hw315_1)).trans hw315_1), ((HB.out.cell (World.block_lt_of_cell? w _ hw315_2)).trans hw315_2)⟩ (fun hHeld => ?_); refine with_tabW filigreeref04_Right.tab10 filigreeref04_Right.bits10 (fun HT_ HW_ => ?_)
          generalize w13.drew = w14 at BK310 HB hx314_0 hx314_1 hx314_2 hx315_0 hx315_1 hx315_2 hHeld ⊢
          refine pure_ (i := 0) (N := some 33) (v := ?_) (a' := ?_) #[true, false, false, false, false, false, false, false, false, false, false, false, false] rfl rfl (any_of HT_.out (by kernel_rfl)) (fun _ _ _ h => h) (Or.inl ⟨by rfl, ?_⟩) ?_ ?_
          rotate_left
          · intro w'
            go_simp
            with_reducible rfl
          rotate_left
          · simp only [Act.put, zSa, zSb, zSc, i64_w, i32_w]
            rfl
          refine pure_ (i := 2) (N := some 35) (v := ?_) (a' := ?_) #[true, false, true, false, false, false, false, false, false, false, false, false, false] rfl rfl (any_of HT_.out (by kernel_rfl)) (fun _ _ _ h => h) (Or.inl ⟨by rfl, ?_⟩) ?_ ?_
          rotate_left
          · intro w'
            go_simp
            with_reducible rfl
          rotate_left
          · simp only [Act.put, zSa, zSb, zSc, i64_w, i32_w]
            rfl
          refine pure_ (i := 6) (N := some 39) (v := ?_) (a' := ?_) #[true, false, true, false, false, false, true, false, false, false, false, false, false] rfl rfl (any_of HT_.out (by kernel_rfl)) (fun _ _ _ h => h) (Or.inl ⟨by rfl, ?_⟩) ?_ ?_
          rotate_left
          · intro w'
            go_simp
            with_reducible rfl
          rotate_left
          · simp only [Act.put, zSa, zSb, zSc, i64_w, i32_w]
            rfl
          refine pure_ (i := 8) (N := some 41) (v := ?_) (a' := ?_) #[true, false, true, false, false, false, true, false, true, false, false, false, false] rfl rfl (any_of HT_.out (by kernel_rfl)) (fun _ _ _ h => h) (Or.inl ⟨by rfl, ?_⟩) ?_ ?_
          rotate_left
          · intro w'
            go_simp
            with_reducible rfl
          rotate_left
          · simp only [Act.put, zSa, zSb, zSc, i64_w, i32_w]
            rfl
          refine take_ (i := 1) (N := some 34) (v := ?_) (a' := ?_) #[true, true, true, false, false, false, true, false, true, false, false, false, false] rfl rfl (take_ofW HT_.out HW_.out (by kernel_rfl)) (fun _ _ _ h => h) (Or.inl ⟨by rfl, ?_⟩) hHeld ?_ ?_
          rotate_left
          · rintro w' ⟨s0, s1, s2, s3, s4, s5, s6, s7⟩
            go_simp
            with_reducible rfl
          rotate_left
          · simp only [Act.put, zSa, zSb, zSc, i64_w, i32_w]
            rfl
          refine pure_ (i := 3) (N := some 36) (v := ?_) (a' := ?_) #[true, true, true, true, false, false, true, false, true, false, false, false, false] rfl rfl (any_of HT_.out (by kernel_rfl)) (fun _ _ _ h => h) (Or.inl ⟨by rfl, ?_⟩) ?_ ?_
          rotate_left
          · intro w'
            go_simp
            with_reducible rfl
          rotate_left
          · simp only [Act.put, zSa, zSb, zSc, i64_w, i32_w]
            rfl
          refine pure_ (i := 4) (N := some 37) (v := ?_) (a' := ?_) #[true, true, true, true, true, false, true, false, true, false, false, false, false] rfl rfl (any_of HT_.out (by kernel_rfl)) (fun _ _ _ h => h) (Or.inl ⟨by rfl, ?_⟩) ?_ ?_
          rotate_left
          · intro w'
            go_simp
            with_reducible rfl
          rotate_left
          · simp only [Act.put, zSa, zSb, zSc, i64_w, i32_w]
            rfl
          refine take_ (i := 5) (N := some 38) (v := ?_) (a' := ?_) #[true, true, true, true, true, true, true, false, true, false, false, false, false] rfl rfl (take_ofW HT_.out HW_.out (by kernel_rfl)) (fun _ _ _ h => h) (Or.inl ⟨by rfl, ?_⟩) hHeld ?_ ?_
          rotate_left
          · rintro w' ⟨s0, s1, s2, s3, s4, s5, s6, s7⟩
            go_simp
            with_reducible rfl
          rotate_left
          · simp only [Act.put, zSa, zSb, zSc, i64_w, i32_w]
            rfl
          refine take_ (i := 7) (N := some 40) (v := ?_) (a' := ?_) #[true, true, true, true, true, true, true, true, true, false, false, false, false] rfl rfl (take_ofW HT_.out HW_.out (by kernel_rfl)) (fun _ _ _ h => h) (Or.inl ⟨by rfl, ?_⟩) hHeld ?_ ?_
          rotate_left
          · rintro w' ⟨s0, s1, s2, s3, s4, s5, s6, s7⟩
            go_simp
            with_reducible rfl
          rotate_left
          · simp only [Act.put, zSa, zSb, zSc, i64_w, i32_w]
            rfl
          refine pure_ (i := 9) (N := some 42) (v := ?_) (a' := ?_) #[true, true, true, true, true, true, true, true, true, true, false, false, false] rfl rfl (any_of HT_.out (by kernel_rfl)) (fun _ _ _ h => h) (Or.inl ⟨by rfl, ?_⟩) ?_ ?_
          rotate_left
          · intro w'
            go_simp
            with_reducible rfl
          rotate_left
          · simp only [Act.put, zSa, zSb, zSc, i64_w, i32_w]
            rfl
          refine pure_ (i := 10) (N := some 43) (v := ?_) (a' := ?_) #[true, true, true, true, true, true, true, true, true, true, true, false, false] rfl rfl (any_of HT_.out (by kernel_rfl)) (fun _ _ _ h => h) (Or.inl ⟨by rfl, ?_⟩) ?_ ?_
          rotate_left
          · intro w'
            go_simp
            with_reducible rfl
          rotate_left
          · simp only [Act.put, zSa, zSb, zSc, i64_w, i32_w]
            rfl
          refine take_ (i := 11) (N := some 44) (v := ?_) (a' := ?_) #[true, true, true, true, true, true, true, true, true, true, true, true, false] rfl rfl (take_ofW HT_.out HW_.out (by kernel_rfl)) (fun _ _ _ h => h) (Or.inl ⟨by rfl, ?_⟩) hHeld ?_ ?_
          rotate_left
          · rintro w' ⟨s0, s1, s2, s3, s4, s5, s6, s7⟩
            go_simp
            with_reducible rfl
          rotate_left
          · simp only [Act.put, zSa, zSb, zSc, i64_w, i32_w]
            rfl
          refine pure_ (i := 12) (N := some 45) (v := ?_) (a' := ?_) #[true, true, true, true, true, true, true, true, true, true, true, true, true] rfl rfl (any_of HT_.out (by kernel_rfl)) (fun _ _ _ h => h) (Or.inl ⟨by rfl, ?_⟩) ?_ ?_
          rotate_left
          · intro w'
            go_simp
            with_reducible rfl
          rotate_left
          · simp only [Act.put, zSa, zSb, zSc, i64_w, i32_w]
            rfl
          refine done_ (done_of HT_.out (by kernel_rfl)) ?_
          try go_wp2
          go_ret
          exact ⟨by first | rfl | (simp [errW_none, errW_some] <;> rfl) | (simp [*, errW_none, errW_some] <;> rfl), by exact uT HB.out⟩
        · rw [if_neg c10] at H
          have c10b0 : decide (((rd_T43 l0_1 x4_1).f1) < ((rd_T43 l0_1 x4_1).f0)) = false := decide_eq_false c10
          clear c10
          have HC15 := zMk H
          clear H
          have hcz16_0 : wr.cell? ⟨gb310, 0, none⟩ = some (.int .i64 a0_0) := (zKc BK310.out 0).trans rfl
          have hcz16_1 : wr.cell? ⟨gb310, 1, none⟩ = some (.slice A0_1 l0_1.length c0_1) := (zKc BK310.out 1).trans rfl
          have hfz16_0 := zKf BK310.out 0
          have hfz16_1 := zKf BK310.out 1
          try go_wp2
          replace BK310 := zMk (zKd BK310.out)
          replace HB := zMk (zBd HB.out)
          have p312 : 0 ≤ (x4_1 : Int) := of_decide_eq_true (by assumption)
          have q312 : x4_1 < (l0_1.length : Int) := of_decide_eq_true (by assumption)
          obtain ⟨ad312, e312, hx312_0, hx312_1, hx312_2⟩ := at_T43 HR0_1.out x4_1 p312 q312
          have hw312_2 := hx312_2
          have hw312_1 := hx312_1
          have hw312_0 := hx312_0
          cases e312
          replace hx312_0 := (HB.out.cell (World.block_lt_of_cell? w _ hx312_0)).trans hx312_0
          replace hx312_1 := (HB.out.cell (World.block_lt_of_cell? w _ hx312_1)).trans hx312_1
          replace hx312_2 := (HB.out.cell (World.block_lt_of_cell? w _ hx312_2)).trans hx312_2
          replace p312 := eq_true p312
          replace q312 := eq_true q312
          refine start_ (n := 9) (S := fun w' => w'.cell? ⟨gb310, 0, none⟩ = some (.int .i64 a0_0) ∧ w'.cell? ⟨gb310, 1, none⟩ = some (.slice (some ad312) l0_1.length c0_1) ∧ w'.cell? (ad312.add ((x4_1).toNat * 3)) = some (.int .i64 ((rd_T43 l0_1 x4_1).f0)) ∧ w'.cell? ⟨(ad312.add ((x4_1).toNat * 3)).block, (ad312.add ((x4_1).toNat * 3)).off + 1, none⟩ = some (.int .i64 ((rd_T43 l0_1 x4_1).f1)) ∧ w'.cell? ⟨(ad312.add ((x4_1).toNat * 3)).block, (ad312.add ((x4_1).toNat * 3)).off + 2, none⟩ = some (.int .i64 ((rd_T43 l0_1 x4_1).f2))) (ds := []) #[false, false, false, false, false, false, false, false, false] (by kernel_rfl) rfl rfl ⟨(zKc BK310.out 0).trans rfl, (zKc BK310.out 1).trans rfl, ((HB.out.cell (World.block_lt_of_cell? w _ hw312_0)).trans hw312_0), ((HB.out.cell (World.block_lt_of_cell? w _ hw312_1)).trans hw312_1), ((HB.out.cell (World.block_lt_of_cell? w _ hw312_2)).trans hw312_2)⟩ (fun hHeld => ?_); refine with_tabW filigreeref04_Right.tab7 filigreeref04_Right.bits7 (fun HT_ HW_ => ?_)
          generalize wr.drew = w17 at BK310 HB hx312_0 hx312_1 hx312_2 hHeld ⊢
          refine pure_ (i := 0) (N := some 22) (v := ?_) (a' := ?_) #[true, false, false, false, false, false, false, false, false] rfl rfl (any_of HT_.out (by kernel_rfl)) (fun _ _ _ h => h) (Or.inl ⟨by rfl, ?_⟩) ?_ ?_
          rotate_left
          · intro w'
            go_simp
            with_reducible rfl
          rotate_left
          · simp only [Act.put, zSa, zSb, zSc, i64_w, i32_w]
            rfl
          refine pure_ (i := 2) (N := some 24) (v := ?_) (a' := ?_) #[true, false, true, false, false, false, false, false, false] rfl rfl (any_of HT_.out (by kernel_rfl)) (fun _ _ _ h => h) (Or.inl ⟨by rfl, ?_⟩) ?_ ?_
          rotate_left
          · intro w'
            go_simp
            with_reducible rfl
          rotate_left
          · simp only [Act.put, zSa, zSb, zSc, i64_w, i32_w]
            rfl
          refine pure_ (i := 4) (N := some 26) (v := ?_) (a' := ?_) #[true, false, true, false, true, false, false, false, false] rfl rfl (any_of HT_.out (by kernel_rfl)) (fun _ _ _ h => h) (Or.inl ⟨by rfl, ?_⟩) ?_ ?_
          rotate_left
          · intro w'
            go_simp
            with_reducible rfl
          rotate_left
          · simp only [Act.put, zSa, zSb, zSc, i64_w, i32_w]
            rfl
          refine take_ (i := 1) (N := some 23) (v := ?_) (a' := ?_) #[true, true, true, false, true, false, false, false, false] rfl rfl (take_ofW HT_.out HW_.out (by kernel_rfl)) (fun _ _ _ h => h) (Or.inl ⟨by rfl, ?_⟩) hHeld ?_ ?_
          rotate_left
          · rintro w' ⟨s0, s1, s2, s3, s4⟩
            go_simp
            with_reducible rfl
          rotate_left
          · simp only [Act.put, zSa, zSb, zSc, i64_w, i32_w]
            rfl
          refine take_ (i := 3) (N := some 25) (v := ?_) (a' := ?_) #[true, true, true, true, true, false, false, false, false] rfl rfl (take_ofW HT_.out HW_.out (by kernel_rfl)) (fun _ _ _ h => h) (Or.inl ⟨by rfl, ?_⟩) hHeld ?_ ?_
          rotate_left
          · rintro w' ⟨s0, s1, s2, s3, s4⟩
            go_simp
            with_reducible rfl
          rotate_left
          · simp only [Act.put, zSa, zSb, zSc, i64_w, i32_w]
            rfl
          refine pure_ (i := 5) (N := some 27) (v := ?_) (a' := ?_) #[true, true, true, true, true, true, false, false, false] rfl rfl (any_of HT_.out (by kernel_rfl)) (fun _ _ _ h => h) (Or.inl ⟨by rfl, ?_⟩) ?_ ?_
          rotate_left
          · intro w'
            go_simp
            with_reducible rfl
          rotate_left
          · simp only [Act.put, zSa, zSb, zSc, i64_w, i32_w]
            rfl
          refine take_ (i := 6) (N := some 28) (v := ?_) (a' := ?_) #[true, true, true, true, true, true, true, false, false] rfl rfl (take_ofW HT_.out HW_.out (by kernel_rfl)) (fun _ _ _ h => h) (Or.inl ⟨by rfl, ?_⟩) hHeld ?_ ?_
          rotate_left
          · rintro w' ⟨s0, s1, s2, s3, s4⟩
            go_simp
            with_reducible rfl
          rotate_left
          · simp only [Act.put, zSa, zSb, zSc, i64_w, i32_w]
            rfl
          refine one_ (i := 7) (N := some 29) #[true, true, true, true, true, true, true, true, false] rfl rfl (one_of HT_.out (by kernel_rfl)) (by decide) (fun K hK => ?_)
          refine goes_ Try.func25 (by kernel_rfl) rfl #[.int .i64 a0_0, .agg #[.int .i64 ((rd_T43 l0_1 x4_1).f0), .int .i64 ((rd_T43 l0_1 x4_1).f1), .int .i64 ((rd_T43 l0_1 x4_1).f2)]] (by rfl) rfl rfl (by (try simp only [zMa, zMc, zMn]); first | done | rfl | (simp only [zLd, zLt]; rfl)) ?_
          with_reducible refine (filigreeref04_edge.calls k1 a0_0 ((rd_T43 l0_1 x4_1).f0) ((rd_T43 l0_1 x4_1).f1) ((rd_T43 l0_1 x4_1).f2) t313 _ A8.out).mono ?_
          rintro e w18 ⟨rfl, hb⟩
          refine ⟨_, rfl, ?_⟩
          replace BK310 := zMk (zKb (g := gb310) (o := .cells #[.int .i64 a0_0, .slice (some ad312) l0_1.length c0_1] 24 (0, 0)) (by (with_reducible repeat (first | refine zKn ?_ _ | refine zKd ?_ | refine zKa ?_ _)); exact BK310.out) hb)
          replace HB := zMk (zBt (by exact uT HB.out) hb)
          refine hK.out _ _ ⟨(zKc BK310.out 0).trans rfl, (zKc BK310.out 1).trans rfl, ((HB.out.cell (World.block_lt_of_cell? w _ hw312_0)).trans hw312_0), ((HB.out.cell (World.block_lt_of_cell? w _ hw312_1)).trans hw312_1), ((HB.out.cell (World.block_lt_of_cell? w _ hw312_2)).trans hw312_2)⟩ (fun hHeld => ?_)
          clear hK K
          refine norm_ (a' := ?_) ?_ ?_
          rotate_left
          · show Act.put _ (some 29) _ = _
            simp only [Act.put, zSa, zSb, zSc, i64_w, i32_w]
            rfl
          refine pure_ (i := 8) (N := some 5) (v := ?_) (a' := ?_) #[true, true, true, true, true, true, true, true, true] rfl rfl (any_of HT_.out (by kernel_rfl)) (fun _ _ _ h => h) (Or.inl ⟨by rfl, ?_⟩) ?_ ?_
          rotate_left
          · intro w'
            go_simp
            with_reducible rfl
          rotate_left
          · simp only [Act.put, zSa, zSb, zSc, i64_w, i32_w]
            rfl
          refine done_ (done_of HT_.out (by kernel_rfl)) ?_
          try go_wp2
          replace BK310 := zMk (zKd BK310.out)
          replace HB := zMk (zBd HB.out)
          have p314 : 0 ≤ (x4_1 : Int) := of_decide_eq_true (by assumption)
          have q314 : x4_1 < (l0_1.length : Int) := of_decide_eq_true (by assumption)
          obtain ⟨ad314, e314, hx314_0, hx314_1, hx314_2⟩ := at_T43 HR0_1.out x4_1 p314 q314
          have hw314_2 := hx314_2
          have hw314_1 := hx314_1
          have hw314_0 := hx314_0
          obtain rfl : ad312 = ad314 := (by injection e314)
          replace hx314_0 := (HB.out.cell (World.block_lt_of_cell? w _ hx314_0)).trans hx314_0
          replace hx314_1 := (HB.out.cell (World.block_lt_of_cell? w _ hx314_1)).trans hx314_1
          replace hx314_2 := (HB.out.cell (World.block_lt_of_cell? w _ hx314_2)).trans hx314_2
          replace p314 := eq_true p314
          replace q314 := eq_true q314
          have p315 : 0 ≤ (x4_1 : Int) := of_decide_eq_true (by assumption)
          have q315 : x4_1 < (l0_1.length : Int) := of_decide_eq_true (by assumption)
          obtain ⟨ad315, e315, hx315_0, hx315_1, hx315_2⟩ := at_T43 HR0_1.out x4_1 p315 q315
          have hw315_2 := hx315_2
          have hw315_1 := hx315_1
          have hw315_0 := hx315_0
          obtain rfl : ad312 = ad315 := (by injection e315)
          replace hx315_0 := (HB.out.cell (World.block_lt_of_cell? w _ hx315_0)).trans hx315_0
          replace hx315_1 := (HB.out.cell (World.block_lt_of_cell? w _ hx315_1)).trans hx315_1
          replace hx315_2 := (HB.out.cell (World.block_lt_of_cell? w _ hx315_2)).trans hx315_2
          replace p315 := eq_true p315
          replace q315 := eq_true q315
          refine start_ (n := 13) (S := fun w' => w'.cell? ⟨gb310, 0, none⟩ = some (.int .i64 a0_0) ∧ w'.cell? ⟨gb310, 1, none⟩ = some (.slice (some ad312) l0_1.length c0_1) ∧ w'.cell? (ad312.add ((x4_1).toNat * 3)) = some (.int .i64 ((rd_T43 l0_1 x4_1).f0)) ∧ w'.cell? ⟨(ad312.add ((x4_1).toNat * 3)).block, (ad312.add ((x4_1).toNat * 3)).off + 1, none⟩ = some (.int .i64 ((rd_T43 l0_1 x4_1).f1)) ∧ w'.cell? ⟨(ad312.add ((x4_1).toNat * 3)).block, (ad312.add ((x4_1).toNat * 3)).off + 2, none⟩ = some (.int .i64 ((rd_T43 l0_1 x4_1).f2)) ∧ w'.cell? (ad312.add ((x4_1).toNat * 3)) = some (.int .i64 ((rd_T43 l0_1 x4_1).f0)) ∧ w'.cell? ⟨(ad312.add ((x4_1).toNat * 3)).block, (ad312.add ((x4_1).toNat * 3)).off + 1, none⟩ = some (.int .i64 ((rd_T43 l0_1 x4_1).f1)) ∧ w'.cell? ⟨(ad312.add ((x4_1).toNat * 3)).block, (ad312.add ((x4_1).toNat * 3)).off + 2, none⟩ = some (.int .i64 ((rd_T43 l0_1 x4_1).f2))) (ds := []) #[false, false, false, false, false, false, false, false, false, false, false, false, false] (by kernel_rfl) rfl rfl ⟨(zKc BK310.out 0).trans rfl, (zKc BK310.out 1).trans rfl, ((HB.out.cell (World.block_lt_of_cell? w _ hw314_0)).trans hw314_0), ((HB.out.cell (World.block_lt_of_cell? w _ hw314_1)).trans hw314_1), ((HB.out.cell (World.block_lt_of_cell? w _ hw314_2)).trans hw314_2), ((HB.out.cell (World.block_lt_of_cell? w _ hw315_0)).trans hw315_0), ((HB.out.cell (World.block_lt_of_cell? w _ hw315_1)).trans hw315_1), ((HB.out.cell (World.block_lt_of_cell? w _ hw315_2)).trans hw315_2)⟩ (fun hHeld => ?_); refine with_tabW filigreeref04_Right.tab10 filigreeref04_Right.bits10 (fun HT_ HW_ => ?_)
          generalize w18.drew = w19 at BK310 HB hx314_0 hx314_1 hx314_2 hx315_0 hx315_1 hx315_2 hHeld ⊢
          refine pure_ (i := 0) (N := some 33) (v := ?_) (a' := ?_) #[true, false, false, false, false, false, false, false, false, false, false, false, false] rfl rfl (any_of HT_.out (by kernel_rfl)) (fun _ _ _ h => h) (Or.inl ⟨by rfl, ?_⟩) ?_ ?_
          rotate_left
          · intro w'
            go_simp
            with_reducible rfl
          rotate_left
          · simp only [Act.put, zSa, zSb, zSc, i64_w, i32_w]
            rfl
          refine pure_ (i := 2) (N := some 35) (v := ?_) (a' := ?_) #[true, false, true, false, false, false, false, false, false, false, false, false, false] rfl rfl (any_of HT_.out (by kernel_rfl)) (fun _ _ _ h => h) (Or.inl ⟨by rfl, ?_⟩) ?_ ?_
          rotate_left
          · intro w'
            go_simp
            with_reducible rfl
          rotate_left
          · simp only [Act.put, zSa, zSb, zSc, i64_w, i32_w]
            rfl
          refine pure_ (i := 6) (N := some 39) (v := ?_) (a' := ?_) #[true, false, true, false, false, false, true, false, false, false, false, false, false] rfl rfl (any_of HT_.out (by kernel_rfl)) (fun _ _ _ h => h) (Or.inl ⟨by rfl, ?_⟩) ?_ ?_
          rotate_left
          · intro w'
            go_simp
            with_reducible rfl
          rotate_left
          · simp only [Act.put, zSa, zSb, zSc, i64_w, i32_w]
            rfl
          refine pure_ (i := 8) (N := some 41) (v := ?_) (a' := ?_) #[true, false, true, false, false, false, true, false, true, false, false, false, false] rfl rfl (any_of HT_.out (by kernel_rfl)) (fun _ _ _ h => h) (Or.inl ⟨by rfl, ?_⟩) ?_ ?_
          rotate_left
          · intro w'
            go_simp
            with_reducible rfl
          rotate_left
          · simp only [Act.put, zSa, zSb, zSc, i64_w, i32_w]
            rfl
          refine take_ (i := 1) (N := some 34) (v := ?_) (a' := ?_) #[true, true, true, false, false, false, true, false, true, false, false, false, false] rfl rfl (take_ofW HT_.out HW_.out (by kernel_rfl)) (fun _ _ _ h => h) (Or.inl ⟨by rfl, ?_⟩) hHeld ?_ ?_
          rotate_left
          · rintro w' ⟨s0, s1, s2, s3, s4, s5, s6, s7⟩
            go_simp
            with_reducible rfl
          rotate_left
          · simp only [Act.put, zSa, zSb, zSc, i64_w, i32_w]
            rfl
          refine pure_ (i := 3) (N := some 36) (v := ?_) (a' := ?_) #[true, true, true, true, false, false, true, false, true, false, false, false, false] rfl rfl (any_of HT_.out (by kernel_rfl)) (fun _ _ _ h => h) (Or.inl ⟨by rfl, ?_⟩) ?_ ?_
          rotate_left
          · intro w'
            go_simp
            with_reducible rfl
          rotate_left
          · simp only [Act.put, zSa, zSb, zSc, i64_w, i32_w]
            rfl
          refine pure_ (i := 4) (N := some 37) (v := ?_) (a' := ?_) #[true, true, true, true, true, false, true, false, true, false, false, false, false] rfl rfl (any_of HT_.out (by kernel_rfl)) (fun _ _ _ h => h) (Or.inl ⟨by rfl, ?_⟩) ?_ ?_
          rotate_left
          · intro w'
            go_simp
            with_reducible rfl
          rotate_left
          · simp only [Act.put, zSa, zSb, zSc, i64_w, i32_w]
            rfl
          refine take_ (i := 5) (N := some 38) (v := ?_) (a' := ?_) #[true, true, true, true, true, true, true, false, true, false, false, false, false] rfl rfl (take_ofW HT_.out HW_.out (by kernel_rfl)) (fun _ _ _ h => h) (Or.inl ⟨by rfl, ?_⟩) hHeld ?_ ?_
          rotate_left
          · rintro w' ⟨s0, s1, s2, s3, s4, s5, s6, s7⟩
            go_simp
            with_reducible rfl
          rotate_left
          · simp only [Act.put, zSa, zSb, zSc, i64_w, i32_w]
            rfl
          refine take_ (i := 7) (N := some 40) (v := ?_) (a' := ?_) #[true, true, true, true, true, true, true, true, true, false, false, false, false] rfl rfl (take_ofW HT_.out HW_.out (by kernel_rfl)) (fun _ _ _ h => h) (Or.inl ⟨by rfl, ?_⟩) hHeld ?_ ?_
          rotate_left
          · rintro w' ⟨s0, s1, s2, s3, s4, s5, s6, s7⟩
            go_simp
            with_reducible rfl
          rotate_left
          · simp only [Act.put, zSa, zSb, zSc, i64_w, i32_w]
            rfl
          refine pure_ (i := 9) (N := some 42) (v := ?_) (a' := ?_) #[true, true, true, true, true, true, true, true, true, true, false, false, false] rfl rfl (any_of HT_.out (by kernel_rfl)) (fun _ _ _ h => h) (Or.inl ⟨by rfl, ?_⟩) ?_ ?_
          rotate_left
          · intro w'
            go_simp
            with_reducible rfl
          rotate_left
          · simp only [Act.put, zSa, zSb, zSc, i64_w, i32_w]
            rfl
          refine pure_ (i := 10) (N := some 43) (v := ?_) (a' := ?_) #[true, true, true, true, true, true, true, true, true, true, true, false, false] rfl rfl (any_of HT_.out (by kernel_rfl)) (fun _ _ _ h => h) (Or.inl ⟨by rfl, ?_⟩) ?_ ?_
          rotate_left
          · intro w'
            go_simp
            with_reducible rfl
          rotate_left
          · simp only [Act.put, zSa, zSb, zSc, i64_w, i32_w]
            rfl
          refine take_ (i := 11) (N := some 44) (v := ?_) (a' := ?_) #[true, true, true, true, true, true, true, true, true, true, true, true, false] rfl rfl (take_ofW HT_.out HW_.out (by kernel_rfl)) (fun _ _ _ h => h) (Or.inl ⟨by rfl, ?_⟩) hHeld ?_ ?_
          rotate_left
          · rintro w' ⟨s0, s1, s2, s3, s4, s5, s6, s7⟩
            go_simp
            with_reducible rfl
          rotate_left
          · simp only [Act.put, zSa, zSb, zSc, i64_w, i32_w]
            rfl
          refine pure_ (i := 12) (N := some 45) (v := ?_) (a' := ?_) #[true, true, true, true, true, true, true, true, true, true, true, true, true] rfl rfl (any_of HT_.out (by kernel_rfl)) (fun _ _ _ h => h) (Or.inl ⟨by rfl, ?_⟩) ?_ ?_
          rotate_left
          · intro w'
            go_simp
            with_reducible rfl
          rotate_left
          · simp only [Act.put, zSa, zSb, zSc, i64_w, i32_w]
            rfl
          refine done_ (done_of HT_.out (by kernel_rfl)) ?_
          go_upto_region 12 with (fail)
          go_cut [62] (fun v62 wc => ∃ (kq : Nat) (x62_14 : Bool), v62 = .bool x62_14 ∧ Aside0 (filigreeref04_Right.j1 kq x4_1 x62_14 a0_0 l0_1 = some r) ∧ Aside0 (kq ≤ k1) ∧ Aside0 (wc.heap[gb310]? = some (.cells #[.int .i64 a0_0, (.slice (some ad312) l0_1.length c0_1)] 24 (0, 0))) ∧ Aside0 (Below w.heap.size w wc))
          case first =>
            have H := HC15.out
            clear HC15
            by_cases c20 : x4_1 > 0
            · rw [if_pos c20] at H
              have c20b0 : decide (0 < x4_1) = true := decide_eq_true c20
              clear c20
              (first | rw [c20b0] | (simp only [i64_w, i32_w]; rw [c20b0]) | rw [c20b1] | skip)
              obtain ⟨ji21, hji21⟩ : ∃ j_ : Int, (wrap64 (x4_1 - 1)) = j_ := ⟨_, rfl⟩
              replace H : (if 0 ≤ (ji21) then (if (ji21) < (l0_1.length : Int) then ((filigreeref04_below.f ((rd_T43 l0_1 (ji21)).f0) ((rd_T43 l0_1 (ji21)).f1) ((rd_T43 l0_1 (ji21)).f2) ((rd_T43 l0_1 x4_1).f0) ((rd_T43 l0_1 x4_1).f1) ((rd_T43 l0_1 x4_1).f2)).bind fun t318 => (filigreeref04_Right.j1 k1 x4_1 (!t318) a0_0 l0_1)) else (none)) else (none)) = some r := by first | (rw [hji21] at H; exact H) | (simp only [hji21] at H ⊢; exact H)
              have hji21w : (IntKind.i64.wrap (x4_1 - 1)) = ji21 := (i64_w _).trans hji21
              by_cases c22 : 0 ≤ (ji21)
              rotate_left
              · rw [if_neg c22] at H; exact absurd H (by simp)
              rw [if_pos c22] at H
              have c22b0 : decide (0 ≤ (ji21)) = true := decide_eq_true c22
              clear c22
              by_cases c23 : (ji21) < (l0_1.length : Int)
              rotate_left
              · rw [if_neg c23] at H; exact absurd H (by simp)
              rw [if_pos c23] at H
              have c23b0 : decide ((ji21) < (l0_1.length : Int)) = true := decide_eq_true c23
              clear c23
              replace H := bnd H
              obtain ⟨t318, A240, H⟩ := H
              have A24 := zMk A240
              clear A240
              have H' := zMk H
              clear H
              try go_wp2
              replace BK310 := zMk (zKd BK310.out)
              replace HB := zMk (zBd HB.out)
              have p316 : 0 ≤ ((ji21) : Int) := of_decide_eq_true (by assumption)
              have q316 : (ji21) < (l0_1.length : Int) := of_decide_eq_true (by assumption)
              obtain ⟨ad316, e316, hx316_0, hx316_1, hx316_2⟩ := at_T43 HR0_1.out (ji21) p316 q316
              have hw316_2 := hx316_2
              have hw316_1 := hx316_1
              have hw316_0 := hx316_0
              obtain rfl : ad312 = ad316 := (by injection e316)
              replace hx316_0 := (HB.out.cell (World.block_lt_of_cell? w _ hx316_0)).trans hx316_0
              replace hx316_1 := (HB.out.cell (World.block_lt_of_cell? w _ hx316_1)).trans hx316_1
              replace hx316_2 := (HB.out.cell (World.block_lt_of_cell? w _ hx316_2)).trans hx316_2
              replace p316 := eq_true p316
              replace q316 := eq_true q316
              have p317 : 0 ≤ (x4_1 : Int) := of_decide_eq_true (by assumption)
              have q317 : x4_1 < (l0_1.length : Int) := of_decide_eq_true (by assumption)
              obtain ⟨ad317, e317, hx317_0, hx317_1, hx317_2⟩ := at_T43 HR0_1.out x4_1 p317 q317
              have hw317_2 := hx317_2
              have hw317_1 := hx317_1
              have hw317_0 := hx317_0
              obtain rfl : ad312 = ad317 := (by injection e317)
              replace hx317_0 := (HB.out.cell (World.block_lt_of_cell? w _ hx317_0)).trans hx317_0
              replace hx317_1 := (HB.out.cell (World.block_lt_of_cell? w _ hx317_1)).trans hx317_1
              replace hx317_2 := (HB.out.cell (World.block_lt_of_cell? w _ hx317_2)).trans hx317_2
              replace p317 := eq_true p317
              replace q317 := eq_true q317
              refine start_ (n := 17) (S := fun w' => w'.cell? ⟨gb310, 0, none⟩ = some (.int .i64 a0_0) ∧ w'.cell? ⟨gb310, 1, none⟩ = some (.slice (some ad312) l0_1.length c0_1) ∧ w'.cell? (ad312.add (((ji21)).toNat * 3)) = some (.int .i64 ((rd_T43 l0_1 (ji21)).f0)) ∧ w'.cell? ⟨(ad312.add (((ji21)).toNat * 3)).block, (ad312.add (((ji21)).toNat * 3)).off + 1, none⟩ = some (.int .i64 ((rd_T43 l0_1 (ji21)).f1)) ∧ w'.cell? ⟨(ad312.add (((ji21)).toNat * 3)).block, (ad312.add (((ji21)).toNat * 3)).off + 2, none⟩ = some (.int .i64 ((rd_T43 l0_1 (ji21)).f2)) ∧ w'.cell? (ad312.add ((x4_1).toNat * 3)) = some (.int .i64 ((rd_T43 l0_1 x4_1).f0)) ∧ w'.cell? ⟨(ad312.add ((x4_1).toNat * 3)).block, (ad312.add ((x4_1).toNat * 3)).off + 1, none⟩ = some (.int .i64 ((rd_T43 l0_1 x4_1).f1)) ∧ w'.cell? ⟨(ad312.add ((x4_1).toNat * 3)).block, (ad312.add ((x4_1).toNat * 3)).off + 2, none⟩ = some (.int .i64 ((rd_T43 l0_1 x4_1).f2))) (ds := []) #[false, false, false, false, false, false, false, false, false, false, false, false, false, false, false, false, false] (by kernel_rfl) rfl rfl ⟨(zKc BK310.out 0).trans rfl, (zKc BK310.out 1).trans rfl, ((HB.out.cell (World.block_lt_of_cell? w _ hw316_0)).trans hw316_0), ((HB.out.cell (World.block_lt_of_cell? w _ hw316_1)).trans hw316_1), ((HB.out.cell (World.block_lt_of_cell? w _ hw316_2)).trans hw316_2), ((HB.out.cell (World.block_lt_of_cell? w _ hw317_0)).trans hw317_0), ((HB.out.cell (World.block_lt_of_cell? w _ hw317_1)).trans hw317_1), ((HB.out.cell (World.block_lt_of_cell? w _ hw317_2)).trans hw317_2)⟩ (fun hHeld => ?_); refine with_tabW filigreeref04_Right.tab12 filigreeref04_Right.bits12 (fun HT_ HW_ => ?_)
              generalize w19.drew = w25 at BK310 HB hx316_0 hx316_1 hx316_2 hx317_0 hx317_1 hx317_2 hHeld ⊢
              refine pure_ (i := 0) (N := some 46) (v := ?_) (a' := ?_) #[true, false, false, false, false, false, false, false, false, false, false, false, false, false, false, false, false] rfl rfl (any_of HT_.out (by kernel_rfl)) (fun _ _ _ h => h) (Or.inl ⟨by rfl, ?_⟩) ?_ ?_
              rotate_left
              · intro w'
                go_simp
                with_reducible rfl
              rotate_left
              · simp only [Act.put, zSa, zSb, zSc, i64_w, i32_w]
                rfl
              refine pure_ (i := 1) (N := some 47) (v := ?_) (a' := ?_) #[true, true, false, false, false, false, false, false, false, false, false, false, false, false, false, false, false] rfl rfl (any_of HT_.out (by kernel_rfl)) (fun _ _ _ h => h) (Or.inl ⟨by rfl, ?_⟩) ?_ ?_
              rotate_left
              · intro w'
                go_simp
                with_reducible rfl
              rotate_left
              · simp only [Act.put, zSa, zSb, zSc, i64_w, i32_w]
                rfl
              refine pure_ (i := 2) (N := some 48) (v := ?_) (a' := ?_) #[true, true, true, false, false, false, false, false, false, false, false, false, false, false, false, false, false] rfl rfl (any_of HT_.out (by kernel_rfl)) (fun _ _ _ h => h) (Or.inl ⟨by rfl, ?_⟩) ?_ ?_
              rotate_left
              · intro w'
                go_simp
                with_reducible rfl
              rotate_left
              · simp only [Act.put, zSa, zSb, zSc, i64_w, i32_w]
                rfl
              refine pure_ (i := 3) (N := some 49) (v := ?_) (a' := ?_) #[true, true, true, true, false, false, false, false, false, false, false, false, false, false, false, false, false] rfl rfl (any_of HT_.out (by kernel_rfl)) (fun _ _ _ h => h) (Or.inl ⟨by rfl, ?_⟩) ?_ ?_
              rotate_left
              · intro w'
                go_simp
                with_reducible rfl
              rotate_left
              · simp only [Act.put, zSa, zSb, zSc, i64_w, i32_w]
                rfl
              refine pure_ (i := 5) (N := some 51) (v := ?_) (a' := ?_) #[true, true, true, true, false, true, false, false, false, false, false, false, false, false, false, false, false] rfl rfl (any_of HT_.out (by kernel_rfl)) (fun _ _ _ h => h) (Or.inl ⟨by rfl, ?_⟩) ?_ ?_
              rotate_left
              · intro w'
                go_simp
                with_reducible rfl
              rotate_left
              · simp only [Act.put, zSa, zSb, zSc, i64_w, i32_w]
                rfl
              refine pure_ (i := 6) (N := some 52) (v := ?_) (a' := ?_) #[true, true, true, true, false, true, true, false, false, false, false, false, false, false, false, false, false] rfl rfl (any_of HT_.out (by kernel_rfl)) (fun _ _ _ h => h) (Or.inl ⟨by rfl, ?_⟩) ?_ ?_
              rotate_left
              · intro w'
                go_simp
                with_reducible rfl
              rotate_left
              · simp only [Act.put, zSa, zSb, zSc, i64_w, i32_w]
                rfl
              refine pure_ (i := 9) (N := some 55) (v := ?_) (a' := ?_) #[true, true, true, true, false, true, true, false, false, true, false, false, false, false, false, false, false] rfl rfl (any_of HT_.out (by kernel_rfl)) (fun _ _ _ h => h) (Or.inl ⟨by rfl, ?_⟩) ?_ ?_
              rotate_left
              · intro w'
                go_simp
                with_reducible rfl
              rotate_left
              · simp only [Act.put, zSa, zSb, zSc, i64_w, i32_w]
                rfl
              refine pure_ (i := 11) (N := some 57) (v := ?_) (a' := ?_) #[true, true, true, true, false, true, true, false, false, true, false, true, false, false, false, false, false] rfl rfl (any_of HT_.out (by kernel_rfl)) (fun _ _ _ h => h) (Or.inl ⟨by rfl, ?_⟩) ?_ ?_
              rotate_left
              · intro w'
                go_simp
                with_reducible rfl
              rotate_left
              · simp only [Act.put, zSa, zSb, zSc, i64_w, i32_w]
                rfl
              refine take_ (i := 4) (N := some 50) (v := ?_) (a' := ?_) #[true, true, true, true, true, true, true, false, false, true, false, true, false, false, false, false, false] rfl rfl (take_ofW HT_.out HW_.out (by kernel_rfl)) (fun _ _ _ h => h) (Or.inl ⟨by rfl, ?_⟩) hHeld ?_ ?_
              rotate_left
              · rintro w' ⟨s0, s1, s2, s3, s4, s5, s6, s7⟩
                go_simp
                with_reducible rfl
              rotate_left
              · simp only [Act.put, zSa, zSb, zSc, i64_w, i32_w]
                rfl
              refine pure_ (i := 7) (N := some 53) (v := ?_) (a' := ?_) #[true, true, true, true, true, true, true, true, false, true, false, true, false, false, false, false, false] rfl rfl (any_of HT_.out (by kernel_rfl)) (fun _ _ _ h => h) (Or.inl ⟨by rfl, ?_⟩) ?_ ?_
              rotate_left
              · intro w'
                go_simp
                with_reducible rfl
              rotate_left
              · simp only [Act.put, zSa, zSb, zSc, i64_w, i32_w]
                rfl
              refine take_ (i := 8) (N := some 54) (v := ?_) (a' := ?_) #[true, true, true, true, true, true, true, true, true, true, false, true, false, false, false, false, false] rfl rfl (take_ofW HT_.out HW_.out (by kernel_rfl)) (fun _ _ _ h => h) (Or.inl ⟨by rfl, ?_⟩) hHeld ?_ ?_
              rotate_left
              · rintro w' ⟨s0, s1, s2, s3, s4, s5, s6, s7⟩
                go_simp
                with_reducible rfl
              rotate_left
              · simp only [Act.put, zSa, zSb, zSc, i64_w, i32_w]
                rfl
              refine take_ (i := 10) (N := some 56) (v := ?_) (a' := ?_) #[true, true, true, true, true, true, true, true, true, true, true, true, false, false, false, false, false] rfl rfl (take_ofW HT_.out HW_.out (by kernel_rfl)) (fun _ _ _ h => h) (Or.inl ⟨by rfl, ?_⟩) hHeld ?_ ?_
              rotate_left
              · rintro w' ⟨s0, s1, s2, s3, s4, s5, s6, s7⟩
                go_simp
                with_reducible rfl
              rotate_left
              · simp only [Act.put, zSa, zSb, zSc, i64_w, i32_w]
                rfl
              refine pure_ (i := 12) (N := some 58) (v := ?_) (a' := ?_) #[true, true, true, true, true, true, true, true, true, true, true, true, true, false, false, false, false] rfl rfl (any_of HT_.out (by kernel_rfl)) (fun _ _ _ h => h) (Or.inl ⟨by rfl, ?_⟩) ?_ ?_
              rotate_left
              · intro w'
                go_simp
                with_reducible rfl
              rotate_left
              · simp only [Act.put, zSa, zSb, zSc, i64_w, i32_w]
                rfl
              refine take_ (i := 13) (N := some 59) (v := ?_) (a' := ?_) #[true, true, true, true, true, true, true, true, true, true, true, true, true, true, false, false, false] rfl rfl (take_ofW HT_.out HW_.out (by kernel_rfl)) (fun _ _ _ h => h) (Or.inl ⟨by rfl, ?_⟩) hHeld ?_ ?_
              rotate_left
              · rintro w' ⟨s0, s1, s2, s3, s4, s5, s6, s7⟩
                go_simp
                with_reducible rfl
              rotate_left
              · simp only [Act.put, zSa, zSb, zSc, i64_w, i32_w]
                rfl
              refine one_ (i := 14) (N := some 60) #[true, true, true, true, true, true, true, true, true, true, true, true, true, true, true, false, false] rfl rfl (one_of HT_.out (by kernel_rfl)) (by decide) (fun K hK => ?_)
              refine goes_ Try.func26 (by kernel_rfl) rfl #[.agg #[.int .i64 ((rd_T43 l0_1 (ji21)).f0), .int .i64 ((rd_T43 l0_1 (ji21)).f1), .int .i64 ((rd_T43 l0_1 (ji21)).f2)], .agg #[.int .i64 ((rd_T43 l0_1 x4_1).f0), .int .i64 ((rd_T43 l0_1 x4_1).f1), .int .i64 ((rd_T43 l0_1 x4_1).f2)]] (by rfl) rfl rfl (by (try simp only [zMa, zMc, zMn]); first | done | (simp only [hji21]; rfl) | rfl | (simp only [zLd, zLt]; rfl)) ?_
              with_reducible refine (filigreeref04_below.calls ((rd_T43 l0_1 (ji21)).f0) ((rd_T43 l0_1 (ji21)).f1) ((rd_T43 l0_1 (ji21)).f2) ((rd_T43 l0_1 x4_1).f0) ((rd_T43 l0_1 x4_1).f1) ((rd_T43 l0_1 x4_1).f2) t318 _ A24.out).mono ?_
              rintro e w26 ⟨rfl, hb⟩
              refine ⟨_, rfl, ?_⟩
              replace BK310 := zMk (zKb (g := gb310) (o := .cells #[.int .i64 a0_0, .slice (some ad312) l0_1.length c0_1] 24 (0, 0)) (by (with_reducible repeat (first | refine zKn ?_ _ | refine zKd ?_ | refine zKa ?_ _)); exact BK310.out) hb)
              replace HB := zMk (zBt (by exact uT HB.out) hb)
              refine hK.out _ _ ⟨(zKc BK310.out 0).trans rfl, (zKc BK310.out 1).trans rfl, ((HB.out.cell (World.block_lt_of_cell? w _ hw316_0)).trans hw316_0), ((HB.out.cell (World.block_lt_of_cell? w _ hw316_1)).trans hw316_1), ((HB.out.cell (World.block_lt_of_cell? w _ hw316_2)).trans hw316_2), ((HB.out.cell (World.block_lt_of_cell? w _ hw317_0)).trans hw317_0), ((HB.out.cell (World.block_lt_of_cell? w _ hw317_1)).trans hw317_1), ((HB.out.cell (World.block_lt_of_cell? w _ hw317_2)).trans hw317_2)⟩ (fun hHeld => ?_)
              clear hK K
              refine norm_ (a' := ?_) ?_ ?_
              rotate_left
              · show Act.put _ (some 60) _ = _
                simp only [Act.put, zSa, zSb, zSc, i64_w, i32_w]
                rfl
              refine pure_ (i := 15) (N := some 61) (v := ?_) (a' := ?_) #[true, true, true, true, true, true, true, true, true, true, true, true, true, true, true, true, false] rfl rfl (any_of HT_.out (by kernel_rfl)) (fun _ _ _ h => h) (Or.inl ⟨by rfl, ?_⟩) ?_ ?_
              rotate_left
              · intro w'
                go_simp
                with_reducible rfl
              rotate_left
              · simp only [Act.put, zSa, zSb, zSc, i64_w, i32_w]
                rfl
              refine pure_ (i := 16) (N := some 62) (v := ?_) (a' := ?_) #[true, true, true, true, true, true, true, true, true, true, true, true, true, true, true, true, true] rfl rfl (any_of HT_.out (by kernel_rfl)) (fun _ _ _ h => h) (Or.inl ⟨by rfl, ?_⟩) ?_ ?_
              rotate_left
              · intro w'
                go_simp
                with_reducible rfl
              rotate_left
              · simp only [Act.put, zSa, zSb, zSc, i64_w, i32_w]
                rfl
              refine done_ (done_of HT_.out (by kernel_rfl)) ?_
              try go_wp2
              go_meet
              case rel => exact ⟨_, (!t318), (by first | rfl | (simp; done) | (simp [*]; done)), H', ⟨by have := HK1.out; first | omega | exact Nat.le_refl _⟩, ⟨by (with_reducible repeat (first | refine zKn ?_ _ | refine zKd ?_ | refine zKa ?_ _)); exact BK310.out⟩, ⟨by exact uT HB.out⟩⟩
            · rw [if_neg c20] at H
              have c20b0 : decide (0 < x4_1) = false := decide_eq_false c20
              clear c20
              (first | rw [c20b0] | (simp only [i64_w, i32_w]; rw [c20b0]) | rw [c20b1] | skip)
              have H' := zMk H
              clear H
              try go_wp2
              replace BK310 := zMk (zKd BK310.out)
              replace HB := zMk (zBd HB.out)
              refine start_ (n := 17) (S := fun w' => True) (ds := []) #[false, false, false, false, false, false, false, false, false, false, false, false, false, false, false, false, false] (by kernel_rfl) rfl rfl trivial (fun hHeld => ?_); refine with_tabW filigreeref04_Right.tab12 filigreeref04_Right.bits12 (fun HT_ HW_ => ?_)
              generalize w19.drew = w27 at BK310 HB hHeld ⊢
              refine pure_ (i := 0) (N := some 46) (v := ?_) (a' := ?_) #[true, false, false, false, false, false, false, false, false, false, false, false, false, false, false, false, false] rfl rfl (any_of HT_.out (by kernel_rfl)) (fun _ _ _ h => h) (Or.inl ⟨by rfl, ?_⟩) ?_ ?_
              rotate_left
              · intro w'
                go_simp
                with_reducible rfl
              rotate_left
              · simp only [Act.put, zSa, zSb, zSc, i64_w, i32_w]
                rfl
              refine pure_ (i := 1) (N := some 47) (v := ?_) (a' := ?_) #[true, true, false, false, false, false, false, false, false, false, false, false, false, false, false, false, false] rfl rfl (any_of HT_.out (by kernel_rfl)) (fun _ _ _ h => h) (Or.inl ⟨by rfl, ?_⟩) ?_ ?_
              rotate_left
              · intro w'
                go_simp
                with_reducible rfl
              rotate_left
              · simp only [Act.put, zSa, zSb, zSc, i64_w, i32_w]
                rfl
              refine pure_ (i := 2) (N := some 48) (v := ?_) (a' := ?_) #[true, true, true, false, false, false, false, false, false, false, false, false, false, false, false, false, false] rfl rfl (any_of HT_.out (by kernel_rfl)) (fun _ _ _ h => h) (Or.inl ⟨by rfl, ?_⟩) ?_ ?_
              rotate_left
              · intro w'
                go_simp
                with_reducible rfl
              rotate_left
              · simp only [Act.put, zSa, zSb, zSc, i64_w, i32_w]
                rfl
              refine pure_ (i := 3) (N := some 49) (v := undef) (a' := ?_) #[true, true, true, true, false, false, false, false, false, false, false, false, false, false, false, false, false] rfl rfl (any_of HT_.out (by kernel_rfl)) (fun _ _ _ h => h) (Or.inr ⟨by rfl, rfl⟩) ?_ ?_
              rotate_left
              · simp only [Act.put, zSa, zSb, zSc, i64_w, i32_w]
                rfl
              refine pure_ (i := 4) (N := some 50) (v := undef) (a' := ?_) #[true, true, true, true, true, false, false, false, false, false, false, false, false, false, false, false, false] rfl rfl (any_of HT_.out (by kernel_rfl)) (fun _ _ _ h => h) (Or.inr ⟨by rfl, rfl⟩) ?_ ?_
              rotate_left
              · simp only [Act.put, zSa, zSb, zSc, i64_w, i32_w]
                rfl
              refine pure_ (i := 5) (N := some 51) (v := undef) (a' := ?_) #[true, true, true, true, true, true, false, false, false, false, false, false, false, false, false, false, false] rfl rfl (any_of HT_.out (by kernel_rfl)) (fun _ _ _ h => h) (Or.inr ⟨by rfl, rfl⟩) ?_ ?_
              rotate_left
              · simp only [Act.put, zSa, zSb, zSc, i64_w, i32_w]
                rfl
              refine pure_ (i := 6) (N := some 52) (v := undef) (a' := ?_) #[true, true, true, true, true, true, true, false, false, false, false, false, false, false, false, false, false] rfl rfl (any_of HT_.out (by kernel_rfl)) (fun _ _ _ h => h) (Or.inr ⟨by rfl, rfl⟩) ?_ ?_
              rotate_left
              · simp only [Act.put, zSa, zSb, zSc, i64_w, i32_w]
                rfl
              refine pure_ (i := 7) (N := some 53) (v := undef) (a' := ?_) #[true, true, true, true, true, true, true, true, false, false, false, false, false, false, false, false, false] rfl rfl (any_of HT_.out (by kernel_rfl)) (fun _ _ _ h => h) (Or.inr ⟨by rfl, rfl⟩) ?_ ?_
              rotate_left
              · simp only [Act.put, zSa, zSb, zSc, i64_w, i32_w]
                rfl
              refine pure_ (i := 8) (N := some 54) (v := undef) (a' := ?_) #[true, true, true, true, true, true, true, true, true, false, false, false, false, false, false, false, false] rfl rfl (any_of HT_.out (by kernel_rfl)) (fun _ _ _ h => h) (Or.inr ⟨by rfl, rfl⟩) ?_ ?_
              rotate_left
              · simp only [Act.put, zSa, zSb, zSc, i64_w, i32_w]
                rfl
              refine pure_ (i := 9) (N := some 55) (v := undef) (a' := ?_) #[true, true, true, true, true, true, true, true, true, true, false, false, false, false, false, false, false] rfl rfl (any_of HT_.out (by kernel_rfl)) (fun _ _ _ h => h) (Or.inr ⟨by rfl, rfl⟩) ?_ ?_
              rotate_left
              · simp only [Act.put, zSa, zSb, zSc, i64_w, i32_w]
                rfl
              refine pure_ (i := 10) (N := some 56) (v := undef) (a' := ?_) #[true, true, true, true, true, true, true, true, true, true, true, false, false, false, false, false, false] rfl rfl (any_of HT_.out (by kernel_rfl)) (fun _ _ _ h => h) (Or.inr ⟨by rfl, rfl⟩) ?_ ?_
              rotate_left
              · simp only [Act.put, zSa, zSb, zSc, i64_w, i32_w]
                rfl
              refine pure_ (i := 11) (N := some 57) (v := undef) (a' := ?_) #[true, true, true, true, true, true, true, true, true, true, true, true, false, false, false, false, false] rfl rfl (any_of HT_.out (by kernel_rfl)) (fun _ _ _ h => h) (Or.inr ⟨by rfl, rfl⟩) ?_ ?_
              rotate_left
              · simp only [Act.put, zSa, zSb, zSc, i64_w, i32_w]
                rfl
              refine pure_ (i := 12) (N := some 58) (v := undef) (a' := ?_) #[true, true, true, true, true, true, true, true, true, true, true, true, true, false, false, false, false] rfl rfl (any_of HT_.out (by kernel_rfl)) (fun _ _ _ h => h) (Or.inr ⟨by rfl, rfl⟩) ?_ ?_
              rotate_left
              · simp only [Act.put, zSa, zSb, zSc, i64_w, i32_w]
                rfl
              refine pure_ (i := 13) (N := some 59) (v := undef) (a' := ?_) #[true, true, true, true, true, true, true, true, true, true, true, true, true, true, false, false, false] rfl rfl (any_of HT_.out (by kernel_rfl)) (fun _ _ _ h => h) (Or.inr ⟨by rfl, rfl⟩) ?_ ?_
              rotate_left
              · simp only [Act.put, zSa, zSb, zSc, i64_w, i32_w]
                rfl
              refine pure_ (i := 14) (N := some 60) (v := undef) (a' := ?_) #[true, true, true, true, true, true, true, true, true, true, true, true, true, true, true, false, false] rfl rfl (any_of HT_.out (by kernel_rfl)) (fun _ _ _ h => h) (Or.inr ⟨by rfl, rfl⟩) ?_ ?_
              rotate_left
              · simp only [Act.put, zSa, zSb, zSc, i64_w, i32_w]
                rfl
              refine pure_ (i := 15) (N := some 61) (v := undef) (a' := ?_) #[true, true, true, true, true, true, true, true, true, true, true, true, true, true, true, true, false] rfl rfl (any_of HT_.out (by kernel_rfl)) (fun _ _ _ h => h) (Or.inr ⟨by rfl, rfl⟩) ?_ ?_
              rotate_left
              · simp only [Act.put, zSa, zSb, zSc, i64_w, i32_w]
                rfl
              refine pure_ (i := 16) (N := some 62) (v := ?_) (a' := ?_) #[true, true, true, true, true, true, true, true, true, true, true, true, true, true, true, true, true] rfl rfl (any_of HT_.out (by kernel_rfl)) (fun _ _ _ h => h) (Or.inl ⟨by rfl, ?_⟩) ?_ ?_
              rotate_left
              · intro w'
                go_simp
                with_reducible rfl
              rotate_left
              · simp only [Act.put, zSa, zSb, zSc, i64_w, i32_w]
                rfl
              refine done_ (done_of HT_.out (by kernel_rfl)) ?_
              try go_wp2
              go_meet
              case rel => exact ⟨_, (false), (by first | rfl | (simp; done) | (simp [*]; done)), H', ⟨by have := HK1.out; first | omega | exact Nat.le_refl _⟩, ⟨by (with_reducible repeat (first | refine zKn ?_ _ | refine zKd ?_ | refine zKa ?_ _)); exact BK310.out⟩, ⟨by exact uT HB.out⟩⟩
          case rest =>
            clear HC15
            obtain ⟨kq, x62_14, rfl, HA, HJ14, BK310, HB⟩ := hcut
            rcases kq with _ | kj14
            · exact absurd HA.out (by simp [filigreeref04_Right.j1])
            have H := HA.out
            clear HA
            simp only [filigreeref04_Right.j1] at H
            by_cases c28 : x62_14 = true
            · subst c28
              replace H : (if 0 ≤ x4_1 then (if x4_1 < (l0_1.length : Int) then (if 0 ≤ (wrap64 (x4_1 - 1)) then (if (wrap64 (x4_1 - 1)) < (l0_1.length : Int) then ((filigreeref04_below.f ((rd_T43 l0_1 x4_1).f0) ((rd_T43 l0_1 x4_1).f1) ((rd_T43 l0_1 x4_1).f2) ((rd_T43 l0_1 (wrap64 (x4_1 - 1))).f0) ((rd_T43 l0_1 (wrap64 (x4_1 - 1))).f1) ((rd_T43 l0_1 (wrap64 (x4_1 - 1))).f2)).bind fun t321 => (if t321 = true then (some 1) else (some 7))) else (none)) else (none)) else (none)) else (none)) = some r := by rw [if_pos rfl] at H; exact H
              by_cases c29 : 0 ≤ x4_1
              rotate_left
              · rw [if_neg c29] at H; exact absurd H (by simp)
              rw [if_pos c29] at H
              have c29b0 : decide (0 ≤ x4_1) = true := decide_eq_true c29
              clear c29
              by_cases c30 : x4_1 < (l0_1.length : Int)
              rotate_left
              · rw [if_neg c30] at H; exact absurd H (by simp)
              rw [if_pos c30] at H
              have c30b0 : decide (x4_1 < (l0_1.length : Int)) = true := decide_eq_true c30
              clear c30
              obtain ⟨ji31, hji31⟩ : ∃ j_ : Int, (wrap64 (x4_1 - 1)) = j_ := ⟨_, rfl⟩
              replace H : (if 0 ≤ (ji31) then (if (ji31) < (l0_1.length : Int) then ((filigreeref04_below.f ((rd_T43 l0_1 x4_1).f0) ((rd_T43 l0_1 x4_1).f1) ((rd_T43 l0_1 x4_1).f2) ((rd_T43 l0_1 (ji31)).f0) ((rd_T43 l0_1 (ji31)).f1) ((rd_T43 l0_1 (ji31)).f2)).bind fun t321 => (if t321 = true then (some 1) else (some 7))) else (none)) else (none)) = some r := by first | (rw [hji31] at H; exact H) | (simp only [hji31] at H ⊢; exact H)
              have hji31w : (IntKind.i64.wrap (x4_1 - 1)) = ji31 := (i64_w _).trans hji31
              by_cases c32 : 0 ≤ (ji31)
              rotate_left
              · rw [if_neg c32] at H; exact absurd H (by simp)
              rw [if_pos c32] at H
              have c32b0 : decide (0 ≤ (ji31)) = true := decide_eq_true c32
              clear c32
              by_cases c33 : (ji31) < (l0_1.length : Int)
              rotate_left
              · rw [if_neg c33] at H; exact absurd H (by simp)
              rw [if_pos c33] at H
              have c33b0 : decide ((ji31) < (l0_1.length : Int)) = true := decide_eq_true c33
              clear c33
              replace H := bnd H
              obtain ⟨t321, A340, H⟩ := H
              have A34 := zMk A340
              clear A340
              by_cases c35 : t321 = true
              · subst c35
                replace H : (some 1) = some r := by rw [if_pos rfl] at H; exact H
                obtain rfl := zOi H
                try go_wp2
                replace BK310 := zMk (zKd BK310.out)
                replace HB := zMk (zBd HB.out)
                have p319 : 0 ≤ (x4_1 : Int) := of_decide_eq_true (by assumption)
                have q319 : x4_1 < (l0_1.length : Int) := of_decide_eq_true (by assumption)
                obtain ⟨ad319, e319, hx319_0, hx319_1, hx319_2⟩ := at_T43 HR0_1.out x4_1 p319 q319
                have hw319_2 := hx319_2
                have hw319_1 := hx319_1
                have hw319_0 := hx319_0
                obtain rfl : ad312 = ad319 := (by injection e319)
                replace hx319_0 := (HB.out.cell (World.block_lt_of_cell? w _ hx319_0)).trans hx319_0
                replace hx319_1 := (HB.out.cell (World.block_lt_of_cell? w _ hx319_1)).trans hx319_1
                replace hx319_2 := (HB.out.cell (World.block_lt_of_cell? w _ hx319_2)).trans hx319_2
                replace p319 := eq_true p319
                replace q319 := eq_true q319
                have p320 : 0 ≤ ((ji31) : Int) := of_decide_eq_true (by assumption)
                have q320 : (ji31) < (l0_1.length : Int) := of_decide_eq_true (by assumption)
                obtain ⟨ad320, e320, hx320_0, hx320_1, hx320_2⟩ := at_T43 HR0_1.out (ji31) p320 q320
                have hw320_2 := hx320_2
                have hw320_1 := hx320_1
                have hw320_0 := hx320_0
                obtain rfl : ad312 = ad320 := (by injection e320)
                replace hx320_0 := (HB.out.cell (World.block_lt_of_cell? w _ hx320_0)).trans hx320_0
                replace hx320_1 := (HB.out.cell (World.block_lt_of_cell? w _ hx320_1)).trans hx320_1
                replace hx320_2 := (HB.out.cell (World.block_lt_of_cell? w _ hx320_2)).trans hx320_2
                replace p320 := eq_true p320
                replace q320 := eq_true q320
                refine start_ (n := 12) (S := fun w' => w'.cell? ⟨gb310, 0, none⟩ = some (.int .i64 a0_0) ∧ w'.cell? ⟨gb310, 1, none⟩ = some (.slice (some ad312) l0_1.length c0_1) ∧ w'.cell? (ad312.add ((x4_1).toNat * 3)) = some (.int .i64 ((rd_T43 l0_1 x4_1).f0)) ∧ w'.cell? ⟨(ad312.add ((x4_1).toNat * 3)).block, (ad312.add ((x4_1).toNat * 3)).off + 1, none⟩ = some (.int .i64 ((rd_T43 l0_1 x4_1).f1)) ∧ w'.cell? ⟨(ad312.add ((x4_1).toNat * 3)).block, (ad312.add ((x4_1).toNat * 3)).off + 2, none⟩ = some (.int .i64 ((rd_T43 l0_1 x4_1).f2)) ∧ w'.cell? (ad312.add (((ji31)).toNat * 3)) = some (.int .i64 ((rd_T43 l0_1 (ji31)).f0)) ∧ w'.cell? ⟨(ad312.add (((ji31)).toNat * 3)).block, (ad312.add (((ji31)).toNat * 3)).off + 1, none⟩ = some (.int .i64 ((rd_T43 l0_1 (ji31)).f1)) ∧ w'.cell? ⟨(ad312.add (((ji31)).toNat * 3)).block, (ad312.add (((ji31)).toNat * 3)).off + 2, none⟩ = some (.int .i64 ((rd_T43 l0_1 (ji31)).f2))) (ds := []) #[false, false, false, false, false, false, false, false, false, false, false, false] (by kernel_rfl) rfl rfl ⟨(zKc BK310.out 0).trans rfl, (zKc BK310.out 1).trans rfl, ((HB.out.cell (World.block_lt_of_cell? w _ hw319_0)).trans hw319_0), ((HB.out.cell (World.block_lt_of_cell? w _ hw319_1)).trans hw319_1), ((HB.out.cell (World.block_lt_of_cell? w _ hw319_2)).trans hw319_2), ((HB.out.cell (World.block_lt_of_cell? w _ hw320_0)).trans hw320_0), ((HB.out.cell (World.block_lt_of_cell? w _ hw320_1)).trans hw320_1), ((HB.out.cell (World.block_lt_of_cell? w _ hw320_2)).trans hw320_2)⟩ (fun hHeld => ?_); refine with_tabW filigreeref04_Right.tab13 filigreeref04_Right.bits13 (fun HT_ HW_ => ?_)
                generalize wc.drew = w36 at BK310 HB hx319_0 hx319_1 hx319_2 hx320_0 hx320_1 hx320_2 hHeld ⊢
                refine pure_ (i := 0) (N := some 63) (v := ?_) (a' := ?_) #[true, false, false, false, false, false, false, false, false, false, false, false] rfl rfl (any_of HT_.out (by kernel_rfl)) (fun _ _ _ h => h) (Or.inl ⟨by rfl, ?_⟩) ?_ ?_
                rotate_left
                · intro w'
                  go_simp
                  with_reducible rfl
                rotate_left
                · simp only [Act.put, zSa, zSb, zSc, i64_w, i32_w]
                  rfl
                refine pure_ (i := 2) (N := some 65) (v := ?_) (a' := ?_) #[true, false, true, false, false, false, false, false, false, false, false, false] rfl rfl (any_of HT_.out (by kernel_rfl)) (fun _ _ _ h => h) (Or.inl ⟨by rfl, ?_⟩) ?_ ?_
                rotate_left
                · intro w'
                  go_simp
                  with_reducible rfl
                rotate_left
                · simp only [Act.put, zSa, zSb, zSc, i64_w, i32_w]
                  rfl
                refine pure_ (i := 5) (N := some 68) (v := ?_) (a' := ?_) #[true, false, true, false, false, true, false, false, false, false, false, false] rfl rfl (any_of HT_.out (by kernel_rfl)) (fun _ _ _ h => h) (Or.inl ⟨by rfl, ?_⟩) ?_ ?_
                rotate_left
                · intro w'
                  go_simp
                  with_reducible rfl
                rotate_left
                · simp only [Act.put, zSa, zSb, zSc, i64_w, i32_w]
                  rfl
                refine pure_ (i := 7) (N := some 70) (v := ?_) (a' := ?_) #[true, false, true, false, false, true, false, true, false, false, false, false] rfl rfl (any_of HT_.out (by kernel_rfl)) (fun _ _ _ h => h) (Or.inl ⟨by rfl, ?_⟩) ?_ ?_
                rotate_left
                · intro w'
                  go_simp
                  with_reducible rfl
                rotate_left
                · simp only [Act.put, zSa, zSb, zSc, i64_w, i32_w]
                  rfl
                refine pure_ (i := 8) (N := some 71) (v := ?_) (a' := ?_) #[true, false, true, false, false, true, false, true, true, false, false, false] rfl rfl (any_of HT_.out (by kernel_rfl)) (fun _ _ _ h => h) (Or.inl ⟨by rfl, ?_⟩) ?_ ?_
                rotate_left
                · intro w'
                  go_simp
                  with_reducible rfl
                rotate_left
                · simp only [Act.put, zSa, zSb, zSc, i64_w, i32_w]
                  rfl
                refine take_ (i := 1) (N := some 64) (v := ?_) (a' := ?_) #[true, true, true, false, false, true, false, true, true, false, false, false] rfl rfl (take_ofW HT_.out HW_.out (by kernel_rfl)) (fun _ _ _ h => h) (Or.inl ⟨by rfl, ?_⟩) hHeld ?_ ?_
                rotate_left
                · rintro w' ⟨s0, s1, s2, s3, s4, s5, s6, s7⟩
                  go_simp
                  with_reducible rfl
                rotate_left
                · simp only [Act.put, zSa, zSb, zSc, i64_w, i32_w]
                  rfl
                refine pure_ (i := 3) (N := some 66) (v := ?_) (a' := ?_) #[true, true, true, true, false, true, false, true, true, false, false, false] rfl rfl (any_of HT_.out (by kernel_rfl)) (fun _ _ _ h => h) (Or.inl ⟨by rfl, ?_⟩) ?_ ?_
                rotate_left
                · intro w'
                  go_simp
                  with_reducible rfl
                rotate_left
                · simp only [Act.put, zSa, zSb, zSc, i64_w, i32_w]
                  rfl
                refine take_ (i := 4) (N := some 67) (v := ?_) (a' := ?_) #[true, true, true, true, true, true, false, true, true, false, false, false] rfl rfl (take_ofW HT_.out HW_.out (by kernel_rfl)) (fun _ _ _ h => h) (Or.inl ⟨by rfl, ?_⟩) hHeld ?_ ?_
                rotate_left
                · rintro w' ⟨s0, s1, s2, s3, s4, s5, s6, s7⟩
                  go_simp
                  with_reducible rfl
                rotate_left
                · simp only [Act.put, zSa, zSb, zSc, i64_w, i32_w]
                  rfl
                refine take_ (i := 6) (N := some 69) (v := ?_) (a' := ?_) #[true, true, true, true, true, true, true, true, true, false, false, false] rfl rfl (take_ofW HT_.out HW_.out (by kernel_rfl)) (fun _ _ _ h => h) (Or.inl ⟨by rfl, ?_⟩) hHeld ?_ ?_
                rotate_left
                · rintro w' ⟨s0, s1, s2, s3, s4, s5, s6, s7⟩
                  go_simp
                  with_reducible rfl
                rotate_left
                · simp only [Act.put, zSa, zSb, zSc, i64_w, i32_w]
                  rfl
                refine pure_ (i := 9) (N := some 72) (v := ?_) (a' := ?_) #[true, true, true, true, true, true, true, true, true, true, false, false] rfl rfl (any_of HT_.out (by kernel_rfl)) (fun _ _ _ h => h) (Or.inl ⟨by rfl, ?_⟩) ?_ ?_
                rotate_left
                · intro w'
                  go_simp
                  with_reducible rfl
                rotate_left
                · simp only [Act.put, zSa, zSb, zSc, i64_w, i32_w]
                  rfl
                refine take_ (i := 10) (N := some 73) (v := ?_) (a' := ?_) #[true, true, true, true, true, true, true, true, true, true, true, false] rfl rfl (take_ofW HT_.out HW_.out (by kernel_rfl)) (fun _ _ _ h => h) (Or.inl ⟨by rfl, ?_⟩) hHeld ?_ ?_
                rotate_left
                · rintro w' ⟨s0, s1, s2, s3, s4, s5, s6, s7⟩
                  go_simp
                  with_reducible rfl
                rotate_left
                · simp only [Act.put, zSa, zSb, zSc, i64_w, i32_w]
                  rfl
                refine one_ (i := 11) (N := some 74) #[true, true, true, true, true, true, true, true, true, true, true, true] rfl rfl (one_of HT_.out (by kernel_rfl)) (by decide) (fun K hK => ?_)
                refine goes_ Try.func26 (by kernel_rfl) rfl #[.agg #[.int .i64 ((rd_T43 l0_1 x4_1).f0), .int .i64 ((rd_T43 l0_1 x4_1).f1), .int .i64 ((rd_T43 l0_1 x4_1).f2)], .agg #[.int .i64 ((rd_T43 l0_1 (ji31)).f0), .int .i64 ((rd_T43 l0_1 (ji31)).f1), .int .i64 ((rd_T43 l0_1 (ji31)).f2)]] (by rfl) rfl rfl (by (try simp only [zMa, zMc, zMn]); first | done | (simp only [hji31]; rfl) | rfl | (simp only [zLd, zLt]; rfl)) ?_
                with_reducible refine (filigreeref04_below.calls ((rd_T43 l0_1 x4_1).f0) ((rd_T43 l0_1 x4_1).f1) ((rd_T43 l0_1 x4_1).f2) ((rd_T43 l0_1 (ji31)).f0) ((rd_T43 l0_1 (ji31)).f1) ((rd_T43 l0_1 (ji31)).f2) true _ A34.out).mono ?_
                rintro e w37 ⟨rfl, hb⟩
                refine ⟨_, rfl, ?_⟩
                replace BK310 := zMk (zKb (g := gb310) (o := .cells #[.int .i64 a0_0, .slice (some ad312) l0_1.length c0_1] 24 (0, 0)) (by (with_reducible repeat (first | refine zKn ?_ _ | refine zKd ?_ | refine zKa ?_ _)); exact BK310.out) hb)
                replace HB := zMk (zBt (by exact uT HB.out) hb)
                refine hK.out _ _ ⟨(zKc BK310.out 0).trans rfl, (zKc BK310.out 1).trans rfl, ((HB.out.cell (World.block_lt_of_cell? w _ hw319_0)).trans hw319_0), ((HB.out.cell (World.block_lt_of_cell? w _ hw319_1)).trans hw319_1), ((HB.out.cell (World.block_lt_of_cell? w _ hw319_2)).trans hw319_2), ((HB.out.cell (World.block_lt_of_cell? w _ hw320_0)).trans hw320_0), ((HB.out.cell (World.block_lt_of_cell? w _ hw320_1)).trans hw320_1), ((HB.out.cell (World.block_lt_of_cell? w _ hw320_2)).trans hw320_2)⟩ (fun hHeld => ?_)
                clear hK K
                refine norm_ (a' := ?_) ?_ ?_
                rotate_left
                · show Act.put _ (some 74) _ = _
                  simp only [Act.put, zSa, zSb, zSc, i64_w, i32_w]
                  rfl
                refine done_ (done_of HT_.out (by kernel_rfl)) ?_
                try go_wp2
                go_ret
                exact ⟨by first | rfl | (simp [errW_none, errW_some] <;> rfl) | (simp only [← hji31]; first | rfl | (simp [errW_none, errW_some] <;> rfl)) | (simp [*, errW_none, errW_some] <;> rfl), by exact uT HB.out⟩
              · replace c35 := Bool.eq_false_iff.mpr c35
                subst c35
                replace H : (some 7) = some r := by rw [if_neg (show ¬ (false = true) by decide)] at H; exact H
                obtain rfl := zOi H
                try go_wp2
                replace BK310 := zMk (zKd BK310.out)
                replace HB := zMk (zBd HB.out)
                have p319 : 0 ≤ (x4_1 : Int) := of_decide_eq_true (by assumption)
                have q319 : x4_1 < (l0_1.length : Int) := of_decide_eq_true (by assumption)
                obtain ⟨ad319, e319, hx319_0, hx319_1, hx319_2⟩ := at_T43 HR0_1.out x4_1 p319 q319
                have hw319_2 := hx319_2
                have hw319_1 := hx319_1
                have hw319_0 := hx319_0
                obtain rfl : ad312 = ad319 := (by injection e319)
                replace hx319_0 := (HB.out.cell (World.block_lt_of_cell? w _ hx319_0)).trans hx319_0
                replace hx319_1 := (HB.out.cell (World.block_lt_of_cell? w _ hx319_1)).trans hx319_1
                replace hx319_2 := (HB.out.cell (World.block_lt_of_cell? w _ hx319_2)).trans hx319_2
                replace p319 := eq_true p319
                replace q319 := eq_true q319
                have p320 : 0 ≤ ((ji31) : Int) := of_decide_eq_true (by assumption)
                have q320 : (ji31) < (l0_1.length : Int) := of_decide_eq_true (by assumption)
                obtain ⟨ad320, e320, hx320_0, hx320_1, hx320_2⟩ := at_T43 HR0_1.out (ji31) p320 q320
                have hw320_2 := hx320_2
                have hw320_1 := hx320_1
                have hw320_0 := hx320_0
                obtain rfl : ad312 = ad320 := (by injection e320)
                replace hx320_0 := (HB.out.cell (World.block_lt_of_cell? w _ hx320_0)).trans hx320_0
                replace hx320_1 := (HB.out.cell (World.block_lt_of_cell? w _ hx320_1)).trans hx320_1
                replace hx320_2 := (HB.out.cell (World.block_lt_of_cell? w _ hx320_2)).trans hx320_2
                replace p320 := eq_true p320
                replace q320 := eq_true q320
                refine start_ (n := 12) (S := fun w' => w'.cell? ⟨gb310, 0, none⟩ = some (.int .i64 a0_0) ∧ w'.cell? ⟨gb310, 1, none⟩ = some (.slice (some ad312) l0_1.length c0_1) ∧ w'.cell? (ad312.add ((x4_1).toNat * 3)) = some (.int .i64 ((rd_T43 l0_1 x4_1).f0)) ∧ w'.cell? ⟨(ad312.add ((x4_1).toNat * 3)).block, (ad312.add ((x4_1).toNat * 3)).off + 1, none⟩ = some (.int .i64 ((rd_T43 l0_1 x4_1).f1)) ∧ w'.cell? ⟨(ad312.add ((x4_1).toNat * 3)).block, (ad312.add ((x4_1).toNat * 3)).off + 2, none⟩ = some (.int .i64 ((rd_T43 l0_1 x4_1).f2)) ∧ w'.cell? (ad312.add (((ji31)).toNat * 3)) = some (.int .i64 ((rd_T43 l0_1 (ji31)).f0)) ∧ w'.cell? ⟨(ad312.add (((ji31)).toNat * 3)).block, (ad312.add (((ji31)).toNat * 3)).off + 1, none⟩ = some (.int .i64 ((rd_T43 l0_1 (ji31)).f1)) ∧ w'.cell? ⟨(ad312.add (((ji31)).toNat * 3)).block, (ad312.add (((ji31)).toNat * 3)).off + 2, none⟩ = some (.int .i64 ((rd_T43 l0_1 (ji31)).f2))) (ds := []) #[false, false, false, false, false, false, false, false, false, false, false, false] (by kernel_rfl) rfl rfl ⟨(zKc BK310.out 0).trans rfl, (zKc BK310.out 1).trans rfl, ((HB.out.cell (World.block_lt_of_cell? w _ hw319_0)).trans hw319_0), ((HB.out.cell (World.block_lt_of_cell? w _ hw319_1)).trans hw319_1), ((HB.out.cell (World.block_lt_of_cell? w _ hw319_2)).trans hw319_2), ((HB.out.cell (World.block_lt_of_cell? w _ hw320_0)).trans hw320_0), ((HB.out.cell (World.block_lt_of_cell? w _ hw320_1)).trans hw320_1), ((HB.out.cell (World.block_lt_of_cell? w _ hw320_2)).trans hw320_2)⟩ (fun hHeld => ?_); refine with_tabW filigreeref04_Right.tab13 filigreeref04_Right.bits13 (fun HT_ HW_ => ?_)
                generalize wc.drew = w38 at BK310 HB hx319_0 hx319_1 hx319_2 hx320_0 hx320_1 hx320_2 hHeld ⊢
                refine pure_ (i := 0) (N := some 63) (v := ?_) (a' := ?_) #[true, false, false, false, false, false, false, false, false, false, false, false] rfl rfl (any_of HT_.out (by kernel_rfl)) (fun _ _ _ h => h) (Or.inl ⟨by rfl, ?_⟩) ?_ ?_
                rotate_left
                · intro w'
                  go_simp
                  with_reducible rfl
                rotate_left
                · simp only [Act.put, zSa, zSb, zSc, i64_w, i32_w]
                  rfl
                refine pure_ (i := 2) (N := some 65) (v := ?_) (a' := ?_) #[true, false, true, false, false, false, false, false, false, false, false, false] rfl rfl (any_of HT_.out (by kernel_rfl)) (fun _ _ _ h => h) (Or.inl ⟨by rfl, ?_⟩) ?_ ?_
                rotate_left
                · intro w'
                  go_simp
                  with_reducible rfl
                rotate_left
                · simp only [Act.put, zSa, zSb, zSc, i64_w, i32_w]
                  rfl
                refine pure_ (i := 5) (N := some 68) (v := ?_) (a' := ?_) #[true, false, true, false, false, true, false, false, false, false, false, false] rfl rfl (any_of HT_.out (by kernel_rfl)) (fun _ _ _ h => h) (Or.inl ⟨by rfl, ?_⟩) ?_ ?_
                rotate_left
                · intro w'
                  go_simp
                  with_reducible rfl
                rotate_left
                · simp only [Act.put, zSa, zSb, zSc, i64_w, i32_w]
                  rfl
                refine pure_ (i := 7) (N := some 70) (v := ?_) (a' := ?_) #[true, false, true, false, false, true, false, true, false, false, false, false] rfl rfl (any_of HT_.out (by kernel_rfl)) (fun _ _ _ h => h) (Or.inl ⟨by rfl, ?_⟩) ?_ ?_
                rotate_left
                · intro w'
                  go_simp
                  with_reducible rfl
                rotate_left
                · simp only [Act.put, zSa, zSb, zSc, i64_w, i32_w]
                  rfl
                refine pure_ (i := 8) (N := some 71) (v := ?_) (a' := ?_) #[true, false, true, false, false, true, false, true, true, false, false, false] rfl rfl (any_of HT_.out (by kernel_rfl)) (fun _ _ _ h => h) (Or.inl ⟨by rfl, ?_⟩) ?_ ?_
                rotate_left
                · intro w'
                  go_simp
                  with_reducible rfl
                rotate_left
                · simp only [Act.put, zSa, zSb, zSc, i64_w, i32_w]
                  rfl
                refine take_ (i := 1) (N := some 64) (v := ?_) (a' := ?_) #[true, true, true, false, false, true, false, true, true, false, false, false] rfl rfl (take_ofW HT_.out HW_.out (by kernel_rfl)) (fun _ _ _ h => h) (Or.inl ⟨by rfl, ?_⟩) hHeld ?_ ?_
                rotate_left
                · rintro w' ⟨s0, s1, s2, s3, s4, s5, s6, s7⟩
                  go_simp
                  with_reducible rfl
                rotate_left
                · simp only [Act.put, zSa, zSb, zSc, i64_w, i32_w]
                  rfl
                refine pure_ (i := 3) (N := some 66) (v := ?_) (a' := ?_) #[true, true, true, true, false, true, false, true, true, false, false, false] rfl rfl (any_of HT_.out (by kernel_rfl)) (fun _ _ _ h => h) (Or.inl ⟨by rfl, ?_⟩) ?_ ?_
                rotate_left
                · intro w'
                  go_simp
                  with_reducible rfl
                rotate_left
                · simp only [Act.put, zSa, zSb, zSc, i64_w, i32_w]
                  rfl
                refine take_ (i := 4) (N := some 67) (v := ?_) (a' := ?_) #[true, true, true, true, true, true, false, true, true, false, false, false] rfl rfl (take_ofW HT_.out HW_.out (by kernel_rfl)) (fun _ _ _ h => h) (Or.inl ⟨by rfl, ?_⟩) hHeld ?_ ?_
                rotate_left
                · rintro w' ⟨s0, s1, s2, s3, s4, s5, s6, s7⟩
                  go_simp
                  with_reducible rfl
                rotate_left
                · simp only [Act.put, zSa, zSb, zSc, i64_w, i32_w]
                  rfl
                refine take_ (i := 6) (N := some 69) (v := ?_) (a' := ?_) #[true, true, true, true, true, true, true, true, true, false, false, false] rfl rfl (take_ofW HT_.out HW_.out (by kernel_rfl)) (fun _ _ _ h => h) (Or.inl ⟨by rfl, ?_⟩) hHeld ?_ ?_
                rotate_left
                · rintro w' ⟨s0, s1, s2, s3, s4, s5, s6, s7⟩
                  go_simp
                  with_reducible rfl
                rotate_left
                · simp only [Act.put, zSa, zSb, zSc, i64_w, i32_w]
                  rfl
                refine pure_ (i := 9) (N := some 72) (v := ?_) (a' := ?_) #[true, true, true, true, true, true, true, true, true, true, false, false] rfl rfl (any_of HT_.out (by kernel_rfl)) (fun _ _ _ h => h) (Or.inl ⟨by rfl, ?_⟩) ?_ ?_
                rotate_left
                · intro w'
                  go_simp
                  with_reducible rfl
                rotate_left
                · simp only [Act.put, zSa, zSb, zSc, i64_w, i32_w]
                  rfl
                refine take_ (i := 10) (N := some 73) (v := ?_) (a' := ?_) #[true, true, true, true, true, true, true, true, true, true, true, false] rfl rfl (take_ofW HT_.out HW_.out (by kernel_rfl)) (fun _ _ _ h => h) (Or.inl ⟨by rfl, ?_⟩) hHeld ?_ ?_
                rotate_left
                · rintro w' ⟨s0, s1, s2, s3, s4, s5, s6, s7⟩
                  go_simp
                  with_reducible rfl
                rotate_left
                · simp only [Act.put, zSa, zSb, zSc, i64_w, i32_w]
                  rfl
                refine one_ (i := 11) (N := some 74) #[true, true, true, true, true, true, true, true, true, true, true, true] rfl rfl (one_of HT_.out (by kernel_rfl)) (by decide) (fun K hK => ?_)
                refine goes_ Try.func26 (by kernel_rfl) rfl #[.agg #[.int .i64 ((rd_T43 l0_1 x4_1).f0), .int .i64 ((rd_T43 l0_1 x4_1).f1), .int .i64 ((rd_T43 l0_1 x4_1).f2)], .agg #[.int .i64 ((rd_T43 l0_1 (ji31)).f0), .int .i64 ((rd_T43 l0_1 (ji31)).f1), .int .i64 ((rd_T43 l0_1 (ji31)).f2)]] (by rfl) rfl rfl (by (try simp only [zMa, zMc, zMn]); first | done | (simp only [hji31]; rfl) | rfl | (simp only [zLd, zLt]; rfl)) ?_
                with_reducible refine (filigreeref04_below.calls ((rd_T43 l0_1 x4_1).f0) ((rd_T43 l0_1 x4_1).f1) ((rd_T43 l0_1 x4_1).f2) ((rd_T43 l0_1 (ji31)).f0) ((rd_T43 l0_1 (ji31)).f1) ((rd_T43 l0_1 (ji31)).f2) false _ A34.out).mono ?_
                rintro e w39 ⟨rfl, hb⟩
                refine ⟨_, rfl, ?_⟩
                replace BK310 := zMk (zKb (g := gb310) (o := .cells #[.int .i64 a0_0, .slice (some ad312) l0_1.length c0_1] 24 (0, 0)) (by (with_reducible repeat (first | refine zKn ?_ _ | refine zKd ?_ | refine zKa ?_ _)); exact BK310.out) hb)
                replace HB := zMk (zBt (by exact uT HB.out) hb)
                refine hK.out _ _ ⟨(zKc BK310.out 0).trans rfl, (zKc BK310.out 1).trans rfl, ((HB.out.cell (World.block_lt_of_cell? w _ hw319_0)).trans hw319_0), ((HB.out.cell (World.block_lt_of_cell? w _ hw319_1)).trans hw319_1), ((HB.out.cell (World.block_lt_of_cell? w _ hw319_2)).trans hw319_2), ((HB.out.cell (World.block_lt_of_cell? w _ hw320_0)).trans hw320_0), ((HB.out.cell (World.block_lt_of_cell? w _ hw320_1)).trans hw320_1), ((HB.out.cell (World.block_lt_of_cell? w _ hw320_2)).trans hw320_2)⟩ (fun hHeld => ?_)
                clear hK K
                refine norm_ (a' := ?_) ?_ ?_
                rotate_left
                · show Act.put _ (some 74) _ = _
                  simp only [Act.put, zSa, zSb, zSc, i64_w, i32_w]
                  rfl
                refine done_ (done_of HT_.out (by kernel_rfl)) ?_
                try go_wp2
                go_ret
                exact ⟨by first | rfl | (simp [errW_none, errW_some] <;> rfl) | (simp only [← hji31]; first | rfl | (simp [errW_none, errW_some] <;> rfl)) | (simp [*, errW_none, errW_some] <;> rfl), by exact uT HB.out⟩
            · replace c28 := Bool.eq_false_iff.mpr c28
              subst c28
              replace H : (filigreeref04_Right.l0 kj14 (wrap64 (x4_1 + 1)) a0_0 l0_1) = some r := by rw [if_neg (show ¬ (false = true) by decide)] at H; exact H
              have H' := zMk H
              clear H
              go_wp2
              go_roundg kj14
              case measure => have := HK1.out; have := HJ14.out; omega
              case rel => exact ⟨(wrap64 (x4_1 + 1)), (by first | rfl | (simp; done) | (simp [*]; done)), H', ⟨by have := HK1.out; have := HJ14.out; omega⟩, ⟨by (with_reducible repeat (first | refine zKn ?_ _ | refine zKd ?_ | refine zKa ?_ _)); exact BK310.out⟩, ⟨by exact uT HB.out⟩⟩
      · rw [if_neg c9] at H
        have c9b0 : (t313 == 0) = false := beq_eq_false_iff_ne.mpr c9
        have c9b1 : (t313 != 0) = true := bne_iff_ne.mpr c9
        obtain rfl := zOi H
        have hcz40_0 : wr.cell? ⟨gb310, 0, none⟩ = some (.int .i64 a0_0) := (zKc BK310.out 0).trans rfl
        have hcz40_1 : wr.cell? ⟨gb310, 1, none⟩ = some (.slice A0_1 l0_1.length c0_1) := (zKc BK310.out 1).trans rfl
        have hfz40_0 := zKf BK310.out 0
        have hfz40_1 := zKf BK310.out 1
        try go_wp2
        replace BK310 := zMk (zKd BK310.out)
        replace HB := zMk (zBd HB.out)
        have p312 : 0 ≤ (x4_1 : Int) := of_decide_eq_true (by assumption)
        have q312 : x4_1 < (l0_1.length : Int) := of_decide_eq_true (by assumption)
        obtain ⟨ad312, e312, hx312_0, hx312_1, hx312_2⟩ := at_T43 HR0_1.out x4_1 p312 q312
        have hw312_2 := hx312_2
        have hw312_1 := hx312_1
        have hw312_0 := hx312_0
        cases e312
        replace hx312_0 := (HB.out.cell (World.block_lt_of_cell? w _ hx312_0)).trans hx312_0
        replace hx312_1 := (HB.out.cell (World.block_lt_of_cell? w _ hx312_1)).trans hx312_1
        replace hx312_2 := (HB.out.cell (World.block_lt_of_cell? w _ hx312_2)).trans hx312_2
        replace p312 := eq_true p312
        replace q312 := eq_true q312
        refine start_ (n := 9) (S := fun w' => w'.cell? ⟨gb310, 0, none⟩ = some (.int .i64 a0_0) ∧ w'.cell? ⟨gb310, 1, none⟩ = some (.slice (some ad312) l0_1.length c0_1) ∧ w'.cell? (ad312.add ((x4_1).toNat * 3)) = some (.int .i64 ((rd_T43 l0_1 x4_1).f0)) ∧ w'.cell? ⟨(ad312.add ((x4_1).toNat * 3)).block, (ad312.add ((x4_1).toNat * 3)).off + 1, none⟩ = some (.int .i64 ((rd_T43 l0_1 x4_1).f1)) ∧ w'.cell? ⟨(ad312.add ((x4_1).toNat * 3)).block, (ad312.add ((x4_1).toNat * 3)).off + 2, none⟩ = some (.int .i64 ((rd_T43 l0_1 x4_1).f2))) (ds := []) #[false, false, false, false, false, false, false, false, false] (by kernel_rfl) rfl rfl ⟨(zKc BK310.out 0).trans rfl, (zKc BK310.out 1).trans rfl, ((HB.out.cell (World.block_lt_of_cell? w _ hw312_0)).trans hw312_0), ((HB.out.cell (World.block_lt_of_cell? w _ hw312_1)).trans hw312_1), ((HB.out.cell (World.block_lt_of_cell? w _ hw312_2)).trans hw312_2)⟩ (fun hHeld => ?_); refine with_tabW filigreeref04_Right.tab7 filigreeref04_Right.bits7 (fun HT_ HW_ => ?_)
        generalize wr.drew = w41 at BK310 HB hx312_0 hx312_1 hx312_2 hHeld ⊢
        refine pure_ (i := 0) (N := some 22) (v := ?_) (a' := ?_) #[true, false, false, false, false, false, false, false, false] rfl rfl (any_of HT_.out (by kernel_rfl)) (fun _ _ _ h => h) (Or.inl ⟨by rfl, ?_⟩) ?_ ?_
        rotate_left
        · intro w'
          go_simp
          with_reducible rfl
        rotate_left
        · simp only [Act.put, zSa, zSb, zSc, i64_w, i32_w]
          rfl
        refine pure_ (i := 2) (N := some 24) (v := ?_) (a' := ?_) #[true, false, true, false, false, false, false, false, false] rfl rfl (any_of HT_.out (by kernel_rfl)) (fun _ _ _ h => h) (Or.inl ⟨by rfl, ?_⟩) ?_ ?_
        rotate_left
        · intro w'
          go_simp
          with_reducible rfl
        rotate_left
        · simp only [Act.put, zSa, zSb, zSc, i64_w, i32_w]
          rfl
        refine pure_ (i := 4) (N := some 26) (v := ?_) (a' := ?_) #[true, false, true, false, true, false, false, false, false] rfl rfl (any_of HT_.out (by kernel_rfl)) (fun _ _ _ h => h) (Or.inl ⟨by rfl, ?_⟩) ?_ ?_
        rotate_left
        · intro w'
          go_simp
          with_reducible rfl
        rotate_left
        · simp only [Act.put, zSa, zSb, zSc, i64_w, i32_w]
          rfl
        refine take_ (i := 1) (N := some 23) (v := ?_) (a' := ?_) #[true, true, true, false, true, false, false, false, false] rfl rfl (take_ofW HT_.out HW_.out (by kernel_rfl)) (fun _ _ _ h => h) (Or.inl ⟨by rfl, ?_⟩) hHeld ?_ ?_
        rotate_left
        · rintro w' ⟨s0, s1, s2, s3, s4⟩
          go_simp
          with_reducible rfl
        rotate_left
        · simp only [Act.put, zSa, zSb, zSc, i64_w, i32_w]
          rfl
        refine take_ (i := 3) (N := some 25) (v := ?_) (a' := ?_) #[true, true, true, true, true, false, false, false, false] rfl rfl (take_ofW HT_.out HW_.out (by kernel_rfl)) (fun _ _ _ h => h) (Or.inl ⟨by rfl, ?_⟩) hHeld ?_ ?_
        rotate_left
        · rintro w' ⟨s0, s1, s2, s3, s4⟩
          go_simp
          with_reducible rfl
        rotate_left
        · simp only [Act.put, zSa, zSb, zSc, i64_w, i32_w]
          rfl
        refine pure_ (i := 5) (N := some 27) (v := ?_) (a' := ?_) #[true, true, true, true, true, true, false, false, false] rfl rfl (any_of HT_.out (by kernel_rfl)) (fun _ _ _ h => h) (Or.inl ⟨by rfl, ?_⟩) ?_ ?_
        rotate_left
        · intro w'
          go_simp
          with_reducible rfl
        rotate_left
        · simp only [Act.put, zSa, zSb, zSc, i64_w, i32_w]
          rfl
        refine take_ (i := 6) (N := some 28) (v := ?_) (a' := ?_) #[true, true, true, true, true, true, true, false, false] rfl rfl (take_ofW HT_.out HW_.out (by kernel_rfl)) (fun _ _ _ h => h) (Or.inl ⟨by rfl, ?_⟩) hHeld ?_ ?_
        rotate_left
        · rintro w' ⟨s0, s1, s2, s3, s4⟩
          go_simp
          with_reducible rfl
        rotate_left
        · simp only [Act.put, zSa, zSb, zSc, i64_w, i32_w]
          rfl
        refine one_ (i := 7) (N := some 29) #[true, true, true, true, true, true, true, true, false] rfl rfl (one_of HT_.out (by kernel_rfl)) (by decide) (fun K hK => ?_)
        refine goes_ Try.func25 (by kernel_rfl) rfl #[.int .i64 a0_0, .agg #[.int .i64 ((rd_T43 l0_1 x4_1).f0), .int .i64 ((rd_T43 l0_1 x4_1).f1), .int .i64 ((rd_T43 l0_1 x4_1).f2)]] (by rfl) rfl rfl (by (try simp only [zMa, zMc, zMn]); first | done | rfl | (simp only [zLd, zLt]; rfl)) ?_
        with_reducible refine (filigreeref04_edge.calls k1 a0_0 ((rd_T43 l0_1 x4_1).f0) ((rd_T43 l0_1 x4_1).f1) ((rd_T43 l0_1 x4_1).f2) t313 _ A8.out).mono ?_
        rintro e w42 ⟨rfl, hb⟩
        refine ⟨_, rfl, ?_⟩
        replace BK310 := zMk (zKb (g := gb310) (o := .cells #[.int .i64 a0_0, .slice (some ad312) l0_1.length c0_1] 24 (0, 0)) (by (with_reducible repeat (first | refine zKn ?_ _ | refine zKd ?_ | refine zKa ?_ _)); exact BK310.out) hb)
        replace HB := zMk (zBt (by exact uT HB.out) hb)
        refine hK.out _ _ ⟨(zKc BK310.out 0).trans rfl, (zKc BK310.out 1).trans rfl, ((HB.out.cell (World.block_lt_of_cell? w _ hw312_0)).trans hw312_0), ((HB.out.cell (World.block_lt_of_cell? w _ hw312_1)).trans hw312_1), ((HB.out.cell (World.block_lt_of_cell? w _ hw312_2)).trans hw312_2)⟩ (fun hHeld => ?_)
        clear hK K
        refine norm_ (a' := ?_) ?_ ?_
        rotate_left
        · show Act.put _ (some 29) _ = _
          simp only [Act.put, zSa, zSb, zSc, i64_w, i32_w]
          rfl
        refine pure_ (i := 8) (N := some 5) (v := ?_) (a' := ?_) #[true, true, true, true, true, true, true, true, true] rfl rfl (any_of HT_.out (by kernel_rfl)) (fun _ _ _ h => h) (Or.inl ⟨by rfl, ?_⟩) ?_ ?_
        rotate_left
        · intro w'
          go_simp
          with_reducible rfl
        rotate_left
        · simp only [Act.put, zSa, zSb, zSc, i64_w, i32_w]
          rfl
        refine done_ (done_of HT_.out (by kernel_rfl)) ?_
        try go_wp2
        go_ret
        exact ⟨by first | rfl | (simp [errW_none, errW_some] <;> rfl) | (simp [*, errW_none, errW_some] <;> rfl), by exact uT HB.out⟩
    · rw [if_neg c6] at H
      have c6b0 : decide (x4_1 < (l0_1.length : Int)) = false := decide_eq_false c6
      clear c6
      obtain rfl := zOi H
      have hcz43_0 : wr.cell? ⟨gb310, 0, none⟩ = some (.int .i64 a0_0) := (zKc BK310.out 0).trans rfl
      have hcz43_1 : wr.cell? ⟨gb310, 1, none⟩ = some (.slice A0_1 l0_1.length c0_1) := (zKc BK310.out 1).trans rfl
      have hfz43_0 := zKf BK310.out 0
      have hfz43_1 := zKf BK310.out 1
      go_wp2
      go_ret
      exact ⟨by first | rfl | (simp [errW_none, errW_some] <;> rfl) | (simp [*, errW_none, errW_some] <;> rfl), by exact uT HB.out⟩
  · rw [if_neg c3] at H
    have c3b0 : (t311 == 0) = false := beq_eq_false_iff_ne.mpr c3
    have c3b1 : (t311 != 0) = true := bne_iff_ne.mpr c3
    obtain rfl := zOi H
    go_enter Try.func10, Try.ntmps10
    go_wp2_with (first | ((with_reducible refine gate_dst (N := 1) rfl ?_); refine box_event ?hg (N := 1) ?hd (cs := #[.int .i64 a0_0, .slice A0_1 l0_1.length c0_1]) (t := 24) ?hr ?_; (case hd => rfl); (case hg => rfl); (case hr => first | (go_simp; done)|(go_simp; rfl)|(go_simp; rw [show ∀ x : Int, IntKind.u32.wrap (IntKind.u8.wrap x) = x % 256 from fun x => (by show (x % 256) % 4294967296 = x % 256; omega)])); intro gb310 hg w44 hbox hb; have BK310 := zMk (hbox); have GW310 := zMk ((by rw [hg]; exact (zBs (by exact uT HB.out)) : w.heap.size ≤ gb310)); have GE310 := zMk ((by rw [hg]; exact (zBs (by exact uT HB.out)) : w.heap.size ≤ gb310)); have IGE310 := ownGe GE310.out; replace HB := zMk (zBt (by exact uT HB.out) hb); clear hb hbox hg; have hcz45_0 : w44.cell? ⟨gb310, 0, none⟩ = some (.int .i64 a0_0) := (zKc BK310.out 0).trans rfl; have hcz45_1 : w44.cell? ⟨gb310, 1, none⟩ = some (.slice A0_1 l0_1.length c0_1) := (zKc BK310.out 1).trans rfl; have hfz45_0 := zKf BK310.out 0; have hfz45_1 := zKf BK310.out 1)|((with_reducible refine gate_callee (f := 24) rfl ?_); refine goesL_ (some 11) rfl rfl Try.func24 (by kernel_rfl) rfl #[.int .i64 a0_0, .int .i64 (l0_1.length : Int)] rfl (by (try simp only [zMa, zMc, zMn]); first |  done|  rfl|  (simp only [zLd, zLt]; rfl)) ?_; (with_reducible refine (filigreeref04_many.calls a0_0 (l0_1.length : Int) t311 _ A2.out).mono ?_); rintro e w' ⟨rfl, ⟨nd, rfl⟩⟩; refine ⟨_, rfl, ?_⟩))
    go_ret
    exact ⟨by first | rfl | (simp [errW_none, errW_some] <;> rfl) | (simp [*, errW_none, errW_some] <;> rfl), by exact uT HB.out⟩

theorem w64 {x : Int} (h0 : -9223372036854775808 ≤ x) (h1 : x ≤ 9223372036854775807) : wrap64 x = x := by unfold wrap64; omega
def aloneI (n : Int) (e : S43) : Int :=
  if e.f0 < 0 ∨ e.f0 ≥ n ∨ e.f1 < 0 ∨ e.f1 ≥ n then 5 else if e.f0 = e.f1 then 6 else if e.f2 ≤ -2147483648 ∨ e.f2 ≥ 2147483648 then 8 else 0
theorem alone_eq (k : Nat) (n : Int) (e : S43) : graph_alone.f (k + 1) n e.f0 e.f1 e.f2 = some (aloneI n e) := by
  unfold graph_alone.f aloneI
  simp only [graph_alone.j0, mn, mx, if_true]
  by_cases h1 : e.f1 < e.f0 <;> by_cases h2 : e.f0 < e.f1 <;> simp only [h1, h2, if_true, if_false]
  all_goals repeat' split
  all_goals first | rfl | (exfalso; omega) | (exfalso; simp only [decide_eq_true_eq] at *; omega)
theorem edge_eq (k : Nat) (n : Int) (e : S43) : filigreeref04_edge.f (k + 1) n e.f0 e.f1 e.f2 = some (aloneI n e) := by
  unfold filigreeref04_edge.f aloneI
  simp only [filigreeref04_edge.j0, decide_eq_true_eq, if_true]
  repeat' split
  all_goals first | rfl | (exfalso; omega) | (exfalso; simp only [decide_eq_true_eq] at *; omega)
def ordE (a b : S43) : Int := if a.f0 < b.f0 then -1 else if b.f0 < a.f0 then 1 else if a.f1 < b.f1 then -1 else if b.f1 < a.f1 then 1 else 0
theorem compare_eq (a b : Int) : cmp_Compare_int.f a b = some (if a < b then -1 else if b < a then 1 else 0) := by
  simp only [cmp_Compare_int.f, cmp_isNaN_int.f, zOb, bne_self_eq_false, Bool.false_eq_true, if_false]
  repeat' split
  all_goals first | rfl | omega
theorem or_eq (k : Nat) (p q : Int) : cmp_Or_int.f (k + 3) [p, q] = some (if p = 0 then q else p) := by
  unfold cmp_Or_int.f
  simp only [cmp_Or_int.l0, zLc, zLn]
  by_cases hp : p = 0
  · subst hp
    by_cases hq : q = 0
    · subst hq; simp [rd, wrap64]
    · simp [rd, wrap64, hq]
  · simp [rd, hp]
theorem order_eq (k : Nat) (a b : S43) : graph_order.f (k + 3) a.f0 a.f1 a.f2 b.f0 b.f1 b.f2 = some (ordE a b) := by
  simp only [graph_order.f, compare_eq, zOb, or_eq, ordE]
  congr 1
  repeat' split
  all_goals omega
theorem below_eq (a b : S43) : filigreeref04_below.f a.f0 a.f1 a.f2 b.f0 b.f1 b.f2 = some (decide (ordE a b = -1)) := by
  unfold filigreeref04_below.f ordE
  by_cases h1 : a.f0 < b.f0
  · simp [h1]
  · rw [if_neg h1, if_neg h1]
    by_cases h2 : b.f0 < a.f0
    · rw [if_neg (by omega), if_pos h2]; simp
    · rw [if_pos (by omega), if_neg h2]
      by_cases h3 : a.f1 < b.f1
      · simp [h3]
      · rw [if_neg h3]
        by_cases h4 : b.f1 < a.f1
        · rw [if_pos h4]; simp [h3]
        · rw [if_neg h4]; simp [h3]
theorem ordE_swap (a b : S43) : ordE b a = - ordE a b := by
  unfold ordE
  repeat' split
  all_goals omega
theorem ordE_cases (a b : S43) : ordE a b = -1 ∨ ordE a b = 0 ∨ ordE a b = 1 := by
  unfold ordE
  repeat' split
  all_goals simp
def rgt (n : Int) : Option S43 → List S43 → Int
  | _, [] => 0
  | p, e :: l =>
    if aloneI n e ≠ 0 then aloneI n e
    else if e.f0 > e.f1 then 1
    else match p with
      | none => rgt n (some e) l
      | some p => if ordE p e = 0 then 7 else if ordE p e = 1 then 1 else rgt n (some e) l
def sizesI (n m : Int) : Int := if n < 0 then 1 else if n > 1048576 then 4 else if m > 4194304 then 4 else 0
theorem sizes_eq (n m : Int) : graph_sizes.f n m = some (sizesI n m) := by
  unfold graph_sizes.f sizesI
  repeat' split
  all_goals rfl
theorem many_eq (n m : Int) : filigreeref04_many.f n m = some (sizesI n m) := by
  unfold filigreeref04_many.f sizesI
  repeat' split
  all_goals rfl
def rightI (n : Int) (l : List S43) : Int := if sizesI n l.length = 0 then rgt n none l else sizesI n l.length
def lastE (l : List S43) (i : Nat) : Option S43 := if i = 0 then none else some (rd_T43 l ((i - 1 : Nat) : Int))
theorem rdE_get (l : List S43) (i : Nat) (h : i < l.length) : rd_T43 l (i : Int) = l[i] := by
  unfold rd_T43
  rw [zTn]
  simp [h]
theorem dropE (l : List S43) (i : Nat) (h : i < l.length) : l.drop i = rd_T43 l (i : Int) :: l.drop (i + 1) := by
  rw [List.drop_eq_getElem_cons h, rdE_get l i h]
theorem Right_l0 (n : Int) (l : List S43) (hm : l.length ≤ 4194304) (d : Nat) : ∀ (k i : Nat), l.length - i = d → i ≤ l.length → d + 4 ≤ k →
    graph_Right.l0 k l (l.length : Int) i n l = some (rgt n (lastE l i) (l.drop i)) := by
  induction d with
  | zero =>
    intro k i hd hi hk
    obtain ⟨k, rfl⟩ : ∃ m, k = m + 1 := ⟨k - 1, by omega⟩
    obtain rfl : i = l.length := by omega
    rw [List.drop_length]
    simp only [graph_Right.l0]
    rw [if_neg (by omega)]
    simp [rgt]
  | succ d ih =>
    intro k i hd hi hk
    obtain ⟨k, rfl⟩ : ∃ m, k = m + 1 := ⟨k - 1, by omega⟩
    obtain ⟨k1, hk1⟩ : ∃ m, k = m + 1 := ⟨k - 1, by omega⟩
    obtain ⟨k3, hk3⟩ : ∃ m, k = m + 3 := ⟨k - 3, by omega⟩
    have hlt : i < l.length := by omega
    rw [dropE l i hlt]
    have hnext := ih k (i + 1) (by omega) (by omega) (by omega)
    have hl1 : lastE l (i + 1) = some (rd_T43 l (i : Int)) := by unfold lastE; rw [if_neg (by omega)]; rfl
    rw [hl1] at hnext
    have hwn : wrap64 ((i : Int) + 1) = ((i + 1 : Nat) : Int) := by rw [w64 (by omega) (by omega)]; omega
    simp only [graph_Right.l0]
    rw [if_pos (by omega), if_pos (by omega), if_pos (by omega)]
    have ha : graph_alone.f k n (rd_T43 l (i : Int)).f0 (rd_T43 l (i : Int)).f1 (rd_T43 l (i : Int)).f2 = some (aloneI n (rd_T43 l (i : Int))) := by rw [hk1]; exact alone_eq _ _ _
    rw [ha, zOb]
    unfold rgt
    by_cases h0 : aloneI n (rd_T43 l (i : Int)) = 0
    · rw [if_pos h0, if_neg (not_not_intro h0)]
      by_cases hgt : (rd_T43 l (i : Int)).f0 > (rd_T43 l (i : Int)).f1
      · rw [if_pos hgt, if_pos hgt]
      · rw [if_neg hgt, if_neg hgt]
        by_cases hi0 : i = 0
        · rw [if_pos (by omega), hwn, hnext]
          simp [lastE, hi0]
        · have hwm : wrap64 ((i : Int) - 1) = ((i - 1 : Nat) : Int) := by rw [w64 (by omega) (by omega)]; omega
          have ho : graph_order.f k (rd_T43 l ((i - 1 : Nat) : Int)).f0 (rd_T43 l ((i - 1 : Nat) : Int)).f1 (rd_T43 l ((i - 1 : Nat) : Int)).f2 (rd_T43 l (i : Int)).f0 (rd_T43 l (i : Int)).f1 (rd_T43 l (i : Int)).f2 = some (ordE (rd_T43 l ((i - 1 : Nat) : Int)) (rd_T43 l (i : Int))) := by rw [hk3]; exact order_eq _ _ _
          rw [if_neg (by omega), hwm, if_pos (by omega), if_pos (by omega), ho, zOb, hwn, hnext]
          have hl0 : lastE l i = some (rd_T43 l ((i - 1 : Nat) : Int)) := by unfold lastE; rw [if_neg hi0]
          rw [hl0]
          repeat' split
          all_goals simp_all
    · rw [if_neg h0, if_pos h0]
theorem Right_eq (k : Nat) (n : Int) (l : List S43) (hk : l.length + 4 ≤ k) : graph_Right.f k n l = some (rightI n l) := by
  unfold graph_Right.f rightI
  rw [sizes_eq, zOb]
  by_cases h : sizesI n l.length = 0
  · rw [if_pos h, if_pos h]
    have hm : l.length ≤ 4194304 := by
      unfold sizesI at h
      repeat' split at h
      all_goals omega
    have := Right_l0 n l hm l.length k 0 (by omega) (by omega) (by omega)
    simpa [lastE] using this
  · rw [if_neg h, if_neg h]
theorem refRight_l0 (n : Int) (l : List S43) (hm : l.length ≤ 4194304) (d : Nat) : ∀ (k i : Nat), l.length - i = d → i ≤ l.length → 2 * d + 3 ≤ k →
    filigreeref04_Right.l0 k i n l = some (rgt n (lastE l i) (l.drop i)) := by
  induction d with
  | zero =>
    intro k i hd hi hk
    obtain ⟨k, rfl⟩ : ∃ m, k = m + 1 := ⟨k - 1, by omega⟩
    obtain rfl : i = l.length := by omega
    rw [List.drop_length]
    simp only [filigreeref04_Right.l0]
    rw [if_neg (by omega)]
    simp [rgt]
  | succ d ih =>
    intro k i hd hi hk
    obtain ⟨k, rfl⟩ : ∃ m, k = m + 2 := ⟨k - 2, by omega⟩
    have hlt : i < l.length := by omega
    rw [dropE l i hlt]
    have hnext := ih k (i + 1) (by omega) (by omega) (by omega)
    have hl1 : lastE l (i + 1) = some (rd_T43 l (i : Int)) := by unfold lastE; rw [if_neg (by omega)]; rfl
    rw [hl1] at hnext
    have hwn : wrap64 ((i : Int) + 1) = ((i + 1 : Nat) : Int) := by rw [w64 (by omega) (by omega)]; omega
    simp only [filigreeref04_Right.l0]
    rw [if_pos (by omega), if_pos (by omega), edge_eq, zOb]
    unfold rgt
    by_cases h0 : aloneI n (rd_T43 l (i : Int)) = 0
    · rw [if_pos h0, if_neg (not_not_intro h0)]
      by_cases hgt : (rd_T43 l (i : Int)).f0 > (rd_T43 l (i : Int)).f1
      · rw [if_pos hgt, if_pos hgt]
      · rw [if_neg hgt, if_neg hgt]
        by_cases hi0 : i = 0
        · rw [if_neg (by omega)]
          simp only [filigreeref04_Right.j1]
          rw [if_neg (by simp), hwn, hnext]
          simp [lastE, hi0]
        · have hwm : wrap64 ((i : Int) - 1) = ((i - 1 : Nat) : Int) := by rw [w64 (by omega) (by omega)]; omega
          have hl0 : lastE l i = some (rd_T43 l ((i - 1 : Nat) : Int)) := by unfold lastE; rw [if_neg hi0]
          rw [if_pos (by omega), hwm, if_pos (by omega), if_pos (by omega), below_eq, zOb, hl0]
          simp only [filigreeref04_Right.j1]
          rw [hwm, hwn, hnext]
          have hsw := ordE_swap (rd_T43 l ((i - 1 : Nat) : Int)) (rd_T43 l (i : Int))
          rcases ordE_cases (rd_T43 l ((i - 1 : Nat) : Int)) (rd_T43 l (i : Int)) with h | h | h
          · rw [if_neg (by simp [h])]
            simp [h]
          · rw [if_pos (by simp [h]), if_pos (by omega), if_pos (by omega), if_pos (by omega), if_pos (by omega), below_eq, zOb, hsw, h]
            simp
          · rw [if_pos (by simp [h]), if_pos (by omega), if_pos (by omega), if_pos (by omega), if_pos (by omega), below_eq, zOb, hsw, h]
            simp
    · rw [if_neg h0, if_pos h0]
theorem refRight_eq (k : Nat) (n : Int) (l : List S43) (hk : 2 * l.length + 3 ≤ k) : filigreeref04_Right.f k n l = some (rightI n l) := by
  unfold filigreeref04_Right.f rightI
  rw [many_eq, zOb]
  by_cases h : sizesI n l.length = 0
  · rw [if_pos h, if_pos h]
    have hm : l.length ≤ 4194304 := by
      unfold sizesI at h
      repeat' split at h
      all_goals omega
    have := refRight_l0 n l hm l.length k 0 (by omega) (by omega) (by omega)
    simpa [lastE] using this
  · rw [if_neg h, if_neg h]
theorem w64n (i : Nat) (h : i ≤ 9000000000000000000) : wrap64 ((i : Int) + 1) = ((i + 1 : Nat) : Int) := by rw [w64 (by omega) (by omega)]; omega
inductive Cn (E : List S43) : Int → Int → Prop
  | refl (u : Int) : Cn E u u
  | fwd {u : Int} (e : S43) : e ∈ E → Cn E u e.f0 → Cn E u e.f1
  | bwd {u : Int} (e : S43) : e ∈ E → Cn E u e.f1 → Cn E u e.f0
theorem Cn.trans {E : List S43} {u v w : Int} (h1 : Cn E u v) (h2 : Cn E v w) : Cn E u w := by
  induction h2 with
  | refl => exact h1
  | fwd e he _ ih => exact .fwd e he ih
  | bwd e he _ ih => exact .bwd e he ih
theorem Cn.symm {E : List S43} {u v : Int} (h : Cn E u v) : Cn E v u := by
  induction h with
  | refl => exact .refl _
  | fwd e he _ ih => exact Cn.trans (.bwd e he (.refl _)) ih
  | bwd e he _ ih => exact Cn.trans (.fwd e he (.refl _)) ih
theorem Cn.mono {E F : List S43} {u v : Int} (hs : ∀ e ∈ E, e ∈ F) (h : Cn E u v) : Cn F u v := by
  induction h with
  | refl => exact .refl _
  | fwd e he _ ih => exact .fwd e (hs e he) ih
  | bwd e he _ ih => exact .bwd e (hs e he) ih
def Ends (N : Nat) (E : List S43) : Prop := ∀ e ∈ E, 0 ≤ e.f0 ∧ e.f0 < (N : Int) ∧ 0 ≤ e.f1 ∧ e.f1 < (N : Int)
theorem Cn.inn {N : Nat} {E : List S43} (hE : Ends N E) {u v : Int} (h : Cn E u v) (hu : 0 ≤ u ∧ u < (N : Int)) : 0 ≤ v ∧ v < (N : Int) := by
  cases h with
  | refl => exact hu
  | fwd e he _ => exact ⟨(hE e he).2.2.1, (hE e he).2.2.2⟩
  | bwd e he _ => exact ⟨(hE e he).1, (hE e he).2.1⟩
def Root (E : List S43) (r : Int) : Prop := ∀ v, 0 ≤ v → Cn E r v → r ≤ v
theorem root_ex (E : List S43) : ∀ (n : Nat) (v : Int), (∃ u : Int, 0 ≤ u ∧ u ≤ n ∧ Cn E v u) → ∃ r, 0 ≤ r ∧ Root E r ∧ Cn E v r
  | 0, v, ⟨u, h0, h1, hc⟩ => ⟨u, h0, fun x hx _ => by omega, hc⟩
  | n + 1, v, ⟨u, h0, h1, hc⟩ => by
    by_cases h : ∃ x : Int, 0 ≤ x ∧ x ≤ n ∧ Cn E v x
    · exact root_ex E n v h
    · refine ⟨u, h0, fun x hx hux => ?_, hc⟩
      have h2 : ¬ x ≤ n := fun h3 => h ⟨x, hx, h3, hc.trans hux⟩
      omega
theorem root_of (E : List S43) (v : Int) (hv : 0 ≤ v) : ∃ r, 0 ≤ r ∧ r ≤ v ∧ Root E r ∧ Cn E v r := by
  obtain ⟨r, h0, h1, h2⟩ := root_ex E v.toNat v ⟨v, hv, by omega, .refl _⟩
  exact ⟨r, h0, h1 v hv h2.symm, h1, h2⟩
theorem root_eq {E : List S43} {r s : Int} (hr0 : 0 ≤ r) (hs0 : 0 ≤ s) (hr : Root E r) (hs : Root E s) (h : Cn E r s) : r = s := by
  have h1 := hr s hs0 h
  have h2 := hs r hr0 h.symm
  omega
theorem up_eq {l m : List Int} (hl : l.Pairwise (· < ·)) (hm : m.Pairwise (· < ·)) (h : ∀ x, x ∈ l ↔ x ∈ m) : l = m := by
  refine List.Perm.eq_of_pairwise (le := fun a b : Int => a < b) (fun a b _ _ h1 h2 => by omega) hl hm ?_
  exact (List.perm_ext_iff_of_nodup (hl.imp (fun h => by omega)) (hm.imp (fun h => by omega))).2 h
def ups (N : Nat) : List Int := (List.range N).map fun i : Nat => (i : Int)
theorem mem_ups {N : Nat} {v : Int} : v ∈ ups N ↔ 0 ≤ v ∧ v < (N : Int) := by
  unfold ups
  rw [List.mem_map]
  constructor
  · rintro ⟨i, hi, rfl⟩; rw [List.mem_range] at hi; omega
  · rintro ⟨h0, h1⟩; exact ⟨v.toNat, List.mem_range.2 (by omega), by omega⟩
theorem ups_up (N : Nat) : (ups N).Pairwise (· < ·) := by
  unfold ups
  rw [List.pairwise_map]
  exact (List.pairwise_lt_range (n := N)).imp (fun h => by omega)
theorem ups_len (N : Nat) : (ups N).length = N := by simp [ups]
theorem rd_nat (l : List Int) (i : Nat) (h : i < l.length) : rd l (i : Int) = l[i] := by unfold rd; rw [zTn]; simp [h]
theorem rd_set (l : List Int) (i v x : Int) (hi : 0 ≤ i) (h : i < (l.length : Int)) (hv : 0 ≤ v) : rd (l.set i.toNat x) v = if v = i then x else rd l v := by
  unfold rd
  rw [List.getD_eq_getElem?_getD, List.getD_eq_getElem?_getD, List.getElem?_set]
  by_cases e : v = i
  · subst e
    rw [if_pos rfl, if_pos rfl, if_pos (by omega)]; rfl
  · rw [if_neg (by omega), if_neg e]
theorem rdb_set (l : List Bool) (i v : Int) (x : Bool) (hi : 0 ≤ i) (h : i < (l.length : Int)) (hv : 0 ≤ v) : rdOf false (l.set i.toNat x) v = if v = i then x else rdOf false l v := by
  unfold rdOf
  rw [List.getD_eq_getElem?_getD, List.getD_eq_getElem?_getD, List.getElem?_set]
  by_cases e : v = i
  · subst e
    rw [if_pos rfl, if_pos rfl, if_pos (by omega)]; rfl
  · rw [if_neg (by omega), if_neg e]
theorem rd_rep (n : Nat) (x : Int) : rd (List.replicate n 0) x = 0 := by
  unfold rd
  rw [List.getD_eq_getElem?_getD, List.getElem?_replicate]
  split <;> rfl
theorem rdb_rep (n : Nat) (x : Int) : rdOf false (List.replicate n false) x = false := by
  unfold rdOf
  rw [List.getD_eq_getElem?_getD, List.getElem?_replicate]
  split <;> rfl
theorem count_le (r : Int) : ∀ (l m : List Int), l.length = m.length → (∀ i : Nat, i < l.length → rd l i = r → rd m i = r) → l.count r ≤ m.count r
  | [], [], _, _ => Nat.le_refl _
  | [], _ :: _, h, _ => by simp at h
  | _ :: _, [], h, _ => by simp at h
  | a :: l, b :: m, h, hm => by
    have h1 := count_le r l m (by simpa using h) (fun i hi => by
      have := hm (i + 1) (by simpa using hi)
      simpa [rd] using this)
    have h2 : a = r → b = r := by
      have := hm 0 (by simp)
      simpa [rd] using this
    rw [List.count_cons, List.count_cons]
    by_cases e : a = r
    · rw [if_pos (by simpa using e), if_pos (by simpa using h2 e)]; omega
    · rw [if_neg (by simpa using e)]; omega
theorem count_lt (r : Int) : ∀ (l m : List Int), l.length = m.length → (∀ i : Nat, i < l.length → rd l i = r → rd m i = r) → (∃ i : Nat, i < l.length ∧ rd l i ≠ r ∧ rd m i = r) → l.count r < m.count r
  | [], _, _, _, ⟨i, hi, _⟩ => by simp at hi
  | _ :: _, [], h, _, _ => by simp at h
  | a :: l, b :: m, h, hm, ⟨i, hi, h3, h4⟩ => by
    have hm' : ∀ i : Nat, i < l.length → rd l i = r → rd m i = r := fun i hi => by
      have := hm (i + 1) (by simpa using hi)
      simpa [rd] using this
    have h2 : a = r → b = r := by
      have := hm 0 (by simp)
      simpa [rd] using this
    rw [List.count_cons, List.count_cons]
    cases i with
    | zero =>
      have e1 : a ≠ r := by simpa [rd] using h3
      have e2 : b = r := by simpa [rd] using h4
      have h1 := count_le r l m (by simpa using h) hm'
      rw [if_neg (by simpa using e1), if_pos (by simpa using e2)]; omega
    | succ i =>
      have h1 := count_lt r l m (by simpa using h) hm' ⟨i, by simpa using hi, by simpa [rd] using h3, by simpa [rd] using h4⟩
      by_cases e : a = r
      · rw [if_pos (by simpa using e), if_pos (by simpa using h2 e)]; omega
      · rw [if_neg (by simpa using e)]; omega

def parts_arcs.l0 : Nat → List (List (S51)) → List (S43) → Int → Int → Option ((List (List (S51))))
  | 0, _, _, _, _ => none
  | k + 1, x3, x10, x11, x12 => if x12 < x11 then (if 0 ≤ x12 then (if x12 < (x10.length : Int) then (if 0 ≤ ((rd_T43 x10 x12).f0) then (if ((rd_T43 x10 x12).f0) < (x3.length : Int) then (if (rd_L3 x3 ((rd_T43 x10 x12).f0)).length < 8796093022208 then ((some (x3.set (((rd_T43 x10 x12).f0) : Int).toNat ((rd_L3 x3 ((rd_T43 x10 x12).f0)) ++ [(⟨(rd_T43 x10 x12).f1, x12⟩ : S51)]) : List (List (S51)))).bind fun y131 => (if 0 ≤ ((rd_T43 x10 x12).f1) then (if ((rd_T43 x10 x12).f1) < (x3.length : Int) then (if (rd_L3 y131 ((rd_T43 x10 x12).f1)).length < 8796093022208 then (parts_arcs.l0 k (y131.set (((rd_T43 x10 x12).f1) : Int).toNat ((rd_L3 y131 ((rd_T43 x10 x12).f1)) ++ [(⟨(rd_T43 x10 x12).f0, x12⟩ : S51)])) x10 x11 (wrap64 (x12 + 1))) else (none)) else (none)) else (none))) else (none)) else (none)) else (none)) else (none)) else (none)) else (some x3)
def parts_arcs.f (k : Nat) (a0_0 : Int) (l0_1 : List (S43)) : Option ((List (List (S51)))) := if 0 ≤ a0_0 then (if (a0_0 : Int).toNat ≤ 11728124029610 then (parts_arcs.l0 k (List.replicate (a0_0 : Int).toNat []) l0_1 (l0_1.length : Int) 0) else (none)) else (none)
def parts_arcs.T5 : Bool × List (List Nat × List Nat) := (true, [([], []), ([], []), ([1], [1]), ([], []), ([], []), ([4], [4]), ([3, 5], [3, 5]), ([6], [6]), ([], []), ([8], [8]), ([], []), ([9, 10], [9, 10]), ([11], [11]), ([7, 12], [7, 12]), ([0, 2, 0, 1, 2, 3, 4, 5, 6, 7, 8, 9, 10, 11, 12, 13], [0, 2]), ([14, 13, 13, 0, 1, 2, 3, 4, 5, 6, 7, 8, 9, 10, 11, 12, 13], [13, 14])])
def parts_arcs.B5 : List Nat := [0, 0, 2, 0, 0, 16, 56, 120, 0, 256, 0, 1792, 3840, 8184, 16383, 32767]
theorem parts_arcs.tab5 : rtab .any (opsOf Try.f28 5) = parts_arcs.T5 := by kernel_rfl
theorem parts_arcs.bits5 : waitsOk parts_arcs.T5.2 parts_arcs.B5 = true := by kernel_rfl
def parts_arcs.T6 : Bool × List (List Nat × List Nat) := (true, [([], []), ([], []), ([1], [1]), ([], []), ([], []), ([4], [4]), ([3, 5], [3, 5]), ([6], [6]), ([], []), ([8], [8]), ([], []), ([9, 10], [9, 10]), ([11], [11]), ([7, 12], [7, 12]), ([0, 2, 0, 1, 2, 3, 4, 5, 6, 7, 8, 9, 10, 11, 12, 13], [0, 2]), ([14, 13, 13, 0, 1, 2, 3, 4, 5, 6, 7, 8, 9, 10, 11, 12, 13], [13, 14])])
def parts_arcs.B6 : List Nat := [0, 0, 2, 0, 0, 16, 56, 120, 0, 256, 0, 1792, 3840, 8184, 16383, 32767]
theorem parts_arcs.tab6 : rtab .any (opsOf Try.f28 6) = parts_arcs.T6 := by kernel_rfl
theorem parts_arcs.bits6 : waitsOk parts_arcs.T6.2 parts_arcs.B6 = true := by kernel_rfl
theorem parts_arcs.calls (k : Nat) (a0_0 : Int) (A0_1 : Option Addr) (c0_1 : Nat) (l0_1 : List (S43)) (r : List (List (S51))) (w : World) (hr0_1 : Kd.C k43 w A0_1 l0_1.length l0_1) (hc0_1 : l0_1.length ≤ c0_1) (h : parts_arcs.f k a0_0 l0_1 = some r) :
    Calls Try.prog 28 #[.agg #[.int .i64 a0_0, .slice A0_1 l0_1.length c0_1]] w fun e w' => ∃ v0_ : Value, e = .returned (v0_) ∧ Kd.S (Kd.slice 51 k51) 49 w' w.heap.size (fun _ => True) v0_ r ∧ Below w.heap.size w w' := by
  have hu24 := Try.underlying24
  have hu43 := Try.underlying43
  have hu51 := Try.underlying51
  have HR0_1 := zMk hr0_1
  have HC0_1 := zMk hc0_1
  clear hr0_1 hc0_1
  have HB := zMk (Below.refl w.heap.size w)
  have H : (if 0 ≤ a0_0 then (if (a0_0 : Int).toNat ≤ 11728124029610 then (parts_arcs.l0 k (List.replicate (a0_0 : Int).toNat []) l0_1 (l0_1.length : Int) 0) else (none)) else (none)) = some r := h
  clear h
  by_cases c2 : 0 ≤ a0_0
  · rw [if_pos c2] at H
    have c2b0 := eq_true c2
    have c2b1 : decide (0 ≤ a0_0) = true := decide_eq_true c2
    clear c2
    by_cases c3 : (a0_0 : Int).toNat ≤ 11728124029610
    rotate_left
    · rw [if_neg c3] at H; exact absurd H (by simp)
    rw [if_pos c3] at H
    have c3b0 := eq_true c3
    have c3b1 : decide ((a0_0 : Int).toNat ≤ 11728124029610) = true := decide_eq_true c3
    clear c3
    obtain ⟨y122, hy122⟩ : ∃ y_ : List (List (S51)), y_ = (List.replicate (a0_0 : Int).toNat []) := ⟨_, rfl⟩
    replace H : (parts_arcs.l0 k y122 l0_1 (l0_1.length : Int) 0) = some r := by first | (rw [hy122]; with_reducible exact H) | (have H2_ := bsm H; first | (rw [hy122]; with_reducible exact H2_) | with_reducible exact H2_) | with_reducible exact H | (rw [hy122]; exact H) | exact H
    have Ny122 := zMk hy122
    clear hy122
    have H' := zMk H
    clear H
    go_enter Try.func28, Try.ntmps28
    go_wp2_with (first | ((with_reducible refine gate_dst (N := 1) rfl ?_); refine box_event ?hg (N := 1) ?hd (cs := #[.int .i64 a0_0, .slice A0_1 l0_1.length c0_1]) (t := 24) ?hr ?_; (case hd => rfl); (case hg => rfl); (case hr => first | (go_simp; done)|(go_simp; rfl)|(go_simp; rw [show ∀ x : Int, IntKind.u32.wrap (IntKind.u8.wrap x) = x % 256 from fun x => (by show (x % 256) % 4294967296 = x % 256; omega)])); intro gb121 hg w4 hbox hb; have BK121 := zMk (hbox); have GW121 := zMk ((by rw [hg]; exact (zBs (by exact uT HB.out)) : w.heap.size ≤ gb121)); have GE121 := zMk ((by rw [hg]; exact (zBs (by exact uT HB.out)) : w.heap.size ≤ gb121)); have IGE121 := ownGe GE121.out; replace HB := zMk (zBt (by exact uT HB.out) hb); clear hb hbox hg; have hcz5_0 : w4.cell? ⟨gb121, 0, none⟩ = some (.int .i64 a0_0) := (zKc BK121.out 0).trans rfl; have hcz5_1 : w4.cell? ⟨gb121, 1, none⟩ = some (.slice A0_1 l0_1.length c0_1) := (zKc BK121.out 1).trans rfl; have hfz5_0 := zKf BK121.out 0; have hfz5_1 := zKf BK121.out 1)|((with_reducible refine gate_dst (N := 8) rfl ?_); refine Kd.S_make (Kd.slice 51 k51) _ 49 rfl (N := 8) rfl 47 _ _ rfl a0_0 rfl rfl Try.underlying47 (.slice none 0 0) 24 info49 rfl (by decide) (by omega) [] (ok := fun _ => True) (okp := fun _ => True) ⟨_, rfl, Kd.R_nil _ _ _ _ _⟩ (fun _ hk => hk) trivial (of_decide_eq_true (by first | (with_reducible assumption)|  assumption)) (Nat.le_trans (Nat.mul_le_mul_right _ (of_decide_eq_true (by first | (with_reducible assumption)|  assumption) : a0_0.toNat ≤ 11728124029610)) (by omega)) (Below.refl _ _) (Nat.le_refl _) ?_; intro v123 w6 ho7 hb hg_ hnew_; clear hg_ hnew_; (first |  rw [← Ny122.out] at ho7|  (simp only [Int.reduceToNat] at ho7; rw [← Ny122.out] at ho7)); have HO124 := zMk (Kd.S_lower ho7 (zBs (by exact uT HB.out))); replace BK121 := zMk (zKb (g := gb121) (o := .cells #[.int .i64 a0_0, .slice A0_1 l0_1.length c0_1] 24 (0, 0)) (by (with_reducible repeat (first |  refine zKn ?_ _|  refine zKd ?_|  refine zKa ?_ _)); exact BK121.out) hb); replace HB := zMk (zBt (by exact uT HB.out) hb); clear hb ho7; have hcz8_0 : w6.cell? ⟨gb121, 0, none⟩ = some (.int .i64 a0_0) := (zKc BK121.out 0).trans rfl; have hcz8_1 : w6.cell? ⟨gb121, 1, none⟩ = some (.slice A0_1 l0_1.length c0_1) := (zKc BK121.out 1).trans rfl; have hfz8_0 := zKf BK121.out 0; have hfz8_1 := zKf BK121.out 1))
    go_loopg [12] k (fun kq v12 w' => ∃ (x3_1 : List (List (S51))) (x12_1 : Int), v12 = .int .i64 x12_1 ∧ Aside0 (parts_arcs.l0 kq x3_1 l0_1 (l0_1.length : Int) x12_1 = some r) ∧ Aside0 (kq ≤ k) ∧ Aside0 (Kd.S (Kd.slice 51 k51) 49 w' w.heap.size (fun _ => True) v123 x3_1) ∧ Aside0 (w'.heap[gb121]? = some (.cells #[.int .i64 a0_0, (.slice A0_1 l0_1.length c0_1)] 24 (0, 0))) ∧ Aside0 (Below w.heap.size w w'))
    case atStart => exact ⟨(y122), (0), (by first | rfl | (simp; done) | (simp [*]; done)), H', ⟨Nat.le_refl _⟩, ⟨by (with_reducible repeat (first | apply Kd.S_alloc | apply Kd.S_drewN | apply Kd.S_drew)); exact HO124.out⟩, ⟨by (with_reducible repeat (first | refine zKn ?_ _ | refine zKd ?_ | refine zKa ?_ _)); exact BK121.out⟩, ⟨by exact uT HB.out⟩⟩
    clear H'
    obtain ⟨x3_1, x12_1, rfl, HA, HK1, HO_3, BK121, HB⟩ := hrel
    rcases gk with _ | k1
    · exact absurd HA.out (by simp [parts_arcs.l0])
    have H := HA.out
    clear HA
    simp only [parts_arcs.l0] at H
    by_cases c9 : x12_1 < (l0_1.length : Int)
    · rw [if_pos c9] at H
      have c9b0 : decide (x12_1 < (l0_1.length : Int)) = true := decide_eq_true c9
      clear c9
      by_cases c10 : 0 ≤ x12_1
      rotate_left
      · rw [if_neg c10] at H; exact absurd H (by simp)
      rw [if_pos c10] at H
      have c10b0 : decide (0 ≤ x12_1) = true := decide_eq_true c10
      clear c10
      by_cases c11 : x12_1 < (l0_1.length : Int)
      rotate_left
      · rw [if_neg c11] at H; exact absurd H (by simp)
      rw [if_pos c11] at H
      have c11b0 : decide (x12_1 < (l0_1.length : Int)) = true := decide_eq_true c11
      clear c11
      by_cases c12 : 0 ≤ ((rd_T43 l0_1 x12_1).f0)
      rotate_left
      · rw [if_neg c12] at H; exact absurd H (by simp)
      rw [if_pos c12] at H
      have c12b0 : decide (0 ≤ ((rd_T43 l0_1 x12_1).f0)) = true := decide_eq_true c12
      clear c12
      by_cases c13 : ((rd_T43 l0_1 x12_1).f0) < (x3_1.length : Int)
      rotate_left
      · rw [if_neg c13] at H; exact absurd H (by simp)
      rw [if_pos c13] at H
      have c13b0 : decide (((rd_T43 l0_1 x12_1).f0) < (x3_1.length : Int)) = true := decide_eq_true c13
      clear c13
      by_cases c14 : (rd_L3 x3_1 ((rd_T43 l0_1 x12_1).f0)).length < 8796093022208
      rotate_left
      · rw [if_neg c14] at H; exact absurd H (by simp)
      rw [if_pos c14] at H
      have LMc14 := zMk c14
      clear c14
      obtain ⟨y128, hy128⟩ : ∃ y_ : List (S51), y_ = ((rd_L3 x3_1 ((rd_T43 l0_1 x12_1).f0)) ++ [(⟨(rd_T43 l0_1 x12_1).f1, x12_1⟩ : S51)]) := ⟨_, rfl⟩
      replace H : ((some (x3_1.set (((rd_T43 l0_1 x12_1).f0) : Int).toNat y128 : List (List (S51)))).bind fun y131 => (if 0 ≤ ((rd_T43 l0_1 x12_1).f1) then (if ((rd_T43 l0_1 x12_1).f1) < (x3_1.length : Int) then (if (rd_L3 y131 ((rd_T43 l0_1 x12_1).f1)).length < 8796093022208 then (parts_arcs.l0 k1 (y131.set (((rd_T43 l0_1 x12_1).f1) : Int).toNat ((rd_L3 y131 ((rd_T43 l0_1 x12_1).f1)) ++ [(⟨(rd_T43 l0_1 x12_1).f0, x12_1⟩ : S51)])) l0_1 (l0_1.length : Int) (wrap64 (x12_1 + 1))) else (none)) else (none)) else (none))) = some r := by first | (rw [hy128]; with_reducible exact H) | (have H2_ := bsm H; first | (rw [hy128]; with_reducible exact H2_) | with_reducible exact H2_) | with_reducible exact H | (rw [hy128]; exact H) | exact H
      have Ny128 := zMk hy128
      clear hy128
      obtain ⟨y131, hy131⟩ : ∃ y_ : List (List (S51)), y_ = (x3_1.set (((rd_T43 l0_1 x12_1).f0) : Int).toNat y128) := ⟨_, rfl⟩
      replace H : (if 0 ≤ ((rd_T43 l0_1 x12_1).f1) then (if ((rd_T43 l0_1 x12_1).f1) < (x3_1.length : Int) then (if (rd_L3 y131 ((rd_T43 l0_1 x12_1).f1)).length < 8796093022208 then (parts_arcs.l0 k1 (y131.set (((rd_T43 l0_1 x12_1).f1) : Int).toNat ((rd_L3 y131 ((rd_T43 l0_1 x12_1).f1)) ++ [(⟨(rd_T43 l0_1 x12_1).f0, x12_1⟩ : S51)])) l0_1 (l0_1.length : Int) (wrap64 (x12_1 + 1))) else (none)) else (none)) else (none)) = some r := by first | (rw [hy131]; with_reducible exact H) | (have H2_ := bsm H; first | (rw [hy131]; with_reducible exact H2_) | with_reducible exact H2_) | with_reducible exact H | (rw [hy131]; exact H) | exact H
      have Ny131 := zMk hy131
      clear hy131
      by_cases c16 : 0 ≤ ((rd_T43 l0_1 x12_1).f1)
      rotate_left
      · rw [if_neg c16] at H; exact absurd H (by simp)
      rw [if_pos c16] at H
      have c16b0 : decide (0 ≤ ((rd_T43 l0_1 x12_1).f1)) = true := decide_eq_true c16
      clear c16
      by_cases c17 : ((rd_T43 l0_1 x12_1).f1) < (x3_1.length : Int)
      rotate_left
      · rw [if_neg c17] at H; exact absurd H (by simp)
      rw [if_pos c17] at H
      have c17b0 : decide (((rd_T43 l0_1 x12_1).f1) < (x3_1.length : Int)) = true := decide_eq_true c17
      clear c17
      by_cases c18 : (rd_L3 y131 ((rd_T43 l0_1 x12_1).f1)).length < 8796093022208
      rotate_left
      · rw [if_neg c18] at H; exact absurd H (by simp)
      rw [if_pos c18] at H
      have LMc18 := zMk c18
      clear c18
      obtain ⟨y133, hy133⟩ : ∃ y_ : List (S51), y_ = ((rd_L3 y131 ((rd_T43 l0_1 x12_1).f1)) ++ [(⟨(rd_T43 l0_1 x12_1).f0, x12_1⟩ : S51)]) := ⟨_, rfl⟩
      replace H : (parts_arcs.l0 k1 (y131.set (((rd_T43 l0_1 x12_1).f1) : Int).toNat y133) l0_1 (l0_1.length : Int) (wrap64 (x12_1 + 1))) = some r := by first | (rw [hy133]; with_reducible exact H) | (have H2_ := bsm H; first | (rw [hy133]; with_reducible exact H2_) | with_reducible exact H2_) | with_reducible exact H | (rw [hy133]; exact H) | exact H
      have Ny133 := zMk hy133
      clear hy133
      obtain ⟨y136, hy136⟩ : ∃ y_ : List (List (S51)), y_ = (y131.set (((rd_T43 l0_1 x12_1).f1) : Int).toNat y133) := ⟨_, rfl⟩
      replace H : (parts_arcs.l0 k1 y136 l0_1 (l0_1.length : Int) (wrap64 (x12_1 + 1))) = some r := by first | (rw [hy136]; with_reducible exact H) | (have H2_ := bsm H; first | (rw [hy136]; with_reducible exact H2_) | with_reducible exact H2_) | with_reducible exact H | (rw [hy136]; exact H) | exact H
      have Ny136 := zMk hy136
      clear hy136
      have H' := zMk H
      clear H
      have p125 : 0 ≤ (x12_1 : Int) := of_decide_eq_true (by assumption)
      have q125 : x12_1 < (l0_1.length : Int) := of_decide_eq_true (by assumption)
      obtain ⟨ad125, e125, hx125_0, hx125_1, hx125_2⟩ := at_T43 HR0_1.out x12_1 p125 q125
      cases e125
      replace hx125_0 := (HB.out.cell (World.block_lt_of_cell? w _ hx125_0)).trans hx125_0
      replace hx125_1 := (HB.out.cell (World.block_lt_of_cell? w _ hx125_1)).trans hx125_1
      replace hx125_2 := (HB.out.cell (World.block_lt_of_cell? w _ hx125_2)).trans hx125_2
      replace p125 := eq_true p125
      replace q125 := eq_true q125
      try go_wp2_with (first | ((with_reducible refine gate_dst (N := 5) rfl ?_); refine box_event ?hg (N := 5) ?hd (cs := #[.int .i64 0, .int .i64 0, .int .i64 0]) (t := 43) ?hr ?_; (case hd => rfl); (case hg => rfl); (case hr => first | (go_simp; done)|(go_simp; rfl)|(go_simp; rw [show ∀ x : Int, IntKind.u32.wrap (IntKind.u8.wrap x) = x % 256 from fun x => (by show (x % 256) % 4294967296 = x % 256; omega)])); intro gb126 hg w20 hbox hb; replace HO_3 := zMk (Kd.S_below (by (with_reducible repeat (first |  apply Kd.S_alloc|  apply Kd.S_drewN|  apply Kd.S_drew)); exact HO_3.out) hb); have BK126 := zMk (hbox); have GW126 := zMk ((by rw [hg]; exact (zBs (by exact uT HB.out)) : w.heap.size ≤ gb126)); have GE126 := zMk ((by rw [hg]; exact (zBs (by exact uT HB.out)) : w.heap.size ≤ gb126)); have IGE126 := ownGe GE126.out; replace HB := zMk (zBt (by exact uT HB.out) hb); have NB121_126 := zMk ((by rw [hg]; exact Nat.ne_of_lt (blk_lt (g := gb121) (o := .cells #[.int .i64 a0_0, .slice (some ad125) l0_1.length c0_1] 24 (0, 0)) (by (with_reducible repeat (first |  refine zKn ?_ _|  refine zKd ?_|  refine zKa ?_ _)); exact BK121.out)) : gb121 ≠ gb126)); have NB126_121 := zMk ((by rw [hg]; exact Nat.ne_of_gt (blk_lt (g := gb121) (o := .cells #[.int .i64 a0_0, .slice (some ad125) l0_1.length c0_1] 24 (0, 0)) (by (with_reducible repeat (first |  refine zKn ?_ _|  refine zKd ?_|  refine zKa ?_ _)); exact BK121.out)) : gb126 ≠ gb121)); replace BK121 := zMk (zKb (g := gb121) (o := .cells #[.int .i64 a0_0, .slice (some ad125) l0_1.length c0_1] 24 (0, 0)) (by (with_reducible repeat (first |  refine zKn ?_ _|  refine zKd ?_|  refine zKa ?_ _)); exact BK121.out) hb); clear hb hbox hg; have hnb21 := NB126_121.out; have hnc21 := NB121_126.out; have hcz22_0 : w20.cell? ⟨gb126, 0, none⟩ = some (.int .i64 0) := (zKc BK126.out 0).trans rfl; have hcz22_1 : w20.cell? ⟨gb126, 1, none⟩ = some (.int .i64 0) := (zKc BK126.out 1).trans rfl; have hcz22_2 : w20.cell? ⟨gb126, 2, none⟩ = some (.int .i64 0) := (zKc BK126.out 2).trans rfl; have hfz22_0 := zKf BK126.out 0; have hfz22_1 := zKf BK126.out 1; have hfz22_2 := zKf BK126.out 2))
      have n0_ : Aside0 (Kd.S (Kd.slice 51 k51) 49 (((w20.setCell ⟨gb126, 0, none⟩ (.int .i64 ((rd_T43 l0_1 x12_1).f0))).setCell ⟨gb126, 1, none⟩ (.int .i64 ((rd_T43 l0_1 x12_1).f1))).setCell ⟨gb126, 2, none⟩ (.int .i64 ((rd_T43 l0_1 x12_1).f2))) w.heap.size (fun _ => True) v123 x3_1) := ⟨by (with_reducible repeat (first |  apply Kd.S_alloc|  apply Kd.S_drewN|  apply Kd.S_drew)); exact Kd.S_mono (Kd.S_far (p := ⟨gb126, 2, none⟩) (Kd.S_far (p := ⟨gb126, 1, none⟩) (Kd.S_far (p := ⟨gb126, 0, none⟩) (Kd.S_types HO_3.out BK126.out (by decide)) (fun _ hk => hk.2) (.int .i64 ((rd_T43 l0_1 x12_1).f0))) (fun _ hk => hk.2) (.int .i64 ((rd_T43 l0_1 x12_1).f1))) (fun _ hk => hk.2) (.int .i64 ((rd_T43 l0_1 x12_1).f2))) (fun _ hk => trivial)⟩
      have n1_ : Aside0 ((((w20.setCell ⟨gb126, 0, none⟩ (.int .i64 ((rd_T43 l0_1 x12_1).f0))).setCell ⟨gb126, 1, none⟩ (.int .i64 ((rd_T43 l0_1 x12_1).f1))).setCell ⟨gb126, 2, none⟩ (.int .i64 ((rd_T43 l0_1 x12_1).f2))).heap[gb121]? = some (.cells #[.int .i64 a0_0, .slice (some ad125) l0_1.length c0_1] 24 (0, 0))) := ⟨by (with_reducible repeat (first | refine zKn ?_ _ | refine zKd ?_ | refine zKa ?_ _)); refine blk_far ?_ NB121_126.out _; (with_reducible repeat (first | refine zKn ?_ _ | refine zKd ?_ | refine zKa ?_ _)); refine blk_far ?_ NB121_126.out _; (with_reducible repeat (first | refine zKn ?_ _ | refine zKd ?_ | refine zKa ?_ _)); refine blk_far ?_ NB121_126.out _; (with_reducible repeat (first | refine zKn ?_ _ | refine zKd ?_ | refine zKa ?_ _)); exact BK121.out⟩
      have n2_ : Aside0 ((((w20.setCell ⟨gb126, 0, none⟩ (.int .i64 ((rd_T43 l0_1 x12_1).f0))).setCell ⟨gb126, 1, none⟩ (.int .i64 ((rd_T43 l0_1 x12_1).f1))).setCell ⟨gb126, 2, none⟩ (.int .i64 ((rd_T43 l0_1 x12_1).f2))).heap[gb126]? = some (.cells #[.int .i64 ((rd_T43 l0_1 x12_1).f0), .int .i64 ((rd_T43 l0_1 x12_1).f1), .int .i64 ((rd_T43 l0_1 x12_1).f2)] 43 (0, 0))) := ⟨by (with_reducible repeat (first | refine zKn ?_ _ | refine zKd ?_ | refine zKa ?_ _)); refine blk_put (cs := #[.int .i64 ((rd_T43 l0_1 x12_1).f0), .int .i64 ((rd_T43 l0_1 x12_1).f1), .int .i64 0]) ?_ 2 _ rfl; (with_reducible repeat (first | refine zKn ?_ _ | refine zKd ?_ | refine zKa ?_ _)); refine blk_put (cs := #[.int .i64 ((rd_T43 l0_1 x12_1).f0), .int .i64 0, .int .i64 0]) ?_ 1 _ rfl; (with_reducible repeat (first | refine zKn ?_ _ | refine zKd ?_ | refine zKa ?_ _)); refine blk_put (cs := #[.int .i64 0, .int .i64 0, .int .i64 0]) ?_ 0 _ rfl; (with_reducible repeat (first | refine zKn ?_ _ | refine zKd ?_ | refine zKa ?_ _)); exact BK126.out⟩
      have n3_ : Aside0 (Below w.heap.size w (((w20.setCell ⟨gb126, 0, none⟩ (.int .i64 ((rd_T43 l0_1 x12_1).f0))).setCell ⟨gb126, 1, none⟩ (.int .i64 ((rd_T43 l0_1 x12_1).f1))).setCell ⟨gb126, 2, none⟩ (.int .i64 ((rd_T43 l0_1 x12_1).f2)))) := ⟨by exact uT HB.out⟩
      generalize (((w20.setCell ⟨gb126, 0, none⟩ (.int .i64 ((rd_T43 l0_1 x12_1).f0))).setCell ⟨gb126, 1, none⟩ (.int .i64 ((rd_T43 l0_1 x12_1).f1))).setCell ⟨gb126, 2, none⟩ (.int .i64 ((rd_T43 l0_1 x12_1).f2))) = w23 at n0_ n1_ n2_ n3_ ⊢
      have HO_3 := n0_
      have BK121 := n1_
      have BK126 := n2_
      have HB := n3_
      clear n0_ n1_ n2_ n3_
      replace HO_3 := zMk (Kd.S_drew HO_3.out)
      replace BK121 := zMk (zKd BK121.out)
      replace BK126 := zMk (zKd BK126.out)
      replace HB := zMk (zBd HB.out)
      obtain ⟨Ao25, co25, eo25⟩ := Kd.S_slice HO_3.out
      (first |  subst eo25|  (injection eo25 with f1_ f2_ f3_; have f4_ := f1_.symm; have f5_ := f3_.symm; clear f1_ f2_ f3_; subst f4_; subst f5_))
      have p127 : 0 ≤ (((rd_T43 l0_1 x12_1).f0) : Int) := of_decide_eq_true (by assumption)
      have q127 : ((rd_T43 l0_1 x12_1).f0) < (x3_1.length : Int) := of_decide_eq_true (by assumption)
      obtain ⟨ad127, A127_0, c127_0, e127, hx127_0, hl127_0, hi127_0⟩ := at_L3 (Kd.S_reads' HO_3.out).2.2 ((rd_T43 l0_1 x12_1).f0) p127 q127
      cases e127
      obtain ⟨ce127, hce127, hMe127, hcc127⟩ := Kd.S_get HO_3.out [] ((rd_T43 l0_1 x12_1).f0) p127 (by first | exact q127 | exact of_decide_eq_true (by assumption) | (have e_ := (Kd.S_reads' HO_3.out).1; omega))
      obtain ⟨ve127_0, rfl, ge127_0⟩ := hMe127
      have hv127_0 := hcc127 0 _ rfl
      rw [Nat.add_zero, show ((Kd.slice 51 k51)).sz = 1 from rfl, Nat.mul_one] at hv127_0
      replace hv127_0 := zOi (hv127_0.symm.trans hx127_0)
      rw [hv127_0] at ge127_0
      have HL127_0 := zMk (show Kd.R k51 51 _ _ _ _ (rd_L3 x3_1 ((rd_T43 l0_1 x12_1).f0)) from ge127_0)
      clear hv127_0 ge127_0
      have HX127_0 := zMk hx127_0
      clear hcc127 hce127
      have HR127_0 := zMk hi127_0
      have HC127_0 := zMk hl127_0
      clear hi127_0 hl127_0
      replace p127 := eq_true p127
      replace q127 := eq_true q127
      obtain ⟨go26, co26, eo26, gb26, gl26, cl26, HG26⟩ := Kd.S_form HO_3.out (by have h_ : (((rd_T43 l0_1 x12_1).f0) : Int) < ((x3_1.length : Int) : Int) := of_decide_eq_true (by assumption); have h2_ : 0 ≤ (((rd_T43 l0_1 x12_1).f0) : Int) := (of_decide_eq_true (by assumption)); omega)
      (first |  cases eo26|  (injection eo26 with ea_ en_ ec_; (first |  subst ea_|  (injection ea_ with ea_; subst ea_)); subst ec_; clear en_))
      have GB26 := zMk gb26
      have IGB26 := ownGe GB26.out
      have GG26 := zMk HG26
      clear gb26 gl26 HG26
      (first | simp only [add_plain] at hx127_0 | skip)
      obtain ⟨oki26, ce26, hcl26, hM26, hcc26, _, _, hH26⟩ := Kd.S_elem HO_3.out [] (((rd_T43 l0_1 x12_1).f0) : Int) (of_decide_eq_true (by assumption)) (by have h_ : (((rd_T43 l0_1 x12_1).f0) : Int) < ((x3_1.length : Int) : Int) := of_decide_eq_true (by assumption); first | exact h_ | (have e_ := (Kd.S_reads' HO_3.out).1; omega) | simpa using h_)
      obtain ⟨ve26_0, rfl, ge26_0⟩ := hM26
      have hv26 := hcc26 0 _ rfl
      have hX26 := HX127_0.out
      (try simp only [add_plain] at hX26)
      (try simp only [Nat.add_zero] at hv26)
      (try rw [show ((Kd.slice 51 k51)).sz = 1 from rfl, Nat.mul_one] at hv26)
      replace hv26 := zOi (hv26.symm.trans hX26)
      subst hv26
      clear hX26 hcc26 hcl26
      have UU26 := zMk (show Kd.R k51 51 _ w.heap.size oki26 (.slice A127_0 (rd_L3 x3_1 ((rd_T43 l0_1 x12_1).f0)).length c127_0) (rd_L3 x3_1 ((rd_T43 l0_1 x12_1).f0)) from ge26_0)
      have HH26 := zMk hH26
      have HN26 := zMk (Kd.S_reads' HO_3.out).1
      clear hH26 ge26_0
      refine start_ (n := 16) (S := fun w' => w'.cell? ⟨gb126, 0, none⟩ = some (.int .i64 ((rd_T43 l0_1 x12_1).f0)) ∧ w'.cell? ⟨gb126, 1, none⟩ = some (.int .i64 ((rd_T43 l0_1 x12_1).f1)) ∧ w'.cell? ⟨gb126, 2, none⟩ = some (.int .i64 ((rd_T43 l0_1 x12_1).f2)) ∧ w'.cell? ⟨go26, (((rd_T43 l0_1 x12_1).f0)).toNat, none⟩ = some (.slice A127_0 (rd_L3 x3_1 ((rd_T43 l0_1 x12_1).f0)).length c127_0)) (ds := [15]) #[false, false, false, false, false, false, false, false, false, false, false, false, false, false, false, false] (by kernel_rfl) rfl rfl ⟨(zKc BK126.out 0).trans rfl, (zKc BK126.out 1).trans rfl, (zKc BK126.out 2).trans rfl, hx127_0⟩ (fun hHeld => ?_); refine with_tabW parts_arcs.tab5 parts_arcs.bits5 (fun HT_ HW_ => ?_)
      generalize w23.drew = w24 at HO_3 BK121 BK126 HB GG26 HH26 HL127_0 HR127_0 HX127_0 UU26 hx127_0 hHeld ⊢
      refine pure_ (i := 0) (N := some 17) (v := ?_) (a' := ?_) #[true, false, false, false, false, false, false, false, false, false, false, false, false, false, false, false] rfl rfl (any_of HT_.out (by kernel_rfl)) (fun _ _ _ h => h) (Or.inl ⟨by rfl, ?_⟩) ?_ ?_
      rotate_left
      · intro w'
        go_simp
        with_reducible rfl
      rotate_left
      · simp only [Act.put, zSa, zSb, zSc, i64_w, i32_w]
        rfl
      refine pure_ (i := 1) (N := some 18) (v := ?_) (a' := ?_) #[true, true, false, false, false, false, false, false, false, false, false, false, false, false, false, false] rfl rfl (any_of HT_.out (by kernel_rfl)) (fun _ _ _ h => h) (Or.inl ⟨by rfl, ?_⟩) ?_ ?_
      rotate_left
      · intro w'
        go_simp
        with_reducible rfl
      rotate_left
      · simp only [Act.put, zSa, zSb, zSc, i64_w, i32_w]
        rfl
      refine pure_ (i := 3) (N := some 20) (v := ?_) (a' := ?_) #[true, true, false, true, false, false, false, false, false, false, false, false, false, false, false, false] rfl rfl (any_of HT_.out (by kernel_rfl)) (fun _ _ _ h => h) (Or.inl ⟨by rfl, ?_⟩) ?_ ?_
      rotate_left
      · intro w'
        go_simp
        with_reducible rfl
      rotate_left
      · simp only [Act.put, zSa, zSb, zSc, i64_w, i32_w]
        rfl
      refine pure_ (i := 4) (N := some 21) (v := ?_) (a' := ?_) #[true, true, false, true, true, false, false, false, false, false, false, false, false, false, false, false] rfl rfl (any_of HT_.out (by kernel_rfl)) (fun _ _ _ h => h) (Or.inl ⟨by rfl, ?_⟩) ?_ ?_
      rotate_left
      · intro w'
        go_simp
        with_reducible rfl
      rotate_left
      · simp only [Act.put, zSa, zSb, zSc, i64_w, i32_w]
        rfl
      refine pure_ (i := 8) (N := some 25) (v := ?_) (a' := ?_) #[true, true, false, true, true, false, false, false, true, false, false, false, false, false, false, false] rfl rfl (any_of HT_.out (by kernel_rfl)) (fun _ _ _ h => h) (Or.inl ⟨by rfl, ?_⟩) ?_ ?_
      rotate_left
      · intro w'
        go_simp
        with_reducible rfl
      rotate_left
      · simp only [Act.put, zSa, zSb, zSc, i64_w, i32_w]
        rfl
      refine pure_ (i := 10) (N := some 27) (v := ?_) (a' := ?_) #[true, true, false, true, true, false, false, false, true, false, true, false, false, false, false, false] rfl rfl (any_of HT_.out (by kernel_rfl)) (fun _ _ _ h => h) (Or.inl ⟨by rfl, ?_⟩) ?_ ?_
      rotate_left
      · intro w'
        go_simp
        with_reducible rfl
      rotate_left
      · simp only [Act.put, zSa, zSb, zSc, i64_w, i32_w]
        rfl
      refine take_ (i := 2) (N := some 19) (v := ?_) (a' := ?_) #[true, true, true, true, true, false, false, false, true, false, true, false, false, false, false, false] rfl rfl (take_ofW HT_.out HW_.out (by kernel_rfl)) (fun _ _ _ h => h) (Or.inl ⟨by rfl, ?_⟩) hHeld ?_ ?_
      rotate_left
      · rintro w' ⟨s0, s1, s2, s3⟩
        go_simp
        with_reducible rfl
      rotate_left
      · simp only [Act.put, zSa, zSb, zSc, i64_w, i32_w]
        rfl
      refine take_ (i := 5) (N := some 22) (v := ?_) (a' := ?_) #[true, true, true, true, true, true, false, false, true, false, true, false, false, false, false, false] rfl rfl (take_ofW HT_.out HW_.out (by kernel_rfl)) (fun _ _ _ h => h) (Or.inl ⟨by rfl, ?_⟩) hHeld ?_ ?_
      rotate_left
      · rintro w' ⟨s0, s1, s2, s3⟩
        go_simp
        with_reducible rfl
      rotate_left
      · simp only [Act.put, zSa, zSb, zSc, i64_w, i32_w]
        rfl
      refine pure_ (i := 6) (N := some 23) (v := ?_) (a' := ?_) #[true, true, true, true, true, true, true, false, true, false, true, false, false, false, false, false] rfl rfl (any_of HT_.out (by kernel_rfl)) (fun _ _ _ h => h) (Or.inl ⟨by rfl, ?_⟩) ?_ ?_
      rotate_left
      · intro w'
        go_simp
        with_reducible rfl
      rotate_left
      · simp only [Act.put, zSa, zSb, zSc, i64_w, i32_w]
        rfl
      refine take_ (i := 7) (N := some 24) (v := ?_) (a' := ?_) #[true, true, true, true, true, true, true, true, true, false, true, false, false, false, false, false] rfl rfl (take_ofW HT_.out HW_.out (by kernel_rfl)) (fun _ _ _ h => h) (Or.inl ⟨by rfl, ?_⟩) hHeld ?_ ?_
      rotate_left
      · rintro w' ⟨s0, s1, s2, s3⟩
        go_simp
        with_reducible rfl
      rotate_left
      · simp only [Act.put, zSa, zSb, zSc, i64_w, i32_w]
        rfl
      refine take_ (i := 9) (N := some 26) (v := ?_) (a' := ?_) #[true, true, true, true, true, true, true, true, true, true, true, false, false, false, false, false] rfl rfl (take_ofW HT_.out HW_.out (by kernel_rfl)) (fun _ _ _ h => h) (Or.inl ⟨by rfl, ?_⟩) hHeld ?_ ?_
      rotate_left
      · rintro w' ⟨s0, s1, s2, s3⟩
        go_simp
        with_reducible rfl
      rotate_left
      · simp only [Act.put, zSa, zSb, zSc, i64_w, i32_w]
        rfl
      refine pure_ (i := 11) (N := some 28) (v := ?_) (a' := ?_) #[true, true, true, true, true, true, true, true, true, true, true, true, false, false, false, false] rfl rfl (any_of HT_.out (by kernel_rfl)) (fun _ _ _ h => h) (Or.inl ⟨by rfl, ?_⟩) ?_ ?_
      rotate_left
      · intro w'
        go_simp
        with_reducible rfl
      rotate_left
      · simp only [Act.put, zSa, zSb, zSc, i64_w, i32_w]
        rfl
      refine one_ (i := 12) (N := some 29) #[true, true, true, true, true, true, true, true, true, true, true, true, true, false, false, false] rfl rfl (one_of HT_.out (by kernel_rfl)) (by decide) (fun K hK => ?_)
      refine value_ (w1 := ?_) (v := ?_) (by rfl) rfl ?_ ?_
      rotate_left 2
      · go_simp
        constructor
        · rfl
        · rfl
      refine hK.out _ _ ⟨(zKc (zKa BK126.out _) 0).trans rfl, (zKc (zKa BK126.out _) 1).trans rfl, (zKc (zKa BK126.out _) 2).trans rfl, (World.cell?_alloc_lt _ _ _ (World.block_lt_of_cell? _ _ (hHeld.2.2.2))).trans (hHeld.2.2.2)⟩ (fun hHeld => ?_)
      clear hK K
      refine norm_ (a' := ?_) ?_ ?_
      rotate_left
      · show Act.put _ (some 29) _ = _
        simp only [Act.put, zSa, zSb, zSc, i64_w, i32_w]
        rfl
      refine one_ (i := 13) (N := some 30) #[true, true, true, true, true, true, true, true, true, true, true, true, true, true, false, false] rfl rfl (one_of HT_.out (by kernel_rfl)) (by decide) (fun K hK => ?_)
      refine Kd.R_append_step k51 (w0 := w) w.heap.size (by rfl) (.tmp 24) (.tmp 29) 49 51 (.agg #[(.int .i64 0), (.int .i64 0)]) 16 rfl Try.underlying49 info51 rfl (by decide) (by omega) (.slice A127_0 (rd_L3 x3_1 ((rd_T43 l0_1 x12_1).f0)).length c127_0) (rd_L3 x3_1 ((rd_T43 l0_1 x12_1).f0)) (⟨(rd_T43 l0_1 x12_1).f1, x12_1⟩ : S51) [.int .i64 ((rd_T43 l0_1 x12_1).f1), .int .i64 x12_1] (fun k_ => oki26 k_ ∨ ((fun _ => True)) k_ ∧ w24.heap.size ≤ k_) (fun _ => False) rfl rfl ?aP (fun _ hk => hk.elim) ?aF ?aO ?aB ?aS ?aL ?_
      (case aP => exact k51_mkM _ _ _ (⟨(rd_T43 l0_1 x12_1).f1, x12_1⟩ : S51))
      (case aB => exact (by exact uT HB.out))
      (case aF => exact (fun k_ hk => .inr ⟨trivial, hk⟩))
      (case aO => exact (by (with_reducible repeat (first | apply zRa | apply zRn | apply zRd)); exact zRm UU26.out (fun _ hk => .inl hk)))
      (case aS => exact (zBs (by exact uT HB.out)))
      (case aL => have := LMc14.out; omega)
      intro v129 w27 ho hb hg hat
      (first | have HS3_ := Go.Proofs.YtkiemlbobcklpaaW.PrintWords.cell_grown hg (hHeld.2.2.2) (by first | (rw [add_block]; exact (fun e_ => ((HL127_0.out.1 _ e_.symm).2) rfl)) | (show some (Addr.add _ _).block ≠ _; rw [add_block]; exact (fun e_ => ((HL127_0.out.1 _ e_.symm).2) rfl)) | exact (fun e_ => ((HL127_0.out.1 _ e_.symm).2) rfl)) | have HS3_ := Go.Proofs.YtkiemlbobcklpaaW.PrintWords.cell_grown hg (cell_unalloc (hHeld.2.2.2) (by first | (rw [add_block]; exact Kd.S_lt HO_3.out _ rfl) | (show (Addr.add _ _).block < _; rw [add_block]; exact Kd.S_lt HO_3.out _ rfl) | exact Kd.S_lt HO_3.out _ rfl)) (by first | (rw [add_block]; exact (fun e_ => ((HL127_0.out.1 _ e_.symm).2) rfl)) | (show some (Addr.add _ _).block ≠ _; rw [add_block]; exact (fun e_ => ((HL127_0.out.1 _ e_.symm).2) rfl)) | exact (fun e_ => ((HL127_0.out.1 _ e_.symm).2) rfl)))
      rw [← Ny128.out] at ho
      replace BK121 := zMk (blk_grown (g := gb121) (o := .cells #[.int .i64 a0_0, .slice (some ad125) l0_1.length c0_1] 24 (0, 0)) (by (with_reducible repeat (first | refine zKn ?_ _ | refine zKd ?_ | refine zKa ?_ _)); exact BK121.out) hg (Kd.R_ne HL127_0.out BK121.out (by decide)))
      replace BK126 := zMk (blk_grown (g := gb126) (o := .cells #[.int .i64 ((rd_T43 l0_1 x12_1).f0), .int .i64 ((rd_T43 l0_1 x12_1).f1), .int .i64 ((rd_T43 l0_1 x12_1).f2)] 43 (0, 0)) (by (with_reducible repeat (first | refine zKn ?_ _ | refine zKd ?_ | refine zKa ?_ _)); exact BK126.out) hg (Kd.R_ne HL127_0.out BK126.out (by decide)))
      replace HB := zMk (hb)
      replace HH26 := zMk (Kd.H_grown (Kd.H_widen (by repeat (first | exact HH26.out | refine Kd.H_alloc ?_ _ | refine Kd.H_drewN ?_ _ | refine Kd.H_drew ?_))) hg (fun k_ e_ => .inl (UU26.out.1 k_ e_)))
      have HO130 := zMk (ho)
      clear HO_3 UU26 HL127_0 ho hb hg hat
      have p15 : 0 ≤ (((rd_T43 l0_1 x12_1).f0) : Int) := of_decide_eq_true (by assumption)
      have q15 : (((rd_T43 l0_1 x12_1).f0) : Int) < ((x3_1.length : Int) : Int) := of_decide_eq_true (by assumption)
      replace p15 := eq_true p15
      replace q15 := eq_true q15
      obtain ⟨Ao30, co30, eo30⟩ := zRs HO130.out
      (first |  subst eo30|  (injection eo30 with f1_ f2_ f3_; have f4_ := f1_.symm; have f5_ := f3_.symm; clear f1_ f2_ f3_; subst f4_; subst f5_))
      obtain ⟨_, _, hraw28, _, _, hcc28, _⟩ := Kd.H_raw HH26.out (of_decide_eq_true (by assumption)) (by have h_ : (((rd_T43 l0_1 x12_1).f0) : Int) < ((x3_1.length : Int) : Int) := of_decide_eq_true (by assumption); first | exact h_ | (have e_ := (HN26.out); omega) | simpa using h_)
      obtain ⟨_, hfr28⟩ := Kd.H_at HH26.out (of_decide_eq_true (by assumption)) (by have h_ : (((rd_T43 l0_1 x12_1).f0) : Int) < ((x3_1.length : Int) : Int) := of_decide_eq_true (by assumption); first | exact h_ | (have e_ := (HN26.out); omega) | simpa using h_)
      have hx28_0 := hcc28 0 _ rfl
      have hf28_0 := hfr28 0
      (try simp only [Nat.add_zero] at hx28_0 hf28_0)
      (try rw [show ((Kd.slice 51 k51)).sz = 1 from rfl, Nat.mul_one] at hx28_0)
      (try rw [show ((Kd.slice 51 k51)).sz = 1 from rfl, Nat.mul_one] at hf28_0)
      have HP28 := Kd.S_seg0 HH26.out (of_decide_eq_true (by assumption)) (by have h_ : (((rd_T43 l0_1 x12_1).f0) : Int) < ((x3_1.length : Int) : Int) := of_decide_eq_true (by assumption); first | exact h_ | (have e_ := (HN26.out); omega) | simpa using h_) (seg := [.slice Ao30 y128.length co30]) (j := 0) (show 1 ≤ 1 from by decide) (x' := y128) (Kd.M_row HO130.out) (fun _ hk => hk)
      (try simp only [show ((Kd.slice 51 k51)).sz = 1 from rfl, Nat.mul_one, Nat.add_zero] at HP28)
      clear hcc28 hfr28
      have HNB121_go26 := zMk (show gb121 ≠ go26 from by have h_ := Kd.R_ne hraw28 BK121.out (by decide); intro e_; exact h_ (by rw [e_]; rfl))
      have HNB126_go26 := zMk (show gb126 ≠ go26 from by have h_ := Kd.R_ne hraw28 BK126.out (by decide); intro e_; exact h_ (by rw [e_]; rfl))
      have HS28 := HP28.1
      rw [← Ny131.out] at HS28
      have HQ28 := zMk HS28
      obtain ⟨_, hgg28⟩ := Kd.R_typed hraw28 go26 rfl
      have GG28_ := zMk hgg28
      clear HP28 HS28 hgg28
      refine hK.out _ _ ⟨(zKc BK126.out 0).trans rfl, (zKc BK126.out 1).trans rfl, (zKc BK126.out 2).trans rfl, HS3_⟩ (fun hHeld => ?_)
      clear hK K
      refine norm_ (a' := ?_) ?_ ?_
      rotate_left
      · show Act.put _ (some 30) _ = _
        simp only [Act.put, zSa, zSb, zSc, i64_w, i32_w]
        rfl
      refine pure_ (i := 14) (N := some 31) (v := ?_) (a' := ?_) #[true, true, true, true, true, true, true, true, true, true, true, true, true, true, true, false] rfl rfl (any_of HT_.out (by kernel_rfl)) (fun _ _ _ h => h) (Or.inl ⟨by rfl, ?_⟩) ?_ ?_
      rotate_left
      · intro w'
        go_simp
        with_reducible rfl
      rotate_left
      · simp only [Act.put, zSa, zSb, zSc, i64_w, i32_w]
        rfl
      refine last_ (i := 15) (N := none) #[true, true, true, true, true, true, true, true, true, true, true, true, true, true, true, true] rfl rfl (one_of HT_.out (by kernel_rfl)) (by decide) (fun K hK => ?_)
      refine skip_ (w1 := ?_) (by rfl) rfl ?_ ?_
      rotate_left
      · go_simp
        rfl
      refine hK.out _ _ ?_
      clear hK K
      refine done_ (done_of HT_.out (by kernel_rfl)) ?_
      try go_wp2
      have n0_ : Aside0 (Kd.S (Kd.slice 51 k51) 49 (w27.setCell ⟨go26, (((rd_T43 l0_1 x12_1).f0) : Int).toNat, none⟩ (.slice Ao30 y128.length co30)) w.heap.size (fun _ => True) (.slice (some ⟨go26, 0, none⟩) x3_1.length co25) y131) := ⟨by (with_reducible repeat (first |  apply Kd.S_alloc|  apply Kd.S_drewN|  apply Kd.S_drew)); exact HQ28.out⟩
      have n1_ : Aside0 ((w27.setCell ⟨go26, (((rd_T43 l0_1 x12_1).f0) : Int).toNat, none⟩ (.slice Ao30 y128.length co30)).heap[gb121]? = some (.cells #[.int .i64 a0_0, .slice (some ad125) l0_1.length c0_1] 24 (0, 0))) := ⟨by (with_reducible repeat (first | refine zKn ?_ _ | refine zKd ?_ | refine zKa ?_ _)); refine blk_far ?_ HNB121_go26.out _; (with_reducible repeat (first | refine zKn ?_ _ | refine zKd ?_ | refine zKa ?_ _)); exact BK121.out⟩
      have n2_ : Aside0 ((w27.setCell ⟨go26, (((rd_T43 l0_1 x12_1).f0) : Int).toNat, none⟩ (.slice Ao30 y128.length co30)).heap[gb126]? = some (.cells #[.int .i64 ((rd_T43 l0_1 x12_1).f0), .int .i64 ((rd_T43 l0_1 x12_1).f1), .int .i64 ((rd_T43 l0_1 x12_1).f2)] 43 (0, 0))) := ⟨by (with_reducible repeat (first | refine zKn ?_ _ | refine zKd ?_ | refine zKa ?_ _)); refine blk_far ?_ HNB126_go26.out _; (with_reducible repeat (first | refine zKn ?_ _ | refine zKd ?_ | refine zKa ?_ _)); exact BK126.out⟩
      have n3_ : Aside0 (Below w.heap.size w (w27.setCell ⟨go26, (((rd_T43 l0_1 x12_1).f0) : Int).toNat, none⟩ (.slice Ao30 y128.length co30))) := ⟨by exact uT HB.out⟩
      generalize (w27.setCell ⟨go26, (((rd_T43 l0_1 x12_1).f0) : Int).toNat, none⟩ (.slice Ao30 y128.length co30)) = w31 at n0_ n1_ n2_ n3_ ⊢
      have HO_3 := n0_
      have BK121 := n1_
      have BK126 := n2_
      have HB := n3_
      clear n0_ n1_ n2_ n3_
      replace HO_3 := zMk (Kd.S_drew HO_3.out)
      replace BK121 := zMk (zKd BK121.out)
      replace BK126 := zMk (zKd BK126.out)
      replace HB := zMk (zBd HB.out)
      have p132 : 0 ≤ (((rd_T43 l0_1 x12_1).f1) : Int) := of_decide_eq_true (by assumption)
      have q132 : ((rd_T43 l0_1 x12_1).f1) < (y131.length : Int) := (by have h_ : (((rd_T43 l0_1 x12_1).f1) : Int) < ((x3_1.length : Int) : Int) := of_decide_eq_true (by assumption); first | (have e_ := (Kd.S_reads' HO_3.out).1; omega) | simpa only [Ny131.out, List.length_set] using h_)
      have ql132 : ((((rd_T43 l0_1 x12_1).f1) : Int) < ((x3_1.length : Int) : Int)) = True := eq_true (of_decide_eq_true (by assumption))
      obtain ⟨ad132, A132_0, c132_0, e132, hx132_0, hl132_0, hi132_0⟩ := at_L3 (Kd.S_reads' HO_3.out).2.2 ((rd_T43 l0_1 x12_1).f1) p132 q132
      obtain rfl : (⟨go26, 0, none⟩ : Addr) = ad132 := (by injection e132)
      obtain ⟨ce132, hce132, hMe132, hcc132⟩ := Kd.S_get HO_3.out [] ((rd_T43 l0_1 x12_1).f1) p132 (by first | exact q132 | exact of_decide_eq_true (by assumption) | (have e_ := (Kd.S_reads' HO_3.out).1; omega))
      obtain ⟨ve132_0, rfl, ge132_0⟩ := hMe132
      have hv132_0 := hcc132 0 _ rfl
      rw [Nat.add_zero, show ((Kd.slice 51 k51)).sz = 1 from rfl, Nat.mul_one] at hv132_0
      replace hv132_0 := zOi (hv132_0.symm.trans hx132_0)
      rw [hv132_0] at ge132_0
      have HL132_0 := zMk (show Kd.R k51 51 _ _ _ _ (rd_L3 y131 ((rd_T43 l0_1 x12_1).f1)) from ge132_0)
      clear hv132_0 ge132_0
      have HX132_0 := zMk hx132_0
      clear hcc132 hce132
      (first | simp only [add_plain] at hx132_0 | simp only [add_at] at hx132_0 | simp only [Addr.add, Nat.zero_add] at hx132_0 | skip)
      have HR132_0 := zMk hi132_0
      have HC132_0 := zMk hl132_0
      clear hi132_0 hl132_0
      replace p132 := eq_true p132
      replace q132 := eq_true q132
      obtain ⟨oki33, ce33, hcl33, hM33, hcc33, _, _, hH33⟩ := Kd.S_elem HO_3.out [] (((rd_T43 l0_1 x12_1).f1) : Int) (of_decide_eq_true (by assumption)) (by have h_ : (((rd_T43 l0_1 x12_1).f1) : Int) < ((x3_1.length : Int) : Int) := of_decide_eq_true (by assumption); first | exact h_ | (have e_ := (Kd.S_reads' HO_3.out).1; omega) | simpa using h_)
      obtain ⟨ve33_0, rfl, ge33_0⟩ := hM33
      have hv33 := hcc33 0 _ rfl
      have hX33 := HX132_0.out
      (try simp only [add_plain] at hX33)
      (try simp only [Nat.add_zero] at hv33)
      (try rw [show ((Kd.slice 51 k51)).sz = 1 from rfl, Nat.mul_one] at hv33)
      replace hv33 := zOi (hv33.symm.trans hX33)
      subst hv33
      clear hX33 hcc33 hcl33
      have UU33 := zMk (show Kd.R k51 51 _ w.heap.size oki33 (.slice A132_0 (rd_L3 y131 ((rd_T43 l0_1 x12_1).f1)).length c132_0) (rd_L3 y131 ((rd_T43 l0_1 x12_1).f1)) from ge33_0)
      have HH33 := zMk hH33
      have HN33 := zMk (Kd.S_reads' HO_3.out).1
      clear hH33 ge33_0
      refine start_ (n := 16) (S := fun w' => w'.cell? ⟨gb126, 0, none⟩ = some (.int .i64 ((rd_T43 l0_1 x12_1).f0)) ∧ w'.cell? ⟨gb126, 1, none⟩ = some (.int .i64 ((rd_T43 l0_1 x12_1).f1)) ∧ w'.cell? ⟨gb126, 2, none⟩ = some (.int .i64 ((rd_T43 l0_1 x12_1).f2)) ∧ w'.cell? ⟨go26, (((rd_T43 l0_1 x12_1).f1)).toNat, none⟩ = some (.slice A132_0 (rd_L3 y131 ((rd_T43 l0_1 x12_1).f1)).length c132_0)) (ds := [15]) #[false, false, false, false, false, false, false, false, false, false, false, false, false, false, false, false] (by kernel_rfl) rfl rfl ⟨(zKc BK126.out 0).trans rfl, (zKc BK126.out 1).trans rfl, (zKc BK126.out 2).trans rfl, hx132_0⟩ (fun hHeld => ?_); refine with_tabW parts_arcs.tab6 parts_arcs.bits6 (fun HT_ HW_ => ?_)
      generalize w31.drew = w32 at HO_3 BK121 BK126 HB HH33 HL132_0 HQ28 HR132_0 HX132_0 UU33 hx132_0 hHeld ⊢
      refine pure_ (i := 0) (N := some 32) (v := ?_) (a' := ?_) #[true, false, false, false, false, false, false, false, false, false, false, false, false, false, false, false] rfl rfl (any_of HT_.out (by kernel_rfl)) (fun _ _ _ h => h) (Or.inl ⟨by rfl, ?_⟩) ?_ ?_
      rotate_left
      · intro w'
        go_simp
        with_reducible rfl
      rotate_left
      · simp only [Act.put, zSa, zSb, zSc, i64_w, i32_w]
        rfl
      refine pure_ (i := 1) (N := some 33) (v := ?_) (a' := ?_) #[true, true, false, false, false, false, false, false, false, false, false, false, false, false, false, false] rfl rfl (any_of HT_.out (by kernel_rfl)) (fun _ _ _ h => h) (Or.inl ⟨by rfl, ?_⟩) ?_ ?_
      rotate_left
      · intro w'
        go_simp
        with_reducible rfl
      rotate_left
      · simp only [Act.put, zSa, zSb, zSc, i64_w, i32_w]
        rfl
      refine pure_ (i := 3) (N := some 35) (v := ?_) (a' := ?_) #[true, true, false, true, false, false, false, false, false, false, false, false, false, false, false, false] rfl rfl (any_of HT_.out (by kernel_rfl)) (fun _ _ _ h => h) (Or.inl ⟨by rfl, ?_⟩) ?_ ?_
      rotate_left
      · intro w'
        go_simp
        with_reducible rfl
      rotate_left
      · simp only [Act.put, zSa, zSb, zSc, i64_w, i32_w]
        rfl
      refine pure_ (i := 4) (N := some 36) (v := ?_) (a' := ?_) #[true, true, false, true, true, false, false, false, false, false, false, false, false, false, false, false] rfl rfl (any_of HT_.out (by kernel_rfl)) (fun _ _ _ h => h) (Or.inl ⟨by rfl, ?_⟩) ?_ ?_
      rotate_left
      · intro w'
        go_simp
        with_reducible rfl
      rotate_left
      · simp only [Act.put, zSa, zSb, zSc, i64_w, i32_w]
        rfl
      refine pure_ (i := 8) (N := some 40) (v := ?_) (a' := ?_) #[true, true, false, true, true, false, false, false, true, false, false, false, false, false, false, false] rfl rfl (any_of HT_.out (by kernel_rfl)) (fun _ _ _ h => h) (Or.inl ⟨by rfl, ?_⟩) ?_ ?_
      rotate_left
      · intro w'
        go_simp
        with_reducible rfl
      rotate_left
      · simp only [Act.put, zSa, zSb, zSc, i64_w, i32_w]
        rfl
      refine pure_ (i := 10) (N := some 42) (v := ?_) (a' := ?_) #[true, true, false, true, true, false, false, false, true, false, true, false, false, false, false, false] rfl rfl (any_of HT_.out (by kernel_rfl)) (fun _ _ _ h => h) (Or.inl ⟨by rfl, ?_⟩) ?_ ?_
      rotate_left
      · intro w'
        go_simp
        with_reducible rfl
      rotate_left
      · simp only [Act.put, zSa, zSb, zSc, i64_w, i32_w]
        rfl
      refine take_ (i := 2) (N := some 34) (v := ?_) (a' := ?_) #[true, true, true, true, true, false, false, false, true, false, true, false, false, false, false, false] rfl rfl (take_ofW HT_.out HW_.out (by kernel_rfl)) (fun _ _ _ h => h) (Or.inl ⟨by rfl, ?_⟩) hHeld ?_ ?_
      rotate_left
      · rintro w' ⟨s0, s1, s2, s3⟩
        go_simp
        with_reducible rfl
      rotate_left
      · simp only [Act.put, zSa, zSb, zSc, i64_w, i32_w]
        rfl
      refine take_ (i := 5) (N := some 37) (v := ?_) (a' := ?_) #[true, true, true, true, true, true, false, false, true, false, true, false, false, false, false, false] rfl rfl (take_ofW HT_.out HW_.out (by kernel_rfl)) (fun _ _ _ h => h) (Or.inl ⟨by rfl, ?_⟩) hHeld ?_ ?_
      rotate_left
      · rintro w' ⟨s0, s1, s2, s3⟩
        go_simp
        with_reducible rfl
      rotate_left
      · simp only [Act.put, zSa, zSb, zSc, i64_w, i32_w]
        rfl
      refine pure_ (i := 6) (N := some 38) (v := ?_) (a' := ?_) #[true, true, true, true, true, true, true, false, true, false, true, false, false, false, false, false] rfl rfl (any_of HT_.out (by kernel_rfl)) (fun _ _ _ h => h) (Or.inl ⟨by rfl, ?_⟩) ?_ ?_
      rotate_left
      · intro w'
        go_simp
        with_reducible rfl
      rotate_left
      · simp only [Act.put, zSa, zSb, zSc, i64_w, i32_w]
        rfl
      refine take_ (i := 7) (N := some 39) (v := ?_) (a' := ?_) #[true, true, true, true, true, true, true, true, true, false, true, false, false, false, false, false] rfl rfl (take_ofW HT_.out HW_.out (by kernel_rfl)) (fun _ _ _ h => h) (Or.inl ⟨by rfl, ?_⟩) hHeld ?_ ?_
      rotate_left
      · rintro w' ⟨s0, s1, s2, s3⟩
        go_simp
        with_reducible rfl
      rotate_left
      · simp only [Act.put, zSa, zSb, zSc, i64_w, i32_w]
        rfl
      refine take_ (i := 9) (N := some 41) (v := ?_) (a' := ?_) #[true, true, true, true, true, true, true, true, true, true, true, false, false, false, false, false] rfl rfl (take_ofW HT_.out HW_.out (by kernel_rfl)) (fun _ _ _ h => h) (Or.inl ⟨by rfl, ?_⟩) hHeld ?_ ?_
      rotate_left
      · rintro w' ⟨s0, s1, s2, s3⟩
        go_simp
        with_reducible rfl
      rotate_left
      · simp only [Act.put, zSa, zSb, zSc, i64_w, i32_w]
        rfl
      refine pure_ (i := 11) (N := some 43) (v := ?_) (a' := ?_) #[true, true, true, true, true, true, true, true, true, true, true, true, false, false, false, false] rfl rfl (any_of HT_.out (by kernel_rfl)) (fun _ _ _ h => h) (Or.inl ⟨by rfl, ?_⟩) ?_ ?_
      rotate_left
      · intro w'
        go_simp
        with_reducible rfl
      rotate_left
      · simp only [Act.put, zSa, zSb, zSc, i64_w, i32_w]
        rfl
      refine one_ (i := 12) (N := some 44) #[true, true, true, true, true, true, true, true, true, true, true, true, true, false, false, false] rfl rfl (one_of HT_.out (by kernel_rfl)) (by decide) (fun K hK => ?_)
      refine value_ (w1 := ?_) (v := ?_) (by rfl) rfl ?_ ?_
      rotate_left 2
      · go_simp
        constructor
        · rfl
        · rfl
      refine hK.out _ _ ⟨(zKc (zKa BK126.out _) 0).trans rfl, (zKc (zKa BK126.out _) 1).trans rfl, (zKc (zKa BK126.out _) 2).trans rfl, (World.cell?_alloc_lt _ _ _ (World.block_lt_of_cell? _ _ (hHeld.2.2.2))).trans (hHeld.2.2.2)⟩ (fun hHeld => ?_)
      clear hK K
      refine norm_ (a' := ?_) ?_ ?_
      rotate_left
      · show Act.put _ (some 44) _ = _
        simp only [Act.put, zSa, zSb, zSc, i64_w, i32_w]
        rfl
      refine one_ (i := 13) (N := some 45) #[true, true, true, true, true, true, true, true, true, true, true, true, true, true, false, false] rfl rfl (one_of HT_.out (by kernel_rfl)) (by decide) (fun K hK => ?_)
      refine Kd.R_append_step k51 (w0 := w) w.heap.size (by rfl) (.tmp 39) (.tmp 44) 49 51 (.agg #[(.int .i64 0), (.int .i64 0)]) 16 rfl Try.underlying49 info51 rfl (by decide) (by omega) (.slice A132_0 (rd_L3 y131 ((rd_T43 l0_1 x12_1).f1)).length c132_0) (rd_L3 y131 ((rd_T43 l0_1 x12_1).f1)) (⟨(rd_T43 l0_1 x12_1).f0, x12_1⟩ : S51) [.int .i64 ((rd_T43 l0_1 x12_1).f0), .int .i64 x12_1] (fun k_ => oki33 k_ ∨ ((fun _ => True)) k_ ∧ w32.heap.size ≤ k_) (fun _ => False) rfl rfl ?aP (fun _ hk => hk.elim) ?aF ?aO ?aB ?aS ?aL ?_
      (case aP => exact k51_mkM _ _ _ (⟨(rd_T43 l0_1 x12_1).f0, x12_1⟩ : S51))
      (case aB => exact (by exact uT HB.out))
      (case aF => exact (fun k_ hk => .inr ⟨trivial, hk⟩))
      (case aO => exact (by (with_reducible repeat (first | apply zRa | apply zRn | apply zRd)); exact zRm UU33.out (fun _ hk => .inl hk)))
      (case aS => exact (zBs (by exact uT HB.out)))
      (case aL => have := LMc18.out; omega)
      intro v134 w34 ho hb hg hat
      (first | have HS3_ := Go.Proofs.YtkiemlbobcklpaaW.PrintWords.cell_grown hg (hHeld.2.2.2) (by first | (rw [add_block]; exact (fun e_ => ((HL132_0.out.1 _ e_.symm).2) rfl)) | (show some (Addr.add _ _).block ≠ _; rw [add_block]; exact (fun e_ => ((HL132_0.out.1 _ e_.symm).2) rfl)) | exact (fun e_ => ((HL132_0.out.1 _ e_.symm).2) rfl)) | have HS3_ := Go.Proofs.YtkiemlbobcklpaaW.PrintWords.cell_grown hg (cell_unalloc (hHeld.2.2.2) (by first | (rw [add_block]; exact Kd.S_lt HO_3.out _ rfl) | (show (Addr.add _ _).block < _; rw [add_block]; exact Kd.S_lt HO_3.out _ rfl) | exact Kd.S_lt HO_3.out _ rfl)) (by first | (rw [add_block]; exact (fun e_ => ((HL132_0.out.1 _ e_.symm).2) rfl)) | (show some (Addr.add _ _).block ≠ _; rw [add_block]; exact (fun e_ => ((HL132_0.out.1 _ e_.symm).2) rfl)) | exact (fun e_ => ((HL132_0.out.1 _ e_.symm).2) rfl)))
      rw [← Ny133.out] at ho
      replace BK121 := zMk (blk_grown (g := gb121) (o := .cells #[.int .i64 a0_0, .slice (some ad125) l0_1.length c0_1] 24 (0, 0)) (by (with_reducible repeat (first | refine zKn ?_ _ | refine zKd ?_ | refine zKa ?_ _)); exact BK121.out) hg (Kd.R_ne HL132_0.out BK121.out (by decide)))
      replace BK126 := zMk (blk_grown (g := gb126) (o := .cells #[.int .i64 ((rd_T43 l0_1 x12_1).f0), .int .i64 ((rd_T43 l0_1 x12_1).f1), .int .i64 ((rd_T43 l0_1 x12_1).f2)] 43 (0, 0)) (by (with_reducible repeat (first | refine zKn ?_ _ | refine zKd ?_ | refine zKa ?_ _)); exact BK126.out) hg (Kd.R_ne HL132_0.out BK126.out (by decide)))
      replace HB := zMk (hb)
      replace HH33 := zMk (Kd.H_grown (Kd.H_widen (by repeat (first | exact HH33.out | refine Kd.H_alloc ?_ _ | refine Kd.H_drewN ?_ _ | refine Kd.H_drew ?_))) hg (fun k_ e_ => .inl (UU33.out.1 k_ e_)))
      have HO135 := zMk (ho)
      clear HO_3 UU33 HL132_0 ho hb hg hat
      have p19 : 0 ≤ (((rd_T43 l0_1 x12_1).f1) : Int) := of_decide_eq_true (by assumption)
      have q19 : (((rd_T43 l0_1 x12_1).f1) : Int) < ((x3_1.length : Int) : Int) := of_decide_eq_true (by assumption)
      replace p19 := eq_true p19
      replace q19 := eq_true q19
      obtain ⟨Ao37, co37, eo37⟩ := zRs HO135.out
      (first |  subst eo37|  (injection eo37 with f1_ f2_ f3_; have f4_ := f1_.symm; have f5_ := f3_.symm; clear f1_ f2_ f3_; subst f4_; subst f5_))
      obtain ⟨_, _, hraw35, _, _, hcc35, _⟩ := Kd.H_raw HH33.out (of_decide_eq_true (by assumption)) (by have h_ : (((rd_T43 l0_1 x12_1).f1) : Int) < ((x3_1.length : Int) : Int) := of_decide_eq_true (by assumption); first | exact h_ | (have e_ := (HN33.out); omega) | simpa using h_)
      obtain ⟨_, hfr35⟩ := Kd.H_at HH33.out (of_decide_eq_true (by assumption)) (by have h_ : (((rd_T43 l0_1 x12_1).f1) : Int) < ((x3_1.length : Int) : Int) := of_decide_eq_true (by assumption); first | exact h_ | (have e_ := (HN33.out); omega) | simpa using h_)
      have hx35_0 := hcc35 0 _ rfl
      have hf35_0 := hfr35 0
      (try simp only [Nat.add_zero] at hx35_0 hf35_0)
      (try rw [show ((Kd.slice 51 k51)).sz = 1 from rfl, Nat.mul_one] at hx35_0)
      (try rw [show ((Kd.slice 51 k51)).sz = 1 from rfl, Nat.mul_one] at hf35_0)
      have HP35 := Kd.S_seg0 HH33.out (of_decide_eq_true (by assumption)) (by have h_ : (((rd_T43 l0_1 x12_1).f1) : Int) < ((x3_1.length : Int) : Int) := of_decide_eq_true (by assumption); first | exact h_ | (have e_ := (HN33.out); omega) | simpa using h_) (seg := [.slice Ao37 y133.length co37]) (j := 0) (show 1 ≤ 1 from by decide) (x' := y133) (Kd.M_row HO135.out) (fun _ hk => hk)
      (try simp only [show ((Kd.slice 51 k51)).sz = 1 from rfl, Nat.mul_one, Nat.add_zero] at HP35)
      clear hcc35 hfr35
      have HNB121_go26 := zMk (show gb121 ≠ go26 from by have h_ := Kd.R_ne hraw35 BK121.out (by decide); intro e_; exact h_ (by rw [e_]; rfl))
      have HNB126_go26 := zMk (show gb126 ≠ go26 from by have h_ := Kd.R_ne hraw35 BK126.out (by decide); intro e_; exact h_ (by rw [e_]; rfl))
      have HS35 := HP35.1
      rw [← Ny136.out] at HS35
      have HQ35 := zMk HS35
      obtain ⟨_, hgg35⟩ := Kd.R_typed hraw35 go26 rfl
      have GG35_ := zMk hgg35
      clear HP35 HS35 hgg35
      refine hK.out _ _ ⟨(zKc BK126.out 0).trans rfl, (zKc BK126.out 1).trans rfl, (zKc BK126.out 2).trans rfl, HS3_⟩ (fun hHeld => ?_)
      clear hK K
      refine norm_ (a' := ?_) ?_ ?_
      rotate_left
      · show Act.put _ (some 45) _ = _
        simp only [Act.put, zSa, zSb, zSc, i64_w, i32_w]
        rfl
      refine pure_ (i := 14) (N := some 46) (v := ?_) (a' := ?_) #[true, true, true, true, true, true, true, true, true, true, true, true, true, true, true, false] rfl rfl (any_of HT_.out (by kernel_rfl)) (fun _ _ _ h => h) (Or.inl ⟨by rfl, ?_⟩) ?_ ?_
      rotate_left
      · intro w'
        go_simp
        with_reducible rfl
      rotate_left
      · simp only [Act.put, zSa, zSb, zSc, i64_w, i32_w]
        rfl
      refine last_ (i := 15) (N := none) #[true, true, true, true, true, true, true, true, true, true, true, true, true, true, true, true] rfl rfl (one_of HT_.out (by kernel_rfl)) (by decide) (fun K hK => ?_)
      refine skip_ (w1 := ?_) (by rfl) rfl ?_ ?_
      rotate_left
      · go_simp
        rfl
      refine hK.out _ _ ?_
      clear hK K
      refine done_ (done_of HT_.out (by kernel_rfl)) ?_
      try go_wp2
      go_roundg k1
      case measure => have := HK1.out; omega
      case rel => exact ⟨(y136), (wrap64 (x12_1 + 1)), (by first | rfl | (simp; done) | (simp [*]; done)), H', ⟨by have := HK1.out; omega⟩, ⟨by (with_reducible repeat (first | apply Kd.S_alloc | apply Kd.S_drewN | apply Kd.S_drew)); exact HQ35.out⟩, ⟨by (with_reducible repeat (first | refine zKn ?_ _ | refine zKd ?_ | refine zKa ?_ _)); refine blk_far ?_ HNB121_go26.out _; (with_reducible repeat (first | refine zKn ?_ _ | refine zKd ?_ | refine zKa ?_ _)); exact BK121.out⟩, ⟨by exact uT HB.out⟩⟩
    · rw [if_neg c9] at H
      have c9b0 : decide (x12_1 < (l0_1.length : Int)) = false := decide_eq_false c9
      clear c9
      obtain rfl := zOi H
      go_wp2
      go_ret
      exact ⟨_, by first | rfl | (simp [errW_none, errW_some] <;> rfl) | (simp [*, errW_none, errW_some] <;> rfl), by (with_reducible repeat (first | apply Kd.S_alloc | apply Kd.S_drewN | apply Kd.S_drew)); exact HO_3.out, by exact uT HB.out⟩
  · rw [if_neg c2] at H
    exact absurd H (by simp)

def arcE (i : Nat) (e : S43) (v : Int) : List S51 := (if e.f0 = v then [⟨e.f1, (i : Int)⟩] else []) ++ (if e.f1 = v then [⟨e.f0, (i : Int)⟩] else [])
def arcsA : Nat → List S43 → Int → List S51
  | _, [], _ => []
  | i, e :: l, v => arcE i e v ++ arcsA (i + 1) l v
def arcsOf (E : List S43) (v : Int) : List S51 := arcsA 0 E v
theorem arcE_len (i : Nat) (e : S43) (v : Int) : (arcE i e v).length ≤ 2 := by
  unfold arcE
  rw [List.length_append]
  repeat' split
  all_goals simp
theorem arcsA_len : ∀ (E : List S43) (i : Nat) (v : Int), (arcsA i E v).length ≤ 2 * E.length
  | [], _, _ => by simp [arcsA]
  | e :: l, i, v => by
    have h1 := arcE_len i e v
    have h2 := arcsA_len l (i + 1) v
    rw [arcsA, List.length_append, zLc]
    omega
theorem arcsA_snoc (e : S43) (v : Int) : ∀ (E : List S43) (i : Nat), arcsA i (E ++ [e]) v = arcsA i E v ++ arcE (i + E.length) e v
  | [], i => by simp [arcsA]
  | f :: l, i => by
    rw [List.cons_append, arcsA, arcsA, arcsA_snoc e v l (i + 1), List.append_assoc, zLc]
    congr 2
    congr 1
    omega
theorem mem_arcE {i : Nat} {e : S43} {v : Int} {a : S51} : a ∈ arcE i e v ↔ a.f1 = i ∧ ((e.f0 = v ∧ e.f1 = a.f0) ∨ (e.f1 = v ∧ e.f0 = a.f0)) := by
  unfold arcE
  rw [List.mem_append]
  constructor
  · rintro (h | h)
    · split at h
      · rename_i hv; simp at h; subst h; exact ⟨rfl, .inl ⟨hv, rfl⟩⟩
      · simp at h
    · split at h
      · rename_i hv; simp at h; subst h; exact ⟨rfl, .inr ⟨hv, rfl⟩⟩
      · simp at h
  · rintro ⟨h1, ⟨h2, h3⟩ | ⟨h2, h3⟩⟩
    · left; rw [if_pos h2]; simp; cases a; simp at h1 h3; simp [h1, h3]
    · right; rw [if_pos h2]; simp; cases a; simp at h1 h3; simp [h1, h3]
theorem mem_arcsA {v : Int} {a : S51} : ∀ {E : List S43} {i : Nat}, a ∈ arcsA i E v ↔ ∃ j : Nat, ∃ h : j < E.length, a.f1 = ((i + j : Nat) : Int) ∧ ((E[j].f0 = v ∧ E[j].f1 = a.f0) ∨ (E[j].f1 = v ∧ E[j].f0 = a.f0))
  | [], i => by simp [arcsA]
  | e :: l, i => by
    rw [arcsA, List.mem_append, mem_arcE, mem_arcsA (E := l)]
    constructor
    · rintro (⟨h1, h2⟩ | ⟨j, hj, h1, h2⟩)
      · exact ⟨0, by simp, by simpa using h1, by simpa using h2⟩
      · exact ⟨j + 1, by simpa using hj, by rw [h1]; omega, by simpa using h2⟩
    · rintro ⟨j, hj, h1, h2⟩
      cases j with
      | zero => exact .inl ⟨by simpa using h1, by simpa using h2⟩
      | succ j => exact .inr ⟨j, by simpa using hj, by rw [h1]; omega, by simpa using h2⟩
theorem mem_arcsOf {E : List S43} {v : Int} {a : S51} : a ∈ arcsOf E v ↔ ∃ j : Nat, ∃ h : j < E.length, a.f1 = (j : Int) ∧ ((E[j].f0 = v ∧ E[j].f1 = a.f0) ∨ (E[j].f1 = v ∧ E[j].f0 = a.f0)) := by
  unfold arcsOf
  rw [mem_arcsA]
  simp only [Nat.zero_add]
def rowsA (N : Nat) (f : Int → List S51) : List (List S51) := (List.range N).map fun v : Nat => f (v : Int)
theorem rowsA_len (N : Nat) (f : Int → List S51) : (rowsA N f).length = N := by simp [rowsA]
theorem rowsA_rd (N : Nat) (f : Int → List S51) (v : Int) (h0 : 0 ≤ v) (h1 : v < N) : rd_L3 (rowsA N f) v = f v := by
  obtain ⟨v, rfl⟩ := Int.eq_ofNat_of_zero_le h0
  unfold rd_L3 rowsA
  rw [zTn]
  simp [show v < N by omega]
theorem rowsA_set (N : Nat) (f : Int → List S51) (v : Int) (h0 : 0 ≤ v) (x : List S51) : (rowsA N f).set v.toNat x = rowsA N (fun w => if w = v then x else f w) := by
  obtain ⟨v, rfl⟩ := Int.eq_ofNat_of_zero_le h0
  rw [zTn]
  apply List.ext_getElem
  · simp [rowsA]
  · intro i h1 h2
    simp only [rowsA, List.getElem_set, List.getElem_map, List.getElem_range]
    by_cases h : v = i
    · subst h; simp
    · rw [if_neg h, if_neg (by omega)]
theorem rowsA_congr {N : Nat} {f g : Int → List S51} (h : ∀ v : Nat, v < N → f v = g v) : rowsA N f = rowsA N g := by
  unfold rowsA
  exact List.map_congr_left fun v hv => h v (by simpa using hv)
theorem takeE (l : List S43) (i : Nat) (h : i < l.length) : l.take (i + 1) = l.take i ++ [rd_T43 l (i : Int)] := by
  rw [List.take_succ_eq_append_getElem h, rdE_get l i h]
theorem rdE_mem (l : List S43) (i : Nat) (h : i < l.length) : rd_T43 l (i : Int) ∈ l := by rw [rdE_get l i h]; exact List.getElem_mem h
theorem Arcs_l0 (N : Nat) (E : List S43) (hE : Ends N E) (hne : ∀ e ∈ E, e.f0 ≠ e.f1) (hm : E.length ≤ 1000000000) (d : Nat) : ∀ (i : Nat), E.length - i = d → i ≤ E.length →
    Ev (fun k => parts_arcs.l0 k (rowsA N (arcsOf (E.take i))) E (E.length : Int) i) (rowsA N (arcsOf E)) := by
  induction d with
  | zero =>
    intro i hd hi
    obtain rfl : i = E.length := by omega
    rw [List.take_length]
    refine Ev.step (fun k => ?_) (Ev.now _)
    simp only [parts_arcs.l0]
    rw [if_neg (by omega)]
  | succ d ih =>
    intro i hd hi
    have hlt : i < E.length := by omega
    have hnext := ih (i + 1) (by omega) (by omega)
    obtain ⟨a1, a2, b1, b2⟩ := hE _ (rdE_mem E i hlt)
    have hab := hne _ (rdE_mem E i hlt)
    refine Ev.step (fun k => ?_) hnext
    rw [takeE E i hlt]
    simp only [parts_arcs.l0, rowsA_len]
    generalize rd_T43 E (i : Int) = e at *
    have hlen : ∀ v, (arcsOf (E.take i) v).length ≤ 2000000000 := fun v => by have := arcsA_len (E.take i) 0 v; rw [zLt] at this; unfold arcsOf; omega
    have hil : (E.take i).length = i := by rw [zLt]; omega
    rw [if_pos (by omega), if_pos (by omega), if_pos (by omega), if_pos a1, if_pos a2, rowsA_rd N _ _ a1 a2, if_pos (by have := hlen e.f0; omega), zOb, if_pos b1, if_pos b2, rowsA_set N _ _ a1, rowsA_rd N _ _ b1 b2, if_neg (show ¬ e.f1 = e.f0 from fun h => hab h.symm), if_pos (by have := hlen e.f1; omega), rowsA_set N _ _ b1, w64n i (by omega)]
    congr 1
    refine rowsA_congr fun v hv => ?_
    unfold arcsOf
    rw [arcsA_snoc, hil, Nat.zero_add]
    unfold arcE
    by_cases h1 : (v : Int) = e.f1
    · rw [if_pos h1, if_neg (by omega), if_pos h1.symm, h1]; rfl
    · rw [if_neg h1]
      by_cases h0 : (v : Int) = e.f0
      · rw [if_pos h0, if_pos h0.symm, if_neg (by omega), h0]; simp
      · rw [if_neg h0, if_neg (by omega), if_neg (by omega)]; simp
theorem Arcs_ev (N : Nat) (E : List S43) (hE : Ends N E) (hne : ∀ e ∈ E, e.f0 ≠ e.f1) (hm : E.length ≤ 1000000000) (hN : N ≤ 1000000000) : Ev (fun k => parts_arcs.f k N E) (rowsA N (arcsOf E)) := by
  refine Ev.congr (fun k => ?_) (Arcs_l0 N E hE hne hm E.length 0 rfl (Nat.zero_le _))
  unfold parts_arcs.f
  rw [if_pos (by omega), zTn, if_pos (by omega)]
  congr 1
  apply List.ext_getElem
  · simp [rowsA]
  · intro i a b; simp [rowsA, arcsOf, arcsA]

def filigreelaw04_Light.f (a0_0 : Int) (l0_1 : List (S43)) (a1 : Int) : Option (Bool) := if a0_0 ≤ a1 then (some (decide ((l0_1.length : Int) ≤ (wrap64 (4 * a1))))) else (some false)
theorem filigreelaw04_Light.calls (a0_0 : Int) (A0_1 : Option Addr) (c0_1 : Nat) (l0_1 : List (S43)) (a1 : Int) (r : Bool) (w : World) (hr0_1 : Kd.C k43 w A0_1 l0_1.length l0_1) (hc0_1 : l0_1.length ≤ c0_1) (h : filigreelaw04_Light.f a0_0 l0_1 a1 = some r) :
    Calls Try.prog 8 #[.agg #[.int .i64 a0_0, .slice A0_1 l0_1.length c0_1], .int .i64 a1] w fun e w' => e = .returned (.bool r) ∧ Below w.heap.size w w' := by
  have hu24 := Try.underlying24
  have HR0_1 := zMk hr0_1
  have HC0_1 := zMk hc0_1
  clear hr0_1 hc0_1
  have HB := zMk (Below.refl w.heap.size w)
  have H : (if a0_0 ≤ a1 then (some (decide ((l0_1.length : Int) ≤ (wrap64 (4 * a1))))) else (some false)) = some r := h
  clear h
  by_cases c3 : a0_0 ≤ a1
  · rw [if_pos c3] at H
    have c3b0 : decide (a0_0 ≤ a1) = true := decide_eq_true c3
    clear c3
    obtain rfl := zOi H
    go_enter Try.func8, Try.ntmps8
    go_wp2_with (first | ((with_reducible refine gate_dst (N := 2) rfl ?_); (try (refine gate_guard (by rfl) ?_; dsimp only)); refine box_event ?hg (N := 2) ?hd (cs := #[.int .i64 a0_0, .slice A0_1 l0_1.length c0_1]) (t := 24) ?hr ?_; (case hd => rfl); (case hg => rfl); (case hr => first | (go_simp; done)|(go_simp; rfl)|(go_simp; rw [show ∀ x : Int, IntKind.u32.wrap (IntKind.u8.wrap x) = x % 256 from fun x => (by show (x % 256) % 4294967296 = x % 256; omega)])); intro gb101 hg w4 hbox hb; have BK101 := zMk (hbox); have GW101 := zMk ((by rw [hg]; exact (zBs (by exact uT HB.out)) : w.heap.size ≤ gb101)); have GE101 := zMk ((by rw [hg]; exact (zBs (by exact uT HB.out)) : w.heap.size ≤ gb101)); have IGE101 := ownGe GE101.out; replace HB := zMk (zBt (by exact uT HB.out) hb); clear hb hbox hg; have hcz5_0 : w4.cell? ⟨gb101, 0, none⟩ = some (.int .i64 a0_0) := (zKc BK101.out 0).trans rfl; have hcz5_1 : w4.cell? ⟨gb101, 1, none⟩ = some (.slice A0_1 l0_1.length c0_1) := (zKc BK101.out 1).trans rfl; have hfz5_0 := zKf BK101.out 0; have hfz5_1 := zKf BK101.out 1))
    go_ret
    exact ⟨by first | rfl | (simp [errW_none, errW_some] <;> rfl) | (simp [*, errW_none, errW_some] <;> rfl), by exact uT HB.out⟩
  · rw [if_neg c3] at H
    have c3b0 : decide (a0_0 ≤ a1) = false := decide_eq_false c3
    clear c3
    obtain rfl := zOi H
    go_enter Try.func8, Try.ntmps8
    go_wp2_with (first | ((with_reducible refine gate_dst (N := 2) rfl ?_); (try (refine gate_guard (by rfl) ?_; dsimp only)); refine box_event ?hg (N := 2) ?hd (cs := #[.int .i64 a0_0, .slice A0_1 l0_1.length c0_1]) (t := 24) ?hr ?_; (case hd => rfl); (case hg => rfl); (case hr => first | (go_simp; done)|(go_simp; rfl)|(go_simp; rw [show ∀ x : Int, IntKind.u32.wrap (IntKind.u8.wrap x) = x % 256 from fun x => (by show (x % 256) % 4294967296 = x % 256; omega)])); intro gb101 hg w6 hbox hb; have BK101 := zMk (hbox); have GW101 := zMk ((by rw [hg]; exact (zBs (by exact uT HB.out)) : w.heap.size ≤ gb101)); have GE101 := zMk ((by rw [hg]; exact (zBs (by exact uT HB.out)) : w.heap.size ≤ gb101)); have IGE101 := ownGe GE101.out; replace HB := zMk (zBt (by exact uT HB.out) hb); clear hb hbox hg; have hcz7_0 : w6.cell? ⟨gb101, 0, none⟩ = some (.int .i64 a0_0) := (zKc BK101.out 0).trans rfl; have hcz7_1 : w6.cell? ⟨gb101, 1, none⟩ = some (.slice A0_1 l0_1.length c0_1) := (zKc BK101.out 1).trans rfl; have hfz7_0 := zKf BK101.out 0; have hfz7_1 := zKf BK101.out 1))
    go_ret
    exact ⟨by first | rfl | (simp [errW_none, errW_some] <;> rfl) | (simp [*, errW_none, errW_some] <;> rfl), by exact uT HB.out⟩


def filigreeref04_Ints.l0 : Nat → List Int → List Int → Int → Option (Bool)
  | 0, _, _, _ => none
  | k + 1, x0, x1, x5 => if x5 < (x0.length : Int) then (if 0 ≤ x5 then (if x5 < (x1.length : Int) then (if (rd x0 x5) = (rd x1 x5) then (filigreeref04_Ints.l0 k x0 x1 (wrap64 (x5 + 1))) else (some false)) else (none)) else (none)) else (some true)
def filigreeref04_Ints.f (k : Nat) (l0 : List Int) (l1 : List Int) : Option (Bool) := if (l0.length : Int) = (l1.length : Int) then (filigreeref04_Ints.l0 k l0 l1 0) else (some false)
theorem filigreeref04_Ints.calls (k : Nat) (A0 : Option Addr) (c0 : Nat) (l0 : List Int) (A1 : Option Addr) (c1 : Nat) (l1 : List Int) (r : Bool) (w : World) (hr0 : Kd.C (Kd.int .i64) w A0 l0.length l0) (hc0 : l0.length ≤ c0) (hr1 : Kd.C (Kd.int .i64) w A1 l1.length l1) (hc1 : l1.length ≤ c1) (h : filigreeref04_Ints.f k l0 l1 = some r) :
    Calls Try.prog 16 #[.slice A0 l0.length c0, .slice A1 l1.length c1] w fun e w' => e = .returned (.bool r) ∧ Drawn0 w w' := by
  have HR0 := zMk hr0
  have HC0 := zMk hc0
  clear hr0 hc0
  have HR1 := zMk hr1
  have HC1 := zMk hc1
  clear hr1 hc1
  have H : (if (l0.length : Int) = (l1.length : Int) then (filigreeref04_Ints.l0 k l0 l1 0) else (some false)) = some r := h
  clear h
  by_cases c3 : (l0.length : Int) = (l1.length : Int)
  · rw [if_pos c3] at H
    have c3b0 : ((l0.length : Int) == (l1.length : Int)) = true := beq_iff_eq.mpr c3
    have c3b1 : ((l0.length : Int) != (l1.length : Int)) = false := bne_eq_false_iff_eq.mpr c3
    have c3b2 : (l0.length == l1.length) = true := by first | simpa using c3 | (simp at c3 ⊢; omega)
    clear c3
    have H' := zMk H
    clear H
    go_enter Try.func16, Try.ntmps16
    go_wp2
    repeat (go_quiet (fail); try go_wp2)
    go_loopg [5] k (fun kq v5 w' => ∃ (x5_1 : Int), v5 = .int .i64 x5_1 ∧ Aside0 (filigreeref04_Ints.l0 kq l0 l1 x5_1 = some r) ∧ Aside0 (kq ≤ k) ∧ Drawn0 w w')
    case atStart => exact ⟨(0), (by first | rfl | (simp; done) | (simp [*]; done)), H', ⟨Nat.le_refl _⟩, by repeat (first | exact Drawn0.refl _ | apply Drawn0.step)⟩
    clear H'
    obtain ⟨x5_1, rfl, HA, HK1, ⟨m1, rfl⟩⟩ := hrel
    rcases gk with _ | k1
    · exact absurd HA.out (by simp [filigreeref04_Ints.l0])
    have H := HA.out
    clear HA
    simp only [filigreeref04_Ints.l0] at H
    by_cases c4 : x5_1 < (l0.length : Int)
    · rw [if_pos c4] at H
      have c4b0 : decide (x5_1 < (l0.length : Int)) = true := decide_eq_true c4
      clear c4
      by_cases c5 : 0 ≤ x5_1
      rotate_left
      · rw [if_neg c5] at H; exact absurd H (by simp)
      rw [if_pos c5] at H
      have c5b0 : decide (0 ≤ x5_1) = true := decide_eq_true c5
      clear c5
      by_cases c6 : x5_1 < (l1.length : Int)
      rotate_left
      · rw [if_neg c6] at H; exact absurd H (by simp)
      rw [if_pos c6] at H
      have c6b0 : decide (x5_1 < (l1.length : Int)) = true := decide_eq_true c6
      clear c6
      by_cases c7 : (rd l0 x5_1) = (rd l1 x5_1)
      · rw [if_pos c7] at H
        have c7b0 : ((rd l0 x5_1) == (rd l1 x5_1)) = true := beq_iff_eq.mpr c7
        have c7b1 : ((rd l0 x5_1) != (rd l1 x5_1)) = false := bne_eq_false_iff_eq.mpr c7
        clear c7
        have H' := zMk H
        clear H
        have p285 : 0 ≤ (x5_1 : Int) := of_decide_eq_true (by assumption)
        have q285 : x5_1 < (l0.length : Int) := of_decide_eq_true (by assumption)
        obtain ⟨ad285, e285, hx285_0⟩ := zAi HR0.out x5_1 p285 q285
        cases e285
        replace p285 := eq_true p285
        replace q285 := eq_true q285
        have p286 : 0 ≤ (x5_1 : Int) := of_decide_eq_true (by assumption)
        have q286 : x5_1 < (l1.length : Int) := of_decide_eq_true (by assumption)
        obtain ⟨ad286, e286, hx286_0⟩ := zAi HR1.out x5_1 p286 q286
        cases e286
        replace p286 := eq_true p286
        replace q286 := eq_true q286
        go_wp2
        repeat (go_quiet (fail); try go_wp2)
        go_roundg k1
        case measure => have := HK1.out; omega
        case rel => exact ⟨(wrap64 (x5_1 + 1)), (by first | rfl | (simp; done) | (simp [*]; done)), H', ⟨by have := HK1.out; omega⟩, by repeat (first | exact Drawn0.refl _ | apply Drawn0.step)⟩
      · rw [if_neg c7] at H
        have c7b0 : ((rd l0 x5_1) == (rd l1 x5_1)) = false := beq_eq_false_iff_ne.mpr c7
        have c7b1 : ((rd l0 x5_1) != (rd l1 x5_1)) = true := bne_iff_ne.mpr c7
        obtain rfl := zOi H
        have p285 : 0 ≤ (x5_1 : Int) := of_decide_eq_true (by assumption)
        have q285 : x5_1 < (l0.length : Int) := of_decide_eq_true (by assumption)
        obtain ⟨ad285, e285, hx285_0⟩ := zAi HR0.out x5_1 p285 q285
        cases e285
        replace p285 := eq_true p285
        replace q285 := eq_true q285
        have p286 : 0 ≤ (x5_1 : Int) := of_decide_eq_true (by assumption)
        have q286 : x5_1 < (l1.length : Int) := of_decide_eq_true (by assumption)
        obtain ⟨ad286, e286, hx286_0⟩ := zAi HR1.out x5_1 p286 q286
        cases e286
        replace p286 := eq_true p286
        replace q286 := eq_true q286
        go_wp2
        repeat (go_quiet (fail); try go_wp2)
        go_ret
        exact ⟨by first | rfl | (simp; done) | (simp [*]; done), by repeat (first | exact Drawn0.refl _ | apply Drawn0.step)⟩
    · rw [if_neg c4] at H
      have c4b0 : decide (x5_1 < (l0.length : Int)) = false := decide_eq_false c4
      clear c4
      obtain rfl := zOi H
      go_wp2
      repeat (go_quiet (fail); try go_wp2)
      go_ret
      exact ⟨by first | rfl | (simp; done) | (simp [*]; done), by repeat (first | exact Drawn0.refl _ | apply Drawn0.step)⟩
  · rw [if_neg c3] at H
    have c3b0 : ((l0.length : Int) == (l1.length : Int)) = false := beq_eq_false_iff_ne.mpr c3
    have c3b1 : ((l0.length : Int) != (l1.length : Int)) = true := bne_iff_ne.mpr c3
    have c3b2 : (l0.length == l1.length) = false := by first | simpa using c3 | (simp at c3 ⊢; omega)
    obtain rfl := zOi H
    go_enter Try.func16, Try.ntmps16
    go_wp2
    repeat (go_quiet (fail); try go_wp2)
    go_ret
    exact ⟨by first | rfl | (simp; done) | (simp [*]; done), by repeat (first | exact Drawn0.refl _ | apply Drawn0.step)⟩


def filigreeref04_Lists.l0 : Nat → List (List Int) → List (List Int) → Int → Option (Bool)
  | 0, _, _, _ => none
  | k + 1, x0, x1, x5 => if x5 < (x0.length : Int) then (if 0 ≤ x5 then (if x5 < (x1.length : Int) then ((filigreeref04_Ints.f k (rd_L4 x0 x5) (rd_L4 x1 x5)).bind fun t374 => (if t374 = true then (filigreeref04_Lists.l0 k x0 x1 (wrap64 (x5 + 1))) else (some false))) else (none)) else (none)) else (some true)
def filigreeref04_Lists.f (k : Nat) (l0 : List (List Int)) (l1 : List (List Int)) : Option (Bool) := if (l0.length : Int) = (l1.length : Int) then (filigreeref04_Lists.l0 k l0 l1 0) else (some false)
theorem filigreeref04_Lists.calls (k : Nat) (A0 : Option Addr) (c0 : Nat) (l0 : List (List Int)) (A1 : Option Addr) (c1 : Nat) (l1 : List (List Int)) (r : Bool) (w : World) (hr0 : Kd.C (Kd.slice 3 (Kd.int .i64)) w A0 l0.length l0) (hc0 : l0.length ≤ c0) (hr1 : Kd.C (Kd.slice 3 (Kd.int .i64)) w A1 l1.length l1) (hc1 : l1.length ≤ c1) (h : filigreeref04_Lists.f k l0 l1 = some r) :
    Calls Try.prog 12 #[.slice A0 l0.length c0, .slice A1 l1.length c1] w fun e w' => e = .returned (.bool r) ∧ Drawn0 w w' := by
  have HR0 := zMk hr0
  have HC0 := zMk hc0
  clear hr0 hc0
  have HR1 := zMk hr1
  have HC1 := zMk hc1
  clear hr1 hc1
  have H : (if (l0.length : Int) = (l1.length : Int) then (filigreeref04_Lists.l0 k l0 l1 0) else (some false)) = some r := h
  clear h
  by_cases c3 : (l0.length : Int) = (l1.length : Int)
  · rw [if_pos c3] at H
    have c3b0 : ((l0.length : Int) == (l1.length : Int)) = true := beq_iff_eq.mpr c3
    have c3b1 : ((l0.length : Int) != (l1.length : Int)) = false := bne_eq_false_iff_eq.mpr c3
    have c3b2 : (l0.length == l1.length) = true := by first | simpa using c3 | (simp at c3 ⊢; omega)
    clear c3
    have H' := zMk H
    clear H
    go_enter Try.func12, Try.ntmps12
    go_wp2
    repeat (go_quiet (fail); try go_wp2)
    go_loopg [5] k (fun kq v5 w' => ∃ (x5_1 : Int), v5 = .int .i64 x5_1 ∧ Aside0 (filigreeref04_Lists.l0 kq l0 l1 x5_1 = some r) ∧ Aside0 (kq ≤ k) ∧ Drawn0 w w')
    case atStart => exact ⟨(0), (by first | rfl | (simp; done) | (simp [*]; done)), H', ⟨Nat.le_refl _⟩, by repeat (first | exact Drawn0.refl _ | apply Drawn0.step)⟩
    clear H'
    obtain ⟨x5_1, rfl, HA, HK1, ⟨m1, rfl⟩⟩ := hrel
    rcases gk with _ | k1
    · exact absurd HA.out (by simp [filigreeref04_Lists.l0])
    have H := HA.out
    clear HA
    simp only [filigreeref04_Lists.l0] at H
    by_cases c4 : x5_1 < (l0.length : Int)
    · rw [if_pos c4] at H
      have c4b0 : decide (x5_1 < (l0.length : Int)) = true := decide_eq_true c4
      clear c4
      by_cases c5 : 0 ≤ x5_1
      rotate_left
      · rw [if_neg c5] at H; exact absurd H (by simp)
      rw [if_pos c5] at H
      have c5b0 : decide (0 ≤ x5_1) = true := decide_eq_true c5
      clear c5
      by_cases c6 : x5_1 < (l1.length : Int)
      rotate_left
      · rw [if_neg c6] at H; exact absurd H (by simp)
      rw [if_pos c6] at H
      have c6b0 : decide (x5_1 < (l1.length : Int)) = true := decide_eq_true c6
      clear c6
      replace H := bnd H
      obtain ⟨t374, A70, H⟩ := H
      have A7 := zMk A70
      clear A70
      by_cases c8 : t374 = true
      · subst c8
        replace H : (filigreeref04_Lists.l0 k1 l0 l1 (wrap64 (x5_1 + 1))) = some r := by rw [if_pos rfl] at H; exact H
        have H' := zMk H
        clear H
        have p372 : 0 ≤ (x5_1 : Int) := of_decide_eq_true (by assumption)
        have q372 : x5_1 < (l0.length : Int) := of_decide_eq_true (by assumption)
        obtain ⟨ad372, A372_0, c372_0, e372, hx372_0, hl372_0, hi372_0⟩ := at_L4 HR0.out x5_1 p372 q372
        cases e372
        have HR372_0 := zMk hi372_0
        have HC372_0 := zMk hl372_0
        clear hi372_0 hl372_0
        replace p372 := eq_true p372
        replace q372 := eq_true q372
        have p373 : 0 ≤ (x5_1 : Int) := of_decide_eq_true (by assumption)
        have q373 : x5_1 < (l1.length : Int) := of_decide_eq_true (by assumption)
        obtain ⟨ad373, A373_0, c373_0, e373, hx373_0, hl373_0, hi373_0⟩ := at_L4 HR1.out x5_1 p373 q373
        cases e373
        have HR373_0 := zMk hi373_0
        have HC373_0 := zMk hl373_0
        clear hi373_0 hl373_0
        replace p373 := eq_true p373
        replace q373 := eq_true q373
        go_wp2_with (first | (go_at_call 16; (with_reducible refine (filigreeref04_Ints.calls k1 _ _ (rd_L4 l0 x5_1) _ _ (rd_L4 l1 x5_1) true _ ?side1 ?side2 ?side3 ?side4 A7.out).mono ?_); (case side1 => repeat (first | exact HR372_0.out | (with_reducible refine zCa ?_ _) | (with_reducible refine zCn ?_ _) | (with_reducible refine zCd ?_))); (case side2 => exact HC372_0.out); (case side3 => repeat (first | exact HR373_0.out | (with_reducible refine zCa ?_ _) | (with_reducible refine zCn ?_ _) | (with_reducible refine zCd ?_))); (case side4 => exact HC373_0.out); rintro e w' ⟨rfl, ⟨nd, rfl⟩⟩; (try first | exact ⟨rfl, _, World.drewN_drewN _ _ _⟩ | exact ⟨rfl, _, Eq.trans (World.drewN_drewN _ _ _) (congrArg (World.drewN _) (Nat.add_assoc _ _ _))⟩)))
        repeat (go_quiet (first | (go_at_call 16; (with_reducible refine (filigreeref04_Ints.calls k1 _ _ (rd_L4 l0 x5_1) _ _ (rd_L4 l1 x5_1) true _ ?side1 ?side2 ?side3 ?side4 A7.out).mono ?_); (case side1 => repeat (first | exact HR372_0.out | (with_reducible refine zCa ?_ _) | (with_reducible refine zCn ?_ _) | (with_reducible refine zCd ?_))); (case side2 => exact HC372_0.out); (case side3 => repeat (first | exact HR373_0.out | (with_reducible refine zCa ?_ _) | (with_reducible refine zCn ?_ _) | (with_reducible refine zCd ?_))); (case side4 => exact HC373_0.out); rintro e w' ⟨rfl, ⟨nd, rfl⟩⟩; (try first | exact ⟨rfl, _, World.drewN_drewN _ _ _⟩ | exact ⟨rfl, _, Eq.trans (World.drewN_drewN _ _ _) (congrArg (World.drewN _) (Nat.add_assoc _ _ _))⟩))); try go_wp2_with (first | (go_at_call 16; (with_reducible refine (filigreeref04_Ints.calls k1 _ _ (rd_L4 l0 x5_1) _ _ (rd_L4 l1 x5_1) true _ ?side1 ?side2 ?side3 ?side4 A7.out).mono ?_); (case side1 => repeat (first | exact HR372_0.out | (with_reducible refine zCa ?_ _) | (with_reducible refine zCn ?_ _) | (with_reducible refine zCd ?_))); (case side2 => exact HC372_0.out); (case side3 => repeat (first | exact HR373_0.out | (with_reducible refine zCa ?_ _) | (with_reducible refine zCn ?_ _) | (with_reducible refine zCd ?_))); (case side4 => exact HC373_0.out); rintro e w' ⟨rfl, ⟨nd, rfl⟩⟩; (try first | exact ⟨rfl, _, World.drewN_drewN _ _ _⟩ | exact ⟨rfl, _, Eq.trans (World.drewN_drewN _ _ _) (congrArg (World.drewN _) (Nat.add_assoc _ _ _))⟩))))
        go_roundg k1
        case measure => have := HK1.out; omega
        case rel => exact ⟨(wrap64 (x5_1 + 1)), (by first | rfl | (simp; done) | (simp [*]; done)), H', ⟨by have := HK1.out; omega⟩, by repeat (first | exact Drawn0.refl _ | apply Drawn0.step)⟩
      · replace c8 := Bool.eq_false_iff.mpr c8
        subst c8
        replace H : (some false) = some r := by rw [if_neg (show ¬ (false = true) by decide)] at H; exact H
        obtain rfl := zOi H
        have p372 : 0 ≤ (x5_1 : Int) := of_decide_eq_true (by assumption)
        have q372 : x5_1 < (l0.length : Int) := of_decide_eq_true (by assumption)
        obtain ⟨ad372, A372_0, c372_0, e372, hx372_0, hl372_0, hi372_0⟩ := at_L4 HR0.out x5_1 p372 q372
        cases e372
        have HR372_0 := zMk hi372_0
        have HC372_0 := zMk hl372_0
        clear hi372_0 hl372_0
        replace p372 := eq_true p372
        replace q372 := eq_true q372
        have p373 : 0 ≤ (x5_1 : Int) := of_decide_eq_true (by assumption)
        have q373 : x5_1 < (l1.length : Int) := of_decide_eq_true (by assumption)
        obtain ⟨ad373, A373_0, c373_0, e373, hx373_0, hl373_0, hi373_0⟩ := at_L4 HR1.out x5_1 p373 q373
        cases e373
        have HR373_0 := zMk hi373_0
        have HC373_0 := zMk hl373_0
        clear hi373_0 hl373_0
        replace p373 := eq_true p373
        replace q373 := eq_true q373
        go_wp2_with (first | (go_at_call 16; (with_reducible refine (filigreeref04_Ints.calls k1 _ _ (rd_L4 l0 x5_1) _ _ (rd_L4 l1 x5_1) false _ ?side1 ?side2 ?side3 ?side4 A7.out).mono ?_); (case side1 => repeat (first | exact HR372_0.out | (with_reducible refine zCa ?_ _) | (with_reducible refine zCn ?_ _) | (with_reducible refine zCd ?_))); (case side2 => exact HC372_0.out); (case side3 => repeat (first | exact HR373_0.out | (with_reducible refine zCa ?_ _) | (with_reducible refine zCn ?_ _) | (with_reducible refine zCd ?_))); (case side4 => exact HC373_0.out); rintro e w' ⟨rfl, ⟨nd, rfl⟩⟩; (try first | exact ⟨rfl, _, World.drewN_drewN _ _ _⟩ | exact ⟨rfl, _, Eq.trans (World.drewN_drewN _ _ _) (congrArg (World.drewN _) (Nat.add_assoc _ _ _))⟩)))
        repeat (go_quiet (first | (go_at_call 16; (with_reducible refine (filigreeref04_Ints.calls k1 _ _ (rd_L4 l0 x5_1) _ _ (rd_L4 l1 x5_1) false _ ?side1 ?side2 ?side3 ?side4 A7.out).mono ?_); (case side1 => repeat (first | exact HR372_0.out | (with_reducible refine zCa ?_ _) | (with_reducible refine zCn ?_ _) | (with_reducible refine zCd ?_))); (case side2 => exact HC372_0.out); (case side3 => repeat (first | exact HR373_0.out | (with_reducible refine zCa ?_ _) | (with_reducible refine zCn ?_ _) | (with_reducible refine zCd ?_))); (case side4 => exact HC373_0.out); rintro e w' ⟨rfl, ⟨nd, rfl⟩⟩; (try first | exact ⟨rfl, _, World.drewN_drewN _ _ _⟩ | exact ⟨rfl, _, Eq.trans (World.drewN_drewN _ _ _) (congrArg (World.drewN _) (Nat.add_assoc _ _ _))⟩))); try go_wp2_with (first | (go_at_call 16; (with_reducible refine (filigreeref04_Ints.calls k1 _ _ (rd_L4 l0 x5_1) _ _ (rd_L4 l1 x5_1) false _ ?side1 ?side2 ?side3 ?side4 A7.out).mono ?_); (case side1 => repeat (first | exact HR372_0.out | (with_reducible refine zCa ?_ _) | (with_reducible refine zCn ?_ _) | (with_reducible refine zCd ?_))); (case side2 => exact HC372_0.out); (case side3 => repeat (first | exact HR373_0.out | (with_reducible refine zCa ?_ _) | (with_reducible refine zCn ?_ _) | (with_reducible refine zCd ?_))); (case side4 => exact HC373_0.out); rintro e w' ⟨rfl, ⟨nd, rfl⟩⟩; (try first | exact ⟨rfl, _, World.drewN_drewN _ _ _⟩ | exact ⟨rfl, _, Eq.trans (World.drewN_drewN _ _ _) (congrArg (World.drewN _) (Nat.add_assoc _ _ _))⟩))))
        go_ret
        exact ⟨by first | rfl | (simp; done) | (simp [*]; done), by repeat (first | exact Drawn0.refl _ | apply Drawn0.step)⟩
    · rw [if_neg c4] at H
      have c4b0 : decide (x5_1 < (l0.length : Int)) = false := decide_eq_false c4
      clear c4
      obtain rfl := zOi H
      go_wp2
      repeat (go_quiet (fail); try go_wp2)
      go_ret
      exact ⟨by first | rfl | (simp; done) | (simp [*]; done), by repeat (first | exact Drawn0.refl _ | apply Drawn0.step)⟩
  · rw [if_neg c3] at H
    have c3b0 : ((l0.length : Int) == (l1.length : Int)) = false := beq_eq_false_iff_ne.mpr c3
    have c3b1 : ((l0.length : Int) != (l1.length : Int)) = true := bne_iff_ne.mpr c3
    have c3b2 : (l0.length == l1.length) = false := by first | simpa using c3 | (simp at c3 ⊢; omega)
    obtain rfl := zOi H
    go_enter Try.func12, Try.ntmps12
    go_wp2
    repeat (go_quiet (fail); try go_wp2)
    go_ret
    exact ⟨by first | rfl | (simp; done) | (simp [*]; done), by repeat (first | exact Drawn0.refl _ | apply Drawn0.step)⟩

def upE : List S43 → Prop
  | a :: b :: l => ordE a b = -1 ∧ upE (b :: l)
  | _ => True
theorem ordE_trans {a b c : S43} (h1 : ordE a b = -1) (h2 : ordE b c = -1) : ordE a c = -1 := by
  unfold ordE at *
  repeat' split at h1
  all_goals repeat' split at h2
  all_goals repeat' split
  all_goals first | rfl | omega
theorem right_iff (n : Int) (l : List S43) : rightI n l = 0 ↔ sizesI n l.length = 0 ∧ (∀ e ∈ l, aloneI n e = 0 ∧ e.f0 ≤ e.f1) ∧ upE l := by
  have key : ∀ (l : List S43) (p : Option S43), rgt n p l = 0 ↔ (∀ e ∈ l, aloneI n e = 0 ∧ e.f0 ≤ e.f1) ∧ (match p with | none => upE l | some p => upE (p :: l)) := by
    intro l
    induction l with
    | nil => intro p; cases p <;> simp [rgt, upE]
    | cons e l ih =>
      intro p
      unfold rgt
      by_cases h0 : aloneI n e = 0
      · rw [if_neg (not_not_intro h0)]
        by_cases h1 : e.f0 > e.f1
        · rw [if_pos h1]
          constructor
          · intro h; omega
          · intro h; have := (h.1 e (by simp)).2; omega
        · rw [if_neg h1]
          cases p with
          | none =>
            simp only [ih, List.mem_cons, forall_eq_or_imp]
            constructor
            · intro h; exact ⟨⟨⟨h0, by omega⟩, h.1⟩, h.2⟩
            · intro h; exact ⟨h.1.2, h.2⟩
          | some p =>
            simp only [List.mem_cons, forall_eq_or_imp, upE]
            rcases ordE_cases p e with h2 | h2 | h2
            · rw [if_neg (by omega), if_neg (by omega), ih]
              constructor
              · intro h; exact ⟨⟨⟨h0, by omega⟩, h.1⟩, h2, h.2⟩
              · intro h; exact ⟨h.1.2, h.2.2⟩
            · rw [if_pos h2]
              constructor
              · intro h; omega
              · intro h; have := h.2.1; omega
            · rw [if_neg (by omega), if_pos h2]
              constructor
              · intro h; omega
              · intro h; have := h.2.1; omega
      · rw [if_pos h0]
        constructor
        · intro h; exact absurd h h0
        · intro h; exact absurd (h.1 e (by simp)).1 h0
  unfold rightI
  by_cases h : sizesI n l.length = 0
  · rw [if_pos h, key l none]
    exact ⟨fun x => ⟨h, x⟩, fun x => x.2⟩
  · rw [if_neg h]
    exact ⟨fun x => absurd x h, fun x => absurd x.1 h⟩
theorem alone_ends {n : Int} {e : S43} (h : aloneI n e = 0) : 0 ≤ e.f0 ∧ e.f0 < n ∧ 0 ≤ e.f1 ∧ e.f1 < n ∧ e.f0 ≠ e.f1 := by
  unfold aloneI at h
  repeat' split at h
  all_goals first | (exfalso; omega) | (refine ⟨?_, ?_, ?_, ?_, ?_⟩ <;> omega)
theorem up_pair : ∀ {l : List S43}, upE l → l.Pairwise (fun a b => ordE a b = -1)
  | [], _ => List.Pairwise.nil
  | [a], _ => List.pairwise_singleton _ _
  | a :: b :: l, h => by
    have ih := up_pair h.2
    rw [List.pairwise_cons]
    refine ⟨fun c hc => ?_, ih⟩
    rcases List.mem_cons.1 hc with rfl | hc
    · exact h.1
    · exact ordE_trans h.1 (List.rel_of_pairwise_cons ih hc)
structure Rt (N : Nat) (E : List S43) : Prop where
  N1 : N ≤ 1048576
  E1 : E.length ≤ 4194304
  ends : Ends N E
  lt : ∀ e ∈ E, e.f0 < e.f1
  up : E.Pairwise (fun a b => ordE a b = -1)
theorem Rt.ne {N : Nat} {E : List S43} (h : Rt N E) : ∀ e ∈ E, e.f0 ≠ e.f1 := fun e he => by have := h.lt e he; omega
theorem right_of {n : Int} {E : List S43} (h : rightI n E = 0) : ∃ N : Nat, n = (N : Int) ∧ Rt N E := by
  obtain ⟨h1, h2, h3⟩ := (right_iff n E).1 h
  have hs : 0 ≤ n ∧ n ≤ 1048576 ∧ (E.length : Int) ≤ 4194304 := by
    unfold sizesI at h1
    repeat' split at h1
    all_goals omega
  obtain ⟨N, rfl⟩ := Int.eq_ofNat_of_zero_le hs.1
  refine ⟨N, rfl, by omega, by omega, fun e he => ?_, fun e he => ?_, up_pair h3⟩
  · obtain ⟨a, b, c, d, -⟩ := alone_ends (h2 e he).1
    exact ⟨a, b, c, d⟩
  · obtain ⟨a, b, c, d, f⟩ := alone_ends (h2 e he).1
    have := (h2 e he).2
    omega
theorem Right_ev (n : Int) (E : List S43) : Ev (fun k => graph_Right.f k n E) (rightI n E) := ⟨E.length + 4, fun k hk => Right_eq k n E hk⟩
theorem refRight_ev (n : Int) (E : List S43) : Ev (fun k => filigreeref04_Right.f k n E) (rightI n E) := ⟨2 * E.length + 3, fun k hk => refRight_eq k n E hk⟩
theorem light_eq (n : Int) (E : List S43) (a : Int) (h0 : 0 ≤ a) (h1 : a ≤ 1000000) : filigreelaw04_Light.f n E a = some (decide (n ≤ a ∧ (E.length : Int) ≤ 4 * a)) := by
  unfold filigreelaw04_Light.f
  rw [w64 (by omega) (by omega)]
  by_cases h : n ≤ a
  · rw [if_pos h]; congr 1; rw [decide_eq_decide]; exact ⟨fun x => ⟨h, x⟩, fun x => x.2⟩
  · rw [if_neg h]; congr 1; symm; rw [decide_eq_false_iff_not]; exact fun x => h x.1
theorem Ints_l0 (l : List Int) (hm : l.length ≤ 1000000000) (d : Nat) : ∀ (i : Nat), l.length - i = d → i ≤ l.length → Ev (fun k => filigreeref04_Ints.l0 k l l i) true := by
  induction d with
  | zero =>
    intro i hd hi
    refine Ev.step (fun k => ?_) (Ev.now _)
    simp only [filigreeref04_Ints.l0]
    rw [if_neg (by omega)]
  | succ d ih =>
    intro i hd hi
    refine Ev.step (fun k => ?_) (ih (i + 1) (by omega) (by omega))
    simp only [filigreeref04_Ints.l0, if_true]
    rw [if_pos (by omega), if_pos (by omega), if_pos (by omega), w64n i (by omega)]
theorem Ints_ev (l : List Int) (hm : l.length ≤ 1000000000) : Ev (fun k => filigreeref04_Ints.f k l l) true := by
  refine Ev.congr (fun k => ?_) (Ints_l0 l hm l.length 0 rfl (Nat.zero_le _))
  unfold filigreeref04_Ints.f
  rw [if_pos rfl]; rfl
theorem rdL4_mem (l : List (List Int)) (i : Nat) (h : i < l.length) : rd_L4 l (i : Int) ∈ l := by
  unfold rd_L4
  rw [zTn, List.getD_eq_getElem?_getD, List.getElem?_eq_getElem h]
  exact List.getElem_mem h
theorem Lists_l0 (l : List (List Int)) (hl : ∀ x ∈ l, x.length ≤ 1000000000) (hm : l.length ≤ 1000000000) (d : Nat) : ∀ (i : Nat), l.length - i = d → i ≤ l.length → Ev (fun k => filigreeref04_Lists.l0 k l l i) true := by
  induction d with
  | zero =>
    intro i hd hi
    refine Ev.step (fun k => ?_) (Ev.now _)
    simp only [filigreeref04_Lists.l0]
    rw [if_neg (by omega)]
  | succ d ih =>
    intro i hd hi
    have h1 := Ints_ev (rd_L4 l (i : Int)) (hl _ (rdL4_mem l i (by omega)))
    refine Ev.step (fun k => ?_) (Ev.bind h1 (f := fun k t => if t = true then filigreeref04_Lists.l0 k l l (wrap64 ((i : Int) + 1)) else some false) (Ev.congr (fun k => ?_) (ih (i + 1) (by omega) (by omega))))
    · simp only [filigreeref04_Lists.l0]
      rw [if_pos (by omega), if_pos (by omega), if_pos (by omega)]
    · rw [if_pos rfl, w64n i (by omega)]
theorem Lists_ev (l : List (List Int)) (hl : ∀ x ∈ l, x.length ≤ 1000000000) (hm : l.length ≤ 1000000000) : Ev (fun k => filigreeref04_Lists.f k l l) true := by
  refine Ev.congr (fun k => ?_) (Lists_l0 l hl hm l.length 0 rfl (Nat.zero_le _))
  unfold filigreeref04_Lists.f
  rw [if_pos rfl]; rfl
-- WALK
theorem wk_len {α : Type} {d : Kd α} {e : Nat} {w : World} {base : Nat} {ok : Nat → Prop} {v : Value} {xs : List α} (h : d.R e w base ok v xs) : xs.length ≤ maxLen := by
  obtain ⟨inner, h1, h2⟩ := Kd.R_own h
  rcases h2 with ⟨h0, _⟩ | ⟨g, cap, cur, _, _, _, hnc, hcm, _⟩ <;> omega
structure Wk where
  ord : List Int
  low : List Int
  next : List Int
  edges : List Int
  taken : List Bool
  cut : List Bool
  blocks : List (List Int)
  clock : Int
  stack : List S51
structure WkV where
  v1 : Value
  v2 : Value
  v3 : Value
  vE : Value
  v5 : Value
  v6 : Value
  vB : Value
  vS : Value
abbrev wkI : Kd Int := Kd.int .i64
def wkCells (vn : Value) (V : WkV) (c : Int) : Array Value := #[vn, V.v1, V.v2, V.v3, V.vE, V.v5, V.v6, V.vB, .int .i64 c, V.vS]
def FK (wn W : World) : Prop := wn.heap.size ≤ W.heap.size ∧ ∀ (k : Nat) (cells : Array Value) (t : Nat), (t = 49 ∨ t = 51) → wn.heap[k]? = some (.cells cells t (0, 0)) → W.heap[k]? = some (.cells cells t (0, 0))
theorem FK.below {wn W W' : World} (h : FK wn W) (hb : Below W.heap.size W W') : FK wn W' := ⟨Nat.le_trans h.1 hb.size, fun k cells t ht hk => zKb (h.2 k cells t ht hk) hb⟩
theorem FK.set {wn W : World} (h : FK wn W) {g q : Nat} {cs : Array Value} (hg : W.heap[g]? = some (.cells cs q (0, 0))) (hq : q ≠ 49 ∧ q ≠ 51) (j : Nat) (u : Value) : FK wn (W.setCell ⟨g, j, none⟩ u) := by
  refine ⟨Nat.le_trans h.1 (by simp), fun k cells t ht hk => blk_far (p := ⟨g, j, none⟩) (h.2 k cells t ht hk) ?_ u⟩
  rintro rfl
  have h2 := h.2 _ _ _ ht hk
  rw [hg] at h2
  injection h2 with h2
  injection h2 with _ h2
  rcases ht with rfl | rfl
  · exact hq.1 h2
  · exact hq.2 h2
theorem FK.grown {wn W W1 : World} {row : Option Nat} {q : Nat} (h : FK wn W) (hty : ∀ k, row = some k → ∃ cells, W.heap[k]? = some (.cells cells q (0, 0))) (hq : q ≠ 49 ∧ q ≠ 51) (hg : W.grownBy W1 row) : FK wn W1 := by
  refine ⟨Nat.le_trans h.1 hg.size, fun k cells t ht hk => ?_⟩
  have h2 := h.2 k cells t ht hk
  refine (hg.block k (blk_lt h2) ?_).trans h2
  intro e
  obtain ⟨cs, h3⟩ := hty k e.symm
  rw [h2] at h3
  injection h3 with h3
  injection h3 with _ h3
  rcases ht with rfl | rfl
  · exact hq.1 h3.symm
  · exact hq.2 h3.symm
theorem FK.far {wn W : World} (h : FK wn W) {g : Nat} (hg : wn.heap.size ≤ g) (j : Nat) (u : Value) : FK wn (W.setCell ⟨g, j, none⟩ u) :=
  ⟨Nat.le_trans h.1 (by simp), fun k cells t ht hk => blk_far (p := ⟨g, j, none⟩) (h.2 k cells t ht hk) (by have := blk_lt hk; show k ≠ g; omega) u⟩
structure WkW (w0 wn W : World) (gw : Nat) (vn : Value) (V : WkV) (s : Wk) : Prop where
  hBl : Below w0.heap.size w0 W
  hK : FK wn W
  hgw : w0.heap.size ≤ gw
  hw : W.heap[gw]? = some (.cells (wkCells vn V s.clock) 55 (0, 0))
  h1 : Kd.R wkI 3 W w0.heap.size (fun _ => True) V.v1 s.ord
  h2 : Kd.R wkI 3 W w0.heap.size (fun _ => True) V.v2 s.low
  h3 : Kd.R wkI 3 W w0.heap.size (fun _ => True) V.v3 s.next
  hE : Kd.R wkI 3 W w0.heap.size (fun _ => True) V.vE s.edges
  h5 : Kd.R Kd.bool 4 W w0.heap.size (fun _ => True) V.v5 s.taken
  h6 : Kd.R Kd.bool 4 W w0.heap.size (fun _ => True) V.v6 s.cut
  hB : Kd.S (Kd.slice 3 wkI) 33 W w0.heap.size (fun k => some k ≠ V.v1.ownBlock ∧ some k ≠ V.v2.ownBlock ∧ some k ≠ V.v3.ownBlock ∧ some k ≠ V.vE.ownBlock) V.vB s.blocks
  hS : Kd.R k51 89 W w0.heap.size (fun _ => True) V.vS s.stack
  d12 : ∀ k, V.v1.ownBlock = some k → some k ≠ V.v2.ownBlock
  d13 : ∀ k, V.v1.ownBlock = some k → some k ≠ V.v3.ownBlock
  d23 : ∀ k, V.v2.ownBlock = some k → some k ≠ V.v3.ownBlock
  dE1 : ∀ k, V.vE.ownBlock = some k → some k ≠ V.v1.ownBlock
  dE2 : ∀ k, V.vE.ownBlock = some k → some k ≠ V.v2.ownBlock
  dE3 : ∀ k, V.vE.ownBlock = some k → some k ≠ V.v3.ownBlock
  d56 : ∀ k, V.v5.ownBlock = some k → some k ≠ V.v6.ownBlock
theorem WkW.below {w0 wn W W' : World} {gw : Nat} {vn : Value} {V : WkV} {s : Wk} (h : WkW w0 wn W gw vn V s) (hb : Below W.heap.size W W') : WkW w0 wn W' gw vn V s :=
  { h with hK := h.hK.below hb, hBl := zBt h.hBl hb, hw := zKb h.hw hb, h1 := zRb h.h1 hb, h2 := zRb h.h2 hb, h3 := zRb h.h3 hb, hE := zRb h.hE hb, h5 := zRb h.h5 hb, h6 := zRb h.h6 hb, hB := Kd.S_below h.hB hb, hS := zRb h.hS hb }
theorem WkW.fclock {w0 wn W : World} {gw : Nat} {vn : Value} {V : WkV} {s : Wk} (h : WkW w0 wn W gw vn V s) (c : Int) : WkW w0 wn (W.setCell ⟨gw, 8, none⟩ (.int .i64 c)) gw vn V { s with clock := c } :=
  { h with hK := h.hK.set h.hw (by decide) _ _, hBl := below_set h.hBl h.hgw, hw := blk_put (cs := wkCells vn V s.clock) h.hw 8 _ rfl, h1 := Kd.R_set h.h1 h.hw (by decide) _ _, h2 := Kd.R_set h.h2 h.hw (by decide) _ _, h3 := Kd.R_set h.h3 h.hw (by decide) _ _, hE := Kd.R_set h.hE h.hw (by decide) _ _, h5 := Kd.R_set h.h5 h.hw (by decide) _ _, h6 := Kd.R_set h.h6 h.hw (by decide) _ _, hB := Kd.S_set h.hB h.hw (by decide) _ _, hS := Kd.R_set h.hS h.hw (by decide) _ _ }
theorem WkW.fstack {w0 wn W : World} {gw : Nat} {vn : Value} {V : WkV} {s : Wk} {vS : Value} {st : List S51} (h : WkW w0 wn W gw vn V s) (hS : Kd.R k51 89 W w0.heap.size (fun _ => True) vS st) : WkW w0 wn (W.setCell ⟨gw, 9, none⟩ vS) gw vn { V with vS := vS } { s with stack := st } :=
  { h with hK := h.hK.set h.hw (by decide) _ _, hBl := below_set h.hBl h.hgw, hw := blk_put (cs := wkCells vn V s.clock) h.hw 9 _ rfl, h1 := Kd.R_set h.h1 h.hw (by decide) _ _, h2 := Kd.R_set h.h2 h.hw (by decide) _ _, h3 := Kd.R_set h.h3 h.hw (by decide) _ _, hE := Kd.R_set h.hE h.hw (by decide) _ _, h5 := Kd.R_set h.h5 h.hw (by decide) _ _, h6 := Kd.R_set h.h6 h.hw (by decide) _ _, hB := Kd.S_set h.hB h.hw (by decide) _ _, hS := Kd.R_set hS h.hw (by decide) _ _ }
theorem WkW.gstack {w0 wn W W1 : World} {gw : Nat} {vn : Value} {V : WkV} {s : Wk} (h : WkW w0 wn W gw vn V s) (hb : Below w0.heap.size w0 W1) (hg : W.grownBy W1 V.vS.ownBlock) {vS : Value} {st : List S51} (hS : Kd.R k51 89 W1 w0.heap.size (fun _ => True) vS st) : WkW w0 wn (W1.setCell ⟨gw, 9, none⟩ vS) gw vn { V with vS := vS } { s with stack := st } := by
  have ty := Kd.R_typed h.hS
  have hw1 := blk_grown h.hw hg (Kd.R_ne h.hS h.hw (by decide))
  exact { h with hK := (h.hK.grown ty (by decide) hg).set hw1 (by decide) _ _, hBl := below_set hb h.hgw, hw := blk_put (cs := wkCells vn V s.clock) hw1 9 _ rfl, h1 := Kd.R_set (Kd.R_over' h.h1 ty (by decide) hg) hw1 (by decide) _ _, h2 := Kd.R_set (Kd.R_over' h.h2 ty (by decide) hg) hw1 (by decide) _ _, h3 := Kd.R_set (Kd.R_over' h.h3 ty (by decide) hg) hw1 (by decide) _ _, hE := Kd.R_set (Kd.R_over' h.hE ty (by decide) hg) hw1 (by decide) _ _, h5 := Kd.R_set (Kd.R_over' h.h5 ty (by decide) hg) hw1 (by decide) _ _, h6 := Kd.R_set (Kd.R_over' h.h6 ty (by decide) hg) hw1 (by decide) _ _, hB := Kd.S_set (Kd.S_over' h.hB ty (by decide) hg) hw1 (by decide) _ _, hS := Kd.R_set hS hw1 (by decide) _ _ }
theorem wk_own {g n c : Nat} : (Value.slice (some ⟨g, 0, none⟩) n c).ownBlock = some g := by simp [Value.ownBlock]
theorem WkW.put1 {w0 wn W : World} {gw : Nat} {vn : Value} {V : WkV} {s : Wk} (h : WkW w0 wn W gw vn V s) {g n c : Nat} (e : V.v1 = .slice (some ⟨g, 0, none⟩) n c) (i x : Int) : WkW w0 wn (W.setCell ⟨g, i.toNat, none⟩ (.int .i64 x)) gw vn V { s with ord := s.ord.set i.toNat x } := by
  have o : V.v1.ownBlock = some g := by rw [e]; exact wk_own
  obtain ⟨cells, hg⟩ := Kd.R_typed h.h1 g o
  have hgb := zRz h.h1 g o
  have hne : gw ≠ g := by
    rintro rfl
    have h2 := h.hw
    rw [hg] at h2
    injection h2 with h2
    injection h2 with _ h2
    exact absurd h2 (by decide)
  have h1' := h.h1
  rw [e] at h1'
  refine { h with hK := h.hK.set hg (by decide) _ _, hBl := below_set h.hBl hgb, hw := blk_far h.hw hne _, h1 := ?_, h2 := ?_, h3 := ?_, hE := ?_, h5 := Kd.R_set h.h5 hg (by decide) _ _, h6 := Kd.R_set h.h6 hg (by decide) _ _, hB := ?_, hS := Kd.R_set h.hS hg (by decide) _ _ }
  · rw [e]; exact (Kd.R_putg h1' i x).1
  · exact zRm (Kd.R_far (Kd.R_reok (ok := fun k => k ≠ g) rfl h.h2 (fun k hk e2 => h.d12 g o (by rw [hk, e2]))) (fun _ hk => hk) _) (fun _ _ => trivial)
  · exact zRm (Kd.R_far (Kd.R_reok (ok := fun k => k ≠ g) rfl h.h3 (fun k hk e2 => h.d13 g o (by rw [hk, e2]))) (fun _ hk => hk) _) (fun _ _ => trivial)
  · exact zRm (Kd.R_far (Kd.R_reok (ok := fun k => k ≠ g) rfl h.hE (fun k hk e2 => h.dE1 k hk (by rw [o, e2]))) (fun _ hk => hk) _) (fun _ _ => trivial)
  · exact Kd.S_far h.hB (fun k hk e2 => hk.1 (by rw [o, e2])) _
theorem WkW.put2 {w0 wn W : World} {gw : Nat} {vn : Value} {V : WkV} {s : Wk} (h : WkW w0 wn W gw vn V s) {g n c : Nat} (e : V.v2 = .slice (some ⟨g, 0, none⟩) n c) (i x : Int) : WkW w0 wn (W.setCell ⟨g, i.toNat, none⟩ (.int .i64 x)) gw vn V { s with low := s.low.set i.toNat x } := by
  have o : V.v2.ownBlock = some g := by rw [e]; exact wk_own
  obtain ⟨cells, hg⟩ := Kd.R_typed h.h2 g o
  have hgb := zRz h.h2 g o
  have hne : gw ≠ g := by
    rintro rfl
    have h2 := h.hw
    rw [hg] at h2
    injection h2 with h2
    injection h2 with _ h2
    exact absurd h2 (by decide)
  have h2' := h.h2
  rw [e] at h2'
  refine { h with hK := h.hK.set hg (by decide) _ _, hBl := below_set h.hBl hgb, hw := blk_far h.hw hne _, h1 := ?_, h2 := ?_, h3 := ?_, hE := ?_, h5 := Kd.R_set h.h5 hg (by decide) _ _, h6 := Kd.R_set h.h6 hg (by decide) _ _, hB := ?_, hS := Kd.R_set h.hS hg (by decide) _ _ }
  · exact zRm (Kd.R_far (Kd.R_reok (ok := fun k => k ≠ g) rfl h.h1 (fun k hk e2 => h.d12 k hk (by rw [o, e2]))) (fun _ hk => hk) _) (fun _ _ => trivial)
  · rw [e]; exact (Kd.R_putg h2' i x).1
  · exact zRm (Kd.R_far (Kd.R_reok (ok := fun k => k ≠ g) rfl h.h3 (fun k hk e2 => h.d23 g o (by rw [hk, e2]))) (fun _ hk => hk) _) (fun _ _ => trivial)
  · exact zRm (Kd.R_far (Kd.R_reok (ok := fun k => k ≠ g) rfl h.hE (fun k hk e2 => h.dE2 k hk (by rw [o, e2]))) (fun _ hk => hk) _) (fun _ _ => trivial)
  · exact Kd.S_far h.hB (fun k hk e2 => hk.2.1 (by rw [o, e2])) _
def wkEnter (s : Wk) (v by_ : Int) : Option Wk :=
  if 0 ≤ v ∧ v < (s.ord.length : Int) ∧ v < (s.low.length : Int) ∧ s.stack.length < 8796093022207 then some { s with clock := wrap64 (s.clock + 1), ord := s.ord.set v.toNat (wrap64 (s.clock + 1)), low := s.low.set v.toNat (wrap64 (s.clock + 1)), stack := s.stack ++ [⟨v, by_⟩] } else none
theorem WkW.put6 {w0 wn W : World} {gw : Nat} {vn : Value} {V : WkV} {s : Wk} (h : WkW w0 wn W gw vn V s) {g n c : Nat} (e : V.v6 = .slice (some ⟨g, 0, none⟩) n c) (i : Int) (x : Bool) : WkW w0 wn (W.setCell ⟨g, i.toNat, none⟩ (.bool x)) gw vn V { s with cut := s.cut.set i.toNat x } := by
  have o : V.v6.ownBlock = some g := by rw [e]; exact wk_own
  obtain ⟨cells, hg⟩ := Kd.R_typed h.h6 g o
  have hgb := zRz h.h6 g o
  have hne : gw ≠ g := by
    rintro rfl
    have h2 := h.hw
    rw [hg] at h2
    injection h2 with h2
    injection h2 with _ h2
    exact absurd h2 (by decide)
  have h6' := h.h6
  rw [e] at h6'
  refine { h with hK := h.hK.set hg (by decide) _ _, hBl := below_set h.hBl hgb, hw := blk_far h.hw hne _, h1 := Kd.R_set h.h1 hg (by decide) _ _, h2 := Kd.R_set h.h2 hg (by decide) _ _, h3 := Kd.R_set h.h3 hg (by decide) _ _, hE := Kd.R_set h.hE hg (by decide) _ _, h5 := ?_, h6 := ?_, hB := Kd.S_set h.hB hg (by decide) _ _, hS := Kd.R_set h.hS hg (by decide) _ _ }
  · exact zRm (Kd.R_far (Kd.R_reok (ok := fun k => k ≠ g) rfl h.h5 (fun k hk e2 => h.d56 k hk (by rw [o, e2]))) (fun _ hk => hk) _) (fun _ _ => trivial)
  · rw [e]; exact (Kd.R_putg h6' i x).1
theorem WkW.put5 {w0 wn W : World} {gw : Nat} {vn : Value} {V : WkV} {s : Wk} (h : WkW w0 wn W gw vn V s) {g n c : Nat} (e : V.v5 = .slice (some ⟨g, 0, none⟩) n c) (i : Int) (x : Bool) : WkW w0 wn (W.setCell ⟨g, i.toNat, none⟩ (.bool x)) gw vn V { s with taken := s.taken.set i.toNat x } := by
  have o : V.v5.ownBlock = some g := by rw [e]; exact wk_own
  obtain ⟨cells, hg⟩ := Kd.R_typed h.h5 g o
  have hgb := zRz h.h5 g o
  have hne : gw ≠ g := by
    rintro rfl
    have h2 := h.hw
    rw [hg] at h2
    injection h2 with h2
    injection h2 with _ h2
    exact absurd h2 (by decide)
  have h5' := h.h5
  rw [e] at h5'
  refine { h with hK := h.hK.set hg (by decide) _ _, hBl := below_set h.hBl hgb, hw := blk_far h.hw hne _, h1 := Kd.R_set h.h1 hg (by decide) _ _, h2 := Kd.R_set h.h2 hg (by decide) _ _, h3 := Kd.R_set h.h3 hg (by decide) _ _, hE := Kd.R_set h.hE hg (by decide) _ _, h5 := ?_, h6 := ?_, hB := Kd.S_set h.hB hg (by decide) _ _, hS := Kd.R_set h.hS hg (by decide) _ _ }
  · rw [e]; exact (Kd.R_putg h5' i x).1
  · exact zRm (Kd.R_far (Kd.R_reok (ok := fun k => k ≠ g) rfl h.h6 (fun k hk e2 => h.d56 g o (by rw [hk, e2]))) (fun _ hk => hk) _) (fun _ _ => trivial)
theorem WkW.put3 {w0 wn W : World} {gw : Nat} {vn : Value} {V : WkV} {s : Wk} (h : WkW w0 wn W gw vn V s) {g n c : Nat} (e : V.v3 = .slice (some ⟨g, 0, none⟩) n c) (i x : Int) : WkW w0 wn (W.setCell ⟨g, i.toNat, none⟩ (.int .i64 x)) gw vn V { s with next := s.next.set i.toNat x } := by
  have o : V.v3.ownBlock = some g := by rw [e]; exact wk_own
  obtain ⟨cells, hg⟩ := Kd.R_typed h.h3 g o
  have hgb := zRz h.h3 g o
  have hne : gw ≠ g := by
    rintro rfl
    have h2 := h.hw
    rw [hg] at h2
    injection h2 with h2
    injection h2 with _ h2
    exact absurd h2 (by decide)
  have h3' := h.h3
  rw [e] at h3'
  refine { h with hK := h.hK.set hg (by decide) _ _, hBl := below_set h.hBl hgb, hw := blk_far h.hw hne _, h1 := ?_, h2 := ?_, h3 := ?_, hE := ?_, h5 := Kd.R_set h.h5 hg (by decide) _ _, h6 := Kd.R_set h.h6 hg (by decide) _ _, hB := ?_, hS := Kd.R_set h.hS hg (by decide) _ _ }
  · exact zRm (Kd.R_far (Kd.R_reok (ok := fun k => k ≠ g) rfl h.h1 (fun k hk e2 => h.d13 k hk (by rw [o, e2]))) (fun _ hk => hk) _) (fun _ _ => trivial)
  · exact zRm (Kd.R_far (Kd.R_reok (ok := fun k => k ≠ g) rfl h.h2 (fun k hk e2 => h.d23 k hk (by rw [o, e2]))) (fun _ hk => hk) _) (fun _ _ => trivial)
  · rw [e]; exact (Kd.R_putg h3' i x).1
  · exact zRm (Kd.R_far (Kd.R_reok (ok := fun k => k ≠ g) rfl h.hE (fun k hk e2 => h.dE3 k hk (by rw [o, e2]))) (fun _ hk => hk) _) (fun _ _ => trivial)
  · exact Kd.S_far h.hB (fun k hk e2 => hk.2.2.1 (by rw [o, e2])) _
theorem WkW.gedges {w0 wn W W1 : World} {gw : Nat} {vn : Value} {V : WkV} {s : Wk} (h : WkW w0 wn W gw vn V s) (hb : Below w0.heap.size w0 W1) (hg : W.grownBy W1 V.vE.ownBlock) {vE : Value} {es : List Int} (hE : Kd.R wkI 3 W1 w0.heap.size (fun _ => True) vE es) (hat : vE.ownBlock = V.vE.ownBlock ∨ ∃ b, vE.ownBlock = some b ∧ W.heap.size ≤ b) : WkW w0 wn (W1.setCell ⟨gw, 4, none⟩ vE) gw vn { V with vE := vE } { s with edges := es } := by
  have ty := Kd.R_typed h.hE
  have hw1 := blk_grown h.hw hg (Kd.R_ne h.hE h.hw (by decide))
  have n1 : ∀ {v : Value} {xs : List Int}, Kd.R wkI 3 W w0.heap.size (fun _ => True) v xs → (∀ k, V.vE.ownBlock = some k → some k ≠ v.ownBlock) → Kd.R wkI 3 W1 w0.heap.size (fun _ => True) v xs ∧ ∀ k, vE.ownBlock = some k → some k ≠ v.ownBlock := by
    intro v xs hv hd
    have hv2 := Kd.R_after (ok := fun _ => True) (Kd.R_reok (ok := fun k => True ∧ some k ≠ V.vE.ownBlock) rfl hv (fun k hk => ⟨trivial, fun e => hd k e.symm hk.symm⟩)) hg hat
    exact ⟨zRm hv2 (fun _ _ => trivial), fun k hk e => (hv2.1 k e.symm).2 hk.symm⟩
  obtain ⟨a1, b1⟩ := n1 h.h1 h.dE1
  obtain ⟨a2, b2⟩ := n1 h.h2 h.dE2
  obtain ⟨a3, b3⟩ := n1 h.h3 h.dE3
  have hB2 := Kd.S_after (ok := fun k => some k ≠ V.v1.ownBlock ∧ some k ≠ V.v2.ownBlock ∧ some k ≠ V.v3.ownBlock) (Kd.S_mono h.hB (fun k hk => ⟨⟨hk.1, hk.2.1, hk.2.2.1⟩, hk.2.2.2⟩)) hg hat
  exact { h with hK := (h.hK.grown ty (by decide) hg).set hw1 (by decide) _ _, hBl := below_set hb h.hgw, hw := blk_put (cs := wkCells vn V s.clock) hw1 4 _ rfl, h1 := Kd.R_set a1 hw1 (by decide) _ _, h2 := Kd.R_set a2 hw1 (by decide) _ _, h3 := Kd.R_set a3 hw1 (by decide) _ _, hE := Kd.R_set hE hw1 (by decide) _ _, h5 := Kd.R_set (Kd.R_over' h.h5 ty (by decide) hg) hw1 (by decide) _ _, h6 := Kd.R_set (Kd.R_over' h.h6 ty (by decide) hg) hw1 (by decide) _ _, hB := Kd.S_set (Kd.S_mono hB2 (fun k hk => ⟨hk.1.1, hk.1.2.1, hk.1.2.2, hk.2⟩)) hw1 (by decide) _ _, hS := Kd.R_set (Kd.R_over' h.hS ty (by decide) hg) hw1 (by decide) _ _, dE1 := b1, dE2 := b2, dE3 := b3 }
theorem WkW.near {w0 wn W : World} {gw : Nat} {vn : Value} {V : WkV} {s : Wk} (h : WkW w0 wn W gw vn V s) {base : Nat} {ok : Nat → Prop} {An : Option Addr} {cn : Nat} {near : List (List S51)} (hn : Kd.S (Kd.slice 51 k51) 49 wn base ok (.slice An near.length cn) near) : Kd.C (Kd.slice 51 k51) W An near.length near := by
  refine (Kd.S_reads' (Kd.S_move (Kd.S_bound hn) ?_)).2.2
  rintro k ⟨-, -, -, q, hq, cells, hc⟩
  have hq2 : q = 49 ∨ q = 51 := by
    rcases List.mem_cons.1 hq with h1 | h1
    · exact .inl h1
    · rcases List.mem_cons.1 h1 with h2 | h2
      · exact .inr h2
      · exact absurd (show q ∈ ([] : List Nat) from h2) (by simp)
  rw [h.hK.2 k cells q hq2 hc, hc]
theorem wkEnter.calls (w0 wn w : World) (gw : Nat) (vn : Value) (V : WkV) (s s' : Wk) (v by_ : Int) (h : WkW w0 wn w gw vn V s) (he : wkEnter s v by_ = some s') :
    Calls Try.prog 62 #[.pointer (some ⟨gw, 0, none⟩), .int .i64 v, .int .i64 by_] w fun e w' => e = .returned (.tuple #[]) ∧ ∃ vS, WkW w0 wn w' gw vn { V with vS := vS } s' := by
  have hu55 := Try.underlying55
  unfold wkEnter at he
  by_cases hc : 0 ≤ v ∧ v < (s.ord.length : Int) ∧ v < (s.low.length : Int) ∧ s.stack.length < 8796093022207
  rotate_left
  · rw [if_neg hc] at he; cases he
  rw [if_pos hc] at he
  obtain rfl := zOi he
  clear he
  have HW := zMk h
  have HC := zMk hc
  clear h hc
  have z8 : w.cell? ⟨gw, 8, none⟩ = some (.int .i64 s.clock) := (zKc HW.out.hw 8).trans rfl
  have f8 := zKf HW.out.hw 8
  go_enter Try.func62, Try.ntmps62
  go_upto_region 1 with (fail)
  clear z8 f8
  have HW1 := zMk (HW.out.fclock (wrap64 (s.clock + 1)))
  generalize w.setCell ⟨gw, 8, none⟩ (.int .i64 (wrap64 (s.clock + 1))) = w1 at HW1 ⊢
  clear HW
  obtain ⟨g1, c1, e1, -, -, -⟩ := Kd.R_form HW1.out.h1 (by have := HC.out; show 0 < s.ord.length; omega)
  obtain ⟨g2, c2, e2, -, -, -⟩ := Kd.R_form HW1.out.h2 (by have := HC.out; show 0 < s.low.length; omega)
  have E1 := zMk (show V.v1 = .slice (some ⟨g1, 0, none⟩) s.ord.length c1 from e1)
  have E2 := zMk (show V.v2 = .slice (some ⟨g2, 0, none⟩) s.low.length c2 from e2)
  clear e1 e2
  have p0 : (0 ≤ v) = True := eq_true HC.out.1
  have p1 : (v < (s.ord.length : Int)) = True := eq_true HC.out.2.1
  have p2 : (v < (s.low.length : Int)) = True := eq_true HC.out.2.2.1
  have HWd := zMk (HW1.out.below (zBd (Below.refl w1.heap.size w1)))
  refine start_ (n := 22) (S := fun w' => w'.cell? ⟨gw, 1, none⟩ = some (.slice (some ⟨g1, 0, none⟩) s.ord.length c1) ∧ w'.cell? ⟨gw, 2, none⟩ = some (.slice (some ⟨g2, 0, none⟩) s.low.length c2) ∧ w'.cell? ⟨gw, 8, none⟩ = some (.int .i64 (wrap64 (s.clock + 1)))) (ds := [21]) #[false, false, false, false, false, false, false, false, false, false, false, false, false, false, false, false, false, false, false, false, false, false] (by kernel_rfl) rfl rfl ⟨(zKc HWd.out.hw 1).trans (congrArg some E1.out), (zKc HWd.out.hw 2).trans (congrArg some E2.out), (zKc HWd.out.hw 8).trans (rfl)⟩ (fun hHeld => ?_)
  generalize w1.drew = w2 at HWd hHeld ⊢
  refine pure_ (i := 0) (N := some 13) (v := ?_) (a' := ?_) #[true, false, false, false, false, false, false, false, false, false, false, false, false, false, false, false, false, false, false, false, false, false] rfl rfl (by kernel_rfl) (fun _ _ _ h => h) (Or.inl ⟨by rfl, ?_⟩) ?_ ?_
  rotate_left
  · intro w'
    go_simp
    with_reducible rfl
  rotate_left
  · simp only [Act.put, zSa, zSb, zSc, i64_w, i32_w]
    rfl
  refine pure_ (i := 1) (N := some 14) (v := ?_) (a' := ?_) #[true, true, false, false, false, false, false, false, false, false, false, false, false, false, false, false, false, false, false, false, false, false] rfl rfl (by kernel_rfl) (fun _ _ _ h => h) (Or.inl ⟨by rfl, ?_⟩) ?_ ?_
  rotate_left
  · intro w'
    go_simp
    with_reducible rfl
  rotate_left
  · simp only [Act.put, zSa, zSb, zSc, i64_w, i32_w]
    rfl
  refine pure_ (i := 2) (N := some 15) (v := ?_) (a' := ?_) #[true, true, true, false, false, false, false, false, false, false, false, false, false, false, false, false, false, false, false, false, false, false] rfl rfl (by kernel_rfl) (fun _ _ _ h => h) (Or.inl ⟨by rfl, ?_⟩) ?_ ?_
  rotate_left
  · intro w'
    go_simp
    with_reducible rfl
  rotate_left
  · simp only [Act.put, zSa, zSb, zSc, i64_w, i32_w]
    rfl
  refine pure_ (i := 4) (N := some 17) (v := ?_) (a' := ?_) #[true, true, true, false, true, false, false, false, false, false, false, false, false, false, false, false, false, false, false, false, false, false] rfl rfl (by kernel_rfl) (fun _ _ _ h => h) (Or.inl ⟨by rfl, ?_⟩) ?_ ?_
  rotate_left
  · intro w'
    go_simp
    with_reducible rfl
  rotate_left
  · simp only [Act.put, zSa, zSb, zSc, i64_w, i32_w]
    rfl
  refine pure_ (i := 5) (N := some 18) (v := ?_) (a' := ?_) #[true, true, true, false, true, true, false, false, false, false, false, false, false, false, false, false, false, false, false, false, false, false] rfl rfl (by kernel_rfl) (fun _ _ _ h => h) (Or.inl ⟨by rfl, ?_⟩) ?_ ?_
  rotate_left
  · intro w'
    go_simp
    with_reducible rfl
  rotate_left
  · simp only [Act.put, zSa, zSb, zSc, i64_w, i32_w]
    rfl
  refine pure_ (i := 6) (N := some 19) (v := ?_) (a' := ?_) #[true, true, true, false, true, true, true, false, false, false, false, false, false, false, false, false, false, false, false, false, false, false] rfl rfl (by kernel_rfl) (fun _ _ _ h => h) (Or.inl ⟨by rfl, ?_⟩) ?_ ?_
  rotate_left
  · intro w'
    go_simp
    with_reducible rfl
  rotate_left
  · simp only [Act.put, zSa, zSb, zSc, i64_w, i32_w]
    rfl
  refine pure_ (i := 7) (N := some 20) (v := ?_) (a' := ?_) #[true, true, true, false, true, true, true, true, false, false, false, false, false, false, false, false, false, false, false, false, false, false] rfl rfl (by kernel_rfl) (fun _ _ _ h => h) (Or.inl ⟨by rfl, ?_⟩) ?_ ?_
  rotate_left
  · intro w'
    go_simp
    with_reducible rfl
  rotate_left
  · simp only [Act.put, zSa, zSb, zSc, i64_w, i32_w]
    rfl
  refine pure_ (i := 9) (N := some 22) (v := ?_) (a' := ?_) #[true, true, true, false, true, true, true, true, false, true, false, false, false, false, false, false, false, false, false, false, false, false] rfl rfl (by kernel_rfl) (fun _ _ _ h => h) (Or.inl ⟨by rfl, ?_⟩) ?_ ?_
  rotate_left
  · intro w'
    go_simp
    with_reducible rfl
  rotate_left
  · simp only [Act.put, zSa, zSb, zSc, i64_w, i32_w]
    rfl
  refine pure_ (i := 10) (N := some 23) (v := ?_) (a' := ?_) #[true, true, true, false, true, true, true, true, false, true, true, false, false, false, false, false, false, false, false, false, false, false] rfl rfl (by kernel_rfl) (fun _ _ _ h => h) (Or.inl ⟨by rfl, ?_⟩) ?_ ?_
  rotate_left
  · intro w'
    go_simp
    with_reducible rfl
  rotate_left
  · simp only [Act.put, zSa, zSb, zSc, i64_w, i32_w]
    rfl
  refine pure_ (i := 11) (N := some 24) (v := ?_) (a' := ?_) #[true, true, true, false, true, true, true, true, false, true, true, true, false, false, false, false, false, false, false, false, false, false] rfl rfl (by kernel_rfl) (fun _ _ _ h => h) (Or.inl ⟨by rfl, ?_⟩) ?_ ?_
  rotate_left
  · intro w'
    go_simp
    with_reducible rfl
  rotate_left
  · simp only [Act.put, zSa, zSb, zSc, i64_w, i32_w]
    rfl
  refine pure_ (i := 12) (N := some 25) (v := ?_) (a' := ?_) #[true, true, true, false, true, true, true, true, false, true, true, true, true, false, false, false, false, false, false, false, false, false] rfl rfl (by kernel_rfl) (fun _ _ _ h => h) (Or.inl ⟨by rfl, ?_⟩) ?_ ?_
  rotate_left
  · intro w'
    go_simp
    with_reducible rfl
  rotate_left
  · simp only [Act.put, zSa, zSb, zSc, i64_w, i32_w]
    rfl
  refine pure_ (i := 14) (N := some 27) (v := ?_) (a' := ?_) #[true, true, true, false, true, true, true, true, false, true, true, true, true, false, true, false, false, false, false, false, false, false] rfl rfl (by kernel_rfl) (fun _ _ _ h => h) (Or.inl ⟨by rfl, ?_⟩) ?_ ?_
  rotate_left
  · intro w'
    go_simp
    with_reducible rfl
  rotate_left
  · simp only [Act.put, zSa, zSb, zSc, i64_w, i32_w]
    rfl
  refine pure_ (i := 15) (N := some 28) (v := ?_) (a' := ?_) #[true, true, true, false, true, true, true, true, false, true, true, true, true, false, true, true, false, false, false, false, false, false] rfl rfl (by kernel_rfl) (fun _ _ _ h => h) (Or.inl ⟨by rfl, ?_⟩) ?_ ?_
  rotate_left
  · intro w'
    go_simp
    with_reducible rfl
  rotate_left
  · simp only [Act.put, zSa, zSb, zSc, i64_w, i32_w]
    rfl
  refine pure_ (i := 16) (N := some 29) (v := ?_) (a' := ?_) #[true, true, true, false, true, true, true, true, false, true, true, true, true, false, true, true, true, false, false, false, false, false] rfl rfl (by kernel_rfl) (fun _ _ _ h => h) (Or.inl ⟨by rfl, ?_⟩) ?_ ?_
  rotate_left
  · intro w'
    go_simp
    with_reducible rfl
  rotate_left
  · simp only [Act.put, zSa, zSb, zSc, i64_w, i32_w]
    rfl
  refine take_ (i := 3) (N := some 16) (v := ?_) (a' := ?_) #[true, true, true, true, true, true, true, true, false, true, true, true, true, false, true, true, true, false, false, false, false, false] rfl rfl (by kernel_rfl) (fun _ _ _ h => h) (Or.inl ⟨by rfl, ?_⟩) hHeld ?_ ?_
  rotate_left
  · rintro w' ⟨s0, s1, s2⟩
    go_simp
    with_reducible rfl
  rotate_left
  · simp only [Act.put, zSa, zSb, zSc, i64_w, i32_w]
    rfl
  refine take_ (i := 8) (N := some 21) (v := ?_) (a' := ?_) #[true, true, true, true, true, true, true, true, true, true, true, true, true, false, true, true, true, false, false, false, false, false] rfl rfl (by kernel_rfl) (fun _ _ _ h => h) (Or.inl ⟨by rfl, ?_⟩) hHeld ?_ ?_
  rotate_left
  · rintro w' ⟨s0, s1, s2⟩
    go_simp
    with_reducible rfl
  rotate_left
  · simp only [Act.put, zSa, zSb, zSc, i64_w, i32_w]
    rfl
  refine take_ (i := 13) (N := some 26) (v := ?_) (a' := ?_) #[true, true, true, true, true, true, true, true, true, true, true, true, true, true, true, true, true, false, false, false, false, false] rfl rfl (by kernel_rfl) (fun _ _ _ h => h) (Or.inl ⟨by rfl, ?_⟩) hHeld ?_ ?_
  rotate_left
  · rintro w' ⟨s0, s1, s2⟩
    go_simp
    with_reducible rfl
  rotate_left
  · simp only [Act.put, zSa, zSb, zSc, i64_w, i32_w]
    rfl
  refine take_ (i := 17) (N := some 30) (v := ?_) (a' := ?_) #[true, true, true, true, true, true, true, true, true, true, true, true, true, true, true, true, true, true, false, false, false, false] rfl rfl (by kernel_rfl) (fun _ _ _ h => h) (Or.inl ⟨by rfl, ?_⟩) hHeld ?_ ?_
  rotate_left
  · rintro w' ⟨s0, s1, s2⟩
    go_simp
    with_reducible rfl
  rotate_left
  · simp only [Act.put, zSa, zSb, zSc, i64_w, i32_w]
    rfl
  refine pure_ (i := 18) (N := some 31) (v := ?_) (a' := ?_) #[true, true, true, true, true, true, true, true, true, true, true, true, true, true, true, true, true, true, true, false, false, false] rfl rfl (by kernel_rfl) (fun _ _ _ h => h) (Or.inl ⟨by rfl, ?_⟩) ?_ ?_
  rotate_left
  · intro w'
    go_simp
    with_reducible rfl
  rotate_left
  · simp only [Act.put, zSa, zSb, zSc, i64_w, i32_w]
    rfl
  refine one_ (i := 19) (N := none) #[true, true, true, true, true, true, true, true, true, true, true, true, true, true, true, true, true, true, true, true, false, false] rfl rfl (by kernel_rfl) (by decide) (fun K hK => ?_)
  have h1' := HWd.out.h1
  rw [E1.out] at h1'
  obtain ⟨hx1, hf1⟩ := Kd.R_celln (0 : Int) h1' v HC.out.1 HC.out.2.1
  clear h1'
  refine skip_ (w1 := ?_) (by rfl) rfl ?_ ?_
  rotate_left
  · go_simp
    rfl
  have H19 := zMk (HWd.out.put1 E1.out v (wrap64 (s.clock + 1)))
  clear hx1 hf1
  refine hK.out _ _ ⟨(zKc H19.out.hw 1).trans (congrArg some E1.out), (zKc H19.out.hw 2).trans (congrArg some E2.out), (zKc H19.out.hw 8).trans (rfl)⟩ (fun hHeld => ?_)
  clear hK K
  refine pure_ (i := 20) (N := some 32) (v := ?_) (a' := ?_) #[true, true, true, true, true, true, true, true, true, true, true, true, true, true, true, true, true, true, true, true, true, false] rfl rfl (by kernel_rfl) (fun _ _ _ h => h) (Or.inl ⟨by rfl, ?_⟩) ?_ ?_
  rotate_left
  · intro w'
    go_simp
    with_reducible rfl
  rotate_left
  · simp only [Act.put, zSa, zSb, zSc, i64_w, i32_w]
    rfl
  refine last_ (i := 21) (N := none) #[true, true, true, true, true, true, true, true, true, true, true, true, true, true, true, true, true, true, true, true, true, true] rfl rfl (by kernel_rfl) (by decide) (fun K hK => ?_)
  have h2' := H19.out.h2
  rw [E2.out] at h2'
  obtain ⟨hx2, hf2⟩ := Kd.R_celln (0 : Int) h2' v HC.out.1 HC.out.2.2.1
  clear h2'
  generalize w2.setCell ⟨g1, v.toNat, none⟩ (.int .i64 (wrap64 (s.clock + 1))) = w3 at H19 hx2 hf2 ⊢
  refine skip_ (w1 := ?_) (by rfl) rfl ?_ ?_
  rotate_left
  · go_simp
    rfl
  have H21 := zMk (H19.out.put2 E2.out v (wrap64 (s.clock + 1)))
  clear hx2 hf2
  refine hK.out _ _ ?_
  clear hK K
  refine done_ (by kernel_rfl) ?_
  clear HW1 HWd
  generalize w3.setCell ⟨g2, v.toNat, none⟩ (.int .i64 (wrap64 (s.clock + 1))) = w4 at H21 ⊢
  obtain ⟨AS, cS, eS⟩ := zRs H21.out.hS
  have ES := zMk (show V.vS = .slice AS s.stack.length cS from eS)
  clear eS
  have z9 : w4.cell? ⟨gw, 9, none⟩ = some (.slice AS s.stack.length cS) := (zKc H21.out.hw 9).trans (congrArg some ES.out)
  have HS := zMk (show Kd.R k51 89 w4 w0.heap.size (fun _ => True) (.slice AS s.stack.length cS) s.stack from ES.out ▸ H21.out.hS)
  go_wp2_with ((with_reducible refine gate_builtin (b := .append) (xs := #[.tmp 37, .tmp 41]) rfl ?_); at_builtin; refine Kd.R_append k51 (w0 := w0) w0.heap.size rfl (.tmp 37) (.tmp 41) 53 89 (.agg #[(.int .i64 0), (.int .i64 0)]) 16 rfl Try.underlying53 (by kernel_rfl) rfl (by decide) (by omega) (.slice AS s.stack.length cS) s.stack (⟨v, by_⟩ : S51) [.int .i64 v, .int .i64 by_] (fun _ => True) (fun _ => False) rfl rfl ?aP (fun _ hk => hk.elim) ?aF ?aO ?aB ?aS ?aL ?_; (case aP => exact k51_mkM _ _ _ (⟨v, by_⟩ : S51)); (case aB => exact H21.out.hBl); (case aF => exact (fun _ _ => trivial)); (case aO => exact HS.out); (case aS => exact (zBs H21.out.hBl)); (case aL => have := HC.out.2.2.2; omega); intro vQ w5 ho hb hg hat; have HF := zMk (H21.out.gstack hb (ES.out ▸ hg) ho); have z9' := zKc (blk_grown H21.out.hw hg (by have := Kd.R_ne H21.out.hS H21.out.hw (by decide); rwa [ES.out] at this)) 9; have f9' := zKf (blk_grown H21.out.hw hg (by have := Kd.R_ne H21.out.hS H21.out.hw (by decide); rwa [ES.out] at this)) 9; obtain ⟨AQ, cQ, eQ⟩ := zRs ho; subst eQ; clear ho hb hg hat)
  go_end0
  have hf := HF.out
  rw [show (s.stack ++ [(⟨v, by_⟩ : S51)]).length = s.stack.length + 1 by simp] at hf
  exact ⟨rfl, _, hf⟩
def insBy {α : Type} (key : α → Int) (x : α) : List α → List α
  | [] => [x]
  | y :: l => if key x ≤ key y then x :: y :: l else y :: insBy key x l
def isortBy {α : Type} (key : α → Int) : List α → List α
  | [] => []
  | x :: l => insBy key x (isortBy key l)
theorem insBy_perm {α : Type} (key : α → Int) (x : α) : ∀ l : List α, (insBy key x l).Perm (x :: l)
  | [] => List.Perm.refl _
  | y :: l => by
    unfold insBy
    split
    · exact List.Perm.refl _
    · exact ((insBy_perm key x l).cons y).trans (List.Perm.swap x y l)
theorem isortBy_perm {α : Type} (key : α → Int) : ∀ l : List α, (isortBy key l).Perm l
  | [] => List.Perm.refl _
  | x :: l => (insBy_perm key x _).trans ((isortBy_perm key l).cons x)
theorem insBy_sorted {α : Type} (key : α → Int) (x : α) : ∀ l : List α, l.Pairwise (fun a b => key a ≤ key b) → (insBy key x l).Pairwise (fun a b => key a ≤ key b)
  | [], _ => List.pairwise_singleton _ _
  | y :: l, h => by
    rw [List.pairwise_cons] at h
    unfold insBy
    split
    · rename_i hxy
      rw [List.pairwise_cons, List.pairwise_cons]
      refine ⟨fun z hz => ?_, h⟩
      rcases List.mem_cons.1 hz with rfl | hz
      · exact hxy
      · exact Int.le_trans hxy (h.1 z hz)
    · rename_i hxy
      rw [List.pairwise_cons]
      refine ⟨fun z hz => ?_, insBy_sorted key x l h.2⟩
      rcases List.mem_cons.1 ((insBy_perm key x l).mem_iff.1 hz) with rfl | hz
      · omega
      · exact h.1 z hz
theorem isortBy_sorted {α : Type} (key : α → Int) : ∀ l : List α, (isortBy key l).Pairwise (fun a b => key a ≤ key b)
  | [] => List.Pairwise.nil
  | x :: l => insBy_sorted key x _ (isortBy_sorted key l)
def wkSorted (xs : List Int) : List Int := isortBy (fun x => x) xs
theorem wkSorted_eq (xs : List Int) : (xs.mergeSort fun x y => decide (x ≤ y)) = wkSorted xs := by
  have h2 : (xs.mergeSort fun x y => decide (x ≤ y)).Pairwise (fun a b : Int => a ≤ b) := by
    have := List.pairwise_mergeSort (le := fun a b : Int => decide (a ≤ b)) (fun a b c h1 h2 => by simp only [decide_eq_true_eq] at *; omega) (fun a b => by simp only [Bool.or_eq_true, decide_eq_true_eq]; omega) xs
    exact this.imp (fun h => of_decide_eq_true h)
  exact List.Perm.eq_of_pairwise (le := fun a b : Int => a ≤ b) (fun a b _ _ e1 e2 => Int.le_antisymm e1 e2) h2 (isortBy_sorted _ xs) ((List.mergeSort_perm _ _).trans (isortBy_perm _ xs).symm)
end Go.Proofs.Ytkiemlbobcklpaa.A
namespace Go.Proofs
open Go.Shelf
def Try.laysSlF6_f46_ren : Go.Shelf.Ren := ⟨fun | 6 => 46 | 15 => 44 | 14 => 64 | 28 => 60 | 29 => 61 | 20 => 73 | 21 => 74 | 22 => 75 | 23 => 76 | 24 => 77 | 25 => 78 | 26 => 79 | 27 => 80 | 46 => 87 | 47 => 67 | 48 => 68 | 49 => 88 | 50 => 89 | 57 => 93 | n => n, fun | 22 => 29 | 24 => 33 | 25 => 72 | 3 => 3 | 39 => 69 | 0 => 0 | 53 => 84 | 55 => 86 | 4 => 4 | 46 => 77 | 45 => 76 | 50 => 61 | 5 => 5 | 9 => 9 | 66 => 92 | 70 => 96 | 76 => 103 | 77 => 104 | n => n, fun | n => n⟩
theorem Try.laysSlF6_f46 : Go.Proofs.SlLaysF.n6 Try.prog Try.laysSlF6_f46_ren := {
  mixed := by kernel_rfl
  f6 := ⟨Try.f46.name, by decide, Try.func46.trans (congrArg some (by kernel_rfl))⟩
  f14 := ⟨Try.f64.name, by decide, Try.func64.trans (congrArg some (by kernel_rfl))⟩
  f15 := Try.func44.trans (congrArg some (by kernel_rfl))
  f20 := ⟨Try.f73.name, by decide, Try.func73.trans (congrArg some (by kernel_rfl))⟩
  f21 := ⟨Try.f74.name, by decide, Try.func74.trans (congrArg some (by kernel_rfl))⟩
  f22 := ⟨Try.f75.name, by decide, Try.func75.trans (congrArg some (by kernel_rfl))⟩
  f23 := ⟨Try.f76.name, by decide, Try.func76.trans (congrArg some (by kernel_rfl))⟩
  f24 := ⟨Try.f77.name, by decide, Try.func77.trans (congrArg some (by kernel_rfl))⟩
  f25 := ⟨Try.f78.name, by decide, Try.func78.trans (congrArg some (by kernel_rfl))⟩
  f26 := ⟨Try.f79.name, by decide, Try.func79.trans (congrArg some (by kernel_rfl))⟩
  f27 := ⟨Try.f80.name, by decide, Try.func80.trans (congrArg some (by kernel_rfl))⟩
  f28 := Try.func60.trans (congrArg some (by kernel_rfl))
  f29 := Try.func61.trans (congrArg some (by kernel_rfl))
  f46 := ⟨Try.f87.name, by decide, Try.func87.trans (congrArg some (by kernel_rfl))⟩
  f47 := Try.func67.trans (congrArg some (by kernel_rfl))
  f48 := Try.func68.trans (congrArg some (by kernel_rfl))
  f49 := ⟨Try.f88.name, by decide, Try.func88.trans (congrArg some (by kernel_rfl))⟩
  f50 := ⟨Try.f89.name, by decide, Try.func89.trans (congrArg some (by kernel_rfl))⟩
  f57 := ⟨Try.f93.name, by decide, Try.func93.trans (congrArg some (by kernel_rfl))⟩
  t0 := Try.underlying0
  a0 := Try.isAgg0
  z0 := Try.sizeOf0
  v0 := Try.zeroValue0
  t3 := Try.underlying3
  a3 := Try.isAgg3
  z3 := Try.sizeOf3
  v3 := Try.zeroValue3
  t4 := Try.underlying4
  a4 := Try.isAgg4
  z4 := Try.sizeOf4
  v4 := Try.zeroValue4
  t5 := Try.underlying5
  a5 := Try.isAgg5
  z5 := Try.sizeOf5
  v5 := Try.zeroValue5
  t9 := Try.underlying9
  a9 := Try.isAgg9
  z9 := Try.sizeOf9
  v9 := Try.zeroValue9
  t22 := Try.underlying29
  a22 := Try.isAgg29
  z22 := Try.sizeOf29
  v22 := Try.zeroValue29
  a24 := Try.isAgg33
  z24 := Try.sizeOf33
  t25 := Try.underlying72
  a25 := Try.isAgg72
  z25 := Try.sizeOf72
  v25 := Try.zeroValue72
  t39 := Try.underlying69
  a39 := Try.isAgg69
  z39 := Try.sizeOf69
  v39 := Try.zeroValue69
  t45 := Try.underlying76
  a45 := Try.isAgg76
  z45 := Try.sizeOf76
  v45 := Try.zeroValue76
  t46 := Try.underlying77
  a46 := Try.isAgg77
  z46 := Try.sizeOf77
  v46 := Try.zeroValue77
  t50 := Try.underlying61
  a50 := Try.isAgg61
  z50 := Try.sizeOf61
  v50 := Try.zeroValue61
  t53 := Try.underlying84
  a53 := Try.isAgg84
  z53 := Try.sizeOf84
  v53 := Try.zeroValue84
  t55 := Try.underlying86
  a55 := Try.isAgg86
  z55 := Try.sizeOf86
  v55 := Try.zeroValue86
  t66 := Try.underlying92
  a66 := Try.isAgg92
  z66 := Try.sizeOf92
  v66 := Try.zeroValue92
  t70 := Try.underlying96
  a70 := Try.isAgg96
  z70 := Try.sizeOf96
  v70 := Try.zeroValue96
  t76 := Try.underlying103
  a76 := Try.isAgg103
  z76 := Try.sizeOf103
  v76 := Try.zeroValue103
  t77 := Try.underlying104
  a77 := Try.isAgg104
  z77 := Try.sizeOf104
  v77 := Try.zeroValue104 }
open Go.RowKit Go.Lib Go.Sort in
theorem Try.slices_SortFunc_eq {α : Type} [Inhabited α] (enc : α → Value) (h1 : OneCell enc) (cf : α → α → Int) (hO : SWO (ltOf cf)) (g : Nat) (cb : Array Value) (blk off cap : Nat) (d : Array α) (w : World) (eg : ∀ args w, (callFunc g args).run Try.prog w = .ok (.enter g args) w) (hcmp : CmpLays1 Try.prog g cb enc cf blk off d.size w) (hH : Holds enc w blk off d) (hblk : blk < w.heap.size) (hsz : d.size < 4611686018427387904) :
    Calls Try.prog 46 #[.slice (some ⟨blk, off, none⟩) d.size cap, .func (.func g) #[] cb] w fun e w' =>
      e = .returned (.tuple #[]) ∧ ∃ n os, w' = sortWorld enc w blk off n (pdq (ltOf cf) d 0 d.size (Lib.bitLen d.size) true true) os := Any.slices_SortFunc_eq Try.laysSlF6_f46 enc h1 cf hO g cb blk off cap d w eg hcmp hH hblk hsz
def Try.laysSlF06_f46_ren : Go.Shelf.Ren := ⟨fun | 6 => 46 | 15 => 44 | 14 => 64 | 28 => 60 | 29 => 61 | 20 => 73 | 21 => 74 | 22 => 75 | 23 => 76 | 24 => 77 | 25 => 78 | 26 => 79 | 27 => 80 | 46 => 87 | 47 => 67 | 48 => 68 | 49 => 88 | 50 => 89 | 57 => 93 | n => n, fun | 22 => 29 | 24 => 33 | 25 => 72 | 3 => 3 | 39 => 69 | 0 => 0 | 53 => 84 | 55 => 86 | 4 => 4 | 46 => 77 | 45 => 76 | 50 => 61 | 5 => 5 | 9 => 9 | 66 => 92 | 70 => 96 | 76 => 103 | 77 => 104 | n => n, fun | n => n⟩
theorem Try.laysSlF06_f46 : Go.Proofs.SlLaysF0.n6 Try.prog Try.laysSlF06_f46_ren := {
  mixed := by kernel_rfl
  f6 := ⟨Try.f46.name, by decide, Try.func46.trans (congrArg some (by kernel_rfl))⟩
  f14 := ⟨Try.f64.name, by decide, Try.func64.trans (congrArg some (by kernel_rfl))⟩
  f15 := Try.func44.trans (congrArg some (by kernel_rfl))
  f20 := ⟨Try.f73.name, by decide, Try.func73.trans (congrArg some (by kernel_rfl))⟩
  f21 := ⟨Try.f74.name, by decide, Try.func74.trans (congrArg some (by kernel_rfl))⟩
  f22 := ⟨Try.f75.name, by decide, Try.func75.trans (congrArg some (by kernel_rfl))⟩
  f23 := ⟨Try.f76.name, by decide, Try.func76.trans (congrArg some (by kernel_rfl))⟩
  f24 := ⟨Try.f77.name, by decide, Try.func77.trans (congrArg some (by kernel_rfl))⟩
  f25 := ⟨Try.f78.name, by decide, Try.func78.trans (congrArg some (by kernel_rfl))⟩
  f26 := ⟨Try.f79.name, by decide, Try.func79.trans (congrArg some (by kernel_rfl))⟩
  f27 := ⟨Try.f80.name, by decide, Try.func80.trans (congrArg some (by kernel_rfl))⟩
  f28 := Try.func60.trans (congrArg some (by kernel_rfl))
  f29 := Try.func61.trans (congrArg some (by kernel_rfl))
  f46 := ⟨Try.f87.name, by decide, Try.func87.trans (congrArg some (by kernel_rfl))⟩
  f47 := Try.func67.trans (congrArg some (by kernel_rfl))
  f48 := Try.func68.trans (congrArg some (by kernel_rfl))
  f49 := ⟨Try.f88.name, by decide, Try.func88.trans (congrArg some (by kernel_rfl))⟩
  f50 := ⟨Try.f89.name, by decide, Try.func89.trans (congrArg some (by kernel_rfl))⟩
  f57 := ⟨Try.f93.name, by decide, Try.func93.trans (congrArg some (by kernel_rfl))⟩
  t0 := Try.underlying0
  a0 := Try.isAgg0
  z0 := Try.sizeOf0
  v0 := Try.zeroValue0
  t3 := Try.underlying3
  a3 := Try.isAgg3
  z3 := Try.sizeOf3
  v3 := Try.zeroValue3
  t4 := Try.underlying4
  a4 := Try.isAgg4
  z4 := Try.sizeOf4
  v4 := Try.zeroValue4
  t5 := Try.underlying5
  a5 := Try.isAgg5
  z5 := Try.sizeOf5
  v5 := Try.zeroValue5
  t9 := Try.underlying9
  a9 := Try.isAgg9
  z9 := Try.sizeOf9
  v9 := Try.zeroValue9
  t22 := Try.underlying29
  a22 := Try.isAgg29
  z22 := Try.sizeOf29
  v22 := Try.zeroValue29
  t25 := Try.underlying72
  a25 := Try.isAgg72
  z25 := Try.sizeOf72
  v25 := Try.zeroValue72
  t39 := Try.underlying69
  a39 := Try.isAgg69
  z39 := Try.sizeOf69
  v39 := Try.zeroValue69
  t45 := Try.underlying76
  a45 := Try.isAgg76
  z45 := Try.sizeOf76
  v45 := Try.zeroValue76
  t46 := Try.underlying77
  a46 := Try.isAgg77
  z46 := Try.sizeOf77
  v46 := Try.zeroValue77
  t50 := Try.underlying61
  a50 := Try.isAgg61
  z50 := Try.sizeOf61
  v50 := Try.zeroValue61
  t53 := Try.underlying84
  a53 := Try.isAgg84
  z53 := Try.sizeOf84
  v53 := Try.zeroValue84
  t55 := Try.underlying86
  a55 := Try.isAgg86
  z55 := Try.sizeOf86
  v55 := Try.zeroValue86
  t66 := Try.underlying92
  a66 := Try.isAgg92
  z66 := Try.sizeOf92
  v66 := Try.zeroValue92
  t70 := Try.underlying96
  a70 := Try.isAgg96
  z70 := Try.sizeOf96
  v70 := Try.zeroValue96
  t76 := Try.underlying103
  a76 := Try.isAgg103
  z76 := Try.sizeOf103
  v76 := Try.zeroValue103
  t77 := Try.underlying104
  a77 := Try.isAgg104
  z77 := Try.sizeOf104
  v77 := Try.zeroValue104 }
open Go.RowKit Go.Lib Go.Sort in
theorem Try.slices_SortFunc_none {α : Type} [Inhabited α] (p : Option Addr) (cap : Nat) (fv : Value) (w : World) :
    Calls Try.prog 46 #[.slice p 0 cap, fv] w fun e w' => e = .returned (.tuple #[]) ∧ w' = w := AnyF.slices_SortFunc_none Try.laysSlF06_f46 p cap fv w
end Go.Proofs
