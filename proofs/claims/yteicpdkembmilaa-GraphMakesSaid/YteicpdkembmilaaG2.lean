/- Lemmas for the statement: the walks of the functions that it reaches, and plain laws. -/
import Derived.Test.YteicpdkembmilaaG1
set_option linter.unusedVariables false
set_option linter.unusedSimpArgs false
namespace Go.Proofs.Yteicpdkembmilaa.A
open Go Go.RowKit Go.Proofs.YteicpdkembmilaaW.PrintWords Go.Proofs.YteicpdkembmilaaW.PrintLast Go.Proofs.YteicpdkembmilaaW.PrintMore
attribute [local go_sem] max2_int min2_int max_two min_two max_three min_three max_four min_four
open Go.Proofs.YteicpdkembmilaaW.PrintWords.Kd renaming R_alloc → zRa, R_drewN → zRn, R_drew → zRd, V_alloc → zVa, V_drewN → zVn, V_drew → zVd, V_below → zVb, C_alloc → zCa, C_drewN → zCn, C_drew → zCd, R_mono → zRm, V_mono → zVm, at_int → zAi, R_elder' → zRe, R_lower → zRl, R_new' → zRw, R_lt → zRt, R_below → zRb, R_base → zRz, R_reads' → zRr, R_slice → zRs, V_elder' → zVe, V_lower → zVl, V_slice → zVs, V_reads' → zVr
open Go.Proofs.YteicpdkembmilaaW.PrintWords renaming pw_below_drewN → zBn, below_alloc → zBa, below_drew1 → zBd, below_size → zBs, below_step → zBt, blk_drewN → zKn, blk_drew → zKd, blk_alloc → zKa, blk_below → zKb, blk_cell → zKc, blk_frozen → zKf
open List renaming setIfInBounds_toArray → zSa, set_cons_zero → zSb, set_cons_succ → zSc, length_drop → zLd, length_take → zLt, map_toArray → zMa, map_cons → zMc, map_nil → zMn, length_cons → zLc, length_nil → zLn
open Go.Proofs.YteicpdkembmilaaW.PrintWords.Aside0 renaming mk → zMk
open Option renaming bind_eq_some_iff → zBi, bind_some → zOb
open Option.some renaming inj → zOi
open Int renaming toNat_natCast → zTn

/-! ### filigreeref04_Right: function 12 -/
mutual
def filigreeref04_Right.l0 : Nat → Int → Int → List (S36) → Option (Int)
  | 0, _, _, _ => none
  | k + 1, x4, x378000, x378001 => if x4 < (x378001.length : Int) then (if 0 ≤ x4 then ((filigreeref04_edge.f k x378000 ((rd_T36 x378001 x4).f0) ((rd_T36 x378001 x4).f1) ((rd_T36 x378001 x4).f2)).bind fun t380 => (if t380 = 0 then (if ((rd_T36 x378001 x4).f0) > ((rd_T36 x378001 x4).f1) then (some 1) else (if x4 > 0 then (if 0 ≤ (wrap64 (x4 - 1)) then (if (wrap64 (x4 - 1)) < (x378001.length : Int) then ((filigreeref04_below.f ((rd_T36 x378001 (wrap64 (x4 - 1))).f0) ((rd_T36 x378001 (wrap64 (x4 - 1))).f1) ((rd_T36 x378001 (wrap64 (x4 - 1))).f2) ((rd_T36 x378001 x4).f0) ((rd_T36 x378001 x4).f1) ((rd_T36 x378001 x4).f2)).bind fun t385 => (filigreeref04_Right.j1 k x4 (!t385) x378000 x378001)) else (none)) else (none)) else (filigreeref04_Right.j1 k x4 false x378000 x378001))) else (some t380))) else (none)) else (some 0)
def filigreeref04_Right.j1 : Nat → Int → Bool → Int → List (S36) → Option (Int)
  | 0, _, _, _, _ => none
  | k + 1, x4, x62, x378000, x378001 => if x62 = true then (if 0 ≤ x4 then (if x4 < (x378001.length : Int) then (if 0 ≤ (wrap64 (x4 - 1)) then (if (wrap64 (x4 - 1)) < (x378001.length : Int) then ((filigreeref04_below.f ((rd_T36 x378001 x4).f0) ((rd_T36 x378001 x4).f1) ((rd_T36 x378001 x4).f2) ((rd_T36 x378001 (wrap64 (x4 - 1))).f0) ((rd_T36 x378001 (wrap64 (x4 - 1))).f1) ((rd_T36 x378001 (wrap64 (x4 - 1))).f2)).bind fun t388 => (if t388 = true then (some 1) else (some 7))) else (none)) else (none)) else (none)) else (none)) else (filigreeref04_Right.l0 k (wrap64 (x4 + 1)) x378000 x378001)
end
def filigreeref04_Right.f (k : Nat) (a0_0 : Int) (l0_1 : List (S36)) : Option (Int) := (filigreeref04_many.f a0_0 (l0_1.length : Int)).bind fun t378 => (if t378 = 0 then (filigreeref04_Right.l0 k 0 a0_0 l0_1) else (some t378))
def filigreeref04_Right.T7 : Bool × List (List Nat × List Nat) := (true, [([], []), ([0], [0]), ([], []), ([2], [2]), ([], []), ([3, 4], [3, 4]), ([5], [5]), ([1, 6], [1, 6]), ([7, 7, 0, 1, 2, 3, 4, 5, 6, 7], [7])])
def filigreeref04_Right.B7 : List Nat := [0, 1, 0, 4, 0, 28, 60, 127, 255]
theorem filigreeref04_Right.tab7 : rtab .any (opsOf Try.f12 7) = filigreeref04_Right.T7 := by kernel_rfl
theorem filigreeref04_Right.bits7 : waitsOk filigreeref04_Right.T7.2 filigreeref04_Right.B7 = true := by kernel_rfl
def filigreeref04_Right.T10 : Bool × List (List Nat × List Nat) := (true, [([], []), ([0], [0]), ([], []), ([1, 2], [1, 2]), ([3], [3]), ([4], [4]), ([], []), ([6], [6]), ([], []), ([7, 8], [7, 8]), ([9], [9]), ([10], [10]), ([5, 11], [5, 11])])
def filigreeref04_Right.B10 : List Nat := [0, 1, 0, 7, 15, 31, 0, 64, 0, 448, 960, 1984, 4095]
theorem filigreeref04_Right.tab10 : rtab .any (opsOf Try.f12 10) = filigreeref04_Right.T10 := by kernel_rfl
theorem filigreeref04_Right.bits10 : waitsOk filigreeref04_Right.T10.2 filigreeref04_Right.B10 = true := by kernel_rfl
def filigreeref04_Right.T12 : Bool × List (List Nat × List Nat) := (true, [([], []), ([0], [0]), ([1], [1]), ([2], [2]), ([3, 2], [2, 3]), ([2], [2]), ([5, 2], [2, 5]), ([4, 6, 2], [2, 4, 6]), ([7, 2], [2, 7]), ([2], [2]), ([9, 2], [2, 9]), ([2], [2]), ([10, 11, 2], [2, 10, 11]), ([12, 2], [2, 12]), ([8, 13, 2, 2], [2, 8, 13]), ([14, 2], [2, 14]), ([2, 15], [2, 15])])
def filigreeref04_Right.B12 : List Nat := [0, 1, 3, 7, 15, 7, 39, 127, 255, 7, 519, 7, 3591, 7687, 16383, 32767, 65535]
theorem filigreeref04_Right.tab12 : rtab .any (opsOf Try.f12 12) = filigreeref04_Right.T12 := by kernel_rfl
theorem filigreeref04_Right.bits12 : waitsOk filigreeref04_Right.T12.2 filigreeref04_Right.B12 = true := by kernel_rfl
def filigreeref04_Right.T13 : Bool × List (List Nat × List Nat) := (true, [([], []), ([0], [0]), ([], []), ([1, 2], [1, 2]), ([3], [3]), ([], []), ([5], [5]), ([], []), ([7], [7]), ([6, 8], [6, 8]), ([9], [9]), ([4, 10], [4, 10])])
def filigreeref04_Right.B13 : List Nat := [0, 1, 0, 7, 15, 0, 32, 0, 128, 480, 992, 2047]
theorem filigreeref04_Right.tab13 : rtab .any (opsOf Try.f12 13) = filigreeref04_Right.T13 := by kernel_rfl
theorem filigreeref04_Right.bits13 : waitsOk filigreeref04_Right.T13.2 filigreeref04_Right.B13 = true := by kernel_rfl
set_option maxHeartbeats 8000000 in
set_option maxRecDepth 100000 in
theorem filigreeref04_Right.calls (k : Nat) (a0_0 : Int) (A0_1 : Option Addr) (c0_1 : Nat) (l0_1 : List (S36)) (r : Int) (w : World) (hr0_1 : Kd.C k36 w A0_1 l0_1.length l0_1) (hc0_1 : l0_1.length ≤ c0_1) (h : filigreeref04_Right.f k a0_0 l0_1 = some r) :
    Calls Try.prog 12 #[.agg #[.int .i64 a0_0, .slice A0_1 l0_1.length c0_1]] w fun e w' => e = .returned (.int .i64 r) ∧ Below w.heap.size w w' := by
  have hu24 := Try.underlying24
  have hu36 := Try.underlying36
  have HR0_1 := zMk hr0_1
  have HC0_1 := zMk hc0_1
  clear hr0_1 hc0_1
  have HB := zMk (Below.refl w.heap.size w)
  have H : ((filigreeref04_many.f a0_0 (l0_1.length : Int)).bind fun t378 => (if t378 = 0 then (filigreeref04_Right.l0 k 0 a0_0 l0_1) else (some t378))) = some r := h
  clear h
  replace H := bnd H
  obtain ⟨t378, A20, H⟩ := H
  have A2 := zMk A20
  clear A20
  by_cases c3 : t378 = 0
  · rw [if_pos c3] at H
    have c3b0 : (t378 == 0) = true := beq_iff_eq.mpr c3
    have c3b1 : (t378 != 0) = false := bne_eq_false_iff_eq.mpr c3
    clear c3
    have H' := zMk H
    clear H
    go_enter Try.func12, Try.ntmps12
    go_wp2_with (first |  ((with_reducible refine gate_dst (N := 1) rfl ?_); refine box_event ?hg (N := 1) ?hd (cs := #[.int .i64 a0_0, .slice A0_1 l0_1.length c0_1]) (t := 24) ?hr ?_; (case hd => rfl); (case hg => rfl); (case hr => first |  (go_simp; done)|  (go_simp; rfl)|  (go_simp; rw [show ∀ x : Int, IntKind.u32.wrap (IntKind.u8.wrap x) = x % 256 from fun x => (by show (x % 256) % 4294967296 = x % 256; omega)])); intro gb377 hg w4 hbox hb; have BK377 := zMk (hbox); have GW377 := zMk ((by rw [hg]; exact (zBs (by exact uT HB.out)) : w.heap.size ≤ gb377)); have GE377 := zMk ((by rw [hg]; exact (zBs (by exact uT HB.out)) : w.heap.size ≤ gb377)); have IGE377 := ownGe GE377.out; replace HB := zMk (zBt (by exact uT HB.out) hb); clear hb hbox hg; have hcz5_0 : w4.cell? ⟨gb377, 0, none⟩ = some (.int .i64 a0_0) := (zKc BK377.out 0).trans rfl; have hcz5_1 : w4.cell? ⟨gb377, 1, none⟩ = some (.slice A0_1 l0_1.length c0_1) := (zKc BK377.out 1).trans rfl; have hfz5_0 := zKf BK377.out 0; have hfz5_1 := zKf BK377.out 1)|  ((with_reducible refine gate_callee (f := 35) rfl ?_); refine goesL_ (some 11) rfl rfl Try.func35 (by kernel_rfl) rfl #[.int .i64 a0_0, .int .i64 (l0_1.length : Int)] rfl (by (try simp only [zMa, zMc, zMn]); first |  done|  rfl|  (simp only [zLd, zLt]; rfl)) ?_; (with_reducible refine (filigreeref04_many.calls a0_0 (l0_1.length : Int) t378 _ A2.out).mono ?_); rintro e w' ⟨rfl, ⟨nd, rfl⟩⟩; refine ⟨_, rfl, ?_⟩))
    go_loopg [4] k (fun kq v4 w' => ∃ (x4_1 : Int), v4 = .int .i64 x4_1 ∧ Aside0 (filigreeref04_Right.l0 kq x4_1 a0_0 l0_1 = some r) ∧ Aside0 (kq ≤ k) ∧ Aside0 (w'.heap[gb377]? = some (.cells #[.int .i64 a0_0, (.slice A0_1 l0_1.length c0_1)] 24 (0, 0))) ∧ Aside0 (Below w.heap.size w w'))
    case atStart => exact ⟨(0), (by first | rfl | (simp; done) | (simp [*]; done)), H', ⟨Nat.le_refl _⟩, ⟨by (with_reducible repeat (first | refine zKn ?_ _ | refine zKd ?_ | refine zKa ?_ _)); exact BK377.out⟩, ⟨by exact uT HB.out⟩⟩
    clear H'
    obtain ⟨x4_1, rfl, HA, HK1, BK377, HB⟩ := hrel
    rcases gk with _ | k1
    · exact absurd HA.out (by simp [filigreeref04_Right.l0])
    have H := HA.out
    clear HA
    simp only [filigreeref04_Right.l0] at H
    by_cases c6 : x4_1 < (l0_1.length : Int)
    · rw [if_pos c6] at H
      have c6b0 : decide (x4_1 < (l0_1.length : Int)) = true := decide_eq_true c6
      clear c6
      by_cases c7 : 0 ≤ x4_1
      rotate_left
      · rw [if_neg c7] at H; exact absurd H (by simp)
      rw [if_pos c7] at H
      have c7b0 : decide (0 ≤ x4_1) = true := decide_eq_true c7
      clear c7
      replace H := bnd H
      obtain ⟨t380, A80, H⟩ := H
      have A8 := zMk A80
      clear A80
      by_cases c9 : t380 = 0
      · rw [if_pos c9] at H
        have c9b0 : (t380 == 0) = true := beq_iff_eq.mpr c9
        have c9b1 : (t380 != 0) = false := bne_eq_false_iff_eq.mpr c9
        clear c9
        by_cases c10 : ((rd_T36 l0_1 x4_1).f0) > ((rd_T36 l0_1 x4_1).f1)
        · rw [if_pos c10] at H
          have c10b0 : decide (((rd_T36 l0_1 x4_1).f1) < ((rd_T36 l0_1 x4_1).f0)) = true := decide_eq_true c10
          clear c10
          obtain rfl := zOi H
          have hcz11_0 : wr.cell? ⟨gb377, 0, none⟩ = some (.int .i64 a0_0) := (zKc BK377.out 0).trans rfl
          have hcz11_1 : wr.cell? ⟨gb377, 1, none⟩ = some (.slice A0_1 l0_1.length c0_1) := (zKc BK377.out 1).trans rfl
          have hfz11_0 := zKf BK377.out 0
          have hfz11_1 := zKf BK377.out 1
          try go_wp2
          replace BK377 := zMk (zKd BK377.out)
          replace HB := zMk (zBd HB.out)
          have p379 : 0 ≤ (x4_1 : Int) := of_decide_eq_true (by first | (with_reducible assumption) | assumption)
          have q379 : x4_1 < (l0_1.length : Int) := of_decide_eq_true (by first | (with_reducible assumption) | assumption)
          obtain ⟨ad379, e379, hx379_0, hx379_1, hx379_2⟩ := at_T36 HR0_1.out x4_1 p379 q379
          have hw379_2 := hx379_2
          have hw379_1 := hx379_1
          have hw379_0 := hx379_0
          cases e379
          replace hx379_0 := (HB.out.cell (World.block_lt_of_cell? w _ hx379_0)).trans hx379_0
          replace hx379_1 := (HB.out.cell (World.block_lt_of_cell? w _ hx379_1)).trans hx379_1
          replace hx379_2 := (HB.out.cell (World.block_lt_of_cell? w _ hx379_2)).trans hx379_2
          replace p379 := eq_true p379
          replace q379 := eq_true q379
          refine start_ (n := 9) (S := fun w' => w'.cell? ⟨gb377, 0, none⟩ = some (.int .i64 a0_0) ∧ w'.cell? ⟨gb377, 1, none⟩ = some (.slice (some ad379) l0_1.length c0_1) ∧ w'.cell? (ad379.add ((x4_1).toNat * 3)) = some (.int .i64 ((rd_T36 l0_1 x4_1).f0)) ∧ w'.cell? ⟨(ad379.add ((x4_1).toNat * 3)).block, (ad379.add ((x4_1).toNat * 3)).off + 1, none⟩ = some (.int .i64 ((rd_T36 l0_1 x4_1).f1)) ∧ w'.cell? ⟨(ad379.add ((x4_1).toNat * 3)).block, (ad379.add ((x4_1).toNat * 3)).off + 2, none⟩ = some (.int .i64 ((rd_T36 l0_1 x4_1).f2))) (ds := []) #[false, false, false, false, false, false, false, false, false] (by kernel_rfl) rfl rfl ⟨(zKc BK377.out 0).trans rfl, (zKc BK377.out 1).trans rfl, ((HB.out.cell (World.block_lt_of_cell? w _ hw379_0)).trans hw379_0), ((HB.out.cell (World.block_lt_of_cell? w _ hw379_1)).trans hw379_1), ((HB.out.cell (World.block_lt_of_cell? w _ hw379_2)).trans hw379_2)⟩ (fun hHeld => ?_); refine with_tabW filigreeref04_Right.tab7 filigreeref04_Right.bits7 (fun HT_ HW_ => ?_)
          generalize wr.drew = w12 at BK377 HB hx379_0 hx379_1 hx379_2 hHeld ⊢
          refine pure_ (i := 0) (N := some 22) (v := ?_) (a' := ?_) #[true, false, false, false, false, false, false, false, false] rfl rfl (any_of HT_.out (by kernel_rfl)) (fun _ _ _ h => h) (Or.inl ⟨by rfl, ?_⟩) ?_ ?_
          rotate_left
          · intro w'
            go_simp
            with_reducible rfl
          rotate_left
          · simp only [Act.put, zSa, zSb, zSc, i64_w, i32_w]
            rfl
          refine pure_ (i := 2) (N := some 24) (v := ?_) (a' := ?_) #[true, false, true, false, false, false, false, false, false] rfl rfl (any_of HT_.out (by kernel_rfl)) (fun _ _ _ h => h) (Or.inl ⟨by rfl, ?_⟩) ?_ ?_
          rotate_left
          · intro w'
            go_simp
            with_reducible rfl
          rotate_left
          · simp only [Act.put, zSa, zSb, zSc, i64_w, i32_w]
            rfl
          refine pure_ (i := 4) (N := some 26) (v := ?_) (a' := ?_) #[true, false, true, false, true, false, false, false, false] rfl rfl (any_of HT_.out (by kernel_rfl)) (fun _ _ _ h => h) (Or.inl ⟨by rfl, ?_⟩) ?_ ?_
          rotate_left
          · intro w'
            go_simp
            with_reducible rfl
          rotate_left
          · simp only [Act.put, zSa, zSb, zSc, i64_w, i32_w]
            rfl
          refine take_ (i := 1) (N := some 23) (v := ?_) (a' := ?_) #[true, true, true, false, true, false, false, false, false] rfl rfl (take_ofW HT_.out HW_.out (by kernel_rfl)) (fun _ _ _ h => h) (Or.inl ⟨by rfl, ?_⟩) hHeld ?_ ?_
          rotate_left
          · rintro w' ⟨s0, s1, s2, s3, s4⟩
            go_simp
            with_reducible rfl
          rotate_left
          · simp only [Act.put, zSa, zSb, zSc, i64_w, i32_w]
            rfl
          refine take_ (i := 3) (N := some 25) (v := ?_) (a' := ?_) #[true, true, true, true, true, false, false, false, false] rfl rfl (take_ofW HT_.out HW_.out (by kernel_rfl)) (fun _ _ _ h => h) (Or.inl ⟨by rfl, ?_⟩) hHeld ?_ ?_
          rotate_left
          · rintro w' ⟨s0, s1, s2, s3, s4⟩
            go_simp
            with_reducible rfl
          rotate_left
          · simp only [Act.put, zSa, zSb, zSc, i64_w, i32_w]
            rfl
          refine pure_ (i := 5) (N := some 27) (v := ?_) (a' := ?_) #[true, true, true, true, true, true, false, false, false] rfl rfl (any_of HT_.out (by kernel_rfl)) (fun _ _ _ h => h) (Or.inl ⟨by rfl, ?_⟩) ?_ ?_
          rotate_left
          · intro w'
            go_simp
            with_reducible rfl
          rotate_left
          · simp only [Act.put, zSa, zSb, zSc, i64_w, i32_w]
            rfl
          refine take_ (i := 6) (N := some 28) (v := ?_) (a' := ?_) #[true, true, true, true, true, true, true, false, false] rfl rfl (take_ofW HT_.out HW_.out (by kernel_rfl)) (fun _ _ _ h => h) (Or.inl ⟨by rfl, ?_⟩) hHeld ?_ ?_
          rotate_left
          · rintro w' ⟨s0, s1, s2, s3, s4⟩
            go_simp
            with_reducible rfl
          rotate_left
          · simp only [Act.put, zSa, zSb, zSc, i64_w, i32_w]
            rfl
          refine one_ (i := 7) (N := some 29) #[true, true, true, true, true, true, true, true, false] rfl rfl (one_of HT_.out (by kernel_rfl)) (by decide) (fun K hK => ?_)
          refine goes_ Try.func36 (by kernel_rfl) rfl #[.int .i64 a0_0, .agg #[.int .i64 ((rd_T36 l0_1 x4_1).f0), .int .i64 ((rd_T36 l0_1 x4_1).f1), .int .i64 ((rd_T36 l0_1 x4_1).f2)]] (by rfl) rfl rfl (by (try simp only [zMa, zMc, zMn]); first | done | rfl | (simp only [zLd, zLt]; rfl)) ?_
          with_reducible refine (filigreeref04_edge.calls k1 a0_0 ((rd_T36 l0_1 x4_1).f0) ((rd_T36 l0_1 x4_1).f1) ((rd_T36 l0_1 x4_1).f2) t380 _ A8.out).mono ?_
          rintro e w13 ⟨rfl, hb⟩
          refine ⟨_, rfl, ?_⟩
          replace BK377 := zMk (zKb (g := gb377) (o := .cells #[.int .i64 a0_0, .slice (some ad379) l0_1.length c0_1] 24 (0, 0)) (by (with_reducible repeat (first | refine zKn ?_ _ | refine zKd ?_ | refine zKa ?_ _)); exact BK377.out) hb)
          replace HB := zMk (zBt (by exact uT HB.out) hb)
          (try clear hb)
          (try clear hb2)
          (try clear hk)
          (try clear hi)
          refine hK.out _ _ ⟨(zKc BK377.out 0).trans rfl, (zKc BK377.out 1).trans rfl, ((HB.out.cell (World.block_lt_of_cell? w _ hw379_0)).trans hw379_0), ((HB.out.cell (World.block_lt_of_cell? w _ hw379_1)).trans hw379_1), ((HB.out.cell (World.block_lt_of_cell? w _ hw379_2)).trans hw379_2)⟩ (fun hHeld => ?_)
          clear hK K
          refine norm_ (a' := ?_) ?_ ?_
          rotate_left
          · show Act.put _ (some 29) _ = _
            simp only [Act.put, zSa, zSb, zSc, i64_w, i32_w]
            rfl
          refine pure_ (i := 8) (N := some 5) (v := ?_) (a' := ?_) #[true, true, true, true, true, true, true, true, true] rfl rfl (any_of HT_.out (by kernel_rfl)) (fun _ _ _ h => h) (Or.inl ⟨by rfl, ?_⟩) ?_ ?_
          rotate_left
          · intro w'
            go_simp
            with_reducible rfl
          rotate_left
          · simp only [Act.put, zSa, zSb, zSc, i64_w, i32_w]
            rfl
          refine done_ (done_of HT_.out (by kernel_rfl)) ?_
          try go_wp2
          replace BK377 := zMk (zKd BK377.out)
          replace HB := zMk (zBd HB.out)
          have p381 : 0 ≤ (x4_1 : Int) := of_decide_eq_true (by first | (with_reducible assumption) | assumption)
          have q381 : x4_1 < (l0_1.length : Int) := of_decide_eq_true (by first | (with_reducible assumption) | assumption)
          obtain ⟨ad381, e381, hx381_0, hx381_1, hx381_2⟩ := at_T36 HR0_1.out x4_1 p381 q381
          have hw381_2 := hx381_2
          have hw381_1 := hx381_1
          have hw381_0 := hx381_0
          obtain rfl : ad379 = ad381 := (by injection e381)
          replace hx381_0 := (HB.out.cell (World.block_lt_of_cell? w _ hx381_0)).trans hx381_0
          replace hx381_1 := (HB.out.cell (World.block_lt_of_cell? w _ hx381_1)).trans hx381_1
          replace hx381_2 := (HB.out.cell (World.block_lt_of_cell? w _ hx381_2)).trans hx381_2
          replace p381 := eq_true p381
          replace q381 := eq_true q381
          have p382 : 0 ≤ (x4_1 : Int) := of_decide_eq_true (by first | (with_reducible assumption) | assumption)
          have q382 : x4_1 < (l0_1.length : Int) := of_decide_eq_true (by first | (with_reducible assumption) | assumption)
          obtain ⟨ad382, e382, hx382_0, hx382_1, hx382_2⟩ := at_T36 HR0_1.out x4_1 p382 q382
          have hw382_2 := hx382_2
          have hw382_1 := hx382_1
          have hw382_0 := hx382_0
          obtain rfl : ad379 = ad382 := (by injection e382)
          replace hx382_0 := (HB.out.cell (World.block_lt_of_cell? w _ hx382_0)).trans hx382_0
          replace hx382_1 := (HB.out.cell (World.block_lt_of_cell? w _ hx382_1)).trans hx382_1
          replace hx382_2 := (HB.out.cell (World.block_lt_of_cell? w _ hx382_2)).trans hx382_2
          replace p382 := eq_true p382
          replace q382 := eq_true q382
          refine start_ (n := 13) (S := fun w' => w'.cell? ⟨gb377, 0, none⟩ = some (.int .i64 a0_0) ∧ w'.cell? ⟨gb377, 1, none⟩ = some (.slice (some ad379) l0_1.length c0_1) ∧ w'.cell? (ad379.add ((x4_1).toNat * 3)) = some (.int .i64 ((rd_T36 l0_1 x4_1).f0)) ∧ w'.cell? ⟨(ad379.add ((x4_1).toNat * 3)).block, (ad379.add ((x4_1).toNat * 3)).off + 1, none⟩ = some (.int .i64 ((rd_T36 l0_1 x4_1).f1)) ∧ w'.cell? ⟨(ad379.add ((x4_1).toNat * 3)).block, (ad379.add ((x4_1).toNat * 3)).off + 2, none⟩ = some (.int .i64 ((rd_T36 l0_1 x4_1).f2)) ∧ w'.cell? (ad379.add ((x4_1).toNat * 3)) = some (.int .i64 ((rd_T36 l0_1 x4_1).f0)) ∧ w'.cell? ⟨(ad379.add ((x4_1).toNat * 3)).block, (ad379.add ((x4_1).toNat * 3)).off + 1, none⟩ = some (.int .i64 ((rd_T36 l0_1 x4_1).f1)) ∧ w'.cell? ⟨(ad379.add ((x4_1).toNat * 3)).block, (ad379.add ((x4_1).toNat * 3)).off + 2, none⟩ = some (.int .i64 ((rd_T36 l0_1 x4_1).f2))) (ds := []) #[false, false, false, false, false, false, false, false, false, false, false, false, false] (by kernel_rfl) rfl rfl ⟨(zKc BK377.out 0).trans rfl, (zKc BK377.out 1).trans rfl, ((HB.out.cell (World.block_lt_of_cell? w _ hw381_0)).trans hw381_0), ((HB.out.cell (World.block_lt_of_cell? w _ hw381_1)).trans hw381_1), ((HB.out.cell (World.block_lt_of_cell? w _ hw381_2)).trans hw381_2), ((HB.out.cell (World.block_lt_of_cell? w _ hw382_0)).trans hw382_0), ((HB.out.cell (World.block_lt_of_cell? w _ hw382_1)).trans hw382_1), ((HB.out.cell (World.block_lt_of_cell? w _ hw382_2)).trans hw382_2)⟩ (fun hHeld => ?_); refine with_tabW filigreeref04_Right.tab10 filigreeref04_Right.bits10 (fun HT_ HW_ => ?_)
          generalize w13.drew = w14 at BK377 HB hx381_0 hx381_1 hx381_2 hx382_0 hx382_1 hx382_2 hHeld ⊢
          refine pure_ (i := 0) (N := some 33) (v := ?_) (a' := ?_) #[true, false, false, false, false, false, false, false, false, false, false, false, false] rfl rfl (any_of HT_.out (by kernel_rfl)) (fun _ _ _ h => h) (Or.inl ⟨by rfl, ?_⟩) ?_ ?_
          rotate_left
          · intro w'
            go_simp
            with_reducible rfl
          rotate_left
          · simp only [Act.put, zSa, zSb, zSc, i64_w, i32_w]
            rfl
          refine pure_ (i := 2) (N := some 35) (v := ?_) (a' := ?_) #[true, false, true, false, false, false, false, false, false, false, false, false, false] rfl rfl (any_of HT_.out (by kernel_rfl)) (fun _ _ _ h => h) (Or.inl ⟨by rfl, ?_⟩) ?_ ?_
          rotate_left
          · intro w'
            go_simp
            with_reducible rfl
          rotate_left
          · simp only [Act.put, zSa, zSb, zSc, i64_w, i32_w]
            rfl
          refine pure_ (i := 6) (N := some 39) (v := ?_) (a' := ?_) #[true, false, true, false, false, false, true, false, false, false, false, false, false] rfl rfl (any_of HT_.out (by kernel_rfl)) (fun _ _ _ h => h) (Or.inl ⟨by rfl, ?_⟩) ?_ ?_
          rotate_left
          · intro w'
            go_simp
            with_reducible rfl
          rotate_left
          · simp only [Act.put, zSa, zSb, zSc, i64_w, i32_w]
            rfl
          refine pure_ (i := 8) (N := some 41) (v := ?_) (a' := ?_) #[true, false, true, false, false, false, true, false, true, false, false, false, false] rfl rfl (any_of HT_.out (by kernel_rfl)) (fun _ _ _ h => h) (Or.inl ⟨by rfl, ?_⟩) ?_ ?_
          rotate_left
          · intro w'
            go_simp
            with_reducible rfl
          rotate_left
          · simp only [Act.put, zSa, zSb, zSc, i64_w, i32_w]
            rfl
          refine take_ (i := 1) (N := some 34) (v := ?_) (a' := ?_) #[true, true, true, false, false, false, true, false, true, false, false, false, false] rfl rfl (take_ofW HT_.out HW_.out (by kernel_rfl)) (fun _ _ _ h => h) (Or.inl ⟨by rfl, ?_⟩) hHeld ?_ ?_
          rotate_left
          · rintro w' ⟨s0, s1, s2, s3, s4, s5, s6, s7⟩
            go_simp
            with_reducible rfl
          rotate_left
          · simp only [Act.put, zSa, zSb, zSc, i64_w, i32_w]
            rfl
          refine pure_ (i := 3) (N := some 36) (v := ?_) (a' := ?_) #[true, true, true, true, false, false, true, false, true, false, false, false, false] rfl rfl (any_of HT_.out (by kernel_rfl)) (fun _ _ _ h => h) (Or.inl ⟨by rfl, ?_⟩) ?_ ?_
          rotate_left
          · intro w'
            go_simp
            with_reducible rfl
          rotate_left
          · simp only [Act.put, zSa, zSb, zSc, i64_w, i32_w]
            rfl
          refine pure_ (i := 4) (N := some 37) (v := ?_) (a' := ?_) #[true, true, true, true, true, false, true, false, true, false, false, false, false] rfl rfl (any_of HT_.out (by kernel_rfl)) (fun _ _ _ h => h) (Or.inl ⟨by rfl, ?_⟩) ?_ ?_
          rotate_left
          · intro w'
            go_simp
            with_reducible rfl
          rotate_left
          · simp only [Act.put, zSa, zSb, zSc, i64_w, i32_w]
            rfl
          refine take_ (i := 5) (N := some 38) (v := ?_) (a' := ?_) #[true, true, true, true, true, true, true, false, true, false, false, false, false] rfl rfl (take_ofW HT_.out HW_.out (by kernel_rfl)) (fun _ _ _ h => h) (Or.inl ⟨by rfl, ?_⟩) hHeld ?_ ?_
          rotate_left
          · rintro w' ⟨s0, s1, s2, s3, s4, s5, s6, s7⟩
            go_simp
            with_reducible rfl
          rotate_left
          · simp only [Act.put, zSa, zSb, zSc, i64_w, i32_w]
            rfl
          refine take_ (i := 7) (N := some 40) (v := ?_) (a' := ?_) #[true, true, true, true, true, true, true, true, true, false, false, false, false] rfl rfl (take_ofW HT_.out HW_.out (by kernel_rfl)) (fun _ _ _ h => h) (Or.inl ⟨by rfl, ?_⟩) hHeld ?_ ?_
          rotate_left
          · rintro w' ⟨s0, s1, s2, s3, s4, s5, s6, s7⟩
            go_simp
            with_reducible rfl
          rotate_left
          · simp only [Act.put, zSa, zSb, zSc, i64_w, i32_w]
            rfl
          refine pure_ (i := 9) (N := some 42) (v := ?_) (a' := ?_) #[true, true, true, true, true, true, true, true, true, true, false, false, false] rfl rfl (any_of HT_.out (by kernel_rfl)) (fun _ _ _ h => h) (Or.inl ⟨by rfl, ?_⟩) ?_ ?_
          rotate_left
          · intro w'
            go_simp
            with_reducible rfl
          rotate_left
          · simp only [Act.put, zSa, zSb, zSc, i64_w, i32_w]
            rfl
          refine pure_ (i := 10) (N := some 43) (v := ?_) (a' := ?_) #[true, true, true, true, true, true, true, true, true, true, true, false, false] rfl rfl (any_of HT_.out (by kernel_rfl)) (fun _ _ _ h => h) (Or.inl ⟨by rfl, ?_⟩) ?_ ?_
          rotate_left
          · intro w'
            go_simp
            with_reducible rfl
          rotate_left
          · simp only [Act.put, zSa, zSb, zSc, i64_w, i32_w]
            rfl
          refine take_ (i := 11) (N := some 44) (v := ?_) (a' := ?_) #[true, true, true, true, true, true, true, true, true, true, true, true, false] rfl rfl (take_ofW HT_.out HW_.out (by kernel_rfl)) (fun _ _ _ h => h) (Or.inl ⟨by rfl, ?_⟩) hHeld ?_ ?_
          rotate_left
          · rintro w' ⟨s0, s1, s2, s3, s4, s5, s6, s7⟩
            go_simp
            with_reducible rfl
          rotate_left
          · simp only [Act.put, zSa, zSb, zSc, i64_w, i32_w]
            rfl
          refine pure_ (i := 12) (N := some 45) (v := ?_) (a' := ?_) #[true, true, true, true, true, true, true, true, true, true, true, true, true] rfl rfl (any_of HT_.out (by kernel_rfl)) (fun _ _ _ h => h) (Or.inl ⟨by rfl, ?_⟩) ?_ ?_
          rotate_left
          · intro w'
            go_simp
            with_reducible rfl
          rotate_left
          · simp only [Act.put, zSa, zSb, zSc, i64_w, i32_w]
            rfl
          refine done_ (done_of HT_.out (by kernel_rfl)) ?_
          try go_wp2
          go_ret
          exact ⟨by first | rfl | (simp [errW_none, errW_some] <;> rfl) | (simp [*, errW_none, errW_some] <;> rfl), by exact uT HB.out⟩
        · rw [if_neg c10] at H
          have c10b0 : decide (((rd_T36 l0_1 x4_1).f1) < ((rd_T36 l0_1 x4_1).f0)) = false := decide_eq_false c10
          clear c10
          have HC15 := zMk H
          clear H
          have hcz16_0 : wr.cell? ⟨gb377, 0, none⟩ = some (.int .i64 a0_0) := (zKc BK377.out 0).trans rfl
          have hcz16_1 : wr.cell? ⟨gb377, 1, none⟩ = some (.slice A0_1 l0_1.length c0_1) := (zKc BK377.out 1).trans rfl
          have hfz16_0 := zKf BK377.out 0
          have hfz16_1 := zKf BK377.out 1
          try go_wp2
          replace BK377 := zMk (zKd BK377.out)
          replace HB := zMk (zBd HB.out)
          have p379 : 0 ≤ (x4_1 : Int) := of_decide_eq_true (by first | (with_reducible assumption) | assumption)
          have q379 : x4_1 < (l0_1.length : Int) := of_decide_eq_true (by first | (with_reducible assumption) | assumption)
          obtain ⟨ad379, e379, hx379_0, hx379_1, hx379_2⟩ := at_T36 HR0_1.out x4_1 p379 q379
          have hw379_2 := hx379_2
          have hw379_1 := hx379_1
          have hw379_0 := hx379_0
          cases e379
          replace hx379_0 := (HB.out.cell (World.block_lt_of_cell? w _ hx379_0)).trans hx379_0
          replace hx379_1 := (HB.out.cell (World.block_lt_of_cell? w _ hx379_1)).trans hx379_1
          replace hx379_2 := (HB.out.cell (World.block_lt_of_cell? w _ hx379_2)).trans hx379_2
          replace p379 := eq_true p379
          replace q379 := eq_true q379
          refine start_ (n := 9) (S := fun w' => w'.cell? ⟨gb377, 0, none⟩ = some (.int .i64 a0_0) ∧ w'.cell? ⟨gb377, 1, none⟩ = some (.slice (some ad379) l0_1.length c0_1) ∧ w'.cell? (ad379.add ((x4_1).toNat * 3)) = some (.int .i64 ((rd_T36 l0_1 x4_1).f0)) ∧ w'.cell? ⟨(ad379.add ((x4_1).toNat * 3)).block, (ad379.add ((x4_1).toNat * 3)).off + 1, none⟩ = some (.int .i64 ((rd_T36 l0_1 x4_1).f1)) ∧ w'.cell? ⟨(ad379.add ((x4_1).toNat * 3)).block, (ad379.add ((x4_1).toNat * 3)).off + 2, none⟩ = some (.int .i64 ((rd_T36 l0_1 x4_1).f2))) (ds := []) #[false, false, false, false, false, false, false, false, false] (by kernel_rfl) rfl rfl ⟨(zKc BK377.out 0).trans rfl, (zKc BK377.out 1).trans rfl, ((HB.out.cell (World.block_lt_of_cell? w _ hw379_0)).trans hw379_0), ((HB.out.cell (World.block_lt_of_cell? w _ hw379_1)).trans hw379_1), ((HB.out.cell (World.block_lt_of_cell? w _ hw379_2)).trans hw379_2)⟩ (fun hHeld => ?_); refine with_tabW filigreeref04_Right.tab7 filigreeref04_Right.bits7 (fun HT_ HW_ => ?_)
          generalize wr.drew = w17 at BK377 HB hx379_0 hx379_1 hx379_2 hHeld ⊢
          refine pure_ (i := 0) (N := some 22) (v := ?_) (a' := ?_) #[true, false, false, false, false, false, false, false, false] rfl rfl (any_of HT_.out (by kernel_rfl)) (fun _ _ _ h => h) (Or.inl ⟨by rfl, ?_⟩) ?_ ?_
          rotate_left
          · intro w'
            go_simp
            with_reducible rfl
          rotate_left
          · simp only [Act.put, zSa, zSb, zSc, i64_w, i32_w]
            rfl
          refine pure_ (i := 2) (N := some 24) (v := ?_) (a' := ?_) #[true, false, true, false, false, false, false, false, false] rfl rfl (any_of HT_.out (by kernel_rfl)) (fun _ _ _ h => h) (Or.inl ⟨by rfl, ?_⟩) ?_ ?_
          rotate_left
          · intro w'
            go_simp
            with_reducible rfl
          rotate_left
          · simp only [Act.put, zSa, zSb, zSc, i64_w, i32_w]
            rfl
          refine pure_ (i := 4) (N := some 26) (v := ?_) (a' := ?_) #[true, false, true, false, true, false, false, false, false] rfl rfl (any_of HT_.out (by kernel_rfl)) (fun _ _ _ h => h) (Or.inl ⟨by rfl, ?_⟩) ?_ ?_
          rotate_left
          · intro w'
            go_simp
            with_reducible rfl
          rotate_left
          · simp only [Act.put, zSa, zSb, zSc, i64_w, i32_w]
            rfl
          refine take_ (i := 1) (N := some 23) (v := ?_) (a' := ?_) #[true, true, true, false, true, false, false, false, false] rfl rfl (take_ofW HT_.out HW_.out (by kernel_rfl)) (fun _ _ _ h => h) (Or.inl ⟨by rfl, ?_⟩) hHeld ?_ ?_
          rotate_left
          · rintro w' ⟨s0, s1, s2, s3, s4⟩
            go_simp
            with_reducible rfl
          rotate_left
          · simp only [Act.put, zSa, zSb, zSc, i64_w, i32_w]
            rfl
          refine take_ (i := 3) (N := some 25) (v := ?_) (a' := ?_) #[true, true, true, true, true, false, false, false, false] rfl rfl (take_ofW HT_.out HW_.out (by kernel_rfl)) (fun _ _ _ h => h) (Or.inl ⟨by rfl, ?_⟩) hHeld ?_ ?_
          rotate_left
          · rintro w' ⟨s0, s1, s2, s3, s4⟩
            go_simp
            with_reducible rfl
          rotate_left
          · simp only [Act.put, zSa, zSb, zSc, i64_w, i32_w]
            rfl
          refine pure_ (i := 5) (N := some 27) (v := ?_) (a' := ?_) #[true, true, true, true, true, true, false, false, false] rfl rfl (any_of HT_.out (by kernel_rfl)) (fun _ _ _ h => h) (Or.inl ⟨by rfl, ?_⟩) ?_ ?_
          rotate_left
          · intro w'
            go_simp
            with_reducible rfl
          rotate_left
          · simp only [Act.put, zSa, zSb, zSc, i64_w, i32_w]
            rfl
          refine take_ (i := 6) (N := some 28) (v := ?_) (a' := ?_) #[true, true, true, true, true, true, true, false, false] rfl rfl (take_ofW HT_.out HW_.out (by kernel_rfl)) (fun _ _ _ h => h) (Or.inl ⟨by rfl, ?_⟩) hHeld ?_ ?_
          rotate_left
          · rintro w' ⟨s0, s1, s2, s3, s4⟩
            go_simp
            with_reducible rfl
          rotate_left
          · simp only [Act.put, zSa, zSb, zSc, i64_w, i32_w]
            rfl
          refine one_ (i := 7) (N := some 29) #[true, true, true, true, true, true, true, true, false] rfl rfl (one_of HT_.out (by kernel_rfl)) (by decide) (fun K hK => ?_)
          refine goes_ Try.func36 (by kernel_rfl) rfl #[.int .i64 a0_0, .agg #[.int .i64 ((rd_T36 l0_1 x4_1).f0), .int .i64 ((rd_T36 l0_1 x4_1).f1), .int .i64 ((rd_T36 l0_1 x4_1).f2)]] (by rfl) rfl rfl (by (try simp only [zMa, zMc, zMn]); first | done | rfl | (simp only [zLd, zLt]; rfl)) ?_
          with_reducible refine (filigreeref04_edge.calls k1 a0_0 ((rd_T36 l0_1 x4_1).f0) ((rd_T36 l0_1 x4_1).f1) ((rd_T36 l0_1 x4_1).f2) t380 _ A8.out).mono ?_
          rintro e w18 ⟨rfl, hb⟩
          refine ⟨_, rfl, ?_⟩
          replace BK377 := zMk (zKb (g := gb377) (o := .cells #[.int .i64 a0_0, .slice (some ad379) l0_1.length c0_1] 24 (0, 0)) (by (with_reducible repeat (first | refine zKn ?_ _ | refine zKd ?_ | refine zKa ?_ _)); exact BK377.out) hb)
          replace HB := zMk (zBt (by exact uT HB.out) hb)
          (try clear hb)
          (try clear hb2)
          (try clear hk)
          (try clear hi)
          refine hK.out _ _ ⟨(zKc BK377.out 0).trans rfl, (zKc BK377.out 1).trans rfl, ((HB.out.cell (World.block_lt_of_cell? w _ hw379_0)).trans hw379_0), ((HB.out.cell (World.block_lt_of_cell? w _ hw379_1)).trans hw379_1), ((HB.out.cell (World.block_lt_of_cell? w _ hw379_2)).trans hw379_2)⟩ (fun hHeld => ?_)
          clear hK K
          refine norm_ (a' := ?_) ?_ ?_
          rotate_left
          · show Act.put _ (some 29) _ = _
            simp only [Act.put, zSa, zSb, zSc, i64_w, i32_w]
            rfl
          refine pure_ (i := 8) (N := some 5) (v := ?_) (a' := ?_) #[true, true, true, true, true, true, true, true, true] rfl rfl (any_of HT_.out (by kernel_rfl)) (fun _ _ _ h => h) (Or.inl ⟨by rfl, ?_⟩) ?_ ?_
          rotate_left
          · intro w'
            go_simp
            with_reducible rfl
          rotate_left
          · simp only [Act.put, zSa, zSb, zSc, i64_w, i32_w]
            rfl
          refine done_ (done_of HT_.out (by kernel_rfl)) ?_
          try go_wp2
          replace BK377 := zMk (zKd BK377.out)
          replace HB := zMk (zBd HB.out)
          have p381 : 0 ≤ (x4_1 : Int) := of_decide_eq_true (by first | (with_reducible assumption) | assumption)
          have q381 : x4_1 < (l0_1.length : Int) := of_decide_eq_true (by first | (with_reducible assumption) | assumption)
          obtain ⟨ad381, e381, hx381_0, hx381_1, hx381_2⟩ := at_T36 HR0_1.out x4_1 p381 q381
          have hw381_2 := hx381_2
          have hw381_1 := hx381_1
          have hw381_0 := hx381_0
          obtain rfl : ad379 = ad381 := (by injection e381)
          replace hx381_0 := (HB.out.cell (World.block_lt_of_cell? w _ hx381_0)).trans hx381_0
          replace hx381_1 := (HB.out.cell (World.block_lt_of_cell? w _ hx381_1)).trans hx381_1
          replace hx381_2 := (HB.out.cell (World.block_lt_of_cell? w _ hx381_2)).trans hx381_2
          replace p381 := eq_true p381
          replace q381 := eq_true q381
          have p382 : 0 ≤ (x4_1 : Int) := of_decide_eq_true (by first | (with_reducible assumption) | assumption)
          have q382 : x4_1 < (l0_1.length : Int) := of_decide_eq_true (by first | (with_reducible assumption) | assumption)
          obtain ⟨ad382, e382, hx382_0, hx382_1, hx382_2⟩ := at_T36 HR0_1.out x4_1 p382 q382
          have hw382_2 := hx382_2
          have hw382_1 := hx382_1
          have hw382_0 := hx382_0
          obtain rfl : ad379 = ad382 := (by injection e382)
          replace hx382_0 := (HB.out.cell (World.block_lt_of_cell? w _ hx382_0)).trans hx382_0
          replace hx382_1 := (HB.out.cell (World.block_lt_of_cell? w _ hx382_1)).trans hx382_1
          replace hx382_2 := (HB.out.cell (World.block_lt_of_cell? w _ hx382_2)).trans hx382_2
          replace p382 := eq_true p382
          replace q382 := eq_true q382
          refine start_ (n := 13) (S := fun w' => w'.cell? ⟨gb377, 0, none⟩ = some (.int .i64 a0_0) ∧ w'.cell? ⟨gb377, 1, none⟩ = some (.slice (some ad379) l0_1.length c0_1) ∧ w'.cell? (ad379.add ((x4_1).toNat * 3)) = some (.int .i64 ((rd_T36 l0_1 x4_1).f0)) ∧ w'.cell? ⟨(ad379.add ((x4_1).toNat * 3)).block, (ad379.add ((x4_1).toNat * 3)).off + 1, none⟩ = some (.int .i64 ((rd_T36 l0_1 x4_1).f1)) ∧ w'.cell? ⟨(ad379.add ((x4_1).toNat * 3)).block, (ad379.add ((x4_1).toNat * 3)).off + 2, none⟩ = some (.int .i64 ((rd_T36 l0_1 x4_1).f2)) ∧ w'.cell? (ad379.add ((x4_1).toNat * 3)) = some (.int .i64 ((rd_T36 l0_1 x4_1).f0)) ∧ w'.cell? ⟨(ad379.add ((x4_1).toNat * 3)).block, (ad379.add ((x4_1).toNat * 3)).off + 1, none⟩ = some (.int .i64 ((rd_T36 l0_1 x4_1).f1)) ∧ w'.cell? ⟨(ad379.add ((x4_1).toNat * 3)).block, (ad379.add ((x4_1).toNat * 3)).off + 2, none⟩ = some (.int .i64 ((rd_T36 l0_1 x4_1).f2))) (ds := []) #[false, false, false, false, false, false, false, false, false, false, false, false, false] (by kernel_rfl) rfl rfl ⟨(zKc BK377.out 0).trans rfl, (zKc BK377.out 1).trans rfl, ((HB.out.cell (World.block_lt_of_cell? w _ hw381_0)).trans hw381_0), ((HB.out.cell (World.block_lt_of_cell? w _ hw381_1)).trans hw381_1), ((HB.out.cell (World.block_lt_of_cell? w _ hw381_2)).trans hw381_2), ((HB.out.cell (World.block_lt_of_cell? w _ hw382_0)).trans hw382_0), ((HB.out.cell (World.block_lt_of_cell? w _ hw382_1)).trans hw382_1), ((HB.out.cell (World.block_lt_of_cell? w _ hw382_2)).trans hw382_2)⟩ (fun hHeld => ?_); refine with_tabW filigreeref04_Right.tab10 filigreeref04_Right.bits10 (fun HT_ HW_ => ?_)
          generalize w18.drew = w19 at BK377 HB hx381_0 hx381_1 hx381_2 hx382_0 hx382_1 hx382_2 hHeld ⊢
          refine pure_ (i := 0) (N := some 33) (v := ?_) (a' := ?_) #[true, false, false, false, false, false, false, false, false, false, false, false, false] rfl rfl (any_of HT_.out (by kernel_rfl)) (fun _ _ _ h => h) (Or.inl ⟨by rfl, ?_⟩) ?_ ?_
          rotate_left
          · intro w'
            go_simp
            with_reducible rfl
          rotate_left
          · simp only [Act.put, zSa, zSb, zSc, i64_w, i32_w]
            rfl
          refine pure_ (i := 2) (N := some 35) (v := ?_) (a' := ?_) #[true, false, true, false, false, false, false, false, false, false, false, false, false] rfl rfl (any_of HT_.out (by kernel_rfl)) (fun _ _ _ h => h) (Or.inl ⟨by rfl, ?_⟩) ?_ ?_
          rotate_left
          · intro w'
            go_simp
            with_reducible rfl
          rotate_left
          · simp only [Act.put, zSa, zSb, zSc, i64_w, i32_w]
            rfl
          refine pure_ (i := 6) (N := some 39) (v := ?_) (a' := ?_) #[true, false, true, false, false, false, true, false, false, false, false, false, false] rfl rfl (any_of HT_.out (by kernel_rfl)) (fun _ _ _ h => h) (Or.inl ⟨by rfl, ?_⟩) ?_ ?_
          rotate_left
          · intro w'
            go_simp
            with_reducible rfl
          rotate_left
          · simp only [Act.put, zSa, zSb, zSc, i64_w, i32_w]
            rfl
          refine pure_ (i := 8) (N := some 41) (v := ?_) (a' := ?_) #[true, false, true, false, false, false, true, false, true, false, false, false, false] rfl rfl (any_of HT_.out (by kernel_rfl)) (fun _ _ _ h => h) (Or.inl ⟨by rfl, ?_⟩) ?_ ?_
          rotate_left
          · intro w'
            go_simp
            with_reducible rfl
          rotate_left
          · simp only [Act.put, zSa, zSb, zSc, i64_w, i32_w]
            rfl
          refine take_ (i := 1) (N := some 34) (v := ?_) (a' := ?_) #[true, true, true, false, false, false, true, false, true, false, false, false, false] rfl rfl (take_ofW HT_.out HW_.out (by kernel_rfl)) (fun _ _ _ h => h) (Or.inl ⟨by rfl, ?_⟩) hHeld ?_ ?_
          rotate_left
          · rintro w' ⟨s0, s1, s2, s3, s4, s5, s6, s7⟩
            go_simp
            with_reducible rfl
          rotate_left
          · simp only [Act.put, zSa, zSb, zSc, i64_w, i32_w]
            rfl
          refine pure_ (i := 3) (N := some 36) (v := ?_) (a' := ?_) #[true, true, true, true, false, false, true, false, true, false, false, false, false] rfl rfl (any_of HT_.out (by kernel_rfl)) (fun _ _ _ h => h) (Or.inl ⟨by rfl, ?_⟩) ?_ ?_
          rotate_left
          · intro w'
            go_simp
            with_reducible rfl
          rotate_left
          · simp only [Act.put, zSa, zSb, zSc, i64_w, i32_w]
            rfl
          refine pure_ (i := 4) (N := some 37) (v := ?_) (a' := ?_) #[true, true, true, true, true, false, true, false, true, false, false, false, false] rfl rfl (any_of HT_.out (by kernel_rfl)) (fun _ _ _ h => h) (Or.inl ⟨by rfl, ?_⟩) ?_ ?_
          rotate_left
          · intro w'
            go_simp
            with_reducible rfl
          rotate_left
          · simp only [Act.put, zSa, zSb, zSc, i64_w, i32_w]
            rfl
          refine take_ (i := 5) (N := some 38) (v := ?_) (a' := ?_) #[true, true, true, true, true, true, true, false, true, false, false, false, false] rfl rfl (take_ofW HT_.out HW_.out (by kernel_rfl)) (fun _ _ _ h => h) (Or.inl ⟨by rfl, ?_⟩) hHeld ?_ ?_
          rotate_left
          · rintro w' ⟨s0, s1, s2, s3, s4, s5, s6, s7⟩
            go_simp
            with_reducible rfl
          rotate_left
          · simp only [Act.put, zSa, zSb, zSc, i64_w, i32_w]
            rfl
          refine take_ (i := 7) (N := some 40) (v := ?_) (a' := ?_) #[true, true, true, true, true, true, true, true, true, false, false, false, false] rfl rfl (take_ofW HT_.out HW_.out (by kernel_rfl)) (fun _ _ _ h => h) (Or.inl ⟨by rfl, ?_⟩) hHeld ?_ ?_
          rotate_left
          · rintro w' ⟨s0, s1, s2, s3, s4, s5, s6, s7⟩
            go_simp
            with_reducible rfl
          rotate_left
          · simp only [Act.put, zSa, zSb, zSc, i64_w, i32_w]
            rfl
          refine pure_ (i := 9) (N := some 42) (v := ?_) (a' := ?_) #[true, true, true, true, true, true, true, true, true, true, false, false, false] rfl rfl (any_of HT_.out (by kernel_rfl)) (fun _ _ _ h => h) (Or.inl ⟨by rfl, ?_⟩) ?_ ?_
          rotate_left
          · intro w'
            go_simp
            with_reducible rfl
          rotate_left
          · simp only [Act.put, zSa, zSb, zSc, i64_w, i32_w]
            rfl
          refine pure_ (i := 10) (N := some 43) (v := ?_) (a' := ?_) #[true, true, true, true, true, true, true, true, true, true, true, false, false] rfl rfl (any_of HT_.out (by kernel_rfl)) (fun _ _ _ h => h) (Or.inl ⟨by rfl, ?_⟩) ?_ ?_
          rotate_left
          · intro w'
            go_simp
            with_reducible rfl
          rotate_left
          · simp only [Act.put, zSa, zSb, zSc, i64_w, i32_w]
            rfl
          refine take_ (i := 11) (N := some 44) (v := ?_) (a' := ?_) #[true, true, true, true, true, true, true, true, true, true, true, true, false] rfl rfl (take_ofW HT_.out HW_.out (by kernel_rfl)) (fun _ _ _ h => h) (Or.inl ⟨by rfl, ?_⟩) hHeld ?_ ?_
          rotate_left
          · rintro w' ⟨s0, s1, s2, s3, s4, s5, s6, s7⟩
            go_simp
            with_reducible rfl
          rotate_left
          · simp only [Act.put, zSa, zSb, zSc, i64_w, i32_w]
            rfl
          refine pure_ (i := 12) (N := some 45) (v := ?_) (a' := ?_) #[true, true, true, true, true, true, true, true, true, true, true, true, true] rfl rfl (any_of HT_.out (by kernel_rfl)) (fun _ _ _ h => h) (Or.inl ⟨by rfl, ?_⟩) ?_ ?_
          rotate_left
          · intro w'
            go_simp
            with_reducible rfl
          rotate_left
          · simp only [Act.put, zSa, zSb, zSc, i64_w, i32_w]
            rfl
          refine done_ (done_of HT_.out (by kernel_rfl)) ?_
          go_upto_region 12 with (fail)
          go_cut [62] (fun v62 wc => ∃ (kq : Nat) (x62_14 : Bool), v62 = .bool x62_14 ∧ Aside0 (filigreeref04_Right.j1 kq x4_1 x62_14 a0_0 l0_1 = some r) ∧ Aside0 (kq ≤ k1) ∧ Aside0 (wc.heap[gb377]? = some (.cells #[.int .i64 a0_0, (.slice (some ad379) l0_1.length c0_1)] 24 (0, 0))) ∧ Aside0 (Below w.heap.size w wc))
          case first =>
            have H := HC15.out
            clear HC15
            by_cases c20 : x4_1 > 0
            · rw [if_pos c20] at H
              have c20b0 : decide (0 < x4_1) = true := decide_eq_true c20
              clear c20
              (first | rw [c20b0] | (simp only [i64_w, i32_w]; rw [c20b0]) | rw [c20b1] | skip)
              obtain ⟨ji21, hji21⟩ : ∃ j_ : Int, (wrap64 (x4_1 - 1)) = j_ := ⟨_, rfl⟩
              replace H : (if 0 ≤ (ji21) then (if (ji21) < (l0_1.length : Int) then ((filigreeref04_below.f ((rd_T36 l0_1 (ji21)).f0) ((rd_T36 l0_1 (ji21)).f1) ((rd_T36 l0_1 (ji21)).f2) ((rd_T36 l0_1 x4_1).f0) ((rd_T36 l0_1 x4_1).f1) ((rd_T36 l0_1 x4_1).f2)).bind fun t385 => (filigreeref04_Right.j1 k1 x4_1 (!t385) a0_0 l0_1)) else (none)) else (none)) = some r := by first | (rw [hji21] at H; exact H) | (simp only [hji21] at H ⊢; exact H)
              have hji21w : (IntKind.i64.wrap (x4_1 - 1)) = ji21 := (i64_w _).trans hji21
              by_cases c22 : 0 ≤ (ji21)
              rotate_left
              · rw [if_neg c22] at H; exact absurd H (by simp)
              rw [if_pos c22] at H
              have c22b0 : decide (0 ≤ (ji21)) = true := decide_eq_true c22
              clear c22
              by_cases c23 : (ji21) < (l0_1.length : Int)
              rotate_left
              · rw [if_neg c23] at H; exact absurd H (by simp)
              rw [if_pos c23] at H
              have c23b0 : decide ((ji21) < (l0_1.length : Int)) = true := decide_eq_true c23
              clear c23
              replace H := bnd H
              obtain ⟨t385, A240, H⟩ := H
              have A24 := zMk A240
              clear A240
              have H' := zMk H
              clear H
              try go_wp2
              replace BK377 := zMk (zKd BK377.out)
              replace HB := zMk (zBd HB.out)
              have p383 : 0 ≤ ((ji21) : Int) := of_decide_eq_true (by first | (with_reducible assumption) | assumption)
              have q383 : (ji21) < (l0_1.length : Int) := of_decide_eq_true (by first | (with_reducible assumption) | assumption)
              obtain ⟨ad383, e383, hx383_0, hx383_1, hx383_2⟩ := at_T36 HR0_1.out (ji21) p383 q383
              have hw383_2 := hx383_2
              have hw383_1 := hx383_1
              have hw383_0 := hx383_0
              obtain rfl : ad379 = ad383 := (by injection e383)
              replace hx383_0 := (HB.out.cell (World.block_lt_of_cell? w _ hx383_0)).trans hx383_0
              replace hx383_1 := (HB.out.cell (World.block_lt_of_cell? w _ hx383_1)).trans hx383_1
              replace hx383_2 := (HB.out.cell (World.block_lt_of_cell? w _ hx383_2)).trans hx383_2
              replace p383 := eq_true p383
              replace q383 := eq_true q383
              have p384 : 0 ≤ (x4_1 : Int) := of_decide_eq_true (by first | (with_reducible assumption) | assumption)
              have q384 : x4_1 < (l0_1.length : Int) := of_decide_eq_true (by first | (with_reducible assumption) | assumption)
              obtain ⟨ad384, e384, hx384_0, hx384_1, hx384_2⟩ := at_T36 HR0_1.out x4_1 p384 q384
              have hw384_2 := hx384_2
              have hw384_1 := hx384_1
              have hw384_0 := hx384_0
              obtain rfl : ad379 = ad384 := (by injection e384)
              replace hx384_0 := (HB.out.cell (World.block_lt_of_cell? w _ hx384_0)).trans hx384_0
              replace hx384_1 := (HB.out.cell (World.block_lt_of_cell? w _ hx384_1)).trans hx384_1
              replace hx384_2 := (HB.out.cell (World.block_lt_of_cell? w _ hx384_2)).trans hx384_2
              replace p384 := eq_true p384
              replace q384 := eq_true q384
              refine start_ (n := 17) (S := fun w' => w'.cell? ⟨gb377, 0, none⟩ = some (.int .i64 a0_0) ∧ w'.cell? ⟨gb377, 1, none⟩ = some (.slice (some ad379) l0_1.length c0_1) ∧ w'.cell? (ad379.add (((ji21)).toNat * 3)) = some (.int .i64 ((rd_T36 l0_1 (ji21)).f0)) ∧ w'.cell? ⟨(ad379.add (((ji21)).toNat * 3)).block, (ad379.add (((ji21)).toNat * 3)).off + 1, none⟩ = some (.int .i64 ((rd_T36 l0_1 (ji21)).f1)) ∧ w'.cell? ⟨(ad379.add (((ji21)).toNat * 3)).block, (ad379.add (((ji21)).toNat * 3)).off + 2, none⟩ = some (.int .i64 ((rd_T36 l0_1 (ji21)).f2)) ∧ w'.cell? (ad379.add ((x4_1).toNat * 3)) = some (.int .i64 ((rd_T36 l0_1 x4_1).f0)) ∧ w'.cell? ⟨(ad379.add ((x4_1).toNat * 3)).block, (ad379.add ((x4_1).toNat * 3)).off + 1, none⟩ = some (.int .i64 ((rd_T36 l0_1 x4_1).f1)) ∧ w'.cell? ⟨(ad379.add ((x4_1).toNat * 3)).block, (ad379.add ((x4_1).toNat * 3)).off + 2, none⟩ = some (.int .i64 ((rd_T36 l0_1 x4_1).f2))) (ds := []) #[false, false, false, false, false, false, false, false, false, false, false, false, false, false, false, false, false] (by kernel_rfl) rfl rfl ⟨(zKc BK377.out 0).trans rfl, (zKc BK377.out 1).trans rfl, ((HB.out.cell (World.block_lt_of_cell? w _ hw383_0)).trans hw383_0), ((HB.out.cell (World.block_lt_of_cell? w _ hw383_1)).trans hw383_1), ((HB.out.cell (World.block_lt_of_cell? w _ hw383_2)).trans hw383_2), ((HB.out.cell (World.block_lt_of_cell? w _ hw384_0)).trans hw384_0), ((HB.out.cell (World.block_lt_of_cell? w _ hw384_1)).trans hw384_1), ((HB.out.cell (World.block_lt_of_cell? w _ hw384_2)).trans hw384_2)⟩ (fun hHeld => ?_); refine with_tabW filigreeref04_Right.tab12 filigreeref04_Right.bits12 (fun HT_ HW_ => ?_)
              generalize w19.drew = w25 at BK377 HB hx383_0 hx383_1 hx383_2 hx384_0 hx384_1 hx384_2 hHeld ⊢
              refine pure_ (i := 0) (N := some 46) (v := ?_) (a' := ?_) #[true, false, false, false, false, false, false, false, false, false, false, false, false, false, false, false, false] rfl rfl (any_of HT_.out (by kernel_rfl)) (fun _ _ _ h => h) (Or.inl ⟨by rfl, ?_⟩) ?_ ?_
              rotate_left
              · intro w'
                go_simp
                with_reducible rfl
              rotate_left
              · simp only [Act.put, zSa, zSb, zSc, i64_w, i32_w]
                rfl
              refine pure_ (i := 1) (N := some 47) (v := ?_) (a' := ?_) #[true, true, false, false, false, false, false, false, false, false, false, false, false, false, false, false, false] rfl rfl (any_of HT_.out (by kernel_rfl)) (fun _ _ _ h => h) (Or.inl ⟨by rfl, ?_⟩) ?_ ?_
              rotate_left
              · intro w'
                go_simp
                with_reducible rfl
              rotate_left
              · simp only [Act.put, zSa, zSb, zSc, i64_w, i32_w]
                rfl
              refine pure_ (i := 2) (N := some 48) (v := ?_) (a' := ?_) #[true, true, true, false, false, false, false, false, false, false, false, false, false, false, false, false, false] rfl rfl (any_of HT_.out (by kernel_rfl)) (fun _ _ _ h => h) (Or.inl ⟨by rfl, ?_⟩) ?_ ?_
              rotate_left
              · intro w'
                go_simp
                with_reducible rfl
              rotate_left
              · simp only [Act.put, zSa, zSb, zSc, i64_w, i32_w]
                rfl
              refine pure_ (i := 3) (N := some 49) (v := ?_) (a' := ?_) #[true, true, true, true, false, false, false, false, false, false, false, false, false, false, false, false, false] rfl rfl (any_of HT_.out (by kernel_rfl)) (fun _ _ _ h => h) (Or.inl ⟨by rfl, ?_⟩) ?_ ?_
              rotate_left
              · intro w'
                go_simp
                with_reducible rfl
              rotate_left
              · simp only [Act.put, zSa, zSb, zSc, i64_w, i32_w]
                rfl
              refine pure_ (i := 5) (N := some 51) (v := ?_) (a' := ?_) #[true, true, true, true, false, true, false, false, false, false, false, false, false, false, false, false, false] rfl rfl (any_of HT_.out (by kernel_rfl)) (fun _ _ _ h => h) (Or.inl ⟨by rfl, ?_⟩) ?_ ?_
              rotate_left
              · intro w'
                go_simp
                with_reducible rfl
              rotate_left
              · simp only [Act.put, zSa, zSb, zSc, i64_w, i32_w]
                rfl
              refine pure_ (i := 6) (N := some 52) (v := ?_) (a' := ?_) #[true, true, true, true, false, true, true, false, false, false, false, false, false, false, false, false, false] rfl rfl (any_of HT_.out (by kernel_rfl)) (fun _ _ _ h => h) (Or.inl ⟨by rfl, ?_⟩) ?_ ?_
              rotate_left
              · intro w'
                go_simp
                with_reducible rfl
              rotate_left
              · simp only [Act.put, zSa, zSb, zSc, i64_w, i32_w]
                rfl
              refine pure_ (i := 9) (N := some 55) (v := ?_) (a' := ?_) #[true, true, true, true, false, true, true, false, false, true, false, false, false, false, false, false, false] rfl rfl (any_of HT_.out (by kernel_rfl)) (fun _ _ _ h => h) (Or.inl ⟨by rfl, ?_⟩) ?_ ?_
              rotate_left
              · intro w'
                go_simp
                with_reducible rfl
              rotate_left
              · simp only [Act.put, zSa, zSb, zSc, i64_w, i32_w]
                rfl
              refine pure_ (i := 11) (N := some 57) (v := ?_) (a' := ?_) #[true, true, true, true, false, true, true, false, false, true, false, true, false, false, false, false, false] rfl rfl (any_of HT_.out (by kernel_rfl)) (fun _ _ _ h => h) (Or.inl ⟨by rfl, ?_⟩) ?_ ?_
              rotate_left
              · intro w'
                go_simp
                with_reducible rfl
              rotate_left
              · simp only [Act.put, zSa, zSb, zSc, i64_w, i32_w]
                rfl
              refine take_ (i := 4) (N := some 50) (v := ?_) (a' := ?_) #[true, true, true, true, true, true, true, false, false, true, false, true, false, false, false, false, false] rfl rfl (take_ofW HT_.out HW_.out (by kernel_rfl)) (fun _ _ _ h => h) (Or.inl ⟨by rfl, ?_⟩) hHeld ?_ ?_
              rotate_left
              · rintro w' ⟨s0, s1, s2, s3, s4, s5, s6, s7⟩
                go_simp
                with_reducible rfl
              rotate_left
              · simp only [Act.put, zSa, zSb, zSc, i64_w, i32_w]
                rfl
              refine pure_ (i := 7) (N := some 53) (v := ?_) (a' := ?_) #[true, true, true, true, true, true, true, true, false, true, false, true, false, false, false, false, false] rfl rfl (any_of HT_.out (by kernel_rfl)) (fun _ _ _ h => h) (Or.inl ⟨by rfl, ?_⟩) ?_ ?_
              rotate_left
              · intro w'
                go_simp
                with_reducible rfl
              rotate_left
              · simp only [Act.put, zSa, zSb, zSc, i64_w, i32_w]
                rfl
              refine take_ (i := 8) (N := some 54) (v := ?_) (a' := ?_) #[true, true, true, true, true, true, true, true, true, true, false, true, false, false, false, false, false] rfl rfl (take_ofW HT_.out HW_.out (by kernel_rfl)) (fun _ _ _ h => h) (Or.inl ⟨by rfl, ?_⟩) hHeld ?_ ?_
              rotate_left
              · rintro w' ⟨s0, s1, s2, s3, s4, s5, s6, s7⟩
                go_simp
                with_reducible rfl
              rotate_left
              · simp only [Act.put, zSa, zSb, zSc, i64_w, i32_w]
                rfl
              refine take_ (i := 10) (N := some 56) (v := ?_) (a' := ?_) #[true, true, true, true, true, true, true, true, true, true, true, true, false, false, false, false, false] rfl rfl (take_ofW HT_.out HW_.out (by kernel_rfl)) (fun _ _ _ h => h) (Or.inl ⟨by rfl, ?_⟩) hHeld ?_ ?_
              rotate_left
              · rintro w' ⟨s0, s1, s2, s3, s4, s5, s6, s7⟩
                go_simp
                with_reducible rfl
              rotate_left
              · simp only [Act.put, zSa, zSb, zSc, i64_w, i32_w]
                rfl
              refine pure_ (i := 12) (N := some 58) (v := ?_) (a' := ?_) #[true, true, true, true, true, true, true, true, true, true, true, true, true, false, false, false, false] rfl rfl (any_of HT_.out (by kernel_rfl)) (fun _ _ _ h => h) (Or.inl ⟨by rfl, ?_⟩) ?_ ?_
              rotate_left
              · intro w'
                go_simp
                with_reducible rfl
              rotate_left
              · simp only [Act.put, zSa, zSb, zSc, i64_w, i32_w]
                rfl
              refine take_ (i := 13) (N := some 59) (v := ?_) (a' := ?_) #[true, true, true, true, true, true, true, true, true, true, true, true, true, true, false, false, false] rfl rfl (take_ofW HT_.out HW_.out (by kernel_rfl)) (fun _ _ _ h => h) (Or.inl ⟨by rfl, ?_⟩) hHeld ?_ ?_
              rotate_left
              · rintro w' ⟨s0, s1, s2, s3, s4, s5, s6, s7⟩
                go_simp
                with_reducible rfl
              rotate_left
              · simp only [Act.put, zSa, zSb, zSc, i64_w, i32_w]
                rfl
              refine one_ (i := 14) (N := some 60) #[true, true, true, true, true, true, true, true, true, true, true, true, true, true, true, false, false] rfl rfl (one_of HT_.out (by kernel_rfl)) (by decide) (fun K hK => ?_)
              refine goes_ Try.func37 (by kernel_rfl) rfl #[.agg #[.int .i64 ((rd_T36 l0_1 (ji21)).f0), .int .i64 ((rd_T36 l0_1 (ji21)).f1), .int .i64 ((rd_T36 l0_1 (ji21)).f2)], .agg #[.int .i64 ((rd_T36 l0_1 x4_1).f0), .int .i64 ((rd_T36 l0_1 x4_1).f1), .int .i64 ((rd_T36 l0_1 x4_1).f2)]] (by rfl) rfl rfl (by (try simp only [zMa, zMc, zMn]); first | done | (simp only [hji21]; rfl) | rfl | (simp only [zLd, zLt]; rfl)) ?_
              with_reducible refine (filigreeref04_below.calls ((rd_T36 l0_1 (ji21)).f0) ((rd_T36 l0_1 (ji21)).f1) ((rd_T36 l0_1 (ji21)).f2) ((rd_T36 l0_1 x4_1).f0) ((rd_T36 l0_1 x4_1).f1) ((rd_T36 l0_1 x4_1).f2) t385 _ A24.out).mono ?_
              rintro e w26 ⟨rfl, hb⟩
              refine ⟨_, rfl, ?_⟩
              replace BK377 := zMk (zKb (g := gb377) (o := .cells #[.int .i64 a0_0, .slice (some ad379) l0_1.length c0_1] 24 (0, 0)) (by (with_reducible repeat (first | refine zKn ?_ _ | refine zKd ?_ | refine zKa ?_ _)); exact BK377.out) hb)
              replace HB := zMk (zBt (by exact uT HB.out) hb)
              (try clear hb)
              (try clear hb2)
              (try clear hk)
              (try clear hi)
              refine hK.out _ _ ⟨(zKc BK377.out 0).trans rfl, (zKc BK377.out 1).trans rfl, ((HB.out.cell (World.block_lt_of_cell? w _ hw383_0)).trans hw383_0), ((HB.out.cell (World.block_lt_of_cell? w _ hw383_1)).trans hw383_1), ((HB.out.cell (World.block_lt_of_cell? w _ hw383_2)).trans hw383_2), ((HB.out.cell (World.block_lt_of_cell? w _ hw384_0)).trans hw384_0), ((HB.out.cell (World.block_lt_of_cell? w _ hw384_1)).trans hw384_1), ((HB.out.cell (World.block_lt_of_cell? w _ hw384_2)).trans hw384_2)⟩ (fun hHeld => ?_)
              clear hK K
              refine norm_ (a' := ?_) ?_ ?_
              rotate_left
              · show Act.put _ (some 60) _ = _
                simp only [Act.put, zSa, zSb, zSc, i64_w, i32_w]
                rfl
              refine pure_ (i := 15) (N := some 61) (v := ?_) (a' := ?_) #[true, true, true, true, true, true, true, true, true, true, true, true, true, true, true, true, false] rfl rfl (any_of HT_.out (by kernel_rfl)) (fun _ _ _ h => h) (Or.inl ⟨by rfl, ?_⟩) ?_ ?_
              rotate_left
              · intro w'
                go_simp
                with_reducible rfl
              rotate_left
              · simp only [Act.put, zSa, zSb, zSc, i64_w, i32_w]
                rfl
              refine pure_ (i := 16) (N := some 62) (v := ?_) (a' := ?_) #[true, true, true, true, true, true, true, true, true, true, true, true, true, true, true, true, true] rfl rfl (any_of HT_.out (by kernel_rfl)) (fun _ _ _ h => h) (Or.inl ⟨by rfl, ?_⟩) ?_ ?_
              rotate_left
              · intro w'
                go_simp
                with_reducible rfl
              rotate_left
              · simp only [Act.put, zSa, zSb, zSc, i64_w, i32_w]
                rfl
              refine done_ (done_of HT_.out (by kernel_rfl)) ?_
              try go_wp2
              go_meet
              case rel => exact ⟨_, (!t385), (by first | rfl | (simp; done) | (simp [*]; done)), H', ⟨by have := HK1.out; first | omega | exact Nat.le_refl _⟩, ⟨by (with_reducible repeat (first | refine zKn ?_ _ | refine zKd ?_ | refine zKa ?_ _)); exact BK377.out⟩, ⟨by exact uT HB.out⟩⟩
            · rw [if_neg c20] at H
              have c20b0 : decide (0 < x4_1) = false := decide_eq_false c20
              clear c20
              (first | rw [c20b0] | (simp only [i64_w, i32_w]; rw [c20b0]) | rw [c20b1] | skip)
              have H' := zMk H
              clear H
              try go_wp2
              replace BK377 := zMk (zKd BK377.out)
              replace HB := zMk (zBd HB.out)
              refine start_ (n := 17) (S := fun w' => True) (ds := []) #[false, false, false, false, false, false, false, false, false, false, false, false, false, false, false, false, false] (by kernel_rfl) rfl rfl trivial (fun hHeld => ?_); refine with_tabW filigreeref04_Right.tab12 filigreeref04_Right.bits12 (fun HT_ HW_ => ?_)
              generalize w19.drew = w27 at BK377 HB hHeld ⊢
              refine pure_ (i := 0) (N := some 46) (v := ?_) (a' := ?_) #[true, false, false, false, false, false, false, false, false, false, false, false, false, false, false, false, false] rfl rfl (any_of HT_.out (by kernel_rfl)) (fun _ _ _ h => h) (Or.inl ⟨by rfl, ?_⟩) ?_ ?_
              rotate_left
              · intro w'
                go_simp
                with_reducible rfl
              rotate_left
              · simp only [Act.put, zSa, zSb, zSc, i64_w, i32_w]
                rfl
              refine pure_ (i := 1) (N := some 47) (v := ?_) (a' := ?_) #[true, true, false, false, false, false, false, false, false, false, false, false, false, false, false, false, false] rfl rfl (any_of HT_.out (by kernel_rfl)) (fun _ _ _ h => h) (Or.inl ⟨by rfl, ?_⟩) ?_ ?_
              rotate_left
              · intro w'
                go_simp
                with_reducible rfl
              rotate_left
              · simp only [Act.put, zSa, zSb, zSc, i64_w, i32_w]
                rfl
              refine pure_ (i := 2) (N := some 48) (v := ?_) (a' := ?_) #[true, true, true, false, false, false, false, false, false, false, false, false, false, false, false, false, false] rfl rfl (any_of HT_.out (by kernel_rfl)) (fun _ _ _ h => h) (Or.inl ⟨by rfl, ?_⟩) ?_ ?_
              rotate_left
              · intro w'
                go_simp
                with_reducible rfl
              rotate_left
              · simp only [Act.put, zSa, zSb, zSc, i64_w, i32_w]
                rfl
              refine pure_ (i := 3) (N := some 49) (v := undef) (a' := ?_) #[true, true, true, true, false, false, false, false, false, false, false, false, false, false, false, false, false] rfl rfl (any_of HT_.out (by kernel_rfl)) (fun _ _ _ h => h) (Or.inr ⟨by rfl, rfl⟩) ?_ ?_
              rotate_left
              · simp only [Act.put, zSa, zSb, zSc, i64_w, i32_w]
                rfl
              refine pure_ (i := 4) (N := some 50) (v := undef) (a' := ?_) #[true, true, true, true, true, false, false, false, false, false, false, false, false, false, false, false, false] rfl rfl (any_of HT_.out (by kernel_rfl)) (fun _ _ _ h => h) (Or.inr ⟨by rfl, rfl⟩) ?_ ?_
              rotate_left
              · simp only [Act.put, zSa, zSb, zSc, i64_w, i32_w]
                rfl
              refine pure_ (i := 5) (N := some 51) (v := undef) (a' := ?_) #[true, true, true, true, true, true, false, false, false, false, false, false, false, false, false, false, false] rfl rfl (any_of HT_.out (by kernel_rfl)) (fun _ _ _ h => h) (Or.inr ⟨by rfl, rfl⟩) ?_ ?_
              rotate_left
              · simp only [Act.put, zSa, zSb, zSc, i64_w, i32_w]
                rfl
              refine pure_ (i := 6) (N := some 52) (v := undef) (a' := ?_) #[true, true, true, true, true, true, true, false, false, false, false, false, false, false, false, false, false] rfl rfl (any_of HT_.out (by kernel_rfl)) (fun _ _ _ h => h) (Or.inr ⟨by rfl, rfl⟩) ?_ ?_
              rotate_left
              · simp only [Act.put, zSa, zSb, zSc, i64_w, i32_w]
                rfl
              refine pure_ (i := 7) (N := some 53) (v := undef) (a' := ?_) #[true, true, true, true, true, true, true, true, false, false, false, false, false, false, false, false, false] rfl rfl (any_of HT_.out (by kernel_rfl)) (fun _ _ _ h => h) (Or.inr ⟨by rfl, rfl⟩) ?_ ?_
              rotate_left
              · simp only [Act.put, zSa, zSb, zSc, i64_w, i32_w]
                rfl
              refine pure_ (i := 8) (N := some 54) (v := undef) (a' := ?_) #[true, true, true, true, true, true, true, true, true, false, false, false, false, false, false, false, false] rfl rfl (any_of HT_.out (by kernel_rfl)) (fun _ _ _ h => h) (Or.inr ⟨by rfl, rfl⟩) ?_ ?_
              rotate_left
              · simp only [Act.put, zSa, zSb, zSc, i64_w, i32_w]
                rfl
              refine pure_ (i := 9) (N := some 55) (v := undef) (a' := ?_) #[true, true, true, true, true, true, true, true, true, true, false, false, false, false, false, false, false] rfl rfl (any_of HT_.out (by kernel_rfl)) (fun _ _ _ h => h) (Or.inr ⟨by rfl, rfl⟩) ?_ ?_
              rotate_left
              · simp only [Act.put, zSa, zSb, zSc, i64_w, i32_w]
                rfl
              refine pure_ (i := 10) (N := some 56) (v := undef) (a' := ?_) #[true, true, true, true, true, true, true, true, true, true, true, false, false, false, false, false, false] rfl rfl (any_of HT_.out (by kernel_rfl)) (fun _ _ _ h => h) (Or.inr ⟨by rfl, rfl⟩) ?_ ?_
              rotate_left
              · simp only [Act.put, zSa, zSb, zSc, i64_w, i32_w]
                rfl
              refine pure_ (i := 11) (N := some 57) (v := undef) (a' := ?_) #[true, true, true, true, true, true, true, true, true, true, true, true, false, false, false, false, false] rfl rfl (any_of HT_.out (by kernel_rfl)) (fun _ _ _ h => h) (Or.inr ⟨by rfl, rfl⟩) ?_ ?_
              rotate_left
              · simp only [Act.put, zSa, zSb, zSc, i64_w, i32_w]
                rfl
              refine pure_ (i := 12) (N := some 58) (v := undef) (a' := ?_) #[true, true, true, true, true, true, true, true, true, true, true, true, true, false, false, false, false] rfl rfl (any_of HT_.out (by kernel_rfl)) (fun _ _ _ h => h) (Or.inr ⟨by rfl, rfl⟩) ?_ ?_
              rotate_left
              · simp only [Act.put, zSa, zSb, zSc, i64_w, i32_w]
                rfl
              refine pure_ (i := 13) (N := some 59) (v := undef) (a' := ?_) #[true, true, true, true, true, true, true, true, true, true, true, true, true, true, false, false, false] rfl rfl (any_of HT_.out (by kernel_rfl)) (fun _ _ _ h => h) (Or.inr ⟨by rfl, rfl⟩) ?_ ?_
              rotate_left
              · simp only [Act.put, zSa, zSb, zSc, i64_w, i32_w]
                rfl
              refine pure_ (i := 14) (N := some 60) (v := undef) (a' := ?_) #[true, true, true, true, true, true, true, true, true, true, true, true, true, true, true, false, false] rfl rfl (any_of HT_.out (by kernel_rfl)) (fun _ _ _ h => h) (Or.inr ⟨by rfl, rfl⟩) ?_ ?_
              rotate_left
              · simp only [Act.put, zSa, zSb, zSc, i64_w, i32_w]
                rfl
              refine pure_ (i := 15) (N := some 61) (v := undef) (a' := ?_) #[true, true, true, true, true, true, true, true, true, true, true, true, true, true, true, true, false] rfl rfl (any_of HT_.out (by kernel_rfl)) (fun _ _ _ h => h) (Or.inr ⟨by rfl, rfl⟩) ?_ ?_
              rotate_left
              · simp only [Act.put, zSa, zSb, zSc, i64_w, i32_w]
                rfl
              refine pure_ (i := 16) (N := some 62) (v := ?_) (a' := ?_) #[true, true, true, true, true, true, true, true, true, true, true, true, true, true, true, true, true] rfl rfl (any_of HT_.out (by kernel_rfl)) (fun _ _ _ h => h) (Or.inl ⟨by rfl, ?_⟩) ?_ ?_
              rotate_left
              · intro w'
                go_simp
                with_reducible rfl
              rotate_left
              · simp only [Act.put, zSa, zSb, zSc, i64_w, i32_w]
                rfl
              refine done_ (done_of HT_.out (by kernel_rfl)) ?_
              try go_wp2
              go_meet
              case rel => exact ⟨_, (false), (by first | rfl | (simp; done) | (simp [*]; done)), H', ⟨by have := HK1.out; first | omega | exact Nat.le_refl _⟩, ⟨by (with_reducible repeat (first | refine zKn ?_ _ | refine zKd ?_ | refine zKa ?_ _)); exact BK377.out⟩, ⟨by exact uT HB.out⟩⟩
          case rest =>
            clear HC15
            obtain ⟨kq, x62_14, rfl, HA, HJ14, BK377, HB⟩ := hcut
            rcases kq with _ | kj14
            · exact absurd HA.out (by simp [filigreeref04_Right.j1])
            have H := HA.out
            clear HA
            simp only [filigreeref04_Right.j1] at H
            by_cases c28 : x62_14 = true
            · subst c28
              replace H : (if 0 ≤ x4_1 then (if x4_1 < (l0_1.length : Int) then (if 0 ≤ (wrap64 (x4_1 - 1)) then (if (wrap64 (x4_1 - 1)) < (l0_1.length : Int) then ((filigreeref04_below.f ((rd_T36 l0_1 x4_1).f0) ((rd_T36 l0_1 x4_1).f1) ((rd_T36 l0_1 x4_1).f2) ((rd_T36 l0_1 (wrap64 (x4_1 - 1))).f0) ((rd_T36 l0_1 (wrap64 (x4_1 - 1))).f1) ((rd_T36 l0_1 (wrap64 (x4_1 - 1))).f2)).bind fun t388 => (if t388 = true then (some 1) else (some 7))) else (none)) else (none)) else (none)) else (none)) = some r := by rw [if_pos rfl] at H; exact H
              by_cases c29 : 0 ≤ x4_1
              rotate_left
              · rw [if_neg c29] at H; exact absurd H (by simp)
              rw [if_pos c29] at H
              have c29b0 : decide (0 ≤ x4_1) = true := decide_eq_true c29
              clear c29
              by_cases c30 : x4_1 < (l0_1.length : Int)
              rotate_left
              · rw [if_neg c30] at H; exact absurd H (by simp)
              rw [if_pos c30] at H
              have c30b0 : decide (x4_1 < (l0_1.length : Int)) = true := decide_eq_true c30
              clear c30
              obtain ⟨ji31, hji31⟩ : ∃ j_ : Int, (wrap64 (x4_1 - 1)) = j_ := ⟨_, rfl⟩
              replace H : (if 0 ≤ (ji31) then (if (ji31) < (l0_1.length : Int) then ((filigreeref04_below.f ((rd_T36 l0_1 x4_1).f0) ((rd_T36 l0_1 x4_1).f1) ((rd_T36 l0_1 x4_1).f2) ((rd_T36 l0_1 (ji31)).f0) ((rd_T36 l0_1 (ji31)).f1) ((rd_T36 l0_1 (ji31)).f2)).bind fun t388 => (if t388 = true then (some 1) else (some 7))) else (none)) else (none)) = some r := by first | (rw [hji31] at H; exact H) | (simp only [hji31] at H ⊢; exact H)
              have hji31w : (IntKind.i64.wrap (x4_1 - 1)) = ji31 := (i64_w _).trans hji31
              by_cases c32 : 0 ≤ (ji31)
              rotate_left
              · rw [if_neg c32] at H; exact absurd H (by simp)
              rw [if_pos c32] at H
              have c32b0 : decide (0 ≤ (ji31)) = true := decide_eq_true c32
              clear c32
              by_cases c33 : (ji31) < (l0_1.length : Int)
              rotate_left
              · rw [if_neg c33] at H; exact absurd H (by simp)
              rw [if_pos c33] at H
              have c33b0 : decide ((ji31) < (l0_1.length : Int)) = true := decide_eq_true c33
              clear c33
              replace H := bnd H
              obtain ⟨t388, A340, H⟩ := H
              have A34 := zMk A340
              clear A340
              by_cases c35 : t388 = true
              · subst c35
                replace H : (some 1) = some r := by rw [if_pos rfl] at H; exact H
                obtain rfl := zOi H
                try go_wp2
                replace BK377 := zMk (zKd BK377.out)
                replace HB := zMk (zBd HB.out)
                have p386 : 0 ≤ (x4_1 : Int) := of_decide_eq_true (by first | (with_reducible assumption) | assumption)
                have q386 : x4_1 < (l0_1.length : Int) := of_decide_eq_true (by first | (with_reducible assumption) | assumption)
                obtain ⟨ad386, e386, hx386_0, hx386_1, hx386_2⟩ := at_T36 HR0_1.out x4_1 p386 q386
                have hw386_2 := hx386_2
                have hw386_1 := hx386_1
                have hw386_0 := hx386_0
                obtain rfl : ad379 = ad386 := (by injection e386)
                replace hx386_0 := (HB.out.cell (World.block_lt_of_cell? w _ hx386_0)).trans hx386_0
                replace hx386_1 := (HB.out.cell (World.block_lt_of_cell? w _ hx386_1)).trans hx386_1
                replace hx386_2 := (HB.out.cell (World.block_lt_of_cell? w _ hx386_2)).trans hx386_2
                replace p386 := eq_true p386
                replace q386 := eq_true q386
                have p387 : 0 ≤ ((ji31) : Int) := of_decide_eq_true (by first | (with_reducible assumption) | assumption)
                have q387 : (ji31) < (l0_1.length : Int) := of_decide_eq_true (by first | (with_reducible assumption) | assumption)
                obtain ⟨ad387, e387, hx387_0, hx387_1, hx387_2⟩ := at_T36 HR0_1.out (ji31) p387 q387
                have hw387_2 := hx387_2
                have hw387_1 := hx387_1
                have hw387_0 := hx387_0
                obtain rfl : ad379 = ad387 := (by injection e387)
                replace hx387_0 := (HB.out.cell (World.block_lt_of_cell? w _ hx387_0)).trans hx387_0
                replace hx387_1 := (HB.out.cell (World.block_lt_of_cell? w _ hx387_1)).trans hx387_1
                replace hx387_2 := (HB.out.cell (World.block_lt_of_cell? w _ hx387_2)).trans hx387_2
                replace p387 := eq_true p387
                replace q387 := eq_true q387
                refine start_ (n := 12) (S := fun w' => w'.cell? ⟨gb377, 0, none⟩ = some (.int .i64 a0_0) ∧ w'.cell? ⟨gb377, 1, none⟩ = some (.slice (some ad379) l0_1.length c0_1) ∧ w'.cell? (ad379.add ((x4_1).toNat * 3)) = some (.int .i64 ((rd_T36 l0_1 x4_1).f0)) ∧ w'.cell? ⟨(ad379.add ((x4_1).toNat * 3)).block, (ad379.add ((x4_1).toNat * 3)).off + 1, none⟩ = some (.int .i64 ((rd_T36 l0_1 x4_1).f1)) ∧ w'.cell? ⟨(ad379.add ((x4_1).toNat * 3)).block, (ad379.add ((x4_1).toNat * 3)).off + 2, none⟩ = some (.int .i64 ((rd_T36 l0_1 x4_1).f2)) ∧ w'.cell? (ad379.add (((ji31)).toNat * 3)) = some (.int .i64 ((rd_T36 l0_1 (ji31)).f0)) ∧ w'.cell? ⟨(ad379.add (((ji31)).toNat * 3)).block, (ad379.add (((ji31)).toNat * 3)).off + 1, none⟩ = some (.int .i64 ((rd_T36 l0_1 (ji31)).f1)) ∧ w'.cell? ⟨(ad379.add (((ji31)).toNat * 3)).block, (ad379.add (((ji31)).toNat * 3)).off + 2, none⟩ = some (.int .i64 ((rd_T36 l0_1 (ji31)).f2))) (ds := []) #[false, false, false, false, false, false, false, false, false, false, false, false] (by kernel_rfl) rfl rfl ⟨(zKc BK377.out 0).trans rfl, (zKc BK377.out 1).trans rfl, ((HB.out.cell (World.block_lt_of_cell? w _ hw386_0)).trans hw386_0), ((HB.out.cell (World.block_lt_of_cell? w _ hw386_1)).trans hw386_1), ((HB.out.cell (World.block_lt_of_cell? w _ hw386_2)).trans hw386_2), ((HB.out.cell (World.block_lt_of_cell? w _ hw387_0)).trans hw387_0), ((HB.out.cell (World.block_lt_of_cell? w _ hw387_1)).trans hw387_1), ((HB.out.cell (World.block_lt_of_cell? w _ hw387_2)).trans hw387_2)⟩ (fun hHeld => ?_); refine with_tabW filigreeref04_Right.tab13 filigreeref04_Right.bits13 (fun HT_ HW_ => ?_)
                generalize wc.drew = w36 at BK377 HB hx386_0 hx386_1 hx386_2 hx387_0 hx387_1 hx387_2 hHeld ⊢
                refine pure_ (i := 0) (N := some 63) (v := ?_) (a' := ?_) #[true, false, false, false, false, false, false, false, false, false, false, false] rfl rfl (any_of HT_.out (by kernel_rfl)) (fun _ _ _ h => h) (Or.inl ⟨by rfl, ?_⟩) ?_ ?_
                rotate_left
                · intro w'
                  go_simp
                  with_reducible rfl
                rotate_left
                · simp only [Act.put, zSa, zSb, zSc, i64_w, i32_w]
                  rfl
                refine pure_ (i := 2) (N := some 65) (v := ?_) (a' := ?_) #[true, false, true, false, false, false, false, false, false, false, false, false] rfl rfl (any_of HT_.out (by kernel_rfl)) (fun _ _ _ h => h) (Or.inl ⟨by rfl, ?_⟩) ?_ ?_
                rotate_left
                · intro w'
                  go_simp
                  with_reducible rfl
                rotate_left
                · simp only [Act.put, zSa, zSb, zSc, i64_w, i32_w]
                  rfl
                refine pure_ (i := 5) (N := some 68) (v := ?_) (a' := ?_) #[true, false, true, false, false, true, false, false, false, false, false, false] rfl rfl (any_of HT_.out (by kernel_rfl)) (fun _ _ _ h => h) (Or.inl ⟨by rfl, ?_⟩) ?_ ?_
                rotate_left
                · intro w'
                  go_simp
                  with_reducible rfl
                rotate_left
                · simp only [Act.put, zSa, zSb, zSc, i64_w, i32_w]
                  rfl
                refine pure_ (i := 7) (N := some 70) (v := ?_) (a' := ?_) #[true, false, true, false, false, true, false, true, false, false, false, false] rfl rfl (any_of HT_.out (by kernel_rfl)) (fun _ _ _ h => h) (Or.inl ⟨by rfl, ?_⟩) ?_ ?_
                rotate_left
                · intro w'
                  go_simp
                  with_reducible rfl
                rotate_left
                · simp only [Act.put, zSa, zSb, zSc, i64_w, i32_w]
                  rfl
                refine pure_ (i := 8) (N := some 71) (v := ?_) (a' := ?_) #[true, false, true, false, false, true, false, true, true, false, false, false] rfl rfl (any_of HT_.out (by kernel_rfl)) (fun _ _ _ h => h) (Or.inl ⟨by rfl, ?_⟩) ?_ ?_
                rotate_left
                · intro w'
                  go_simp
                  with_reducible rfl
                rotate_left
                · simp only [Act.put, zSa, zSb, zSc, i64_w, i32_w]
                  rfl
                refine take_ (i := 1) (N := some 64) (v := ?_) (a' := ?_) #[true, true, true, false, false, true, false, true, true, false, false, false] rfl rfl (take_ofW HT_.out HW_.out (by kernel_rfl)) (fun _ _ _ h => h) (Or.inl ⟨by rfl, ?_⟩) hHeld ?_ ?_
                rotate_left
                · rintro w' ⟨s0, s1, s2, s3, s4, s5, s6, s7⟩
                  go_simp
                  with_reducible rfl
                rotate_left
                · simp only [Act.put, zSa, zSb, zSc, i64_w, i32_w]
                  rfl
                refine pure_ (i := 3) (N := some 66) (v := ?_) (a' := ?_) #[true, true, true, true, false, true, false, true, true, false, false, false] rfl rfl (any_of HT_.out (by kernel_rfl)) (fun _ _ _ h => h) (Or.inl ⟨by rfl, ?_⟩) ?_ ?_
                rotate_left
                · intro w'
                  go_simp
                  with_reducible rfl
                rotate_left
                · simp only [Act.put, zSa, zSb, zSc, i64_w, i32_w]
                  rfl
                refine take_ (i := 4) (N := some 67) (v := ?_) (a' := ?_) #[true, true, true, true, true, true, false, true, true, false, false, false] rfl rfl (take_ofW HT_.out HW_.out (by kernel_rfl)) (fun _ _ _ h => h) (Or.inl ⟨by rfl, ?_⟩) hHeld ?_ ?_
                rotate_left
                · rintro w' ⟨s0, s1, s2, s3, s4, s5, s6, s7⟩
                  go_simp
                  with_reducible rfl
                rotate_left
                · simp only [Act.put, zSa, zSb, zSc, i64_w, i32_w]
                  rfl
                refine take_ (i := 6) (N := some 69) (v := ?_) (a' := ?_) #[true, true, true, true, true, true, true, true, true, false, false, false] rfl rfl (take_ofW HT_.out HW_.out (by kernel_rfl)) (fun _ _ _ h => h) (Or.inl ⟨by rfl, ?_⟩) hHeld ?_ ?_
                rotate_left
                · rintro w' ⟨s0, s1, s2, s3, s4, s5, s6, s7⟩
                  go_simp
                  with_reducible rfl
                rotate_left
                · simp only [Act.put, zSa, zSb, zSc, i64_w, i32_w]
                  rfl
                refine pure_ (i := 9) (N := some 72) (v := ?_) (a' := ?_) #[true, true, true, true, true, true, true, true, true, true, false, false] rfl rfl (any_of HT_.out (by kernel_rfl)) (fun _ _ _ h => h) (Or.inl ⟨by rfl, ?_⟩) ?_ ?_
                rotate_left
                · intro w'
                  go_simp
                  with_reducible rfl
                rotate_left
                · simp only [Act.put, zSa, zSb, zSc, i64_w, i32_w]
                  rfl
                refine take_ (i := 10) (N := some 73) (v := ?_) (a' := ?_) #[true, true, true, true, true, true, true, true, true, true, true, false] rfl rfl (take_ofW HT_.out HW_.out (by kernel_rfl)) (fun _ _ _ h => h) (Or.inl ⟨by rfl, ?_⟩) hHeld ?_ ?_
                rotate_left
                · rintro w' ⟨s0, s1, s2, s3, s4, s5, s6, s7⟩
                  go_simp
                  with_reducible rfl
                rotate_left
                · simp only [Act.put, zSa, zSb, zSc, i64_w, i32_w]
                  rfl
                refine one_ (i := 11) (N := some 74) #[true, true, true, true, true, true, true, true, true, true, true, true] rfl rfl (one_of HT_.out (by kernel_rfl)) (by decide) (fun K hK => ?_)
                refine goes_ Try.func37 (by kernel_rfl) rfl #[.agg #[.int .i64 ((rd_T36 l0_1 x4_1).f0), .int .i64 ((rd_T36 l0_1 x4_1).f1), .int .i64 ((rd_T36 l0_1 x4_1).f2)], .agg #[.int .i64 ((rd_T36 l0_1 (ji31)).f0), .int .i64 ((rd_T36 l0_1 (ji31)).f1), .int .i64 ((rd_T36 l0_1 (ji31)).f2)]] (by rfl) rfl rfl (by (try simp only [zMa, zMc, zMn]); first | done | (simp only [hji31]; rfl) | rfl | (simp only [zLd, zLt]; rfl)) ?_
                with_reducible refine (filigreeref04_below.calls ((rd_T36 l0_1 x4_1).f0) ((rd_T36 l0_1 x4_1).f1) ((rd_T36 l0_1 x4_1).f2) ((rd_T36 l0_1 (ji31)).f0) ((rd_T36 l0_1 (ji31)).f1) ((rd_T36 l0_1 (ji31)).f2) true _ A34.out).mono ?_
                rintro e w37 ⟨rfl, hb⟩
                refine ⟨_, rfl, ?_⟩
                replace BK377 := zMk (zKb (g := gb377) (o := .cells #[.int .i64 a0_0, .slice (some ad379) l0_1.length c0_1] 24 (0, 0)) (by (with_reducible repeat (first | refine zKn ?_ _ | refine zKd ?_ | refine zKa ?_ _)); exact BK377.out) hb)
                replace HB := zMk (zBt (by exact uT HB.out) hb)
                (try clear hb)
                (try clear hb2)
                (try clear hk)
                (try clear hi)
                refine hK.out _ _ ⟨(zKc BK377.out 0).trans rfl, (zKc BK377.out 1).trans rfl, ((HB.out.cell (World.block_lt_of_cell? w _ hw386_0)).trans hw386_0), ((HB.out.cell (World.block_lt_of_cell? w _ hw386_1)).trans hw386_1), ((HB.out.cell (World.block_lt_of_cell? w _ hw386_2)).trans hw386_2), ((HB.out.cell (World.block_lt_of_cell? w _ hw387_0)).trans hw387_0), ((HB.out.cell (World.block_lt_of_cell? w _ hw387_1)).trans hw387_1), ((HB.out.cell (World.block_lt_of_cell? w _ hw387_2)).trans hw387_2)⟩ (fun hHeld => ?_)
                clear hK K
                refine norm_ (a' := ?_) ?_ ?_
                rotate_left
                · show Act.put _ (some 74) _ = _
                  simp only [Act.put, zSa, zSb, zSc, i64_w, i32_w]
                  rfl
                refine done_ (done_of HT_.out (by kernel_rfl)) ?_
                try go_wp2
                go_ret
                exact ⟨by first | rfl | (simp [errW_none, errW_some] <;> rfl) | (simp only [← hji31]; first | rfl | (simp [errW_none, errW_some] <;> rfl)) | (simp [*, errW_none, errW_some] <;> rfl), by exact uT HB.out⟩
              · replace c35 := Bool.eq_false_iff.mpr c35
                subst c35
                replace H : (some 7) = some r := by rw [if_neg (show ¬ (false = true) by decide)] at H; exact H
                obtain rfl := zOi H
                try go_wp2
                replace BK377 := zMk (zKd BK377.out)
                replace HB := zMk (zBd HB.out)
                have p386 : 0 ≤ (x4_1 : Int) := of_decide_eq_true (by first | (with_reducible assumption) | assumption)
                have q386 : x4_1 < (l0_1.length : Int) := of_decide_eq_true (by first | (with_reducible assumption) | assumption)
                obtain ⟨ad386, e386, hx386_0, hx386_1, hx386_2⟩ := at_T36 HR0_1.out x4_1 p386 q386
                have hw386_2 := hx386_2
                have hw386_1 := hx386_1
                have hw386_0 := hx386_0
                obtain rfl : ad379 = ad386 := (by injection e386)
                replace hx386_0 := (HB.out.cell (World.block_lt_of_cell? w _ hx386_0)).trans hx386_0
                replace hx386_1 := (HB.out.cell (World.block_lt_of_cell? w _ hx386_1)).trans hx386_1
                replace hx386_2 := (HB.out.cell (World.block_lt_of_cell? w _ hx386_2)).trans hx386_2
                replace p386 := eq_true p386
                replace q386 := eq_true q386
                have p387 : 0 ≤ ((ji31) : Int) := of_decide_eq_true (by first | (with_reducible assumption) | assumption)
                have q387 : (ji31) < (l0_1.length : Int) := of_decide_eq_true (by first | (with_reducible assumption) | assumption)
                obtain ⟨ad387, e387, hx387_0, hx387_1, hx387_2⟩ := at_T36 HR0_1.out (ji31) p387 q387
                have hw387_2 := hx387_2
                have hw387_1 := hx387_1
                have hw387_0 := hx387_0
                obtain rfl : ad379 = ad387 := (by injection e387)
                replace hx387_0 := (HB.out.cell (World.block_lt_of_cell? w _ hx387_0)).trans hx387_0
                replace hx387_1 := (HB.out.cell (World.block_lt_of_cell? w _ hx387_1)).trans hx387_1
                replace hx387_2 := (HB.out.cell (World.block_lt_of_cell? w _ hx387_2)).trans hx387_2
                replace p387 := eq_true p387
                replace q387 := eq_true q387
                refine start_ (n := 12) (S := fun w' => w'.cell? ⟨gb377, 0, none⟩ = some (.int .i64 a0_0) ∧ w'.cell? ⟨gb377, 1, none⟩ = some (.slice (some ad379) l0_1.length c0_1) ∧ w'.cell? (ad379.add ((x4_1).toNat * 3)) = some (.int .i64 ((rd_T36 l0_1 x4_1).f0)) ∧ w'.cell? ⟨(ad379.add ((x4_1).toNat * 3)).block, (ad379.add ((x4_1).toNat * 3)).off + 1, none⟩ = some (.int .i64 ((rd_T36 l0_1 x4_1).f1)) ∧ w'.cell? ⟨(ad379.add ((x4_1).toNat * 3)).block, (ad379.add ((x4_1).toNat * 3)).off + 2, none⟩ = some (.int .i64 ((rd_T36 l0_1 x4_1).f2)) ∧ w'.cell? (ad379.add (((ji31)).toNat * 3)) = some (.int .i64 ((rd_T36 l0_1 (ji31)).f0)) ∧ w'.cell? ⟨(ad379.add (((ji31)).toNat * 3)).block, (ad379.add (((ji31)).toNat * 3)).off + 1, none⟩ = some (.int .i64 ((rd_T36 l0_1 (ji31)).f1)) ∧ w'.cell? ⟨(ad379.add (((ji31)).toNat * 3)).block, (ad379.add (((ji31)).toNat * 3)).off + 2, none⟩ = some (.int .i64 ((rd_T36 l0_1 (ji31)).f2))) (ds := []) #[false, false, false, false, false, false, false, false, false, false, false, false] (by kernel_rfl) rfl rfl ⟨(zKc BK377.out 0).trans rfl, (zKc BK377.out 1).trans rfl, ((HB.out.cell (World.block_lt_of_cell? w _ hw386_0)).trans hw386_0), ((HB.out.cell (World.block_lt_of_cell? w _ hw386_1)).trans hw386_1), ((HB.out.cell (World.block_lt_of_cell? w _ hw386_2)).trans hw386_2), ((HB.out.cell (World.block_lt_of_cell? w _ hw387_0)).trans hw387_0), ((HB.out.cell (World.block_lt_of_cell? w _ hw387_1)).trans hw387_1), ((HB.out.cell (World.block_lt_of_cell? w _ hw387_2)).trans hw387_2)⟩ (fun hHeld => ?_); refine with_tabW filigreeref04_Right.tab13 filigreeref04_Right.bits13 (fun HT_ HW_ => ?_)
                generalize wc.drew = w38 at BK377 HB hx386_0 hx386_1 hx386_2 hx387_0 hx387_1 hx387_2 hHeld ⊢
                refine pure_ (i := 0) (N := some 63) (v := ?_) (a' := ?_) #[true, false, false, false, false, false, false, false, false, false, false, false] rfl rfl (any_of HT_.out (by kernel_rfl)) (fun _ _ _ h => h) (Or.inl ⟨by rfl, ?_⟩) ?_ ?_
                rotate_left
                · intro w'
                  go_simp
                  with_reducible rfl
                rotate_left
                · simp only [Act.put, zSa, zSb, zSc, i64_w, i32_w]
                  rfl
                refine pure_ (i := 2) (N := some 65) (v := ?_) (a' := ?_) #[true, false, true, false, false, false, false, false, false, false, false, false] rfl rfl (any_of HT_.out (by kernel_rfl)) (fun _ _ _ h => h) (Or.inl ⟨by rfl, ?_⟩) ?_ ?_
                rotate_left
                · intro w'
                  go_simp
                  with_reducible rfl
                rotate_left
                · simp only [Act.put, zSa, zSb, zSc, i64_w, i32_w]
                  rfl
                refine pure_ (i := 5) (N := some 68) (v := ?_) (a' := ?_) #[true, false, true, false, false, true, false, false, false, false, false, false] rfl rfl (any_of HT_.out (by kernel_rfl)) (fun _ _ _ h => h) (Or.inl ⟨by rfl, ?_⟩) ?_ ?_
                rotate_left
                · intro w'
                  go_simp
                  with_reducible rfl
                rotate_left
                · simp only [Act.put, zSa, zSb, zSc, i64_w, i32_w]
                  rfl
                refine pure_ (i := 7) (N := some 70) (v := ?_) (a' := ?_) #[true, false, true, false, false, true, false, true, false, false, false, false] rfl rfl (any_of HT_.out (by kernel_rfl)) (fun _ _ _ h => h) (Or.inl ⟨by rfl, ?_⟩) ?_ ?_
                rotate_left
                · intro w'
                  go_simp
                  with_reducible rfl
                rotate_left
                · simp only [Act.put, zSa, zSb, zSc, i64_w, i32_w]
                  rfl
                refine pure_ (i := 8) (N := some 71) (v := ?_) (a' := ?_) #[true, false, true, false, false, true, false, true, true, false, false, false] rfl rfl (any_of HT_.out (by kernel_rfl)) (fun _ _ _ h => h) (Or.inl ⟨by rfl, ?_⟩) ?_ ?_
                rotate_left
                · intro w'
                  go_simp
                  with_reducible rfl
                rotate_left
                · simp only [Act.put, zSa, zSb, zSc, i64_w, i32_w]
                  rfl
                refine take_ (i := 1) (N := some 64) (v := ?_) (a' := ?_) #[true, true, true, false, false, true, false, true, true, false, false, false] rfl rfl (take_ofW HT_.out HW_.out (by kernel_rfl)) (fun _ _ _ h => h) (Or.inl ⟨by rfl, ?_⟩) hHeld ?_ ?_
                rotate_left
                · rintro w' ⟨s0, s1, s2, s3, s4, s5, s6, s7⟩
                  go_simp
                  with_reducible rfl
                rotate_left
                · simp only [Act.put, zSa, zSb, zSc, i64_w, i32_w]
                  rfl
                refine pure_ (i := 3) (N := some 66) (v := ?_) (a' := ?_) #[true, true, true, true, false, true, false, true, true, false, false, false] rfl rfl (any_of HT_.out (by kernel_rfl)) (fun _ _ _ h => h) (Or.inl ⟨by rfl, ?_⟩) ?_ ?_
                rotate_left
                · intro w'
                  go_simp
                  with_reducible rfl
                rotate_left
                · simp only [Act.put, zSa, zSb, zSc, i64_w, i32_w]
                  rfl
                refine take_ (i := 4) (N := some 67) (v := ?_) (a' := ?_) #[true, true, true, true, true, true, false, true, true, false, false, false] rfl rfl (take_ofW HT_.out HW_.out (by kernel_rfl)) (fun _ _ _ h => h) (Or.inl ⟨by rfl, ?_⟩) hHeld ?_ ?_
                rotate_left
                · rintro w' ⟨s0, s1, s2, s3, s4, s5, s6, s7⟩
                  go_simp
                  with_reducible rfl
                rotate_left
                · simp only [Act.put, zSa, zSb, zSc, i64_w, i32_w]
                  rfl
                refine take_ (i := 6) (N := some 69) (v := ?_) (a' := ?_) #[true, true, true, true, true, true, true, true, true, false, false, false] rfl rfl (take_ofW HT_.out HW_.out (by kernel_rfl)) (fun _ _ _ h => h) (Or.inl ⟨by rfl, ?_⟩) hHeld ?_ ?_
                rotate_left
                · rintro w' ⟨s0, s1, s2, s3, s4, s5, s6, s7⟩
                  go_simp
                  with_reducible rfl
                rotate_left
                · simp only [Act.put, zSa, zSb, zSc, i64_w, i32_w]
                  rfl
                refine pure_ (i := 9) (N := some 72) (v := ?_) (a' := ?_) #[true, true, true, true, true, true, true, true, true, true, false, false] rfl rfl (any_of HT_.out (by kernel_rfl)) (fun _ _ _ h => h) (Or.inl ⟨by rfl, ?_⟩) ?_ ?_
                rotate_left
                · intro w'
                  go_simp
                  with_reducible rfl
                rotate_left
                · simp only [Act.put, zSa, zSb, zSc, i64_w, i32_w]
                  rfl
                refine take_ (i := 10) (N := some 73) (v := ?_) (a' := ?_) #[true, true, true, true, true, true, true, true, true, true, true, false] rfl rfl (take_ofW HT_.out HW_.out (by kernel_rfl)) (fun _ _ _ h => h) (Or.inl ⟨by rfl, ?_⟩) hHeld ?_ ?_
                rotate_left
                · rintro w' ⟨s0, s1, s2, s3, s4, s5, s6, s7⟩
                  go_simp
                  with_reducible rfl
                rotate_left
                · simp only [Act.put, zSa, zSb, zSc, i64_w, i32_w]
                  rfl
                refine one_ (i := 11) (N := some 74) #[true, true, true, true, true, true, true, true, true, true, true, true] rfl rfl (one_of HT_.out (by kernel_rfl)) (by decide) (fun K hK => ?_)
                refine goes_ Try.func37 (by kernel_rfl) rfl #[.agg #[.int .i64 ((rd_T36 l0_1 x4_1).f0), .int .i64 ((rd_T36 l0_1 x4_1).f1), .int .i64 ((rd_T36 l0_1 x4_1).f2)], .agg #[.int .i64 ((rd_T36 l0_1 (ji31)).f0), .int .i64 ((rd_T36 l0_1 (ji31)).f1), .int .i64 ((rd_T36 l0_1 (ji31)).f2)]] (by rfl) rfl rfl (by (try simp only [zMa, zMc, zMn]); first | done | (simp only [hji31]; rfl) | rfl | (simp only [zLd, zLt]; rfl)) ?_
                with_reducible refine (filigreeref04_below.calls ((rd_T36 l0_1 x4_1).f0) ((rd_T36 l0_1 x4_1).f1) ((rd_T36 l0_1 x4_1).f2) ((rd_T36 l0_1 (ji31)).f0) ((rd_T36 l0_1 (ji31)).f1) ((rd_T36 l0_1 (ji31)).f2) false _ A34.out).mono ?_
                rintro e w39 ⟨rfl, hb⟩
                refine ⟨_, rfl, ?_⟩
                replace BK377 := zMk (zKb (g := gb377) (o := .cells #[.int .i64 a0_0, .slice (some ad379) l0_1.length c0_1] 24 (0, 0)) (by (with_reducible repeat (first | refine zKn ?_ _ | refine zKd ?_ | refine zKa ?_ _)); exact BK377.out) hb)
                replace HB := zMk (zBt (by exact uT HB.out) hb)
                (try clear hb)
                (try clear hb2)
                (try clear hk)
                (try clear hi)
                refine hK.out _ _ ⟨(zKc BK377.out 0).trans rfl, (zKc BK377.out 1).trans rfl, ((HB.out.cell (World.block_lt_of_cell? w _ hw386_0)).trans hw386_0), ((HB.out.cell (World.block_lt_of_cell? w _ hw386_1)).trans hw386_1), ((HB.out.cell (World.block_lt_of_cell? w _ hw386_2)).trans hw386_2), ((HB.out.cell (World.block_lt_of_cell? w _ hw387_0)).trans hw387_0), ((HB.out.cell (World.block_lt_of_cell? w _ hw387_1)).trans hw387_1), ((HB.out.cell (World.block_lt_of_cell? w _ hw387_2)).trans hw387_2)⟩ (fun hHeld => ?_)
                clear hK K
                refine norm_ (a' := ?_) ?_ ?_
                rotate_left
                · show Act.put _ (some 74) _ = _
                  simp only [Act.put, zSa, zSb, zSc, i64_w, i32_w]
                  rfl
                refine done_ (done_of HT_.out (by kernel_rfl)) ?_
                try go_wp2
                go_ret
                exact ⟨by first | rfl | (simp [errW_none, errW_some] <;> rfl) | (simp only [← hji31]; first | rfl | (simp [errW_none, errW_some] <;> rfl)) | (simp [*, errW_none, errW_some] <;> rfl), by exact uT HB.out⟩
            · replace c28 := Bool.eq_false_iff.mpr c28
              subst c28
              replace H : (filigreeref04_Right.l0 kj14 (wrap64 (x4_1 + 1)) a0_0 l0_1) = some r := by rw [if_neg (show ¬ (false = true) by decide)] at H; exact H
              have H' := zMk H
              clear H
              go_wp2
              go_roundg kj14
              case measure => have := HK1.out; have := HJ14.out; omega
              case rel => exact ⟨(wrap64 (x4_1 + 1)), (by first | rfl | (simp; done) | (simp [*]; done)), H', ⟨by have := HK1.out; have := HJ14.out; omega⟩, ⟨by (with_reducible repeat (first | refine zKn ?_ _ | refine zKd ?_ | refine zKa ?_ _)); exact BK377.out⟩, ⟨by exact uT HB.out⟩⟩
      · rw [if_neg c9] at H
        have c9b0 : (t380 == 0) = false := beq_eq_false_iff_ne.mpr c9
        have c9b1 : (t380 != 0) = true := bne_iff_ne.mpr c9
        obtain rfl := zOi H
        have hcz40_0 : wr.cell? ⟨gb377, 0, none⟩ = some (.int .i64 a0_0) := (zKc BK377.out 0).trans rfl
        have hcz40_1 : wr.cell? ⟨gb377, 1, none⟩ = some (.slice A0_1 l0_1.length c0_1) := (zKc BK377.out 1).trans rfl
        have hfz40_0 := zKf BK377.out 0
        have hfz40_1 := zKf BK377.out 1
        try go_wp2
        replace BK377 := zMk (zKd BK377.out)
        replace HB := zMk (zBd HB.out)
        have p379 : 0 ≤ (x4_1 : Int) := of_decide_eq_true (by first | (with_reducible assumption) | assumption)
        have q379 : x4_1 < (l0_1.length : Int) := of_decide_eq_true (by first | (with_reducible assumption) | assumption)
        obtain ⟨ad379, e379, hx379_0, hx379_1, hx379_2⟩ := at_T36 HR0_1.out x4_1 p379 q379
        have hw379_2 := hx379_2
        have hw379_1 := hx379_1
        have hw379_0 := hx379_0
        cases e379
        replace hx379_0 := (HB.out.cell (World.block_lt_of_cell? w _ hx379_0)).trans hx379_0
        replace hx379_1 := (HB.out.cell (World.block_lt_of_cell? w _ hx379_1)).trans hx379_1
        replace hx379_2 := (HB.out.cell (World.block_lt_of_cell? w _ hx379_2)).trans hx379_2
        replace p379 := eq_true p379
        replace q379 := eq_true q379
        refine start_ (n := 9) (S := fun w' => w'.cell? ⟨gb377, 0, none⟩ = some (.int .i64 a0_0) ∧ w'.cell? ⟨gb377, 1, none⟩ = some (.slice (some ad379) l0_1.length c0_1) ∧ w'.cell? (ad379.add ((x4_1).toNat * 3)) = some (.int .i64 ((rd_T36 l0_1 x4_1).f0)) ∧ w'.cell? ⟨(ad379.add ((x4_1).toNat * 3)).block, (ad379.add ((x4_1).toNat * 3)).off + 1, none⟩ = some (.int .i64 ((rd_T36 l0_1 x4_1).f1)) ∧ w'.cell? ⟨(ad379.add ((x4_1).toNat * 3)).block, (ad379.add ((x4_1).toNat * 3)).off + 2, none⟩ = some (.int .i64 ((rd_T36 l0_1 x4_1).f2))) (ds := []) #[false, false, false, false, false, false, false, false, false] (by kernel_rfl) rfl rfl ⟨(zKc BK377.out 0).trans rfl, (zKc BK377.out 1).trans rfl, ((HB.out.cell (World.block_lt_of_cell? w _ hw379_0)).trans hw379_0), ((HB.out.cell (World.block_lt_of_cell? w _ hw379_1)).trans hw379_1), ((HB.out.cell (World.block_lt_of_cell? w _ hw379_2)).trans hw379_2)⟩ (fun hHeld => ?_); refine with_tabW filigreeref04_Right.tab7 filigreeref04_Right.bits7 (fun HT_ HW_ => ?_)
        generalize wr.drew = w41 at BK377 HB hx379_0 hx379_1 hx379_2 hHeld ⊢
        refine pure_ (i := 0) (N := some 22) (v := ?_) (a' := ?_) #[true, false, false, false, false, false, false, false, false] rfl rfl (any_of HT_.out (by kernel_rfl)) (fun _ _ _ h => h) (Or.inl ⟨by rfl, ?_⟩) ?_ ?_
        rotate_left
        · intro w'
          go_simp
          with_reducible rfl
        rotate_left
        · simp only [Act.put, zSa, zSb, zSc, i64_w, i32_w]
          rfl
        refine pure_ (i := 2) (N := some 24) (v := ?_) (a' := ?_) #[true, false, true, false, false, false, false, false, false] rfl rfl (any_of HT_.out (by kernel_rfl)) (fun _ _ _ h => h) (Or.inl ⟨by rfl, ?_⟩) ?_ ?_
        rotate_left
        · intro w'
          go_simp
          with_reducible rfl
        rotate_left
        · simp only [Act.put, zSa, zSb, zSc, i64_w, i32_w]
          rfl
        refine pure_ (i := 4) (N := some 26) (v := ?_) (a' := ?_) #[true, false, true, false, true, false, false, false, false] rfl rfl (any_of HT_.out (by kernel_rfl)) (fun _ _ _ h => h) (Or.inl ⟨by rfl, ?_⟩) ?_ ?_
        rotate_left
        · intro w'
          go_simp
          with_reducible rfl
        rotate_left
        · simp only [Act.put, zSa, zSb, zSc, i64_w, i32_w]
          rfl
        refine take_ (i := 1) (N := some 23) (v := ?_) (a' := ?_) #[true, true, true, false, true, false, false, false, false] rfl rfl (take_ofW HT_.out HW_.out (by kernel_rfl)) (fun _ _ _ h => h) (Or.inl ⟨by rfl, ?_⟩) hHeld ?_ ?_
        rotate_left
        · rintro w' ⟨s0, s1, s2, s3, s4⟩
          go_simp
          with_reducible rfl
        rotate_left
        · simp only [Act.put, zSa, zSb, zSc, i64_w, i32_w]
          rfl
        refine take_ (i := 3) (N := some 25) (v := ?_) (a' := ?_) #[true, true, true, true, true, false, false, false, false] rfl rfl (take_ofW HT_.out HW_.out (by kernel_rfl)) (fun _ _ _ h => h) (Or.inl ⟨by rfl, ?_⟩) hHeld ?_ ?_
        rotate_left
        · rintro w' ⟨s0, s1, s2, s3, s4⟩
          go_simp
          with_reducible rfl
        rotate_left
        · simp only [Act.put, zSa, zSb, zSc, i64_w, i32_w]
          rfl
        refine pure_ (i := 5) (N := some 27) (v := ?_) (a' := ?_) #[true, true, true, true, true, true, false, false, false] rfl rfl (any_of HT_.out (by kernel_rfl)) (fun _ _ _ h => h) (Or.inl ⟨by rfl, ?_⟩) ?_ ?_
        rotate_left
        · intro w'
          go_simp
          with_reducible rfl
        rotate_left
        · simp only [Act.put, zSa, zSb, zSc, i64_w, i32_w]
          rfl
        refine take_ (i := 6) (N := some 28) (v := ?_) (a' := ?_) #[true, true, true, true, true, true, true, false, false] rfl rfl (take_ofW HT_.out HW_.out (by kernel_rfl)) (fun _ _ _ h => h) (Or.inl ⟨by rfl, ?_⟩) hHeld ?_ ?_
        rotate_left
        · rintro w' ⟨s0, s1, s2, s3, s4⟩
          go_simp
          with_reducible rfl
        rotate_left
        · simp only [Act.put, zSa, zSb, zSc, i64_w, i32_w]
          rfl
        refine one_ (i := 7) (N := some 29) #[true, true, true, true, true, true, true, true, false] rfl rfl (one_of HT_.out (by kernel_rfl)) (by decide) (fun K hK => ?_)
        refine goes_ Try.func36 (by kernel_rfl) rfl #[.int .i64 a0_0, .agg #[.int .i64 ((rd_T36 l0_1 x4_1).f0), .int .i64 ((rd_T36 l0_1 x4_1).f1), .int .i64 ((rd_T36 l0_1 x4_1).f2)]] (by rfl) rfl rfl (by (try simp only [zMa, zMc, zMn]); first | done | rfl | (simp only [zLd, zLt]; rfl)) ?_
        with_reducible refine (filigreeref04_edge.calls k1 a0_0 ((rd_T36 l0_1 x4_1).f0) ((rd_T36 l0_1 x4_1).f1) ((rd_T36 l0_1 x4_1).f2) t380 _ A8.out).mono ?_
        rintro e w42 ⟨rfl, hb⟩
        refine ⟨_, rfl, ?_⟩
        replace BK377 := zMk (zKb (g := gb377) (o := .cells #[.int .i64 a0_0, .slice (some ad379) l0_1.length c0_1] 24 (0, 0)) (by (with_reducible repeat (first | refine zKn ?_ _ | refine zKd ?_ | refine zKa ?_ _)); exact BK377.out) hb)
        replace HB := zMk (zBt (by exact uT HB.out) hb)
        (try clear hb)
        (try clear hb2)
        (try clear hk)
        (try clear hi)
        refine hK.out _ _ ⟨(zKc BK377.out 0).trans rfl, (zKc BK377.out 1).trans rfl, ((HB.out.cell (World.block_lt_of_cell? w _ hw379_0)).trans hw379_0), ((HB.out.cell (World.block_lt_of_cell? w _ hw379_1)).trans hw379_1), ((HB.out.cell (World.block_lt_of_cell? w _ hw379_2)).trans hw379_2)⟩ (fun hHeld => ?_)
        clear hK K
        refine norm_ (a' := ?_) ?_ ?_
        rotate_left
        · show Act.put _ (some 29) _ = _
          simp only [Act.put, zSa, zSb, zSc, i64_w, i32_w]
          rfl
        refine pure_ (i := 8) (N := some 5) (v := ?_) (a' := ?_) #[true, true, true, true, true, true, true, true, true] rfl rfl (any_of HT_.out (by kernel_rfl)) (fun _ _ _ h => h) (Or.inl ⟨by rfl, ?_⟩) ?_ ?_
        rotate_left
        · intro w'
          go_simp
          with_reducible rfl
        rotate_left
        · simp only [Act.put, zSa, zSb, zSc, i64_w, i32_w]
          rfl
        refine done_ (done_of HT_.out (by kernel_rfl)) ?_
        try go_wp2
        go_ret
        exact ⟨by first | rfl | (simp [errW_none, errW_some] <;> rfl) | (simp [*, errW_none, errW_some] <;> rfl), by exact uT HB.out⟩
    · rw [if_neg c6] at H
      have c6b0 : decide (x4_1 < (l0_1.length : Int)) = false := decide_eq_false c6
      clear c6
      obtain rfl := zOi H
      have hcz43_0 : wr.cell? ⟨gb377, 0, none⟩ = some (.int .i64 a0_0) := (zKc BK377.out 0).trans rfl
      have hcz43_1 : wr.cell? ⟨gb377, 1, none⟩ = some (.slice A0_1 l0_1.length c0_1) := (zKc BK377.out 1).trans rfl
      have hfz43_0 := zKf BK377.out 0
      have hfz43_1 := zKf BK377.out 1
      go_wp2
      go_ret
      exact ⟨by first | rfl | (simp [errW_none, errW_some] <;> rfl) | (simp [*, errW_none, errW_some] <;> rfl), by exact uT HB.out⟩
  · rw [if_neg c3] at H
    have c3b0 : (t378 == 0) = false := beq_eq_false_iff_ne.mpr c3
    have c3b1 : (t378 != 0) = true := bne_iff_ne.mpr c3
    obtain rfl := zOi H
    go_enter Try.func12, Try.ntmps12
    go_wp2_with (first |  ((with_reducible refine gate_dst (N := 1) rfl ?_); refine box_event ?hg (N := 1) ?hd (cs := #[.int .i64 a0_0, .slice A0_1 l0_1.length c0_1]) (t := 24) ?hr ?_; (case hd => rfl); (case hg => rfl); (case hr => first |  (go_simp; done)|  (go_simp; rfl)|  (go_simp; rw [show ∀ x : Int, IntKind.u32.wrap (IntKind.u8.wrap x) = x % 256 from fun x => (by show (x % 256) % 4294967296 = x % 256; omega)])); intro gb377 hg w44 hbox hb; have BK377 := zMk (hbox); have GW377 := zMk ((by rw [hg]; exact (zBs (by exact uT HB.out)) : w.heap.size ≤ gb377)); have GE377 := zMk ((by rw [hg]; exact (zBs (by exact uT HB.out)) : w.heap.size ≤ gb377)); have IGE377 := ownGe GE377.out; replace HB := zMk (zBt (by exact uT HB.out) hb); clear hb hbox hg; have hcz45_0 : w44.cell? ⟨gb377, 0, none⟩ = some (.int .i64 a0_0) := (zKc BK377.out 0).trans rfl; have hcz45_1 : w44.cell? ⟨gb377, 1, none⟩ = some (.slice A0_1 l0_1.length c0_1) := (zKc BK377.out 1).trans rfl; have hfz45_0 := zKf BK377.out 0; have hfz45_1 := zKf BK377.out 1)|  ((with_reducible refine gate_callee (f := 35) rfl ?_); refine goesL_ (some 11) rfl rfl Try.func35 (by kernel_rfl) rfl #[.int .i64 a0_0, .int .i64 (l0_1.length : Int)] rfl (by (try simp only [zMa, zMc, zMn]); first |  done|  rfl|  (simp only [zLd, zLt]; rfl)) ?_; (with_reducible refine (filigreeref04_many.calls a0_0 (l0_1.length : Int) t378 _ A2.out).mono ?_); rintro e w' ⟨rfl, ⟨nd, rfl⟩⟩; refine ⟨_, rfl, ?_⟩))
    go_ret
    exact ⟨by first | rfl | (simp [errW_none, errW_some] <;> rfl) | (simp [*, errW_none, errW_some] <;> rfl), by exact uT HB.out⟩

/- Chapter 04: an edge alone, the order of edges, which graphs are right: what both sides come to. -/
theorem w64 {x : Int} (h0 : -9223372036854775808 ≤ x) (h1 : x ≤ 9223372036854775807) : wrap64 x = x := by unfold wrap64; omega
/-- what stands against an edge alone -/
def aloneI (n : Int) (e : S36) : Int :=
  if e.f0 < 0 ∨ e.f0 ≥ n ∨ e.f1 < 0 ∨ e.f1 ≥ n then 5 else if e.f0 = e.f1 then 6 else if e.f2 ≤ -2147483648 ∨ e.f2 ≥ 2147483648 then 8 else 0
theorem alone_eq (k : Nat) (n : Int) (e : S36) : graph_alone.f (k + 1) n e.f0 e.f1 e.f2 = some (aloneI n e) := by
  unfold graph_alone.f aloneI
  simp only [graph_alone.j0, mn, mx, if_true]
  by_cases h1 : e.f1 < e.f0 <;> by_cases h2 : e.f0 < e.f1 <;> simp only [h1, h2, if_true, if_false]
  all_goals repeat' split
  all_goals first | rfl | (exfalso; omega) | (exfalso; simp only [decide_eq_true_eq] at *; omega)
theorem edge_eq (k : Nat) (n : Int) (e : S36) : filigreeref04_edge.f (k + 1) n e.f0 e.f1 e.f2 = some (aloneI n e) := by
  unfold filigreeref04_edge.f aloneI
  simp only [filigreeref04_edge.j0, decide_eq_true_eq, if_true]
  repeat' split
  all_goals first | rfl | (exfalso; omega) | (exfalso; simp only [decide_eq_true_eq] at *; omega)
def ordE (a b : S36) : Int := if a.f0 < b.f0 then -1 else if b.f0 < a.f0 then 1 else if a.f1 < b.f1 then -1 else if b.f1 < a.f1 then 1 else 0
theorem compare_eq (a b : Int) : cmp_Compare_int.f a b = some (if a < b then -1 else if b < a then 1 else 0) := by
  simp only [cmp_Compare_int.f, cmp_isNaN_int.f, zOb, bne_self_eq_false, Bool.false_eq_true, if_false]
  repeat' split
  all_goals first | rfl | omega
theorem or_eq (k : Nat) (p q : Int) : cmp_Or_int.f (k + 3) [p, q] = some (if p = 0 then q else p) := by
  unfold cmp_Or_int.f
  simp only [cmp_Or_int.l0, zLc, zLn]
  by_cases hp : p = 0
  · subst hp
    by_cases hq : q = 0
    · subst hq; simp [rd, wrap64]
    · simp [rd, wrap64, hq]
  · simp [rd, hp]
theorem order_eq (k : Nat) (a b : S36) : graph_order.f (k + 3) a.f0 a.f1 a.f2 b.f0 b.f1 b.f2 = some (ordE a b) := by
  simp only [graph_order.f, compare_eq, zOb, or_eq, ordE]
  congr 1
  repeat' split
  all_goals omega
theorem below_eq (a b : S36) : filigreeref04_below.f a.f0 a.f1 a.f2 b.f0 b.f1 b.f2 = some (decide (ordE a b = -1)) := by
  unfold filigreeref04_below.f ordE
  by_cases h1 : a.f0 < b.f0
  · simp [h1]
  · rw [if_neg h1, if_neg h1]
    by_cases h2 : b.f0 < a.f0
    · rw [if_neg (by omega), if_pos h2]; simp
    · rw [if_pos (by omega), if_neg h2]
      by_cases h3 : a.f1 < b.f1
      · simp [h3]
      · rw [if_neg h3]
        by_cases h4 : b.f1 < a.f1
        · rw [if_pos h4]; simp [h3]
        · rw [if_neg h4]; simp [h3]
theorem ordE_swap (a b : S36) : ordE b a = - ordE a b := by
  unfold ordE
  repeat' split
  all_goals omega
theorem ordE_cases (a b : S36) : ordE a b = -1 ∨ ordE a b = 0 ∨ ordE a b = 1 := by
  unfold ordE
  repeat' split
  all_goals simp
/-- what stands against the edges behind one that was looked at last -/
def rgt (n : Int) : Option S36 → List S36 → Int
  | _, [] => 0
  | p, e :: l =>
    if aloneI n e ≠ 0 then aloneI n e
    else if e.f0 > e.f1 then 1
    else match p with
      | none => rgt n (some e) l
      | some p => if ordE p e = 0 then 7 else if ordE p e = 1 then 1 else rgt n (some e) l
def sizesI (n m : Int) : Int := if n < 0 then 1 else if n > 1048576 then 4 else if m > 4194304 then 4 else 0
theorem sizes_eq (n m : Int) : graph_sizes.f n m = some (sizesI n m) := by
  unfold graph_sizes.f sizesI
  repeat' split
  all_goals rfl
theorem many_eq (n m : Int) : filigreeref04_many.f n m = some (sizesI n m) := by
  unfold filigreeref04_many.f sizesI
  repeat' split
  all_goals rfl
def rightI (n : Int) (l : List S36) : Int := if sizesI n l.length = 0 then rgt n none l else sizesI n l.length
def lastE (l : List S36) (i : Nat) : Option S36 := if i = 0 then none else some (rd_T36 l ((i - 1 : Nat) : Int))
theorem rdE_get (l : List S36) (i : Nat) (h : i < l.length) : rd_T36 l (i : Int) = l[i] := by
  unfold rd_T36
  rw [zTn]
  simp [h]
theorem dropE (l : List S36) (i : Nat) (h : i < l.length) : l.drop i = rd_T36 l (i : Int) :: l.drop (i + 1) := by
  rw [List.drop_eq_getElem_cons h, rdE_get l i h]
theorem Right_l0 (n : Int) (l : List S36) (hm : l.length ≤ 4194304) (d : Nat) : ∀ (k i : Nat), l.length - i = d → i ≤ l.length → d + 4 ≤ k →
    graph_Right.l0 k l (l.length : Int) i n l = some (rgt n (lastE l i) (l.drop i)) := by
  induction d with
  | zero =>
    intro k i hd hi hk
    obtain ⟨k, rfl⟩ : ∃ m, k = m + 1 := ⟨k - 1, by omega⟩
    obtain rfl : i = l.length := by omega
    rw [List.drop_length]
    simp only [graph_Right.l0]
    rw [if_neg (by omega)]
    simp [rgt]
  | succ d ih =>
    intro k i hd hi hk
    obtain ⟨k, rfl⟩ : ∃ m, k = m + 1 := ⟨k - 1, by omega⟩
    obtain ⟨k1, hk1⟩ : ∃ m, k = m + 1 := ⟨k - 1, by omega⟩
    obtain ⟨k3, hk3⟩ : ∃ m, k = m + 3 := ⟨k - 3, by omega⟩
    have hlt : i < l.length := by omega
    rw [dropE l i hlt]
    have hnext := ih k (i + 1) (by omega) (by omega) (by omega)
    have hl1 : lastE l (i + 1) = some (rd_T36 l (i : Int)) := by unfold lastE; rw [if_neg (by omega)]; rfl
    rw [hl1] at hnext
    have hwn : wrap64 ((i : Int) + 1) = ((i + 1 : Nat) : Int) := by rw [w64 (by omega) (by omega)]; omega
    simp only [graph_Right.l0]
    rw [if_pos (by omega), if_pos (by omega), if_pos (by omega)]
    have ha : graph_alone.f k n (rd_T36 l (i : Int)).f0 (rd_T36 l (i : Int)).f1 (rd_T36 l (i : Int)).f2 = some (aloneI n (rd_T36 l (i : Int))) := by rw [hk1]; exact alone_eq _ _ _
    rw [ha, zOb]
    unfold rgt
    by_cases h0 : aloneI n (rd_T36 l (i : Int)) = 0
    · rw [if_pos h0, if_neg (not_not_intro h0)]
      by_cases hgt : (rd_T36 l (i : Int)).f0 > (rd_T36 l (i : Int)).f1
      · rw [if_pos hgt, if_pos hgt]
      · rw [if_neg hgt, if_neg hgt]
        by_cases hi0 : i = 0
        · rw [if_pos (by omega), hwn, hnext]
          simp [lastE, hi0]
        · have hwm : wrap64 ((i : Int) - 1) = ((i - 1 : Nat) : Int) := by rw [w64 (by omega) (by omega)]; omega
          have ho : graph_order.f k (rd_T36 l ((i - 1 : Nat) : Int)).f0 (rd_T36 l ((i - 1 : Nat) : Int)).f1 (rd_T36 l ((i - 1 : Nat) : Int)).f2 (rd_T36 l (i : Int)).f0 (rd_T36 l (i : Int)).f1 (rd_T36 l (i : Int)).f2 = some (ordE (rd_T36 l ((i - 1 : Nat) : Int)) (rd_T36 l (i : Int))) := by rw [hk3]; exact order_eq _ _ _
          rw [if_neg (by omega), hwm, if_pos (by omega), if_pos (by omega), ho, zOb, hwn, hnext]
          have hl0 : lastE l i = some (rd_T36 l ((i - 1 : Nat) : Int)) := by unfold lastE; rw [if_neg hi0]
          rw [hl0]
          repeat' split
          all_goals simp_all
    · rw [if_neg h0, if_pos h0]
theorem Right_eq (k : Nat) (n : Int) (l : List S36) (hk : l.length + 4 ≤ k) : graph_Right.f k n l = some (rightI n l) := by
  unfold graph_Right.f rightI
  rw [sizes_eq, zOb]
  by_cases h : sizesI n l.length = 0
  · rw [if_pos h, if_pos h]
    have hm : l.length ≤ 4194304 := by
      unfold sizesI at h
      repeat' split at h
      all_goals omega
    have := Right_l0 n l hm l.length k 0 (by omega) (by omega) (by omega)
    simpa [lastE] using this
  · rw [if_neg h, if_neg h]
theorem refRight_l0 (n : Int) (l : List S36) (hm : l.length ≤ 4194304) (d : Nat) : ∀ (k i : Nat), l.length - i = d → i ≤ l.length → 2 * d + 3 ≤ k →
    filigreeref04_Right.l0 k i n l = some (rgt n (lastE l i) (l.drop i)) := by
  induction d with
  | zero =>
    intro k i hd hi hk
    obtain ⟨k, rfl⟩ : ∃ m, k = m + 1 := ⟨k - 1, by omega⟩
    obtain rfl : i = l.length := by omega
    rw [List.drop_length]
    simp only [filigreeref04_Right.l0]
    rw [if_neg (by omega)]
    simp [rgt]
  | succ d ih =>
    intro k i hd hi hk
    obtain ⟨k, rfl⟩ : ∃ m, k = m + 2 := ⟨k - 2, by omega⟩
    have hlt : i < l.length := by omega
    rw [dropE l i hlt]
    have hnext := ih k (i + 1) (by omega) (by omega) (by omega)
    have hl1 : lastE l (i + 1) = some (rd_T36 l (i : Int)) := by unfold lastE; rw [if_neg (by omega)]; rfl
    rw [hl1] at hnext
    have hwn : wrap64 ((i : Int) + 1) = ((i + 1 : Nat) : Int) := by rw [w64 (by omega) (by omega)]; omega
    simp only [filigreeref04_Right.l0]
    rw [if_pos (by omega), if_pos (by omega), edge_eq, zOb]
    unfold rgt
    by_cases h0 : aloneI n (rd_T36 l (i : Int)) = 0
    · rw [if_pos h0, if_neg (not_not_intro h0)]
      by_cases hgt : (rd_T36 l (i : Int)).f0 > (rd_T36 l (i : Int)).f1
      · rw [if_pos hgt, if_pos hgt]
      · rw [if_neg hgt, if_neg hgt]
        by_cases hi0 : i = 0
        · rw [if_neg (by omega)]
          simp only [filigreeref04_Right.j1]
          rw [if_neg (by simp), hwn, hnext]
          simp [lastE, hi0]
        · have hwm : wrap64 ((i : Int) - 1) = ((i - 1 : Nat) : Int) := by rw [w64 (by omega) (by omega)]; omega
          have hl0 : lastE l i = some (rd_T36 l ((i - 1 : Nat) : Int)) := by unfold lastE; rw [if_neg hi0]
          rw [if_pos (by omega), hwm, if_pos (by omega), if_pos (by omega), below_eq, zOb, hl0]
          simp only [filigreeref04_Right.j1]
          rw [hwm, hwn, hnext]
          have hsw := ordE_swap (rd_T36 l ((i - 1 : Nat) : Int)) (rd_T36 l (i : Int))
          rcases ordE_cases (rd_T36 l ((i - 1 : Nat) : Int)) (rd_T36 l (i : Int)) with h | h | h
          · rw [if_neg (by simp [h])]
            simp [h]
          · rw [if_pos (by simp [h]), if_pos (by omega), if_pos (by omega), if_pos (by omega), if_pos (by omega), below_eq, zOb, hsw, h]
            simp
          · rw [if_pos (by simp [h]), if_pos (by omega), if_pos (by omega), if_pos (by omega), if_pos (by omega), below_eq, zOb, hsw, h]
            simp
    · rw [if_neg h0, if_pos h0]
theorem refRight_eq (k : Nat) (n : Int) (l : List S36) (hk : 2 * l.length + 3 ≤ k) : filigreeref04_Right.f k n l = some (rightI n l) := by
  unfold filigreeref04_Right.f rightI
  rw [many_eq, zOb]
  by_cases h : sizesI n l.length = 0
  · rw [if_pos h, if_pos h]
    have hm : l.length ≤ 4194304 := by
      unfold sizesI at h
      repeat' split at h
      all_goals omega
    have := refRight_l0 n l hm l.length k 0 (by omega) (by omega) (by omega)
    simpa [lastE] using this
  · rw [if_neg h, if_neg h]

theorem eqA36 (d : Nat) (w : World) (x0 y0 : Int) (x1 y1 : Int) (x2 y2 : Int) :
    (Op.equalIn (d + 2) 36 (.agg #[.int .i64 x0, .int .i64 x1, .int .i64 x2]) (.agg #[.int .i64 y0, .int .i64 y1, .int .i64 y2])).run Try.prog w = .ok (x0 == y0 && (x1 == y1 && (x2 == y2))) w := by
  refine eqA_of Try.underlying36 (by kernel_rfl) ?_
  refine eqf_cons (by rfl) (by go_simp; rfl) (by go_simp; rfl) (by go_simp) ?_
  refine eqf_cons (by rfl) (by go_simp; rfl) (by go_simp; rfl) (by go_simp) ?_
  exact eqf_last (by rfl) (by go_simp; rfl) (by go_simp; rfl) (by go_simp)

/-! ### api_Edge_38: function 38 -/

def api_Edge_38.f (l0 : List S36) : Option (List S36) := if l0.length < 5864062014805 then some l0 else none
set_option maxHeartbeats 1000000 in
theorem api_Edge_38.calls (A0 : Option Addr) (c0 : Nat) (l0 : List S36) (r : List S36) (w : World) (hr0 : Kd.C k36 w A0 l0.length l0) (hc0 : l0.length ≤ c0) (h : api_Edge_38.f l0 = some r) :
    Calls Try.prog 38 #[.slice A0 l0.length c0] w fun e w' => ∃ v0_ : Value, e = .returned (v0_) ∧ Kd.R k36 36 w' w.heap.size (fun _ => True) v0_ r ∧ Below w.heap.size w w' := by
  have HR0 := zMk hr0
  have HB := zMk (Below.refl w.heap.size w)
  unfold api_Edge_38.f at h
  by_cases hl : l0.length < 5864062014805
  · rw [if_pos hl] at h
    obtain rfl := zOi h
    have LM := zMk hl
    clear hl h hr0
    have knil : ∀ (W : World) (a : Option Addr) (n c : Nat), (binOp .eql 22 (.slice a n c) (.slice none 0 0)).run Try.prog W = .ok (.bool a.isNone) W := fun W a n c => Lib.run_eql_slice_nil W 22 36 a n c 0 0 Try.underlying22
    cases A0 with
    | none =>
      have h0 : l0 = [] := by
        have h3 := HR0.out.2.2
        rcases Nat.eq_zero_or_pos l0.length with h4 | h4
        · exact List.eq_nil_of_length_eq_zero h4
        · obtain ⟨ad, e, _⟩ := h3 h4
          cases e
      subst h0
      go_enter Try.func38, Try.ntmps38
      go_wp2
      go_ret
      exact ⟨_, rfl, Kd.R_nil _ _ _ _ _, HB.out⟩
    | some ad =>
      go_enter Try.func38, Try.ntmps38
      go_wp2_with (first |  ((with_reducible refine gate_dst (N := 5) rfl ?_); refine Kd.R_lit k36 _ 36 ?hg (N := 5) ?hd (xs := ([] : List S36)) (inner := []) (ok := fun _ => True) (okp := fun _ => True) ?hr ?hp (fun _ hk => hk) trivial (Below.refl _ _) (Nat.le_refl _) (by simp) ?_; (case hd => rfl); (case hg => rfl); (case hr => first |  (go_simp; done)|  (go_simp; rfl)); (case hp => exact (Reps.none _ _)); intro v247 w10 ho11 hb hg_ hnew_; clear hg_ hnew_; have HO248 := zMk (zRl ho11 (zBs HB.out)); replace HB := zMk (zBt HB.out hb); clear hb ho11)|  ((with_reducible refine gate_builtin (b := .append) (xs := #[.tmp 5, .tmp 6]) rfl ?_); at_builtin; refine Kd.R_append_rows k36 (w0 := w) w.heap.size rfl (.tmp 5) (.tmp 6) 22 36 (.agg #[(.int .i64 0), (.int .i64 0), (.int .i64 0)]) 24 rfl Try.underlying22 info36 rfl (by decide) (by omega) v247 [] l0 _ _ _ (fun _ => True) (fun _ => False) rfl rfl HO248.out (Kd.C_below HR0.out HB.out) (fun _ _ h => h) (fun _ h => h.elim) (fun _ _ => trivial) HB.out (zBs HB.out) (by have := LM.out; simp only [zLn]; omega) ?_; intro v251 w13 ho hb hg hat; replace HB := zMk (hb); have HO252 := zMk (ho); clear HO248 ho hb hg hat))
      go_ret
      exact ⟨_, rfl, by simpa using HO252.out, HB.out⟩
  · rw [if_neg hl] at h
    cases h


/-! ### api_Edge_39: function 39 -/
section
open Go.Sort hiding Below
def sortE (l : List S36) : List S36 := (pdq (ltOf cfE) l.toArray 0 l.length (Lib.bitLen l.length) true true).toList
theorem sortE_facts (l : List S36) : PermIn 0 l.toArray.size l.toArray (sortE l).toArray ∧ SortedIn (ltOf cfE) 0 l.toArray.size (sortE l).toArray := by
  have h := pdq_sorts (ltOf cfE) swoE l.toArray 0 l.toArray.size (Lib.bitLen l.length) true true (Nat.zero_le _) (Nat.le_refl _) (Or.inl rfl)
  simpa [sortE] using h
theorem sortE_length (l : List S36) : (sortE l).length = l.length := by
  have := (sortE_facts l).1.1
  simpa using this
theorem sortE_perm (l : List S36) : (sortE l).Perm l := by
  have h := (sortE_facts l).1
  have h1 := h.2.2
  have h2 := h.1
  simp only [List.size_toArray] at h1 h2
  have h3 : (List.take l.length (sortE l)).Perm l := by simpa [List.extract, h2] using h1
  rwa [List.take_of_length_le (by rw [sortE_length]; exact Nat.le_refl _)] at h3
theorem sortE_nil : sortE [] = [] := List.length_eq_zero_iff.1 (sortE_length [])
def api_Edge_39.f (l0 : List S36) : Option (List S36) := if l0.length < 4611686018427387904 then some (sortE l0) else none
theorem api_Edge_39.calls (P0_ : Nat → Prop) (u0 : Value) (l0 : List S36) (r : List S36) (w0 w : World) (hB : Below w0.heap.size w0 w) (ho0 : Kd.R k36 36 w w0.heap.size P0_ u0 l0) (h : api_Edge_39.f l0 = some r) :
    Calls Try.prog 39 #[u0, .func (.func 34) #[] #[]] w fun e w' => e = .returned (.tuple #[]) ∧ Kd.R k36 36 w' w0.heap.size (fun k_ => (P0_ k_ ∨ w.heap.size ≤ k_)) u0 r ∧ Below w0.heap.size w0 w' ∧ Kept w w' (fun k_ => P0_ k_) := by
  unfold api_Edge_39.f at h
  by_cases hl : l0.length < 4611686018427387904
  · rw [if_pos hl] at h
    obtain rfl := zOi h
    obtain ⟨hok, inner, ⟨hlen, ho⟩, hr⟩ := ho0
    rcases ho with ⟨rfl, h0⟩ | ⟨g, cap, cur, rfl, hg, hb, h1, h2, h3, h4⟩
    · have : l0 = [] := List.length_eq_zero_iff.1 h0
      subst this
      refine (Try.slices_SortFunc_none none 0 (.func (.func 34) #[] #[]) w).mono ?_
      rintro e w' ⟨rfl, rfl⟩
      refine ⟨rfl, ?_, hB, Kept.refl _ _⟩
      rw [sortE_nil]
      exact Kd.R_nil _ _ _ _ _
    · have eO : ∀ args w, (callFunc 34 args).run Try.prog w = .ok (.enter 34 args) w := enters_of Try.func34 (by kernel_rfl) rfl
      have hblk : g < w.heap.size := (Array.getElem?_eq_some_iff.1 hb).1
      have hH : HoldsK encE 3 w g 0 l0.toArray := held_row (fun x c h => k36_openM h) hr hb h4
      have hcon := Try.slices_SortFunc_eq encE (fun _ => rfl) (fun x v hv => by simp [encE] at hv; rcases hv with rfl | rfl | rfl <;> rfl) cfE swoE 34 #[] g 0 cap l0.toArray w eO (cmpLaysE _ _ _ _) hH hblk (by simpa using hl)
      rw [List.size_toArray] at hcon
      refine hcon.mono ?_
      rintro e w' ⟨rfl, n, os, rfl⟩
      have e2 : pdq (ltOf cfE) l0.toArray 0 l0.length (Lib.bitLen l0.length) true true = (sortE l0).toArray := by simp [sortE]
      rw [e2]
      refine ⟨rfl, sorted_row (sortE_length l0) (.inl (hok g (by simp [Value.ownBlock]))) hg hb h1 h2 h3, hB.grown (grown_sortK _) hB.size (fun k hk => by cases hk; exact hg), ?_⟩
      exact Kept.of_grown (grown_sortK _) (Kept.refl _ _) (fun k hk => .inl (by cases hk; exact hok g (by simp [Value.ownBlock])))
  · rw [if_neg hl] at h
    cases h
end


/-! ### graph_Make: function 14 -/
section
open Go.Sort hiding Below
theorem flat_get (xs : List S36) (t : Nat) (ht : t < xs.length * 3) : (flatK encE 3 xs.toArray).toList[t]? = some ((encE (rd_T36 xs (t / 3 : Nat)))[t % 3]!) := by
  have hb : t < (flatK encE 3 xs.toArray).size := by simpa using ht
  have hj : t / 3 < xs.length := by omega
  rw [Array.getElem?_toList, Array.getElem?_eq_getElem hb, ← getElem!_pos (flatK encE 3 xs.toArray) t hb, get_flatK _ _ _ _ (by simpa using ht)]
  have : xs.toArray[t / 3]! = rd_T36 xs (t / 3 : Nat) := by
    unfold rd_T36
    rw [zTn]
    simp [hj]
  rw [this]
def ownE (w : World) (g cap : Nat) (xs : List S36) : Prop := ∃ cur, w.heap[g]? = some (.cells cur 36 (0, 0)) ∧ cur.size = cap * 3 ∧ cur.toList.take (xs.length * 3) = (flatK encE 3 xs.toArray).toList
theorem ownE_cell {w : World} {g cap : Nat} {xs : List S36} (h : ownE w g cap xs) (i c : Nat) (hi : i < xs.length) (hc : c < 3) : w.cell? ⟨g, i * 3 + c, none⟩ = some ((encE (rd_T36 xs (i : Int)))[c]!) := by
  obtain ⟨cur, hb, hs, ht⟩ := h
  have h1 := flat_get xs (i * 3 + c) (by omega)
  rw [← ht, List.getElem?_take_of_lt (by omega), show (i * 3 + c) / 3 = i by omega, show (i * 3 + c) % 3 = c by omega, Array.getElem?_toList] at h1
  simp only [World.cell?, hb]
  simp only [Option.isSome_none, Bool.false_eq_true, if_false]
  exact h1
theorem ownE_congr {w w' : World} {g cap : Nat} {xs : List S36} (h : ownE w g cap xs) (hk : w'.heap[g]? = w.heap[g]?) : ownE w' g cap xs := by
  obtain ⟨cur, hb, hs, ht⟩ := h
  exact ⟨cur, hk.trans hb, hs, ht⟩
theorem ownE_set {w : World} {g cap : Nat} {xs : List S36} (h : ownE w g cap xs) (i : Nat) (hi : i < xs.length) (hl : xs.length ≤ cap) (a b : Int) : ownE ((w.setCell ⟨g, i * 3, none⟩ (.int .i64 a)).setCell ⟨g, i * 3 + 1, none⟩ (.int .i64 b)) g cap (xs.set i ⟨a, b, (rd_T36 xs (i : Int)).f2⟩) := by
  obtain ⟨cur, hb, hs, ht⟩ := h
  refine ⟨_, blk_setCell_same (blk_setCell_same hb), by simp [hs], ?_⟩
  rw [List.length_set, Array.toList_setIfInBounds, Array.toList_setIfInBounds, List.take_set, List.take_set, ht]
  apply List.ext_getElem?
  intro t
  have hfl : (flatK encE 3 xs.toArray).toList.length = xs.length * 3 := by simp
  by_cases h1 : t < xs.length * 3
  · rw [flat_get (xs.set i ⟨a, b, (rd_T36 xs (i : Int)).f2⟩) t (by rw [List.length_set]; exact h1)]
    rw [List.getElem?_set, List.getElem?_set, flat_get xs t h1]
    simp only [List.length_set, hfl]
    by_cases e : t / 3 = i
    · have hr : rd_T36 (xs.set i ⟨a, b, (rd_T36 xs (i : Int)).f2⟩) (t / 3 : Nat) = ⟨a, b, (rd_T36 xs (i : Int)).f2⟩ := by
        rw [e]
        generalize (rd_T36 xs (i : Int)).f2 = c
        unfold rd_T36
        rw [zTn]
        simp [hi]
      rw [hr]
      obtain hc | hc | hc : t = i * 3 ∨ t = i * 3 + 1 ∨ t = i * 3 + 2 := by omega
      · subst hc
        rw [if_neg (by omega), if_pos rfl, if_pos (by omega), show i * 3 % 3 = 0 by omega]; rfl
      · subst hc
        rw [if_pos rfl, if_pos (by omega), show (i * 3 + 1) % 3 = 1 by omega]; rfl
      · subst hc
        rw [if_neg (by omega), if_neg (by omega), show (i * 3 + 2) % 3 = 2 by omega, show (i * 3 + 2) / 3 = i by omega]; rfl
    · rw [if_neg (by omega), if_neg (by omega)]
      have hr : rd_T36 (xs.set i ⟨a, b, (rd_T36 xs (i : Int)).f2⟩) (t / 3 : Nat) = rd_T36 xs (t / 3 : Nat) := by
        simp only [rd_T36, zTn, List.getD_eq_getElem?_getD]
        rw [List.getElem?_set_ne (fun h => e h.symm)]
      rw [hr]
  · rw [List.getElem?_eq_none (by simp; omega), List.getElem?_eq_none (by simp; omega)]
theorem ownE_R {w : World} {base g cap : Nat} {xs : List S36} {ok : Nat → Prop} (h : ownE w g cap xs) (hok : ok g) (hbase : base ≤ g) (h1 : xs.length ≤ cap) (h2 : cap ≤ maxLen) : Kd.R k36 36 w base ok (.slice (some ⟨g, 0, none⟩) xs.length cap) xs := by
  obtain ⟨cur, hb, hs, ht⟩ := h
  refine ⟨fun k hk => ?_, (flatK encE 3 xs.toArray).toList, ⟨by simp; rfl, .inr ⟨g, cap, cur, rfl, hbase, hb, h1, h2, hs, ht⟩⟩, flat_reps (fun x => k36_mkM _ _ _ x) xs⟩
  have : g = k := by simpa [Value.ownBlock] using hk
  exact this ▸ hok
theorem ownE_of_R {w : World} {base : Nat} {v : Value} {xs : List S36} {ok : Nat → Prop} (h : Kd.R k36 36 w base ok v xs) : (v = .slice none 0 0 ∧ xs = []) ∨ ∃ g cap, v = .slice (some ⟨g, 0, none⟩) xs.length cap ∧ ok g ∧ base ≤ g ∧ g < w.heap.size ∧ xs.length ≤ cap ∧ cap ≤ maxLen ∧ ownE w g cap xs := by
  obtain ⟨hok, inner, ⟨hlen, ho⟩, hr⟩ := h
  rcases ho with ⟨rfl, h0⟩ | ⟨g, cap, cur, rfl, hg, hb, h1, h2, h3, h4⟩
  · exact .inl ⟨rfl, List.length_eq_zero_iff.1 h0⟩
  · refine .inr ⟨g, cap, rfl, hok g (by simp [Value.ownBlock]), hg, (Array.getElem?_eq_some_iff.1 hb).1, h1, h2, cur, hb, h3, ?_⟩
    have h5 : cur.toList.take (xs.length * 3) = inner := h4
    rw [h5]
    apply List.ext_getElem?
    intro t
    by_cases ht : t < xs.length * 3
    · rw [cells_row xs inner (fun x c h => k36_openM h) hr t ht, Array.getElem?_toList, Array.getElem?_eq_getElem (by simpa using ht), getElem!_pos _ _ (by simpa using ht)]
    · rw [List.getElem?_eq_none (by rw [hr.1]; exact Nat.le_of_not_lt ht), List.getElem?_eq_none (by simp; omega)]
end
def graph_Make_bad (k : Nat) (n : Int) : List S36 → Option Int
  | [] => some 0
  | e :: l => (graph_alone.f k n e.f0 e.f1 e.f2).bind fun r => if r = 0 then graph_Make_bad k n l else some r
def nrmE (e : S36) : S36 := ⟨if e.f1 < e.f0 then e.f1 else e.f0, if e.f0 < e.f1 then e.f1 else e.f0, e.f2⟩
def dupE : List S36 → Bool
  | a :: b :: l => decide (ordI a.f0 a.f1 b.f0 b.f1 = 0) || dupE (b :: l)
  | _ => false
def graph_Make.f (k : Nat) (n : Int) (l : List S36) : Option (Int × List S36 × Int) :=
  if l.length < 5864062014805 then (graph_sizes.f n l.length).bind fun r => if r = 0 then (graph_Make_bad k n l).bind fun b => if b = 0 then (if dupE (sortE (l.map nrmE)) then some (0, [], 7) else some (n, sortE (l.map nrmE), 0)) else some (0, [], b) else some (0, [], r)
  else none
theorem ownE_frozen {w : World} {g cap c : Nat} {xs : List S36} (h : ownE w g cap xs) : w.frozen? ⟨g, c, none⟩ = false := by
  obtain ⟨cur, hb, _⟩ := h
  simp [World.frozen?, hb]
theorem set_step {α : Type} (f : α → α) (l : List α) (i : Nat) (h : i < l.length) : ((l.take i).map f ++ l.drop i).set i (f l[i]) = (l.take (i + 1)).map f ++ l.drop (i + 1) := by
  rw [List.drop_eq_getElem_cons h, List.set_append_right _ _ (by rw [List.length_map, zLt]; omega), List.length_map, zLt, Nat.min_eq_left (Nat.le_of_lt h), Nat.sub_self, zSb, List.take_succ_eq_append_getElem h, List.map_append, List.append_assoc]
  rfl
theorem rd_get (l : List S36) (i : Nat) (h : i < l.length) : rd_T36 l (i : Int) = l[i] := by
  unfold rd_T36
  rw [zTn]
  simp [h]
theorem ownE_grow {w : World} {g cap : Nat} {xs : List S36} (q : Nat) (os : Array Obj) (h : ownE w g cap xs) : ownE (Sort.grow (w.drewN q) os) g cap xs := by
  obtain ⟨cur, hb, hs, ht⟩ := h
  exact ⟨cur, blk_growN q os hb, hs, ht⟩
theorem results_cellrow_tmp {P : Program} {fn : Func} {p u : Tmp} {ty : TypeId} (h : fn.results = #[.cell p ty, .tmp u]) (tmps : Array Value) (w : World) (g : Nat) (t : TypeId) (cs : Array Value) (fr : Nat × Nat) (d : TypeDesc)
    (hp : tmps.getD p undef = .pointer (some ⟨g, 0, none⟩)) (hg : w.heap[g]? = some (.cells cs t fr))
    (hu : P.underlying ty = some d) (hd : (match d with | .struct _ | .array _ _ => true | _ => false) = true) (hi : (P.info? ty).map (·.size) = some cs.size) :
    (results fn tmps).run P w = .ok (.tuple #[.agg cs, tmps.getD u undef]) w := by
  rw [results_cell_tmp h, hp]
  simp [asAddr, run_loadVar_row w g t ty cs fr d hg hu hd hi]
set_option maxHeartbeats 4000000 in
set_option maxRecDepth 100000 in
theorem graph_Make.calls (k : Nat) (n : Int) (A0 : Option Addr) (c0 : Nat) (l0 : List S36) (r1 : Int) (r2 : List S36) (r3 : Int) (w : World) (hr0 : Kd.C k36 w A0 l0.length l0) (hc0 : l0.length ≤ c0) (h : graph_Make.f k n l0 = some (r1, r2, r3)) :
    Calls Try.prog 14 #[.int .i64 n, .slice A0 l0.length c0] w fun e w' => ∃ v1_ : Value, e = .returned (.tuple #[.agg #[.int .i64 r1, v1_], .int .i64 r3]) ∧ Kd.R k36 36 w' w.heap.size (fun _ => True) v1_ r2 ∧ Below w.heap.size w w' := by
  have HR := zMk hr0
  unfold graph_Make.f at h
  by_cases hl : l0.length < 5864062014805
  case neg => rw [if_neg hl] at h; cases h
  rw [if_pos hl] at h
  obtain ⟨r, hs, h⟩ := Option.bind_eq_some_iff.1 h
  have HS := fun W => graph_sizes.calls n l0.length r W hs
  have HZ := fun W : World => Kd.R_nil k36 36 W w.heap.size (fun _ => True)
  clear hr0 hs
  have mixed : Try.prog.follows .mixedOrders = true := by kernel_rfl
  have hu24 := Try.underlying24
  have hu36 := Try.underlying36
  by_cases hr : r = 0
  · rw [if_pos hr] at h
    obtain ⟨b, hb, h⟩ := Option.bind_eq_some_iff.1 h
    have rb : (r != 0) = false := bne_eq_false_iff_eq.mpr hr
    have H1 := zMk hb
    have H2 := zMk h
    clear h hb hr
    have HC := fun W : World => api_Edge_38.calls A0 c0 l0 l0 W
    go_enter Try.func14, Try.ntmps14
    go_wp2_with (go_at_call 32; refine (HS _).mono ?_; rintro e w' ⟨rfl, nd, rfl⟩)
    refine (api_Edge_38.calls A0 c0 l0 l0 _ (Kd.C_below HR.out (zBn (zBa (Below.refl _ _) _) nd)) hc0 (by unfold api_Edge_38.f; rw [if_pos hl])).mono ?_
    rintro e w2 ⟨v0, rfl, hR, hB⟩
    have HB := zMk (zBt (zBn (zBa (Below.refl w.heap.size w) (.cells #[Value.int .i64 0, .slice none 0 0] 24)) nd) hB)
    have BK := zMk (zKb (zKn (heap_alloc_new w (.cells #[Value.int .i64 0, .slice none 0 0] 24)) nd) hB)
    have hg0 : (((w.alloc (.cells #[Value.int .i64 0, .slice none 0 0] 24)).drewN nd).heap.size) = w.heap.size + 1 := by show (w.heap.push _).size = _; simp
    rw [hg0] at hR
    clear hB hg0
    rcases ownE_of_R hR with ⟨rfl, rfl⟩ | ⟨g, cap, rfl, -, hg, hg2, hcap, hmax, hO⟩
    · obtain rfl : (0 : Int) = b := by simpa [graph_Make_bad] using H1.out
      have hfin := H2.out
      have hs0 : sortE (List.map nrmE []) = [] := List.length_eq_zero_iff.1 (by rw [sortE_length]; rfl)
      rw [if_pos rfl, hs0, if_neg (by decide)] at hfin
      obtain ⟨rfl, rfl, rfl⟩ : n = r1 ∧ [] = r2 ∧ (0 : Int) = r3 := by simpa using hfin
      clear hfin H1 H2
      have HSO := fun W hB => api_Edge_39.calls (fun _ => False) (.slice none 0 0) [] [] w W hB (Kd.R_nil k36 36 W w.heap.size (fun _ => False)) (by unfold api_Edge_39.f; rw [if_pos (by decide)]; exact congrArg some hs0)
      go_wp2
      refine wp_loop_rounds 1 ?_
      rw [rounds_succ]
      go_wp2_with (go_at_call 39; refine (HSO _ HB.out).mono ?_; rintro e w4 ⟨rfl, hR4, hB4, hK4⟩; go_loud (have BZ := zMk ((hK4.2 w.heap.size (blk_lt BK.out) (fun h => h)).trans BK.out)); have HB4 := zMk hB4; clear hR4 hB4 hK4)
      refine wp_loop_rounds 1 ?_
      rw [rounds_succ]
      have hz0 := box_cell (c := 0) (v := .int .i64 0) BZ.out rfl
      have hz1 := box_cell (c := 1) (v := .slice none 0 0) BZ.out rfl
      have hzf0 := box_frozen (c := 0) BZ.out
      have hzf1 := box_frozen (c := 1) BZ.out
      go_wp2
      refine bodyPost_ret (results_cellrow_tmp rfl _ _ w.heap.size 24 #[.int .i64 n, .slice none 0 0] (0, 0) _ rfl (blk_setCell_same (blk_setCell_same BZ.out)) Try.underlying24 rfl (by kernel_rfl)) rfl ?_
      exact ⟨.slice none 0 0, rfl, HZ _, below_set (below_set HB4.out (Nat.le_refl _)) (Nat.le_refl _)⟩
    · go_wp2
      go_loopg [24] l0.length (fun kx s24 wr => ∃ i : Nat, ∃ xs : List S36, s24 = .int .i64 i ∧ i ≤ l0.length ∧ l0.length - i ≤ kx ∧ Aside0 (xs = (l0.take i).map nrmE ++ l0.drop i) ∧ Aside0 (ownE wr g cap xs) ∧ Aside0 (Below w.heap.size w wr) ∧ Aside0 (wr.heap[w.heap.size]? = some (.cells #[Value.int .i64 0, .slice none 0 0] 24 (0, 0))) ∧ Aside0 (graph_Make_bad k n (l0.drop i) = some b))
      case atStart => exact ⟨0, l0, rfl, Nat.zero_le _, Nat.le_refl _, zMk (by simp), zMk hO, HB, BK, zMk (by simpa using H1.out)⟩
      clear H1 hO HB BK
      obtain ⟨i, xs, rfl, hi, hg3, HX, HO, HB, BK, HBAD⟩ := hrel
      have hxl : xs.length = l0.length := by rw [HX.out]; simp only [List.length_append, List.length_map, zLt, zLd]; omega
      by_cases hlt : i < l0.length
      · have hd : l0.drop i = rd_T36 l0 (i : Int) :: l0.drop (i + 1) := by
          rw [List.drop_eq_getElem_cons hlt]
          congr 1
          unfold rd_T36
          rw [zTn]
          simp [hlt]
        have hx : rd_T36 xs (i : Int) = rd_T36 l0 (i : Int) := by
          unfold rd_T36
          rw [zTn, HX.out, List.getD_eq_getElem?_getD, List.getD_eq_getElem?_getD, List.getElem?_append_right (by rw [List.length_map, zLt]; omega)]
          simp [Nat.min_eq_left hi]
        have e0 := ownE_cell HO.out i 0 (by omega) (by omega)
        have e1 := ownE_cell HO.out i 1 (by omega) (by omega)
        have e2 := ownE_cell HO.out i 2 (by omega) (by omega)
        rw [hx] at e0 e1 e2
        have hbad := HBAD.out
        rw [hd] at hbad
        clear HBAD
        unfold graph_Make_bad at hbad
        generalize hxx : rd_T36 l0 (i : Int) = x at hbad e0 e1 e2 hx hd
        obtain ⟨q, hq, hbad⟩ := Option.bind_eq_some_iff.1 hbad
        have HQ := fun W => graph_alone.calls k n x.f0 x.f1 x.f2 q W hq
        simp only [encE, Nat.add_zero] at e0 e1 e2
        replace e0 : wr.cell? ⟨g, i * 3, none⟩ = some (.int .i64 x.f0) := e0
        replace e1 : wr.cell? ⟨g, i * 3 + 1, none⟩ = some (.int .i64 x.f1) := e1
        replace e2 : wr.cell? ⟨g, i * 3 + 2, none⟩ = some (.int .i64 x.f2) := e2
        clear hq
        by_cases hq0 : q = 0
        · rw [if_pos hq0] at hbad
          have qb : (q != 0) = false := bne_eq_false_iff_eq.mpr hq0
          have HBAD := zMk hbad
          clear hbad hq0
          have p1 : (0 ≤ (i : Int)) = True := eq_true (by omega)
          have p2 : ((i : Int) < (l0.length : Int)) = True := eq_true (by omega)
          have hgl : g < wr.heap.size := by obtain ⟨cur, h, _⟩ := HO.out; exact (Array.getElem?_eq_some_iff.1 h).1
          have hne : wr.heap.size ≠ g := by omega
          go_wp2_with (go_at_call 33; refine (HQ _).mono ?_; rintro e w9 ⟨rfl, hb⟩; go_loud (have BZ := zMk (zKb (zKa BK.out _) hb); have HB9 := zMk (zBt (zBa HB.out _) hb); have BX := zMk (zKb (heap_alloc_new wr _) hb); have HO9 := zMk (ownE_congr HO.out ((hb.block g (by show g < (wr.heap.push _).size; rw [Array.size_push]; omega)).trans (heap_alloc_old wr _ hgl))); clear hb))
          refine start_ (n := 20) (S := fun w' => w'.cell? ⟨wr.heap.size, 0, none⟩ = some (.int .i64 x.f0) ∧ w'.cell? ⟨wr.heap.size, 1, none⟩ = some (.int .i64 x.f1)) (ds := [19]) #[false, false, false, false, false, false, false, false, false, false, false, false, false, false, false, false, false, false, false, false] (by kernel_rfl) rfl rfl ⟨box_cell (c := 0) BX.out rfl, box_cell (c := 1) BX.out rfl⟩ (fun hHeld => ?_)
          replace BX := zMk (zKd BX.out)
          replace BZ := zMk (zKd BZ.out)
          replace HO9 := zMk (ownE_congr HO9.out (rfl : w9.drew.heap[g]? = w9.heap[g]?))
          replace HB9 := zMk (zBd HB9.out)
          generalize w9.drew = w10 at BX BZ HO9 HB9 hHeld ⊢
          have c0 := ownE_cell HO9.out i 0 (by omega) (by omega)
          have c1 := ownE_cell HO9.out i 1 (by omega) (by omega)
          rw [hx] at c0 c1
          replace c0 : w10.cell? ⟨g, i * 3, none⟩ = some (.int .i64 x.f0) := c0
          replace c1 : w10.cell? ⟨g, i * 3 + 1, none⟩ = some (.int .i64 x.f1) := c1
          have fz0 := ownE_frozen (c := i * 3) HO9.out
          have fz1 := ownE_frozen (c := i * 3 + 1) HO9.out
          refine pure_ (i := 0) (N := some 36) (v := ?_) (a' := ?_) #[true, false, false, false, false, false, false, false, false, false, false, false, false, false, false, false, false, false, false, false] rfl rfl (by kernel_rfl) (fun _ _ _ h => h) (Or.inl ⟨by rfl, ?_⟩) ?_ ?_
          rotate_left
          · intro w'
            go_simp
            with_reducible rfl
          rotate_left
          · simp only [Act.put, zSa, zSb, zSc, i64_w, i32_w]
            rfl
          refine pure_ (i := 1) (N := some 37) (v := ?_) (a' := ?_) #[true, true, false, false, false, false, false, false, false, false, false, false, false, false, false, false, false, false, false, false] rfl rfl (by kernel_rfl) (fun _ _ _ h => h) (Or.inl ⟨by rfl, ?_⟩) ?_ ?_
          rotate_left
          · intro w'
            go_simp
            with_reducible rfl
          rotate_left
          · simp only [Act.put, zSa, zSb, zSc, i64_w, i32_w]
            rfl
          refine pure_ (i := 2) (N := some 38) (v := ?_) (a' := ?_) #[true, true, true, false, false, false, false, false, false, false, false, false, false, false, false, false, false, false, false, false] rfl rfl (by kernel_rfl) (fun _ _ _ h => h) (Or.inl ⟨by rfl, ?_⟩) ?_ ?_
          rotate_left
          · intro w'
            go_simp
            with_reducible rfl
          rotate_left
          · simp only [Act.put, zSa, zSb, zSc, i64_w, i32_w]
            rfl
          refine pure_ (i := 3) (N := some 39) (v := ?_) (a' := ?_) #[true, true, true, true, false, false, false, false, false, false, false, false, false, false, false, false, false, false, false, false] rfl rfl (by kernel_rfl) (fun _ _ _ h => h) (Or.inl ⟨by rfl, ?_⟩) ?_ ?_
          rotate_left
          · intro w'
            go_simp
            with_reducible rfl
          rotate_left
          · simp only [Act.put, zSa, zSb, zSc, i64_w, i32_w]
            rfl
          refine pure_ (i := 4) (N := some 40) (v := ?_) (a' := ?_) #[true, true, true, true, true, false, false, false, false, false, false, false, false, false, false, false, false, false, false, false] rfl rfl (by kernel_rfl) (fun _ _ _ h => h) (Or.inl ⟨by rfl, ?_⟩) ?_ ?_
          rotate_left
          · intro w'
            go_simp
            with_reducible rfl
          rotate_left
          · simp only [Act.put, zSa, zSb, zSc, i64_w, i32_w]
            rfl
          refine pure_ (i := 6) (N := some 42) (v := ?_) (a' := ?_) #[true, true, true, true, true, false, true, false, false, false, false, false, false, false, false, false, false, false, false, false] rfl rfl (by kernel_rfl) (fun _ _ _ h => h) (Or.inl ⟨by rfl, ?_⟩) ?_ ?_
          rotate_left
          · intro w'
            go_simp
            with_reducible rfl
          rotate_left
          · simp only [Act.put, zSa, zSb, zSc, i64_w, i32_w]
            rfl
          refine pure_ (i := 9) (N := some 45) (v := ?_) (a' := ?_) #[true, true, true, true, true, false, true, false, false, true, false, false, false, false, false, false, false, false, false, false] rfl rfl (by kernel_rfl) (fun _ _ _ h => h) (Or.inl ⟨by rfl, ?_⟩) ?_ ?_
          rotate_left
          · intro w'
            go_simp
            with_reducible rfl
          rotate_left
          · simp only [Act.put, zSa, zSb, zSc, i64_w, i32_w]
            rfl
          refine pure_ (i := 11) (N := some 47) (v := ?_) (a' := ?_) #[true, true, true, true, true, false, true, false, false, true, false, true, false, false, false, false, false, false, false, false] rfl rfl (by kernel_rfl) (fun _ _ _ h => h) (Or.inl ⟨by rfl, ?_⟩) ?_ ?_
          rotate_left
          · intro w'
            go_simp
            with_reducible rfl
          rotate_left
          · simp only [Act.put, zSa, zSb, zSc, i64_w, i32_w]
            rfl
          refine take_ (i := 5) (N := some 41) (v := ?_) (a' := ?_) #[true, true, true, true, true, true, true, false, false, true, false, true, false, false, false, false, false, false, false, false] rfl rfl (by kernel_rfl) (fun _ _ _ h => h) (Or.inl ⟨by rfl, ?_⟩) hHeld ?_ ?_
          rotate_left
          · rintro w' ⟨s0, s1⟩
            go_simp
            with_reducible rfl
          rotate_left
          · simp only [Act.put, zSa, zSb, zSc, i64_w, i32_w]
            rfl
          refine take_ (i := 7) (N := some 43) (v := ?_) (a' := ?_) #[true, true, true, true, true, true, true, true, false, true, false, true, false, false, false, false, false, false, false, false] rfl rfl (by kernel_rfl) (fun _ _ _ h => h) (Or.inl ⟨by rfl, ?_⟩) hHeld ?_ ?_
          rotate_left
          · rintro w' ⟨s0, s1⟩
            go_simp
            with_reducible rfl
          rotate_left
          · simp only [Act.put, zSa, zSb, zSc, i64_w, i32_w]
            rfl
          refine pure_ (i := 8) (N := some 44) (v := ?_) (a' := ?_) #[true, true, true, true, true, true, true, true, true, true, false, true, false, false, false, false, false, false, false, false] rfl rfl (by kernel_rfl) (fun _ _ _ h => h) (Or.inl ⟨by rfl, ?_⟩) ?_ ?_
          rotate_left
          · intro w'
            go_simp
            with_reducible rfl
          rotate_left
          · simp only [Act.put, zSa, zSb, zSc, i64_w, i32_w]
            rfl
          refine pure_ (i := 14) (N := some 50) (v := ?_) (a' := ?_) #[true, true, true, true, true, true, true, true, true, true, false, true, false, false, true, false, false, false, false, false] rfl rfl (by kernel_rfl) (fun _ _ _ h => h) (Or.inl ⟨by rfl, ?_⟩) ?_ ?_
          rotate_left
          · intro w'
            go_simp
            with_reducible rfl
          rotate_left
          · simp only [Act.put, zSa, zSb, zSc, i64_w, i32_w]
            rfl
          refine pure_ (i := 15) (N := some 51) (v := ?_) (a' := ?_) #[true, true, true, true, true, true, true, true, true, true, false, true, false, false, true, true, false, false, false, false] rfl rfl (by kernel_rfl) (fun _ _ _ h => h) (Or.inl ⟨by rfl, ?_⟩) ?_ ?_
          rotate_left
          · intro w'
            go_simp
            with_reducible rfl
          rotate_left
          · simp only [Act.put, zSa, zSb, zSc, i64_w, i32_w]
            rfl
          refine take_ (i := 10) (N := some 46) (v := ?_) (a' := ?_) #[true, true, true, true, true, true, true, true, true, true, true, true, false, false, true, true, false, false, false, false] rfl rfl (by kernel_rfl) (fun _ _ _ h => h) (Or.inl ⟨by rfl, ?_⟩) hHeld ?_ ?_
          rotate_left
          · rintro w' ⟨s0, s1⟩
            go_simp
            with_reducible rfl
          rotate_left
          · simp only [Act.put, zSa, zSb, zSc, i64_w, i32_w]
            rfl
          refine take_ (i := 12) (N := some 48) (v := ?_) (a' := ?_) #[true, true, true, true, true, true, true, true, true, true, true, true, true, false, true, true, false, false, false, false] rfl rfl (by kernel_rfl) (fun _ _ _ h => h) (Or.inl ⟨by rfl, ?_⟩) hHeld ?_ ?_
          rotate_left
          · rintro w' ⟨s0, s1⟩
            go_simp
            with_reducible rfl
          rotate_left
          · simp only [Act.put, zSa, zSb, zSc, i64_w, i32_w]
            rfl
          refine pure_ (i := 13) (N := some 49) (v := ?_) (a' := ?_) #[true, true, true, true, true, true, true, true, true, true, true, true, true, true, true, true, false, false, false, false] rfl rfl (by kernel_rfl) (fun _ _ _ h => h) (Or.inl ⟨by rfl, ?_⟩) ?_ ?_
          rotate_left
          · intro w'
            go_simp
            with_reducible rfl
          rotate_left
          · simp only [Act.put, zSa, zSb, zSc, i64_w, i32_w]
            rfl
          refine one_ (i := 16) (N := none) #[true, true, true, true, true, true, true, true, true, true, true, true, true, true, true, true, true, false, false, false] rfl rfl (by kernel_rfl) (by decide) (fun K hK => ?_)
          refine skip_ (w1 := ?_) (by rfl) rfl ?_ ?_
          rotate_left
          · go_simp
            rfl
          refine hK.out _ _ ⟨box_cell (c := 0) ((Below.heap_setCell _ _ _ _ hne).trans BX.out) rfl, box_cell (c := 1) ((Below.heap_setCell _ _ _ _ hne).trans BX.out) rfl⟩ (fun hHeld => ?_)
          clear hK K
          refine pure_ (i := 17) (N := some 52) (v := ?_) (a' := ?_) #[true, true, true, true, true, true, true, true, true, true, true, true, true, true, true, true, true, true, false, false] rfl rfl (by kernel_rfl) (fun _ _ _ h => h) (Or.inl ⟨by rfl, ?_⟩) ?_ ?_
          rotate_left
          · intro w'
            go_simp
            with_reducible rfl
          rotate_left
          · simp only [Act.put, zSa, zSb, zSc, i64_w, i32_w]
            rfl
          refine pure_ (i := 18) (N := some 53) (v := ?_) (a' := ?_) #[true, true, true, true, true, true, true, true, true, true, true, true, true, true, true, true, true, true, true, false] rfl rfl (by kernel_rfl) (fun _ _ _ h => h) (Or.inl ⟨by rfl, ?_⟩) ?_ ?_
          rotate_left
          · intro w'
            go_simp
            with_reducible rfl
          rotate_left
          · simp only [Act.put, zSa, zSb, zSc, i64_w, i32_w]
            rfl
          refine last_ (i := 19) (N := none) #[true, true, true, true, true, true, true, true, true, true, true, true, true, true, true, true, true, true, true, true] rfl rfl (by kernel_rfl) (by decide) (fun K hK => ?_)
          refine skip_ (w1 := ?_) (by rfl) rfl ?_ ?_
          rotate_left
          · go_simp
            rfl
          refine hK.out _ _ ?_
          clear hK K
          refine done_ (by kernel_rfl) ?_
          have HS2 := ownE_set HO9.out i (by omega) (by omega) (if x.f1 < x.f0 then x.f1 else x.f0) (if x.f0 < x.f1 then x.f1 else x.f0)
          have hnr : xs.set i ⟨if x.f1 < x.f0 then x.f1 else x.f0, if x.f0 < x.f1 then x.f1 else x.f0, (rd_T36 xs (i : Int)).f2⟩ = (l0.take (i + 1)).map nrmE ++ l0.drop (i + 1) := by
            rw [hx, HX.out, ← set_step nrmE l0 i hlt, ← rd_get l0 i hlt, hxx]
            rfl
          rw [hnr] at HS2
          have HBW := below_set (j := i * 3 + 1) (v := .int .i64 (if x.f0 < x.f1 then x.f1 else x.f0)) (below_set (j := i * 3) (v := .int .i64 (if x.f1 < x.f0 then x.f1 else x.f0)) HB9.out (by omega : w.heap.size ≤ g)) (by omega : w.heap.size ≤ g)
          have hne2 : w.heap.size ≠ g := by omega
          have HZW : ((w10.setCell ⟨g, i * 3, none⟩ (.int .i64 (if x.f1 < x.f0 then x.f1 else x.f0))).setCell ⟨g, i * 3 + 1, none⟩ (.int .i64 (if x.f0 < x.f1 then x.f1 else x.f0))).heap[w.heap.size]? = _ := (Below.heap_setCell _ _ _ _ hne2).trans ((Below.heap_setCell _ _ _ _ hne2).trans BZ.out)
          generalize (if x.f1 < x.f0 then x.f1 else x.f0) = mnv at HS2 HBW HZW ⊢
          generalize (if x.f0 < x.f1 then x.f1 else x.f0) = mxv at HS2 HBW HZW ⊢
          replace HS2 := zMk HS2
          replace HBW := zMk HBW
          replace HZW := zMk HZW
          clear hnr hx HX
          try go_wp2
          go_roundg (l0.length - (i + 1))
          case measure => omega
          case rel => exact ⟨i + 1, _, by rw [show ((i + 1 : Nat) : Int) = (i : Int) + 1 by omega], by omega, Nat.le_refl _, zMk rfl, HS2, HBW, HZW, HBAD⟩
        · rw [if_neg hq0] at hbad
          have qb : (q != 0) = true := bne_iff_ne.mpr hq0
          obtain rfl := zOi hbad
          have hh := H2.out
          rw [if_neg hq0] at hh
          obtain ⟨rfl, rfl, rfl⟩ : (0 : Int) = r1 ∧ [] = r2 ∧ q = r3 := by simpa using hh
          clear hh hbad hq0 H2
          go_wp2_with (go_at_call 33; refine (HQ _).mono ?_; rintro e w9 ⟨rfl, hb⟩; have BZ := zKb (zKa BK.out _) hb; have HB9 := zMk (zBt (zBa HB.out _) hb); have hz0 := box_cell (c := 0) (v := .int .i64 0) BZ rfl; have hz1 := box_cell (c := 1) (v := .slice none 0 0) BZ rfl; have hzf0 := box_frozen (c := 0) BZ; have hzf1 := box_frozen (c := 1) BZ; have BZ := zMk BZ)
          refine bodyPost_ret (results_cellrow_tmp rfl _ _ w.heap.size 24 #[.int .i64 0, .slice none 0 0] (0, 0) _ rfl (by first | exact blk_setCell_same (blk_setCell_same BZ.out)) Try.underlying24 rfl (by kernel_rfl)) rfl ?_
          exact ⟨.slice none 0 0, rfl, HZ _, below_set (below_set HB9.out (Nat.le_refl _)) (Nat.le_refl _)⟩
      · obtain rfl : i = l0.length := by omega
        have hx : xs = l0.map nrmE := by rw [HX.out]; simp
        subst hx
        have hb0 := HBAD.out
        rw [List.drop_length] at hb0
        obtain rfl : (0 : Int) = b := by simpa [graph_Make_bad] using hb0
        have hfin := H2.out
        rw [if_pos rfl] at hfin
        have hlm : (l0.map nrmE).length = l0.length := List.length_map ..
        have hgl : g < wr.heap.size := by obtain ⟨cur, h, _⟩ := HO.out; exact (Array.getElem?_eq_some_iff.1 h).1
        have hRs := ownE_R (base := w.heap.size) (ok := fun k_ => k_ = g) HO.out rfl (by omega) (by omega) hmax
        rw [hlm] at hRs
        have HSO := api_Edge_39.calls (fun k_ => k_ = g) _ _ (sortE (l0.map nrmE)) w wr HB.out hRs (by unfold api_Edge_39.f; rw [if_pos (by omega)])
        have hls : (sortE (l0.map nrmE)).length = l0.length := by rw [sortE_length, hlm]
        generalize sortE (l0.map nrmE) = s at HSO hfin hls
        have HF := zMk hfin
        clear hfin hb0 HBAD H2 HX hRs HO
        go_wp2_with (go_at_call 39; refine HSO.mono ?_; rintro e w4 ⟨rfl, hR4, hB4, hK4⟩; have BZ := zMk ((hK4.2 w.heap.size (by omega) (by omega)).trans BK.out); have HB := zMk hB4; have HR4 := zMk hR4; clear hR4 hB4 hK4)
        have HO : ownE w4 g cap s := by
          rcases ownE_of_R HR4.out with ⟨h, _⟩ | ⟨g', cap', h, _, _, _, _, _, h5⟩
          · cases h
          · injection h with h6 h7 h8
            injection h6 with h6
            injection h6 with h6
            subst h6
            subst h8
            exact h5
        replace HO := zMk HO
        clear HR4 HSO BK
        go_loopg [59] l0.length (fun kx s59 ws => ∃ i : Nat, s59 = .int .i64 i ∧ i ≤ l0.length ∧ l0.length - i ≤ kx ∧ Aside0 (ownE ws g cap s) ∧ Aside0 (Below w.heap.size w ws) ∧ Aside0 (ws.heap[w.heap.size]? = some (.cells #[Value.int .i64 0, .slice none 0 0] 24 (0, 0))) ∧ Aside0 (dupE s = dupE (s.drop (i - 1))))
        case atStart => exact ⟨0, rfl, Nat.zero_le _, Nat.le_refl _, HO, HB, BZ, zMk rfl⟩
        clear HO HB BZ hlt

        obtain ⟨i, rfl, hi, hg3, HO, HB, BZ, HD⟩ := hrel
        by_cases hlt : i < l0.length
        · have p1 : ((i : Int) < (l0.length : Int)) = True := eq_true (by omega)
          by_cases hi0 : i = 0
          · have p6 : decide (0 < i) = false := decide_eq_false (by omega)
            have hii := zMk hi0
            clear hi0
            go_wp2
            refine start_ (n := 15) (S := fun w' => True) (ds := []) #[false, false, false, false, false, false, false, false, false, false, false, false, false, false, false] (by kernel_rfl) rfl rfl trivial (fun hHeld => ?_)
            have HB5 := zMk (zBd HB.out)
            have BZ5 := zMk (zKd BZ.out)
            have HO5 := zMk (ownE_congr HO.out (rfl : wr.drew.heap[g]? = wr.heap[g]?))
            generalize wr.drew = w5 at HB5 BZ5 HO5 hHeld ⊢
            refine pure_ (i := 0) (N := some 62) (v := ?_) (a' := ?_) #[true, false, false, false, false, false, false, false, false, false, false, false, false, false, false] rfl rfl (by kernel_rfl) (fun _ _ _ h => h) (Or.inl ⟨by rfl, ?_⟩) ?_ ?_
            rotate_left
            · intro w'
              go_simp
              with_reducible rfl
            rotate_left
            · simp only [Act.put, zSa, zSb, zSc, i64_w, i32_w]
              rfl
            refine pure_ (i := 1) (N := some 63) (v := ?_) (a' := ?_) #[true, true, false, false, false, false, false, false, false, false, false, false, false, false, false] rfl rfl (by kernel_rfl) (fun _ _ _ h => h) (Or.inl ⟨by rfl, ?_⟩) ?_ ?_
            rotate_left
            · intro w'
              go_simp
              with_reducible rfl
            rotate_left
            · simp only [Act.put, zSa, zSb, zSc, i64_w, i32_w]
              rfl
            refine pure_ (i := 2) (N := some 64) (v := ?_) (a' := ?_) #[true, true, true, false, false, false, false, false, false, false, false, false, false, false, false] rfl rfl (by kernel_rfl) (fun _ _ _ h => h) (Or.inl ⟨by rfl, ?_⟩) ?_ ?_
            rotate_left
            · intro w'
              go_simp
              with_reducible rfl
            rotate_left
            · simp only [Act.put, zSa, zSb, zSc, i64_w, i32_w]
              rfl
            refine pure_ (i := 3) (N := some 65) (v := undef) (a' := ?_) #[true, true, true, true, false, false, false, false, false, false, false, false, false, false, false] rfl rfl (by kernel_rfl) (fun _ _ _ h => h) (Or.inr ⟨by rfl, rfl⟩) ?_ ?_
            rotate_left
            · simp only [Act.put, zSa, zSb, zSc, i64_w, i32_w]
              rfl
            refine pure_ (i := 4) (N := some 66) (v := undef) (a' := ?_) #[true, true, true, true, true, false, false, false, false, false, false, false, false, false, false] rfl rfl (by kernel_rfl) (fun _ _ _ h => h) (Or.inr ⟨by rfl, rfl⟩) ?_ ?_
            rotate_left
            · simp only [Act.put, zSa, zSb, zSc, i64_w, i32_w]
              rfl
            refine pure_ (i := 5) (N := some 67) (v := undef) (a' := ?_) #[true, true, true, true, true, true, false, false, false, false, false, false, false, false, false] rfl rfl (by kernel_rfl) (fun _ _ _ h => h) (Or.inr ⟨by rfl, rfl⟩) ?_ ?_
            rotate_left
            · simp only [Act.put, zSa, zSb, zSc, i64_w, i32_w]
              rfl
            refine pure_ (i := 6) (N := some 68) (v := undef) (a' := ?_) #[true, true, true, true, true, true, true, false, false, false, false, false, false, false, false] rfl rfl (by kernel_rfl) (fun _ _ _ h => h) (Or.inr ⟨by rfl, rfl⟩) ?_ ?_
            rotate_left
            · simp only [Act.put, zSa, zSb, zSc, i64_w, i32_w]
              rfl
            refine pure_ (i := 7) (N := some 69) (v := undef) (a' := ?_) #[true, true, true, true, true, true, true, true, false, false, false, false, false, false, false] rfl rfl (by kernel_rfl) (fun _ _ _ h => h) (Or.inr ⟨by rfl, rfl⟩) ?_ ?_
            rotate_left
            · simp only [Act.put, zSa, zSb, zSc, i64_w, i32_w]
              rfl
            refine pure_ (i := 8) (N := some 70) (v := undef) (a' := ?_) #[true, true, true, true, true, true, true, true, true, false, false, false, false, false, false] rfl rfl (by kernel_rfl) (fun _ _ _ h => h) (Or.inr ⟨by rfl, rfl⟩) ?_ ?_
            rotate_left
            · simp only [Act.put, zSa, zSb, zSc, i64_w, i32_w]
              rfl
            refine pure_ (i := 9) (N := some 71) (v := undef) (a' := ?_) #[true, true, true, true, true, true, true, true, true, true, false, false, false, false, false] rfl rfl (by kernel_rfl) (fun _ _ _ h => h) (Or.inr ⟨by rfl, rfl⟩) ?_ ?_
            rotate_left
            · simp only [Act.put, zSa, zSb, zSc, i64_w, i32_w]
              rfl
            refine pure_ (i := 10) (N := some 72) (v := undef) (a' := ?_) #[true, true, true, true, true, true, true, true, true, true, true, false, false, false, false] rfl rfl (by kernel_rfl) (fun _ _ _ h => h) (Or.inr ⟨by rfl, rfl⟩) ?_ ?_
            rotate_left
            · simp only [Act.put, zSa, zSb, zSc, i64_w, i32_w]
              rfl
            refine pure_ (i := 11) (N := some 73) (v := undef) (a' := ?_) #[true, true, true, true, true, true, true, true, true, true, true, true, false, false, false] rfl rfl (by kernel_rfl) (fun _ _ _ h => h) (Or.inr ⟨by rfl, rfl⟩) ?_ ?_
            rotate_left
            · simp only [Act.put, zSa, zSb, zSc, i64_w, i32_w]
              rfl
            refine pure_ (i := 12) (N := some 74) (v := undef) (a' := ?_) #[true, true, true, true, true, true, true, true, true, true, true, true, true, false, false] rfl rfl (by kernel_rfl) (fun _ _ _ h => h) (Or.inr ⟨by rfl, rfl⟩) ?_ ?_
            rotate_left
            · simp only [Act.put, zSa, zSb, zSc, i64_w, i32_w]
              rfl
            refine pure_ (i := 13) (N := some 75) (v := undef) (a' := ?_) #[true, true, true, true, true, true, true, true, true, true, true, true, true, true, false] rfl rfl (by kernel_rfl) (fun _ _ _ h => h) (Or.inr ⟨by rfl, rfl⟩) ?_ ?_
            rotate_left
            · simp only [Act.put, zSa, zSb, zSc, i64_w, i32_w]
              rfl
            refine pure_ (i := 14) (N := some 76) (v := ?_) (a' := ?_) #[true, true, true, true, true, true, true, true, true, true, true, true, true, true, true] rfl rfl (by kernel_rfl) (fun _ _ _ h => h) (Or.inl ⟨by rfl, ?_⟩) ?_ ?_
            rotate_left
            · intro w'
              go_simp
              with_reducible rfl
            rotate_left
            · simp only [Act.put, zSa, zSb, zSc, i64_w, i32_w]
              rfl
            refine done_ (by kernel_rfl) ?_
            try go_wp2
            go_roundg (l0.length - (i + 1))
            case measure => omega
            case rel => exact ⟨i + 1, by rw [show ((i + 1 : Nat) : Int) = (i : Int) + 1 by omega], by omega, Nat.le_refl _, HO5, HB5, BZ5, zMk (by have h1 := HD.out; have h2 := hii.out; subst h2; exact h1)⟩
          · obtain ⟨j, rfl⟩ : ∃ j, i = j + 1 := ⟨i - 1, by omega⟩
            generalize hxa : rd_T36 s (j : Int) = x
            generalize hya : rd_T36 s ((j + 1 : Nat) : Int) = y
            have hdr : s.drop j = x :: s.drop (j + 1) := by
              rw [List.drop_eq_getElem_cons (by omega : j < s.length), ← rd_get s j (by omega), hxa]
            have hdr2 : s.drop (j + 1) = y :: s.drop (j + 1 + 1) := by
              rw [List.drop_eq_getElem_cons (by omega : j + 1 < s.length), ← rd_get s (j + 1) (by omega), hya]
            have hdd : dupE s = (decide (ordI x.f0 x.f1 y.f0 y.f1 = 0) || dupE (s.drop (j + 1))) := by
              rw [HD.out, Nat.add_sub_cancel, hdr, hdr2]
              rfl
            have p3 : (0 ≤ (j : Int) + 1) = True := eq_true (by omega)
            have p4 : ((j : Int) + 1 < (l0.length : Int)) = True := eq_true (by omega)
            have p5 : ((j : Int) < (l0.length : Int)) = True := eq_true (by omega)
            have p6 : (0 < (j : Int) + 1) = True := eq_true (by omega)
            have p7 : (0 ≤ (j : Int)) = True := eq_true (by omega)
            clear HD
            generalize hord : ordI x.f0 x.f1 y.f0 y.f1 = o at hdd
            by_cases ho : o = 0
            · have ob : (o == 0) = true := beq_iff_eq.mpr ho
              rw [decide_eq_true ho, Bool.true_or] at hdd
              have hf := HF.out
              rw [if_pos hdd] at hf
              obtain ⟨rfl, rfl, rfl⟩ : (0 : Int) = r1 ∧ [] = r2 ∧ (7 : Int) = r3 := by simpa using hf
              clear hf hdd ho
              have HORD := zMk hord
              go_wp2
              refine wp_region_still_tail 12 (by kernel_rfl) (by kernel_rfl) ?_
              have HB5 := zMk (zBd HB.out)
              have BZ5 := zMk (zKd BZ.out)
              have HO5 := zMk (ownE_congr HO.out (rfl : wr.drew.heap[g]? = wr.heap[g]?))
              generalize hw5 : wr.drew = w5 at HB5 BZ5 HO5
              show wpStill _ _ wr.drew (fun a' => wpList _ _ _ _ a' wr.drew) _ _
              rw [hw5]
              clear hw5
              have kc0 : w5.cell? ⟨g, j * 3, none⟩ = some (.int .i64 x.f0) := ((ownE_cell HO5.out j 0 (by omega) (by omega)).trans (by rw [hxa]; rfl))
              have kc1 : w5.cell? ⟨g, j * 3 + 1, none⟩ = some (.int .i64 x.f1) := ((ownE_cell HO5.out j 1 (by omega) (by omega)).trans (by rw [hxa]; rfl))
              have kc2 : w5.cell? ⟨g, j * 3 + 2, none⟩ = some (.int .i64 x.f2) := ((ownE_cell HO5.out j 2 (by omega) (by omega)).trans (by rw [hxa]; rfl))
              have kd0 : w5.cell? ⟨g, (j + 1) * 3, none⟩ = some (.int .i64 y.f0) := ((ownE_cell HO5.out (j + 1) 0 (by omega) (by omega)).trans (by rw [hya]; rfl))
              have kd1 : w5.cell? ⟨g, (j + 1) * 3 + 1, none⟩ = some (.int .i64 y.f1) := ((ownE_cell HO5.out (j + 1) 1 (by omega) (by omega)).trans (by rw [hya]; rfl))
              have kd2 : w5.cell? ⟨g, (j + 1) * 3 + 2, none⟩ = some (.int .i64 y.f2) := ((ownE_cell HO5.out (j + 1) 2 (by omega) (by omega)).trans (by rw [hya]; rfl))
              have hwj : IntKind.i64.wrap (j : Int) = (j : Int) := IntWalk.i64_in _ ⟨by omega, by omega⟩
              simp only [List.take_succ_cons, List.take_zero, List.drop_succ_cons, List.drop_zero]
              repeat still_step
              refine wpStill_nil ?_
              clear hwj
              go_wp2_with (go_at_call 34; refine (order_exact x.f0 x.f1 x.f2 y.f0 y.f1 y.f2 _).mono ?_; rintro e w6 ⟨he, nq, osq, rfl⟩; rw [HORD.out] at he; subst he; have HB6 := zMk (below_growN nq osq HB5.out HB5.out.size); have BZ6 := zMk (blk_growN nq osq BZ5.out); have HO6 := zMk (ownE_grow nq osq HO5.out); generalize Sort.grow (w5.drewN nq) osq = w6 at HB6 BZ6 HO6 ⊢; have hz0 := box_cell (c := 0) (v := .int .i64 0) BZ6.out rfl; have hz1 := box_cell (c := 1) (v := .slice none 0 0) BZ6.out rfl; have hzf0 := box_frozen (c := 0) BZ6.out; have hzf1 := box_frozen (c := 1) BZ6.out)
              refine bodyPost_ret (results_cellrow_tmp rfl _ _ w.heap.size 24 #[.int .i64 0, .slice none 0 0] (0, 0) _ rfl (by first | exact blk_setCell_same (blk_setCell_same BZ6.out)) Try.underlying24 rfl (by kernel_rfl)) rfl ?_
              exact ⟨.slice none 0 0, rfl, HZ _, below_set (below_set HB6.out (Nat.le_refl _)) (Nat.le_refl _)⟩
            · have ob : (o == 0) = false := beq_eq_false_iff_ne.mpr ho
              rw [decide_eq_false ho, Bool.false_or] at hdd
              have HDD := zMk hdd
              clear hdd ho
              go_wp2
              refine wp_region_still_tail 12 (by kernel_rfl) (by kernel_rfl) ?_
              have HB5 := zMk (zBd HB.out)
              have BZ5 := zMk (zKd BZ.out)
              have HO5 := zMk (ownE_congr HO.out (rfl : wr.drew.heap[g]? = wr.heap[g]?))
              generalize hw5 : wr.drew = w5 at HB5 BZ5 HO5
              show wpStill _ _ wr.drew (fun a' => wpList _ _ _ _ a' wr.drew) _ _
              rw [hw5]
              clear hw5
              have kc0 : w5.cell? ⟨g, j * 3, none⟩ = some (.int .i64 x.f0) := ((ownE_cell HO5.out j 0 (by omega) (by omega)).trans (by rw [hxa]; rfl))
              have kc1 : w5.cell? ⟨g, j * 3 + 1, none⟩ = some (.int .i64 x.f1) := ((ownE_cell HO5.out j 1 (by omega) (by omega)).trans (by rw [hxa]; rfl))
              have kc2 : w5.cell? ⟨g, j * 3 + 2, none⟩ = some (.int .i64 x.f2) := ((ownE_cell HO5.out j 2 (by omega) (by omega)).trans (by rw [hxa]; rfl))
              have kd0 : w5.cell? ⟨g, (j + 1) * 3, none⟩ = some (.int .i64 y.f0) := ((ownE_cell HO5.out (j + 1) 0 (by omega) (by omega)).trans (by rw [hya]; rfl))
              have kd1 : w5.cell? ⟨g, (j + 1) * 3 + 1, none⟩ = some (.int .i64 y.f1) := ((ownE_cell HO5.out (j + 1) 1 (by omega) (by omega)).trans (by rw [hya]; rfl))
              have kd2 : w5.cell? ⟨g, (j + 1) * 3 + 2, none⟩ = some (.int .i64 y.f2) := ((ownE_cell HO5.out (j + 1) 2 (by omega) (by omega)).trans (by rw [hya]; rfl))
              have hwj : IntKind.i64.wrap (j : Int) = (j : Int) := IntWalk.i64_in _ ⟨by omega, by omega⟩
              simp only [List.take_succ_cons, List.take_zero, List.drop_succ_cons, List.drop_zero]
              repeat still_step
              refine wpStill_nil ?_
              clear hwj
              go_wp2_with (go_at_call 34; refine (order_exact x.f0 x.f1 x.f2 y.f0 y.f1 y.f2 _).mono ?_; rintro e w6 ⟨he, nq, osq, rfl⟩; rw [hord] at he; subst he; have HB6 := zMk (below_growN nq osq HB5.out HB5.out.size); have BZ6 := zMk (blk_growN nq osq BZ5.out); have HO6 := zMk (ownE_grow nq osq HO5.out); generalize Sort.grow (w5.drewN nq) osq = w6 at HB6 BZ6 HO6 ⊢)
              try go_wp2
              go_roundg (l0.length - ((j + 1) + 1))
              case measure => omega
              case rel => exact ⟨(j + 1) + 1, by first | rfl | simp, by omega, Nat.le_refl _, HO6, HB6, BZ6, HDD⟩
        · obtain rfl : i = l0.length := by omega
          have hdd : dupE s = false := by
            rw [HD.out]
            have hle : (s.drop (l0.length - 1)).length ≤ 1 := by rw [zLd]; omega
            match h : s.drop (l0.length - 1), hle with
            | [], _ => rfl
            | [_], _ => rfl
            | _ :: _ :: _, h2 => simp at h2
          have hf := HF.out
          rw [if_neg (by rw [hdd]; decide)] at hf
          obtain ⟨rfl, rfl, rfl⟩ : n = r1 ∧ s = r2 ∧ (0 : Int) = r3 := by simpa using hf
          clear hf hdd HD HF
          have hz0 := box_cell (c := 0) (v := .int .i64 0) BZ.out rfl
          have hz1 := box_cell (c := 1) (v := .slice none 0 0) BZ.out rfl
          have hzf0 := box_frozen (c := 0) BZ.out
          have hzf1 := box_frozen (c := 1) BZ.out
          go_wp2
          have hlen : l0.length = s.length := hls.symm
          refine bodyPost_ret (results_cellrow_tmp rfl _ _ w.heap.size 24 #[.int .i64 n, .slice (some ⟨g, 0, none⟩) l0.length cap] (0, 0) _ rfl (blk_setCell_same (blk_setCell_same BZ.out)) Try.underlying24 rfl (by kernel_rfl)) rfl ?_
          refine ⟨_, rfl, ?_, below_set (below_set HB.out (Nat.le_refl _)) (Nat.le_refl _)⟩
          have hne : g ≠ w.heap.size := by omega
          rw [hlen]
          exact ownE_R (base := w.heap.size) (ok := fun _ => True) (ownE_congr HO.out ((Below.heap_setCell _ _ _ _ hne).trans (Below.heap_setCell _ _ _ _ hne))) trivial (by omega) (by omega) hmax
  · rw [if_neg hr] at h
    have rb : (r != 0) = true := bne_iff_ne.mpr hr
    obtain ⟨rfl, rfl, rfl⟩ : (0 : Int) = r1 ∧ [] = r2 ∧ r = r3 := by simpa using h
    clear h hr
    go_enter Try.func14, Try.ntmps14
    go_wp2_with (go_at_call 32; refine (HS _).mono ?_; rintro e w' ⟨rfl, nd, rfl⟩)
    refine bodyPost_ret (results_cellrow_tmp rfl _ _ w.heap.size 24 #[.int .i64 0, .slice none 0 0] (0, 0) _ rfl (by first | exact blk_setCell_same (blk_setCell_same (zKn (heap_alloc_new w _) nd))) Try.underlying24 rfl (by kernel_rfl)) rfl ?_
    exact ⟨.slice none 0 0, rfl, HZ _, below_set (below_set (zBn (zBa (Below.refl _ _) _) nd) (Nat.le_refl _)) (Nat.le_refl _)⟩


/-! ### api_Edge_45: function 45 -/
def bsL (l : List S36) (u v : Int) : Nat → Int → Int → Option Int
  | 0, _, _ => none
  | k + 1, i, j => if i < j then (if ordI (rd_T36 l ((i + j) / 2)).f0 (rd_T36 l ((i + j) / 2)).f1 u v < 0 then bsL l u v k ((i + j) / 2 + 1) j else bsL l u v k i ((i + j) / 2)) else some i
def api_Edge_45.f (l : List S36) (tu tv tw : Int) : Option (Int × Bool) := if l.length < 4611686018427387904 then (bsL l tu tv (l.length + 1) 0 l.length).bind fun i => if i < l.length then some (i, decide (ordI (rd_T36 l i).f0 (rd_T36 l i).f1 tu tv = 0)) else some (i, false) else none
set_option maxHeartbeats 4000000 in
set_option maxRecDepth 100000 in
theorem api_Edge_45.calls (A0 : Option Addr) (c0 : Nat) (l0 : List S36) (a1_0 a1_1 a1_2 : Int) (r1 : Int) (r2 : Bool) (w : World) (hr0 : Kd.C k36 w A0 l0.length l0) (hc0 : l0.length ≤ c0) (h : api_Edge_45.f l0 a1_0 a1_1 a1_2 = some (r1, r2)) :
    Calls Try.prog 45 #[.slice A0 l0.length c0, .agg #[.int .i64 a1_0, .int .i64 a1_1, .int .i64 a1_2], .func (.func 34) #[] #[]] w fun e w' => e = .returned (.tuple #[.int .i64 r1, .bool r2]) ∧ Below w.heap.size w w' := by
  have HR := zMk hr0
  unfold api_Edge_45.f at h
  by_cases hl : l0.length < 4611686018427387904
  · rw [if_pos hl] at h
    obtain ⟨i, h1, h2⟩ := Option.bind_eq_some_iff.1 h
    have H1 := zMk h1
    have H2 := zMk h2
    clear hr0 hc0 h h1 h2
    have mixed : Try.prog.follows .mixedOrders = true := by kernel_rfl
    go_enter Try.func45, Try.ntmps45
    go_wp2_with (fail)
    go_loopg [9, 10] l0.length (fun kx s9 s10 wr => ∃ lo hi : Nat, s9 = .int .i64 lo ∧ s10 = .int .i64 hi ∧ lo ≤ hi ∧ hi ≤ l0.length ∧ hi - lo ≤ kx ∧ Aside0 (Below w.heap.size w wr) ∧ Aside0 (wr.heap[w.heap.size]? = some (.cells #[.int .i64 a1_0, .int .i64 a1_1, .int .i64 a1_2] 36 (0, 0))) ∧ Aside0 (∃ k, bsL l0 a1_0 a1_1 k lo hi = some i))
    case atStart =>
      exact ⟨0, l0.length, rfl, rfl, Nat.zero_le _, Nat.le_refl _, by omega, zMk (zBa (Below.refl _ _) _), zMk (by show (w.heap.push _)[w.heap.size]? = _; simp), zMk ⟨_, H1.out⟩⟩
    case round =>
      clear H1
      obtain ⟨lo, hi, rfl, rfl, hlh, hin, hg, HB, BK, HI⟩ := hrel
      obtain ⟨k, hk⟩ := HI.out
      clear HI
      cases k with
      | zero => simp [bsL] at hk
      | succ k =>
      unfold bsL at hk
      by_cases hlt : lo < hi
      · rw [if_pos (by omega : (lo : Int) < hi)] at hk
        obtain ⟨ad, rfl, e0, e1, e2⟩ := at_T36 HR.out (((lo : Int) + hi) / 2) (by omega) (by omega)
        generalize rd_T36 l0 (((lo : Int) + hi) / 2) = x at hk e0 e1 e2
        have p1 : (0 ≤ ((lo : Int) + hi) / 2) = True := eq_true (by omega)
        have p2 : (((lo : Int) + hi) / 2 < (l0.length : Int)) = True := eq_true (by omega)
        have hc := fun W => order_exact x.f0 x.f1 x.f2 a1_0 a1_1 a1_2 W
        generalize ordI x.f0 x.f1 a1_0 a1_1 = o at hk hc
        by_cases ho : o < 0
        · rw [if_pos ho] at hk
          have HK := zMk hk
          clear hk
          go_wp2
          refine start_ (n := 8) (S := fun w' => w'.cell? ⟨w.heap.size, 0, none⟩ = some (.int .i64 a1_0) ∧ w'.cell? ⟨w.heap.size, 1, none⟩ = some (.int .i64 a1_1) ∧ w'.cell? ⟨w.heap.size, 2, none⟩ = some (.int .i64 a1_2) ∧ w'.cell? (ad.add ((((lo : Int) + hi) / 2).toNat * 3)) = some (.int .i64 x.f0) ∧ w'.cell? ⟨(ad.add ((((lo : Int) + hi) / 2).toNat * 3)).block, (ad.add ((((lo : Int) + hi) / 2).toNat * 3)).off + 1, none⟩ = some (.int .i64 x.f1) ∧ w'.cell? ⟨(ad.add ((((lo : Int) + hi) / 2).toNat * 3)).block, (ad.add ((((lo : Int) + hi) / 2).toNat * 3)).off + 2, none⟩ = some (.int .i64 x.f2)) (ds := []) #[false, false, false, false, false, false, false, false] (by kernel_rfl) rfl rfl (by exact ⟨(zKc BK.out 0).trans rfl, (zKc BK.out 1).trans rfl, (zKc BK.out 2).trans rfl, (HB.out.cell (World.block_lt_of_cell? w _ e0)).trans e0, (HB.out.cell (World.block_lt_of_cell? w _ e1)).trans e1, (HB.out.cell (World.block_lt_of_cell? w _ e2)).trans e2⟩) (fun hHeld => ?_)
          have HB1 := zMk (zBd HB.out)
          have BK1 := zMk (zKd BK.out)
          generalize wr.drew = w1 at hHeld HB1 BK1 ⊢
          refine pure_ (i := 0) (N := some 24) (v := ?_) (a' := ?_) #[true, false, false, false, false, false, false, false] rfl rfl (by kernel_rfl) (fun _ _ _ h => h) (Or.inl ⟨by rfl, ?_⟩) ?_ ?_
          rotate_left
          · intro w'
            go_simp
            with_reducible rfl
          rotate_left
          · simp only [Act.put, zSa, zSb, zSc, i64_w, i32_w]
            rfl
          refine pure_ (i := 1) (N := some 25) (v := ?_) (a' := ?_) #[true, true, false, false, false, false, false, false] rfl rfl (by kernel_rfl) (fun _ _ _ h => h) (Or.inl ⟨by rfl, ?_⟩) ?_ ?_
          rotate_left
          · intro w'
            go_simp
            with_reducible rfl
          rotate_left
          · simp only [Act.put, zSa, zSb, zSc, i64_w, i32_w]
            rfl
          refine pure_ (i := 2) (N := some 26) (v := ?_) (a' := ?_) #[true, true, true, false, false, false, false, false] rfl rfl (by kernel_rfl) (fun _ _ _ h => h) (Or.inl ⟨by rfl, ?_⟩) ?_ ?_
          rotate_left
          · intro w'
            go_simp
            with_reducible rfl
          rotate_left
          · simp only [Act.put, zSa, zSb, zSc, i64_w, i32_w]
            rfl
          refine pure_ (i := 3) (N := some 27) (v := ?_) (a' := ?_) #[true, true, true, true, false, false, false, false] rfl rfl (by kernel_rfl) (fun _ _ _ h => h) (Or.inl ⟨by rfl, ?_⟩) ?_ ?_
          rotate_left
          · intro w'
            go_simp
            with_reducible rfl
          rotate_left
          · simp only [Act.put, zSa, zSb, zSc, i64_w, i32_w]
            rfl
          refine take_ (i := 4) (N := some 28) (v := ?_) (a' := ?_) #[true, true, true, true, true, false, false, false] rfl rfl (by kernel_rfl) (fun _ _ _ h => h) (Or.inl ⟨by rfl, ?_⟩) hHeld ?_ ?_
          rotate_left
          · rintro w' ⟨s0, s1, s2, s3, s4, s5⟩
            go_simp
            with_reducible rfl
          rotate_left
          · simp only [Act.put, zSa, zSb, zSc, i64_w, i32_w]
            rfl
          refine take_ (i := 5) (N := some 29) (v := ?_) (a' := ?_) #[true, true, true, true, true, true, false, false] rfl rfl (by kernel_rfl) (fun _ _ _ h => h) (Or.inl ⟨by rfl, ?_⟩) hHeld ?_ ?_
          rotate_left
          · rintro w' ⟨s0, s1, s2, s3, s4, s5⟩
            go_simp
            with_reducible rfl
          rotate_left
          · simp only [Act.put, zSa, zSb, zSc, i64_w, i32_w]
            rfl
          refine one_ (i := 6) (N := some 30) #[true, true, true, true, true, true, true, false] rfl rfl (by kernel_rfl) (by decide) (fun K hK => ?_)
          refine goesT_ Try.func34 (by kernel_rfl) rfl #[.agg #[.int .i64 x.f0, .int .i64 x.f1, .int .i64 x.f2], .agg #[.int .i64 a1_0, .int .i64 a1_1, .int .i64 a1_2]] (by rfl) rfl rfl (by rfl) (by (try simp only [zMa, zMc, zMn]); rfl) ?_
          refine (hc w1).mono ?_
          rintro e w' ⟨rfl, nq, osq, rfl⟩
          refine ⟨_, rfl, ?_⟩
          have HB2 := zMk (below_growN nq osq HB1.out HB1.out.size)
          have BK2 := zMk (blk_growN nq osq BK1.out)
          generalize Sort.grow (w1.drewN nq) osq = w2 at HB2 BK2 ⊢
          refine hK.out _ _ ⟨(zKc BK2.out 0).trans rfl, (zKc BK2.out 1).trans rfl, (zKc BK2.out 2).trans rfl, (HB2.out.cell (World.block_lt_of_cell? w _ e0)).trans e0, (HB2.out.cell (World.block_lt_of_cell? w _ e1)).trans e1, (HB2.out.cell (World.block_lt_of_cell? w _ e2)).trans e2⟩ (fun hHeld => ?_)
          clear hK K
          refine norm_ (a' := ?_) ?_ ?_
          rotate_left
          · show Act.put _ (some 30) _ = _
            simp only [Act.put, zSa, zSb, zSc, i64_w, i32_w]
            rfl
          refine pure_ (i := 7) (N := some 31) (v := ?_) (a' := ?_) #[true, true, true, true, true, true, true, true] rfl rfl (by kernel_rfl) (fun _ _ _ h => h) (Or.inl ⟨by rfl, ?_⟩) ?_ ?_
          rotate_left
          · intro w'
            go_simp
            with_reducible rfl
          rotate_left
          · simp only [Act.put, zSa, zSb, zSc, i64_w, i32_w]
            rfl
          refine done_ (by kernel_rfl) ?_
          try go_wp2
          go_roundg (hi - ((lo + hi) / 2 + 1))
          case measure => omega
          case rel => exact ⟨(lo + hi) / 2 + 1, hi, by rw [show ((lo : Int) + (hi : Int)) / 2 + 1 = (((lo + hi) / 2 + 1 : Nat) : Int) by omega], rfl, by omega, hin, Nat.le_refl _, HB2, BK2, zMk ⟨k, by rw [show (((lo + hi) / 2 + 1 : Nat) : Int) = ((lo : Int) + hi) / 2 + 1 by omega]; exact HK.out⟩⟩
        · rw [if_neg ho] at hk
          have HK := zMk hk
          clear hk
          go_wp2
          refine start_ (n := 8) (S := fun w' => w'.cell? ⟨w.heap.size, 0, none⟩ = some (.int .i64 a1_0) ∧ w'.cell? ⟨w.heap.size, 1, none⟩ = some (.int .i64 a1_1) ∧ w'.cell? ⟨w.heap.size, 2, none⟩ = some (.int .i64 a1_2) ∧ w'.cell? (ad.add ((((lo : Int) + hi) / 2).toNat * 3)) = some (.int .i64 x.f0) ∧ w'.cell? ⟨(ad.add ((((lo : Int) + hi) / 2).toNat * 3)).block, (ad.add ((((lo : Int) + hi) / 2).toNat * 3)).off + 1, none⟩ = some (.int .i64 x.f1) ∧ w'.cell? ⟨(ad.add ((((lo : Int) + hi) / 2).toNat * 3)).block, (ad.add ((((lo : Int) + hi) / 2).toNat * 3)).off + 2, none⟩ = some (.int .i64 x.f2)) (ds := []) #[false, false, false, false, false, false, false, false] (by kernel_rfl) rfl rfl (by exact ⟨(zKc BK.out 0).trans rfl, (zKc BK.out 1).trans rfl, (zKc BK.out 2).trans rfl, (HB.out.cell (World.block_lt_of_cell? w _ e0)).trans e0, (HB.out.cell (World.block_lt_of_cell? w _ e1)).trans e1, (HB.out.cell (World.block_lt_of_cell? w _ e2)).trans e2⟩) (fun hHeld => ?_)
          have HB1 := zMk (zBd HB.out)
          have BK1 := zMk (zKd BK.out)
          generalize wr.drew = w1 at hHeld HB1 BK1 ⊢
          refine pure_ (i := 0) (N := some 24) (v := ?_) (a' := ?_) #[true, false, false, false, false, false, false, false] rfl rfl (by kernel_rfl) (fun _ _ _ h => h) (Or.inl ⟨by rfl, ?_⟩) ?_ ?_
          rotate_left
          · intro w'
            go_simp
            with_reducible rfl
          rotate_left
          · simp only [Act.put, zSa, zSb, zSc, i64_w, i32_w]
            rfl
          refine pure_ (i := 1) (N := some 25) (v := ?_) (a' := ?_) #[true, true, false, false, false, false, false, false] rfl rfl (by kernel_rfl) (fun _ _ _ h => h) (Or.inl ⟨by rfl, ?_⟩) ?_ ?_
          rotate_left
          · intro w'
            go_simp
            with_reducible rfl
          rotate_left
          · simp only [Act.put, zSa, zSb, zSc, i64_w, i32_w]
            rfl
          refine pure_ (i := 2) (N := some 26) (v := ?_) (a' := ?_) #[true, true, true, false, false, false, false, false] rfl rfl (by kernel_rfl) (fun _ _ _ h => h) (Or.inl ⟨by rfl, ?_⟩) ?_ ?_
          rotate_left
          · intro w'
            go_simp
            with_reducible rfl
          rotate_left
          · simp only [Act.put, zSa, zSb, zSc, i64_w, i32_w]
            rfl
          refine pure_ (i := 3) (N := some 27) (v := ?_) (a' := ?_) #[true, true, true, true, false, false, false, false] rfl rfl (by kernel_rfl) (fun _ _ _ h => h) (Or.inl ⟨by rfl, ?_⟩) ?_ ?_
          rotate_left
          · intro w'
            go_simp
            with_reducible rfl
          rotate_left
          · simp only [Act.put, zSa, zSb, zSc, i64_w, i32_w]
            rfl
          refine take_ (i := 4) (N := some 28) (v := ?_) (a' := ?_) #[true, true, true, true, true, false, false, false] rfl rfl (by kernel_rfl) (fun _ _ _ h => h) (Or.inl ⟨by rfl, ?_⟩) hHeld ?_ ?_
          rotate_left
          · rintro w' ⟨s0, s1, s2, s3, s4, s5⟩
            go_simp
            with_reducible rfl
          rotate_left
          · simp only [Act.put, zSa, zSb, zSc, i64_w, i32_w]
            rfl
          refine take_ (i := 5) (N := some 29) (v := ?_) (a' := ?_) #[true, true, true, true, true, true, false, false] rfl rfl (by kernel_rfl) (fun _ _ _ h => h) (Or.inl ⟨by rfl, ?_⟩) hHeld ?_ ?_
          rotate_left
          · rintro w' ⟨s0, s1, s2, s3, s4, s5⟩
            go_simp
            with_reducible rfl
          rotate_left
          · simp only [Act.put, zSa, zSb, zSc, i64_w, i32_w]
            rfl
          refine one_ (i := 6) (N := some 30) #[true, true, true, true, true, true, true, false] rfl rfl (by kernel_rfl) (by decide) (fun K hK => ?_)
          refine goesT_ Try.func34 (by kernel_rfl) rfl #[.agg #[.int .i64 x.f0, .int .i64 x.f1, .int .i64 x.f2], .agg #[.int .i64 a1_0, .int .i64 a1_1, .int .i64 a1_2]] (by rfl) rfl rfl (by rfl) (by (try simp only [zMa, zMc, zMn]); rfl) ?_
          refine (hc w1).mono ?_
          rintro e w' ⟨rfl, nq, osq, rfl⟩
          refine ⟨_, rfl, ?_⟩
          have HB2 := zMk (below_growN nq osq HB1.out HB1.out.size)
          have BK2 := zMk (blk_growN nq osq BK1.out)
          generalize Sort.grow (w1.drewN nq) osq = w2 at HB2 BK2 ⊢
          refine hK.out _ _ ⟨(zKc BK2.out 0).trans rfl, (zKc BK2.out 1).trans rfl, (zKc BK2.out 2).trans rfl, (HB2.out.cell (World.block_lt_of_cell? w _ e0)).trans e0, (HB2.out.cell (World.block_lt_of_cell? w _ e1)).trans e1, (HB2.out.cell (World.block_lt_of_cell? w _ e2)).trans e2⟩ (fun hHeld => ?_)
          clear hK K
          refine norm_ (a' := ?_) ?_ ?_
          rotate_left
          · show Act.put _ (some 30) _ = _
            simp only [Act.put, zSa, zSb, zSc, i64_w, i32_w]
            rfl
          refine pure_ (i := 7) (N := some 31) (v := ?_) (a' := ?_) #[true, true, true, true, true, true, true, true] rfl rfl (by kernel_rfl) (fun _ _ _ h => h) (Or.inl ⟨by rfl, ?_⟩) ?_ ?_
          rotate_left
          · intro w'
            go_simp
            with_reducible rfl
          rotate_left
          · simp only [Act.put, zSa, zSb, zSc, i64_w, i32_w]
            rfl
          refine done_ (by kernel_rfl) ?_
          try go_wp2
          go_roundg ((lo + hi) / 2 - lo)
          case measure => omega
          case rel => exact ⟨lo, (lo + hi) / 2, rfl, by rw [show ((lo : Int) + (hi : Int)) / 2 = (((lo + hi) / 2 : Nat) : Int) by omega], by omega, by omega, Nat.le_refl _, HB2, BK2, zMk ⟨k, by rw [show (((lo + hi) / 2 : Nat) : Int) = ((lo : Int) + hi) / 2 by omega]; exact HK.out⟩⟩
      · rw [if_neg (by omega : ¬ ((lo : Int) < hi))] at hk
        obtain rfl : hi = lo := by omega
        obtain rfl := zOi hk
        clear hk
        have HN := H2.out
        clear H2
        by_cases hn : hi < l0.length
        · rw [if_pos (by omega : ((hi : Int) < (l0.length : Int)))] at HN
          obtain ⟨ad, rfl, e0, e1, e2⟩ := at_T36 HR.out (hi : Int) (by omega) (by omega)
          simp only [zTn] at e0 e1 e2
          generalize rd_T36 l0 (hi : Int) = x at HN e0 e1 e2
          have p1 : (0 ≤ (hi : Int)) = True := eq_true (by omega)
          have p2 : ((hi : Int) < (l0.length : Int)) = True := eq_true (by omega)
          have hc := fun W => order_exact x.f0 x.f1 x.f2 a1_0 a1_1 a1_2 W
          generalize ordI x.f0 x.f1 a1_0 a1_1 = o at HN hc
          by_cases ho : o = 0
          · rw [decide_eq_true ho] at HN
            have ob : (o == 0) = true := beq_iff_eq.mpr ho
            clear ho
            obtain ⟨rfl, rfl⟩ : (hi : Int) = r1 ∧ true = r2 := by simpa using HN
            clear HN
            go_wp2
            refine start_ (n := 16) (S := fun w' => w'.cell? ⟨w.heap.size, 0, none⟩ = some (.int .i64 a1_0) ∧ w'.cell? ⟨w.heap.size, 1, none⟩ = some (.int .i64 a1_1) ∧ w'.cell? ⟨w.heap.size, 2, none⟩ = some (.int .i64 a1_2) ∧ w'.cell? (ad.add (hi * 3)) = some (.int .i64 x.f0) ∧ w'.cell? ⟨(ad.add (hi * 3)).block, (ad.add (hi * 3)).off + 1, none⟩ = some (.int .i64 x.f1) ∧ w'.cell? ⟨(ad.add (hi * 3)).block, (ad.add (hi * 3)).off + 2, none⟩ = some (.int .i64 x.f2)) (ds := []) #[false, false, false, false, false, false, false, false, false, false, false, false, false, false, false, false] (by kernel_rfl) rfl rfl (by exact ⟨(zKc BK.out 0).trans rfl, (zKc BK.out 1).trans rfl, (zKc BK.out 2).trans rfl, (HB.out.cell (World.block_lt_of_cell? w _ e0)).trans e0, (HB.out.cell (World.block_lt_of_cell? w _ e1)).trans e1, (HB.out.cell (World.block_lt_of_cell? w _ e2)).trans e2⟩) (fun hHeld => ?_)
            have HB1 := zMk (zBd HB.out)
            have BK1 := zMk (zKd BK.out)
            generalize wr.drew = w1 at hHeld HB1 BK1 ⊢
            refine pure_ (i := 0) (N := some 35) (v := ?_) (a' := ?_) #[true, false, false, false, false, false, false, false, false, false, false, false, false, false, false, false] rfl rfl (by kernel_rfl) (fun _ _ _ h => h) (Or.inl ⟨by rfl, ?_⟩) ?_ ?_
            rotate_left
            · intro w'
              go_simp
              with_reducible rfl
            rotate_left
            · simp only [Act.put, zSa, zSb, zSc, i64_w, i32_w]
              rfl
            refine pure_ (i := 1) (N := some 36) (v := ?_) (a' := ?_) #[true, true, false, false, false, false, false, false, false, false, false, false, false, false, false, false] rfl rfl (by kernel_rfl) (fun _ _ _ h => h) (Or.inl ⟨by rfl, ?_⟩) ?_ ?_
            rotate_left
            · intro w'
              go_simp
              with_reducible rfl
            rotate_left
            · simp only [Act.put, zSa, zSb, zSc, i64_w, i32_w]
              rfl
            refine pure_ (i := 2) (N := some 37) (v := ?_) (a' := ?_) #[true, true, true, false, false, false, false, false, false, false, false, false, false, false, false, false] rfl rfl (by kernel_rfl) (fun _ _ _ h => h) (Or.inl ⟨by rfl, ?_⟩) ?_ ?_
            rotate_left
            · intro w'
              go_simp
              with_reducible rfl
            rotate_left
            · simp only [Act.put, zSa, zSb, zSc, i64_w, i32_w]
              rfl
            refine pure_ (i := 3) (N := some 38) (v := ?_) (a' := ?_) #[true, true, true, true, false, false, false, false, false, false, false, false, false, false, false, false] rfl rfl (by kernel_rfl) (fun _ _ _ h => h) (Or.inl ⟨by rfl, ?_⟩) ?_ ?_
            rotate_left
            · intro w'
              go_simp
              with_reducible rfl
            rotate_left
            · simp only [Act.put, zSa, zSb, zSc, i64_w, i32_w]
              rfl
            refine pure_ (i := 4) (N := some 39) (v := ?_) (a' := ?_) #[true, true, true, true, true, false, false, false, false, false, false, false, false, false, false, false] rfl rfl (by kernel_rfl) (fun _ _ _ h => h) (Or.inl ⟨by rfl, ?_⟩) ?_ ?_
            rotate_left
            · intro w'
              go_simp
              with_reducible rfl
            rotate_left
            · simp only [Act.put, zSa, zSb, zSc, i64_w, i32_w]
              rfl
            refine pure_ (i := 5) (N := some 40) (v := ?_) (a' := ?_) #[true, true, true, true, true, true, false, false, false, false, false, false, false, false, false, false] rfl rfl (by kernel_rfl) (fun _ _ _ h => h) (Or.inl ⟨by rfl, ?_⟩) ?_ ?_
            rotate_left
            · intro w'
              go_simp
              with_reducible rfl
            rotate_left
            · simp only [Act.put, zSa, zSb, zSc, i64_w, i32_w]
              rfl
            refine pure_ (i := 6) (N := some 41) (v := ?_) (a' := ?_) #[true, true, true, true, true, true, true, false, false, false, false, false, false, false, false, false] rfl rfl (by kernel_rfl) (fun _ _ _ h => h) (Or.inl ⟨by rfl, ?_⟩) ?_ ?_
            rotate_left
            · intro w'
              go_simp
              with_reducible rfl
            rotate_left
            · simp only [Act.put, zSa, zSb, zSc, i64_w, i32_w]
              rfl
            refine pure_ (i := 7) (N := some 42) (v := ?_) (a' := ?_) #[true, true, true, true, true, true, true, true, false, false, false, false, false, false, false, false] rfl rfl (by kernel_rfl) (fun _ _ _ h => h) (Or.inl ⟨by rfl, ?_⟩) ?_ ?_
            rotate_left
            · intro w'
              go_simp
              with_reducible rfl
            rotate_left
            · simp only [Act.put, zSa, zSb, zSc, i64_w, i32_w]
              rfl
            refine pure_ (i := 8) (N := some 43) (v := ?_) (a' := ?_) #[true, true, true, true, true, true, true, true, true, false, false, false, false, false, false, false] rfl rfl (by kernel_rfl) (fun _ _ _ h => h) (Or.inl ⟨by rfl, ?_⟩) ?_ ?_
            rotate_left
            · intro w'
              go_simp
              with_reducible rfl
            rotate_left
            · simp only [Act.put, zSa, zSb, zSc, i64_w, i32_w]
              rfl
            refine take_ (i := 9) (N := some 44) (v := ?_) (a' := ?_) #[true, true, true, true, true, true, true, true, true, true, false, false, false, false, false, false] rfl rfl (by kernel_rfl) (fun _ _ _ h => h) (Or.inl ⟨by rfl, ?_⟩) hHeld ?_ ?_
            rotate_left
            · rintro w' ⟨s0, s1, s2, s3, s4, s5⟩
              go_simp
              with_reducible rfl
            rotate_left
            · simp only [Act.put, zSa, zSb, zSc, i64_w, i32_w]
              rfl
            refine take_ (i := 10) (N := some 45) (v := ?_) (a' := ?_) #[true, true, true, true, true, true, true, true, true, true, true, false, false, false, false, false] rfl rfl (by kernel_rfl) (fun _ _ _ h => h) (Or.inl ⟨by rfl, ?_⟩) hHeld ?_ ?_
            rotate_left
            · rintro w' ⟨s0, s1, s2, s3, s4, s5⟩
              go_simp
              with_reducible rfl
            rotate_left
            · simp only [Act.put, zSa, zSb, zSc, i64_w, i32_w]
              rfl
            refine one_ (i := 11) (N := some 46) #[true, true, true, true, true, true, true, true, true, true, true, true, false, false, false, false] rfl rfl (by kernel_rfl) (by decide) (fun K hK => ?_)
            refine goesT_ Try.func34 (by kernel_rfl) rfl #[.agg #[.int .i64 x.f0, .int .i64 x.f1, .int .i64 x.f2], .agg #[.int .i64 a1_0, .int .i64 a1_1, .int .i64 a1_2]] (by rfl) rfl rfl (by rfl) (by (try simp only [zMa, zMc, zMn]); rfl) ?_
            refine (hc w1).mono ?_
            rintro e w' ⟨rfl, nq, osq, rfl⟩
            refine ⟨_, rfl, ?_⟩
            have HB2 := zMk (below_growN nq osq HB1.out HB1.out.size)
            have BK2 := zMk (blk_growN nq osq BK1.out)
            generalize Sort.grow (w1.drewN nq) osq = w2 at HB2 BK2 ⊢
            refine hK.out _ _ ⟨(zKc BK2.out 0).trans rfl, (zKc BK2.out 1).trans rfl, (zKc BK2.out 2).trans rfl, (HB2.out.cell (World.block_lt_of_cell? w _ e0)).trans e0, (HB2.out.cell (World.block_lt_of_cell? w _ e1)).trans e1, (HB2.out.cell (World.block_lt_of_cell? w _ e2)).trans e2⟩ (fun hHeld => ?_)
            clear hK K
            refine norm_ (a' := ?_) ?_ ?_
            rotate_left
            · show Act.put _ (some 46) _ = _
              simp only [Act.put, zSa, zSb, zSc, i64_w, i32_w]
              rfl
            refine pure_ (i := 12) (N := some 47) (v := ?_) (a' := ?_) #[true, true, true, true, true, true, true, true, true, true, true, true, true, false, false, false] rfl rfl (by kernel_rfl) (fun _ _ _ h => h) (Or.inl ⟨by rfl, ?_⟩) ?_ ?_
            rotate_left
            · intro w'
              go_simp
              with_reducible rfl
            rotate_left
            · simp only [Act.put, zSa, zSb, zSc, i64_w, i32_w]
              rfl
            refine pure_ (i := 13) (N := some 48) (v := ?_) (a' := ?_) #[true, true, true, true, true, true, true, true, true, true, true, true, true, true, false, false] rfl rfl (by kernel_rfl) (fun _ _ _ h => h) (Or.inl ⟨by rfl, ?_⟩) ?_ ?_
            rotate_left
            · intro w'
              go_simp
              with_reducible rfl
            rotate_left
            · simp only [Act.put, zSa, zSb, zSc, i64_w, i32_w]
              rfl
            refine pure_ (i := 14) (N := some 6) (v := ?_) (a' := ?_) #[true, true, true, true, true, true, true, true, true, true, true, true, true, true, true, false] rfl rfl (by kernel_rfl) (fun _ _ _ h => h) (Or.inl ⟨by rfl, ?_⟩) ?_ ?_
            rotate_left
            · intro w'
              go_simp
              with_reducible rfl
            rotate_left
            · simp only [Act.put, zSa, zSb, zSc, i64_w, i32_w]
              rfl
            refine pure_ (i := 15) (N := some 7) (v := ?_) (a' := ?_) #[true, true, true, true, true, true, true, true, true, true, true, true, true, true, true, true] rfl rfl (by kernel_rfl) (fun _ _ _ h => h) (Or.inl ⟨by rfl, ?_⟩) ?_ ?_
            rotate_left
            · intro w'
              go_simp
              with_reducible rfl
            rotate_left
            · simp only [Act.put, zSa, zSb, zSc, i64_w, i32_w]
              rfl
            refine done_ (by kernel_rfl) ?_
            try go_wp2
            go_ret2
            exact ⟨rfl, HB2.out⟩
          · rw [decide_eq_false ho] at HN
            have ob : (o == 0) = false := beq_eq_false_iff_ne.mpr ho
            clear ho
            obtain ⟨rfl, rfl⟩ : (hi : Int) = r1 ∧ false = r2 := by simpa using HN
            clear HN
            go_wp2
            refine start_ (n := 16) (S := fun w' => w'.cell? ⟨w.heap.size, 0, none⟩ = some (.int .i64 a1_0) ∧ w'.cell? ⟨w.heap.size, 1, none⟩ = some (.int .i64 a1_1) ∧ w'.cell? ⟨w.heap.size, 2, none⟩ = some (.int .i64 a1_2) ∧ w'.cell? (ad.add (hi * 3)) = some (.int .i64 x.f0) ∧ w'.cell? ⟨(ad.add (hi * 3)).block, (ad.add (hi * 3)).off + 1, none⟩ = some (.int .i64 x.f1) ∧ w'.cell? ⟨(ad.add (hi * 3)).block, (ad.add (hi * 3)).off + 2, none⟩ = some (.int .i64 x.f2)) (ds := []) #[false, false, false, false, false, false, false, false, false, false, false, false, false, false, false, false] (by kernel_rfl) rfl rfl (by exact ⟨(zKc BK.out 0).trans rfl, (zKc BK.out 1).trans rfl, (zKc BK.out 2).trans rfl, (HB.out.cell (World.block_lt_of_cell? w _ e0)).trans e0, (HB.out.cell (World.block_lt_of_cell? w _ e1)).trans e1, (HB.out.cell (World.block_lt_of_cell? w _ e2)).trans e2⟩) (fun hHeld => ?_)
            have HB1 := zMk (zBd HB.out)
            have BK1 := zMk (zKd BK.out)
            generalize wr.drew = w1 at hHeld HB1 BK1 ⊢
            refine pure_ (i := 0) (N := some 35) (v := ?_) (a' := ?_) #[true, false, false, false, false, false, false, false, false, false, false, false, false, false, false, false] rfl rfl (by kernel_rfl) (fun _ _ _ h => h) (Or.inl ⟨by rfl, ?_⟩) ?_ ?_
            rotate_left
            · intro w'
              go_simp
              with_reducible rfl
            rotate_left
            · simp only [Act.put, zSa, zSb, zSc, i64_w, i32_w]
              rfl
            refine pure_ (i := 1) (N := some 36) (v := ?_) (a' := ?_) #[true, true, false, false, false, false, false, false, false, false, false, false, false, false, false, false] rfl rfl (by kernel_rfl) (fun _ _ _ h => h) (Or.inl ⟨by rfl, ?_⟩) ?_ ?_
            rotate_left
            · intro w'
              go_simp
              with_reducible rfl
            rotate_left
            · simp only [Act.put, zSa, zSb, zSc, i64_w, i32_w]
              rfl
            refine pure_ (i := 2) (N := some 37) (v := ?_) (a' := ?_) #[true, true, true, false, false, false, false, false, false, false, false, false, false, false, false, false] rfl rfl (by kernel_rfl) (fun _ _ _ h => h) (Or.inl ⟨by rfl, ?_⟩) ?_ ?_
            rotate_left
            · intro w'
              go_simp
              with_reducible rfl
            rotate_left
            · simp only [Act.put, zSa, zSb, zSc, i64_w, i32_w]
              rfl
            refine pure_ (i := 3) (N := some 38) (v := ?_) (a' := ?_) #[true, true, true, true, false, false, false, false, false, false, false, false, false, false, false, false] rfl rfl (by kernel_rfl) (fun _ _ _ h => h) (Or.inl ⟨by rfl, ?_⟩) ?_ ?_
            rotate_left
            · intro w'
              go_simp
              with_reducible rfl
            rotate_left
            · simp only [Act.put, zSa, zSb, zSc, i64_w, i32_w]
              rfl
            refine pure_ (i := 4) (N := some 39) (v := ?_) (a' := ?_) #[true, true, true, true, true, false, false, false, false, false, false, false, false, false, false, false] rfl rfl (by kernel_rfl) (fun _ _ _ h => h) (Or.inl ⟨by rfl, ?_⟩) ?_ ?_
            rotate_left
            · intro w'
              go_simp
              with_reducible rfl
            rotate_left
            · simp only [Act.put, zSa, zSb, zSc, i64_w, i32_w]
              rfl
            refine pure_ (i := 5) (N := some 40) (v := ?_) (a' := ?_) #[true, true, true, true, true, true, false, false, false, false, false, false, false, false, false, false] rfl rfl (by kernel_rfl) (fun _ _ _ h => h) (Or.inl ⟨by rfl, ?_⟩) ?_ ?_
            rotate_left
            · intro w'
              go_simp
              with_reducible rfl
            rotate_left
            · simp only [Act.put, zSa, zSb, zSc, i64_w, i32_w]
              rfl
            refine pure_ (i := 6) (N := some 41) (v := ?_) (a' := ?_) #[true, true, true, true, true, true, true, false, false, false, false, false, false, false, false, false] rfl rfl (by kernel_rfl) (fun _ _ _ h => h) (Or.inl ⟨by rfl, ?_⟩) ?_ ?_
            rotate_left
            · intro w'
              go_simp
              with_reducible rfl
            rotate_left
            · simp only [Act.put, zSa, zSb, zSc, i64_w, i32_w]
              rfl
            refine pure_ (i := 7) (N := some 42) (v := ?_) (a' := ?_) #[true, true, true, true, true, true, true, true, false, false, false, false, false, false, false, false] rfl rfl (by kernel_rfl) (fun _ _ _ h => h) (Or.inl ⟨by rfl, ?_⟩) ?_ ?_
            rotate_left
            · intro w'
              go_simp
              with_reducible rfl
            rotate_left
            · simp only [Act.put, zSa, zSb, zSc, i64_w, i32_w]
              rfl
            refine pure_ (i := 8) (N := some 43) (v := ?_) (a' := ?_) #[true, true, true, true, true, true, true, true, true, false, false, false, false, false, false, false] rfl rfl (by kernel_rfl) (fun _ _ _ h => h) (Or.inl ⟨by rfl, ?_⟩) ?_ ?_
            rotate_left
            · intro w'
              go_simp
              with_reducible rfl
            rotate_left
            · simp only [Act.put, zSa, zSb, zSc, i64_w, i32_w]
              rfl
            refine take_ (i := 9) (N := some 44) (v := ?_) (a' := ?_) #[true, true, true, true, true, true, true, true, true, true, false, false, false, false, false, false] rfl rfl (by kernel_rfl) (fun _ _ _ h => h) (Or.inl ⟨by rfl, ?_⟩) hHeld ?_ ?_
            rotate_left
            · rintro w' ⟨s0, s1, s2, s3, s4, s5⟩
              go_simp
              with_reducible rfl
            rotate_left
            · simp only [Act.put, zSa, zSb, zSc, i64_w, i32_w]
              rfl
            refine take_ (i := 10) (N := some 45) (v := ?_) (a' := ?_) #[true, true, true, true, true, true, true, true, true, true, true, false, false, false, false, false] rfl rfl (by kernel_rfl) (fun _ _ _ h => h) (Or.inl ⟨by rfl, ?_⟩) hHeld ?_ ?_
            rotate_left
            · rintro w' ⟨s0, s1, s2, s3, s4, s5⟩
              go_simp
              with_reducible rfl
            rotate_left
            · simp only [Act.put, zSa, zSb, zSc, i64_w, i32_w]
              rfl
            refine one_ (i := 11) (N := some 46) #[true, true, true, true, true, true, true, true, true, true, true, true, false, false, false, false] rfl rfl (by kernel_rfl) (by decide) (fun K hK => ?_)
            refine goesT_ Try.func34 (by kernel_rfl) rfl #[.agg #[.int .i64 x.f0, .int .i64 x.f1, .int .i64 x.f2], .agg #[.int .i64 a1_0, .int .i64 a1_1, .int .i64 a1_2]] (by rfl) rfl rfl (by rfl) (by (try simp only [zMa, zMc, zMn]); rfl) ?_
            refine (hc w1).mono ?_
            rintro e w' ⟨rfl, nq, osq, rfl⟩
            refine ⟨_, rfl, ?_⟩
            have HB2 := zMk (below_growN nq osq HB1.out HB1.out.size)
            have BK2 := zMk (blk_growN nq osq BK1.out)
            generalize Sort.grow (w1.drewN nq) osq = w2 at HB2 BK2 ⊢
            refine hK.out _ _ ⟨(zKc BK2.out 0).trans rfl, (zKc BK2.out 1).trans rfl, (zKc BK2.out 2).trans rfl, (HB2.out.cell (World.block_lt_of_cell? w _ e0)).trans e0, (HB2.out.cell (World.block_lt_of_cell? w _ e1)).trans e1, (HB2.out.cell (World.block_lt_of_cell? w _ e2)).trans e2⟩ (fun hHeld => ?_)
            clear hK K
            refine norm_ (a' := ?_) ?_ ?_
            rotate_left
            · show Act.put _ (some 46) _ = _
              simp only [Act.put, zSa, zSb, zSc, i64_w, i32_w]
              rfl
            refine pure_ (i := 12) (N := some 47) (v := ?_) (a' := ?_) #[true, true, true, true, true, true, true, true, true, true, true, true, true, false, false, false] rfl rfl (by kernel_rfl) (fun _ _ _ h => h) (Or.inl ⟨by rfl, ?_⟩) ?_ ?_
            rotate_left
            · intro w'
              go_simp
              with_reducible rfl
            rotate_left
            · simp only [Act.put, zSa, zSb, zSc, i64_w, i32_w]
              rfl
            refine pure_ (i := 13) (N := some 48) (v := ?_) (a' := ?_) #[true, true, true, true, true, true, true, true, true, true, true, true, true, true, false, false] rfl rfl (by kernel_rfl) (fun _ _ _ h => h) (Or.inl ⟨by rfl, ?_⟩) ?_ ?_
            rotate_left
            · intro w'
              go_simp
              with_reducible rfl
            rotate_left
            · simp only [Act.put, zSa, zSb, zSc, i64_w, i32_w]
              rfl
            refine pure_ (i := 14) (N := some 6) (v := ?_) (a' := ?_) #[true, true, true, true, true, true, true, true, true, true, true, true, true, true, true, false] rfl rfl (by kernel_rfl) (fun _ _ _ h => h) (Or.inl ⟨by rfl, ?_⟩) ?_ ?_
            rotate_left
            · intro w'
              go_simp
              with_reducible rfl
            rotate_left
            · simp only [Act.put, zSa, zSb, zSc, i64_w, i32_w]
              rfl
            refine pure_ (i := 15) (N := some 7) (v := ?_) (a' := ?_) #[true, true, true, true, true, true, true, true, true, true, true, true, true, true, true, true] rfl rfl (by kernel_rfl) (fun _ _ _ h => h) (Or.inl ⟨by rfl, ?_⟩) ?_ ?_
            rotate_left
            · intro w'
              go_simp
              with_reducible rfl
            rotate_left
            · simp only [Act.put, zSa, zSb, zSc, i64_w, i32_w]
              rfl
            refine done_ (by kernel_rfl) ?_
            try go_wp2
            go_ret2
            exact ⟨rfl, HB2.out⟩
        · rw [if_neg (by omega : ¬ ((hi : Int) < (l0.length : Int)))] at HN
          have p2 : ((hi : Int) < (l0.length : Int)) = False := eq_false (by omega)
          obtain ⟨rfl, rfl⟩ : (hi : Int) = r1 ∧ false = r2 := by simpa using HN
          clear HN
          go_wp2
          refine start_ (n := 16) (S := fun w' => True) (ds := []) #[false, false, false, false, false, false, false, false, false, false, false, false, false, false, false, false] (by kernel_rfl) rfl rfl (by exact trivial) (fun hHeld => ?_)
          have HB1 := zMk (zBd HB.out)
          have BK1 := zMk (zKd BK.out)
          generalize wr.drew = w1 at hHeld HB1 BK1 ⊢
          refine pure_ (i := 0) (N := some 35) (v := ?_) (a' := ?_) #[true, false, false, false, false, false, false, false, false, false, false, false, false, false, false, false] rfl rfl (by kernel_rfl) (fun _ _ _ h => h) (Or.inl ⟨by rfl, ?_⟩) ?_ ?_
          rotate_left
          · intro w'
            go_simp
            with_reducible rfl
          rotate_left
          · simp only [Act.put, zSa, zSb, zSc, i64_w, i32_w]
            rfl
          refine pure_ (i := 1) (N := some 36) (v := ?_) (a' := ?_) #[true, true, false, false, false, false, false, false, false, false, false, false, false, false, false, false] rfl rfl (by kernel_rfl) (fun _ _ _ h => h) (Or.inl ⟨by rfl, ?_⟩) ?_ ?_
          rotate_left
          · intro w'
            go_simp
            with_reducible rfl
          rotate_left
          · simp only [Act.put, zSa, zSb, zSc, i64_w, i32_w]
            rfl
          refine pure_ (i := 2) (N := some 37) (v := ?_) (a' := ?_) #[true, true, true, false, false, false, false, false, false, false, false, false, false, false, false, false] rfl rfl (by kernel_rfl) (fun _ _ _ h => h) (Or.inl ⟨by rfl, ?_⟩) ?_ ?_
          rotate_left
          · intro w'
            go_simp
            with_reducible rfl
          rotate_left
          · simp only [Act.put, zSa, zSb, zSc, i64_w, i32_w]
            rfl
          refine pure_ (i := 3) (N := some 38) (v := ?_) (a' := ?_) #[true, true, true, true, false, false, false, false, false, false, false, false, false, false, false, false] rfl rfl (by kernel_rfl) (fun _ _ _ h => h) (Or.inl ⟨by rfl, ?_⟩) ?_ ?_
          rotate_left
          · intro w'
            go_simp
            with_reducible rfl
          rotate_left
          · simp only [Act.put, zSa, zSb, zSc, i64_w, i32_w]
            rfl
          refine pure_ (i := 4) (N := some 39) (v := ?_) (a' := ?_) #[true, true, true, true, true, false, false, false, false, false, false, false, false, false, false, false] rfl rfl (by kernel_rfl) (fun _ _ _ h => h) (Or.inl ⟨by rfl, ?_⟩) ?_ ?_
          rotate_left
          · intro w'
            go_simp
            with_reducible rfl
          rotate_left
          · simp only [Act.put, zSa, zSb, zSc, i64_w, i32_w]
            rfl
          refine pure_ (i := 5) (N := some 40) (v := undef) (a' := ?_) #[true, true, true, true, true, true, false, false, false, false, false, false, false, false, false, false] rfl rfl (by kernel_rfl) (fun _ _ _ h => h) (Or.inr ⟨by rfl, rfl⟩) ?_ ?_
          rotate_left
          · simp only [Act.put, zSa, zSb, zSc, i64_w, i32_w]
            rfl
          refine pure_ (i := 6) (N := some 41) (v := undef) (a' := ?_) #[true, true, true, true, true, true, true, false, false, false, false, false, false, false, false, false] rfl rfl (by kernel_rfl) (fun _ _ _ h => h) (Or.inr ⟨by rfl, rfl⟩) ?_ ?_
          rotate_left
          · simp only [Act.put, zSa, zSb, zSc, i64_w, i32_w]
            rfl
          refine pure_ (i := 7) (N := some 42) (v := undef) (a' := ?_) #[true, true, true, true, true, true, true, true, false, false, false, false, false, false, false, false] rfl rfl (by kernel_rfl) (fun _ _ _ h => h) (Or.inr ⟨by rfl, rfl⟩) ?_ ?_
          rotate_left
          · simp only [Act.put, zSa, zSb, zSc, i64_w, i32_w]
            rfl
          refine pure_ (i := 8) (N := some 43) (v := undef) (a' := ?_) #[true, true, true, true, true, true, true, true, true, false, false, false, false, false, false, false] rfl rfl (by kernel_rfl) (fun _ _ _ h => h) (Or.inr ⟨by rfl, rfl⟩) ?_ ?_
          rotate_left
          · simp only [Act.put, zSa, zSb, zSc, i64_w, i32_w]
            rfl
          refine pure_ (i := 9) (N := some 44) (v := undef) (a' := ?_) #[true, true, true, true, true, true, true, true, true, true, false, false, false, false, false, false] rfl rfl (by kernel_rfl) (fun _ _ _ h => h) (Or.inr ⟨by rfl, rfl⟩) ?_ ?_
          rotate_left
          · simp only [Act.put, zSa, zSb, zSc, i64_w, i32_w]
            rfl
          refine pure_ (i := 10) (N := some 45) (v := undef) (a' := ?_) #[true, true, true, true, true, true, true, true, true, true, true, false, false, false, false, false] rfl rfl (by kernel_rfl) (fun _ _ _ h => h) (Or.inr ⟨by rfl, rfl⟩) ?_ ?_
          rotate_left
          · simp only [Act.put, zSa, zSb, zSc, i64_w, i32_w]
            rfl
          refine pure_ (i := 11) (N := some 46) (v := undef) (a' := ?_) #[true, true, true, true, true, true, true, true, true, true, true, true, false, false, false, false] rfl rfl (by kernel_rfl) (fun _ _ _ h => h) (Or.inr ⟨by rfl, rfl⟩) ?_ ?_
          rotate_left
          · simp only [Act.put, zSa, zSb, zSc, i64_w, i32_w]
            rfl
          refine pure_ (i := 12) (N := some 47) (v := undef) (a' := ?_) #[true, true, true, true, true, true, true, true, true, true, true, true, true, false, false, false] rfl rfl (by kernel_rfl) (fun _ _ _ h => h) (Or.inr ⟨by rfl, rfl⟩) ?_ ?_
          rotate_left
          · simp only [Act.put, zSa, zSb, zSc, i64_w, i32_w]
            rfl
          refine pure_ (i := 13) (N := some 48) (v := ?_) (a' := ?_) #[true, true, true, true, true, true, true, true, true, true, true, true, true, true, false, false] rfl rfl (by kernel_rfl) (fun _ _ _ h => h) (Or.inl ⟨by rfl, ?_⟩) ?_ ?_
          rotate_left
          · intro w'
            go_simp
            with_reducible rfl
          rotate_left
          · simp only [Act.put, zSa, zSb, zSc, i64_w, i32_w]
            rfl
          refine pure_ (i := 14) (N := some 6) (v := ?_) (a' := ?_) #[true, true, true, true, true, true, true, true, true, true, true, true, true, true, true, false] rfl rfl (by kernel_rfl) (fun _ _ _ h => h) (Or.inl ⟨by rfl, ?_⟩) ?_ ?_
          rotate_left
          · intro w'
            go_simp
            with_reducible rfl
          rotate_left
          · simp only [Act.put, zSa, zSb, zSc, i64_w, i32_w]
            rfl
          refine pure_ (i := 15) (N := some 7) (v := ?_) (a' := ?_) #[true, true, true, true, true, true, true, true, true, true, true, true, true, true, true, true] rfl rfl (by kernel_rfl) (fun _ _ _ h => h) (Or.inl ⟨by rfl, ?_⟩) ?_ ?_
          rotate_left
          · intro w'
            go_simp
            with_reducible rfl
          rotate_left
          · simp only [Act.put, zSa, zSb, zSc, i64_w, i32_w]
            rfl
          refine done_ (by kernel_rfl) ?_
          try go_wp2
          go_ret2
          exact ⟨rfl, HB1.out⟩
  · rw [if_neg hl] at h
    cases h


/-! ### graph_Find: function 25 -/
def graph_Find.f (k : Nat) (a0_0 : Int) (l0_1 : List (S36)) (a1 : Int) (a2 : Int) : Option (Int) := (graph_Right.f k a0_0 l0_1).bind fun t123 => (if t123 = 0 then ((api_Edge_45.f l0_1 (mn a1 a2) (mx a1 a2) 0).bind fun bt124 => (if bt124.2 = true then (some bt124.1) else (some (-1)))) else (some (-1)))
set_option maxHeartbeats 8000000 in
set_option maxRecDepth 100000 in
theorem graph_Find.calls (k : Nat) (a0_0 : Int) (A0_1 : Option Addr) (c0_1 : Nat) (l0_1 : List (S36)) (a1 : Int) (a2 : Int) (r : Int) (w : World) (hr0_1 : Kd.C k36 w A0_1 l0_1.length l0_1) (hc0_1 : l0_1.length ≤ c0_1) (h : graph_Find.f k a0_0 l0_1 a1 a2 = some r) :
    Calls Try.prog 25 #[.agg #[.int .i64 a0_0, .slice A0_1 l0_1.length c0_1], .int .i64 a1, .int .i64 a2] w fun e w' => e = .returned (.int .i64 r) ∧ Below w.heap.size w w' := by
  have hu24 := Try.underlying24
  have hu36 := Try.underlying36
  have HR0_1 := zMk hr0_1
  have HC0_1 := zMk hc0_1
  clear hr0_1 hc0_1
  have HB := zMk (Below.refl w.heap.size w)
  have H : ((graph_Right.f k a0_0 l0_1).bind fun t123 => (if t123 = 0 then ((api_Edge_45.f l0_1 (mn a1 a2) (mx a1 a2) 0).bind fun bt124 => (if bt124.2 = true then (some bt124.1) else (some (-1)))) else (some (-1)))) = some r := h
  clear h
  replace H := bnd H
  obtain ⟨t123, A40, H⟩ := H
  have A4 := zMk A40
  clear A40
  by_cases c5 : t123 = 0
  · rw [if_pos c5] at H
    have c5b0 : (t123 == 0) = true := beq_iff_eq.mpr c5
    have c5b1 : (t123 != 0) = false := bne_eq_false_iff_eq.mpr c5
    clear c5
    obtain ⟨ji6, hji6⟩ : ∃ j_ : Int, (mn a1 a2) = j_ := ⟨_, rfl⟩
    replace H : ((api_Edge_45.f l0_1 (ji6) (mx a1 a2) 0).bind fun bt124 => (if bt124.2 = true then (some bt124.1) else (some (-1)))) = some r := by first | (rw [hji6] at H; exact H) | (simp only [hji6] at H ⊢; exact H)
    (try rw [hji6] at A4)
    have hji6_ : (if a2 < a1 then a2 else a1) = ji6 := hji6
    obtain ⟨ji7, hji7⟩ : ∃ j_ : Int, (mx a1 a2) = j_ := ⟨_, rfl⟩
    replace H : ((api_Edge_45.f l0_1 (ji6) (ji7) 0).bind fun bt124 => (if bt124.2 = true then (some bt124.1) else (some (-1)))) = some r := by first | (rw [hji7] at H; exact H) | (simp only [hji7] at H ⊢; exact H)
    (try rw [hji7] at A4)
    have hji7_ : (if a1 < a2 then a2 else a1) = ji7 := hji7
    replace H := bnd H
    obtain ⟨⟨t124, t125⟩, A80, H⟩ := H
    replace H : (if t125 = true then (some t124) else (some (-1))) = some r := H
    have A8 := zMk A80
    clear A80
    by_cases c9 : t125 = true
    · subst c9
      replace H : (some t124) = some r := by rw [if_pos rfl] at H; exact H
      obtain rfl := zOi H
      go_enter Try.func25, Try.ntmps25
      go_wp2_with (first |  ((with_reducible refine gate_dst (N := 3) rfl ?_); refine box_event ?hg (N := 3) ?hd (cs := #[.int .i64 a0_0, .slice A0_1 l0_1.length c0_1]) (t := 24) ?hr ?_; (case hd => rfl); (case hg => rfl); (case hr => first |  (go_simp; done)|  (go_simp; rfl)|  (go_simp; rw [show ∀ x : Int, IntKind.u32.wrap (IntKind.u8.wrap x) = x % 256 from fun x => (by show (x % 256) % 4294967296 = x % 256; omega)])); intro gb122 hg w10 hbox hb; have BK122 := zMk (hbox); have GW122 := zMk ((by rw [hg]; exact (zBs (by exact uT HB.out)) : w.heap.size ≤ gb122)); have GE122 := zMk ((by rw [hg]; exact (zBs (by exact uT HB.out)) : w.heap.size ≤ gb122)); have IGE122 := ownGe GE122.out; replace HB := zMk (zBt (by exact uT HB.out) hb); clear hb hbox hg; have hcz11_0 : w10.cell? ⟨gb122, 0, none⟩ = some (.int .i64 a0_0) := (zKc BK122.out 0).trans rfl; have hcz11_1 : w10.cell? ⟨gb122, 1, none⟩ = some (.slice A0_1 l0_1.length c0_1) := (zKc BK122.out 1).trans rfl; have hfz11_0 := zKf BK122.out 0; have hfz11_1 := zKf BK122.out 1)|  ((with_reducible refine gate_callee (f := 11) rfl ?_); refine goesL_ (some 10) rfl rfl Try.func11 (by kernel_rfl) rfl #[.agg #[.int .i64 a0_0, .slice A0_1 l0_1.length c0_1]] rfl (by (try simp only [zMa, zMc, zMn]); first |  done|  rfl|  (simp only [zLd, zLt]; rfl)) ?_; (with_reducible refine (graph_Right.calls k a0_0 _ _ l0_1 t123 _ ?side1 ?side2 A4.out).mono ?_); (case side1 => repeat (first |  exact (Kd.C_below HR0_1.out HB.out)|  (with_reducible refine zCa ?_ _)|  (with_reducible refine zCn ?_ _)|  (with_reducible refine zCd ?_))); (case side2 => exact HC0_1.out); rintro e w12 ⟨rfl, hb⟩; refine ⟨_, rfl, ?_⟩; replace BK122 := zMk (zKb (g := gb122) (o := .cells #[.int .i64 a0_0, .slice A0_1 l0_1.length c0_1] 24 (0, 0)) (by (with_reducible repeat (first |  refine zKn ?_ _|  refine zKd ?_|  refine zKa ?_ _)); exact BK122.out) hb); replace HB := zMk (zBt (by exact uT HB.out) hb); (try clear hb); (try clear hb2); (try clear hk); (try clear hi); have hcz13_0 : w12.cell? ⟨gb122, 0, none⟩ = some (.int .i64 a0_0) := (zKc BK122.out 0).trans rfl; have hcz13_1 : w12.cell? ⟨gb122, 1, none⟩ = some (.slice A0_1 l0_1.length c0_1) := (zKc BK122.out 1).trans rfl; have hfz13_0 := zKf BK122.out 0; have hfz13_1 := zKf BK122.out 1)|  ((with_reducible refine gate_callee (f := 45) rfl ?_); refine goesL_ (some 22) rfl rfl Try.func45 (by kernel_rfl) rfl #[.slice A0_1 l0_1.length c0_1, .agg #[.int .i64 ji6, .int .i64 ji7, .int .i64 0], .func (.func 34) #[] #[]] rfl (by (try simp only [zMa, zMc, zMn]); first |  done|  (simp only [hji6, hji7]; rfl)|  rfl|  (simp only [zLd, zLt]; rfl)) ?_; (with_reducible refine (api_Edge_45.calls _ _ l0_1 ji6 ji7 0 t124 true _ ?side1 ?side2 A8.out).mono ?_); (case side1 => repeat (first |  exact (Kd.C_below HR0_1.out HB.out)|  (with_reducible refine zCa ?_ _)|  (with_reducible refine zCn ?_ _)|  (with_reducible refine zCd ?_))); (case side2 => exact HC0_1.out); rintro e w14 ⟨rfl, hb⟩; refine ⟨_, rfl, ?_⟩; replace BK122 := zMk (zKb (g := gb122) (o := .cells #[.int .i64 a0_0, .slice A0_1 l0_1.length c0_1] 24 (0, 0)) (by (with_reducible repeat (first |  refine zKn ?_ _|  refine zKd ?_|  refine zKa ?_ _)); exact BK122.out) hb); replace HB := zMk (zBt (by exact uT HB.out) hb); (try clear hb); (try clear hb2); (try clear hk); (try clear hi)))
      go_ret
      exact ⟨by first | rfl | (simp [errW_none, errW_some] <;> rfl) | (simp only [← hji6, ← hji7]; first | rfl | (simp [errW_none, errW_some] <;> rfl)) | (simp [*, errW_none, errW_some] <;> rfl), by exact uT HB.out⟩
    · replace c9 := Bool.eq_false_iff.mpr c9
      subst c9
      replace H : (some (-1)) = some r := by rw [if_neg (show ¬ (false = true) by decide)] at H; exact H
      obtain rfl := zOi H
      go_enter Try.func25, Try.ntmps25
      go_wp2_with (first |  ((with_reducible refine gate_dst (N := 3) rfl ?_); refine box_event ?hg (N := 3) ?hd (cs := #[.int .i64 a0_0, .slice A0_1 l0_1.length c0_1]) (t := 24) ?hr ?_; (case hd => rfl); (case hg => rfl); (case hr => first |  (go_simp; done)|  (go_simp; rfl)|  (go_simp; rw [show ∀ x : Int, IntKind.u32.wrap (IntKind.u8.wrap x) = x % 256 from fun x => (by show (x % 256) % 4294967296 = x % 256; omega)])); intro gb122 hg w15 hbox hb; have BK122 := zMk (hbox); have GW122 := zMk ((by rw [hg]; exact (zBs (by exact uT HB.out)) : w.heap.size ≤ gb122)); have GE122 := zMk ((by rw [hg]; exact (zBs (by exact uT HB.out)) : w.heap.size ≤ gb122)); have IGE122 := ownGe GE122.out; replace HB := zMk (zBt (by exact uT HB.out) hb); clear hb hbox hg; have hcz16_0 : w15.cell? ⟨gb122, 0, none⟩ = some (.int .i64 a0_0) := (zKc BK122.out 0).trans rfl; have hcz16_1 : w15.cell? ⟨gb122, 1, none⟩ = some (.slice A0_1 l0_1.length c0_1) := (zKc BK122.out 1).trans rfl; have hfz16_0 := zKf BK122.out 0; have hfz16_1 := zKf BK122.out 1)|  ((with_reducible refine gate_callee (f := 11) rfl ?_); refine goesL_ (some 10) rfl rfl Try.func11 (by kernel_rfl) rfl #[.agg #[.int .i64 a0_0, .slice A0_1 l0_1.length c0_1]] rfl (by (try simp only [zMa, zMc, zMn]); first |  done|  rfl|  (simp only [zLd, zLt]; rfl)) ?_; (with_reducible refine (graph_Right.calls k a0_0 _ _ l0_1 t123 _ ?side1 ?side2 A4.out).mono ?_); (case side1 => repeat (first |  exact (Kd.C_below HR0_1.out HB.out)|  (with_reducible refine zCa ?_ _)|  (with_reducible refine zCn ?_ _)|  (with_reducible refine zCd ?_))); (case side2 => exact HC0_1.out); rintro e w17 ⟨rfl, hb⟩; refine ⟨_, rfl, ?_⟩; replace BK122 := zMk (zKb (g := gb122) (o := .cells #[.int .i64 a0_0, .slice A0_1 l0_1.length c0_1] 24 (0, 0)) (by (with_reducible repeat (first |  refine zKn ?_ _|  refine zKd ?_|  refine zKa ?_ _)); exact BK122.out) hb); replace HB := zMk (zBt (by exact uT HB.out) hb); (try clear hb); (try clear hb2); (try clear hk); (try clear hi); have hcz18_0 : w17.cell? ⟨gb122, 0, none⟩ = some (.int .i64 a0_0) := (zKc BK122.out 0).trans rfl; have hcz18_1 : w17.cell? ⟨gb122, 1, none⟩ = some (.slice A0_1 l0_1.length c0_1) := (zKc BK122.out 1).trans rfl; have hfz18_0 := zKf BK122.out 0; have hfz18_1 := zKf BK122.out 1)|  ((with_reducible refine gate_callee (f := 45) rfl ?_); refine goesL_ (some 22) rfl rfl Try.func45 (by kernel_rfl) rfl #[.slice A0_1 l0_1.length c0_1, .agg #[.int .i64 ji6, .int .i64 ji7, .int .i64 0], .func (.func 34) #[] #[]] rfl (by (try simp only [zMa, zMc, zMn]); first |  done|  (simp only [hji6, hji7]; rfl)|  rfl|  (simp only [zLd, zLt]; rfl)) ?_; (with_reducible refine (api_Edge_45.calls _ _ l0_1 ji6 ji7 0 t124 false _ ?side1 ?side2 A8.out).mono ?_); (case side1 => repeat (first |  exact (Kd.C_below HR0_1.out HB.out)|  (with_reducible refine zCa ?_ _)|  (with_reducible refine zCn ?_ _)|  (with_reducible refine zCd ?_))); (case side2 => exact HC0_1.out); rintro e w19 ⟨rfl, hb⟩; refine ⟨_, rfl, ?_⟩; replace BK122 := zMk (zKb (g := gb122) (o := .cells #[.int .i64 a0_0, .slice A0_1 l0_1.length c0_1] 24 (0, 0)) (by (with_reducible repeat (first |  refine zKn ?_ _|  refine zKd ?_|  refine zKa ?_ _)); exact BK122.out) hb); replace HB := zMk (zBt (by exact uT HB.out) hb); (try clear hb); (try clear hb2); (try clear hk); (try clear hi)))
      go_ret
      exact ⟨by first | rfl | (simp [errW_none, errW_some] <;> rfl) | (simp only [← hji6, ← hji7]; first | rfl | (simp [errW_none, errW_some] <;> rfl)) | (simp [*, errW_none, errW_some] <;> rfl), by exact uT HB.out⟩
  · rw [if_neg c5] at H
    have c5b0 : (t123 == 0) = false := beq_eq_false_iff_ne.mpr c5
    have c5b1 : (t123 != 0) = true := bne_iff_ne.mpr c5
    obtain rfl := zOi H
    go_enter Try.func25, Try.ntmps25
    go_wp2_with (first |  ((with_reducible refine gate_dst (N := 3) rfl ?_); refine box_event ?hg (N := 3) ?hd (cs := #[.int .i64 a0_0, .slice A0_1 l0_1.length c0_1]) (t := 24) ?hr ?_; (case hd => rfl); (case hg => rfl); (case hr => first |  (go_simp; done)|  (go_simp; rfl)|  (go_simp; rw [show ∀ x : Int, IntKind.u32.wrap (IntKind.u8.wrap x) = x % 256 from fun x => (by show (x % 256) % 4294967296 = x % 256; omega)])); intro gb122 hg w20 hbox hb; have BK122 := zMk (hbox); have GW122 := zMk ((by rw [hg]; exact (zBs (by exact uT HB.out)) : w.heap.size ≤ gb122)); have GE122 := zMk ((by rw [hg]; exact (zBs (by exact uT HB.out)) : w.heap.size ≤ gb122)); have IGE122 := ownGe GE122.out; replace HB := zMk (zBt (by exact uT HB.out) hb); clear hb hbox hg; have hcz21_0 : w20.cell? ⟨gb122, 0, none⟩ = some (.int .i64 a0_0) := (zKc BK122.out 0).trans rfl; have hcz21_1 : w20.cell? ⟨gb122, 1, none⟩ = some (.slice A0_1 l0_1.length c0_1) := (zKc BK122.out 1).trans rfl; have hfz21_0 := zKf BK122.out 0; have hfz21_1 := zKf BK122.out 1)|  ((with_reducible refine gate_callee (f := 11) rfl ?_); refine goesL_ (some 10) rfl rfl Try.func11 (by kernel_rfl) rfl #[.agg #[.int .i64 a0_0, .slice A0_1 l0_1.length c0_1]] rfl (by (try simp only [zMa, zMc, zMn]); first |  done|  rfl|  (simp only [zLd, zLt]; rfl)) ?_; (with_reducible refine (graph_Right.calls k a0_0 _ _ l0_1 t123 _ ?side1 ?side2 A4.out).mono ?_); (case side1 => repeat (first |  exact (Kd.C_below HR0_1.out HB.out)|  (with_reducible refine zCa ?_ _)|  (with_reducible refine zCn ?_ _)|  (with_reducible refine zCd ?_))); (case side2 => exact HC0_1.out); rintro e w22 ⟨rfl, hb⟩; refine ⟨_, rfl, ?_⟩; replace BK122 := zMk (zKb (g := gb122) (o := .cells #[.int .i64 a0_0, .slice A0_1 l0_1.length c0_1] 24 (0, 0)) (by (with_reducible repeat (first |  refine zKn ?_ _|  refine zKd ?_|  refine zKa ?_ _)); exact BK122.out) hb); replace HB := zMk (zBt (by exact uT HB.out) hb); (try clear hb); (try clear hb2); (try clear hk); (try clear hi)))
    go_ret
    exact ⟨by first | rfl | (simp [errW_none, errW_some] <;> rfl) | (simp [*, errW_none, errW_some] <;> rfl), by exact uT HB.out⟩

end Go.Proofs.Yteicpdkembmilaa.A
