/- Lemmas for the statement: the walks of the functions that it reaches, and plain laws. -/
import Derived.Test.YteicpdkembmilaaG1
import Derived.Test.YteicpdkembmilaaG2
set_option linter.unusedVariables false
set_option linter.unusedSimpArgs false
namespace Go.Proofs.Yteicpdkembmilaa.A
open Go Go.RowKit Go.Proofs.YteicpdkembmilaaW.PrintWords Go.Proofs.YteicpdkembmilaaW.PrintLast Go.Proofs.YteicpdkembmilaaW.PrintMore
attribute [local go_sem] max2_int min2_int max_two min_two max_three min_three max_four min_four
open Go.Proofs.YteicpdkembmilaaW.PrintWords.Kd renaming R_alloc → zRa, R_drewN → zRn, R_drew → zRd, V_alloc → zVa, V_drewN → zVn, V_drew → zVd, V_below → zVb, C_alloc → zCa, C_drewN → zCn, C_drew → zCd, R_mono → zRm, V_mono → zVm, at_int → zAi, R_elder' → zRe, R_lower → zRl, R_new' → zRw, R_lt → zRt, R_below → zRb, R_base → zRz, R_reads' → zRr, R_slice → zRs, V_elder' → zVe, V_lower → zVl, V_slice → zVs, V_reads' → zVr
open Go.Proofs.YteicpdkembmilaaW.PrintWords renaming pw_below_drewN → zBn, below_alloc → zBa, below_drew1 → zBd, below_size → zBs, below_step → zBt, blk_drewN → zKn, blk_drew → zKd, blk_alloc → zKa, blk_below → zKb, blk_cell → zKc, blk_frozen → zKf
open List renaming setIfInBounds_toArray → zSa, set_cons_zero → zSb, set_cons_succ → zSc, length_drop → zLd, length_take → zLt, map_toArray → zMa, map_cons → zMc, map_nil → zMn, length_cons → zLc, length_nil → zLn
open Go.Proofs.YteicpdkembmilaaW.PrintWords.Aside0 renaming mk → zMk
open Option renaming bind_eq_some_iff → zBi, bind_some → zOb
open Option.some renaming inj → zOi
open Int renaming toNat_natCast → zTn

/-! ### graph_some: function 42 -/
def graph_some.l0 (pf : Int → Int → Int → Int → Option Bool) : Nat → List (S36) → Int → Int → Int → List (S36) → Option (Int × (List (S36)))
  | 0, _, _, _, _, _ => none
  | k + 1, x16, x17, x18, x445000, x445001 => if x18 < x17 then (if 0 ≤ x18 then (if x18 < (x16.length : Int) then ((pf x18 ((rd_T36 x16 x18).f0) ((rd_T36 x16 x18).f1) ((rd_T36 x16 x18).f2)).bind fun t447 => (if t447 = true then (if x445001.length < 5864062014805 then (graph_some.l0 pf k x16 x17 (wrap64 (x18 + 1)) x445000 (x445001 ++ [(⟨(rd_T36 x16 x18).f0, (rd_T36 x16 x18).f1, (rd_T36 x16 x18).f2⟩ : S36)])) else (none)) else (graph_some.l0 pf k x16 x17 (wrap64 (x18 + 1)) x445000 x445001))) else (none)) else (none)) else (some (x445000, x445001))
def graph_some.f (pf : Int → Int → Int → Int → Option Bool) (k : Nat) (a0_0 : Int) (l0_1 : List (S36)) : Option (Int × (List (S36))) := (graph_Right.f k a0_0 l0_1).bind fun t443 => (if t443 = 0 then (graph_some.l0 pf k l0_1 (l0_1.length : Int) 0 a0_0 ([] : List (S36))) else (some (0, ([] : List (S36)))))
set_option maxHeartbeats 8000000 in
set_option maxRecDepth 100000 in
theorem graph_some.calls (pf : Int → Int → Int → Int → Option Bool) (hh_ : Nat) (k : Nat) (a0_0 : Int) (A0_1 : Option Addr) (c0_1 : Nat) (l0_1 : List (S36)) (r1 : Int) (r2 : List (S36)) (w : World) (hr0_1 : Kd.C k36 w A0_1 l0_1.length l0_1) (hc0_1 : l0_1.length ≤ c0_1) (hf_ : ∀ (i u v q : Int) (b : Bool) (W : World), Below w.heap.size w W → pf i u v q = some b → Calls Try.prog 43 #[.int .i64 i, .agg #[.int .i64 u, .int .i64 v, .int .i64 q], .pointer (some ⟨hh_, 0, none⟩)] W fun e w' => e = .returned (.bool b) ∧ Below W.heap.size W w') (h : graph_some.f pf k a0_0 l0_1 = some (r1, r2)) :
    Calls Try.prog 42 #[.agg #[.int .i64 a0_0, .slice A0_1 l0_1.length c0_1], .func (.func 43) #[] #[.pointer (some ⟨hh_, 0, none⟩)]] w fun e w' => ∃ v1_ : Value, e = .returned (.agg #[.int .i64 r1, v1_]) ∧ Kd.R k36 36 w' w.heap.size (fun _ => True) v1_ r2 ∧ Below w.heap.size w w' := by
  have hu24 := Try.underlying24
  have hu36 := Try.underlying36
  have HR0_1 := zMk hr0_1
  have HC0_1 := zMk hc0_1
  clear hr0_1 hc0_1
  have HB := zMk (Below.refl w.heap.size w)
  have HF := zMk hf_
  clear hf_
  have H : ((graph_Right.f k a0_0 l0_1).bind fun t443 => (if t443 = 0 then (graph_some.l0 pf k l0_1 (l0_1.length : Int) 0 a0_0 ([] : List (S36))) else (some (0, ([] : List (S36)))))) = some (r1, r2) := h
  clear h
  replace H := bnd H
  obtain ⟨t443, A20, H⟩ := H
  have A2 := zMk A20
  clear A20
  by_cases c3 : t443 = 0
  · rw [if_pos c3] at H
    have c3b0 : (t443 == 0) = true := beq_iff_eq.mpr c3
    have c3b1 : (t443 != 0) = false := bne_eq_false_iff_eq.mpr c3
    clear c3
    have H' := zMk H
    clear H
    go_enter Try.func42, Try.ntmps42
    go_wp2_with (first |  ((with_reducible refine gate_dst (N := 2) rfl ?_); refine box_event ?hg (N := 2) ?hd (cs := #[.int .i64 a0_0, .slice A0_1 l0_1.length c0_1]) (t := 24) ?hr ?_; (case hd => rfl); (case hg => rfl); (case hr => first |  (go_simp; done)|  (go_simp; rfl)|  (go_simp; rw [show ∀ x : Int, IntKind.u32.wrap (IntKind.u8.wrap x) = x % 256 from fun x => (by show (x % 256) % 4294967296 = x % 256; omega)])); intro gb441 hg w4 hbox hb; have BK441 := zMk (hbox); have GW441 := zMk ((by rw [hg]; exact (zBs (by exact uT HB.out)) : w.heap.size ≤ gb441)); have GE441 := zMk ((by rw [hg]; exact (zBs (by exact uT HB.out)) : w.heap.size ≤ gb441)); have IGE441 := ownGe GE441.out; replace HB := zMk (zBt (by exact uT HB.out) hb); clear hb hbox hg)|  ((with_reducible refine gate_dst (N := 4) rfl ?_); refine box_event ?hg (N := 4) ?hd (cs := #[.int .i64 0, .slice none 0 0]) (t := 24) ?hr ?_; (case hd => rfl); (case hg => rfl); (case hr => first |  (go_simp; done)|  (go_simp; rfl)|  (go_simp; rw [show ∀ x : Int, IntKind.u32.wrap (IntKind.u8.wrap x) = x % 256 from fun x => (by show (x % 256) % 4294967296 = x % 256; omega)])); intro gb442 hg w5 hbox hb; have BK442 := zMk (hbox); have GW442 := zMk ((by rw [hg]; exact (zBs (by exact uT HB.out)) : w.heap.size ≤ gb442)); have GE442 := zMk ((by rw [hg]; exact (zBs (by exact uT HB.out)) : w.heap.size ≤ gb442)); have IGE442 := ownGe GE442.out; replace HB := zMk (zBt (by exact uT HB.out) hb); have NB441_442 := zMk ((by rw [hg]; exact Nat.ne_of_lt (blk_lt (g := gb441) (o := .cells #[.int .i64 a0_0, .slice A0_1 l0_1.length c0_1] 24 (0, 0)) (by (with_reducible repeat (first |  refine zKn ?_ _|  refine zKd ?_|  refine zKa ?_ _)); exact BK441.out)) : gb441 ≠ gb442)); have NB442_441 := zMk ((by rw [hg]; exact Nat.ne_of_gt (blk_lt (g := gb441) (o := .cells #[.int .i64 a0_0, .slice A0_1 l0_1.length c0_1] 24 (0, 0)) (by (with_reducible repeat (first |  refine zKn ?_ _|  refine zKd ?_|  refine zKa ?_ _)); exact BK441.out)) : gb442 ≠ gb441)); replace BK441 := zMk (zKb (g := gb441) (o := .cells #[.int .i64 a0_0, .slice A0_1 l0_1.length c0_1] 24 (0, 0)) (by (with_reducible repeat (first |  refine zKn ?_ _|  refine zKd ?_|  refine zKa ?_ _)); exact BK441.out) hb); clear hb hbox hg; have hnb6 := NB441_442.out; have hnc6 := NB442_441.out; have hcz7_0 : w5.cell? ⟨gb441, 0, none⟩ = some (.int .i64 a0_0) := (zKc BK441.out 0).trans rfl; have hcz7_1 : w5.cell? ⟨gb441, 1, none⟩ = some (.slice A0_1 l0_1.length c0_1) := (zKc BK441.out 1).trans rfl; have hfz7_0 := zKf BK441.out 0; have hfz7_1 := zKf BK441.out 1)|  ((with_reducible refine gate_callee (f := 11) rfl ?_); refine goesL_ (some 9) rfl rfl Try.func11 (by kernel_rfl) rfl #[.agg #[.int .i64 a0_0, .slice A0_1 l0_1.length c0_1]] rfl (by (try simp only [zMa, zMc, zMn]); first |  done|  rfl|  (simp only [zLd, zLt]; rfl)) ?_; (with_reducible refine (graph_Right.calls k a0_0 _ _ l0_1 t443 _ ?side1 ?side2 A2.out).mono ?_); (case side1 => repeat (first |  exact (Kd.C_below HR0_1.out HB.out)|  (with_reducible refine zCa ?_ _)|  (with_reducible refine zCn ?_ _)|  (with_reducible refine zCd ?_))); (case side2 => exact HC0_1.out); rintro e w8 ⟨rfl, hb⟩; refine ⟨_, rfl, ?_⟩; replace BK441 := zMk (zKb (g := gb441) (o := .cells #[.int .i64 a0_0, .slice A0_1 l0_1.length c0_1] 24 (0, 0)) (by (with_reducible repeat (first |  refine zKn ?_ _|  refine zKd ?_|  refine zKa ?_ _)); exact BK441.out) hb); replace BK442 := zMk (zKb (g := gb442) (o := .cells #[.int .i64 0, .slice none 0 0] 24 (0, 0)) (by (with_reducible repeat (first |  refine zKn ?_ _|  refine zKd ?_|  refine zKa ?_ _)); exact BK442.out) hb); replace HB := zMk (zBt (by exact uT HB.out) hb); (try clear hb); (try clear hb2); (try clear hk); (try clear hi); have hcz9_0 : w8.cell? ⟨gb441, 0, none⟩ = some (.int .i64 a0_0) := (zKc BK441.out 0).trans rfl; have hcz9_1 : w8.cell? ⟨gb441, 1, none⟩ = some (.slice A0_1 l0_1.length c0_1) := (zKc BK441.out 1).trans rfl; have hfz9_0 := zKf BK441.out 0; have hfz9_1 := zKf BK441.out 1)|  ((with_reducible refine gate_dst (N := 5) rfl ?_); refine box_event ?hg (N := 5) ?hd (cs := #[.int .i64 0, .slice none 0 0]) (t := 24) ?hr ?_; (case hd => rfl); (case hg => rfl); (case hr => first |  (go_simp; done)|  (go_simp; rfl)|  (go_simp; rw [show ∀ x : Int, IntKind.u32.wrap (IntKind.u8.wrap x) = x % 256 from fun x => (by show (x % 256) % 4294967296 = x % 256; omega)])); intro gb444 hg w10 hbox hb; have BK444 := zMk (hbox); have GW444 := zMk ((by rw [hg]; exact (zBs (by exact uT HB.out)) : w.heap.size ≤ gb444)); have GE444 := zMk ((by rw [hg]; exact (zBs (by exact uT HB.out)) : w.heap.size ≤ gb444)); have IGE444 := ownGe GE444.out; replace HB := zMk (zBt (by exact uT HB.out) hb); have NB441_444 := zMk ((by rw [hg]; exact Nat.ne_of_lt (blk_lt (g := gb441) (o := .cells #[.int .i64 a0_0, .slice A0_1 l0_1.length c0_1] 24 (0, 0)) (by (with_reducible repeat (first |  refine zKn ?_ _|  refine zKd ?_|  refine zKa ?_ _)); exact BK441.out)) : gb441 ≠ gb444)); have NB444_441 := zMk ((by rw [hg]; exact Nat.ne_of_gt (blk_lt (g := gb441) (o := .cells #[.int .i64 a0_0, .slice A0_1 l0_1.length c0_1] 24 (0, 0)) (by (with_reducible repeat (first |  refine zKn ?_ _|  refine zKd ?_|  refine zKa ?_ _)); exact BK441.out)) : gb444 ≠ gb441)); replace BK441 := zMk (zKb (g := gb441) (o := .cells #[.int .i64 a0_0, .slice A0_1 l0_1.length c0_1] 24 (0, 0)) (by (with_reducible repeat (first |  refine zKn ?_ _|  refine zKd ?_|  refine zKa ?_ _)); exact BK441.out) hb); have NB442_444 := zMk ((by rw [hg]; exact Nat.ne_of_lt (blk_lt (g := gb442) (o := .cells #[.int .i64 0, .slice none 0 0] 24 (0, 0)) (by (with_reducible repeat (first |  refine zKn ?_ _|  refine zKd ?_|  refine zKa ?_ _)); exact BK442.out)) : gb442 ≠ gb444)); have NB444_442 := zMk ((by rw [hg]; exact Nat.ne_of_gt (blk_lt (g := gb442) (o := .cells #[.int .i64 0, .slice none 0 0] 24 (0, 0)) (by (with_reducible repeat (first |  refine zKn ?_ _|  refine zKd ?_|  refine zKa ?_ _)); exact BK442.out)) : gb444 ≠ gb442)); replace BK442 := zMk (zKb (g := gb442) (o := .cells #[.int .i64 0, .slice none 0 0] 24 (0, 0)) (by (with_reducible repeat (first |  refine zKn ?_ _|  refine zKd ?_|  refine zKa ?_ _)); exact BK442.out) hb); clear hb hbox hg; have hnb11 := NB444_441.out; have hnc11 := NB441_444.out; have hnb12 := NB444_442.out; have hnc12 := NB442_444.out; have hcz13_0 : w10.cell? ⟨gb444, 0, none⟩ = some (.int .i64 0) := (zKc BK444.out 0).trans rfl; have hcz13_1 : w10.cell? ⟨gb444, 1, none⟩ = some (.slice none 0 0) := (zKc BK444.out 1).trans rfl; have hfz13_0 := zKf BK444.out 0; have hfz13_1 := zKf BK444.out 1; have hcz14_0 : w10.cell? ⟨gb441, 0, none⟩ = some (.int .i64 a0_0) := (zKc BK441.out 0).trans rfl; have hcz14_1 : w10.cell? ⟨gb441, 1, none⟩ = some (.slice A0_1 l0_1.length c0_1) := (zKc BK441.out 1).trans rfl; have hfz14_0 := zKf BK441.out 0; have hfz14_1 := zKf BK441.out 1))
    go_loopg [18] k (fun kq v18 w' => ∃ (x18_1 : Int) (x445001_1 : List (S36)) (u445001 : Value), v18 = .int .i64 x18_1 ∧ Aside0 (graph_some.l0 pf kq l0_1 (l0_1.length : Int) x18_1 a0_0 x445001_1 = some (r1, r2)) ∧ Aside0 (kq ≤ k) ∧ Aside0 (Kd.R k36 36 w' w.heap.size (fun _ => True) u445001 x445001_1) ∧ Aside0 (w'.heap[gb441]? = some (.cells #[.int .i64 a0_0, (.slice A0_1 l0_1.length c0_1)] 24 (0, 0))) ∧ Aside0 (w'.heap[gb442]? = some (.cells #[.int .i64 0, (.slice none 0 0)] 24 (0, 0))) ∧ Aside0 (w'.heap[gb444]? = some (.cells #[.int .i64 a0_0, u445001] 24 (0, 0))) ∧ Aside0 (Below w.heap.size w w'))
    case atStart => exact ⟨(0), (([] : List (S36))), (.slice none 0 0), (by first | rfl | (simp; done) | (simp [*]; done)), H', ⟨Nat.le_refl _⟩, ⟨by first | exact Kd.R_nil _ _ _ _ _ | exact Kd.N_nil _ _ _ _ _ | exact Kd.V_nil _ _ _ _ _ | exact Kd.Q_nil _ _ _ _ _ | exact Kd.S_nil _ _ _ _ _⟩, ⟨by (with_reducible repeat (first | refine zKn ?_ _ | refine zKd ?_ | refine zKa ?_ _)); refine blk_far ?_ NB441_444.out _; (with_reducible repeat (first | refine zKn ?_ _ | refine zKd ?_ | refine zKa ?_ _)); refine blk_far ?_ NB441_444.out _; (with_reducible repeat (first | refine zKn ?_ _ | refine zKd ?_ | refine zKa ?_ _)); exact BK441.out⟩, ⟨by (with_reducible repeat (first | refine zKn ?_ _ | refine zKd ?_ | refine zKa ?_ _)); refine blk_far ?_ NB442_444.out _; (with_reducible repeat (first | refine zKn ?_ _ | refine zKd ?_ | refine zKa ?_ _)); refine blk_far ?_ NB442_444.out _; (with_reducible repeat (first | refine zKn ?_ _ | refine zKd ?_ | refine zKa ?_ _)); exact BK442.out⟩, ⟨by (with_reducible repeat (first | refine zKn ?_ _ | refine zKd ?_ | refine zKa ?_ _)); refine blk_put (cs := #[.int .i64 a0_0, .slice none 0 0]) ?_ 1 _ rfl; (with_reducible repeat (first | refine zKn ?_ _ | refine zKd ?_ | refine zKa ?_ _)); refine blk_put (cs := #[.int .i64 0, .slice none 0 0]) ?_ 0 _ rfl; (with_reducible repeat (first | refine zKn ?_ _ | refine zKd ?_ | refine zKa ?_ _)); exact BK444.out⟩, ⟨by exact uT HB.out⟩⟩
    clear H'
    obtain ⟨x18_1, x445001_1, u445001, rfl, HA, HK1, HO_445001, BK441, BK442, BK444, HB⟩ := hrel
    rcases gk with _ | k1
    · exact absurd HA.out (by simp [graph_some.l0])
    have H := HA.out
    clear HA
    simp only [graph_some.l0] at H
    by_cases c15 : x18_1 < (l0_1.length : Int)
    · rw [if_pos c15] at H
      have c15b0 : decide (x18_1 < (l0_1.length : Int)) = true := decide_eq_true c15
      clear c15
      by_cases c16 : 0 ≤ x18_1
      rotate_left
      · rw [if_neg c16] at H; exact absurd H (by simp)
      rw [if_pos c16] at H
      have c16b0 : decide (0 ≤ x18_1) = true := decide_eq_true c16
      clear c16
      by_cases c17 : x18_1 < (l0_1.length : Int)
      rotate_left
      · rw [if_neg c17] at H; exact absurd H (by simp)
      rw [if_pos c17] at H
      have c17b0 : decide (x18_1 < (l0_1.length : Int)) = true := decide_eq_true c17
      clear c17
      replace H := bnd H
      obtain ⟨t447, A180, H⟩ := H
      have A18 := zMk A180
      clear A180
      by_cases c19 : t447 = true
      · subst c19
        replace H : (if x445001_1.length < 5864062014805 then (graph_some.l0 pf k1 l0_1 (l0_1.length : Int) (wrap64 (x18_1 + 1)) a0_0 (x445001_1 ++ [(⟨(rd_T36 l0_1 x18_1).f0, (rd_T36 l0_1 x18_1).f1, (rd_T36 l0_1 x18_1).f2⟩ : S36)])) else (none)) = some (r1, r2) := by rw [if_pos rfl] at H; exact H
        by_cases c20 : x445001_1.length < 5864062014805
        rotate_left
        · rw [if_neg c20] at H; exact absurd H (by simp)
        rw [if_pos c20] at H
        have LMc20 := zMk c20
        clear c20
        obtain ⟨y448, hy448⟩ : ∃ y_ : List (S36), y_ = (x445001_1 ++ [(⟨(rd_T36 l0_1 x18_1).f0, (rd_T36 l0_1 x18_1).f1, (rd_T36 l0_1 x18_1).f2⟩ : S36)]) := ⟨_, rfl⟩
        replace H : (graph_some.l0 pf k1 l0_1 (l0_1.length : Int) (wrap64 (x18_1 + 1)) a0_0 y448) = some (r1, r2) := by first | (rw [hy448]; with_reducible exact H) | (have H2_ := bsm H; first | (rw [hy448]; with_reducible exact H2_) | with_reducible exact H2_) | with_reducible exact H | (rw [hy448]; exact H) | exact H
        have Ny448 := zMk hy448
        clear hy448
        have H' := zMk H
        clear H
        have p445 : 0 ≤ (x18_1 : Int) := of_decide_eq_true (by first | (with_reducible assumption) | assumption)
        have q445 : x18_1 < (l0_1.length : Int) := of_decide_eq_true (by first | (with_reducible assumption) | assumption)
        obtain ⟨ad445, e445, hx445_0, hx445_1, hx445_2⟩ := at_T36 HR0_1.out x18_1 p445 q445
        cases e445
        replace hx445_0 := (HB.out.cell (World.block_lt_of_cell? w _ hx445_0)).trans hx445_0
        replace hx445_1 := (HB.out.cell (World.block_lt_of_cell? w _ hx445_1)).trans hx445_1
        replace hx445_2 := (HB.out.cell (World.block_lt_of_cell? w _ hx445_2)).trans hx445_2
        replace p445 := eq_true p445
        replace q445 := eq_true q445
        go_wp2_with (first |  ((with_reducible refine gate_dst (N := 7) rfl ?_); refine box_event ?hg (N := 7) ?hd (cs := #[.int .i64 0, .int .i64 0, .int .i64 0]) (t := 36) ?hr ?_; (case hd => rfl); (case hg => rfl); (case hr => first |  (go_simp; done)|  (go_simp; rfl)|  (go_simp; rw [show ∀ x : Int, IntKind.u32.wrap (IntKind.u8.wrap x) = x % 256 from fun x => (by show (x % 256) % 4294967296 = x % 256; omega)])); intro gb446 hg w21 hbox hb; replace HO_445001 := zMk (zRb (Kd.R_elderB (by exact uR HO_445001.out) gb446 (Nat.le_of_eq hg.symm)) hb); have BK446 := zMk (hbox); have GW446 := zMk ((by rw [hg]; exact (zBs (by exact uT HB.out)) : w.heap.size ≤ gb446)); have GE446 := zMk ((by rw [hg]; exact (zBs (by exact uT HB.out)) : w.heap.size ≤ gb446)); have IGE446 := ownGe GE446.out; replace HB := zMk (zBt (by exact uT HB.out) hb); have NB441_446 := zMk ((by rw [hg]; exact Nat.ne_of_lt (blk_lt (g := gb441) (o := .cells #[.int .i64 a0_0, .slice (some ad445) l0_1.length c0_1] 24 (0, 0)) (by (with_reducible repeat (first |  refine zKn ?_ _|  refine zKd ?_|  refine zKa ?_ _)); exact BK441.out)) : gb441 ≠ gb446)); have NB446_441 := zMk ((by rw [hg]; exact Nat.ne_of_gt (blk_lt (g := gb441) (o := .cells #[.int .i64 a0_0, .slice (some ad445) l0_1.length c0_1] 24 (0, 0)) (by (with_reducible repeat (first |  refine zKn ?_ _|  refine zKd ?_|  refine zKa ?_ _)); exact BK441.out)) : gb446 ≠ gb441)); replace BK441 := zMk (zKb (g := gb441) (o := .cells #[.int .i64 a0_0, .slice (some ad445) l0_1.length c0_1] 24 (0, 0)) (by (with_reducible repeat (first |  refine zKn ?_ _|  refine zKd ?_|  refine zKa ?_ _)); exact BK441.out) hb); have NB442_446 := zMk ((by rw [hg]; exact Nat.ne_of_lt (blk_lt (g := gb442) (o := .cells #[.int .i64 0, .slice none 0 0] 24 (0, 0)) (by (with_reducible repeat (first |  refine zKn ?_ _|  refine zKd ?_|  refine zKa ?_ _)); exact BK442.out)) : gb442 ≠ gb446)); have NB446_442 := zMk ((by rw [hg]; exact Nat.ne_of_gt (blk_lt (g := gb442) (o := .cells #[.int .i64 0, .slice none 0 0] 24 (0, 0)) (by (with_reducible repeat (first |  refine zKn ?_ _|  refine zKd ?_|  refine zKa ?_ _)); exact BK442.out)) : gb446 ≠ gb442)); replace BK442 := zMk (zKb (g := gb442) (o := .cells #[.int .i64 0, .slice none 0 0] 24 (0, 0)) (by (with_reducible repeat (first |  refine zKn ?_ _|  refine zKd ?_|  refine zKa ?_ _)); exact BK442.out) hb); have NB444_446 := zMk ((by rw [hg]; exact Nat.ne_of_lt (blk_lt (g := gb444) (o := .cells #[.int .i64 a0_0, u445001] 24 (0, 0)) (by (with_reducible repeat (first |  refine zKn ?_ _|  refine zKd ?_|  refine zKa ?_ _)); exact BK444.out)) : gb444 ≠ gb446)); have NB446_444 := zMk ((by rw [hg]; exact Nat.ne_of_gt (blk_lt (g := gb444) (o := .cells #[.int .i64 a0_0, u445001] 24 (0, 0)) (by (with_reducible repeat (first |  refine zKn ?_ _|  refine zKd ?_|  refine zKa ?_ _)); exact BK444.out)) : gb446 ≠ gb444)); replace BK444 := zMk (zKb (g := gb444) (o := .cells #[.int .i64 a0_0, u445001] 24 (0, 0)) (by (with_reducible repeat (first |  refine zKn ?_ _|  refine zKd ?_|  refine zKa ?_ _)); exact BK444.out) hb); clear hb hbox hg; have hnb22 := NB446_441.out; have hnc22 := NB441_446.out; have hnb23 := NB446_442.out; have hnc23 := NB442_446.out; have hnb24 := NB446_444.out; have hnc24 := NB444_446.out; have hcz25_0 : w21.cell? ⟨gb446, 0, none⟩ = some (.int .i64 0) := (zKc BK446.out 0).trans rfl; have hcz25_1 : w21.cell? ⟨gb446, 1, none⟩ = some (.int .i64 0) := (zKc BK446.out 1).trans rfl; have hcz25_2 : w21.cell? ⟨gb446, 2, none⟩ = some (.int .i64 0) := (zKc BK446.out 2).trans rfl; have hfz25_0 := zKf BK446.out 0; have hfz25_1 := zKf BK446.out 1; have hfz25_2 := zKf BK446.out 2)|  (go_at_call 43; refine (HF.out _ _ _ _ true _ (by exact uT HB.out) A18.out).mono ?_; rintro e w26 ⟨rfl, hb⟩; replace HO_445001 := zMk (zRb (by (with_reducible repeat (first |  apply zRa|  apply zRn|  apply zRd)); exact (zRm (Kd.R_far (p := ⟨gb446, 2, none⟩) (Kd.R_far (p := ⟨gb446, 1, none⟩) (Kd.R_far (p := ⟨gb446, 0, none⟩) (zRm HO_445001.out (fun k_ hk => (⟨hk, hk.2⟩ : _ ∧ k_ ≠ gb446))) (fun _ hk => hk.2) (.int .i64 ((rd_T36 l0_1 x18_1).f0))) (fun _ hk => hk.2) (.int .i64 ((rd_T36 l0_1 x18_1).f1))) (fun _ hk => hk.2) (.int .i64 ((rd_T36 l0_1 x18_1).f2))) (fun _ h_ => h_.1))) hb); replace BK441 := zMk (zKb (g := gb441) (o := .cells #[.int .i64 a0_0, .slice (some ad445) l0_1.length c0_1] 24 (0, 0)) (by (with_reducible repeat (first |  refine zKn ?_ _|  refine zKd ?_|  refine zKa ?_ _)); refine blk_far ?_ NB441_446.out _; (with_reducible repeat (first |  refine zKn ?_ _|  refine zKd ?_|  refine zKa ?_ _)); refine blk_far ?_ NB441_446.out _; (with_reducible repeat (first |  refine zKn ?_ _|  refine zKd ?_|  refine zKa ?_ _)); refine blk_far ?_ NB441_446.out _; (with_reducible repeat (first |  refine zKn ?_ _|  refine zKd ?_|  refine zKa ?_ _)); exact BK441.out) hb); replace BK442 := zMk (zKb (g := gb442) (o := .cells #[.int .i64 0, .slice none 0 0] 24 (0, 0)) (by (with_reducible repeat (first |  refine zKn ?_ _|  refine zKd ?_|  refine zKa ?_ _)); refine blk_far ?_ NB442_446.out _; (with_reducible repeat (first |  refine zKn ?_ _|  refine zKd ?_|  refine zKa ?_ _)); refine blk_far ?_ NB442_446.out _; (with_reducible repeat (first |  refine zKn ?_ _|  refine zKd ?_|  refine zKa ?_ _)); refine blk_far ?_ NB442_446.out _; (with_reducible repeat (first |  refine zKn ?_ _|  refine zKd ?_|  refine zKa ?_ _)); exact BK442.out) hb); replace BK444 := zMk (zKb (g := gb444) (o := .cells #[.int .i64 a0_0, u445001] 24 (0, 0)) (by (with_reducible repeat (first |  refine zKn ?_ _|  refine zKd ?_|  refine zKa ?_ _)); refine blk_far ?_ NB444_446.out _; (with_reducible repeat (first |  refine zKn ?_ _|  refine zKd ?_|  refine zKa ?_ _)); refine blk_far ?_ NB444_446.out _; (with_reducible repeat (first |  refine zKn ?_ _|  refine zKd ?_|  refine zKa ?_ _)); refine blk_far ?_ NB444_446.out _; (with_reducible repeat (first |  refine zKn ?_ _|  refine zKd ?_|  refine zKa ?_ _)); exact BK444.out) hb); replace BK446 := zMk (zKb (g := gb446) (o := .cells #[.int .i64 ((rd_T36 l0_1 x18_1).f0), .int .i64 ((rd_T36 l0_1 x18_1).f1), .int .i64 ((rd_T36 l0_1 x18_1).f2)] 36 (0, 0)) (by (with_reducible repeat (first |  refine zKn ?_ _|  refine zKd ?_|  refine zKa ?_ _)); refine blk_put (cs := #[.int .i64 ((rd_T36 l0_1 x18_1).f0), .int .i64 ((rd_T36 l0_1 x18_1).f1), .int .i64 0]) ?_ 2 _ rfl; (with_reducible repeat (first |  refine zKn ?_ _|  refine zKd ?_|  refine zKa ?_ _)); refine blk_put (cs := #[.int .i64 ((rd_T36 l0_1 x18_1).f0), .int .i64 0, .int .i64 0]) ?_ 1 _ rfl; (with_reducible repeat (first |  refine zKn ?_ _|  refine zKd ?_|  refine zKa ?_ _)); refine blk_put (cs := #[.int .i64 0, .int .i64 0, .int .i64 0]) ?_ 0 _ rfl; (with_reducible repeat (first |  refine zKn ?_ _|  refine zKd ?_|  refine zKa ?_ _)); exact BK446.out) hb); replace HB := zMk (zBt (by exact uT HB.out) hb); (try clear hb); (try clear hb2); (try clear hk); (try clear hi); have hnb27 := NB444_441.out; have hnc27 := NB441_444.out; have hnb28 := NB444_442.out; have hnc28 := NB442_444.out; have hcz29_0 : w26.cell? ⟨gb444, 0, none⟩ = some (.int .i64 a0_0) := (zKc BK444.out 0).trans rfl; have hcz29_1 : w26.cell? ⟨gb444, 1, none⟩ = some (u445001) := (zKc BK444.out 1).trans rfl; have hfz29_0 := zKf BK444.out 0; have hfz29_1 := zKf BK444.out 1; have hcz30_0 : w26.cell? ⟨gb446, 0, none⟩ = some (.int .i64 ((rd_T36 l0_1 x18_1).f0)) := (zKc BK446.out 0).trans rfl; have hcz30_1 : w26.cell? ⟨gb446, 1, none⟩ = some (.int .i64 ((rd_T36 l0_1 x18_1).f1)) := (zKc BK446.out 1).trans rfl; have hcz30_2 : w26.cell? ⟨gb446, 2, none⟩ = some (.int .i64 ((rd_T36 l0_1 x18_1).f2)) := (zKc BK446.out 2).trans rfl; have hfz30_0 := zKf BK446.out 0; have hfz30_1 := zKf BK446.out 1; have hfz30_2 := zKf BK446.out 2)|  ((with_reducible refine gate_builtin (b := .append) (xs := #[.tmp 28, .tmp 30]) rfl ?_); at_builtin; refine Kd.R_append k36 (w0 := w) w.heap.size rfl (.tmp 28) (.tmp 30) 22 36 (.agg #[(.int .i64 0), (.int .i64 0), (.int .i64 0)]) 24 rfl Try.underlying22 info36 rfl (by decide) (by omega) u445001 x445001_1 (⟨(rd_T36 l0_1 x18_1).f0, (rd_T36 l0_1 x18_1).f1, (rd_T36 l0_1 x18_1).f2⟩ : S36) [.int .i64 ((rd_T36 l0_1 x18_1).f0), .int .i64 ((rd_T36 l0_1 x18_1).f1), .int .i64 ((rd_T36 l0_1 x18_1).f2)] (fun k_ => k_ ≠ gb446) (fun _ => False) rfl rfl ?aP (fun _ hk => hk.elim) ?aF ?aO ?aB ?aS ?aL ?_; (case aP => exact k36_mkM _ _ _ (⟨(rd_T36 l0_1 x18_1).f0, (rd_T36 l0_1 x18_1).f1, (rd_T36 l0_1 x18_1).f2⟩ : S36)); (case aB => exact (by exact uT HB.out)); (case aF => exact (fun k_ hk => Kd.freshB (g := gb446) (o := .cells #[.int .i64 ((rd_T36 l0_1 x18_1).f0), .int .i64 ((rd_T36 l0_1 x18_1).f1), .int .i64 ((rd_T36 l0_1 x18_1).f2)] 36 (0, 0)) (by (with_reducible repeat (first |  refine zKn ?_ _|  refine zKd ?_|  refine zKa ?_ _)); exact BK446.out) k_ hk)); (case aO => exact (by (with_reducible repeat (first |  apply zRa|  apply zRn|  apply zRd)); exact zRm HO_445001.out (fun _ hk => hk.2))); (case aS => exact (zBs (by exact uT HB.out))); (case aL => have := LMc20.out; omega); intro v449 w31 ho hb hg hat; rw [← Ny448.out] at ho; replace BK441 := zMk (blk_grown (g := gb441) (o := .cells #[.int .i64 a0_0, .slice (some ad445) l0_1.length c0_1] 24 (0, 0)) (by (with_reducible repeat (first |  refine zKn ?_ _|  refine zKd ?_|  refine zKa ?_ _)); exact BK441.out) hg (Kd.R_ne HO_445001.out BK441.out (by decide))); replace BK442 := zMk (blk_grown (g := gb442) (o := .cells #[.int .i64 0, .slice none 0 0] 24 (0, 0)) (by (with_reducible repeat (first |  refine zKn ?_ _|  refine zKd ?_|  refine zKa ?_ _)); exact BK442.out) hg (Kd.R_ne HO_445001.out BK442.out (by decide))); replace BK444 := zMk (blk_grown (g := gb444) (o := .cells #[.int .i64 a0_0, u445001] 24 (0, 0)) (by (with_reducible repeat (first |  refine zKn ?_ _|  refine zKd ?_|  refine zKa ?_ _)); exact BK444.out) hg (Kd.R_ne HO_445001.out BK444.out (by decide))); replace BK446 := zMk (blk_grown (g := gb446) (o := .cells #[.int .i64 ((rd_T36 l0_1 x18_1).f0), .int .i64 ((rd_T36 l0_1 x18_1).f1), .int .i64 ((rd_T36 l0_1 x18_1).f2)] 36 (0, 0)) (by (with_reducible repeat (first |  refine zKn ?_ _|  refine zKd ?_|  refine zKa ?_ _)); exact BK446.out) hg (Kd.R_away HO_445001.out (fun _ hk => hk.2))); replace HB := zMk (hb); have HO450 := zMk (ho); clear HO_445001 ho hb hg hat; obtain ⟨Ao32, co32, eo32⟩ := zRs HO450.out; subst eo32; have hcz33_0 : w31.cell? ⟨gb444, 0, none⟩ = some (.int .i64 a0_0) := (zKc BK444.out 0).trans rfl; have hcz33_1 : w31.cell? ⟨gb444, 1, none⟩ = some (u445001) := (zKc BK444.out 1).trans rfl; have hfz33_0 := zKf BK444.out 0; have hfz33_1 := zKf BK444.out 1))
        go_roundg k1
        case measure => have := HK1.out; omega
        case rel => exact ⟨(wrap64 (x18_1 + 1)), (y448), (.slice Ao32 y448.length co32), (by first | rfl | (simp; done) | (simp [*]; done)), H', ⟨by have := HK1.out; omega⟩, ⟨by (with_reducible repeat (first | apply zRa | apply zRn | apply zRd)); exact zRm (Kd.R_far (p := ⟨gb444, 1, none⟩) (Kd.R_types HO450.out BK444.out (by decide)) (fun _ hk => hk.2) (.slice Ao32 y448.length co32)) (fun _ hk => trivial)⟩, ⟨by (with_reducible repeat (first | refine zKn ?_ _ | refine zKd ?_ | refine zKa ?_ _)); refine blk_far ?_ NB441_444.out _; (with_reducible repeat (first | refine zKn ?_ _ | refine zKd ?_ | refine zKa ?_ _)); exact BK441.out⟩, ⟨by (with_reducible repeat (first | refine zKn ?_ _ | refine zKd ?_ | refine zKa ?_ _)); refine blk_far ?_ NB442_444.out _; (with_reducible repeat (first | refine zKn ?_ _ | refine zKd ?_ | refine zKa ?_ _)); exact BK442.out⟩, ⟨by (with_reducible repeat (first | refine zKn ?_ _ | refine zKd ?_ | refine zKa ?_ _)); refine blk_put (cs := #[.int .i64 a0_0, u445001]) ?_ 1 _ rfl; (with_reducible repeat (first | refine zKn ?_ _ | refine zKd ?_ | refine zKa ?_ _)); exact BK444.out⟩, ⟨by exact uT HB.out⟩⟩
      · replace c19 := Bool.eq_false_iff.mpr c19
        subst c19
        replace H : (graph_some.l0 pf k1 l0_1 (l0_1.length : Int) (wrap64 (x18_1 + 1)) a0_0 x445001_1) = some (r1, r2) := by rw [if_neg (show ¬ (false = true) by decide)] at H; exact H
        have H' := zMk H
        clear H
        have p445 : 0 ≤ (x18_1 : Int) := of_decide_eq_true (by first | (with_reducible assumption) | assumption)
        have q445 : x18_1 < (l0_1.length : Int) := of_decide_eq_true (by first | (with_reducible assumption) | assumption)
        obtain ⟨ad445, e445, hx445_0, hx445_1, hx445_2⟩ := at_T36 HR0_1.out x18_1 p445 q445
        cases e445
        replace hx445_0 := (HB.out.cell (World.block_lt_of_cell? w _ hx445_0)).trans hx445_0
        replace hx445_1 := (HB.out.cell (World.block_lt_of_cell? w _ hx445_1)).trans hx445_1
        replace hx445_2 := (HB.out.cell (World.block_lt_of_cell? w _ hx445_2)).trans hx445_2
        replace p445 := eq_true p445
        replace q445 := eq_true q445
        go_wp2_with (first |  ((with_reducible refine gate_dst (N := 7) rfl ?_); refine box_event ?hg (N := 7) ?hd (cs := #[.int .i64 0, .int .i64 0, .int .i64 0]) (t := 36) ?hr ?_; (case hd => rfl); (case hg => rfl); (case hr => first |  (go_simp; done)|  (go_simp; rfl)|  (go_simp; rw [show ∀ x : Int, IntKind.u32.wrap (IntKind.u8.wrap x) = x % 256 from fun x => (by show (x % 256) % 4294967296 = x % 256; omega)])); intro gb446 hg w34 hbox hb; replace HO_445001 := zMk (zRb (Kd.R_elderB (by exact uR HO_445001.out) gb446 (Nat.le_of_eq hg.symm)) hb); have BK446 := zMk (hbox); have GW446 := zMk ((by rw [hg]; exact (zBs (by exact uT HB.out)) : w.heap.size ≤ gb446)); have GE446 := zMk ((by rw [hg]; exact (zBs (by exact uT HB.out)) : w.heap.size ≤ gb446)); have IGE446 := ownGe GE446.out; replace HB := zMk (zBt (by exact uT HB.out) hb); have NB441_446 := zMk ((by rw [hg]; exact Nat.ne_of_lt (blk_lt (g := gb441) (o := .cells #[.int .i64 a0_0, .slice (some ad445) l0_1.length c0_1] 24 (0, 0)) (by (with_reducible repeat (first |  refine zKn ?_ _|  refine zKd ?_|  refine zKa ?_ _)); exact BK441.out)) : gb441 ≠ gb446)); have NB446_441 := zMk ((by rw [hg]; exact Nat.ne_of_gt (blk_lt (g := gb441) (o := .cells #[.int .i64 a0_0, .slice (some ad445) l0_1.length c0_1] 24 (0, 0)) (by (with_reducible repeat (first |  refine zKn ?_ _|  refine zKd ?_|  refine zKa ?_ _)); exact BK441.out)) : gb446 ≠ gb441)); replace BK441 := zMk (zKb (g := gb441) (o := .cells #[.int .i64 a0_0, .slice (some ad445) l0_1.length c0_1] 24 (0, 0)) (by (with_reducible repeat (first |  refine zKn ?_ _|  refine zKd ?_|  refine zKa ?_ _)); exact BK441.out) hb); have NB442_446 := zMk ((by rw [hg]; exact Nat.ne_of_lt (blk_lt (g := gb442) (o := .cells #[.int .i64 0, .slice none 0 0] 24 (0, 0)) (by (with_reducible repeat (first |  refine zKn ?_ _|  refine zKd ?_|  refine zKa ?_ _)); exact BK442.out)) : gb442 ≠ gb446)); have NB446_442 := zMk ((by rw [hg]; exact Nat.ne_of_gt (blk_lt (g := gb442) (o := .cells #[.int .i64 0, .slice none 0 0] 24 (0, 0)) (by (with_reducible repeat (first |  refine zKn ?_ _|  refine zKd ?_|  refine zKa ?_ _)); exact BK442.out)) : gb446 ≠ gb442)); replace BK442 := zMk (zKb (g := gb442) (o := .cells #[.int .i64 0, .slice none 0 0] 24 (0, 0)) (by (with_reducible repeat (first |  refine zKn ?_ _|  refine zKd ?_|  refine zKa ?_ _)); exact BK442.out) hb); have NB444_446 := zMk ((by rw [hg]; exact Nat.ne_of_lt (blk_lt (g := gb444) (o := .cells #[.int .i64 a0_0, u445001] 24 (0, 0)) (by (with_reducible repeat (first |  refine zKn ?_ _|  refine zKd ?_|  refine zKa ?_ _)); exact BK444.out)) : gb444 ≠ gb446)); have NB446_444 := zMk ((by rw [hg]; exact Nat.ne_of_gt (blk_lt (g := gb444) (o := .cells #[.int .i64 a0_0, u445001] 24 (0, 0)) (by (with_reducible repeat (first |  refine zKn ?_ _|  refine zKd ?_|  refine zKa ?_ _)); exact BK444.out)) : gb446 ≠ gb444)); replace BK444 := zMk (zKb (g := gb444) (o := .cells #[.int .i64 a0_0, u445001] 24 (0, 0)) (by (with_reducible repeat (first |  refine zKn ?_ _|  refine zKd ?_|  refine zKa ?_ _)); exact BK444.out) hb); clear hb hbox hg; have hnb35 := NB446_441.out; have hnc35 := NB441_446.out; have hnb36 := NB446_442.out; have hnc36 := NB442_446.out; have hnb37 := NB446_444.out; have hnc37 := NB444_446.out; have hcz38_0 : w34.cell? ⟨gb446, 0, none⟩ = some (.int .i64 0) := (zKc BK446.out 0).trans rfl; have hcz38_1 : w34.cell? ⟨gb446, 1, none⟩ = some (.int .i64 0) := (zKc BK446.out 1).trans rfl; have hcz38_2 : w34.cell? ⟨gb446, 2, none⟩ = some (.int .i64 0) := (zKc BK446.out 2).trans rfl; have hfz38_0 := zKf BK446.out 0; have hfz38_1 := zKf BK446.out 1; have hfz38_2 := zKf BK446.out 2)|  (go_at_call 43; refine (HF.out _ _ _ _ false _ (by exact uT HB.out) A18.out).mono ?_; rintro e w39 ⟨rfl, hb⟩; replace HO_445001 := zMk (zRb (by (with_reducible repeat (first |  apply zRa|  apply zRn|  apply zRd)); exact (zRm (Kd.R_far (p := ⟨gb446, 2, none⟩) (Kd.R_far (p := ⟨gb446, 1, none⟩) (Kd.R_far (p := ⟨gb446, 0, none⟩) (zRm HO_445001.out (fun k_ hk => (⟨hk, hk.2⟩ : _ ∧ k_ ≠ gb446))) (fun _ hk => hk.2) (.int .i64 ((rd_T36 l0_1 x18_1).f0))) (fun _ hk => hk.2) (.int .i64 ((rd_T36 l0_1 x18_1).f1))) (fun _ hk => hk.2) (.int .i64 ((rd_T36 l0_1 x18_1).f2))) (fun _ h_ => h_.1))) hb); replace BK441 := zMk (zKb (g := gb441) (o := .cells #[.int .i64 a0_0, .slice (some ad445) l0_1.length c0_1] 24 (0, 0)) (by (with_reducible repeat (first |  refine zKn ?_ _|  refine zKd ?_|  refine zKa ?_ _)); refine blk_far ?_ NB441_446.out _; (with_reducible repeat (first |  refine zKn ?_ _|  refine zKd ?_|  refine zKa ?_ _)); refine blk_far ?_ NB441_446.out _; (with_reducible repeat (first |  refine zKn ?_ _|  refine zKd ?_|  refine zKa ?_ _)); refine blk_far ?_ NB441_446.out _; (with_reducible repeat (first |  refine zKn ?_ _|  refine zKd ?_|  refine zKa ?_ _)); exact BK441.out) hb); replace BK442 := zMk (zKb (g := gb442) (o := .cells #[.int .i64 0, .slice none 0 0] 24 (0, 0)) (by (with_reducible repeat (first |  refine zKn ?_ _|  refine zKd ?_|  refine zKa ?_ _)); refine blk_far ?_ NB442_446.out _; (with_reducible repeat (first |  refine zKn ?_ _|  refine zKd ?_|  refine zKa ?_ _)); refine blk_far ?_ NB442_446.out _; (with_reducible repeat (first |  refine zKn ?_ _|  refine zKd ?_|  refine zKa ?_ _)); refine blk_far ?_ NB442_446.out _; (with_reducible repeat (first |  refine zKn ?_ _|  refine zKd ?_|  refine zKa ?_ _)); exact BK442.out) hb); replace BK444 := zMk (zKb (g := gb444) (o := .cells #[.int .i64 a0_0, u445001] 24 (0, 0)) (by (with_reducible repeat (first |  refine zKn ?_ _|  refine zKd ?_|  refine zKa ?_ _)); refine blk_far ?_ NB444_446.out _; (with_reducible repeat (first |  refine zKn ?_ _|  refine zKd ?_|  refine zKa ?_ _)); refine blk_far ?_ NB444_446.out _; (with_reducible repeat (first |  refine zKn ?_ _|  refine zKd ?_|  refine zKa ?_ _)); refine blk_far ?_ NB444_446.out _; (with_reducible repeat (first |  refine zKn ?_ _|  refine zKd ?_|  refine zKa ?_ _)); exact BK444.out) hb); replace BK446 := zMk (zKb (g := gb446) (o := .cells #[.int .i64 ((rd_T36 l0_1 x18_1).f0), .int .i64 ((rd_T36 l0_1 x18_1).f1), .int .i64 ((rd_T36 l0_1 x18_1).f2)] 36 (0, 0)) (by (with_reducible repeat (first |  refine zKn ?_ _|  refine zKd ?_|  refine zKa ?_ _)); refine blk_put (cs := #[.int .i64 ((rd_T36 l0_1 x18_1).f0), .int .i64 ((rd_T36 l0_1 x18_1).f1), .int .i64 0]) ?_ 2 _ rfl; (with_reducible repeat (first |  refine zKn ?_ _|  refine zKd ?_|  refine zKa ?_ _)); refine blk_put (cs := #[.int .i64 ((rd_T36 l0_1 x18_1).f0), .int .i64 0, .int .i64 0]) ?_ 1 _ rfl; (with_reducible repeat (first |  refine zKn ?_ _|  refine zKd ?_|  refine zKa ?_ _)); refine blk_put (cs := #[.int .i64 0, .int .i64 0, .int .i64 0]) ?_ 0 _ rfl; (with_reducible repeat (first |  refine zKn ?_ _|  refine zKd ?_|  refine zKa ?_ _)); exact BK446.out) hb); replace HB := zMk (zBt (by exact uT HB.out) hb); (try clear hb); (try clear hb2); (try clear hk); (try clear hi)))
        go_roundg k1
        case measure => have := HK1.out; omega
        case rel => exact ⟨(wrap64 (x18_1 + 1)), (x445001_1), (u445001), (by first | rfl | (simp; done) | (simp [*]; done)), H', ⟨by have := HK1.out; omega⟩, ⟨by (with_reducible repeat (first | apply zRa | apply zRn | apply zRd)); exact zRm HO_445001.out (fun _ hk => trivial)⟩, ⟨by (with_reducible repeat (first | refine zKn ?_ _ | refine zKd ?_ | refine zKa ?_ _)); exact BK441.out⟩, ⟨by (with_reducible repeat (first | refine zKn ?_ _ | refine zKd ?_ | refine zKa ?_ _)); exact BK442.out⟩, ⟨by (with_reducible repeat (first | refine zKn ?_ _ | refine zKd ?_ | refine zKa ?_ _)); exact BK444.out⟩, ⟨by exact uT HB.out⟩⟩
    · rw [if_neg c15] at H
      have c15b0 : decide (x18_1 < (l0_1.length : Int)) = false := decide_eq_false c15
      clear c15
      simp only [Option.some.injEq, Prod.mk.injEq] at H
      obtain ⟨rfl, rfl⟩ := H
      have hnb40 := NB444_441.out
      have hnc40 := NB441_444.out
      have hnb41 := NB444_442.out
      have hnc41 := NB442_444.out
      have hcz42_0 : wr.cell? ⟨gb444, 0, none⟩ = some (.int .i64 a0_0) := (zKc BK444.out 0).trans rfl
      have hcz42_1 : wr.cell? ⟨gb444, 1, none⟩ = some (u445001) := (zKc BK444.out 1).trans rfl
      have hfz42_0 := zKf BK444.out 0
      have hfz42_1 := zKf BK444.out 1
      have hnb43 := NB442_441.out
      have hnc43 := NB441_442.out
      have hcz44_0 : wr.cell? ⟨gb442, 0, none⟩ = some (.int .i64 0) := (zKc BK442.out 0).trans rfl
      have hcz44_1 : wr.cell? ⟨gb442, 1, none⟩ = some (.slice none 0 0) := (zKc BK442.out 1).trans rfl
      have hfz44_0 := zKf BK442.out 0
      have hfz44_1 := zKf BK442.out 1
      obtain ⟨Ao45, co45, eo45⟩ := zRs HO_445001.out
      subst eo45
      go_wp2
      refine bodyPost_ret (results_cell_row rfl _ _ gb442 24 #[.int .i64 a0_0, .slice Ao45 x445001_1.length co45] (0, 0) _ rfl (by (with_reducible repeat (first | refine zKn ?_ _ | refine zKd ?_ | refine zKa ?_ _)); refine blk_put (cs := #[.int .i64 a0_0, .slice none 0 0]) ?_ 1 _ rfl; (with_reducible repeat (first | refine zKn ?_ _ | refine zKd ?_ | refine zKa ?_ _)); refine blk_put (cs := #[.int .i64 0, .slice none 0 0]) ?_ 0 _ rfl; (with_reducible repeat (first | refine zKn ?_ _ | refine zKd ?_ | refine zKa ?_ _)); exact BK442.out) Try.underlying24 rfl (by kernel_rfl)) rfl ?_
      exact ⟨_, by first | rfl | (simp [errW_none, errW_some] <;> rfl) | (simp [*, errW_none, errW_some] <;> rfl), by (with_reducible repeat (first | apply zRa | apply zRn | apply zRd)); exact zRm (Kd.R_far (p := ⟨gb442, 1, none⟩) (Kd.R_far (p := ⟨gb442, 0, none⟩) (Kd.R_types HO_445001.out BK442.out (by decide)) (fun _ hk => hk.2) (.int .i64 a0_0)) (fun _ hk => hk.2) (.slice Ao45 x445001_1.length co45)) (fun _ hk => trivial), by exact uT HB.out⟩
  · rw [if_neg c3] at H
    have c3b0 : (t443 == 0) = false := beq_eq_false_iff_ne.mpr c3
    have c3b1 : (t443 != 0) = true := bne_iff_ne.mpr c3
    simp only [Option.some.injEq, Prod.mk.injEq] at H
    obtain ⟨rfl, rfl⟩ := H
    go_enter Try.func42, Try.ntmps42
    go_wp2_with (first |  ((with_reducible refine gate_dst (N := 2) rfl ?_); refine box_event ?hg (N := 2) ?hd (cs := #[.int .i64 a0_0, .slice A0_1 l0_1.length c0_1]) (t := 24) ?hr ?_; (case hd => rfl); (case hg => rfl); (case hr => first |  (go_simp; done)|  (go_simp; rfl)|  (go_simp; rw [show ∀ x : Int, IntKind.u32.wrap (IntKind.u8.wrap x) = x % 256 from fun x => (by show (x % 256) % 4294967296 = x % 256; omega)])); intro gb441 hg w46 hbox hb; have BK441 := zMk (hbox); have GW441 := zMk ((by rw [hg]; exact (zBs (by exact uT HB.out)) : w.heap.size ≤ gb441)); have GE441 := zMk ((by rw [hg]; exact (zBs (by exact uT HB.out)) : w.heap.size ≤ gb441)); have IGE441 := ownGe GE441.out; replace HB := zMk (zBt (by exact uT HB.out) hb); clear hb hbox hg)|  ((with_reducible refine gate_dst (N := 4) rfl ?_); refine box_event ?hg (N := 4) ?hd (cs := #[.int .i64 0, .slice none 0 0]) (t := 24) ?hr ?_; (case hd => rfl); (case hg => rfl); (case hr => first |  (go_simp; done)|  (go_simp; rfl)|  (go_simp; rw [show ∀ x : Int, IntKind.u32.wrap (IntKind.u8.wrap x) = x % 256 from fun x => (by show (x % 256) % 4294967296 = x % 256; omega)])); intro gb442 hg w47 hbox hb; have BK442 := zMk (hbox); have GW442 := zMk ((by rw [hg]; exact (zBs (by exact uT HB.out)) : w.heap.size ≤ gb442)); have GE442 := zMk ((by rw [hg]; exact (zBs (by exact uT HB.out)) : w.heap.size ≤ gb442)); have IGE442 := ownGe GE442.out; replace HB := zMk (zBt (by exact uT HB.out) hb); have NB441_442 := zMk ((by rw [hg]; exact Nat.ne_of_lt (blk_lt (g := gb441) (o := .cells #[.int .i64 a0_0, .slice A0_1 l0_1.length c0_1] 24 (0, 0)) (by (with_reducible repeat (first |  refine zKn ?_ _|  refine zKd ?_|  refine zKa ?_ _)); exact BK441.out)) : gb441 ≠ gb442)); have NB442_441 := zMk ((by rw [hg]; exact Nat.ne_of_gt (blk_lt (g := gb441) (o := .cells #[.int .i64 a0_0, .slice A0_1 l0_1.length c0_1] 24 (0, 0)) (by (with_reducible repeat (first |  refine zKn ?_ _|  refine zKd ?_|  refine zKa ?_ _)); exact BK441.out)) : gb442 ≠ gb441)); replace BK441 := zMk (zKb (g := gb441) (o := .cells #[.int .i64 a0_0, .slice A0_1 l0_1.length c0_1] 24 (0, 0)) (by (with_reducible repeat (first |  refine zKn ?_ _|  refine zKd ?_|  refine zKa ?_ _)); exact BK441.out) hb); clear hb hbox hg; have hnb48 := NB441_442.out; have hnc48 := NB442_441.out; have hcz49_0 : w47.cell? ⟨gb441, 0, none⟩ = some (.int .i64 a0_0) := (zKc BK441.out 0).trans rfl; have hcz49_1 : w47.cell? ⟨gb441, 1, none⟩ = some (.slice A0_1 l0_1.length c0_1) := (zKc BK441.out 1).trans rfl; have hfz49_0 := zKf BK441.out 0; have hfz49_1 := zKf BK441.out 1)|  ((with_reducible refine gate_callee (f := 11) rfl ?_); refine goesL_ (some 9) rfl rfl Try.func11 (by kernel_rfl) rfl #[.agg #[.int .i64 a0_0, .slice A0_1 l0_1.length c0_1]] rfl (by (try simp only [zMa, zMc, zMn]); first |  done|  rfl|  (simp only [zLd, zLt]; rfl)) ?_; (with_reducible refine (graph_Right.calls k a0_0 _ _ l0_1 t443 _ ?side1 ?side2 A2.out).mono ?_); (case side1 => repeat (first |  exact (Kd.C_below HR0_1.out HB.out)|  (with_reducible refine zCa ?_ _)|  (with_reducible refine zCn ?_ _)|  (with_reducible refine zCd ?_))); (case side2 => exact HC0_1.out); rintro e w50 ⟨rfl, hb⟩; refine ⟨_, rfl, ?_⟩; replace BK441 := zMk (zKb (g := gb441) (o := .cells #[.int .i64 a0_0, .slice A0_1 l0_1.length c0_1] 24 (0, 0)) (by (with_reducible repeat (first |  refine zKn ?_ _|  refine zKd ?_|  refine zKa ?_ _)); exact BK441.out) hb); replace BK442 := zMk (zKb (g := gb442) (o := .cells #[.int .i64 0, .slice none 0 0] 24 (0, 0)) (by (with_reducible repeat (first |  refine zKn ?_ _|  refine zKd ?_|  refine zKa ?_ _)); exact BK442.out) hb); replace HB := zMk (zBt (by exact uT HB.out) hb); (try clear hb); (try clear hb2); (try clear hk); (try clear hi); have hcz51_0 : w50.cell? ⟨gb442, 0, none⟩ = some (.int .i64 0) := (zKc BK442.out 0).trans rfl; have hcz51_1 : w50.cell? ⟨gb442, 1, none⟩ = some (.slice none 0 0) := (zKc BK442.out 1).trans rfl; have hfz51_0 := zKf BK442.out 0; have hfz51_1 := zKf BK442.out 1))
    refine bodyPost_ret (results_cell_row rfl _ _ gb442 24 #[.int .i64 0, .slice none 0 0] (0, 0) _ rfl (by (with_reducible repeat (first | refine zKn ?_ _ | refine zKd ?_ | refine zKa ?_ _)); refine blk_put (cs := #[.int .i64 0, .slice none 0 0]) ?_ 1 _ rfl; (with_reducible repeat (first | refine zKn ?_ _ | refine zKd ?_ | refine zKa ?_ _)); refine blk_put (cs := #[.int .i64 0, .slice none 0 0]) ?_ 0 _ rfl; (with_reducible repeat (first | refine zKn ?_ _ | refine zKd ?_ | refine zKa ?_ _)); exact BK442.out) Try.underlying24 rfl (by kernel_rfl)) rfl ?_
    exact ⟨_, by first | rfl | (simp [errW_none, errW_some] <;> rfl) | (simp [*, errW_none, errW_some] <;> rfl), by first | exact Kd.R_nil _ _ _ _ _ | exact Kd.N_nil _ _ _ _ _ | exact Kd.V_nil _ _ _ _ _ | exact Kd.Q_nil _ _ _ _ _ | exact Kd.S_nil _ _ _ _ _, by exact uT HB.out⟩

set_option maxHeartbeats 8000000 in
set_option maxRecDepth 100000 in
theorem graph_some.calls1 (pf : Int → Int → Int → Int → Option Bool) (hh_ : Nat) (k : Nat) (a0_0 : Int) (A0_1 : Option Addr) (c0_1 : Nat) (l0_1 : List (S36)) (r1 : Int) (r2 : List (S36)) (w : World) (hr0_1 : Kd.C k36 w A0_1 l0_1.length l0_1) (hc0_1 : l0_1.length ≤ c0_1) (hf_ : ∀ (i u v q : Int) (b : Bool) (W : World), Below w.heap.size w W → pf i u v q = some b → Calls Try.prog 44 #[.int .i64 i, .agg #[.int .i64 u, .int .i64 v, .int .i64 q], .pointer (some ⟨hh_, 0, none⟩)] W fun e w' => e = .returned (.bool b) ∧ Below W.heap.size W w') (h : graph_some.f pf k a0_0 l0_1 = some (r1, r2)) :
    Calls Try.prog 42 #[.agg #[.int .i64 a0_0, .slice A0_1 l0_1.length c0_1], .func (.func 44) #[] #[.pointer (some ⟨hh_, 0, none⟩)]] w fun e w' => ∃ v1_ : Value, e = .returned (.agg #[.int .i64 r1, v1_]) ∧ Kd.R k36 36 w' w.heap.size (fun _ => True) v1_ r2 ∧ Below w.heap.size w w' := by
  have hu24 := Try.underlying24
  have hu36 := Try.underlying36
  have HR0_1 := zMk hr0_1
  have HC0_1 := zMk hc0_1
  clear hr0_1 hc0_1
  have HB := zMk (Below.refl w.heap.size w)
  have HF := zMk hf_
  clear hf_
  have H : ((graph_Right.f k a0_0 l0_1).bind fun t443 => (if t443 = 0 then (graph_some.l0 pf k l0_1 (l0_1.length : Int) 0 a0_0 ([] : List (S36))) else (some (0, ([] : List (S36)))))) = some (r1, r2) := h
  clear h
  replace H := bnd H
  obtain ⟨t443, A20, H⟩ := H
  have A2 := zMk A20
  clear A20
  by_cases c3 : t443 = 0
  · rw [if_pos c3] at H
    have c3b0 : (t443 == 0) = true := beq_iff_eq.mpr c3
    have c3b1 : (t443 != 0) = false := bne_eq_false_iff_eq.mpr c3
    clear c3
    have H' := zMk H
    clear H
    go_enter Try.func42, Try.ntmps42
    go_wp2_with (first |  ((with_reducible refine gate_dst (N := 2) rfl ?_); refine box_event ?hg (N := 2) ?hd (cs := #[.int .i64 a0_0, .slice A0_1 l0_1.length c0_1]) (t := 24) ?hr ?_; (case hd => rfl); (case hg => rfl); (case hr => first |  (go_simp; done)|  (go_simp; rfl)|  (go_simp; rw [show ∀ x : Int, IntKind.u32.wrap (IntKind.u8.wrap x) = x % 256 from fun x => (by show (x % 256) % 4294967296 = x % 256; omega)])); intro gb441 hg w4 hbox hb; have BK441 := zMk (hbox); have GW441 := zMk ((by rw [hg]; exact (zBs (by exact uT HB.out)) : w.heap.size ≤ gb441)); have GE441 := zMk ((by rw [hg]; exact (zBs (by exact uT HB.out)) : w.heap.size ≤ gb441)); have IGE441 := ownGe GE441.out; replace HB := zMk (zBt (by exact uT HB.out) hb); clear hb hbox hg)|  ((with_reducible refine gate_dst (N := 4) rfl ?_); refine box_event ?hg (N := 4) ?hd (cs := #[.int .i64 0, .slice none 0 0]) (t := 24) ?hr ?_; (case hd => rfl); (case hg => rfl); (case hr => first |  (go_simp; done)|  (go_simp; rfl)|  (go_simp; rw [show ∀ x : Int, IntKind.u32.wrap (IntKind.u8.wrap x) = x % 256 from fun x => (by show (x % 256) % 4294967296 = x % 256; omega)])); intro gb442 hg w5 hbox hb; have BK442 := zMk (hbox); have GW442 := zMk ((by rw [hg]; exact (zBs (by exact uT HB.out)) : w.heap.size ≤ gb442)); have GE442 := zMk ((by rw [hg]; exact (zBs (by exact uT HB.out)) : w.heap.size ≤ gb442)); have IGE442 := ownGe GE442.out; replace HB := zMk (zBt (by exact uT HB.out) hb); have NB441_442 := zMk ((by rw [hg]; exact Nat.ne_of_lt (blk_lt (g := gb441) (o := .cells #[.int .i64 a0_0, .slice A0_1 l0_1.length c0_1] 24 (0, 0)) (by (with_reducible repeat (first |  refine zKn ?_ _|  refine zKd ?_|  refine zKa ?_ _)); exact BK441.out)) : gb441 ≠ gb442)); have NB442_441 := zMk ((by rw [hg]; exact Nat.ne_of_gt (blk_lt (g := gb441) (o := .cells #[.int .i64 a0_0, .slice A0_1 l0_1.length c0_1] 24 (0, 0)) (by (with_reducible repeat (first |  refine zKn ?_ _|  refine zKd ?_|  refine zKa ?_ _)); exact BK441.out)) : gb442 ≠ gb441)); replace BK441 := zMk (zKb (g := gb441) (o := .cells #[.int .i64 a0_0, .slice A0_1 l0_1.length c0_1] 24 (0, 0)) (by (with_reducible repeat (first |  refine zKn ?_ _|  refine zKd ?_|  refine zKa ?_ _)); exact BK441.out) hb); clear hb hbox hg; have hnb6 := NB441_442.out; have hnc6 := NB442_441.out; have hcz7_0 : w5.cell? ⟨gb441, 0, none⟩ = some (.int .i64 a0_0) := (zKc BK441.out 0).trans rfl; have hcz7_1 : w5.cell? ⟨gb441, 1, none⟩ = some (.slice A0_1 l0_1.length c0_1) := (zKc BK441.out 1).trans rfl; have hfz7_0 := zKf BK441.out 0; have hfz7_1 := zKf BK441.out 1)|  ((with_reducible refine gate_callee (f := 11) rfl ?_); refine goesL_ (some 9) rfl rfl Try.func11 (by kernel_rfl) rfl #[.agg #[.int .i64 a0_0, .slice A0_1 l0_1.length c0_1]] rfl (by (try simp only [zMa, zMc, zMn]); first |  done|  rfl|  (simp only [zLd, zLt]; rfl)) ?_; (with_reducible refine (graph_Right.calls k a0_0 _ _ l0_1 t443 _ ?side1 ?side2 A2.out).mono ?_); (case side1 => repeat (first |  exact (Kd.C_below HR0_1.out HB.out)|  (with_reducible refine zCa ?_ _)|  (with_reducible refine zCn ?_ _)|  (with_reducible refine zCd ?_))); (case side2 => exact HC0_1.out); rintro e w8 ⟨rfl, hb⟩; refine ⟨_, rfl, ?_⟩; replace BK441 := zMk (zKb (g := gb441) (o := .cells #[.int .i64 a0_0, .slice A0_1 l0_1.length c0_1] 24 (0, 0)) (by (with_reducible repeat (first |  refine zKn ?_ _|  refine zKd ?_|  refine zKa ?_ _)); exact BK441.out) hb); replace BK442 := zMk (zKb (g := gb442) (o := .cells #[.int .i64 0, .slice none 0 0] 24 (0, 0)) (by (with_reducible repeat (first |  refine zKn ?_ _|  refine zKd ?_|  refine zKa ?_ _)); exact BK442.out) hb); replace HB := zMk (zBt (by exact uT HB.out) hb); (try clear hb); (try clear hb2); (try clear hk); (try clear hi); have hcz9_0 : w8.cell? ⟨gb441, 0, none⟩ = some (.int .i64 a0_0) := (zKc BK441.out 0).trans rfl; have hcz9_1 : w8.cell? ⟨gb441, 1, none⟩ = some (.slice A0_1 l0_1.length c0_1) := (zKc BK441.out 1).trans rfl; have hfz9_0 := zKf BK441.out 0; have hfz9_1 := zKf BK441.out 1)|  ((with_reducible refine gate_dst (N := 5) rfl ?_); refine box_event ?hg (N := 5) ?hd (cs := #[.int .i64 0, .slice none 0 0]) (t := 24) ?hr ?_; (case hd => rfl); (case hg => rfl); (case hr => first |  (go_simp; done)|  (go_simp; rfl)|  (go_simp; rw [show ∀ x : Int, IntKind.u32.wrap (IntKind.u8.wrap x) = x % 256 from fun x => (by show (x % 256) % 4294967296 = x % 256; omega)])); intro gb444 hg w10 hbox hb; have BK444 := zMk (hbox); have GW444 := zMk ((by rw [hg]; exact (zBs (by exact uT HB.out)) : w.heap.size ≤ gb444)); have GE444 := zMk ((by rw [hg]; exact (zBs (by exact uT HB.out)) : w.heap.size ≤ gb444)); have IGE444 := ownGe GE444.out; replace HB := zMk (zBt (by exact uT HB.out) hb); have NB441_444 := zMk ((by rw [hg]; exact Nat.ne_of_lt (blk_lt (g := gb441) (o := .cells #[.int .i64 a0_0, .slice A0_1 l0_1.length c0_1] 24 (0, 0)) (by (with_reducible repeat (first |  refine zKn ?_ _|  refine zKd ?_|  refine zKa ?_ _)); exact BK441.out)) : gb441 ≠ gb444)); have NB444_441 := zMk ((by rw [hg]; exact Nat.ne_of_gt (blk_lt (g := gb441) (o := .cells #[.int .i64 a0_0, .slice A0_1 l0_1.length c0_1] 24 (0, 0)) (by (with_reducible repeat (first |  refine zKn ?_ _|  refine zKd ?_|  refine zKa ?_ _)); exact BK441.out)) : gb444 ≠ gb441)); replace BK441 := zMk (zKb (g := gb441) (o := .cells #[.int .i64 a0_0, .slice A0_1 l0_1.length c0_1] 24 (0, 0)) (by (with_reducible repeat (first |  refine zKn ?_ _|  refine zKd ?_|  refine zKa ?_ _)); exact BK441.out) hb); have NB442_444 := zMk ((by rw [hg]; exact Nat.ne_of_lt (blk_lt (g := gb442) (o := .cells #[.int .i64 0, .slice none 0 0] 24 (0, 0)) (by (with_reducible repeat (first |  refine zKn ?_ _|  refine zKd ?_|  refine zKa ?_ _)); exact BK442.out)) : gb442 ≠ gb444)); have NB444_442 := zMk ((by rw [hg]; exact Nat.ne_of_gt (blk_lt (g := gb442) (o := .cells #[.int .i64 0, .slice none 0 0] 24 (0, 0)) (by (with_reducible repeat (first |  refine zKn ?_ _|  refine zKd ?_|  refine zKa ?_ _)); exact BK442.out)) : gb444 ≠ gb442)); replace BK442 := zMk (zKb (g := gb442) (o := .cells #[.int .i64 0, .slice none 0 0] 24 (0, 0)) (by (with_reducible repeat (first |  refine zKn ?_ _|  refine zKd ?_|  refine zKa ?_ _)); exact BK442.out) hb); clear hb hbox hg; have hnb11 := NB444_441.out; have hnc11 := NB441_444.out; have hnb12 := NB444_442.out; have hnc12 := NB442_444.out; have hcz13_0 : w10.cell? ⟨gb444, 0, none⟩ = some (.int .i64 0) := (zKc BK444.out 0).trans rfl; have hcz13_1 : w10.cell? ⟨gb444, 1, none⟩ = some (.slice none 0 0) := (zKc BK444.out 1).trans rfl; have hfz13_0 := zKf BK444.out 0; have hfz13_1 := zKf BK444.out 1; have hcz14_0 : w10.cell? ⟨gb441, 0, none⟩ = some (.int .i64 a0_0) := (zKc BK441.out 0).trans rfl; have hcz14_1 : w10.cell? ⟨gb441, 1, none⟩ = some (.slice A0_1 l0_1.length c0_1) := (zKc BK441.out 1).trans rfl; have hfz14_0 := zKf BK441.out 0; have hfz14_1 := zKf BK441.out 1))
    go_loopg [18] k (fun kq v18 w' => ∃ (x18_1 : Int) (x445001_1 : List (S36)) (u445001 : Value), v18 = .int .i64 x18_1 ∧ Aside0 (graph_some.l0 pf kq l0_1 (l0_1.length : Int) x18_1 a0_0 x445001_1 = some (r1, r2)) ∧ Aside0 (kq ≤ k) ∧ Aside0 (Kd.R k36 36 w' w.heap.size (fun _ => True) u445001 x445001_1) ∧ Aside0 (w'.heap[gb441]? = some (.cells #[.int .i64 a0_0, (.slice A0_1 l0_1.length c0_1)] 24 (0, 0))) ∧ Aside0 (w'.heap[gb442]? = some (.cells #[.int .i64 0, (.slice none 0 0)] 24 (0, 0))) ∧ Aside0 (w'.heap[gb444]? = some (.cells #[.int .i64 a0_0, u445001] 24 (0, 0))) ∧ Aside0 (Below w.heap.size w w'))
    case atStart => exact ⟨(0), (([] : List (S36))), (.slice none 0 0), (by first | rfl | (simp; done) | (simp [*]; done)), H', ⟨Nat.le_refl _⟩, ⟨by first | exact Kd.R_nil _ _ _ _ _ | exact Kd.N_nil _ _ _ _ _ | exact Kd.V_nil _ _ _ _ _ | exact Kd.Q_nil _ _ _ _ _ | exact Kd.S_nil _ _ _ _ _⟩, ⟨by (with_reducible repeat (first | refine zKn ?_ _ | refine zKd ?_ | refine zKa ?_ _)); refine blk_far ?_ NB441_444.out _; (with_reducible repeat (first | refine zKn ?_ _ | refine zKd ?_ | refine zKa ?_ _)); refine blk_far ?_ NB441_444.out _; (with_reducible repeat (first | refine zKn ?_ _ | refine zKd ?_ | refine zKa ?_ _)); exact BK441.out⟩, ⟨by (with_reducible repeat (first | refine zKn ?_ _ | refine zKd ?_ | refine zKa ?_ _)); refine blk_far ?_ NB442_444.out _; (with_reducible repeat (first | refine zKn ?_ _ | refine zKd ?_ | refine zKa ?_ _)); refine blk_far ?_ NB442_444.out _; (with_reducible repeat (first | refine zKn ?_ _ | refine zKd ?_ | refine zKa ?_ _)); exact BK442.out⟩, ⟨by (with_reducible repeat (first | refine zKn ?_ _ | refine zKd ?_ | refine zKa ?_ _)); refine blk_put (cs := #[.int .i64 a0_0, .slice none 0 0]) ?_ 1 _ rfl; (with_reducible repeat (first | refine zKn ?_ _ | refine zKd ?_ | refine zKa ?_ _)); refine blk_put (cs := #[.int .i64 0, .slice none 0 0]) ?_ 0 _ rfl; (with_reducible repeat (first | refine zKn ?_ _ | refine zKd ?_ | refine zKa ?_ _)); exact BK444.out⟩, ⟨by exact uT HB.out⟩⟩
    clear H'
    obtain ⟨x18_1, x445001_1, u445001, rfl, HA, HK1, HO_445001, BK441, BK442, BK444, HB⟩ := hrel
    rcases gk with _ | k1
    · exact absurd HA.out (by simp [graph_some.l0])
    have H := HA.out
    clear HA
    simp only [graph_some.l0] at H
    by_cases c15 : x18_1 < (l0_1.length : Int)
    · rw [if_pos c15] at H
      have c15b0 : decide (x18_1 < (l0_1.length : Int)) = true := decide_eq_true c15
      clear c15
      by_cases c16 : 0 ≤ x18_1
      rotate_left
      · rw [if_neg c16] at H; exact absurd H (by simp)
      rw [if_pos c16] at H
      have c16b0 : decide (0 ≤ x18_1) = true := decide_eq_true c16
      clear c16
      by_cases c17 : x18_1 < (l0_1.length : Int)
      rotate_left
      · rw [if_neg c17] at H; exact absurd H (by simp)
      rw [if_pos c17] at H
      have c17b0 : decide (x18_1 < (l0_1.length : Int)) = true := decide_eq_true c17
      clear c17
      replace H := bnd H
      obtain ⟨t447, A180, H⟩ := H
      have A18 := zMk A180
      clear A180
      by_cases c19 : t447 = true
      · subst c19
        replace H : (if x445001_1.length < 5864062014805 then (graph_some.l0 pf k1 l0_1 (l0_1.length : Int) (wrap64 (x18_1 + 1)) a0_0 (x445001_1 ++ [(⟨(rd_T36 l0_1 x18_1).f0, (rd_T36 l0_1 x18_1).f1, (rd_T36 l0_1 x18_1).f2⟩ : S36)])) else (none)) = some (r1, r2) := by rw [if_pos rfl] at H; exact H
        by_cases c20 : x445001_1.length < 5864062014805
        rotate_left
        · rw [if_neg c20] at H; exact absurd H (by simp)
        rw [if_pos c20] at H
        have LMc20 := zMk c20
        clear c20
        obtain ⟨y448, hy448⟩ : ∃ y_ : List (S36), y_ = (x445001_1 ++ [(⟨(rd_T36 l0_1 x18_1).f0, (rd_T36 l0_1 x18_1).f1, (rd_T36 l0_1 x18_1).f2⟩ : S36)]) := ⟨_, rfl⟩
        replace H : (graph_some.l0 pf k1 l0_1 (l0_1.length : Int) (wrap64 (x18_1 + 1)) a0_0 y448) = some (r1, r2) := by first | (rw [hy448]; with_reducible exact H) | (have H2_ := bsm H; first | (rw [hy448]; with_reducible exact H2_) | with_reducible exact H2_) | with_reducible exact H | (rw [hy448]; exact H) | exact H
        have Ny448 := zMk hy448
        clear hy448
        have H' := zMk H
        clear H
        have p445 : 0 ≤ (x18_1 : Int) := of_decide_eq_true (by first | (with_reducible assumption) | assumption)
        have q445 : x18_1 < (l0_1.length : Int) := of_decide_eq_true (by first | (with_reducible assumption) | assumption)
        obtain ⟨ad445, e445, hx445_0, hx445_1, hx445_2⟩ := at_T36 HR0_1.out x18_1 p445 q445
        cases e445
        replace hx445_0 := (HB.out.cell (World.block_lt_of_cell? w _ hx445_0)).trans hx445_0
        replace hx445_1 := (HB.out.cell (World.block_lt_of_cell? w _ hx445_1)).trans hx445_1
        replace hx445_2 := (HB.out.cell (World.block_lt_of_cell? w _ hx445_2)).trans hx445_2
        replace p445 := eq_true p445
        replace q445 := eq_true q445
        go_wp2_with (first |  ((with_reducible refine gate_dst (N := 7) rfl ?_); refine box_event ?hg (N := 7) ?hd (cs := #[.int .i64 0, .int .i64 0, .int .i64 0]) (t := 36) ?hr ?_; (case hd => rfl); (case hg => rfl); (case hr => first |  (go_simp; done)|  (go_simp; rfl)|  (go_simp; rw [show ∀ x : Int, IntKind.u32.wrap (IntKind.u8.wrap x) = x % 256 from fun x => (by show (x % 256) % 4294967296 = x % 256; omega)])); intro gb446 hg w21 hbox hb; replace HO_445001 := zMk (zRb (Kd.R_elderB (by exact uR HO_445001.out) gb446 (Nat.le_of_eq hg.symm)) hb); have BK446 := zMk (hbox); have GW446 := zMk ((by rw [hg]; exact (zBs (by exact uT HB.out)) : w.heap.size ≤ gb446)); have GE446 := zMk ((by rw [hg]; exact (zBs (by exact uT HB.out)) : w.heap.size ≤ gb446)); have IGE446 := ownGe GE446.out; replace HB := zMk (zBt (by exact uT HB.out) hb); have NB441_446 := zMk ((by rw [hg]; exact Nat.ne_of_lt (blk_lt (g := gb441) (o := .cells #[.int .i64 a0_0, .slice (some ad445) l0_1.length c0_1] 24 (0, 0)) (by (with_reducible repeat (first |  refine zKn ?_ _|  refine zKd ?_|  refine zKa ?_ _)); exact BK441.out)) : gb441 ≠ gb446)); have NB446_441 := zMk ((by rw [hg]; exact Nat.ne_of_gt (blk_lt (g := gb441) (o := .cells #[.int .i64 a0_0, .slice (some ad445) l0_1.length c0_1] 24 (0, 0)) (by (with_reducible repeat (first |  refine zKn ?_ _|  refine zKd ?_|  refine zKa ?_ _)); exact BK441.out)) : gb446 ≠ gb441)); replace BK441 := zMk (zKb (g := gb441) (o := .cells #[.int .i64 a0_0, .slice (some ad445) l0_1.length c0_1] 24 (0, 0)) (by (with_reducible repeat (first |  refine zKn ?_ _|  refine zKd ?_|  refine zKa ?_ _)); exact BK441.out) hb); have NB442_446 := zMk ((by rw [hg]; exact Nat.ne_of_lt (blk_lt (g := gb442) (o := .cells #[.int .i64 0, .slice none 0 0] 24 (0, 0)) (by (with_reducible repeat (first |  refine zKn ?_ _|  refine zKd ?_|  refine zKa ?_ _)); exact BK442.out)) : gb442 ≠ gb446)); have NB446_442 := zMk ((by rw [hg]; exact Nat.ne_of_gt (blk_lt (g := gb442) (o := .cells #[.int .i64 0, .slice none 0 0] 24 (0, 0)) (by (with_reducible repeat (first |  refine zKn ?_ _|  refine zKd ?_|  refine zKa ?_ _)); exact BK442.out)) : gb446 ≠ gb442)); replace BK442 := zMk (zKb (g := gb442) (o := .cells #[.int .i64 0, .slice none 0 0] 24 (0, 0)) (by (with_reducible repeat (first |  refine zKn ?_ _|  refine zKd ?_|  refine zKa ?_ _)); exact BK442.out) hb); have NB444_446 := zMk ((by rw [hg]; exact Nat.ne_of_lt (blk_lt (g := gb444) (o := .cells #[.int .i64 a0_0, u445001] 24 (0, 0)) (by (with_reducible repeat (first |  refine zKn ?_ _|  refine zKd ?_|  refine zKa ?_ _)); exact BK444.out)) : gb444 ≠ gb446)); have NB446_444 := zMk ((by rw [hg]; exact Nat.ne_of_gt (blk_lt (g := gb444) (o := .cells #[.int .i64 a0_0, u445001] 24 (0, 0)) (by (with_reducible repeat (first |  refine zKn ?_ _|  refine zKd ?_|  refine zKa ?_ _)); exact BK444.out)) : gb446 ≠ gb444)); replace BK444 := zMk (zKb (g := gb444) (o := .cells #[.int .i64 a0_0, u445001] 24 (0, 0)) (by (with_reducible repeat (first |  refine zKn ?_ _|  refine zKd ?_|  refine zKa ?_ _)); exact BK444.out) hb); clear hb hbox hg; have hnb22 := NB446_441.out; have hnc22 := NB441_446.out; have hnb23 := NB446_442.out; have hnc23 := NB442_446.out; have hnb24 := NB446_444.out; have hnc24 := NB444_446.out; have hcz25_0 : w21.cell? ⟨gb446, 0, none⟩ = some (.int .i64 0) := (zKc BK446.out 0).trans rfl; have hcz25_1 : w21.cell? ⟨gb446, 1, none⟩ = some (.int .i64 0) := (zKc BK446.out 1).trans rfl; have hcz25_2 : w21.cell? ⟨gb446, 2, none⟩ = some (.int .i64 0) := (zKc BK446.out 2).trans rfl; have hfz25_0 := zKf BK446.out 0; have hfz25_1 := zKf BK446.out 1; have hfz25_2 := zKf BK446.out 2)|  (go_at_call 44; refine (HF.out _ _ _ _ true _ (by exact uT HB.out) A18.out).mono ?_; rintro e w26 ⟨rfl, hb⟩; replace HO_445001 := zMk (zRb (by (with_reducible repeat (first |  apply zRa|  apply zRn|  apply zRd)); exact (zRm (Kd.R_far (p := ⟨gb446, 2, none⟩) (Kd.R_far (p := ⟨gb446, 1, none⟩) (Kd.R_far (p := ⟨gb446, 0, none⟩) (zRm HO_445001.out (fun k_ hk => (⟨hk, hk.2⟩ : _ ∧ k_ ≠ gb446))) (fun _ hk => hk.2) (.int .i64 ((rd_T36 l0_1 x18_1).f0))) (fun _ hk => hk.2) (.int .i64 ((rd_T36 l0_1 x18_1).f1))) (fun _ hk => hk.2) (.int .i64 ((rd_T36 l0_1 x18_1).f2))) (fun _ h_ => h_.1))) hb); replace BK441 := zMk (zKb (g := gb441) (o := .cells #[.int .i64 a0_0, .slice (some ad445) l0_1.length c0_1] 24 (0, 0)) (by (with_reducible repeat (first |  refine zKn ?_ _|  refine zKd ?_|  refine zKa ?_ _)); refine blk_far ?_ NB441_446.out _; (with_reducible repeat (first |  refine zKn ?_ _|  refine zKd ?_|  refine zKa ?_ _)); refine blk_far ?_ NB441_446.out _; (with_reducible repeat (first |  refine zKn ?_ _|  refine zKd ?_|  refine zKa ?_ _)); refine blk_far ?_ NB441_446.out _; (with_reducible repeat (first |  refine zKn ?_ _|  refine zKd ?_|  refine zKa ?_ _)); exact BK441.out) hb); replace BK442 := zMk (zKb (g := gb442) (o := .cells #[.int .i64 0, .slice none 0 0] 24 (0, 0)) (by (with_reducible repeat (first |  refine zKn ?_ _|  refine zKd ?_|  refine zKa ?_ _)); refine blk_far ?_ NB442_446.out _; (with_reducible repeat (first |  refine zKn ?_ _|  refine zKd ?_|  refine zKa ?_ _)); refine blk_far ?_ NB442_446.out _; (with_reducible repeat (first |  refine zKn ?_ _|  refine zKd ?_|  refine zKa ?_ _)); refine blk_far ?_ NB442_446.out _; (with_reducible repeat (first |  refine zKn ?_ _|  refine zKd ?_|  refine zKa ?_ _)); exact BK442.out) hb); replace BK444 := zMk (zKb (g := gb444) (o := .cells #[.int .i64 a0_0, u445001] 24 (0, 0)) (by (with_reducible repeat (first |  refine zKn ?_ _|  refine zKd ?_|  refine zKa ?_ _)); refine blk_far ?_ NB444_446.out _; (with_reducible repeat (first |  refine zKn ?_ _|  refine zKd ?_|  refine zKa ?_ _)); refine blk_far ?_ NB444_446.out _; (with_reducible repeat (first |  refine zKn ?_ _|  refine zKd ?_|  refine zKa ?_ _)); refine blk_far ?_ NB444_446.out _; (with_reducible repeat (first |  refine zKn ?_ _|  refine zKd ?_|  refine zKa ?_ _)); exact BK444.out) hb); replace BK446 := zMk (zKb (g := gb446) (o := .cells #[.int .i64 ((rd_T36 l0_1 x18_1).f0), .int .i64 ((rd_T36 l0_1 x18_1).f1), .int .i64 ((rd_T36 l0_1 x18_1).f2)] 36 (0, 0)) (by (with_reducible repeat (first |  refine zKn ?_ _|  refine zKd ?_|  refine zKa ?_ _)); refine blk_put (cs := #[.int .i64 ((rd_T36 l0_1 x18_1).f0), .int .i64 ((rd_T36 l0_1 x18_1).f1), .int .i64 0]) ?_ 2 _ rfl; (with_reducible repeat (first |  refine zKn ?_ _|  refine zKd ?_|  refine zKa ?_ _)); refine blk_put (cs := #[.int .i64 ((rd_T36 l0_1 x18_1).f0), .int .i64 0, .int .i64 0]) ?_ 1 _ rfl; (with_reducible repeat (first |  refine zKn ?_ _|  refine zKd ?_|  refine zKa ?_ _)); refine blk_put (cs := #[.int .i64 0, .int .i64 0, .int .i64 0]) ?_ 0 _ rfl; (with_reducible repeat (first |  refine zKn ?_ _|  refine zKd ?_|  refine zKa ?_ _)); exact BK446.out) hb); replace HB := zMk (zBt (by exact uT HB.out) hb); (try clear hb); (try clear hb2); (try clear hk); (try clear hi); have hnb27 := NB444_441.out; have hnc27 := NB441_444.out; have hnb28 := NB444_442.out; have hnc28 := NB442_444.out; have hcz29_0 : w26.cell? ⟨gb444, 0, none⟩ = some (.int .i64 a0_0) := (zKc BK444.out 0).trans rfl; have hcz29_1 : w26.cell? ⟨gb444, 1, none⟩ = some (u445001) := (zKc BK444.out 1).trans rfl; have hfz29_0 := zKf BK444.out 0; have hfz29_1 := zKf BK444.out 1; have hcz30_0 : w26.cell? ⟨gb446, 0, none⟩ = some (.int .i64 ((rd_T36 l0_1 x18_1).f0)) := (zKc BK446.out 0).trans rfl; have hcz30_1 : w26.cell? ⟨gb446, 1, none⟩ = some (.int .i64 ((rd_T36 l0_1 x18_1).f1)) := (zKc BK446.out 1).trans rfl; have hcz30_2 : w26.cell? ⟨gb446, 2, none⟩ = some (.int .i64 ((rd_T36 l0_1 x18_1).f2)) := (zKc BK446.out 2).trans rfl; have hfz30_0 := zKf BK446.out 0; have hfz30_1 := zKf BK446.out 1; have hfz30_2 := zKf BK446.out 2)|  ((with_reducible refine gate_builtin (b := .append) (xs := #[.tmp 28, .tmp 30]) rfl ?_); at_builtin; refine Kd.R_append k36 (w0 := w) w.heap.size rfl (.tmp 28) (.tmp 30) 22 36 (.agg #[(.int .i64 0), (.int .i64 0), (.int .i64 0)]) 24 rfl Try.underlying22 info36 rfl (by decide) (by omega) u445001 x445001_1 (⟨(rd_T36 l0_1 x18_1).f0, (rd_T36 l0_1 x18_1).f1, (rd_T36 l0_1 x18_1).f2⟩ : S36) [.int .i64 ((rd_T36 l0_1 x18_1).f0), .int .i64 ((rd_T36 l0_1 x18_1).f1), .int .i64 ((rd_T36 l0_1 x18_1).f2)] (fun k_ => k_ ≠ gb446) (fun _ => False) rfl rfl ?aP (fun _ hk => hk.elim) ?aF ?aO ?aB ?aS ?aL ?_; (case aP => exact k36_mkM _ _ _ (⟨(rd_T36 l0_1 x18_1).f0, (rd_T36 l0_1 x18_1).f1, (rd_T36 l0_1 x18_1).f2⟩ : S36)); (case aB => exact (by exact uT HB.out)); (case aF => exact (fun k_ hk => Kd.freshB (g := gb446) (o := .cells #[.int .i64 ((rd_T36 l0_1 x18_1).f0), .int .i64 ((rd_T36 l0_1 x18_1).f1), .int .i64 ((rd_T36 l0_1 x18_1).f2)] 36 (0, 0)) (by (with_reducible repeat (first |  refine zKn ?_ _|  refine zKd ?_|  refine zKa ?_ _)); exact BK446.out) k_ hk)); (case aO => exact (by (with_reducible repeat (first |  apply zRa|  apply zRn|  apply zRd)); exact zRm HO_445001.out (fun _ hk => hk.2))); (case aS => exact (zBs (by exact uT HB.out))); (case aL => have := LMc20.out; omega); intro v449 w31 ho hb hg hat; rw [← Ny448.out] at ho; replace BK441 := zMk (blk_grown (g := gb441) (o := .cells #[.int .i64 a0_0, .slice (some ad445) l0_1.length c0_1] 24 (0, 0)) (by (with_reducible repeat (first |  refine zKn ?_ _|  refine zKd ?_|  refine zKa ?_ _)); exact BK441.out) hg (Kd.R_ne HO_445001.out BK441.out (by decide))); replace BK442 := zMk (blk_grown (g := gb442) (o := .cells #[.int .i64 0, .slice none 0 0] 24 (0, 0)) (by (with_reducible repeat (first |  refine zKn ?_ _|  refine zKd ?_|  refine zKa ?_ _)); exact BK442.out) hg (Kd.R_ne HO_445001.out BK442.out (by decide))); replace BK444 := zMk (blk_grown (g := gb444) (o := .cells #[.int .i64 a0_0, u445001] 24 (0, 0)) (by (with_reducible repeat (first |  refine zKn ?_ _|  refine zKd ?_|  refine zKa ?_ _)); exact BK444.out) hg (Kd.R_ne HO_445001.out BK444.out (by decide))); replace BK446 := zMk (blk_grown (g := gb446) (o := .cells #[.int .i64 ((rd_T36 l0_1 x18_1).f0), .int .i64 ((rd_T36 l0_1 x18_1).f1), .int .i64 ((rd_T36 l0_1 x18_1).f2)] 36 (0, 0)) (by (with_reducible repeat (first |  refine zKn ?_ _|  refine zKd ?_|  refine zKa ?_ _)); exact BK446.out) hg (Kd.R_away HO_445001.out (fun _ hk => hk.2))); replace HB := zMk (hb); have HO450 := zMk (ho); clear HO_445001 ho hb hg hat; obtain ⟨Ao32, co32, eo32⟩ := zRs HO450.out; subst eo32; have hcz33_0 : w31.cell? ⟨gb444, 0, none⟩ = some (.int .i64 a0_0) := (zKc BK444.out 0).trans rfl; have hcz33_1 : w31.cell? ⟨gb444, 1, none⟩ = some (u445001) := (zKc BK444.out 1).trans rfl; have hfz33_0 := zKf BK444.out 0; have hfz33_1 := zKf BK444.out 1))
        go_roundg k1
        case measure => have := HK1.out; omega
        case rel => exact ⟨(wrap64 (x18_1 + 1)), (y448), (.slice Ao32 y448.length co32), (by first | rfl | (simp; done) | (simp [*]; done)), H', ⟨by have := HK1.out; omega⟩, ⟨by (with_reducible repeat (first | apply zRa | apply zRn | apply zRd)); exact zRm (Kd.R_far (p := ⟨gb444, 1, none⟩) (Kd.R_types HO450.out BK444.out (by decide)) (fun _ hk => hk.2) (.slice Ao32 y448.length co32)) (fun _ hk => trivial)⟩, ⟨by (with_reducible repeat (first | refine zKn ?_ _ | refine zKd ?_ | refine zKa ?_ _)); refine blk_far ?_ NB441_444.out _; (with_reducible repeat (first | refine zKn ?_ _ | refine zKd ?_ | refine zKa ?_ _)); exact BK441.out⟩, ⟨by (with_reducible repeat (first | refine zKn ?_ _ | refine zKd ?_ | refine zKa ?_ _)); refine blk_far ?_ NB442_444.out _; (with_reducible repeat (first | refine zKn ?_ _ | refine zKd ?_ | refine zKa ?_ _)); exact BK442.out⟩, ⟨by (with_reducible repeat (first | refine zKn ?_ _ | refine zKd ?_ | refine zKa ?_ _)); refine blk_put (cs := #[.int .i64 a0_0, u445001]) ?_ 1 _ rfl; (with_reducible repeat (first | refine zKn ?_ _ | refine zKd ?_ | refine zKa ?_ _)); exact BK444.out⟩, ⟨by exact uT HB.out⟩⟩
      · replace c19 := Bool.eq_false_iff.mpr c19
        subst c19
        replace H : (graph_some.l0 pf k1 l0_1 (l0_1.length : Int) (wrap64 (x18_1 + 1)) a0_0 x445001_1) = some (r1, r2) := by rw [if_neg (show ¬ (false = true) by decide)] at H; exact H
        have H' := zMk H
        clear H
        have p445 : 0 ≤ (x18_1 : Int) := of_decide_eq_true (by first | (with_reducible assumption) | assumption)
        have q445 : x18_1 < (l0_1.length : Int) := of_decide_eq_true (by first | (with_reducible assumption) | assumption)
        obtain ⟨ad445, e445, hx445_0, hx445_1, hx445_2⟩ := at_T36 HR0_1.out x18_1 p445 q445
        cases e445
        replace hx445_0 := (HB.out.cell (World.block_lt_of_cell? w _ hx445_0)).trans hx445_0
        replace hx445_1 := (HB.out.cell (World.block_lt_of_cell? w _ hx445_1)).trans hx445_1
        replace hx445_2 := (HB.out.cell (World.block_lt_of_cell? w _ hx445_2)).trans hx445_2
        replace p445 := eq_true p445
        replace q445 := eq_true q445
        go_wp2_with (first |  ((with_reducible refine gate_dst (N := 7) rfl ?_); refine box_event ?hg (N := 7) ?hd (cs := #[.int .i64 0, .int .i64 0, .int .i64 0]) (t := 36) ?hr ?_; (case hd => rfl); (case hg => rfl); (case hr => first |  (go_simp; done)|  (go_simp; rfl)|  (go_simp; rw [show ∀ x : Int, IntKind.u32.wrap (IntKind.u8.wrap x) = x % 256 from fun x => (by show (x % 256) % 4294967296 = x % 256; omega)])); intro gb446 hg w34 hbox hb; replace HO_445001 := zMk (zRb (Kd.R_elderB (by exact uR HO_445001.out) gb446 (Nat.le_of_eq hg.symm)) hb); have BK446 := zMk (hbox); have GW446 := zMk ((by rw [hg]; exact (zBs (by exact uT HB.out)) : w.heap.size ≤ gb446)); have GE446 := zMk ((by rw [hg]; exact (zBs (by exact uT HB.out)) : w.heap.size ≤ gb446)); have IGE446 := ownGe GE446.out; replace HB := zMk (zBt (by exact uT HB.out) hb); have NB441_446 := zMk ((by rw [hg]; exact Nat.ne_of_lt (blk_lt (g := gb441) (o := .cells #[.int .i64 a0_0, .slice (some ad445) l0_1.length c0_1] 24 (0, 0)) (by (with_reducible repeat (first |  refine zKn ?_ _|  refine zKd ?_|  refine zKa ?_ _)); exact BK441.out)) : gb441 ≠ gb446)); have NB446_441 := zMk ((by rw [hg]; exact Nat.ne_of_gt (blk_lt (g := gb441) (o := .cells #[.int .i64 a0_0, .slice (some ad445) l0_1.length c0_1] 24 (0, 0)) (by (with_reducible repeat (first |  refine zKn ?_ _|  refine zKd ?_|  refine zKa ?_ _)); exact BK441.out)) : gb446 ≠ gb441)); replace BK441 := zMk (zKb (g := gb441) (o := .cells #[.int .i64 a0_0, .slice (some ad445) l0_1.length c0_1] 24 (0, 0)) (by (with_reducible repeat (first |  refine zKn ?_ _|  refine zKd ?_|  refine zKa ?_ _)); exact BK441.out) hb); have NB442_446 := zMk ((by rw [hg]; exact Nat.ne_of_lt (blk_lt (g := gb442) (o := .cells #[.int .i64 0, .slice none 0 0] 24 (0, 0)) (by (with_reducible repeat (first |  refine zKn ?_ _|  refine zKd ?_|  refine zKa ?_ _)); exact BK442.out)) : gb442 ≠ gb446)); have NB446_442 := zMk ((by rw [hg]; exact Nat.ne_of_gt (blk_lt (g := gb442) (o := .cells #[.int .i64 0, .slice none 0 0] 24 (0, 0)) (by (with_reducible repeat (first |  refine zKn ?_ _|  refine zKd ?_|  refine zKa ?_ _)); exact BK442.out)) : gb446 ≠ gb442)); replace BK442 := zMk (zKb (g := gb442) (o := .cells #[.int .i64 0, .slice none 0 0] 24 (0, 0)) (by (with_reducible repeat (first |  refine zKn ?_ _|  refine zKd ?_|  refine zKa ?_ _)); exact BK442.out) hb); have NB444_446 := zMk ((by rw [hg]; exact Nat.ne_of_lt (blk_lt (g := gb444) (o := .cells #[.int .i64 a0_0, u445001] 24 (0, 0)) (by (with_reducible repeat (first |  refine zKn ?_ _|  refine zKd ?_|  refine zKa ?_ _)); exact BK444.out)) : gb444 ≠ gb446)); have NB446_444 := zMk ((by rw [hg]; exact Nat.ne_of_gt (blk_lt (g := gb444) (o := .cells #[.int .i64 a0_0, u445001] 24 (0, 0)) (by (with_reducible repeat (first |  refine zKn ?_ _|  refine zKd ?_|  refine zKa ?_ _)); exact BK444.out)) : gb446 ≠ gb444)); replace BK444 := zMk (zKb (g := gb444) (o := .cells #[.int .i64 a0_0, u445001] 24 (0, 0)) (by (with_reducible repeat (first |  refine zKn ?_ _|  refine zKd ?_|  refine zKa ?_ _)); exact BK444.out) hb); clear hb hbox hg; have hnb35 := NB446_441.out; have hnc35 := NB441_446.out; have hnb36 := NB446_442.out; have hnc36 := NB442_446.out; have hnb37 := NB446_444.out; have hnc37 := NB444_446.out; have hcz38_0 : w34.cell? ⟨gb446, 0, none⟩ = some (.int .i64 0) := (zKc BK446.out 0).trans rfl; have hcz38_1 : w34.cell? ⟨gb446, 1, none⟩ = some (.int .i64 0) := (zKc BK446.out 1).trans rfl; have hcz38_2 : w34.cell? ⟨gb446, 2, none⟩ = some (.int .i64 0) := (zKc BK446.out 2).trans rfl; have hfz38_0 := zKf BK446.out 0; have hfz38_1 := zKf BK446.out 1; have hfz38_2 := zKf BK446.out 2)|  (go_at_call 44; refine (HF.out _ _ _ _ false _ (by exact uT HB.out) A18.out).mono ?_; rintro e w39 ⟨rfl, hb⟩; replace HO_445001 := zMk (zRb (by (with_reducible repeat (first |  apply zRa|  apply zRn|  apply zRd)); exact (zRm (Kd.R_far (p := ⟨gb446, 2, none⟩) (Kd.R_far (p := ⟨gb446, 1, none⟩) (Kd.R_far (p := ⟨gb446, 0, none⟩) (zRm HO_445001.out (fun k_ hk => (⟨hk, hk.2⟩ : _ ∧ k_ ≠ gb446))) (fun _ hk => hk.2) (.int .i64 ((rd_T36 l0_1 x18_1).f0))) (fun _ hk => hk.2) (.int .i64 ((rd_T36 l0_1 x18_1).f1))) (fun _ hk => hk.2) (.int .i64 ((rd_T36 l0_1 x18_1).f2))) (fun _ h_ => h_.1))) hb); replace BK441 := zMk (zKb (g := gb441) (o := .cells #[.int .i64 a0_0, .slice (some ad445) l0_1.length c0_1] 24 (0, 0)) (by (with_reducible repeat (first |  refine zKn ?_ _|  refine zKd ?_|  refine zKa ?_ _)); refine blk_far ?_ NB441_446.out _; (with_reducible repeat (first |  refine zKn ?_ _|  refine zKd ?_|  refine zKa ?_ _)); refine blk_far ?_ NB441_446.out _; (with_reducible repeat (first |  refine zKn ?_ _|  refine zKd ?_|  refine zKa ?_ _)); refine blk_far ?_ NB441_446.out _; (with_reducible repeat (first |  refine zKn ?_ _|  refine zKd ?_|  refine zKa ?_ _)); exact BK441.out) hb); replace BK442 := zMk (zKb (g := gb442) (o := .cells #[.int .i64 0, .slice none 0 0] 24 (0, 0)) (by (with_reducible repeat (first |  refine zKn ?_ _|  refine zKd ?_|  refine zKa ?_ _)); refine blk_far ?_ NB442_446.out _; (with_reducible repeat (first |  refine zKn ?_ _|  refine zKd ?_|  refine zKa ?_ _)); refine blk_far ?_ NB442_446.out _; (with_reducible repeat (first |  refine zKn ?_ _|  refine zKd ?_|  refine zKa ?_ _)); refine blk_far ?_ NB442_446.out _; (with_reducible repeat (first |  refine zKn ?_ _|  refine zKd ?_|  refine zKa ?_ _)); exact BK442.out) hb); replace BK444 := zMk (zKb (g := gb444) (o := .cells #[.int .i64 a0_0, u445001] 24 (0, 0)) (by (with_reducible repeat (first |  refine zKn ?_ _|  refine zKd ?_|  refine zKa ?_ _)); refine blk_far ?_ NB444_446.out _; (with_reducible repeat (first |  refine zKn ?_ _|  refine zKd ?_|  refine zKa ?_ _)); refine blk_far ?_ NB444_446.out _; (with_reducible repeat (first |  refine zKn ?_ _|  refine zKd ?_|  refine zKa ?_ _)); refine blk_far ?_ NB444_446.out _; (with_reducible repeat (first |  refine zKn ?_ _|  refine zKd ?_|  refine zKa ?_ _)); exact BK444.out) hb); replace BK446 := zMk (zKb (g := gb446) (o := .cells #[.int .i64 ((rd_T36 l0_1 x18_1).f0), .int .i64 ((rd_T36 l0_1 x18_1).f1), .int .i64 ((rd_T36 l0_1 x18_1).f2)] 36 (0, 0)) (by (with_reducible repeat (first |  refine zKn ?_ _|  refine zKd ?_|  refine zKa ?_ _)); refine blk_put (cs := #[.int .i64 ((rd_T36 l0_1 x18_1).f0), .int .i64 ((rd_T36 l0_1 x18_1).f1), .int .i64 0]) ?_ 2 _ rfl; (with_reducible repeat (first |  refine zKn ?_ _|  refine zKd ?_|  refine zKa ?_ _)); refine blk_put (cs := #[.int .i64 ((rd_T36 l0_1 x18_1).f0), .int .i64 0, .int .i64 0]) ?_ 1 _ rfl; (with_reducible repeat (first |  refine zKn ?_ _|  refine zKd ?_|  refine zKa ?_ _)); refine blk_put (cs := #[.int .i64 0, .int .i64 0, .int .i64 0]) ?_ 0 _ rfl; (with_reducible repeat (first |  refine zKn ?_ _|  refine zKd ?_|  refine zKa ?_ _)); exact BK446.out) hb); replace HB := zMk (zBt (by exact uT HB.out) hb); (try clear hb); (try clear hb2); (try clear hk); (try clear hi)))
        go_roundg k1
        case measure => have := HK1.out; omega
        case rel => exact ⟨(wrap64 (x18_1 + 1)), (x445001_1), (u445001), (by first | rfl | (simp; done) | (simp [*]; done)), H', ⟨by have := HK1.out; omega⟩, ⟨by (with_reducible repeat (first | apply zRa | apply zRn | apply zRd)); exact zRm HO_445001.out (fun _ hk => trivial)⟩, ⟨by (with_reducible repeat (first | refine zKn ?_ _ | refine zKd ?_ | refine zKa ?_ _)); exact BK441.out⟩, ⟨by (with_reducible repeat (first | refine zKn ?_ _ | refine zKd ?_ | refine zKa ?_ _)); exact BK442.out⟩, ⟨by (with_reducible repeat (first | refine zKn ?_ _ | refine zKd ?_ | refine zKa ?_ _)); exact BK444.out⟩, ⟨by exact uT HB.out⟩⟩
    · rw [if_neg c15] at H
      have c15b0 : decide (x18_1 < (l0_1.length : Int)) = false := decide_eq_false c15
      clear c15
      simp only [Option.some.injEq, Prod.mk.injEq] at H
      obtain ⟨rfl, rfl⟩ := H
      have hnb40 := NB444_441.out
      have hnc40 := NB441_444.out
      have hnb41 := NB444_442.out
      have hnc41 := NB442_444.out
      have hcz42_0 : wr.cell? ⟨gb444, 0, none⟩ = some (.int .i64 a0_0) := (zKc BK444.out 0).trans rfl
      have hcz42_1 : wr.cell? ⟨gb444, 1, none⟩ = some (u445001) := (zKc BK444.out 1).trans rfl
      have hfz42_0 := zKf BK444.out 0
      have hfz42_1 := zKf BK444.out 1
      have hnb43 := NB442_441.out
      have hnc43 := NB441_442.out
      have hcz44_0 : wr.cell? ⟨gb442, 0, none⟩ = some (.int .i64 0) := (zKc BK442.out 0).trans rfl
      have hcz44_1 : wr.cell? ⟨gb442, 1, none⟩ = some (.slice none 0 0) := (zKc BK442.out 1).trans rfl
      have hfz44_0 := zKf BK442.out 0
      have hfz44_1 := zKf BK442.out 1
      obtain ⟨Ao45, co45, eo45⟩ := zRs HO_445001.out
      subst eo45
      go_wp2
      refine bodyPost_ret (results_cell_row rfl _ _ gb442 24 #[.int .i64 a0_0, .slice Ao45 x445001_1.length co45] (0, 0) _ rfl (by (with_reducible repeat (first | refine zKn ?_ _ | refine zKd ?_ | refine zKa ?_ _)); refine blk_put (cs := #[.int .i64 a0_0, .slice none 0 0]) ?_ 1 _ rfl; (with_reducible repeat (first | refine zKn ?_ _ | refine zKd ?_ | refine zKa ?_ _)); refine blk_put (cs := #[.int .i64 0, .slice none 0 0]) ?_ 0 _ rfl; (with_reducible repeat (first | refine zKn ?_ _ | refine zKd ?_ | refine zKa ?_ _)); exact BK442.out) Try.underlying24 rfl (by kernel_rfl)) rfl ?_
      exact ⟨_, by first | rfl | (simp [errW_none, errW_some] <;> rfl) | (simp [*, errW_none, errW_some] <;> rfl), by (with_reducible repeat (first | apply zRa | apply zRn | apply zRd)); exact zRm (Kd.R_far (p := ⟨gb442, 1, none⟩) (Kd.R_far (p := ⟨gb442, 0, none⟩) (Kd.R_types HO_445001.out BK442.out (by decide)) (fun _ hk => hk.2) (.int .i64 a0_0)) (fun _ hk => hk.2) (.slice Ao45 x445001_1.length co45)) (fun _ hk => trivial), by exact uT HB.out⟩
  · rw [if_neg c3] at H
    have c3b0 : (t443 == 0) = false := beq_eq_false_iff_ne.mpr c3
    have c3b1 : (t443 != 0) = true := bne_iff_ne.mpr c3
    simp only [Option.some.injEq, Prod.mk.injEq] at H
    obtain ⟨rfl, rfl⟩ := H
    go_enter Try.func42, Try.ntmps42
    go_wp2_with (first |  ((with_reducible refine gate_dst (N := 2) rfl ?_); refine box_event ?hg (N := 2) ?hd (cs := #[.int .i64 a0_0, .slice A0_1 l0_1.length c0_1]) (t := 24) ?hr ?_; (case hd => rfl); (case hg => rfl); (case hr => first |  (go_simp; done)|  (go_simp; rfl)|  (go_simp; rw [show ∀ x : Int, IntKind.u32.wrap (IntKind.u8.wrap x) = x % 256 from fun x => (by show (x % 256) % 4294967296 = x % 256; omega)])); intro gb441 hg w46 hbox hb; have BK441 := zMk (hbox); have GW441 := zMk ((by rw [hg]; exact (zBs (by exact uT HB.out)) : w.heap.size ≤ gb441)); have GE441 := zMk ((by rw [hg]; exact (zBs (by exact uT HB.out)) : w.heap.size ≤ gb441)); have IGE441 := ownGe GE441.out; replace HB := zMk (zBt (by exact uT HB.out) hb); clear hb hbox hg)|  ((with_reducible refine gate_dst (N := 4) rfl ?_); refine box_event ?hg (N := 4) ?hd (cs := #[.int .i64 0, .slice none 0 0]) (t := 24) ?hr ?_; (case hd => rfl); (case hg => rfl); (case hr => first |  (go_simp; done)|  (go_simp; rfl)|  (go_simp; rw [show ∀ x : Int, IntKind.u32.wrap (IntKind.u8.wrap x) = x % 256 from fun x => (by show (x % 256) % 4294967296 = x % 256; omega)])); intro gb442 hg w47 hbox hb; have BK442 := zMk (hbox); have GW442 := zMk ((by rw [hg]; exact (zBs (by exact uT HB.out)) : w.heap.size ≤ gb442)); have GE442 := zMk ((by rw [hg]; exact (zBs (by exact uT HB.out)) : w.heap.size ≤ gb442)); have IGE442 := ownGe GE442.out; replace HB := zMk (zBt (by exact uT HB.out) hb); have NB441_442 := zMk ((by rw [hg]; exact Nat.ne_of_lt (blk_lt (g := gb441) (o := .cells #[.int .i64 a0_0, .slice A0_1 l0_1.length c0_1] 24 (0, 0)) (by (with_reducible repeat (first |  refine zKn ?_ _|  refine zKd ?_|  refine zKa ?_ _)); exact BK441.out)) : gb441 ≠ gb442)); have NB442_441 := zMk ((by rw [hg]; exact Nat.ne_of_gt (blk_lt (g := gb441) (o := .cells #[.int .i64 a0_0, .slice A0_1 l0_1.length c0_1] 24 (0, 0)) (by (with_reducible repeat (first |  refine zKn ?_ _|  refine zKd ?_|  refine zKa ?_ _)); exact BK441.out)) : gb442 ≠ gb441)); replace BK441 := zMk (zKb (g := gb441) (o := .cells #[.int .i64 a0_0, .slice A0_1 l0_1.length c0_1] 24 (0, 0)) (by (with_reducible repeat (first |  refine zKn ?_ _|  refine zKd ?_|  refine zKa ?_ _)); exact BK441.out) hb); clear hb hbox hg; have hnb48 := NB441_442.out; have hnc48 := NB442_441.out; have hcz49_0 : w47.cell? ⟨gb441, 0, none⟩ = some (.int .i64 a0_0) := (zKc BK441.out 0).trans rfl; have hcz49_1 : w47.cell? ⟨gb441, 1, none⟩ = some (.slice A0_1 l0_1.length c0_1) := (zKc BK441.out 1).trans rfl; have hfz49_0 := zKf BK441.out 0; have hfz49_1 := zKf BK441.out 1)|  ((with_reducible refine gate_callee (f := 11) rfl ?_); refine goesL_ (some 9) rfl rfl Try.func11 (by kernel_rfl) rfl #[.agg #[.int .i64 a0_0, .slice A0_1 l0_1.length c0_1]] rfl (by (try simp only [zMa, zMc, zMn]); first |  done|  rfl|  (simp only [zLd, zLt]; rfl)) ?_; (with_reducible refine (graph_Right.calls k a0_0 _ _ l0_1 t443 _ ?side1 ?side2 A2.out).mono ?_); (case side1 => repeat (first |  exact (Kd.C_below HR0_1.out HB.out)|  (with_reducible refine zCa ?_ _)|  (with_reducible refine zCn ?_ _)|  (with_reducible refine zCd ?_))); (case side2 => exact HC0_1.out); rintro e w50 ⟨rfl, hb⟩; refine ⟨_, rfl, ?_⟩; replace BK441 := zMk (zKb (g := gb441) (o := .cells #[.int .i64 a0_0, .slice A0_1 l0_1.length c0_1] 24 (0, 0)) (by (with_reducible repeat (first |  refine zKn ?_ _|  refine zKd ?_|  refine zKa ?_ _)); exact BK441.out) hb); replace BK442 := zMk (zKb (g := gb442) (o := .cells #[.int .i64 0, .slice none 0 0] 24 (0, 0)) (by (with_reducible repeat (first |  refine zKn ?_ _|  refine zKd ?_|  refine zKa ?_ _)); exact BK442.out) hb); replace HB := zMk (zBt (by exact uT HB.out) hb); (try clear hb); (try clear hb2); (try clear hk); (try clear hi); have hcz51_0 : w50.cell? ⟨gb442, 0, none⟩ = some (.int .i64 0) := (zKc BK442.out 0).trans rfl; have hcz51_1 : w50.cell? ⟨gb442, 1, none⟩ = some (.slice none 0 0) := (zKc BK442.out 1).trans rfl; have hfz51_0 := zKf BK442.out 0; have hfz51_1 := zKf BK442.out 1))
    refine bodyPost_ret (results_cell_row rfl _ _ gb442 24 #[.int .i64 0, .slice none 0 0] (0, 0) _ rfl (by (with_reducible repeat (first | refine zKn ?_ _ | refine zKd ?_ | refine zKa ?_ _)); refine blk_put (cs := #[.int .i64 0, .slice none 0 0]) ?_ 1 _ rfl; (with_reducible repeat (first | refine zKn ?_ _ | refine zKd ?_ | refine zKa ?_ _)); refine blk_put (cs := #[.int .i64 0, .slice none 0 0]) ?_ 0 _ rfl; (with_reducible repeat (first | refine zKn ?_ _ | refine zKd ?_ | refine zKa ?_ _)); exact BK442.out) Try.underlying24 rfl (by kernel_rfl)) rfl ?_
    exact ⟨_, by first | rfl | (simp [errW_none, errW_some] <;> rfl) | (simp [*, errW_none, errW_some] <;> rfl), by first | exact Kd.R_nil _ _ _ _ _ | exact Kd.N_nil _ _ _ _ _ | exact Kd.V_nil _ _ _ _ _ | exact Kd.Q_nil _ _ _ _ _ | exact Kd.S_nil _ _ _ _ _, by exact uT HB.out⟩


/-! ### graph_Only: function 21 -/
def inK (keep : List Bool) (v : Int) : Bool := decide (v < keep.length) && keep.getD v.toNat false
set_option maxHeartbeats 1000000 in
theorem only1_calls (keep : List Bool) (A : Option Addr) (c : Nat) (v : Int) (g : Nat) (W : World) (h0 : 0 ≤ v) (hm : keep.length ≤ 9223372036854775807) (hr : Kd.C Kd.bool W A keep.length keep) (hg : W.cell? ⟨g, 0, none⟩ = some (.slice A keep.length c)) :
    Calls Try.prog 41 #[.int .i64 v, .pointer (some ⟨g, 0, none⟩)] W fun e w' => e = .returned (.bool (inK keep v)) ∧ w' = W := by
  by_cases hlt : v < (keep.length : Int)
  · obtain ⟨ad, rfl, hc⟩ := (Kd.reads_of_C (d := false) hr).at_ v h0 hlt
    have hin : inK keep v = rdOf false keep v := by unfold inK rdOf; rw [decide_eq_true hlt, Bool.true_and]
    rw [hin]
    generalize rdOf false keep v = b at hc ⊢
    have p1 : decide (v < (keep.length : Int)) = true := decide_eq_true hlt
    have p2 : (0 ≤ v) = True := eq_true h0
    have p3 : (v < (keep.length : Int)) = True := eq_true hlt
    clear hin hr
    go_enter Try.func41, Try.ntmps41
    go_wp2
    go_ret
    exact ⟨rfl, rfl⟩
  · have hin : inK keep v = false := by unfold inK; rw [decide_eq_false hlt, Bool.false_and]
    rw [hin]
    have p1 : decide (v < (keep.length : Int)) = false := decide_eq_false hlt
    have p3 : (v < (keep.length : Int)) = False := eq_false hlt
    clear hin hr
    go_enter Try.func41, Try.ntmps41
    go_wp2
    go_ret
    exact ⟨rfl, rfl⟩
set_option maxHeartbeats 1000000 in
theorem only2_calls (keep : List Bool) (A : Option Addr) (c : Nat) (i u v q : Int) (g h : Nat) (W : World) (h0 : 0 ≤ u) (h1 : 0 ≤ v) (hm : keep.length ≤ 9223372036854775807) (hr : Kd.C Kd.bool W A keep.length keep) (hg : W.cell? ⟨g, 0, none⟩ = some (.slice A keep.length c))
    (hh : W.cell? ⟨h, 0, none⟩ = some (.func (.func 41) #[] #[.pointer (some ⟨g, 0, none⟩)])) :
    Calls Try.prog 43 #[.int .i64 i, .agg #[.int .i64 u, .int .i64 v, .int .i64 q], .pointer (some ⟨h, 0, none⟩)] W fun e w' => e = .returned (.bool (inK keep u && inK keep v)) ∧ Below W.heap.size W w' := by
  have HC := fun (x : Int) (W' : World) (hx : 0 ≤ x) (hr' : Kd.C Kd.bool W' A keep.length keep) (hg' : W'.cell? ⟨g, 0, none⟩ = some (.slice A keep.length c)) => only1_calls keep A c x g W' hx hm hr' hg'
  have HB := (Below.refl W.heap.size W).alloc (Nat.le_refl _) (.cells #[.int .i64 u, .int .i64 v, .int .i64 q] 36)
  have e1 := (HB.cell (World.block_lt_of_cell? W _ hg)).trans hg
  have e2 := (HB.cell (World.block_lt_of_cell? W _ hh)).trans hh
  have HR := Kd.C_below hr HB
  have C1 := zMk (HC u _ h0 HR e1)
  have C2 := zMk (HC v _ h1 HR e1)
  clear hr hg hh HC HB HR e1
  cases hu : inK keep u with
  | false =>
    rw [Bool.false_and]
    rw [hu] at C1
    clear hu C2
    go_enter Try.func43, Try.ntmps43
    go_wp2_with (go_at_call 41; refine C1.out.mono ?_; rintro e w' ⟨rfl, rfl⟩)
    go_ret
    exact ⟨rfl, (Below.refl _ _).alloc (Nat.le_refl _) _⟩
  | true =>
    rw [Bool.true_and]
    rw [hu] at C1
    clear hu
    generalize inK keep v = bv at C2 ⊢
    go_enter Try.func43, Try.ntmps43
    go_wp2_with fail
    refine C1.out.mono ?_
    rintro e w' ⟨rfl, rfl⟩
    go_wp2_with fail
    refine C2.out.mono ?_
    rintro e w' ⟨rfl, rfl⟩
    go_wp2
    go_ret
    exact ⟨rfl, (Below.refl _ _).alloc (Nat.le_refl _) _⟩
def graph_Only.p (keep : List Bool) (_ u v _ : Int) : Option Bool := if 0 ≤ u then (if 0 ≤ v then some (inK keep u && inK keep v) else none) else none
def graph_Only.f (k : Nat) (n : Int) (l : List S36) (keep : List Bool) : Option (Int × List S36) := graph_some.f (graph_Only.p keep) k n l
set_option maxHeartbeats 4000000 in
set_option maxRecDepth 100000 in
theorem graph_Only.calls (k : Nat) (a0_0 : Int) (A0_1 : Option Addr) (c0_1 : Nat) (l0_1 : List (S36)) (A1 : Option Addr) (c1 : Nat) (l1 : List Bool) (r1 : Int) (r2 : List (S36)) (w : World) (hr0_1 : Kd.C k36 w A0_1 l0_1.length l0_1) (hc0_1 : l0_1.length ≤ c0_1) (hr1 : Kd.C Kd.bool w A1 l1.length l1) (hc1 : l1.length ≤ c1) (h : graph_Only.f k a0_0 l0_1 l1 = some (r1, r2)) :
    Calls Try.prog 21 #[.agg #[.int .i64 a0_0, .slice A0_1 l0_1.length c0_1], .slice A1 l1.length c1] w fun e w' => ∃ v1_ : Value, e = .returned (.agg #[.int .i64 r1, v1_]) ∧ Kd.R k36 36 w' w.heap.size (fun _ => True) v1_ r2 ∧ Below w.heap.size w w' := by
  have hu24 := Try.underlying24
  have hu36 := Try.underlying36
  have hm1 : l1.length ≤ 9223372036854775807 := hr1.2.1
  have HR0 := zMk hr0_1
  have HR1 := zMk hr1
  have HH := zMk h
  clear hr0_1 hr1 h
  go_enter Try.func21, Try.ntmps21
  go_wp2_with fail
  have B0 := zBa (zBa (zBa (zBa (Below.refl w.heap.size w) (.cells #[Value.int .i64 a0_0, .slice A0_1 l0_1.length c0_1] 24)) (.cells #[Value.slice A1 l1.length c1] 41)) (.cells #[Value.int .i64 0, .slice none 0 0] 24)) (.cells #[Value.func (Fn.func 41) #[] #[Value.pointer (some ⟨w.heap.size + 1, 0, none⟩)]] 60)
  have K1 : ((((w.alloc (.cells #[Value.int .i64 a0_0, .slice A0_1 l0_1.length c0_1] 24)).alloc (.cells #[Value.slice A1 l1.length c1] 41)).alloc (.cells #[Value.int .i64 0, .slice none 0 0] 24)).alloc (.cells #[Value.func (Fn.func 41) #[] #[Value.pointer (some ⟨w.heap.size + 1, 0, none⟩)]] 60)).heap[w.heap.size + 1]? = some (.cells #[Value.slice A1 l1.length c1] 41 (0, 0)) :=
    zKa (zKa (by have := heap_alloc_new (w.alloc (.cells #[Value.int .i64 a0_0, .slice A0_1 l0_1.length c0_1] 24)) (.cells #[Value.slice A1 l1.length c1] 41); simpa using this) _) _
  have K2 : ((((w.alloc (.cells #[Value.int .i64 a0_0, .slice A0_1 l0_1.length c0_1] 24)).alloc (.cells #[Value.slice A1 l1.length c1] 41)).alloc (.cells #[Value.int .i64 0, .slice none 0 0] 24)).alloc (.cells #[Value.func (Fn.func 41) #[] #[Value.pointer (some ⟨w.heap.size + 1, 0, none⟩)]] 60)).heap[w.heap.size + 1 + 1]? = some (.cells #[Value.int .i64 0, .slice none 0 0] 24 (0, 0)) :=
    zKa (by have := heap_alloc_new ((w.alloc (.cells #[Value.int .i64 a0_0, .slice A0_1 l0_1.length c0_1] 24)).alloc (.cells #[Value.slice A1 l1.length c1] 41)) (.cells #[Value.int .i64 0, .slice none 0 0] 24); simpa using this) _
  have K3 : ((((w.alloc (.cells #[Value.int .i64 a0_0, .slice A0_1 l0_1.length c0_1] 24)).alloc (.cells #[Value.slice A1 l1.length c1] 41)).alloc (.cells #[Value.int .i64 0, .slice none 0 0] 24)).alloc (.cells #[Value.func (Fn.func 41) #[] #[Value.pointer (some ⟨w.heap.size + 1, 0, none⟩)]] 60)).heap[w.heap.size + 1 + 1 + 1]? = some (.cells #[Value.func (Fn.func 41) #[] #[Value.pointer (some ⟨w.heap.size + 1, 0, none⟩)]] 60 (0, 0)) := by
    have := heap_alloc_new (((w.alloc (.cells #[Value.int .i64 a0_0, .slice A0_1 l0_1.length c0_1] 24)).alloc (.cells #[Value.slice A1 l1.length c1] 41)).alloc (.cells #[Value.int .i64 0, .slice none 0 0] 24)) (.cells #[Value.func (Fn.func 41) #[] #[Value.pointer (some ⟨w.heap.size + 1, 0, none⟩)]] 60)
    simpa using this
  generalize ((((w.alloc (.cells #[Value.int .i64 a0_0, .slice A0_1 l0_1.length c0_1] 24)).alloc (.cells #[Value.slice A1 l1.length c1] 41)).alloc (.cells #[Value.int .i64 0, .slice none 0 0] 24)).alloc (.cells #[Value.func (Fn.func 41) #[] #[Value.pointer (some ⟨w.heap.size + 1, 0, none⟩)]] 60)) = W4 at B0 K1 K2 K3 ⊢
  have hcal := graph_some.calls (graph_Only.p l1) (w.heap.size + 1 + 1 + 1) k a0_0 A0_1 c0_1 l0_1 r1 r2 W4 (Kd.C_below HR0.out B0) hc0_1 (fun i u v q b W hW hp => by
    unfold graph_Only.p at hp
    by_cases hu : 0 ≤ u
    · rw [if_pos hu] at hp
      by_cases hv : 0 ≤ v
      · rw [if_pos hv] at hp
        obtain rfl := zOi hp
        exact only2_calls l1 A1 c1 i u v q (w.heap.size + 1) (w.heap.size + 1 + 1 + 1) W hu hv hm1 (Kd.C_below (Kd.C_below HR1.out B0) hW) (box_cell (c := 0) (zKb K1 hW) rfl) (box_cell (c := 0) (zKb K3 hW) rfl)
      · rw [if_neg hv] at hp; cases hp
    · rw [if_neg hu] at hp; cases hp) HH.out
  have hsz : w.heap.size + 1 + 1 < W4.heap.size := blk_lt K2
  refine hcal.mono ?_
  rintro e w5 ⟨v1, rfl, hR, hB⟩
  have K5 := zKb K2 hB
  have HR := zMk hR
  have HB := zMk (zBt B0 hB)
  have hz0 := box_cell (c := 0) (v := .int .i64 0) K5 rfl
  have hz1 := box_cell (c := 1) (v := .slice none 0 0) K5 rfl
  have hzf0 := box_frozen (c := 0) K5
  have hzf1 := box_frozen (c := 1) K5
  have HK := zMk K5
  clear K1 K2 K3 K5 hR hB hcal B0
  obtain ⟨A5, c5, rfl⟩ := zRs HR.out
  go_wp2
  refine bodyPost_ret (results_cell_row rfl _ _ (w.heap.size + 1 + 1) 24 #[.int .i64 r1, .slice A5 r2.length c5] (0, 0) _ rfl (blk_setCell_same (blk_setCell_same HK.out)) Try.underlying24 rfl (by kernel_rfl)) rfl ?_
  refine ⟨_, rfl, ?_, below_set (below_set HB.out (by omega)) (by omega)⟩
  have hb2 := zRm (ok' := fun k => k ≠ w.heap.size + 1 + 1) (Kd.R_bound HR.out) (fun k hk => by have := hk.2.1; omega)
  exact zRm (zRl (Kd.R_far (p := ⟨w.heap.size + 1 + 1, 1, none⟩) (Kd.R_far (p := ⟨w.heap.size + 1 + 1, 0, none⟩) hb2 (fun _ hk => hk) _) (fun _ hk => hk) _) (by omega)) (fun _ _ => trivial)


/-! ### graph_Less: function 22 -/
set_option maxHeartbeats 1000000 in
theorem less1_calls (out : List Bool) (A : Option Addr) (c : Nat) (i : Nat) (u v q : Int) (g : Nat) (W : World) (h1 : i < out.length) (hm : out.length ≤ 9223372036854775807) (hr : Kd.C Kd.bool W A out.length out) (hg : W.cell? ⟨g, 0, none⟩ = some (.slice A out.length c)) :
    Calls Try.prog 44 #[.int .i64 (i : Int), .agg #[.int .i64 u, .int .i64 v, .int .i64 q], .pointer (some ⟨g, 0, none⟩)] W fun e w' => e = .returned (.bool (!(out.getD i false))) ∧ Below W.heap.size W w' := by
  obtain ⟨ad, rfl, hc⟩ := (Kd.reads_of_C (d := false) hr).at_ (i : Int) (by omega) (by omega)
  have hin : out.getD i false = rdOf false out (i : Int) := rfl
  rw [hin]
  rw [zTn] at hc
  generalize rdOf false out (i : Int) = b at hc ⊢
  have p2 : (0 ≤ (i : Int)) = True := eq_true (by omega)
  have p3 : ((i : Int) < (out.length : Int)) = True := eq_true (by omega)
  have HB := (Below.refl W.heap.size W).alloc (Nat.le_refl _) (.cells #[.int .i64 u, .int .i64 v, .int .i64 q] 36)
  have e1 := (HB.cell (World.block_lt_of_cell? W _ hg)).trans hg
  have e2 := (HB.cell (World.block_lt_of_cell? W _ hc)).trans hc
  clear hr HB hg hc
  go_enter Try.func44, Try.ntmps44
  go_wp2
  go_ret
  exact ⟨rfl, (Below.refl _ _).alloc (Nat.le_refl _) _⟩
def lessM (m : List Bool) : List Int → List Bool
  | [] => m
  | x :: t => lessM (if 0 ≤ x then (if x < (m.length : Int) then m.set x.toNat true else m) else m) t
theorem lessM_len : ∀ (t : List Int) (m : List Bool), (lessM m t).length = m.length
  | [], m => rfl
  | x :: t, m => by
    unfold lessM
    rw [lessM_len t]
    repeat' split
    all_goals simp
def graph_Less.p (m : List Bool) (i _ _ _ : Int) : Option Bool := if 0 ≤ i then (if i < (m.length : Int) then some (!(m.getD i.toNat false)) else none) else none
def graph_Less.f (k : Nat) (n : Int) (l : List S36) (gone : List Int) : Option (Int × List S36) := if l.length ≤ 281474976710656 then graph_some.f (graph_Less.p (lessM (List.replicate l.length false) gone)) k n l else none
set_option maxHeartbeats 4000000 in
set_option maxRecDepth 100000 in
theorem graph_Less.calls (k : Nat) (a0_0 : Int) (A0_1 : Option Addr) (c0_1 : Nat) (l0_1 : List (S36)) (A1 : Option Addr) (c1 : Nat) (l1 : List Int) (r1 : Int) (r2 : List (S36)) (w : World) (hr0_1 : Kd.C k36 w A0_1 l0_1.length l0_1) (hc0_1 : l0_1.length ≤ c0_1) (hr1 : Kd.C (Kd.int .i64) w A1 l1.length l1) (hc1 : l1.length ≤ c1) (h : graph_Less.f k a0_0 l0_1 l1 = some (r1, r2)) :
    Calls Try.prog 22 #[.agg #[.int .i64 a0_0, .slice A0_1 l0_1.length c0_1], .slice A1 l1.length c1] w fun e w' => ∃ v1_ : Value, e = .returned (.agg #[.int .i64 r1, v1_]) ∧ Kd.R k36 36 w' w.heap.size (fun _ => True) v1_ r2 ∧ Below w.heap.size w w' := by
  unfold graph_Less.f at h
  by_cases hl : l0_1.length ≤ 281474976710656
  case neg => rw [if_neg hl] at h; cases h
  rw [if_pos hl] at h
  have hu24 := Try.underlying24
  have hu36 := Try.underlying36
  have hm0 : l0_1.length ≤ 9223372036854775807 := hr0_1.2.1
  have hm1 : l1.length ≤ 9223372036854775807 := hr1.2.1
  have HR0 := zMk hr0_1
  have HR1 := zMk hr1
  have HH := zMk h
  clear hr0_1 hr1 h
  go_enter Try.func22, Try.ntmps22
  go_wp2_with (first | ((with_reducible refine gate_dst (N := 11) rfl ?_); (try (refine gate_guard (by rfl) ?_; dsimp only)); refine Kd.R_make Kd.bool _ 4 rfl (N := 11) rfl 41 _ _ rfl (l0_1.length : Int) rfl rfl Try.underlying41 (.bool false) 1 info4 rfl (by decide) (by omega) false (ok := fun _ => True) (okp := fun _ => True) rfl (fun _ hk => hk) trivial (by omega) (by rw [zTn]; omega) (Below.refl _ _) (Nat.le_refl _) ?_; intro v11 w11 ho hb hg_ hnew_; rw [zTn] at ho; obtain ⟨A2, c2, rfl⟩ := zRs ho; rw [List.length_replicate]))
  have hs2 : ((w.alloc (.cells #[Value.int .i64 a0_0, .slice A0_1 l0_1.length c0_1] 24)).alloc (.cells #[Value.int .i64 0, .slice none 0 0] 24)).heap.size = w.heap.size + 1 + 1 := by simp
  have BB := zMk (zBa (zBt (zBa (zBa (Below.refl w.heap.size w) (.cells #[Value.int .i64 a0_0, .slice A0_1 l0_1.length c0_1] 24)) (.cells #[Value.int .i64 0, .slice none 0 0] 24)) hb) (.cells #[Value.slice A2 l0_1.length c2] 41))
  have KG := zMk (zKa (zKb (zKa (heap_alloc_new w (.cells #[Value.int .i64 a0_0, .slice A0_1 l0_1.length c0_1] 24)) (.cells #[Value.int .i64 0, .slice none 0 0] 24)) hb) (.cells #[Value.slice A2 l0_1.length c2] 41))
  have KR := zMk (zKa (zKb (show _ = some (.cells #[Value.int .i64 0, .slice none 0 0] 24 (0, 0)) by have := heap_alloc_new (w.alloc (.cells #[Value.int .i64 a0_0, .slice A0_1 l0_1.length c0_1] 24)) (.cells #[Value.int .i64 0, .slice none 0 0] 24); simpa using this) hb) (.cells #[Value.slice A2 l0_1.length c2] 41) : (w11.alloc (.cells #[Value.slice A2 l0_1.length c2] 41)).heap[w.heap.size + 1]? = _)
  have KO := zMk (heap_alloc_new w11 (.cells #[Value.slice A2 l0_1.length c2] 41))
  have hsz : w.heap.size + 1 < w11.heap.size := by have := blk_lt KR.out; have := hb.size; rw [hs2] at this; omega
  rw [hs2, List.length_replicate] at ho
  have HO := zMk (zRa (zRl (base' := w.heap.size) ho (by omega)) (.cells #[Value.slice A2 l0_1.length c2] 41))
  clear ho hb hg_ hnew_ hs2
  generalize hM : lessM (List.replicate l0_1.length false) l1 = M at HH
  have HM := zMk hM
  clear hM
  go_loopg [14] l1.length (fun kx s14 wr => ∃ (i : Nat) (xs : List Bool), s14 = .int .i64 i ∧ i ≤ l1.length ∧ l1.length - i ≤ kx ∧ Aside0 (xs.length = l0_1.length) ∧ Aside0 (lessM xs (l1.drop i) = M) ∧ Aside0 (Kd.R Kd.bool 4 wr w.heap.size (fun _ => True) (.slice A2 l0_1.length c2) xs) ∧ Aside0 (wr.heap[w.heap.size]? = some (.cells #[Value.int .i64 a0_0, .slice A0_1 l0_1.length c0_1] 24 (0, 0))) ∧ Aside0 (wr.heap[w.heap.size + 1]? = some (.cells #[Value.int .i64 0, .slice none 0 0] 24 (0, 0))) ∧ Aside0 (wr.heap[w11.heap.size]? = some (.cells #[Value.slice A2 l0_1.length c2] 41 (0, 0))) ∧ Aside0 (Below w.heap.size w wr))
  case atStart => exact ⟨0, List.replicate l0_1.length false, rfl, Nat.zero_le _, Nat.le_refl _, ⟨by simp⟩, ⟨by simpa using HM.out⟩, HO, KG, KR, KO, BB⟩
  clear HM HO KG KR KO BB
  obtain ⟨i, xs, rfl, hi, hg3, HXL, HM, HO, KG, KR, KO, HB⟩ := hrel
  by_cases hlt : i < l1.length
  · obtain ⟨ad1, e1, hx⟩ := zAi HR1.out (i : Int) (by omega) (by omega)
    cases e1
    rw [zTn] at hx
    replace hx := (HB.out.cell (World.block_lt_of_cell? w _ hx)).trans hx
    have hd : l1.drop i = rd l1 (i : Int) :: l1.drop (i + 1) := by
      rw [List.drop_eq_getElem_cons hlt]
      unfold rd
      rw [zTn]
      simp [hlt]
    have hM := HM.out
    rw [hd] at hM
    unfold lessM at hM
    generalize rd l1 (i : Int) = x at hx hM
    have p1 : (0 ≤ (i : Int)) = True := eq_true (by omega)
    have p2 : ((i : Int) < (l1.length : Int)) = True := eq_true (by omega)
    have ho0 := box_cell (c := 0) KO.out rfl
    clear HM hd
    by_cases hx0 : 0 ≤ x
    · rw [if_pos hx0, HXL.out] at hM
      have q1 : decide (0 ≤ x) = true := decide_eq_true hx0
      have q3 : (0 ≤ x) = True := eq_true hx0
      by_cases hx1 : x < (l0_1.length : Int)
      · rw [if_pos hx1] at hM
        have HM := zMk hM
        have q2 : decide (x < (l0_1.length : Int)) = true := decide_eq_true hx1
        have q4 : (x < (l0_1.length : Int)) = True := eq_true hx1
        have hl9 := HXL.out
        obtain ⟨go, co, eo, gb, gl, cl, HG⟩ := Kd.R_form HO.out (by omega)
        (first |  cases eo|  (injection eo with ea_ en_ ec_; subst ea_; subst ec_; clear en_))
        obtain ⟨hy, hf⟩ := Kd.R_celln false HO.out x hx0 (by omega)
        have HP := Kd.R_putg HO.out x true
        have N0 := Kd.R_ne HO.out KG.out (by decide)
        have N1 := Kd.R_ne HO.out KR.out (by decide)
        have N2 := Kd.R_ne HO.out KO.out (by decide)
        have HN := zMk (show Kd.R Kd.bool 4 (wr.setCell ⟨go, x.toNat, none⟩ (.bool true)) w.heap.size (fun _ => True) _ _ from HP.1)
        have KG1 := zMk (blk_grown KG.out HP.2 N0)
        have KR1 := zMk (blk_grown KR.out HP.2 N1)
        have KO1 := zMk (blk_grown KO.out HP.2 N2)
        have HB1 := zMk (below_set (j := x.toNat) (v := .bool true) HB.out gb)
        clear hM hl9 HO KG KR KO HP N0 N1 N2 HG cl gl
        go_wp2
        go_roundg (l1.length - (i + 1))
        case measure => omega
        case rel => exact ⟨i + 1, _, by rw [show ((i + 1 : Nat) : Int) = (i : Int) + 1 by omega], by omega, Nat.le_refl _, ⟨by rw [List.length_set]; exact HXL.out⟩, HM, HN, KG1, KR1, KO1, HB1⟩
      · rw [if_neg hx1] at hM
        have HM := zMk hM
        have q2 : decide (x < (l0_1.length : Int)) = false := decide_eq_false hx1
        clear hM
        go_wp2
        go_roundg (l1.length - (i + 1))
        case measure => omega
        case rel => exact ⟨i + 1, xs, by rw [show ((i + 1 : Nat) : Int) = (i : Int) + 1 by omega], by omega, Nat.le_refl _, HXL, HM, HO, KG, KR, KO, HB⟩
    · rw [if_neg hx0] at hM
      have HM := zMk hM
      have q1 : decide (0 ≤ x) = false := decide_eq_false hx0
      clear hM
      go_wp2
      go_roundg (l1.length - (i + 1))
      case measure => omega
      case rel => exact ⟨i + 1, xs, by rw [show ((i + 1 : Nat) : Int) = (i : Int) + 1 by omega], by omega, Nat.le_refl _, HXL, HM, HO, KG, KR, KO, HB⟩
  · obtain rfl : i = l1.length := by omega
    have hM := HM.out
    rw [List.drop_length] at hM
    obtain rfl : xs = M := hM
    clear HM
    have hg0 := box_cell (c := 0) KG.out rfl
    have hg1 := box_cell (c := 1) KG.out rfl
    go_wp2_with fail
    have hcal := graph_some.calls1 (graph_Less.p xs) w11.heap.size k a0_0 A0_1 c0_1 l0_1 r1 r2 wr (Kd.C_below HR0.out HB.out) hc0_1 (fun i u v q b W hW hp => by
      unfold graph_Less.p at hp
      by_cases hu : 0 ≤ i
      · rw [if_pos hu] at hp
        by_cases hv : i < (xs.length : Int)
        · rw [if_pos hv] at hp
          obtain rfl := zOi hp
          obtain ⟨i, rfl⟩ := Int.eq_ofNat_of_zero_le hu
          have hq := (zRr HO.out).2.2
          have hq2 : Kd.C Kd.bool wr A2 xs.length xs := hq
          rw [zTn]
          exact less1_calls xs A2 c2 i u v q w11.heap.size W (by omega) (by have := HXL.out; omega) (Kd.C_below hq2 hW) (by rw [HXL.out]; exact box_cell (c := 0) (zKb KO.out hW) rfl)
        · rw [if_neg hv] at hp; cases hp
      · rw [if_neg hu] at hp; cases hp) HH.out
    have hsz2 : w.heap.size + 1 < wr.heap.size := blk_lt KR.out
    refine hcal.mono ?_
    rintro e w5 ⟨v1, rfl, hR, hB⟩
    have HK := zMk (zKb KR.out hB)
    have HR := zMk hR
    have HB5 := zMk (zBt HB.out hB)
    have hz0 := box_cell (c := 0) (v := .int .i64 0) HK.out rfl
    have hz1 := box_cell (c := 1) (v := .slice none 0 0) HK.out rfl
    have hzf0 := box_frozen (c := 0) HK.out
    have hzf1 := box_frozen (c := 1) HK.out
    clear hR hB hcal
    obtain ⟨A5, c5, rfl⟩ := zRs HR.out
    go_wp2
    refine bodyPost_ret (results_cell_row rfl _ _ (w.heap.size + 1) 24 #[.int .i64 r1, .slice A5 r2.length c5] (0, 0) _ rfl (blk_setCell_same (blk_setCell_same HK.out)) Try.underlying24 rfl (by kernel_rfl)) rfl ?_
    refine ⟨_, rfl, ?_, below_set (below_set HB5.out (by omega)) (by omega)⟩
    have hb2 := zRm (ok' := fun k => k ≠ w.heap.size + 1) (Kd.R_bound HR.out) (fun k hk => by have := hk.2.1; omega)
    exact zRm (zRl (Kd.R_far (p := ⟨w.heap.size + 1, 1, none⟩) (Kd.R_far (p := ⟨w.heap.size + 1, 0, none⟩) hb2 (fun _ hk => hk) _) (fun _ hk => hk) _) (by omega)) (fun _ _ => trivial)


attribute [local go_sem high] eqA36
/-! ### api_Edge_40: function 40 -/
def api_Edge_40.l0 : Nat → List (S36) → List (S36) → Int → Int → Option (Bool)
  | 0, _, _, _, _ => none
  | k + 1, x0, x1, x12, x13 => if x13 < x12 then (if 0 ≤ x13 then (if x13 < (x0.length : Int) then (if x13 < (x1.length : Int) then (if (!(((rd_T36 x0 x13).f0) == ((rd_T36 x1 x13).f0)) || (!(((rd_T36 x0 x13).f1) == ((rd_T36 x1 x13).f1)) || (!(((rd_T36 x0 x13).f2) == ((rd_T36 x1 x13).f2))))) = true then (some false) else (api_Edge_40.l0 k x0 x1 x12 (wrap64 (x13 + 1)))) else (none)) else (none)) else (none)) else (some true)
def api_Edge_40.f (k : Nat) (l0 : List (S36)) (l1 : List (S36)) : Option (Bool) := if (l0.length : Int) = (l1.length : Int) then (api_Edge_40.l0 k l0 l1 (l0.length : Int) 0) else (some false)
set_option maxHeartbeats 8000000 in
set_option maxRecDepth 100000 in
theorem api_Edge_40.calls (k : Nat) (A0 : Option Addr) (c0 : Nat) (l0 : List (S36)) (A1 : Option Addr) (c1 : Nat) (l1 : List (S36)) (r : Bool) (w : World) (hr0 : Kd.C k36 w A0 l0.length l0) (hc0 : l0.length ≤ c0) (hr1 : Kd.C k36 w A1 l1.length l1) (hc1 : l1.length ≤ c1) (h : api_Edge_40.f k l0 l1 = some r) :
    Calls Try.prog 40 #[.slice A0 l0.length c0, .slice A1 l1.length c1] w fun e w' => e = .returned (.bool r) ∧ Drawn0 w w' := by
  have hu36 := Try.underlying36
  have HR0 := zMk hr0
  have HC0 := zMk hc0
  clear hr0 hc0
  have HR1 := zMk hr1
  have HC1 := zMk hc1
  clear hr1 hc1
  have H : (if (l0.length : Int) = (l1.length : Int) then (api_Edge_40.l0 k l0 l1 (l0.length : Int) 0) else (some false)) = some r := h
  clear h
  by_cases c3 : (l0.length : Int) = (l1.length : Int)
  · rw [if_pos c3] at H
    have c3b0 : ((l0.length : Int) == (l1.length : Int)) = true := beq_iff_eq.mpr c3
    have c3b1 : ((l0.length : Int) != (l1.length : Int)) = false := bne_eq_false_iff_eq.mpr c3
    have c3b2 : (l0.length == l1.length) = true := by first | simpa using c3 | (simp at c3 ⊢; omega)
    clear c3
    have H' := zMk H
    clear H
    go_enter Try.func40, Try.ntmps40
    go_wp2
    repeat (go_quiet (fail); try go_wp2)
    go_loopg [13] k (fun kq v13 w' => ∃ (x13_1 : Int), v13 = .int .i64 x13_1 ∧ Aside0 (api_Edge_40.l0 kq l0 l1 (l0.length : Int) x13_1 = some r) ∧ Aside0 (kq ≤ k) ∧ Drawn0 w w')
    case atStart => exact ⟨(0), (by first | rfl | (simp; done) | (simp [*]; done)), H', ⟨Nat.le_refl _⟩, by repeat (first | exact Drawn0.refl _ | apply Drawn0.step)⟩
    clear H'
    obtain ⟨x13_1, rfl, HA, HK1, ⟨m1, rfl⟩⟩ := hrel
    rcases gk with _ | k1
    · exact absurd HA.out (by simp [api_Edge_40.l0])
    have H := HA.out
    clear HA
    simp only [api_Edge_40.l0] at H
    by_cases c4 : x13_1 < (l0.length : Int)
    · rw [if_pos c4] at H
      have c4b0 : decide (x13_1 < (l0.length : Int)) = true := decide_eq_true c4
      clear c4
      by_cases c5 : 0 ≤ x13_1
      rotate_left
      · rw [if_neg c5] at H; exact absurd H (by simp)
      rw [if_pos c5] at H
      have c5b0 : decide (0 ≤ x13_1) = true := decide_eq_true c5
      clear c5
      by_cases c6 : x13_1 < (l0.length : Int)
      rotate_left
      · rw [if_neg c6] at H; exact absurd H (by simp)
      rw [if_pos c6] at H
      have c6b0 : decide (x13_1 < (l0.length : Int)) = true := decide_eq_true c6
      clear c6
      by_cases c7 : x13_1 < (l1.length : Int)
      rotate_left
      · rw [if_neg c7] at H; exact absurd H (by simp)
      rw [if_pos c7] at H
      have c7b0 : decide (x13_1 < (l1.length : Int)) = true := decide_eq_true c7
      clear c7
      by_cases c8 : (!(((rd_T36 l0 x13_1).f0) == ((rd_T36 l1 x13_1).f0)) || (!(((rd_T36 l0 x13_1).f1) == ((rd_T36 l1 x13_1).f1)) || (!(((rd_T36 l0 x13_1).f2) == ((rd_T36 l1 x13_1).f2))))) = true
      · rw [if_pos c8] at H
        have c8b0 : (!(((rd_T36 l0 x13_1).f0) == ((rd_T36 l1 x13_1).f0)) || (!(((rd_T36 l0 x13_1).f1) == ((rd_T36 l1 x13_1).f1)) || (!(((rd_T36 l0 x13_1).f2) == ((rd_T36 l1 x13_1).f2))))) = true := c8
        clear c8
        obtain rfl := zOi H
        have p144 : 0 ≤ (x13_1 : Int) := of_decide_eq_true (by first | (with_reducible assumption) | assumption)
        have q144 : x13_1 < (l0.length : Int) := of_decide_eq_true (by first | (with_reducible assumption) | assumption)
        obtain ⟨ad144, e144, hx144_0, hx144_1, hx144_2⟩ := at_T36 HR0.out x13_1 p144 q144
        cases e144
        replace p144 := eq_true p144
        replace q144 := eq_true q144
        have p145 : 0 ≤ (x13_1 : Int) := of_decide_eq_true (by first | (with_reducible assumption) | assumption)
        have q145 : x13_1 < (l1.length : Int) := of_decide_eq_true (by first | (with_reducible assumption) | assumption)
        obtain ⟨ad145, e145, hx145_0, hx145_1, hx145_2⟩ := at_T36 HR1.out x13_1 p145 q145
        cases e145
        replace p145 := eq_true p145
        replace q145 := eq_true q145
        go_wp2
        repeat (go_quiet (fail); try go_wp2)
        go_ret
        exact ⟨by first | rfl | (simp; done) | (simp [*]; done), by repeat (first | exact Drawn0.refl _ | apply Drawn0.step)⟩
      · rw [if_neg c8] at H
        have c8b0 : (!(((rd_T36 l0 x13_1).f0) == ((rd_T36 l1 x13_1).f0)) || (!(((rd_T36 l0 x13_1).f1) == ((rd_T36 l1 x13_1).f1)) || (!(((rd_T36 l0 x13_1).f2) == ((rd_T36 l1 x13_1).f2))))) = false := by simpa using c8
        clear c8
        have H' := zMk H
        clear H
        have p144 : 0 ≤ (x13_1 : Int) := of_decide_eq_true (by first | (with_reducible assumption) | assumption)
        have q144 : x13_1 < (l0.length : Int) := of_decide_eq_true (by first | (with_reducible assumption) | assumption)
        obtain ⟨ad144, e144, hx144_0, hx144_1, hx144_2⟩ := at_T36 HR0.out x13_1 p144 q144
        cases e144
        replace p144 := eq_true p144
        replace q144 := eq_true q144
        have p145 : 0 ≤ (x13_1 : Int) := of_decide_eq_true (by first | (with_reducible assumption) | assumption)
        have q145 : x13_1 < (l1.length : Int) := of_decide_eq_true (by first | (with_reducible assumption) | assumption)
        obtain ⟨ad145, e145, hx145_0, hx145_1, hx145_2⟩ := at_T36 HR1.out x13_1 p145 q145
        cases e145
        replace p145 := eq_true p145
        replace q145 := eq_true q145
        go_wp2
        repeat (go_quiet (fail); try go_wp2)
        go_roundg k1
        case measure => have := HK1.out; omega
        case rel => exact ⟨(wrap64 (x13_1 + 1)), (by first | rfl | (simp; done) | (simp [*]; done)), H', ⟨by have := HK1.out; omega⟩, by repeat (first | exact Drawn0.refl _ | apply Drawn0.step)⟩
    · rw [if_neg c4] at H
      have c4b0 : decide (x13_1 < (l0.length : Int)) = false := decide_eq_false c4
      clear c4
      obtain rfl := zOi H
      go_wp2
      repeat (go_quiet (fail); try go_wp2)
      go_ret
      exact ⟨by first | rfl | (simp; done) | (simp [*]; done), by repeat (first | exact Drawn0.refl _ | apply Drawn0.step)⟩
  · rw [if_neg c3] at H
    have c3b0 : ((l0.length : Int) == (l1.length : Int)) = false := beq_eq_false_iff_ne.mpr c3
    have c3b1 : ((l0.length : Int) != (l1.length : Int)) = true := bne_iff_ne.mpr c3
    have c3b2 : (l0.length == l1.length) = false := by first | simpa using c3 | (simp at c3 ⊢; omega)
    obtain rfl := zOi H
    go_enter Try.func40, Try.ntmps40
    go_wp2
    repeat (go_quiet (fail); try go_wp2)
    go_ret
    exact ⟨by first | rfl | (simp; done) | (simp [*]; done), by repeat (first | exact Drawn0.refl _ | apply Drawn0.step)⟩


/-! ### graph_Same: function 18 -/
def graph_Same.f (k : Nat) (a0_0 : Int) (l0_1 : List (S36)) (a1_0 : Int) (l1_1 : List (S36)) : Option (Bool) := if a0_0 = a1_0 then ((api_Edge_40.f k l0_1 l1_1).bind fun t148 => (some t148)) else (some false)
set_option maxHeartbeats 8000000 in
set_option maxRecDepth 100000 in
theorem graph_Same.calls (k : Nat) (a0_0 : Int) (A0_1 : Option Addr) (c0_1 : Nat) (l0_1 : List (S36)) (a1_0 : Int) (A1_1 : Option Addr) (c1_1 : Nat) (l1_1 : List (S36)) (r : Bool) (w : World) (hr0_1 : Kd.C k36 w A0_1 l0_1.length l0_1) (hc0_1 : l0_1.length ≤ c0_1) (hr1_1 : Kd.C k36 w A1_1 l1_1.length l1_1) (hc1_1 : l1_1.length ≤ c1_1) (h : graph_Same.f k a0_0 l0_1 a1_0 l1_1 = some r) :
    Calls Try.prog 18 #[.agg #[.int .i64 a0_0, .slice A0_1 l0_1.length c0_1], .agg #[.int .i64 a1_0, .slice A1_1 l1_1.length c1_1]] w fun e w' => e = .returned (.bool r) ∧ Below w.heap.size w w' := by
  have hu24 := Try.underlying24
  have HR0_1 := zMk hr0_1
  have HC0_1 := zMk hc0_1
  clear hr0_1 hc0_1
  have HR1_1 := zMk hr1_1
  have HC1_1 := zMk hc1_1
  clear hr1_1 hc1_1
  have HB := zMk (Below.refl w.heap.size w)
  have H : (if a0_0 = a1_0 then ((api_Edge_40.f k l0_1 l1_1).bind fun t148 => (some t148)) else (some false)) = some r := h
  clear h
  by_cases c3 : a0_0 = a1_0
  · rw [if_pos c3] at H
    have c3b0 : (a0_0 == a1_0) = true := beq_iff_eq.mpr c3
    have c3b1 : (a0_0 != a1_0) = false := bne_eq_false_iff_eq.mpr c3
    clear c3
    replace H := bnd H
    obtain ⟨t148, A40, H⟩ := H
    have A4 := zMk A40
    clear A40
    obtain rfl := zOi H
    go_enter Try.func18, Try.ntmps18
    go_wp2_with (first |  ((with_reducible refine gate_dst (N := 2) rfl ?_); refine box_event ?hg (N := 2) ?hd (cs := #[.int .i64 a0_0, .slice A0_1 l0_1.length c0_1]) (t := 24) ?hr ?_; (case hd => rfl); (case hg => rfl); (case hr => first |  (go_simp; done)|  (go_simp; rfl)|  (go_simp; rw [show ∀ x : Int, IntKind.u32.wrap (IntKind.u8.wrap x) = x % 256 from fun x => (by show (x % 256) % 4294967296 = x % 256; omega)])); intro gb146 hg w5 hbox hb; have BK146 := zMk (hbox); have GW146 := zMk ((by rw [hg]; exact (zBs (by exact uT HB.out)) : w.heap.size ≤ gb146)); have GE146 := zMk ((by rw [hg]; exact (zBs (by exact uT HB.out)) : w.heap.size ≤ gb146)); have IGE146 := ownGe GE146.out; replace HB := zMk (zBt (by exact uT HB.out) hb); clear hb hbox hg)|  ((with_reducible refine gate_dst (N := 3) rfl ?_); refine box_event ?hg (N := 3) ?hd (cs := #[.int .i64 a1_0, .slice A1_1 l1_1.length c1_1]) (t := 24) ?hr ?_; (case hd => rfl); (case hg => rfl); (case hr => first |  (go_simp; done)|  (go_simp; rfl)|  (go_simp; rw [show ∀ x : Int, IntKind.u32.wrap (IntKind.u8.wrap x) = x % 256 from fun x => (by show (x % 256) % 4294967296 = x % 256; omega)])); intro gb147 hg w6 hbox hb; have BK147 := zMk (hbox); have GW147 := zMk ((by rw [hg]; exact (zBs (by exact uT HB.out)) : w.heap.size ≤ gb147)); have GE147 := zMk ((by rw [hg]; exact (zBs (by exact uT HB.out)) : w.heap.size ≤ gb147)); have IGE147 := ownGe GE147.out; replace HB := zMk (zBt (by exact uT HB.out) hb); have NB146_147 := zMk ((by rw [hg]; exact Nat.ne_of_lt (blk_lt (g := gb146) (o := .cells #[.int .i64 a0_0, .slice A0_1 l0_1.length c0_1] 24 (0, 0)) (by (with_reducible repeat (first |  refine zKn ?_ _|  refine zKd ?_|  refine zKa ?_ _)); exact BK146.out)) : gb146 ≠ gb147)); have NB147_146 := zMk ((by rw [hg]; exact Nat.ne_of_gt (blk_lt (g := gb146) (o := .cells #[.int .i64 a0_0, .slice A0_1 l0_1.length c0_1] 24 (0, 0)) (by (with_reducible repeat (first |  refine zKn ?_ _|  refine zKd ?_|  refine zKa ?_ _)); exact BK146.out)) : gb147 ≠ gb146)); replace BK146 := zMk (zKb (g := gb146) (o := .cells #[.int .i64 a0_0, .slice A0_1 l0_1.length c0_1] 24 (0, 0)) (by (with_reducible repeat (first |  refine zKn ?_ _|  refine zKd ?_|  refine zKa ?_ _)); exact BK146.out) hb); clear hb hbox hg; have hnb7 := NB146_147.out; have hnc7 := NB147_146.out; have hcz8_0 : w6.cell? ⟨gb146, 0, none⟩ = some (.int .i64 a0_0) := (zKc BK146.out 0).trans rfl; have hcz8_1 : w6.cell? ⟨gb146, 1, none⟩ = some (.slice A0_1 l0_1.length c0_1) := (zKc BK146.out 1).trans rfl; have hfz8_0 := zKf BK146.out 0; have hfz8_1 := zKf BK146.out 1; have hcz9_0 : w6.cell? ⟨gb147, 0, none⟩ = some (.int .i64 a1_0) := (zKc BK147.out 0).trans rfl; have hcz9_1 : w6.cell? ⟨gb147, 1, none⟩ = some (.slice A1_1 l1_1.length c1_1) := (zKc BK147.out 1).trans rfl; have hfz9_0 := zKf BK147.out 0; have hfz9_1 := zKf BK147.out 1)|  (go_at_call 40; (with_reducible refine (api_Edge_40.calls k _ _ l0_1 _ _ l1_1 t148 _ ?side1 ?side2 ?side3 ?side4 A4.out).mono ?_); (case side1 => repeat (first |  exact (Kd.C_below HR0_1.out HB.out)|  (with_reducible refine zCa ?_ _)|  (with_reducible refine zCn ?_ _)|  (with_reducible refine zCd ?_))); (case side2 => exact HC0_1.out); (case side3 => repeat (first |  exact (Kd.C_below HR1_1.out HB.out)|  (with_reducible refine zCa ?_ _)|  (with_reducible refine zCn ?_ _)|  (with_reducible refine zCd ?_))); (case side4 => exact HC1_1.out); rintro e w' ⟨rfl, ⟨nd, rfl⟩⟩))
    go_ret
    exact ⟨by first | rfl | (simp [errW_none, errW_some] <;> rfl) | (simp [*, errW_none, errW_some] <;> rfl), by exact uT HB.out⟩
  · rw [if_neg c3] at H
    have c3b0 : (a0_0 == a1_0) = false := beq_eq_false_iff_ne.mpr c3
    have c3b1 : (a0_0 != a1_0) = true := bne_iff_ne.mpr c3
    obtain rfl := zOi H
    go_enter Try.func18, Try.ntmps18
    go_wp2_with (first |  ((with_reducible refine gate_dst (N := 2) rfl ?_); refine box_event ?hg (N := 2) ?hd (cs := #[.int .i64 a0_0, .slice A0_1 l0_1.length c0_1]) (t := 24) ?hr ?_; (case hd => rfl); (case hg => rfl); (case hr => first |  (go_simp; done)|  (go_simp; rfl)|  (go_simp; rw [show ∀ x : Int, IntKind.u32.wrap (IntKind.u8.wrap x) = x % 256 from fun x => (by show (x % 256) % 4294967296 = x % 256; omega)])); intro gb146 hg w10 hbox hb; have BK146 := zMk (hbox); have GW146 := zMk ((by rw [hg]; exact (zBs (by exact uT HB.out)) : w.heap.size ≤ gb146)); have GE146 := zMk ((by rw [hg]; exact (zBs (by exact uT HB.out)) : w.heap.size ≤ gb146)); have IGE146 := ownGe GE146.out; replace HB := zMk (zBt (by exact uT HB.out) hb); clear hb hbox hg)|  ((with_reducible refine gate_dst (N := 3) rfl ?_); refine box_event ?hg (N := 3) ?hd (cs := #[.int .i64 a1_0, .slice A1_1 l1_1.length c1_1]) (t := 24) ?hr ?_; (case hd => rfl); (case hg => rfl); (case hr => first |  (go_simp; done)|  (go_simp; rfl)|  (go_simp; rw [show ∀ x : Int, IntKind.u32.wrap (IntKind.u8.wrap x) = x % 256 from fun x => (by show (x % 256) % 4294967296 = x % 256; omega)])); intro gb147 hg w11 hbox hb; have BK147 := zMk (hbox); have GW147 := zMk ((by rw [hg]; exact (zBs (by exact uT HB.out)) : w.heap.size ≤ gb147)); have GE147 := zMk ((by rw [hg]; exact (zBs (by exact uT HB.out)) : w.heap.size ≤ gb147)); have IGE147 := ownGe GE147.out; replace HB := zMk (zBt (by exact uT HB.out) hb); have NB146_147 := zMk ((by rw [hg]; exact Nat.ne_of_lt (blk_lt (g := gb146) (o := .cells #[.int .i64 a0_0, .slice A0_1 l0_1.length c0_1] 24 (0, 0)) (by (with_reducible repeat (first |  refine zKn ?_ _|  refine zKd ?_|  refine zKa ?_ _)); exact BK146.out)) : gb146 ≠ gb147)); have NB147_146 := zMk ((by rw [hg]; exact Nat.ne_of_gt (blk_lt (g := gb146) (o := .cells #[.int .i64 a0_0, .slice A0_1 l0_1.length c0_1] 24 (0, 0)) (by (with_reducible repeat (first |  refine zKn ?_ _|  refine zKd ?_|  refine zKa ?_ _)); exact BK146.out)) : gb147 ≠ gb146)); replace BK146 := zMk (zKb (g := gb146) (o := .cells #[.int .i64 a0_0, .slice A0_1 l0_1.length c0_1] 24 (0, 0)) (by (with_reducible repeat (first |  refine zKn ?_ _|  refine zKd ?_|  refine zKa ?_ _)); exact BK146.out) hb); clear hb hbox hg; have hnb12 := NB146_147.out; have hnc12 := NB147_146.out; have hcz13_0 : w11.cell? ⟨gb146, 0, none⟩ = some (.int .i64 a0_0) := (zKc BK146.out 0).trans rfl; have hcz13_1 : w11.cell? ⟨gb146, 1, none⟩ = some (.slice A0_1 l0_1.length c0_1) := (zKc BK146.out 1).trans rfl; have hfz13_0 := zKf BK146.out 0; have hfz13_1 := zKf BK146.out 1; have hcz14_0 : w11.cell? ⟨gb147, 0, none⟩ = some (.int .i64 a1_0) := (zKc BK147.out 0).trans rfl; have hcz14_1 : w11.cell? ⟨gb147, 1, none⟩ = some (.slice A1_1 l1_1.length c1_1) := (zKc BK147.out 1).trans rfl; have hfz14_0 := zKf BK147.out 0; have hfz14_1 := zKf BK147.out 1))
    go_ret
    exact ⟨by first | rfl | (simp [errW_none, errW_some] <;> rfl) | (simp [*, errW_none, errW_some] <;> rfl), by exact uT HB.out⟩


attribute [local go_sem high] eqA36
/-! ### filigreeref04_Same: function 16 -/
mutual
def filigreeref04_Same.j0 : Nat → Bool → Int → List (S36) → Int → List (S36) → Option (Bool)
  | 0, _, _, _, _, _ => none
  | k + 1, x19, x140000, x140001, x141000, x141001 => if x19 = true then (some false) else (filigreeref04_Same.l0 k 0 x140000 x140001 x141000 x141001)
def filigreeref04_Same.l0 : Nat → Int → Int → List (S36) → Int → List (S36) → Option (Bool)
  | 0, _, _, _, _, _ => none
  | k + 1, x5, x140000, x140001, x141000, x141001 => if x5 < (x140001.length : Int) then (if 0 ≤ x5 then (if x5 < (x141001.length : Int) then (if (!(((rd_T36 x140001 x5).f0) == ((rd_T36 x141001 x5).f0)) || (!(((rd_T36 x140001 x5).f1) == ((rd_T36 x141001 x5).f1)) || (!(((rd_T36 x140001 x5).f2) == ((rd_T36 x141001 x5).f2))))) = true then (some false) else (filigreeref04_Same.l0 k (wrap64 (x5 + 1)) x140000 x140001 x141000 x141001)) else (none)) else (none)) else (some true)
end
def filigreeref04_Same.f (k : Nat) (a0_0 : Int) (l0_1 : List (S36)) (a1_0 : Int) (l1_1 : List (S36)) : Option (Bool) := if a0_0 = a1_0 then (filigreeref04_Same.j0 k ((l0_1.length : Int) != (l1_1.length : Int)) a0_0 l0_1 a1_0 l1_1) else (filigreeref04_Same.j0 k true a0_0 l0_1 a1_0 l1_1)
set_option maxHeartbeats 8000000 in
set_option maxRecDepth 100000 in
theorem filigreeref04_Same.calls (k : Nat) (a0_0 : Int) (A0_1 : Option Addr) (c0_1 : Nat) (l0_1 : List (S36)) (a1_0 : Int) (A1_1 : Option Addr) (c1_1 : Nat) (l1_1 : List (S36)) (r : Bool) (w : World) (hr0_1 : Kd.C k36 w A0_1 l0_1.length l0_1) (hc0_1 : l0_1.length ≤ c0_1) (hr1_1 : Kd.C k36 w A1_1 l1_1.length l1_1) (hc1_1 : l1_1.length ≤ c1_1) (h : filigreeref04_Same.f k a0_0 l0_1 a1_0 l1_1 = some r) :
    Calls Try.prog 16 #[.agg #[.int .i64 a0_0, .slice A0_1 l0_1.length c0_1], .agg #[.int .i64 a1_0, .slice A1_1 l1_1.length c1_1]] w fun e w' => e = .returned (.bool r) ∧ Below w.heap.size w w' := by
  have hu24 := Try.underlying24
  have hu36 := Try.underlying36
  have HR0_1 := zMk hr0_1
  have HC0_1 := zMk hc0_1
  clear hr0_1 hc0_1
  have HR1_1 := zMk hr1_1
  have HC1_1 := zMk hc1_1
  clear hr1_1 hc1_1
  have HB := zMk (Below.refl w.heap.size w)
  have H : (if a0_0 = a1_0 then (filigreeref04_Same.j0 k ((l0_1.length : Int) != (l1_1.length : Int)) a0_0 l0_1 a1_0 l1_1) else (filigreeref04_Same.j0 k true a0_0 l0_1 a1_0 l1_1)) = some r := h
  clear h
  have HC3 := zMk H
  clear H
  go_enter Try.func16, Try.ntmps16
  go_upto_region 1 with (first |  ((with_reducible refine gate_dst (N := 2) rfl ?_); (try (refine gate_guard (by rfl) ?_; dsimp only)); refine box_event ?hg (N := 2) ?hd (cs := #[.int .i64 a0_0, .slice A0_1 l0_1.length c0_1]) (t := 24) ?hr ?_; (case hd => rfl); (case hg => rfl); (case hr => first |  (go_simp; done)|  (go_simp; rfl)|  (go_simp; rw [show ∀ x : Int, IntKind.u32.wrap (IntKind.u8.wrap x) = x % 256 from fun x => (by show (x % 256) % 4294967296 = x % 256; omega)])); intro gb139 hg w4 hbox hb; have BK139 := zMk (hbox); have GW139 := zMk ((by rw [hg]; exact (zBs (by exact uT HB.out)) : w.heap.size ≤ gb139)); have GE139 := zMk ((by rw [hg]; exact (zBs (by exact uT HB.out)) : w.heap.size ≤ gb139)); have IGE139 := ownGe GE139.out; replace HB := zMk (zBt (by exact uT HB.out) hb); clear hb hbox hg)|  ((with_reducible refine gate_dst (N := 3) rfl ?_); (try (refine gate_guard (by rfl) ?_; dsimp only)); refine box_event ?hg (N := 3) ?hd (cs := #[.int .i64 a1_0, .slice A1_1 l1_1.length c1_1]) (t := 24) ?hr ?_; (case hd => rfl); (case hg => rfl); (case hr => first |  (go_simp; done)|  (go_simp; rfl)|  (go_simp; rw [show ∀ x : Int, IntKind.u32.wrap (IntKind.u8.wrap x) = x % 256 from fun x => (by show (x % 256) % 4294967296 = x % 256; omega)])); intro gb140 hg w5 hbox hb; have BK140 := zMk (hbox); have GW140 := zMk ((by rw [hg]; exact (zBs (by exact uT HB.out)) : w.heap.size ≤ gb140)); have GE140 := zMk ((by rw [hg]; exact (zBs (by exact uT HB.out)) : w.heap.size ≤ gb140)); have IGE140 := ownGe GE140.out; replace HB := zMk (zBt (by exact uT HB.out) hb); have NB139_140 := zMk ((by rw [hg]; exact Nat.ne_of_lt (blk_lt (g := gb139) (o := .cells #[.int .i64 a0_0, .slice A0_1 l0_1.length c0_1] 24 (0, 0)) (by (with_reducible repeat (first |  refine zKn ?_ _|  refine zKd ?_|  refine zKa ?_ _)); exact BK139.out)) : gb139 ≠ gb140)); have NB140_139 := zMk ((by rw [hg]; exact Nat.ne_of_gt (blk_lt (g := gb139) (o := .cells #[.int .i64 a0_0, .slice A0_1 l0_1.length c0_1] 24 (0, 0)) (by (with_reducible repeat (first |  refine zKn ?_ _|  refine zKd ?_|  refine zKa ?_ _)); exact BK139.out)) : gb140 ≠ gb139)); replace BK139 := zMk (zKb (g := gb139) (o := .cells #[.int .i64 a0_0, .slice A0_1 l0_1.length c0_1] 24 (0, 0)) (by (with_reducible repeat (first |  refine zKn ?_ _|  refine zKd ?_|  refine zKa ?_ _)); exact BK139.out) hb); clear hb hbox hg))
  repeat (go_quiet (first |  ((with_reducible refine gate_dst (N := 2) rfl ?_); (try (refine gate_guard (by rfl) ?_; dsimp only)); refine box_event ?hg (N := 2) ?hd (cs := #[.int .i64 a0_0, .slice A0_1 l0_1.length c0_1]) (t := 24) ?hr ?_; (case hd => rfl); (case hg => rfl); (case hr => first |  (go_simp; done)|  (go_simp; rfl)|  (go_simp; rw [show ∀ x : Int, IntKind.u32.wrap (IntKind.u8.wrap x) = x % 256 from fun x => (by show (x % 256) % 4294967296 = x % 256; omega)])); intro gb139 hg w4 hbox hb; have BK139 := zMk (hbox); have GW139 := zMk ((by rw [hg]; exact (zBs (by exact uT HB.out)) : w.heap.size ≤ gb139)); have GE139 := zMk ((by rw [hg]; exact (zBs (by exact uT HB.out)) : w.heap.size ≤ gb139)); have IGE139 := ownGe GE139.out; replace HB := zMk (zBt (by exact uT HB.out) hb); clear hb hbox hg)|  ((with_reducible refine gate_dst (N := 3) rfl ?_); (try (refine gate_guard (by rfl) ?_; dsimp only)); refine box_event ?hg (N := 3) ?hd (cs := #[.int .i64 a1_0, .slice A1_1 l1_1.length c1_1]) (t := 24) ?hr ?_; (case hd => rfl); (case hg => rfl); (case hr => first |  (go_simp; done)|  (go_simp; rfl)|  (go_simp; rw [show ∀ x : Int, IntKind.u32.wrap (IntKind.u8.wrap x) = x % 256 from fun x => (by show (x % 256) % 4294967296 = x % 256; omega)])); intro gb140 hg w5 hbox hb; have BK140 := zMk (hbox); have GW140 := zMk ((by rw [hg]; exact (zBs (by exact uT HB.out)) : w.heap.size ≤ gb140)); have GE140 := zMk ((by rw [hg]; exact (zBs (by exact uT HB.out)) : w.heap.size ≤ gb140)); have IGE140 := ownGe GE140.out; replace HB := zMk (zBt (by exact uT HB.out) hb); have NB139_140 := zMk ((by rw [hg]; exact Nat.ne_of_lt (blk_lt (g := gb139) (o := .cells #[.int .i64 a0_0, .slice A0_1 l0_1.length c0_1] 24 (0, 0)) (by (with_reducible repeat (first |  refine zKn ?_ _|  refine zKd ?_|  refine zKa ?_ _)); exact BK139.out)) : gb139 ≠ gb140)); have NB140_139 := zMk ((by rw [hg]; exact Nat.ne_of_gt (blk_lt (g := gb139) (o := .cells #[.int .i64 a0_0, .slice A0_1 l0_1.length c0_1] 24 (0, 0)) (by (with_reducible repeat (first |  refine zKn ?_ _|  refine zKd ?_|  refine zKa ?_ _)); exact BK139.out)) : gb140 ≠ gb139)); replace BK139 := zMk (zKb (g := gb139) (o := .cells #[.int .i64 a0_0, .slice A0_1 l0_1.length c0_1] 24 (0, 0)) (by (with_reducible repeat (first |  refine zKn ?_ _|  refine zKd ?_|  refine zKa ?_ _)); exact BK139.out) hb); clear hb hbox hg)); go_upto_region 1 with (first |  ((with_reducible refine gate_dst (N := 2) rfl ?_); (try (refine gate_guard (by rfl) ?_; dsimp only)); refine box_event ?hg (N := 2) ?hd (cs := #[.int .i64 a0_0, .slice A0_1 l0_1.length c0_1]) (t := 24) ?hr ?_; (case hd => rfl); (case hg => rfl); (case hr => first |  (go_simp; done)|  (go_simp; rfl)|  (go_simp; rw [show ∀ x : Int, IntKind.u32.wrap (IntKind.u8.wrap x) = x % 256 from fun x => (by show (x % 256) % 4294967296 = x % 256; omega)])); intro gb139 hg w4 hbox hb; have BK139 := zMk (hbox); have GW139 := zMk ((by rw [hg]; exact (zBs (by exact uT HB.out)) : w.heap.size ≤ gb139)); have GE139 := zMk ((by rw [hg]; exact (zBs (by exact uT HB.out)) : w.heap.size ≤ gb139)); have IGE139 := ownGe GE139.out; replace HB := zMk (zBt (by exact uT HB.out) hb); clear hb hbox hg)|  ((with_reducible refine gate_dst (N := 3) rfl ?_); (try (refine gate_guard (by rfl) ?_; dsimp only)); refine box_event ?hg (N := 3) ?hd (cs := #[.int .i64 a1_0, .slice A1_1 l1_1.length c1_1]) (t := 24) ?hr ?_; (case hd => rfl); (case hg => rfl); (case hr => first |  (go_simp; done)|  (go_simp; rfl)|  (go_simp; rw [show ∀ x : Int, IntKind.u32.wrap (IntKind.u8.wrap x) = x % 256 from fun x => (by show (x % 256) % 4294967296 = x % 256; omega)])); intro gb140 hg w5 hbox hb; have BK140 := zMk (hbox); have GW140 := zMk ((by rw [hg]; exact (zBs (by exact uT HB.out)) : w.heap.size ≤ gb140)); have GE140 := zMk ((by rw [hg]; exact (zBs (by exact uT HB.out)) : w.heap.size ≤ gb140)); have IGE140 := ownGe GE140.out; replace HB := zMk (zBt (by exact uT HB.out) hb); have NB139_140 := zMk ((by rw [hg]; exact Nat.ne_of_lt (blk_lt (g := gb139) (o := .cells #[.int .i64 a0_0, .slice A0_1 l0_1.length c0_1] 24 (0, 0)) (by (with_reducible repeat (first |  refine zKn ?_ _|  refine zKd ?_|  refine zKa ?_ _)); exact BK139.out)) : gb139 ≠ gb140)); have NB140_139 := zMk ((by rw [hg]; exact Nat.ne_of_gt (blk_lt (g := gb139) (o := .cells #[.int .i64 a0_0, .slice A0_1 l0_1.length c0_1] 24 (0, 0)) (by (with_reducible repeat (first |  refine zKn ?_ _|  refine zKd ?_|  refine zKa ?_ _)); exact BK139.out)) : gb140 ≠ gb139)); replace BK139 := zMk (zKb (g := gb139) (o := .cells #[.int .i64 a0_0, .slice A0_1 l0_1.length c0_1] 24 (0, 0)) (by (with_reducible repeat (first |  refine zKn ?_ _|  refine zKd ?_|  refine zKa ?_ _)); exact BK139.out) hb); clear hb hbox hg)))
  (try simp only [Act.put, zSa, zSb, zSc])
  go_cut [19] (fun v19 wc => ∃ (kq : Nat) (x19_2 : Bool), v19 = .bool x19_2 ∧ Aside0 (filigreeref04_Same.j0 kq x19_2 a0_0 l0_1 a1_0 l1_1 = some r) ∧ Aside0 (kq ≤ k) ∧ Aside0 (wc.heap[gb139]? = some (.cells #[.int .i64 a0_0, (.slice A0_1 l0_1.length c0_1)] 24 (0, 0))) ∧ Aside0 (wc.heap[gb140]? = some (.cells #[.int .i64 a1_0, (.slice A1_1 l1_1.length c1_1)] 24 (0, 0))) ∧ Aside0 (Below w.heap.size w wc))
  case first =>
    have H := HC3.out
    clear HC3
    by_cases c6 : a0_0 = a1_0
    · rw [if_pos c6] at H
      have c6b0 : (a0_0 == a1_0) = true := beq_iff_eq.mpr c6
      have c6b1 : (a0_0 != a1_0) = false := bne_eq_false_iff_eq.mpr c6
      clear c6
      (first | rw [c6b0] | (simp only [i64_w, i32_w]; rw [c6b0]) | rw [c6b1] | skip)
      have H' := zMk H
      clear H
      have hnb7 := NB139_140.out
      have hnc7 := NB140_139.out
      have hcz8_0 : w5.cell? ⟨gb139, 0, none⟩ = some (.int .i64 a0_0) := (zKc BK139.out 0).trans rfl
      have hcz8_1 : w5.cell? ⟨gb139, 1, none⟩ = some (.slice A0_1 l0_1.length c0_1) := (zKc BK139.out 1).trans rfl
      have hfz8_0 := zKf BK139.out 0
      have hfz8_1 := zKf BK139.out 1
      have hcz9_0 : w5.cell? ⟨gb140, 0, none⟩ = some (.int .i64 a1_0) := (zKc BK140.out 0).trans rfl
      have hcz9_1 : w5.cell? ⟨gb140, 1, none⟩ = some (.slice A1_1 l1_1.length c1_1) := (zKc BK140.out 1).trans rfl
      have hfz9_0 := zKf BK140.out 0
      have hfz9_1 := zKf BK140.out 1
      go_wp2
      repeat (go_quiet (fail); try go_wp2)
      go_meet
      case rel => exact ⟨_, (((l0_1.length : Int) != (l1_1.length : Int))), (by first | rfl | (simp; done) | (simp [*]; done)), H', ⟨by first | omega | exact Nat.le_refl _⟩, ⟨by (with_reducible repeat (first | refine zKn ?_ _ | refine zKd ?_ | refine zKa ?_ _)); exact BK139.out⟩, ⟨by (with_reducible repeat (first | refine zKn ?_ _ | refine zKd ?_ | refine zKa ?_ _)); exact BK140.out⟩, ⟨by exact uT HB.out⟩⟩
    · rw [if_neg c6] at H
      have c6b0 : (a0_0 == a1_0) = false := beq_eq_false_iff_ne.mpr c6
      have c6b1 : (a0_0 != a1_0) = true := bne_iff_ne.mpr c6
      (first | rw [c6b0] | (simp only [i64_w, i32_w]; rw [c6b0]) | rw [c6b1] | skip)
      have H' := zMk H
      clear H
      have hnb10 := NB139_140.out
      have hnc10 := NB140_139.out
      have hcz11_0 : w5.cell? ⟨gb139, 0, none⟩ = some (.int .i64 a0_0) := (zKc BK139.out 0).trans rfl
      have hcz11_1 : w5.cell? ⟨gb139, 1, none⟩ = some (.slice A0_1 l0_1.length c0_1) := (zKc BK139.out 1).trans rfl
      have hfz11_0 := zKf BK139.out 0
      have hfz11_1 := zKf BK139.out 1
      have hcz12_0 : w5.cell? ⟨gb140, 0, none⟩ = some (.int .i64 a1_0) := (zKc BK140.out 0).trans rfl
      have hcz12_1 : w5.cell? ⟨gb140, 1, none⟩ = some (.slice A1_1 l1_1.length c1_1) := (zKc BK140.out 1).trans rfl
      have hfz12_0 := zKf BK140.out 0
      have hfz12_1 := zKf BK140.out 1
      go_wp2
      repeat (go_quiet (fail); try go_wp2)
      go_meet
      case rel => exact ⟨_, (true), (by first | rfl | (simp; done) | (simp [*]; done)), H', ⟨by first | omega | exact Nat.le_refl _⟩, ⟨by (with_reducible repeat (first | refine zKn ?_ _ | refine zKd ?_ | refine zKa ?_ _)); exact BK139.out⟩, ⟨by (with_reducible repeat (first | refine zKn ?_ _ | refine zKd ?_ | refine zKa ?_ _)); exact BK140.out⟩, ⟨by exact uT HB.out⟩⟩
  case rest =>
    clear HC3
    obtain ⟨kq, x19_2, rfl, HA, HJ2, BK139, BK140, HB⟩ := hcut
    rcases kq with _ | kj2
    · exact absurd HA.out (by simp [filigreeref04_Same.j0])
    have H := HA.out
    clear HA
    simp only [filigreeref04_Same.j0] at H
    by_cases c13 : x19_2 = true
    · subst c13
      replace H : (some false) = some r := by rw [if_pos rfl] at H; exact H
      obtain rfl := zOi H
      go_wp2
      repeat (go_quiet (fail); try go_wp2)
      go_ret
      exact ⟨by first | rfl | (simp [errW_none, errW_some] <;> rfl) | (simp [*, errW_none, errW_some] <;> rfl), by exact uT HB.out⟩
    · replace c13 := Bool.eq_false_iff.mpr c13
      subst c13
      replace H : (filigreeref04_Same.l0 kj2 0 a0_0 l0_1 a1_0 l1_1) = some r := by rw [if_neg (show ¬ (false = true) by decide)] at H; exact H
      have H' := zMk H
      clear H
      go_wp2
      repeat (go_quiet (fail); try go_wp2)
      go_loopg [5] kj2 (fun kq v5 w' => ∃ (x5_2 : Int), v5 = .int .i64 x5_2 ∧ Aside0 (filigreeref04_Same.l0 kq x5_2 a0_0 l0_1 a1_0 l1_1 = some r) ∧ Aside0 (kq ≤ kj2) ∧ Aside0 (w'.heap[gb139]? = some (.cells #[.int .i64 a0_0, (.slice A0_1 l0_1.length c0_1)] 24 (0, 0))) ∧ Aside0 (w'.heap[gb140]? = some (.cells #[.int .i64 a1_0, (.slice A1_1 l1_1.length c1_1)] 24 (0, 0))) ∧ Aside0 (Below w.heap.size w w'))
      case atStart => exact ⟨(0), (by first | rfl | (simp; done) | (simp [*]; done)), H', ⟨Nat.le_refl _⟩, ⟨by (with_reducible repeat (first | refine zKn ?_ _ | refine zKd ?_ | refine zKa ?_ _)); exact BK139.out⟩, ⟨by (with_reducible repeat (first | refine zKn ?_ _ | refine zKd ?_ | refine zKa ?_ _)); exact BK140.out⟩, ⟨by exact uT HB.out⟩⟩
      clear H'
      obtain ⟨x5_2, rfl, HA, HK2, BK139, BK140, HB⟩ := hrel
      rcases gk with _ | k2
      · exact absurd HA.out (by simp [filigreeref04_Same.l0])
      have H := HA.out
      clear HA
      simp only [filigreeref04_Same.l0] at H
      by_cases c14 : x5_2 < (l0_1.length : Int)
      · rw [if_pos c14] at H
        have c14b0 : decide (x5_2 < (l0_1.length : Int)) = true := decide_eq_true c14
        clear c14
        by_cases c15 : 0 ≤ x5_2
        rotate_left
        · rw [if_neg c15] at H; exact absurd H (by simp)
        rw [if_pos c15] at H
        have c15b0 : decide (0 ≤ x5_2) = true := decide_eq_true c15
        clear c15
        by_cases c16 : x5_2 < (l1_1.length : Int)
        rotate_left
        · rw [if_neg c16] at H; exact absurd H (by simp)
        rw [if_pos c16] at H
        have c16b0 : decide (x5_2 < (l1_1.length : Int)) = true := decide_eq_true c16
        clear c16
        by_cases c17 : (!(((rd_T36 l0_1 x5_2).f0) == ((rd_T36 l1_1 x5_2).f0)) || (!(((rd_T36 l0_1 x5_2).f1) == ((rd_T36 l1_1 x5_2).f1)) || (!(((rd_T36 l0_1 x5_2).f2) == ((rd_T36 l1_1 x5_2).f2))))) = true
        · rw [if_pos c17] at H
          have c17b0 : (!(((rd_T36 l0_1 x5_2).f0) == ((rd_T36 l1_1 x5_2).f0)) || (!(((rd_T36 l0_1 x5_2).f1) == ((rd_T36 l1_1 x5_2).f1)) || (!(((rd_T36 l0_1 x5_2).f2) == ((rd_T36 l1_1 x5_2).f2))))) = true := c17
          clear c17
          obtain rfl := zOi H
          have hnb18 := NB139_140.out
          have hnc18 := NB140_139.out
          have hcz19_0 : wr.cell? ⟨gb139, 0, none⟩ = some (.int .i64 a0_0) := (zKc BK139.out 0).trans rfl
          have hcz19_1 : wr.cell? ⟨gb139, 1, none⟩ = some (.slice A0_1 l0_1.length c0_1) := (zKc BK139.out 1).trans rfl
          have hfz19_0 := zKf BK139.out 0
          have hfz19_1 := zKf BK139.out 1
          have p141 : 0 ≤ (x5_2 : Int) := of_decide_eq_true (by first | (with_reducible assumption) | assumption)
          have q141 : x5_2 < (l0_1.length : Int) := of_decide_eq_true (by first | (with_reducible assumption) | assumption)
          obtain ⟨ad141, e141, hx141_0, hx141_1, hx141_2⟩ := at_T36 HR0_1.out x5_2 p141 q141
          cases e141
          replace hx141_0 := (HB.out.cell (World.block_lt_of_cell? w _ hx141_0)).trans hx141_0
          replace hx141_1 := (HB.out.cell (World.block_lt_of_cell? w _ hx141_1)).trans hx141_1
          replace hx141_2 := (HB.out.cell (World.block_lt_of_cell? w _ hx141_2)).trans hx141_2
          replace p141 := eq_true p141
          replace q141 := eq_true q141
          have hcz20_0 : wr.cell? ⟨gb140, 0, none⟩ = some (.int .i64 a1_0) := (zKc BK140.out 0).trans rfl
          have hcz20_1 : wr.cell? ⟨gb140, 1, none⟩ = some (.slice A1_1 l1_1.length c1_1) := (zKc BK140.out 1).trans rfl
          have hfz20_0 := zKf BK140.out 0
          have hfz20_1 := zKf BK140.out 1
          have p142 : 0 ≤ (x5_2 : Int) := of_decide_eq_true (by first | (with_reducible assumption) | assumption)
          have q142 : x5_2 < (l1_1.length : Int) := of_decide_eq_true (by first | (with_reducible assumption) | assumption)
          obtain ⟨ad142, e142, hx142_0, hx142_1, hx142_2⟩ := at_T36 HR1_1.out x5_2 p142 q142
          cases e142
          replace hx142_0 := (HB.out.cell (World.block_lt_of_cell? w _ hx142_0)).trans hx142_0
          replace hx142_1 := (HB.out.cell (World.block_lt_of_cell? w _ hx142_1)).trans hx142_1
          replace hx142_2 := (HB.out.cell (World.block_lt_of_cell? w _ hx142_2)).trans hx142_2
          replace p142 := eq_true p142
          replace q142 := eq_true q142
          go_wp2
          repeat (go_quiet (fail); try go_wp2)
          go_ret
          exact ⟨by first | rfl | (simp [errW_none, errW_some] <;> rfl) | (simp [*, errW_none, errW_some] <;> rfl), by exact uT HB.out⟩
        · rw [if_neg c17] at H
          have c17b0 : (!(((rd_T36 l0_1 x5_2).f0) == ((rd_T36 l1_1 x5_2).f0)) || (!(((rd_T36 l0_1 x5_2).f1) == ((rd_T36 l1_1 x5_2).f1)) || (!(((rd_T36 l0_1 x5_2).f2) == ((rd_T36 l1_1 x5_2).f2))))) = false := by simpa using c17
          clear c17
          have H' := zMk H
          clear H
          have hnb21 := NB139_140.out
          have hnc21 := NB140_139.out
          have hcz22_0 : wr.cell? ⟨gb139, 0, none⟩ = some (.int .i64 a0_0) := (zKc BK139.out 0).trans rfl
          have hcz22_1 : wr.cell? ⟨gb139, 1, none⟩ = some (.slice A0_1 l0_1.length c0_1) := (zKc BK139.out 1).trans rfl
          have hfz22_0 := zKf BK139.out 0
          have hfz22_1 := zKf BK139.out 1
          have p141 : 0 ≤ (x5_2 : Int) := of_decide_eq_true (by first | (with_reducible assumption) | assumption)
          have q141 : x5_2 < (l0_1.length : Int) := of_decide_eq_true (by first | (with_reducible assumption) | assumption)
          obtain ⟨ad141, e141, hx141_0, hx141_1, hx141_2⟩ := at_T36 HR0_1.out x5_2 p141 q141
          cases e141
          replace hx141_0 := (HB.out.cell (World.block_lt_of_cell? w _ hx141_0)).trans hx141_0
          replace hx141_1 := (HB.out.cell (World.block_lt_of_cell? w _ hx141_1)).trans hx141_1
          replace hx141_2 := (HB.out.cell (World.block_lt_of_cell? w _ hx141_2)).trans hx141_2
          replace p141 := eq_true p141
          replace q141 := eq_true q141
          have hcz23_0 : wr.cell? ⟨gb140, 0, none⟩ = some (.int .i64 a1_0) := (zKc BK140.out 0).trans rfl
          have hcz23_1 : wr.cell? ⟨gb140, 1, none⟩ = some (.slice A1_1 l1_1.length c1_1) := (zKc BK140.out 1).trans rfl
          have hfz23_0 := zKf BK140.out 0
          have hfz23_1 := zKf BK140.out 1
          have p142 : 0 ≤ (x5_2 : Int) := of_decide_eq_true (by first | (with_reducible assumption) | assumption)
          have q142 : x5_2 < (l1_1.length : Int) := of_decide_eq_true (by first | (with_reducible assumption) | assumption)
          obtain ⟨ad142, e142, hx142_0, hx142_1, hx142_2⟩ := at_T36 HR1_1.out x5_2 p142 q142
          cases e142
          replace hx142_0 := (HB.out.cell (World.block_lt_of_cell? w _ hx142_0)).trans hx142_0
          replace hx142_1 := (HB.out.cell (World.block_lt_of_cell? w _ hx142_1)).trans hx142_1
          replace hx142_2 := (HB.out.cell (World.block_lt_of_cell? w _ hx142_2)).trans hx142_2
          replace p142 := eq_true p142
          replace q142 := eq_true q142
          go_wp2
          repeat (go_quiet (fail); try go_wp2)
          go_roundg k2
          case measure => have := HJ2.out; have := HK2.out; omega
          case rel => exact ⟨(wrap64 (x5_2 + 1)), (by first | rfl | (simp; done) | (simp [*]; done)), H', ⟨by have := HJ2.out; have := HK2.out; omega⟩, ⟨by (with_reducible repeat (first | refine zKn ?_ _ | refine zKd ?_ | refine zKa ?_ _)); exact BK139.out⟩, ⟨by (with_reducible repeat (first | refine zKn ?_ _ | refine zKd ?_ | refine zKa ?_ _)); exact BK140.out⟩, ⟨by exact uT HB.out⟩⟩
      · rw [if_neg c14] at H
        have c14b0 : decide (x5_2 < (l0_1.length : Int)) = false := decide_eq_false c14
        clear c14
        obtain rfl := zOi H
        have hnb24 := NB139_140.out
        have hnc24 := NB140_139.out
        have hcz25_0 : wr.cell? ⟨gb139, 0, none⟩ = some (.int .i64 a0_0) := (zKc BK139.out 0).trans rfl
        have hcz25_1 : wr.cell? ⟨gb139, 1, none⟩ = some (.slice A0_1 l0_1.length c0_1) := (zKc BK139.out 1).trans rfl
        have hfz25_0 := zKf BK139.out 0
        have hfz25_1 := zKf BK139.out 1
        go_wp2
        repeat (go_quiet (fail); try go_wp2)
        go_ret
        exact ⟨by first | rfl | (simp [errW_none, errW_some] <;> rfl) | (simp [*, errW_none, errW_some] <;> rfl), by exact uT HB.out⟩


/-! ### filigreeref04_Only: function 23 -/
def filigreeref04_Only.l0 : Nat → List Bool → Int → Int → List (S36) → Int → List (S36) → Option (Int × (List (S36)))
  | 0, _, _, _, _, _, _ => none
  | k + 1, x1, x6, x452000, x452001, x454000, x454001 => if x6 < (x452001.length : Int) then (if 0 ≤ x6 then (if ((rd_T36 x452001 x6).f0) < (x1.length : Int) then (if 0 ≤ ((rd_T36 x452001 x6).f0) then (if rdOf false x1 ((rd_T36 x452001 x6).f0) = true then (if ((rd_T36 x452001 x6).f1) < (x1.length : Int) then (if 0 ≤ ((rd_T36 x452001 x6).f1) then (if rdOf false x1 ((rd_T36 x452001 x6).f1) = true then (if x454001.length < 5864062014805 then (filigreeref04_Only.l0 k x1 (wrap64 (x6 + 1)) x452000 x452001 x454000 (x454001 ++ [(⟨(rd_T36 x452001 x6).f0, (rd_T36 x452001 x6).f1, (rd_T36 x452001 x6).f2⟩ : S36)])) else (none)) else (filigreeref04_Only.l0 k x1 (wrap64 (x6 + 1)) x452000 x452001 x454000 x454001)) else (none)) else (filigreeref04_Only.l0 k x1 (wrap64 (x6 + 1)) x452000 x452001 x454000 x454001)) else (filigreeref04_Only.l0 k x1 (wrap64 (x6 + 1)) x452000 x452001 x454000 x454001)) else (none)) else (filigreeref04_Only.l0 k x1 (wrap64 (x6 + 1)) x452000 x452001 x454000 x454001)) else (none)) else (some (x454000, x454001))
def filigreeref04_Only.f (k : Nat) (a0_0 : Int) (l0_1 : List (S36)) (l1 : List Bool) : Option (Int × (List (S36))) := filigreeref04_Only.l0 k l1 0 a0_0 l0_1 a0_0 ([] : List (S36))
set_option maxHeartbeats 8000000 in
set_option maxRecDepth 100000 in
theorem filigreeref04_Only.calls (k : Nat) (a0_0 : Int) (A0_1 : Option Addr) (c0_1 : Nat) (l0_1 : List (S36)) (A1 : Option Addr) (c1 : Nat) (l1 : List Bool) (r1 : Int) (r2 : List (S36)) (w : World) (hr0_1 : Kd.C k36 w A0_1 l0_1.length l0_1) (hc0_1 : l0_1.length ≤ c0_1) (hr1 : Kd.C Kd.bool w A1 l1.length l1) (hc1 : l1.length ≤ c1) (h : filigreeref04_Only.f k a0_0 l0_1 l1 = some (r1, r2)) :
    Calls Try.prog 23 #[.agg #[.int .i64 a0_0, .slice A0_1 l0_1.length c0_1], .slice A1 l1.length c1] w fun e w' => ∃ v1_ : Value, e = .returned (.agg #[.int .i64 r1, v1_]) ∧ Kd.R k36 36 w' w.heap.size (fun _ => True) v1_ r2 ∧ Below w.heap.size w w' := by
  have hu24 := Try.underlying24
  have hu36 := Try.underlying36
  have HR0_1 := zMk hr0_1
  have HC0_1 := zMk hc0_1
  clear hr0_1 hc0_1
  have HR1 := zMk hr1
  have HC1 := zMk hc1
  clear hr1 hc1
  have HB := zMk (Below.refl w.heap.size w)
  have H : (filigreeref04_Only.l0 k l1 0 a0_0 l0_1 a0_0 ([] : List (S36))) = some (r1, r2) := h
  clear h
  have H' := zMk H
  clear H
  go_enter Try.func23, Try.ntmps23
  go_wp2_with (first |  ((with_reducible refine gate_dst (N := 2) rfl ?_); (try (refine gate_guard (by rfl) ?_; dsimp only)); refine box_event ?hg (N := 2) ?hd (cs := #[.int .i64 a0_0, .slice A0_1 l0_1.length c0_1]) (t := 24) ?hr ?_; (case hd => rfl); (case hg => rfl); (case hr => first |  (go_simp; done)|  (go_simp; rfl)|  (go_simp; rw [show ∀ x : Int, IntKind.u32.wrap (IntKind.u8.wrap x) = x % 256 from fun x => (by show (x % 256) % 4294967296 = x % 256; omega)])); intro gb451 hg w3 hbox hb; have BK451 := zMk (hbox); have GW451 := zMk ((by rw [hg]; exact (zBs (by exact uT HB.out)) : w.heap.size ≤ gb451)); have GE451 := zMk ((by rw [hg]; exact (zBs (by exact uT HB.out)) : w.heap.size ≤ gb451)); have IGE451 := ownGe GE451.out; replace HB := zMk (zBt (by exact uT HB.out) hb); clear hb hbox hg)|  ((with_reducible refine gate_dst (N := 4) rfl ?_); (try (refine gate_guard (by rfl) ?_; dsimp only)); refine box_event ?hg (N := 4) ?hd (cs := #[.int .i64 0, .slice none 0 0]) (t := 24) ?hr ?_; (case hd => rfl); (case hg => rfl); (case hr => first |  (go_simp; done)|  (go_simp; rfl)|  (go_simp; rw [show ∀ x : Int, IntKind.u32.wrap (IntKind.u8.wrap x) = x % 256 from fun x => (by show (x % 256) % 4294967296 = x % 256; omega)])); intro gb452 hg w4 hbox hb; have BK452 := zMk (hbox); have GW452 := zMk ((by rw [hg]; exact (zBs (by exact uT HB.out)) : w.heap.size ≤ gb452)); have GE452 := zMk ((by rw [hg]; exact (zBs (by exact uT HB.out)) : w.heap.size ≤ gb452)); have IGE452 := ownGe GE452.out; replace HB := zMk (zBt (by exact uT HB.out) hb); have NB451_452 := zMk ((by rw [hg]; exact Nat.ne_of_lt (blk_lt (g := gb451) (o := .cells #[.int .i64 a0_0, .slice A0_1 l0_1.length c0_1] 24 (0, 0)) (by (with_reducible repeat (first |  refine zKn ?_ _|  refine zKd ?_|  refine zKa ?_ _)); exact BK451.out)) : gb451 ≠ gb452)); have NB452_451 := zMk ((by rw [hg]; exact Nat.ne_of_gt (blk_lt (g := gb451) (o := .cells #[.int .i64 a0_0, .slice A0_1 l0_1.length c0_1] 24 (0, 0)) (by (with_reducible repeat (first |  refine zKn ?_ _|  refine zKd ?_|  refine zKa ?_ _)); exact BK451.out)) : gb452 ≠ gb451)); replace BK451 := zMk (zKb (g := gb451) (o := .cells #[.int .i64 a0_0, .slice A0_1 l0_1.length c0_1] 24 (0, 0)) (by (with_reducible repeat (first |  refine zKn ?_ _|  refine zKd ?_|  refine zKa ?_ _)); exact BK451.out) hb); clear hb hbox hg; have hnb5 := NB451_452.out; have hnc5 := NB452_451.out; have hcz6_0 : w4.cell? ⟨gb451, 0, none⟩ = some (.int .i64 a0_0) := (zKc BK451.out 0).trans rfl; have hcz6_1 : w4.cell? ⟨gb451, 1, none⟩ = some (.slice A0_1 l0_1.length c0_1) := (zKc BK451.out 1).trans rfl; have hfz6_0 := zKf BK451.out 0; have hfz6_1 := zKf BK451.out 1)|  ((with_reducible refine gate_dst (N := 5) rfl ?_); (try (refine gate_guard (by rfl) ?_; dsimp only)); refine box_event ?hg (N := 5) ?hd (cs := #[.int .i64 0, .slice none 0 0]) (t := 24) ?hr ?_; (case hd => rfl); (case hg => rfl); (case hr => first |  (go_simp; done)|  (go_simp; rfl)|  (go_simp; rw [show ∀ x : Int, IntKind.u32.wrap (IntKind.u8.wrap x) = x % 256 from fun x => (by show (x % 256) % 4294967296 = x % 256; omega)])); intro gb453 hg w7 hbox hb; have BK453 := zMk (hbox); have GW453 := zMk ((by rw [hg]; exact (zBs (by exact uT HB.out)) : w.heap.size ≤ gb453)); have GE453 := zMk ((by rw [hg]; exact (zBs (by exact uT HB.out)) : w.heap.size ≤ gb453)); have IGE453 := ownGe GE453.out; replace HB := zMk (zBt (by exact uT HB.out) hb); have NB451_453 := zMk ((by rw [hg]; exact Nat.ne_of_lt (blk_lt (g := gb451) (o := .cells #[.int .i64 a0_0, .slice A0_1 l0_1.length c0_1] 24 (0, 0)) (by (with_reducible repeat (first |  refine zKn ?_ _|  refine zKd ?_|  refine zKa ?_ _)); exact BK451.out)) : gb451 ≠ gb453)); have NB453_451 := zMk ((by rw [hg]; exact Nat.ne_of_gt (blk_lt (g := gb451) (o := .cells #[.int .i64 a0_0, .slice A0_1 l0_1.length c0_1] 24 (0, 0)) (by (with_reducible repeat (first |  refine zKn ?_ _|  refine zKd ?_|  refine zKa ?_ _)); exact BK451.out)) : gb453 ≠ gb451)); replace BK451 := zMk (zKb (g := gb451) (o := .cells #[.int .i64 a0_0, .slice A0_1 l0_1.length c0_1] 24 (0, 0)) (by (with_reducible repeat (first |  refine zKn ?_ _|  refine zKd ?_|  refine zKa ?_ _)); exact BK451.out) hb); have NB452_453 := zMk ((by rw [hg]; exact Nat.ne_of_lt (blk_lt (g := gb452) (o := .cells #[.int .i64 0, .slice none 0 0] 24 (0, 0)) (by (with_reducible repeat (first |  refine zKn ?_ _|  refine zKd ?_|  refine zKa ?_ _)); exact BK452.out)) : gb452 ≠ gb453)); have NB453_452 := zMk ((by rw [hg]; exact Nat.ne_of_gt (blk_lt (g := gb452) (o := .cells #[.int .i64 0, .slice none 0 0] 24 (0, 0)) (by (with_reducible repeat (first |  refine zKn ?_ _|  refine zKd ?_|  refine zKa ?_ _)); exact BK452.out)) : gb453 ≠ gb452)); replace BK452 := zMk (zKb (g := gb452) (o := .cells #[.int .i64 0, .slice none 0 0] 24 (0, 0)) (by (with_reducible repeat (first |  refine zKn ?_ _|  refine zKd ?_|  refine zKa ?_ _)); exact BK452.out) hb); clear hb hbox hg; have hnb8 := NB453_451.out; have hnc8 := NB451_453.out; have hnb9 := NB453_452.out; have hnc9 := NB452_453.out; have hcz10_0 : w7.cell? ⟨gb453, 0, none⟩ = some (.int .i64 0) := (zKc BK453.out 0).trans rfl; have hcz10_1 : w7.cell? ⟨gb453, 1, none⟩ = some (.slice none 0 0) := (zKc BK453.out 1).trans rfl; have hfz10_0 := zKf BK453.out 0; have hfz10_1 := zKf BK453.out 1))
  go_loopg [6] k (fun kq v6 w' => ∃ (x6_1 : Int) (x454001_1 : List (S36)) (u454001 : Value), v6 = .int .i64 x6_1 ∧ Aside0 (filigreeref04_Only.l0 kq l1 x6_1 a0_0 l0_1 a0_0 x454001_1 = some (r1, r2)) ∧ Aside0 (kq ≤ k) ∧ Aside0 (Kd.R k36 36 w' w.heap.size (fun _ => True) u454001 x454001_1) ∧ Aside0 (w'.heap[gb451]? = some (.cells #[.int .i64 a0_0, (.slice A0_1 l0_1.length c0_1)] 24 (0, 0))) ∧ Aside0 (w'.heap[gb452]? = some (.cells #[.int .i64 0, (.slice none 0 0)] 24 (0, 0))) ∧ Aside0 (w'.heap[gb453]? = some (.cells #[.int .i64 a0_0, u454001] 24 (0, 0))) ∧ Aside0 (Below w.heap.size w w'))
  case atStart => exact ⟨(0), (([] : List (S36))), (.slice none 0 0), (by first | rfl | (simp; done) | (simp [*]; done)), H', ⟨Nat.le_refl _⟩, ⟨by first | exact Kd.R_nil _ _ _ _ _ | exact Kd.N_nil _ _ _ _ _ | exact Kd.V_nil _ _ _ _ _ | exact Kd.Q_nil _ _ _ _ _ | exact Kd.S_nil _ _ _ _ _⟩, ⟨by (with_reducible repeat (first | refine zKn ?_ _ | refine zKd ?_ | refine zKa ?_ _)); refine blk_far ?_ NB451_453.out _; (with_reducible repeat (first | refine zKn ?_ _ | refine zKd ?_ | refine zKa ?_ _)); refine blk_far ?_ NB451_453.out _; (with_reducible repeat (first | refine zKn ?_ _ | refine zKd ?_ | refine zKa ?_ _)); exact BK451.out⟩, ⟨by (with_reducible repeat (first | refine zKn ?_ _ | refine zKd ?_ | refine zKa ?_ _)); refine blk_far ?_ NB452_453.out _; (with_reducible repeat (first | refine zKn ?_ _ | refine zKd ?_ | refine zKa ?_ _)); refine blk_far ?_ NB452_453.out _; (with_reducible repeat (first | refine zKn ?_ _ | refine zKd ?_ | refine zKa ?_ _)); exact BK452.out⟩, ⟨by (with_reducible repeat (first | refine zKn ?_ _ | refine zKd ?_ | refine zKa ?_ _)); refine blk_put (cs := #[.int .i64 a0_0, .slice none 0 0]) ?_ 1 _ rfl; (with_reducible repeat (first | refine zKn ?_ _ | refine zKd ?_ | refine zKa ?_ _)); refine blk_put (cs := #[.int .i64 0, .slice none 0 0]) ?_ 0 _ rfl; (with_reducible repeat (first | refine zKn ?_ _ | refine zKd ?_ | refine zKa ?_ _)); exact BK453.out⟩, ⟨by exact uT HB.out⟩⟩
  clear H'
  obtain ⟨x6_1, x454001_1, u454001, rfl, HA, HK1, HO_454001, BK451, BK452, BK453, HB⟩ := hrel
  rcases gk with _ | k1
  · exact absurd HA.out (by simp [filigreeref04_Only.l0])
  have H := HA.out
  clear HA
  simp only [filigreeref04_Only.l0] at H
  by_cases c11 : x6_1 < (l0_1.length : Int)
  · rw [if_pos c11] at H
    have c11b0 : decide (x6_1 < (l0_1.length : Int)) = true := decide_eq_true c11
    clear c11
    by_cases c12 : 0 ≤ x6_1
    rotate_left
    · rw [if_neg c12] at H; exact absurd H (by simp)
    rw [if_pos c12] at H
    have c12b0 : decide (0 ≤ x6_1) = true := decide_eq_true c12
    clear c12
    by_cases c13 : ((rd_T36 l0_1 x6_1).f0) < (l1.length : Int)
    · rw [if_pos c13] at H
      have c13b0 : decide (((rd_T36 l0_1 x6_1).f0) < (l1.length : Int)) = true := decide_eq_true c13
      clear c13
      by_cases c14 : 0 ≤ ((rd_T36 l0_1 x6_1).f0)
      rotate_left
      · rw [if_neg c14] at H; exact absurd H (by simp)
      rw [if_pos c14] at H
      have c14b0 : decide (0 ≤ ((rd_T36 l0_1 x6_1).f0)) = true := decide_eq_true c14
      clear c14
      obtain ⟨bq15, hbq15⟩ : ∃ b_ : Bool, b_ = (rdOf false l1 ((rd_T36 l0_1 x6_1).f0)) := ⟨_, rfl⟩
      replace H : (if bq15 = true then (if ((rd_T36 l0_1 x6_1).f1) < (l1.length : Int) then (if 0 ≤ ((rd_T36 l0_1 x6_1).f1) then (if rdOf false l1 ((rd_T36 l0_1 x6_1).f1) = true then (if x454001_1.length < 5864062014805 then (filigreeref04_Only.l0 k1 l1 (wrap64 (x6_1 + 1)) a0_0 l0_1 a0_0 (x454001_1 ++ [(⟨(rd_T36 l0_1 x6_1).f0, (rd_T36 l0_1 x6_1).f1, (rd_T36 l0_1 x6_1).f2⟩ : S36)])) else (none)) else (filigreeref04_Only.l0 k1 l1 (wrap64 (x6_1 + 1)) a0_0 l0_1 a0_0 x454001_1)) else (none)) else (filigreeref04_Only.l0 k1 l1 (wrap64 (x6_1 + 1)) a0_0 l0_1 a0_0 x454001_1)) else (filigreeref04_Only.l0 k1 l1 (wrap64 (x6_1 + 1)) a0_0 l0_1 a0_0 x454001_1)) = some (r1, r2) := by rw [← hbq15] at H; exact H
      have Nbq15 := zMk hbq15
      clear hbq15
      by_cases c16 : bq15 = true
      · subst c16
        replace H : (if ((rd_T36 l0_1 x6_1).f1) < (l1.length : Int) then (if 0 ≤ ((rd_T36 l0_1 x6_1).f1) then (if rdOf false l1 ((rd_T36 l0_1 x6_1).f1) = true then (if x454001_1.length < 5864062014805 then (filigreeref04_Only.l0 k1 l1 (wrap64 (x6_1 + 1)) a0_0 l0_1 a0_0 (x454001_1 ++ [(⟨(rd_T36 l0_1 x6_1).f0, (rd_T36 l0_1 x6_1).f1, (rd_T36 l0_1 x6_1).f2⟩ : S36)])) else (none)) else (filigreeref04_Only.l0 k1 l1 (wrap64 (x6_1 + 1)) a0_0 l0_1 a0_0 x454001_1)) else (none)) else (filigreeref04_Only.l0 k1 l1 (wrap64 (x6_1 + 1)) a0_0 l0_1 a0_0 x454001_1)) = some (r1, r2) := by rw [if_pos rfl] at H; exact H
        by_cases c17 : ((rd_T36 l0_1 x6_1).f1) < (l1.length : Int)
        · rw [if_pos c17] at H
          have c17b0 : decide (((rd_T36 l0_1 x6_1).f1) < (l1.length : Int)) = true := decide_eq_true c17
          clear c17
          by_cases c18 : 0 ≤ ((rd_T36 l0_1 x6_1).f1)
          rotate_left
          · rw [if_neg c18] at H; exact absurd H (by simp)
          rw [if_pos c18] at H
          have c18b0 : decide (0 ≤ ((rd_T36 l0_1 x6_1).f1)) = true := decide_eq_true c18
          clear c18
          obtain ⟨bq19, hbq19⟩ : ∃ b_ : Bool, b_ = (rdOf false l1 ((rd_T36 l0_1 x6_1).f1)) := ⟨_, rfl⟩
          replace H : (if bq19 = true then (if x454001_1.length < 5864062014805 then (filigreeref04_Only.l0 k1 l1 (wrap64 (x6_1 + 1)) a0_0 l0_1 a0_0 (x454001_1 ++ [(⟨(rd_T36 l0_1 x6_1).f0, (rd_T36 l0_1 x6_1).f1, (rd_T36 l0_1 x6_1).f2⟩ : S36)])) else (none)) else (filigreeref04_Only.l0 k1 l1 (wrap64 (x6_1 + 1)) a0_0 l0_1 a0_0 x454001_1)) = some (r1, r2) := by rw [← hbq19] at H; exact H
          have Nbq19 := zMk hbq19
          clear hbq19
          by_cases c20 : bq19 = true
          · subst c20
            replace H : (if x454001_1.length < 5864062014805 then (filigreeref04_Only.l0 k1 l1 (wrap64 (x6_1 + 1)) a0_0 l0_1 a0_0 (x454001_1 ++ [(⟨(rd_T36 l0_1 x6_1).f0, (rd_T36 l0_1 x6_1).f1, (rd_T36 l0_1 x6_1).f2⟩ : S36)])) else (none)) = some (r1, r2) := by rw [if_pos rfl] at H; exact H
            by_cases c21 : x454001_1.length < 5864062014805
            rotate_left
            · rw [if_neg c21] at H; exact absurd H (by simp)
            rw [if_pos c21] at H
            have LMc21 := zMk c21
            clear c21
            obtain ⟨y458, hy458⟩ : ∃ y_ : List (S36), y_ = (x454001_1 ++ [(⟨(rd_T36 l0_1 x6_1).f0, (rd_T36 l0_1 x6_1).f1, (rd_T36 l0_1 x6_1).f2⟩ : S36)]) := ⟨_, rfl⟩
            replace H : (filigreeref04_Only.l0 k1 l1 (wrap64 (x6_1 + 1)) a0_0 l0_1 a0_0 y458) = some (r1, r2) := by first | (rw [hy458]; with_reducible exact H) | (have H2_ := bsm H; first | (rw [hy458]; with_reducible exact H2_) | with_reducible exact H2_) | with_reducible exact H | (rw [hy458]; exact H) | exact H
            have Ny458 := zMk hy458
            clear hy458
            have H' := zMk H
            clear H
            have hnb22 := NB451_452.out
            have hnc22 := NB452_451.out
            have hnb23 := NB451_453.out
            have hnc23 := NB453_451.out
            have hcz24_0 : wr.cell? ⟨gb451, 0, none⟩ = some (.int .i64 a0_0) := (zKc BK451.out 0).trans rfl
            have hcz24_1 : wr.cell? ⟨gb451, 1, none⟩ = some (.slice A0_1 l0_1.length c0_1) := (zKc BK451.out 1).trans rfl
            have hfz24_0 := zKf BK451.out 0
            have hfz24_1 := zKf BK451.out 1
            have p454 : 0 ≤ (x6_1 : Int) := of_decide_eq_true (by first | (with_reducible assumption) | assumption)
            have q454 : x6_1 < (l0_1.length : Int) := of_decide_eq_true (by first | (with_reducible assumption) | assumption)
            obtain ⟨ad454, e454, hx454_0, hx454_1, hx454_2⟩ := at_T36 HR0_1.out x6_1 p454 q454
            cases e454
            replace hx454_0 := (HB.out.cell (World.block_lt_of_cell? w _ hx454_0)).trans hx454_0
            replace hx454_1 := (HB.out.cell (World.block_lt_of_cell? w _ hx454_1)).trans hx454_1
            replace hx454_2 := (HB.out.cell (World.block_lt_of_cell? w _ hx454_2)).trans hx454_2
            replace p454 := eq_true p454
            replace q454 := eq_true q454
            go_wp2_with (first |  ((with_reducible refine gate_dst (N := 7) rfl ?_); (try (refine gate_guard (by rfl) ?_; dsimp only)); refine box_event ?hg (N := 7) ?hd (cs := #[.int .i64 0, .int .i64 0, .int .i64 0]) (t := 36) ?hr ?_; (case hd => rfl); (case hg => rfl); (case hr => first |  (go_simp; done)|  (go_simp; rfl)|  (go_simp; rw [show ∀ x : Int, IntKind.u32.wrap (IntKind.u8.wrap x) = x % 256 from fun x => (by show (x % 256) % 4294967296 = x % 256; omega)])); intro gb455 hg w25 hbox hb; replace HO_454001 := zMk (zRb (Kd.R_elderB (by exact uR HO_454001.out) gb455 (Nat.le_of_eq hg.symm)) hb); have BK455 := zMk (hbox); have GW455 := zMk ((by rw [hg]; exact (zBs (by exact uT HB.out)) : w.heap.size ≤ gb455)); have GE455 := zMk ((by rw [hg]; exact (zBs (by exact uT HB.out)) : w.heap.size ≤ gb455)); have IGE455 := ownGe GE455.out; replace HB := zMk (zBt (by exact uT HB.out) hb); have NB451_455 := zMk ((by rw [hg]; exact Nat.ne_of_lt (blk_lt (g := gb451) (o := .cells #[.int .i64 a0_0, .slice (some ad454) l0_1.length c0_1] 24 (0, 0)) (by (with_reducible repeat (first |  refine zKn ?_ _|  refine zKd ?_|  refine zKa ?_ _)); exact BK451.out)) : gb451 ≠ gb455)); have NB455_451 := zMk ((by rw [hg]; exact Nat.ne_of_gt (blk_lt (g := gb451) (o := .cells #[.int .i64 a0_0, .slice (some ad454) l0_1.length c0_1] 24 (0, 0)) (by (with_reducible repeat (first |  refine zKn ?_ _|  refine zKd ?_|  refine zKa ?_ _)); exact BK451.out)) : gb455 ≠ gb451)); replace BK451 := zMk (zKb (g := gb451) (o := .cells #[.int .i64 a0_0, .slice (some ad454) l0_1.length c0_1] 24 (0, 0)) (by (with_reducible repeat (first |  refine zKn ?_ _|  refine zKd ?_|  refine zKa ?_ _)); exact BK451.out) hb); have NB452_455 := zMk ((by rw [hg]; exact Nat.ne_of_lt (blk_lt (g := gb452) (o := .cells #[.int .i64 0, .slice none 0 0] 24 (0, 0)) (by (with_reducible repeat (first |  refine zKn ?_ _|  refine zKd ?_|  refine zKa ?_ _)); exact BK452.out)) : gb452 ≠ gb455)); have NB455_452 := zMk ((by rw [hg]; exact Nat.ne_of_gt (blk_lt (g := gb452) (o := .cells #[.int .i64 0, .slice none 0 0] 24 (0, 0)) (by (with_reducible repeat (first |  refine zKn ?_ _|  refine zKd ?_|  refine zKa ?_ _)); exact BK452.out)) : gb455 ≠ gb452)); replace BK452 := zMk (zKb (g := gb452) (o := .cells #[.int .i64 0, .slice none 0 0] 24 (0, 0)) (by (with_reducible repeat (first |  refine zKn ?_ _|  refine zKd ?_|  refine zKa ?_ _)); exact BK452.out) hb); have NB453_455 := zMk ((by rw [hg]; exact Nat.ne_of_lt (blk_lt (g := gb453) (o := .cells #[.int .i64 a0_0, u454001] 24 (0, 0)) (by (with_reducible repeat (first |  refine zKn ?_ _|  refine zKd ?_|  refine zKa ?_ _)); exact BK453.out)) : gb453 ≠ gb455)); have NB455_453 := zMk ((by rw [hg]; exact Nat.ne_of_gt (blk_lt (g := gb453) (o := .cells #[.int .i64 a0_0, u454001] 24 (0, 0)) (by (with_reducible repeat (first |  refine zKn ?_ _|  refine zKd ?_|  refine zKa ?_ _)); exact BK453.out)) : gb455 ≠ gb453)); replace BK453 := zMk (zKb (g := gb453) (o := .cells #[.int .i64 a0_0, u454001] 24 (0, 0)) (by (with_reducible repeat (first |  refine zKn ?_ _|  refine zKd ?_|  refine zKa ?_ _)); exact BK453.out) hb); clear hb hbox hg; have hnb26 := NB455_451.out; have hnc26 := NB451_455.out; have hnb27 := NB455_452.out; have hnc27 := NB452_455.out; have hnb28 := NB455_453.out; have hnc28 := NB453_455.out; have hcz29_0 : w25.cell? ⟨gb455, 0, none⟩ = some (.int .i64 0) := (zKc BK455.out 0).trans rfl; have hcz29_1 : w25.cell? ⟨gb455, 1, none⟩ = some (.int .i64 0) := (zKc BK455.out 1).trans rfl; have hcz29_2 : w25.cell? ⟨gb455, 2, none⟩ = some (.int .i64 0) := (zKc BK455.out 2).trans rfl; have hfz29_0 := zKf BK455.out 0; have hfz29_1 := zKf BK455.out 1; have hfz29_2 := zKf BK455.out 2; have p456 : 0 ≤ (((rd_T36 l0_1 x6_1).f0) : Int) := of_decide_eq_true (by first |  (with_reducible assumption)|  assumption); have q456 : ((rd_T36 l0_1 x6_1).f0) < (l1.length : Int) := of_decide_eq_true (by first |  (with_reducible assumption)|  assumption); obtain ⟨ad456, e456, hx456_0⟩ := Kd.at_bool HR1.out ((rd_T36 l0_1 x6_1).f0) p456 q456; (try rw [← Nbq15.out] at hx456_0); (try rw [← Nbq19.out] at hx456_0); cases e456; have hn456_0 : ad456.block ≠ gb455 := Nat.ne_of_lt (Nat.lt_of_lt_of_le (by have := World.block_lt_of_cell? _ _ hx456_0; first |  rwa [add_block] at this|  exact this) GW455.out); have hn456_1 : ad456.block ≠ gb455 := Nat.ne_of_lt (Nat.lt_of_lt_of_le (by have := World.block_lt_of_cell? _ _ hx456_0; first |  rwa [add_block] at this|  exact this) GW455.out); have hn456_2 : ad456.block ≠ gb455 := Nat.ne_of_lt (Nat.lt_of_lt_of_le (by have := World.block_lt_of_cell? _ _ hx456_0; first |  rwa [add_block] at this|  exact this) GW455.out); replace hx456_0 := (HB.out.cell (World.block_lt_of_cell? w _ hx456_0)).trans hx456_0; replace hx456_0 := (cell_far (p := ⟨gb455, 0, none⟩) (by first |  (rw [add_block]; exact hn456_0)|  (show (Addr.add _ _).block ≠ _; rw [add_block]; exact hn456_0)|  exact hn456_0) (.int .i64 ((rd_T36 l0_1 x6_1).f0))).trans hx456_0; replace hx456_0 := (cell_far (p := ⟨gb455, 1, none⟩) (by first |  (rw [add_block]; exact hn456_1)|  (show (Addr.add _ _).block ≠ _; rw [add_block]; exact hn456_1)|  exact hn456_1) (.int .i64 ((rd_T36 l0_1 x6_1).f1))).trans hx456_0; replace hx456_0 := (cell_far (p := ⟨gb455, 2, none⟩) (by first |  (rw [add_block]; exact hn456_2)|  (show (Addr.add _ _).block ≠ _; rw [add_block]; exact hn456_2)|  exact hn456_2) (.int .i64 ((rd_T36 l0_1 x6_1).f2))).trans hx456_0; clear hn456_0 hn456_1 hn456_2; replace p456 := eq_true p456; replace q456 := eq_true q456; have p457 : 0 ≤ (((rd_T36 l0_1 x6_1).f1) : Int) := of_decide_eq_true (by first |  (with_reducible assumption)|  assumption); have q457 : ((rd_T36 l0_1 x6_1).f1) < (l1.length : Int) := of_decide_eq_true (by first |  (with_reducible assumption)|  assumption); obtain ⟨ad457, e457, hx457_0⟩ := Kd.at_bool HR1.out ((rd_T36 l0_1 x6_1).f1) p457 q457; (try rw [← Nbq15.out] at hx457_0); (try rw [← Nbq19.out] at hx457_0); obtain rfl : ad456 = ad457 := (by injection e457); have hn457_0 : ad456.block ≠ gb455 := Nat.ne_of_lt (Nat.lt_of_lt_of_le (by have := World.block_lt_of_cell? _ _ hx457_0; first |  rwa [add_block] at this|  exact this) GW455.out); have hn457_1 : ad456.block ≠ gb455 := Nat.ne_of_lt (Nat.lt_of_lt_of_le (by have := World.block_lt_of_cell? _ _ hx457_0; first |  rwa [add_block] at this|  exact this) GW455.out); have hn457_2 : ad456.block ≠ gb455 := Nat.ne_of_lt (Nat.lt_of_lt_of_le (by have := World.block_lt_of_cell? _ _ hx457_0; first |  rwa [add_block] at this|  exact this) GW455.out); replace hx457_0 := (HB.out.cell (World.block_lt_of_cell? w _ hx457_0)).trans hx457_0; replace hx457_0 := (cell_far (p := ⟨gb455, 0, none⟩) (by first |  (rw [add_block]; exact hn457_0)|  (show (Addr.add _ _).block ≠ _; rw [add_block]; exact hn457_0)|  exact hn457_0) (.int .i64 ((rd_T36 l0_1 x6_1).f0))).trans hx457_0; replace hx457_0 := (cell_far (p := ⟨gb455, 1, none⟩) (by first |  (rw [add_block]; exact hn457_1)|  (show (Addr.add _ _).block ≠ _; rw [add_block]; exact hn457_1)|  exact hn457_1) (.int .i64 ((rd_T36 l0_1 x6_1).f1))).trans hx457_0; replace hx457_0 := (cell_far (p := ⟨gb455, 2, none⟩) (by first |  (rw [add_block]; exact hn457_2)|  (show (Addr.add _ _).block ≠ _; rw [add_block]; exact hn457_2)|  exact hn457_2) (.int .i64 ((rd_T36 l0_1 x6_1).f2))).trans hx457_0; clear hn457_0 hn457_1 hn457_2; replace p457 := eq_true p457; replace q457 := eq_true q457; have hnb30 := NB453_452.out; have hnc30 := NB452_453.out; have hcz31_0 : w25.cell? ⟨gb453, 0, none⟩ = some (.int .i64 a0_0) := (zKc BK453.out 0).trans rfl; have hcz31_1 : w25.cell? ⟨gb453, 1, none⟩ = some (u454001) := (zKc BK453.out 1).trans rfl; have hfz31_0 := zKf BK453.out 0; have hfz31_1 := zKf BK453.out 1)|  ((with_reducible refine gate_builtin (b := .append) (xs := #[.tmp 50, .tmp 52]) rfl ?_); (try (refine gate_guard (by rfl) ?_; dsimp only)); at_builtin; refine Kd.R_append k36 (w0 := w) w.heap.size rfl (.tmp 50) (.tmp 52) 22 36 (.agg #[(.int .i64 0), (.int .i64 0), (.int .i64 0)]) 24 rfl Try.underlying22 info36 rfl (by decide) (by omega) u454001 x454001_1 (⟨(rd_T36 l0_1 x6_1).f0, (rd_T36 l0_1 x6_1).f1, (rd_T36 l0_1 x6_1).f2⟩ : S36) [.int .i64 ((rd_T36 l0_1 x6_1).f0), .int .i64 ((rd_T36 l0_1 x6_1).f1), .int .i64 ((rd_T36 l0_1 x6_1).f2)] (fun k_ => k_ ≠ gb455) (fun _ => False) rfl (by first |  (go_simp; done)|  (go_simp; rfl)) ?aP (fun _ hk => hk.elim) ?aF ?aO ?aB ?aS ?aL ?_; (case aP => exact k36_mkM _ _ _ (⟨(rd_T36 l0_1 x6_1).f0, (rd_T36 l0_1 x6_1).f1, (rd_T36 l0_1 x6_1).f2⟩ : S36)); (case aB => exact (by exact uT HB.out)); (case aF => exact (fun k_ hk => Kd.freshB (g := gb455) (o := .cells #[.int .i64 ((rd_T36 l0_1 x6_1).f0), .int .i64 ((rd_T36 l0_1 x6_1).f1), .int .i64 ((rd_T36 l0_1 x6_1).f2)] 36 (0, 0)) (by (with_reducible repeat (first |  refine zKn ?_ _|  refine zKd ?_|  refine zKa ?_ _)); refine blk_put (cs := #[.int .i64 ((rd_T36 l0_1 x6_1).f0), .int .i64 ((rd_T36 l0_1 x6_1).f1), .int .i64 0]) ?_ 2 _ rfl; (with_reducible repeat (first |  refine zKn ?_ _|  refine zKd ?_|  refine zKa ?_ _)); refine blk_put (cs := #[.int .i64 ((rd_T36 l0_1 x6_1).f0), .int .i64 0, .int .i64 0]) ?_ 1 _ rfl; (with_reducible repeat (first |  refine zKn ?_ _|  refine zKd ?_|  refine zKa ?_ _)); refine blk_put (cs := #[.int .i64 0, .int .i64 0, .int .i64 0]) ?_ 0 _ rfl; (with_reducible repeat (first |  refine zKn ?_ _|  refine zKd ?_|  refine zKa ?_ _)); exact BK455.out) k_ hk)); (case aO => exact (by (with_reducible repeat (first |  apply zRa|  apply zRn|  apply zRd)); exact zRm (Kd.R_far (p := ⟨gb455, 2, none⟩) (Kd.R_far (p := ⟨gb455, 1, none⟩) (Kd.R_far (p := ⟨gb455, 0, none⟩) (zRm HO_454001.out (fun k_ hk => (⟨hk, hk.2⟩ : _ ∧ k_ ≠ gb455))) (fun _ hk => hk.2) (.int .i64 ((rd_T36 l0_1 x6_1).f0))) (fun _ hk => hk.2) (.int .i64 ((rd_T36 l0_1 x6_1).f1))) (fun _ hk => hk.2) (.int .i64 ((rd_T36 l0_1 x6_1).f2))) (fun _ hk => hk.1.2))); (case aS => exact (zBs (by exact uT HB.out))); (case aL => have := LMc21.out; omega); intro v459 w32 ho hb hg hat; rw [← Ny458.out] at ho; replace BK451 := zMk (blk_grown (g := gb451) (o := .cells #[.int .i64 a0_0, .slice (some ad454) l0_1.length c0_1] 24 (0, 0)) (by (with_reducible repeat (first |  refine zKn ?_ _|  refine zKd ?_|  refine zKa ?_ _)); refine blk_far ?_ NB451_455.out _; (with_reducible repeat (first |  refine zKn ?_ _|  refine zKd ?_|  refine zKa ?_ _)); refine blk_far ?_ NB451_455.out _; (with_reducible repeat (first |  refine zKn ?_ _|  refine zKd ?_|  refine zKa ?_ _)); refine blk_far ?_ NB451_455.out _; (with_reducible repeat (first |  refine zKn ?_ _|  refine zKd ?_|  refine zKa ?_ _)); exact BK451.out) hg (Kd.R_ne HO_454001.out BK451.out (by decide))); replace BK452 := zMk (blk_grown (g := gb452) (o := .cells #[.int .i64 0, .slice none 0 0] 24 (0, 0)) (by (with_reducible repeat (first |  refine zKn ?_ _|  refine zKd ?_|  refine zKa ?_ _)); refine blk_far ?_ NB452_455.out _; (with_reducible repeat (first |  refine zKn ?_ _|  refine zKd ?_|  refine zKa ?_ _)); refine blk_far ?_ NB452_455.out _; (with_reducible repeat (first |  refine zKn ?_ _|  refine zKd ?_|  refine zKa ?_ _)); refine blk_far ?_ NB452_455.out _; (with_reducible repeat (first |  refine zKn ?_ _|  refine zKd ?_|  refine zKa ?_ _)); exact BK452.out) hg (Kd.R_ne HO_454001.out BK452.out (by decide))); replace BK453 := zMk (blk_grown (g := gb453) (o := .cells #[.int .i64 a0_0, u454001] 24 (0, 0)) (by (with_reducible repeat (first |  refine zKn ?_ _|  refine zKd ?_|  refine zKa ?_ _)); refine blk_far ?_ NB453_455.out _; (with_reducible repeat (first |  refine zKn ?_ _|  refine zKd ?_|  refine zKa ?_ _)); refine blk_far ?_ NB453_455.out _; (with_reducible repeat (first |  refine zKn ?_ _|  refine zKd ?_|  refine zKa ?_ _)); refine blk_far ?_ NB453_455.out _; (with_reducible repeat (first |  refine zKn ?_ _|  refine zKd ?_|  refine zKa ?_ _)); exact BK453.out) hg (Kd.R_ne HO_454001.out BK453.out (by decide))); replace BK455 := zMk (blk_grown (g := gb455) (o := .cells #[.int .i64 ((rd_T36 l0_1 x6_1).f0), .int .i64 ((rd_T36 l0_1 x6_1).f1), .int .i64 ((rd_T36 l0_1 x6_1).f2)] 36 (0, 0)) (by (with_reducible repeat (first |  refine zKn ?_ _|  refine zKd ?_|  refine zKa ?_ _)); refine blk_put (cs := #[.int .i64 ((rd_T36 l0_1 x6_1).f0), .int .i64 ((rd_T36 l0_1 x6_1).f1), .int .i64 0]) ?_ 2 _ rfl; (with_reducible repeat (first |  refine zKn ?_ _|  refine zKd ?_|  refine zKa ?_ _)); refine blk_put (cs := #[.int .i64 ((rd_T36 l0_1 x6_1).f0), .int .i64 0, .int .i64 0]) ?_ 1 _ rfl; (with_reducible repeat (first |  refine zKn ?_ _|  refine zKd ?_|  refine zKa ?_ _)); refine blk_put (cs := #[.int .i64 0, .int .i64 0, .int .i64 0]) ?_ 0 _ rfl; (with_reducible repeat (first |  refine zKn ?_ _|  refine zKd ?_|  refine zKa ?_ _)); exact BK455.out) hg (Kd.R_away HO_454001.out (fun _ hk => hk.2))); replace HB := zMk (hb); have HO460 := zMk (ho); clear HO_454001 ho hb hg hat; obtain ⟨Ao33, co33, eo33⟩ := zRs HO460.out; subst eo33; have hcz34_0 : w32.cell? ⟨gb453, 0, none⟩ = some (.int .i64 a0_0) := (zKc BK453.out 0).trans rfl; have hcz34_1 : w32.cell? ⟨gb453, 1, none⟩ = some (u454001) := (zKc BK453.out 1).trans rfl; have hfz34_0 := zKf BK453.out 0; have hfz34_1 := zKf BK453.out 1))
            go_roundg k1
            case measure => have := HK1.out; omega
            case rel => exact ⟨(wrap64 (x6_1 + 1)), (y458), (.slice Ao33 y458.length co33), (by first | rfl | (simp; done) | (simp [*]; done)), H', ⟨by have := HK1.out; omega⟩, ⟨by (with_reducible repeat (first | apply zRa | apply zRn | apply zRd)); exact zRm (Kd.R_far (p := ⟨gb453, 1, none⟩) (Kd.R_types HO460.out BK453.out (by decide)) (fun _ hk => hk.2) (.slice Ao33 y458.length co33)) (fun _ hk => trivial)⟩, ⟨by (with_reducible repeat (first | refine zKn ?_ _ | refine zKd ?_ | refine zKa ?_ _)); refine blk_far ?_ NB451_453.out _; (with_reducible repeat (first | refine zKn ?_ _ | refine zKd ?_ | refine zKa ?_ _)); exact BK451.out⟩, ⟨by (with_reducible repeat (first | refine zKn ?_ _ | refine zKd ?_ | refine zKa ?_ _)); refine blk_far ?_ NB452_453.out _; (with_reducible repeat (first | refine zKn ?_ _ | refine zKd ?_ | refine zKa ?_ _)); exact BK452.out⟩, ⟨by (with_reducible repeat (first | refine zKn ?_ _ | refine zKd ?_ | refine zKa ?_ _)); refine blk_put (cs := #[.int .i64 a0_0, u454001]) ?_ 1 _ rfl; (with_reducible repeat (first | refine zKn ?_ _ | refine zKd ?_ | refine zKa ?_ _)); exact BK453.out⟩, ⟨by exact uT HB.out⟩⟩
          · replace c20 := Bool.eq_false_iff.mpr c20
            subst c20
            replace H : (filigreeref04_Only.l0 k1 l1 (wrap64 (x6_1 + 1)) a0_0 l0_1 a0_0 x454001_1) = some (r1, r2) := by rw [if_neg (show ¬ (false = true) by decide)] at H; exact H
            have H' := zMk H
            clear H
            have hnb35 := NB451_452.out
            have hnc35 := NB452_451.out
            have hnb36 := NB451_453.out
            have hnc36 := NB453_451.out
            have hcz37_0 : wr.cell? ⟨gb451, 0, none⟩ = some (.int .i64 a0_0) := (zKc BK451.out 0).trans rfl
            have hcz37_1 : wr.cell? ⟨gb451, 1, none⟩ = some (.slice A0_1 l0_1.length c0_1) := (zKc BK451.out 1).trans rfl
            have hfz37_0 := zKf BK451.out 0
            have hfz37_1 := zKf BK451.out 1
            have p454 : 0 ≤ (x6_1 : Int) := of_decide_eq_true (by first | (with_reducible assumption) | assumption)
            have q454 : x6_1 < (l0_1.length : Int) := of_decide_eq_true (by first | (with_reducible assumption) | assumption)
            obtain ⟨ad454, e454, hx454_0, hx454_1, hx454_2⟩ := at_T36 HR0_1.out x6_1 p454 q454
            cases e454
            replace hx454_0 := (HB.out.cell (World.block_lt_of_cell? w _ hx454_0)).trans hx454_0
            replace hx454_1 := (HB.out.cell (World.block_lt_of_cell? w _ hx454_1)).trans hx454_1
            replace hx454_2 := (HB.out.cell (World.block_lt_of_cell? w _ hx454_2)).trans hx454_2
            replace p454 := eq_true p454
            replace q454 := eq_true q454
            go_wp2_with (first |  ((with_reducible refine gate_dst (N := 7) rfl ?_); (try (refine gate_guard (by rfl) ?_; dsimp only)); refine box_event ?hg (N := 7) ?hd (cs := #[.int .i64 0, .int .i64 0, .int .i64 0]) (t := 36) ?hr ?_; (case hd => rfl); (case hg => rfl); (case hr => first |  (go_simp; done)|  (go_simp; rfl)|  (go_simp; rw [show ∀ x : Int, IntKind.u32.wrap (IntKind.u8.wrap x) = x % 256 from fun x => (by show (x % 256) % 4294967296 = x % 256; omega)])); intro gb455 hg w38 hbox hb; replace HO_454001 := zMk (zRb (Kd.R_elderB (by exact uR HO_454001.out) gb455 (Nat.le_of_eq hg.symm)) hb); have BK455 := zMk (hbox); have GW455 := zMk ((by rw [hg]; exact (zBs (by exact uT HB.out)) : w.heap.size ≤ gb455)); have GE455 := zMk ((by rw [hg]; exact (zBs (by exact uT HB.out)) : w.heap.size ≤ gb455)); have IGE455 := ownGe GE455.out; replace HB := zMk (zBt (by exact uT HB.out) hb); have NB451_455 := zMk ((by rw [hg]; exact Nat.ne_of_lt (blk_lt (g := gb451) (o := .cells #[.int .i64 a0_0, .slice (some ad454) l0_1.length c0_1] 24 (0, 0)) (by (with_reducible repeat (first |  refine zKn ?_ _|  refine zKd ?_|  refine zKa ?_ _)); exact BK451.out)) : gb451 ≠ gb455)); have NB455_451 := zMk ((by rw [hg]; exact Nat.ne_of_gt (blk_lt (g := gb451) (o := .cells #[.int .i64 a0_0, .slice (some ad454) l0_1.length c0_1] 24 (0, 0)) (by (with_reducible repeat (first |  refine zKn ?_ _|  refine zKd ?_|  refine zKa ?_ _)); exact BK451.out)) : gb455 ≠ gb451)); replace BK451 := zMk (zKb (g := gb451) (o := .cells #[.int .i64 a0_0, .slice (some ad454) l0_1.length c0_1] 24 (0, 0)) (by (with_reducible repeat (first |  refine zKn ?_ _|  refine zKd ?_|  refine zKa ?_ _)); exact BK451.out) hb); have NB452_455 := zMk ((by rw [hg]; exact Nat.ne_of_lt (blk_lt (g := gb452) (o := .cells #[.int .i64 0, .slice none 0 0] 24 (0, 0)) (by (with_reducible repeat (first |  refine zKn ?_ _|  refine zKd ?_|  refine zKa ?_ _)); exact BK452.out)) : gb452 ≠ gb455)); have NB455_452 := zMk ((by rw [hg]; exact Nat.ne_of_gt (blk_lt (g := gb452) (o := .cells #[.int .i64 0, .slice none 0 0] 24 (0, 0)) (by (with_reducible repeat (first |  refine zKn ?_ _|  refine zKd ?_|  refine zKa ?_ _)); exact BK452.out)) : gb455 ≠ gb452)); replace BK452 := zMk (zKb (g := gb452) (o := .cells #[.int .i64 0, .slice none 0 0] 24 (0, 0)) (by (with_reducible repeat (first |  refine zKn ?_ _|  refine zKd ?_|  refine zKa ?_ _)); exact BK452.out) hb); have NB453_455 := zMk ((by rw [hg]; exact Nat.ne_of_lt (blk_lt (g := gb453) (o := .cells #[.int .i64 a0_0, u454001] 24 (0, 0)) (by (with_reducible repeat (first |  refine zKn ?_ _|  refine zKd ?_|  refine zKa ?_ _)); exact BK453.out)) : gb453 ≠ gb455)); have NB455_453 := zMk ((by rw [hg]; exact Nat.ne_of_gt (blk_lt (g := gb453) (o := .cells #[.int .i64 a0_0, u454001] 24 (0, 0)) (by (with_reducible repeat (first |  refine zKn ?_ _|  refine zKd ?_|  refine zKa ?_ _)); exact BK453.out)) : gb455 ≠ gb453)); replace BK453 := zMk (zKb (g := gb453) (o := .cells #[.int .i64 a0_0, u454001] 24 (0, 0)) (by (with_reducible repeat (first |  refine zKn ?_ _|  refine zKd ?_|  refine zKa ?_ _)); exact BK453.out) hb); clear hb hbox hg; have hnb39 := NB455_451.out; have hnc39 := NB451_455.out; have hnb40 := NB455_452.out; have hnc40 := NB452_455.out; have hnb41 := NB455_453.out; have hnc41 := NB453_455.out; have hcz42_0 : w38.cell? ⟨gb455, 0, none⟩ = some (.int .i64 0) := (zKc BK455.out 0).trans rfl; have hcz42_1 : w38.cell? ⟨gb455, 1, none⟩ = some (.int .i64 0) := (zKc BK455.out 1).trans rfl; have hcz42_2 : w38.cell? ⟨gb455, 2, none⟩ = some (.int .i64 0) := (zKc BK455.out 2).trans rfl; have hfz42_0 := zKf BK455.out 0; have hfz42_1 := zKf BK455.out 1; have hfz42_2 := zKf BK455.out 2; have p456 : 0 ≤ (((rd_T36 l0_1 x6_1).f0) : Int) := of_decide_eq_true (by first |  (with_reducible assumption)|  assumption); have q456 : ((rd_T36 l0_1 x6_1).f0) < (l1.length : Int) := of_decide_eq_true (by first |  (with_reducible assumption)|  assumption); obtain ⟨ad456, e456, hx456_0⟩ := Kd.at_bool HR1.out ((rd_T36 l0_1 x6_1).f0) p456 q456; (try rw [← Nbq15.out] at hx456_0); (try rw [← Nbq19.out] at hx456_0); cases e456; have hn456_0 : ad456.block ≠ gb455 := Nat.ne_of_lt (Nat.lt_of_lt_of_le (by have := World.block_lt_of_cell? _ _ hx456_0; first |  rwa [add_block] at this|  exact this) GW455.out); have hn456_1 : ad456.block ≠ gb455 := Nat.ne_of_lt (Nat.lt_of_lt_of_le (by have := World.block_lt_of_cell? _ _ hx456_0; first |  rwa [add_block] at this|  exact this) GW455.out); have hn456_2 : ad456.block ≠ gb455 := Nat.ne_of_lt (Nat.lt_of_lt_of_le (by have := World.block_lt_of_cell? _ _ hx456_0; first |  rwa [add_block] at this|  exact this) GW455.out); replace hx456_0 := (HB.out.cell (World.block_lt_of_cell? w _ hx456_0)).trans hx456_0; replace hx456_0 := (cell_far (p := ⟨gb455, 0, none⟩) (by first |  (rw [add_block]; exact hn456_0)|  (show (Addr.add _ _).block ≠ _; rw [add_block]; exact hn456_0)|  exact hn456_0) (.int .i64 ((rd_T36 l0_1 x6_1).f0))).trans hx456_0; replace hx456_0 := (cell_far (p := ⟨gb455, 1, none⟩) (by first |  (rw [add_block]; exact hn456_1)|  (show (Addr.add _ _).block ≠ _; rw [add_block]; exact hn456_1)|  exact hn456_1) (.int .i64 ((rd_T36 l0_1 x6_1).f1))).trans hx456_0; replace hx456_0 := (cell_far (p := ⟨gb455, 2, none⟩) (by first |  (rw [add_block]; exact hn456_2)|  (show (Addr.add _ _).block ≠ _; rw [add_block]; exact hn456_2)|  exact hn456_2) (.int .i64 ((rd_T36 l0_1 x6_1).f2))).trans hx456_0; clear hn456_0 hn456_1 hn456_2; replace p456 := eq_true p456; replace q456 := eq_true q456; have p457 : 0 ≤ (((rd_T36 l0_1 x6_1).f1) : Int) := of_decide_eq_true (by first |  (with_reducible assumption)|  assumption); have q457 : ((rd_T36 l0_1 x6_1).f1) < (l1.length : Int) := of_decide_eq_true (by first |  (with_reducible assumption)|  assumption); obtain ⟨ad457, e457, hx457_0⟩ := Kd.at_bool HR1.out ((rd_T36 l0_1 x6_1).f1) p457 q457; (try rw [← Nbq15.out] at hx457_0); (try rw [← Nbq19.out] at hx457_0); obtain rfl : ad456 = ad457 := (by injection e457); have hn457_0 : ad456.block ≠ gb455 := Nat.ne_of_lt (Nat.lt_of_lt_of_le (by have := World.block_lt_of_cell? _ _ hx457_0; first |  rwa [add_block] at this|  exact this) GW455.out); have hn457_1 : ad456.block ≠ gb455 := Nat.ne_of_lt (Nat.lt_of_lt_of_le (by have := World.block_lt_of_cell? _ _ hx457_0; first |  rwa [add_block] at this|  exact this) GW455.out); have hn457_2 : ad456.block ≠ gb455 := Nat.ne_of_lt (Nat.lt_of_lt_of_le (by have := World.block_lt_of_cell? _ _ hx457_0; first |  rwa [add_block] at this|  exact this) GW455.out); replace hx457_0 := (HB.out.cell (World.block_lt_of_cell? w _ hx457_0)).trans hx457_0; replace hx457_0 := (cell_far (p := ⟨gb455, 0, none⟩) (by first |  (rw [add_block]; exact hn457_0)|  (show (Addr.add _ _).block ≠ _; rw [add_block]; exact hn457_0)|  exact hn457_0) (.int .i64 ((rd_T36 l0_1 x6_1).f0))).trans hx457_0; replace hx457_0 := (cell_far (p := ⟨gb455, 1, none⟩) (by first |  (rw [add_block]; exact hn457_1)|  (show (Addr.add _ _).block ≠ _; rw [add_block]; exact hn457_1)|  exact hn457_1) (.int .i64 ((rd_T36 l0_1 x6_1).f1))).trans hx457_0; replace hx457_0 := (cell_far (p := ⟨gb455, 2, none⟩) (by first |  (rw [add_block]; exact hn457_2)|  (show (Addr.add _ _).block ≠ _; rw [add_block]; exact hn457_2)|  exact hn457_2) (.int .i64 ((rd_T36 l0_1 x6_1).f2))).trans hx457_0; clear hn457_0 hn457_1 hn457_2; replace p457 := eq_true p457; replace q457 := eq_true q457))
            go_roundg k1
            case measure => have := HK1.out; omega
            case rel => exact ⟨(wrap64 (x6_1 + 1)), (x454001_1), (u454001), (by first | rfl | (simp; done) | (simp [*]; done)), H', ⟨by have := HK1.out; omega⟩, ⟨by (with_reducible repeat (first | apply zRa | apply zRn | apply zRd)); exact zRm (Kd.R_far (p := ⟨gb455, 2, none⟩) (Kd.R_far (p := ⟨gb455, 1, none⟩) (Kd.R_far (p := ⟨gb455, 0, none⟩) (zRm HO_454001.out (fun k_ hk => (⟨hk, hk.2⟩ : _ ∧ k_ ≠ gb455))) (fun _ hk => hk.2) (.int .i64 ((rd_T36 l0_1 x6_1).f0))) (fun _ hk => hk.2) (.int .i64 ((rd_T36 l0_1 x6_1).f1))) (fun _ hk => hk.2) (.int .i64 ((rd_T36 l0_1 x6_1).f2))) (fun _ hk => trivial)⟩, ⟨by (with_reducible repeat (first | refine zKn ?_ _ | refine zKd ?_ | refine zKa ?_ _)); refine blk_far ?_ NB451_455.out _; (with_reducible repeat (first | refine zKn ?_ _ | refine zKd ?_ | refine zKa ?_ _)); refine blk_far ?_ NB451_455.out _; (with_reducible repeat (first | refine zKn ?_ _ | refine zKd ?_ | refine zKa ?_ _)); refine blk_far ?_ NB451_455.out _; (with_reducible repeat (first | refine zKn ?_ _ | refine zKd ?_ | refine zKa ?_ _)); exact BK451.out⟩, ⟨by (with_reducible repeat (first | refine zKn ?_ _ | refine zKd ?_ | refine zKa ?_ _)); refine blk_far ?_ NB452_455.out _; (with_reducible repeat (first | refine zKn ?_ _ | refine zKd ?_ | refine zKa ?_ _)); refine blk_far ?_ NB452_455.out _; (with_reducible repeat (first | refine zKn ?_ _ | refine zKd ?_ | refine zKa ?_ _)); refine blk_far ?_ NB452_455.out _; (with_reducible repeat (first | refine zKn ?_ _ | refine zKd ?_ | refine zKa ?_ _)); exact BK452.out⟩, ⟨by (with_reducible repeat (first | refine zKn ?_ _ | refine zKd ?_ | refine zKa ?_ _)); refine blk_far ?_ NB453_455.out _; (with_reducible repeat (first | refine zKn ?_ _ | refine zKd ?_ | refine zKa ?_ _)); refine blk_far ?_ NB453_455.out _; (with_reducible repeat (first | refine zKn ?_ _ | refine zKd ?_ | refine zKa ?_ _)); refine blk_far ?_ NB453_455.out _; (with_reducible repeat (first | refine zKn ?_ _ | refine zKd ?_ | refine zKa ?_ _)); exact BK453.out⟩, ⟨by exact uT HB.out⟩⟩
        · rw [if_neg c17] at H
          have c17b0 : decide (((rd_T36 l0_1 x6_1).f1) < (l1.length : Int)) = false := decide_eq_false c17
          clear c17
          have H' := zMk H
          clear H
          have hnb43 := NB451_452.out
          have hnc43 := NB452_451.out
          have hnb44 := NB451_453.out
          have hnc44 := NB453_451.out
          have hcz45_0 : wr.cell? ⟨gb451, 0, none⟩ = some (.int .i64 a0_0) := (zKc BK451.out 0).trans rfl
          have hcz45_1 : wr.cell? ⟨gb451, 1, none⟩ = some (.slice A0_1 l0_1.length c0_1) := (zKc BK451.out 1).trans rfl
          have hfz45_0 := zKf BK451.out 0
          have hfz45_1 := zKf BK451.out 1
          have p454 : 0 ≤ (x6_1 : Int) := of_decide_eq_true (by first | (with_reducible assumption) | assumption)
          have q454 : x6_1 < (l0_1.length : Int) := of_decide_eq_true (by first | (with_reducible assumption) | assumption)
          obtain ⟨ad454, e454, hx454_0, hx454_1, hx454_2⟩ := at_T36 HR0_1.out x6_1 p454 q454
          cases e454
          replace hx454_0 := (HB.out.cell (World.block_lt_of_cell? w _ hx454_0)).trans hx454_0
          replace hx454_1 := (HB.out.cell (World.block_lt_of_cell? w _ hx454_1)).trans hx454_1
          replace hx454_2 := (HB.out.cell (World.block_lt_of_cell? w _ hx454_2)).trans hx454_2
          replace p454 := eq_true p454
          replace q454 := eq_true q454
          go_wp2_with (first |  ((with_reducible refine gate_dst (N := 7) rfl ?_); (try (refine gate_guard (by rfl) ?_; dsimp only)); refine box_event ?hg (N := 7) ?hd (cs := #[.int .i64 0, .int .i64 0, .int .i64 0]) (t := 36) ?hr ?_; (case hd => rfl); (case hg => rfl); (case hr => first |  (go_simp; done)|  (go_simp; rfl)|  (go_simp; rw [show ∀ x : Int, IntKind.u32.wrap (IntKind.u8.wrap x) = x % 256 from fun x => (by show (x % 256) % 4294967296 = x % 256; omega)])); intro gb455 hg w46 hbox hb; replace HO_454001 := zMk (zRb (Kd.R_elderB (by exact uR HO_454001.out) gb455 (Nat.le_of_eq hg.symm)) hb); have BK455 := zMk (hbox); have GW455 := zMk ((by rw [hg]; exact (zBs (by exact uT HB.out)) : w.heap.size ≤ gb455)); have GE455 := zMk ((by rw [hg]; exact (zBs (by exact uT HB.out)) : w.heap.size ≤ gb455)); have IGE455 := ownGe GE455.out; replace HB := zMk (zBt (by exact uT HB.out) hb); have NB451_455 := zMk ((by rw [hg]; exact Nat.ne_of_lt (blk_lt (g := gb451) (o := .cells #[.int .i64 a0_0, .slice (some ad454) l0_1.length c0_1] 24 (0, 0)) (by (with_reducible repeat (first |  refine zKn ?_ _|  refine zKd ?_|  refine zKa ?_ _)); exact BK451.out)) : gb451 ≠ gb455)); have NB455_451 := zMk ((by rw [hg]; exact Nat.ne_of_gt (blk_lt (g := gb451) (o := .cells #[.int .i64 a0_0, .slice (some ad454) l0_1.length c0_1] 24 (0, 0)) (by (with_reducible repeat (first |  refine zKn ?_ _|  refine zKd ?_|  refine zKa ?_ _)); exact BK451.out)) : gb455 ≠ gb451)); replace BK451 := zMk (zKb (g := gb451) (o := .cells #[.int .i64 a0_0, .slice (some ad454) l0_1.length c0_1] 24 (0, 0)) (by (with_reducible repeat (first |  refine zKn ?_ _|  refine zKd ?_|  refine zKa ?_ _)); exact BK451.out) hb); have NB452_455 := zMk ((by rw [hg]; exact Nat.ne_of_lt (blk_lt (g := gb452) (o := .cells #[.int .i64 0, .slice none 0 0] 24 (0, 0)) (by (with_reducible repeat (first |  refine zKn ?_ _|  refine zKd ?_|  refine zKa ?_ _)); exact BK452.out)) : gb452 ≠ gb455)); have NB455_452 := zMk ((by rw [hg]; exact Nat.ne_of_gt (blk_lt (g := gb452) (o := .cells #[.int .i64 0, .slice none 0 0] 24 (0, 0)) (by (with_reducible repeat (first |  refine zKn ?_ _|  refine zKd ?_|  refine zKa ?_ _)); exact BK452.out)) : gb455 ≠ gb452)); replace BK452 := zMk (zKb (g := gb452) (o := .cells #[.int .i64 0, .slice none 0 0] 24 (0, 0)) (by (with_reducible repeat (first |  refine zKn ?_ _|  refine zKd ?_|  refine zKa ?_ _)); exact BK452.out) hb); have NB453_455 := zMk ((by rw [hg]; exact Nat.ne_of_lt (blk_lt (g := gb453) (o := .cells #[.int .i64 a0_0, u454001] 24 (0, 0)) (by (with_reducible repeat (first |  refine zKn ?_ _|  refine zKd ?_|  refine zKa ?_ _)); exact BK453.out)) : gb453 ≠ gb455)); have NB455_453 := zMk ((by rw [hg]; exact Nat.ne_of_gt (blk_lt (g := gb453) (o := .cells #[.int .i64 a0_0, u454001] 24 (0, 0)) (by (with_reducible repeat (first |  refine zKn ?_ _|  refine zKd ?_|  refine zKa ?_ _)); exact BK453.out)) : gb455 ≠ gb453)); replace BK453 := zMk (zKb (g := gb453) (o := .cells #[.int .i64 a0_0, u454001] 24 (0, 0)) (by (with_reducible repeat (first |  refine zKn ?_ _|  refine zKd ?_|  refine zKa ?_ _)); exact BK453.out) hb); clear hb hbox hg; have hnb47 := NB455_451.out; have hnc47 := NB451_455.out; have hnb48 := NB455_452.out; have hnc48 := NB452_455.out; have hnb49 := NB455_453.out; have hnc49 := NB453_455.out; have hcz50_0 : w46.cell? ⟨gb455, 0, none⟩ = some (.int .i64 0) := (zKc BK455.out 0).trans rfl; have hcz50_1 : w46.cell? ⟨gb455, 1, none⟩ = some (.int .i64 0) := (zKc BK455.out 1).trans rfl; have hcz50_2 : w46.cell? ⟨gb455, 2, none⟩ = some (.int .i64 0) := (zKc BK455.out 2).trans rfl; have hfz50_0 := zKf BK455.out 0; have hfz50_1 := zKf BK455.out 1; have hfz50_2 := zKf BK455.out 2; have p456 : 0 ≤ (((rd_T36 l0_1 x6_1).f0) : Int) := of_decide_eq_true (by first |  (with_reducible assumption)|  assumption); have q456 : ((rd_T36 l0_1 x6_1).f0) < (l1.length : Int) := of_decide_eq_true (by first |  (with_reducible assumption)|  assumption); obtain ⟨ad456, e456, hx456_0⟩ := Kd.at_bool HR1.out ((rd_T36 l0_1 x6_1).f0) p456 q456; (try rw [← Nbq15.out] at hx456_0); cases e456; have hn456_0 : ad456.block ≠ gb455 := Nat.ne_of_lt (Nat.lt_of_lt_of_le (by have := World.block_lt_of_cell? _ _ hx456_0; first |  rwa [add_block] at this|  exact this) GW455.out); have hn456_1 : ad456.block ≠ gb455 := Nat.ne_of_lt (Nat.lt_of_lt_of_le (by have := World.block_lt_of_cell? _ _ hx456_0; first |  rwa [add_block] at this|  exact this) GW455.out); have hn456_2 : ad456.block ≠ gb455 := Nat.ne_of_lt (Nat.lt_of_lt_of_le (by have := World.block_lt_of_cell? _ _ hx456_0; first |  rwa [add_block] at this|  exact this) GW455.out); replace hx456_0 := (HB.out.cell (World.block_lt_of_cell? w _ hx456_0)).trans hx456_0; replace hx456_0 := (cell_far (p := ⟨gb455, 0, none⟩) (by first |  (rw [add_block]; exact hn456_0)|  (show (Addr.add _ _).block ≠ _; rw [add_block]; exact hn456_0)|  exact hn456_0) (.int .i64 ((rd_T36 l0_1 x6_1).f0))).trans hx456_0; replace hx456_0 := (cell_far (p := ⟨gb455, 1, none⟩) (by first |  (rw [add_block]; exact hn456_1)|  (show (Addr.add _ _).block ≠ _; rw [add_block]; exact hn456_1)|  exact hn456_1) (.int .i64 ((rd_T36 l0_1 x6_1).f1))).trans hx456_0; replace hx456_0 := (cell_far (p := ⟨gb455, 2, none⟩) (by first |  (rw [add_block]; exact hn456_2)|  (show (Addr.add _ _).block ≠ _; rw [add_block]; exact hn456_2)|  exact hn456_2) (.int .i64 ((rd_T36 l0_1 x6_1).f2))).trans hx456_0; clear hn456_0 hn456_1 hn456_2; replace p456 := eq_true p456; replace q456 := eq_true q456))
          go_roundg k1
          case measure => have := HK1.out; omega
          case rel => exact ⟨(wrap64 (x6_1 + 1)), (x454001_1), (u454001), (by first | rfl | (simp; done) | (simp [*]; done)), H', ⟨by have := HK1.out; omega⟩, ⟨by (with_reducible repeat (first | apply zRa | apply zRn | apply zRd)); exact zRm (Kd.R_far (p := ⟨gb455, 2, none⟩) (Kd.R_far (p := ⟨gb455, 1, none⟩) (Kd.R_far (p := ⟨gb455, 0, none⟩) (zRm HO_454001.out (fun k_ hk => (⟨hk, hk.2⟩ : _ ∧ k_ ≠ gb455))) (fun _ hk => hk.2) (.int .i64 ((rd_T36 l0_1 x6_1).f0))) (fun _ hk => hk.2) (.int .i64 ((rd_T36 l0_1 x6_1).f1))) (fun _ hk => hk.2) (.int .i64 ((rd_T36 l0_1 x6_1).f2))) (fun _ hk => trivial)⟩, ⟨by (with_reducible repeat (first | refine zKn ?_ _ | refine zKd ?_ | refine zKa ?_ _)); refine blk_far ?_ NB451_455.out _; (with_reducible repeat (first | refine zKn ?_ _ | refine zKd ?_ | refine zKa ?_ _)); refine blk_far ?_ NB451_455.out _; (with_reducible repeat (first | refine zKn ?_ _ | refine zKd ?_ | refine zKa ?_ _)); refine blk_far ?_ NB451_455.out _; (with_reducible repeat (first | refine zKn ?_ _ | refine zKd ?_ | refine zKa ?_ _)); exact BK451.out⟩, ⟨by (with_reducible repeat (first | refine zKn ?_ _ | refine zKd ?_ | refine zKa ?_ _)); refine blk_far ?_ NB452_455.out _; (with_reducible repeat (first | refine zKn ?_ _ | refine zKd ?_ | refine zKa ?_ _)); refine blk_far ?_ NB452_455.out _; (with_reducible repeat (first | refine zKn ?_ _ | refine zKd ?_ | refine zKa ?_ _)); refine blk_far ?_ NB452_455.out _; (with_reducible repeat (first | refine zKn ?_ _ | refine zKd ?_ | refine zKa ?_ _)); exact BK452.out⟩, ⟨by (with_reducible repeat (first | refine zKn ?_ _ | refine zKd ?_ | refine zKa ?_ _)); refine blk_far ?_ NB453_455.out _; (with_reducible repeat (first | refine zKn ?_ _ | refine zKd ?_ | refine zKa ?_ _)); refine blk_far ?_ NB453_455.out _; (with_reducible repeat (first | refine zKn ?_ _ | refine zKd ?_ | refine zKa ?_ _)); refine blk_far ?_ NB453_455.out _; (with_reducible repeat (first | refine zKn ?_ _ | refine zKd ?_ | refine zKa ?_ _)); exact BK453.out⟩, ⟨by exact uT HB.out⟩⟩
      · replace c16 := Bool.eq_false_iff.mpr c16
        subst c16
        replace H : (filigreeref04_Only.l0 k1 l1 (wrap64 (x6_1 + 1)) a0_0 l0_1 a0_0 x454001_1) = some (r1, r2) := by rw [if_neg (show ¬ (false = true) by decide)] at H; exact H
        have H' := zMk H
        clear H
        have hnb51 := NB451_452.out
        have hnc51 := NB452_451.out
        have hnb52 := NB451_453.out
        have hnc52 := NB453_451.out
        have hcz53_0 : wr.cell? ⟨gb451, 0, none⟩ = some (.int .i64 a0_0) := (zKc BK451.out 0).trans rfl
        have hcz53_1 : wr.cell? ⟨gb451, 1, none⟩ = some (.slice A0_1 l0_1.length c0_1) := (zKc BK451.out 1).trans rfl
        have hfz53_0 := zKf BK451.out 0
        have hfz53_1 := zKf BK451.out 1
        have p454 : 0 ≤ (x6_1 : Int) := of_decide_eq_true (by first | (with_reducible assumption) | assumption)
        have q454 : x6_1 < (l0_1.length : Int) := of_decide_eq_true (by first | (with_reducible assumption) | assumption)
        obtain ⟨ad454, e454, hx454_0, hx454_1, hx454_2⟩ := at_T36 HR0_1.out x6_1 p454 q454
        cases e454
        replace hx454_0 := (HB.out.cell (World.block_lt_of_cell? w _ hx454_0)).trans hx454_0
        replace hx454_1 := (HB.out.cell (World.block_lt_of_cell? w _ hx454_1)).trans hx454_1
        replace hx454_2 := (HB.out.cell (World.block_lt_of_cell? w _ hx454_2)).trans hx454_2
        replace p454 := eq_true p454
        replace q454 := eq_true q454
        go_wp2_with (first |  ((with_reducible refine gate_dst (N := 7) rfl ?_); (try (refine gate_guard (by rfl) ?_; dsimp only)); refine box_event ?hg (N := 7) ?hd (cs := #[.int .i64 0, .int .i64 0, .int .i64 0]) (t := 36) ?hr ?_; (case hd => rfl); (case hg => rfl); (case hr => first |  (go_simp; done)|  (go_simp; rfl)|  (go_simp; rw [show ∀ x : Int, IntKind.u32.wrap (IntKind.u8.wrap x) = x % 256 from fun x => (by show (x % 256) % 4294967296 = x % 256; omega)])); intro gb455 hg w54 hbox hb; replace HO_454001 := zMk (zRb (Kd.R_elderB (by exact uR HO_454001.out) gb455 (Nat.le_of_eq hg.symm)) hb); have BK455 := zMk (hbox); have GW455 := zMk ((by rw [hg]; exact (zBs (by exact uT HB.out)) : w.heap.size ≤ gb455)); have GE455 := zMk ((by rw [hg]; exact (zBs (by exact uT HB.out)) : w.heap.size ≤ gb455)); have IGE455 := ownGe GE455.out; replace HB := zMk (zBt (by exact uT HB.out) hb); have NB451_455 := zMk ((by rw [hg]; exact Nat.ne_of_lt (blk_lt (g := gb451) (o := .cells #[.int .i64 a0_0, .slice (some ad454) l0_1.length c0_1] 24 (0, 0)) (by (with_reducible repeat (first |  refine zKn ?_ _|  refine zKd ?_|  refine zKa ?_ _)); exact BK451.out)) : gb451 ≠ gb455)); have NB455_451 := zMk ((by rw [hg]; exact Nat.ne_of_gt (blk_lt (g := gb451) (o := .cells #[.int .i64 a0_0, .slice (some ad454) l0_1.length c0_1] 24 (0, 0)) (by (with_reducible repeat (first |  refine zKn ?_ _|  refine zKd ?_|  refine zKa ?_ _)); exact BK451.out)) : gb455 ≠ gb451)); replace BK451 := zMk (zKb (g := gb451) (o := .cells #[.int .i64 a0_0, .slice (some ad454) l0_1.length c0_1] 24 (0, 0)) (by (with_reducible repeat (first |  refine zKn ?_ _|  refine zKd ?_|  refine zKa ?_ _)); exact BK451.out) hb); have NB452_455 := zMk ((by rw [hg]; exact Nat.ne_of_lt (blk_lt (g := gb452) (o := .cells #[.int .i64 0, .slice none 0 0] 24 (0, 0)) (by (with_reducible repeat (first |  refine zKn ?_ _|  refine zKd ?_|  refine zKa ?_ _)); exact BK452.out)) : gb452 ≠ gb455)); have NB455_452 := zMk ((by rw [hg]; exact Nat.ne_of_gt (blk_lt (g := gb452) (o := .cells #[.int .i64 0, .slice none 0 0] 24 (0, 0)) (by (with_reducible repeat (first |  refine zKn ?_ _|  refine zKd ?_|  refine zKa ?_ _)); exact BK452.out)) : gb455 ≠ gb452)); replace BK452 := zMk (zKb (g := gb452) (o := .cells #[.int .i64 0, .slice none 0 0] 24 (0, 0)) (by (with_reducible repeat (first |  refine zKn ?_ _|  refine zKd ?_|  refine zKa ?_ _)); exact BK452.out) hb); have NB453_455 := zMk ((by rw [hg]; exact Nat.ne_of_lt (blk_lt (g := gb453) (o := .cells #[.int .i64 a0_0, u454001] 24 (0, 0)) (by (with_reducible repeat (first |  refine zKn ?_ _|  refine zKd ?_|  refine zKa ?_ _)); exact BK453.out)) : gb453 ≠ gb455)); have NB455_453 := zMk ((by rw [hg]; exact Nat.ne_of_gt (blk_lt (g := gb453) (o := .cells #[.int .i64 a0_0, u454001] 24 (0, 0)) (by (with_reducible repeat (first |  refine zKn ?_ _|  refine zKd ?_|  refine zKa ?_ _)); exact BK453.out)) : gb455 ≠ gb453)); replace BK453 := zMk (zKb (g := gb453) (o := .cells #[.int .i64 a0_0, u454001] 24 (0, 0)) (by (with_reducible repeat (first |  refine zKn ?_ _|  refine zKd ?_|  refine zKa ?_ _)); exact BK453.out) hb); clear hb hbox hg; have hnb55 := NB455_451.out; have hnc55 := NB451_455.out; have hnb56 := NB455_452.out; have hnc56 := NB452_455.out; have hnb57 := NB455_453.out; have hnc57 := NB453_455.out; have hcz58_0 : w54.cell? ⟨gb455, 0, none⟩ = some (.int .i64 0) := (zKc BK455.out 0).trans rfl; have hcz58_1 : w54.cell? ⟨gb455, 1, none⟩ = some (.int .i64 0) := (zKc BK455.out 1).trans rfl; have hcz58_2 : w54.cell? ⟨gb455, 2, none⟩ = some (.int .i64 0) := (zKc BK455.out 2).trans rfl; have hfz58_0 := zKf BK455.out 0; have hfz58_1 := zKf BK455.out 1; have hfz58_2 := zKf BK455.out 2; have p456 : 0 ≤ (((rd_T36 l0_1 x6_1).f0) : Int) := of_decide_eq_true (by first |  (with_reducible assumption)|  assumption); have q456 : ((rd_T36 l0_1 x6_1).f0) < (l1.length : Int) := of_decide_eq_true (by first |  (with_reducible assumption)|  assumption); obtain ⟨ad456, e456, hx456_0⟩ := Kd.at_bool HR1.out ((rd_T36 l0_1 x6_1).f0) p456 q456; (try rw [← Nbq15.out] at hx456_0); cases e456; have hn456_0 : ad456.block ≠ gb455 := Nat.ne_of_lt (Nat.lt_of_lt_of_le (by have := World.block_lt_of_cell? _ _ hx456_0; first |  rwa [add_block] at this|  exact this) GW455.out); have hn456_1 : ad456.block ≠ gb455 := Nat.ne_of_lt (Nat.lt_of_lt_of_le (by have := World.block_lt_of_cell? _ _ hx456_0; first |  rwa [add_block] at this|  exact this) GW455.out); have hn456_2 : ad456.block ≠ gb455 := Nat.ne_of_lt (Nat.lt_of_lt_of_le (by have := World.block_lt_of_cell? _ _ hx456_0; first |  rwa [add_block] at this|  exact this) GW455.out); replace hx456_0 := (HB.out.cell (World.block_lt_of_cell? w _ hx456_0)).trans hx456_0; replace hx456_0 := (cell_far (p := ⟨gb455, 0, none⟩) (by first |  (rw [add_block]; exact hn456_0)|  (show (Addr.add _ _).block ≠ _; rw [add_block]; exact hn456_0)|  exact hn456_0) (.int .i64 ((rd_T36 l0_1 x6_1).f0))).trans hx456_0; replace hx456_0 := (cell_far (p := ⟨gb455, 1, none⟩) (by first |  (rw [add_block]; exact hn456_1)|  (show (Addr.add _ _).block ≠ _; rw [add_block]; exact hn456_1)|  exact hn456_1) (.int .i64 ((rd_T36 l0_1 x6_1).f1))).trans hx456_0; replace hx456_0 := (cell_far (p := ⟨gb455, 2, none⟩) (by first |  (rw [add_block]; exact hn456_2)|  (show (Addr.add _ _).block ≠ _; rw [add_block]; exact hn456_2)|  exact hn456_2) (.int .i64 ((rd_T36 l0_1 x6_1).f2))).trans hx456_0; clear hn456_0 hn456_1 hn456_2; replace p456 := eq_true p456; replace q456 := eq_true q456))
        go_roundg k1
        case measure => have := HK1.out; omega
        case rel => exact ⟨(wrap64 (x6_1 + 1)), (x454001_1), (u454001), (by first | rfl | (simp; done) | (simp [*]; done)), H', ⟨by have := HK1.out; omega⟩, ⟨by (with_reducible repeat (first | apply zRa | apply zRn | apply zRd)); exact zRm (Kd.R_far (p := ⟨gb455, 2, none⟩) (Kd.R_far (p := ⟨gb455, 1, none⟩) (Kd.R_far (p := ⟨gb455, 0, none⟩) (zRm HO_454001.out (fun k_ hk => (⟨hk, hk.2⟩ : _ ∧ k_ ≠ gb455))) (fun _ hk => hk.2) (.int .i64 ((rd_T36 l0_1 x6_1).f0))) (fun _ hk => hk.2) (.int .i64 ((rd_T36 l0_1 x6_1).f1))) (fun _ hk => hk.2) (.int .i64 ((rd_T36 l0_1 x6_1).f2))) (fun _ hk => trivial)⟩, ⟨by (with_reducible repeat (first | refine zKn ?_ _ | refine zKd ?_ | refine zKa ?_ _)); refine blk_far ?_ NB451_455.out _; (with_reducible repeat (first | refine zKn ?_ _ | refine zKd ?_ | refine zKa ?_ _)); refine blk_far ?_ NB451_455.out _; (with_reducible repeat (first | refine zKn ?_ _ | refine zKd ?_ | refine zKa ?_ _)); refine blk_far ?_ NB451_455.out _; (with_reducible repeat (first | refine zKn ?_ _ | refine zKd ?_ | refine zKa ?_ _)); exact BK451.out⟩, ⟨by (with_reducible repeat (first | refine zKn ?_ _ | refine zKd ?_ | refine zKa ?_ _)); refine blk_far ?_ NB452_455.out _; (with_reducible repeat (first | refine zKn ?_ _ | refine zKd ?_ | refine zKa ?_ _)); refine blk_far ?_ NB452_455.out _; (with_reducible repeat (first | refine zKn ?_ _ | refine zKd ?_ | refine zKa ?_ _)); refine blk_far ?_ NB452_455.out _; (with_reducible repeat (first | refine zKn ?_ _ | refine zKd ?_ | refine zKa ?_ _)); exact BK452.out⟩, ⟨by (with_reducible repeat (first | refine zKn ?_ _ | refine zKd ?_ | refine zKa ?_ _)); refine blk_far ?_ NB453_455.out _; (with_reducible repeat (first | refine zKn ?_ _ | refine zKd ?_ | refine zKa ?_ _)); refine blk_far ?_ NB453_455.out _; (with_reducible repeat (first | refine zKn ?_ _ | refine zKd ?_ | refine zKa ?_ _)); refine blk_far ?_ NB453_455.out _; (with_reducible repeat (first | refine zKn ?_ _ | refine zKd ?_ | refine zKa ?_ _)); exact BK453.out⟩, ⟨by exact uT HB.out⟩⟩
    · rw [if_neg c13] at H
      have c13b0 : decide (((rd_T36 l0_1 x6_1).f0) < (l1.length : Int)) = false := decide_eq_false c13
      clear c13
      have H' := zMk H
      clear H
      have hnb59 := NB451_452.out
      have hnc59 := NB452_451.out
      have hnb60 := NB451_453.out
      have hnc60 := NB453_451.out
      have hcz61_0 : wr.cell? ⟨gb451, 0, none⟩ = some (.int .i64 a0_0) := (zKc BK451.out 0).trans rfl
      have hcz61_1 : wr.cell? ⟨gb451, 1, none⟩ = some (.slice A0_1 l0_1.length c0_1) := (zKc BK451.out 1).trans rfl
      have hfz61_0 := zKf BK451.out 0
      have hfz61_1 := zKf BK451.out 1
      have p454 : 0 ≤ (x6_1 : Int) := of_decide_eq_true (by first | (with_reducible assumption) | assumption)
      have q454 : x6_1 < (l0_1.length : Int) := of_decide_eq_true (by first | (with_reducible assumption) | assumption)
      obtain ⟨ad454, e454, hx454_0, hx454_1, hx454_2⟩ := at_T36 HR0_1.out x6_1 p454 q454
      cases e454
      replace hx454_0 := (HB.out.cell (World.block_lt_of_cell? w _ hx454_0)).trans hx454_0
      replace hx454_1 := (HB.out.cell (World.block_lt_of_cell? w _ hx454_1)).trans hx454_1
      replace hx454_2 := (HB.out.cell (World.block_lt_of_cell? w _ hx454_2)).trans hx454_2
      replace p454 := eq_true p454
      replace q454 := eq_true q454
      go_wp2_with (first |  ((with_reducible refine gate_dst (N := 7) rfl ?_); (try (refine gate_guard (by rfl) ?_; dsimp only)); refine box_event ?hg (N := 7) ?hd (cs := #[.int .i64 0, .int .i64 0, .int .i64 0]) (t := 36) ?hr ?_; (case hd => rfl); (case hg => rfl); (case hr => first |  (go_simp; done)|  (go_simp; rfl)|  (go_simp; rw [show ∀ x : Int, IntKind.u32.wrap (IntKind.u8.wrap x) = x % 256 from fun x => (by show (x % 256) % 4294967296 = x % 256; omega)])); intro gb455 hg w62 hbox hb; replace HO_454001 := zMk (zRb (Kd.R_elderB (by exact uR HO_454001.out) gb455 (Nat.le_of_eq hg.symm)) hb); have BK455 := zMk (hbox); have GW455 := zMk ((by rw [hg]; exact (zBs (by exact uT HB.out)) : w.heap.size ≤ gb455)); have GE455 := zMk ((by rw [hg]; exact (zBs (by exact uT HB.out)) : w.heap.size ≤ gb455)); have IGE455 := ownGe GE455.out; replace HB := zMk (zBt (by exact uT HB.out) hb); have NB451_455 := zMk ((by rw [hg]; exact Nat.ne_of_lt (blk_lt (g := gb451) (o := .cells #[.int .i64 a0_0, .slice (some ad454) l0_1.length c0_1] 24 (0, 0)) (by (with_reducible repeat (first |  refine zKn ?_ _|  refine zKd ?_|  refine zKa ?_ _)); exact BK451.out)) : gb451 ≠ gb455)); have NB455_451 := zMk ((by rw [hg]; exact Nat.ne_of_gt (blk_lt (g := gb451) (o := .cells #[.int .i64 a0_0, .slice (some ad454) l0_1.length c0_1] 24 (0, 0)) (by (with_reducible repeat (first |  refine zKn ?_ _|  refine zKd ?_|  refine zKa ?_ _)); exact BK451.out)) : gb455 ≠ gb451)); replace BK451 := zMk (zKb (g := gb451) (o := .cells #[.int .i64 a0_0, .slice (some ad454) l0_1.length c0_1] 24 (0, 0)) (by (with_reducible repeat (first |  refine zKn ?_ _|  refine zKd ?_|  refine zKa ?_ _)); exact BK451.out) hb); have NB452_455 := zMk ((by rw [hg]; exact Nat.ne_of_lt (blk_lt (g := gb452) (o := .cells #[.int .i64 0, .slice none 0 0] 24 (0, 0)) (by (with_reducible repeat (first |  refine zKn ?_ _|  refine zKd ?_|  refine zKa ?_ _)); exact BK452.out)) : gb452 ≠ gb455)); have NB455_452 := zMk ((by rw [hg]; exact Nat.ne_of_gt (blk_lt (g := gb452) (o := .cells #[.int .i64 0, .slice none 0 0] 24 (0, 0)) (by (with_reducible repeat (first |  refine zKn ?_ _|  refine zKd ?_|  refine zKa ?_ _)); exact BK452.out)) : gb455 ≠ gb452)); replace BK452 := zMk (zKb (g := gb452) (o := .cells #[.int .i64 0, .slice none 0 0] 24 (0, 0)) (by (with_reducible repeat (first |  refine zKn ?_ _|  refine zKd ?_|  refine zKa ?_ _)); exact BK452.out) hb); have NB453_455 := zMk ((by rw [hg]; exact Nat.ne_of_lt (blk_lt (g := gb453) (o := .cells #[.int .i64 a0_0, u454001] 24 (0, 0)) (by (with_reducible repeat (first |  refine zKn ?_ _|  refine zKd ?_|  refine zKa ?_ _)); exact BK453.out)) : gb453 ≠ gb455)); have NB455_453 := zMk ((by rw [hg]; exact Nat.ne_of_gt (blk_lt (g := gb453) (o := .cells #[.int .i64 a0_0, u454001] 24 (0, 0)) (by (with_reducible repeat (first |  refine zKn ?_ _|  refine zKd ?_|  refine zKa ?_ _)); exact BK453.out)) : gb455 ≠ gb453)); replace BK453 := zMk (zKb (g := gb453) (o := .cells #[.int .i64 a0_0, u454001] 24 (0, 0)) (by (with_reducible repeat (first |  refine zKn ?_ _|  refine zKd ?_|  refine zKa ?_ _)); exact BK453.out) hb); clear hb hbox hg; have hnb63 := NB455_451.out; have hnc63 := NB451_455.out; have hnb64 := NB455_452.out; have hnc64 := NB452_455.out; have hnb65 := NB455_453.out; have hnc65 := NB453_455.out; have hcz66_0 : w62.cell? ⟨gb455, 0, none⟩ = some (.int .i64 0) := (zKc BK455.out 0).trans rfl; have hcz66_1 : w62.cell? ⟨gb455, 1, none⟩ = some (.int .i64 0) := (zKc BK455.out 1).trans rfl; have hcz66_2 : w62.cell? ⟨gb455, 2, none⟩ = some (.int .i64 0) := (zKc BK455.out 2).trans rfl; have hfz66_0 := zKf BK455.out 0; have hfz66_1 := zKf BK455.out 1; have hfz66_2 := zKf BK455.out 2))
      go_roundg k1
      case measure => have := HK1.out; omega
      case rel => exact ⟨(wrap64 (x6_1 + 1)), (x454001_1), (u454001), (by first | rfl | (simp; done) | (simp [*]; done)), H', ⟨by have := HK1.out; omega⟩, ⟨by (with_reducible repeat (first | apply zRa | apply zRn | apply zRd)); exact zRm (Kd.R_far (p := ⟨gb455, 2, none⟩) (Kd.R_far (p := ⟨gb455, 1, none⟩) (Kd.R_far (p := ⟨gb455, 0, none⟩) (zRm HO_454001.out (fun k_ hk => (⟨hk, hk.2⟩ : _ ∧ k_ ≠ gb455))) (fun _ hk => hk.2) (.int .i64 ((rd_T36 l0_1 x6_1).f0))) (fun _ hk => hk.2) (.int .i64 ((rd_T36 l0_1 x6_1).f1))) (fun _ hk => hk.2) (.int .i64 ((rd_T36 l0_1 x6_1).f2))) (fun _ hk => trivial)⟩, ⟨by (with_reducible repeat (first | refine zKn ?_ _ | refine zKd ?_ | refine zKa ?_ _)); refine blk_far ?_ NB451_455.out _; (with_reducible repeat (first | refine zKn ?_ _ | refine zKd ?_ | refine zKa ?_ _)); refine blk_far ?_ NB451_455.out _; (with_reducible repeat (first | refine zKn ?_ _ | refine zKd ?_ | refine zKa ?_ _)); refine blk_far ?_ NB451_455.out _; (with_reducible repeat (first | refine zKn ?_ _ | refine zKd ?_ | refine zKa ?_ _)); exact BK451.out⟩, ⟨by (with_reducible repeat (first | refine zKn ?_ _ | refine zKd ?_ | refine zKa ?_ _)); refine blk_far ?_ NB452_455.out _; (with_reducible repeat (first | refine zKn ?_ _ | refine zKd ?_ | refine zKa ?_ _)); refine blk_far ?_ NB452_455.out _; (with_reducible repeat (first | refine zKn ?_ _ | refine zKd ?_ | refine zKa ?_ _)); refine blk_far ?_ NB452_455.out _; (with_reducible repeat (first | refine zKn ?_ _ | refine zKd ?_ | refine zKa ?_ _)); exact BK452.out⟩, ⟨by (with_reducible repeat (first | refine zKn ?_ _ | refine zKd ?_ | refine zKa ?_ _)); refine blk_far ?_ NB453_455.out _; (with_reducible repeat (first | refine zKn ?_ _ | refine zKd ?_ | refine zKa ?_ _)); refine blk_far ?_ NB453_455.out _; (with_reducible repeat (first | refine zKn ?_ _ | refine zKd ?_ | refine zKa ?_ _)); refine blk_far ?_ NB453_455.out _; (with_reducible repeat (first | refine zKn ?_ _ | refine zKd ?_ | refine zKa ?_ _)); exact BK453.out⟩, ⟨by exact uT HB.out⟩⟩
  · rw [if_neg c11] at H
    have c11b0 : decide (x6_1 < (l0_1.length : Int)) = false := decide_eq_false c11
    clear c11
    simp only [Option.some.injEq, Prod.mk.injEq] at H
    obtain ⟨rfl, rfl⟩ := H
    have hnb67 := NB451_452.out
    have hnc67 := NB452_451.out
    have hnb68 := NB451_453.out
    have hnc68 := NB453_451.out
    have hcz69_0 : wr.cell? ⟨gb451, 0, none⟩ = some (.int .i64 a0_0) := (zKc BK451.out 0).trans rfl
    have hcz69_1 : wr.cell? ⟨gb451, 1, none⟩ = some (.slice A0_1 l0_1.length c0_1) := (zKc BK451.out 1).trans rfl
    have hfz69_0 := zKf BK451.out 0
    have hfz69_1 := zKf BK451.out 1
    have hnb70 := NB453_452.out
    have hnc70 := NB452_453.out
    have hcz71_0 : wr.cell? ⟨gb453, 0, none⟩ = some (.int .i64 a0_0) := (zKc BK453.out 0).trans rfl
    have hcz71_1 : wr.cell? ⟨gb453, 1, none⟩ = some (u454001) := (zKc BK453.out 1).trans rfl
    have hfz71_0 := zKf BK453.out 0
    have hfz71_1 := zKf BK453.out 1
    have hcz72_0 : wr.cell? ⟨gb452, 0, none⟩ = some (.int .i64 0) := (zKc BK452.out 0).trans rfl
    have hcz72_1 : wr.cell? ⟨gb452, 1, none⟩ = some (.slice none 0 0) := (zKc BK452.out 1).trans rfl
    have hfz72_0 := zKf BK452.out 0
    have hfz72_1 := zKf BK452.out 1
    obtain ⟨Ao73, co73, eo73⟩ := zRs HO_454001.out
    subst eo73
    go_wp2
    refine bodyPost_ret (results_cell_row rfl _ _ gb452 24 #[.int .i64 a0_0, .slice Ao73 x454001_1.length co73] (0, 0) _ rfl (by (with_reducible repeat (first | refine zKn ?_ _ | refine zKd ?_ | refine zKa ?_ _)); refine blk_put (cs := #[.int .i64 a0_0, .slice none 0 0]) ?_ 1 _ rfl; (with_reducible repeat (first | refine zKn ?_ _ | refine zKd ?_ | refine zKa ?_ _)); refine blk_put (cs := #[.int .i64 0, .slice none 0 0]) ?_ 0 _ rfl; (with_reducible repeat (first | refine zKn ?_ _ | refine zKd ?_ | refine zKa ?_ _)); exact BK452.out) Try.underlying24 rfl (by kernel_rfl)) rfl ?_
    exact ⟨_, by first | rfl | (simp [errW_none, errW_some] <;> rfl) | (simp [*, errW_none, errW_some] <;> rfl), by (with_reducible repeat (first | apply zRa | apply zRn | apply zRd)); exact zRm (Kd.R_far (p := ⟨gb452, 1, none⟩) (Kd.R_far (p := ⟨gb452, 0, none⟩) (Kd.R_types HO_454001.out BK452.out (by decide)) (fun _ hk => hk.2) (.int .i64 a0_0)) (fun _ hk => hk.2) (.slice Ao73 x454001_1.length co73)) (fun _ hk => trivial), by exact uT HB.out⟩


/-! ### filigreeref04_Less: function 24 -/
def filigreeref04_Less.l0 : Nat → List Int → Int → Int → List (S36) → Int → List (S36) → Option (Int × (List (S36)))
  | 0, _, _, _, _, _, _ => none
  | k + 1, x1, x6, x462000, x462001, x464000, x464001 => if x6 < (x462001.length : Int) then ((filigreeref04_Has.f k x1 x6).bind fun t464 => (if t464 = true then (filigreeref04_Less.l0 k x1 (wrap64 (x6 + 1)) x462000 x462001 x464000 x464001) else (if 0 ≤ x6 then (if x464001.length < 5864062014805 then (filigreeref04_Less.l0 k x1 (wrap64 (x6 + 1)) x462000 x462001 x464000 (x464001 ++ [(⟨(rd_T36 x462001 x6).f0, (rd_T36 x462001 x6).f1, (rd_T36 x462001 x6).f2⟩ : S36)])) else (none)) else (none)))) else (some (x464000, x464001))
def filigreeref04_Less.f (k : Nat) (a0_0 : Int) (l0_1 : List (S36)) (l1 : List Int) : Option (Int × (List (S36))) := filigreeref04_Less.l0 k l1 0 a0_0 l0_1 a0_0 ([] : List (S36))
def filigreeref04_Less.T6 : Bool × List (List Nat × List Nat) := (true, [([], []), ([0], [0]), ([], []), ([2], [2]), ([], []), ([3, 4], [3, 4]), ([5], [5]), ([6], [6]), ([1, 7], [1, 7]), ([0, 1, 2, 3, 4, 5, 6, 7, 8], []), ([9, 8, 8, 0, 1, 2, 3, 4, 5, 6, 7, 8], [8, 9])])
def filigreeref04_Less.B6 : List Nat := [0, 1, 0, 4, 0, 28, 60, 124, 255, 511, 1023]
theorem filigreeref04_Less.tab6 : rtab .any (opsOf Try.f24 6) = filigreeref04_Less.T6 := by kernel_rfl
theorem filigreeref04_Less.bits6 : waitsOk filigreeref04_Less.T6.2 filigreeref04_Less.B6 = true := by kernel_rfl
set_option maxHeartbeats 8000000 in
set_option maxRecDepth 100000 in
theorem filigreeref04_Less.calls (k : Nat) (a0_0 : Int) (A0_1 : Option Addr) (c0_1 : Nat) (l0_1 : List (S36)) (A1 : Option Addr) (c1 : Nat) (l1 : List Int) (r1 : Int) (r2 : List (S36)) (w : World) (hr0_1 : Kd.C k36 w A0_1 l0_1.length l0_1) (hc0_1 : l0_1.length ≤ c0_1) (hr1 : Kd.C (Kd.int .i64) w A1 l1.length l1) (hc1 : l1.length ≤ c1) (h : filigreeref04_Less.f k a0_0 l0_1 l1 = some (r1, r2)) :
    Calls Try.prog 24 #[.agg #[.int .i64 a0_0, .slice A0_1 l0_1.length c0_1], .slice A1 l1.length c1] w fun e w' => ∃ v1_ : Value, e = .returned (.agg #[.int .i64 r1, v1_]) ∧ Kd.R k36 36 w' w.heap.size (fun _ => True) v1_ r2 ∧ Below w.heap.size w w' := by
  have hu24 := Try.underlying24
  have hu36 := Try.underlying36
  have HR0_1 := zMk hr0_1
  have HC0_1 := zMk hc0_1
  clear hr0_1 hc0_1
  have HR1 := zMk hr1
  have HC1 := zMk hc1
  clear hr1 hc1
  have HB := zMk (Below.refl w.heap.size w)
  have H : (filigreeref04_Less.l0 k l1 0 a0_0 l0_1 a0_0 ([] : List (S36))) = some (r1, r2) := h
  clear h
  have H' := zMk H
  clear H
  go_enter Try.func24, Try.ntmps24
  go_wp2_with (first |  ((with_reducible refine gate_dst (N := 2) rfl ?_); refine box_event ?hg (N := 2) ?hd (cs := #[.int .i64 a0_0, .slice A0_1 l0_1.length c0_1]) (t := 24) ?hr ?_; (case hd => rfl); (case hg => rfl); (case hr => first |  (go_simp; done)|  (go_simp; rfl)|  (go_simp; rw [show ∀ x : Int, IntKind.u32.wrap (IntKind.u8.wrap x) = x % 256 from fun x => (by show (x % 256) % 4294967296 = x % 256; omega)])); intro gb461 hg w3 hbox hb; have BK461 := zMk (hbox); have GW461 := zMk ((by rw [hg]; exact (zBs (by exact uT HB.out)) : w.heap.size ≤ gb461)); have GE461 := zMk ((by rw [hg]; exact (zBs (by exact uT HB.out)) : w.heap.size ≤ gb461)); have IGE461 := ownGe GE461.out; replace HB := zMk (zBt (by exact uT HB.out) hb); clear hb hbox hg)|  ((with_reducible refine gate_dst (N := 4) rfl ?_); refine box_event ?hg (N := 4) ?hd (cs := #[.int .i64 0, .slice none 0 0]) (t := 24) ?hr ?_; (case hd => rfl); (case hg => rfl); (case hr => first |  (go_simp; done)|  (go_simp; rfl)|  (go_simp; rw [show ∀ x : Int, IntKind.u32.wrap (IntKind.u8.wrap x) = x % 256 from fun x => (by show (x % 256) % 4294967296 = x % 256; omega)])); intro gb462 hg w4 hbox hb; have BK462 := zMk (hbox); have GW462 := zMk ((by rw [hg]; exact (zBs (by exact uT HB.out)) : w.heap.size ≤ gb462)); have GE462 := zMk ((by rw [hg]; exact (zBs (by exact uT HB.out)) : w.heap.size ≤ gb462)); have IGE462 := ownGe GE462.out; replace HB := zMk (zBt (by exact uT HB.out) hb); have NB461_462 := zMk ((by rw [hg]; exact Nat.ne_of_lt (blk_lt (g := gb461) (o := .cells #[.int .i64 a0_0, .slice A0_1 l0_1.length c0_1] 24 (0, 0)) (by (with_reducible repeat (first |  refine zKn ?_ _|  refine zKd ?_|  refine zKa ?_ _)); exact BK461.out)) : gb461 ≠ gb462)); have NB462_461 := zMk ((by rw [hg]; exact Nat.ne_of_gt (blk_lt (g := gb461) (o := .cells #[.int .i64 a0_0, .slice A0_1 l0_1.length c0_1] 24 (0, 0)) (by (with_reducible repeat (first |  refine zKn ?_ _|  refine zKd ?_|  refine zKa ?_ _)); exact BK461.out)) : gb462 ≠ gb461)); replace BK461 := zMk (zKb (g := gb461) (o := .cells #[.int .i64 a0_0, .slice A0_1 l0_1.length c0_1] 24 (0, 0)) (by (with_reducible repeat (first |  refine zKn ?_ _|  refine zKd ?_|  refine zKa ?_ _)); exact BK461.out) hb); clear hb hbox hg; have hnb5 := NB461_462.out; have hnc5 := NB462_461.out; have hcz6_0 : w4.cell? ⟨gb461, 0, none⟩ = some (.int .i64 a0_0) := (zKc BK461.out 0).trans rfl; have hcz6_1 : w4.cell? ⟨gb461, 1, none⟩ = some (.slice A0_1 l0_1.length c0_1) := (zKc BK461.out 1).trans rfl; have hfz6_0 := zKf BK461.out 0; have hfz6_1 := zKf BK461.out 1)|  ((with_reducible refine gate_dst (N := 5) rfl ?_); refine box_event ?hg (N := 5) ?hd (cs := #[.int .i64 0, .slice none 0 0]) (t := 24) ?hr ?_; (case hd => rfl); (case hg => rfl); (case hr => first |  (go_simp; done)|  (go_simp; rfl)|  (go_simp; rw [show ∀ x : Int, IntKind.u32.wrap (IntKind.u8.wrap x) = x % 256 from fun x => (by show (x % 256) % 4294967296 = x % 256; omega)])); intro gb463 hg w7 hbox hb; have BK463 := zMk (hbox); have GW463 := zMk ((by rw [hg]; exact (zBs (by exact uT HB.out)) : w.heap.size ≤ gb463)); have GE463 := zMk ((by rw [hg]; exact (zBs (by exact uT HB.out)) : w.heap.size ≤ gb463)); have IGE463 := ownGe GE463.out; replace HB := zMk (zBt (by exact uT HB.out) hb); have NB461_463 := zMk ((by rw [hg]; exact Nat.ne_of_lt (blk_lt (g := gb461) (o := .cells #[.int .i64 a0_0, .slice A0_1 l0_1.length c0_1] 24 (0, 0)) (by (with_reducible repeat (first |  refine zKn ?_ _|  refine zKd ?_|  refine zKa ?_ _)); exact BK461.out)) : gb461 ≠ gb463)); have NB463_461 := zMk ((by rw [hg]; exact Nat.ne_of_gt (blk_lt (g := gb461) (o := .cells #[.int .i64 a0_0, .slice A0_1 l0_1.length c0_1] 24 (0, 0)) (by (with_reducible repeat (first |  refine zKn ?_ _|  refine zKd ?_|  refine zKa ?_ _)); exact BK461.out)) : gb463 ≠ gb461)); replace BK461 := zMk (zKb (g := gb461) (o := .cells #[.int .i64 a0_0, .slice A0_1 l0_1.length c0_1] 24 (0, 0)) (by (with_reducible repeat (first |  refine zKn ?_ _|  refine zKd ?_|  refine zKa ?_ _)); exact BK461.out) hb); have NB462_463 := zMk ((by rw [hg]; exact Nat.ne_of_lt (blk_lt (g := gb462) (o := .cells #[.int .i64 0, .slice none 0 0] 24 (0, 0)) (by (with_reducible repeat (first |  refine zKn ?_ _|  refine zKd ?_|  refine zKa ?_ _)); exact BK462.out)) : gb462 ≠ gb463)); have NB463_462 := zMk ((by rw [hg]; exact Nat.ne_of_gt (blk_lt (g := gb462) (o := .cells #[.int .i64 0, .slice none 0 0] 24 (0, 0)) (by (with_reducible repeat (first |  refine zKn ?_ _|  refine zKd ?_|  refine zKa ?_ _)); exact BK462.out)) : gb463 ≠ gb462)); replace BK462 := zMk (zKb (g := gb462) (o := .cells #[.int .i64 0, .slice none 0 0] 24 (0, 0)) (by (with_reducible repeat (first |  refine zKn ?_ _|  refine zKd ?_|  refine zKa ?_ _)); exact BK462.out) hb); clear hb hbox hg; have hnb8 := NB463_461.out; have hnc8 := NB461_463.out; have hnb9 := NB463_462.out; have hnc9 := NB462_463.out; have hcz10_0 : w7.cell? ⟨gb463, 0, none⟩ = some (.int .i64 0) := (zKc BK463.out 0).trans rfl; have hcz10_1 : w7.cell? ⟨gb463, 1, none⟩ = some (.slice none 0 0) := (zKc BK463.out 1).trans rfl; have hfz10_0 := zKf BK463.out 0; have hfz10_1 := zKf BK463.out 1))
  go_loopg [6] k (fun kq v6 w' => ∃ (x6_1 : Int) (x464001_1 : List (S36)) (u464001 : Value), v6 = .int .i64 x6_1 ∧ Aside0 (filigreeref04_Less.l0 kq l1 x6_1 a0_0 l0_1 a0_0 x464001_1 = some (r1, r2)) ∧ Aside0 (kq ≤ k) ∧ Aside0 (Kd.R k36 36 w' w.heap.size (fun _ => True) u464001 x464001_1) ∧ Aside0 (w'.heap[gb461]? = some (.cells #[.int .i64 a0_0, (.slice A0_1 l0_1.length c0_1)] 24 (0, 0))) ∧ Aside0 (w'.heap[gb462]? = some (.cells #[.int .i64 0, (.slice none 0 0)] 24 (0, 0))) ∧ Aside0 (w'.heap[gb463]? = some (.cells #[.int .i64 a0_0, u464001] 24 (0, 0))) ∧ Aside0 (Below w.heap.size w w'))
  case atStart => exact ⟨(0), (([] : List (S36))), (.slice none 0 0), (by first | rfl | (simp; done) | (simp [*]; done)), H', ⟨Nat.le_refl _⟩, ⟨by first | exact Kd.R_nil _ _ _ _ _ | exact Kd.N_nil _ _ _ _ _ | exact Kd.V_nil _ _ _ _ _ | exact Kd.Q_nil _ _ _ _ _ | exact Kd.S_nil _ _ _ _ _⟩, ⟨by (with_reducible repeat (first | refine zKn ?_ _ | refine zKd ?_ | refine zKa ?_ _)); refine blk_far ?_ NB461_463.out _; (with_reducible repeat (first | refine zKn ?_ _ | refine zKd ?_ | refine zKa ?_ _)); refine blk_far ?_ NB461_463.out _; (with_reducible repeat (first | refine zKn ?_ _ | refine zKd ?_ | refine zKa ?_ _)); exact BK461.out⟩, ⟨by (with_reducible repeat (first | refine zKn ?_ _ | refine zKd ?_ | refine zKa ?_ _)); refine blk_far ?_ NB462_463.out _; (with_reducible repeat (first | refine zKn ?_ _ | refine zKd ?_ | refine zKa ?_ _)); refine blk_far ?_ NB462_463.out _; (with_reducible repeat (first | refine zKn ?_ _ | refine zKd ?_ | refine zKa ?_ _)); exact BK462.out⟩, ⟨by (with_reducible repeat (first | refine zKn ?_ _ | refine zKd ?_ | refine zKa ?_ _)); refine blk_put (cs := #[.int .i64 a0_0, .slice none 0 0]) ?_ 1 _ rfl; (with_reducible repeat (first | refine zKn ?_ _ | refine zKd ?_ | refine zKa ?_ _)); refine blk_put (cs := #[.int .i64 0, .slice none 0 0]) ?_ 0 _ rfl; (with_reducible repeat (first | refine zKn ?_ _ | refine zKd ?_ | refine zKa ?_ _)); exact BK463.out⟩, ⟨by exact uT HB.out⟩⟩
  clear H'
  obtain ⟨x6_1, x464001_1, u464001, rfl, HA, HK1, HO_464001, BK461, BK462, BK463, HB⟩ := hrel
  rcases gk with _ | k1
  · exact absurd HA.out (by simp [filigreeref04_Less.l0])
  have H := HA.out
  clear HA
  simp only [filigreeref04_Less.l0] at H
  by_cases c11 : x6_1 < (l0_1.length : Int)
  · rw [if_pos c11] at H
    have c11b0 : decide (x6_1 < (l0_1.length : Int)) = true := decide_eq_true c11
    clear c11
    replace H := bnd H
    obtain ⟨t464, A120, H⟩ := H
    have A12 := zMk A120
    clear A120
    by_cases c13 : t464 = true
    · subst c13
      replace H : (filigreeref04_Less.l0 k1 l1 (wrap64 (x6_1 + 1)) a0_0 l0_1 a0_0 x464001_1) = some (r1, r2) := by rw [if_pos rfl] at H; exact H
      have H' := zMk H
      clear H
      have hnb14 := NB461_462.out
      have hnc14 := NB462_461.out
      have hnb15 := NB461_463.out
      have hnc15 := NB463_461.out
      have hcz16_0 : wr.cell? ⟨gb461, 0, none⟩ = some (.int .i64 a0_0) := (zKc BK461.out 0).trans rfl
      have hcz16_1 : wr.cell? ⟨gb461, 1, none⟩ = some (.slice A0_1 l0_1.length c0_1) := (zKc BK461.out 1).trans rfl
      have hfz16_0 := zKf BK461.out 0
      have hfz16_1 := zKf BK461.out 1
      go_wp2_with (first | ((with_reducible refine gate_callee (f := 31) rfl ?_); refine goesL_ (some 19) rfl rfl Try.func31 (by kernel_rfl) rfl #[.slice A1 l1.length c1, .int .i64 x6_1] rfl (by (try simp only [zMa, zMc, zMn]); first | done | rfl | (simp only [zLd, zLt]; rfl)) ?_; (with_reducible refine (filigreeref04_Has.calls k1 _ _ l1 x6_1 true _ ?side1 ?side2 A12.out).mono ?_); (case side1 => repeat (first | exact (Kd.C_below HR1.out HB.out) | (with_reducible refine zCa ?_ _) | (with_reducible refine zCn ?_ _) | (with_reducible refine zCd ?_))); (case side2 => exact HC1.out); rintro e w' ⟨rfl, ⟨nd, rfl⟩⟩; refine ⟨_, rfl, ?_⟩))
      go_roundg k1
      case measure => have := HK1.out; omega
      case rel => exact ⟨(wrap64 (x6_1 + 1)), (x464001_1), (u464001), (by first | rfl | (simp; done) | (simp [*]; done)), H', ⟨by have := HK1.out; omega⟩, ⟨by exact uR HO_464001.out⟩, ⟨by (with_reducible repeat (first | refine zKn ?_ _ | refine zKd ?_ | refine zKa ?_ _)); exact BK461.out⟩, ⟨by (with_reducible repeat (first | refine zKn ?_ _ | refine zKd ?_ | refine zKa ?_ _)); exact BK462.out⟩, ⟨by (with_reducible repeat (first | refine zKn ?_ _ | refine zKd ?_ | refine zKa ?_ _)); exact BK463.out⟩, ⟨by exact uT HB.out⟩⟩
    · replace c13 := Bool.eq_false_iff.mpr c13
      subst c13
      replace H : (if 0 ≤ x6_1 then (if x464001_1.length < 5864062014805 then (filigreeref04_Less.l0 k1 l1 (wrap64 (x6_1 + 1)) a0_0 l0_1 a0_0 (x464001_1 ++ [(⟨(rd_T36 l0_1 x6_1).f0, (rd_T36 l0_1 x6_1).f1, (rd_T36 l0_1 x6_1).f2⟩ : S36)])) else (none)) else (none)) = some (r1, r2) := by rw [if_neg (show ¬ (false = true) by decide)] at H; exact H
      by_cases c17 : 0 ≤ x6_1
      rotate_left
      · rw [if_neg c17] at H; exact absurd H (by simp)
      rw [if_pos c17] at H
      have c17b0 : decide (0 ≤ x6_1) = true := decide_eq_true c17
      clear c17
      by_cases c18 : x464001_1.length < 5864062014805
      rotate_left
      · rw [if_neg c18] at H; exact absurd H (by simp)
      rw [if_pos c18] at H
      have LMc18 := zMk c18
      clear c18
      obtain ⟨y466, hy466⟩ : ∃ y_ : List (S36), y_ = (x464001_1 ++ [(⟨(rd_T36 l0_1 x6_1).f0, (rd_T36 l0_1 x6_1).f1, (rd_T36 l0_1 x6_1).f2⟩ : S36)]) := ⟨_, rfl⟩
      replace H : (filigreeref04_Less.l0 k1 l1 (wrap64 (x6_1 + 1)) a0_0 l0_1 a0_0 y466) = some (r1, r2) := by first | (rw [hy466]; with_reducible exact H) | (have H2_ := bsm H; first | (rw [hy466]; with_reducible exact H2_) | with_reducible exact H2_) | with_reducible exact H | (rw [hy466]; exact H) | exact H
      have Ny466 := zMk hy466
      clear hy466
      have H' := zMk H
      clear H
      have hnb19 := NB461_462.out
      have hnc19 := NB462_461.out
      have hnb20 := NB461_463.out
      have hnc20 := NB463_461.out
      have hcz21_0 : wr.cell? ⟨gb461, 0, none⟩ = some (.int .i64 a0_0) := (zKc BK461.out 0).trans rfl
      have hcz21_1 : wr.cell? ⟨gb461, 1, none⟩ = some (.slice A0_1 l0_1.length c0_1) := (zKc BK461.out 1).trans rfl
      have hfz21_0 := zKf BK461.out 0
      have hfz21_1 := zKf BK461.out 1
      try go_wp2_with (first |  ((with_reducible refine gate_callee (f := 31) rfl ?_); refine goesL_ (some 19) rfl rfl Try.func31 (by kernel_rfl) rfl #[.slice A1 l1.length c1, .int .i64 x6_1] rfl (by (try simp only [zMa, zMc, zMn]); first |  done|  rfl|  (simp only [zLd, zLt]; rfl)) ?_; (with_reducible refine (filigreeref04_Has.calls k1 _ _ l1 x6_1 false _ ?side1 ?side2 A12.out).mono ?_); (case side1 => repeat (first |  exact (Kd.C_below HR1.out HB.out)|  (with_reducible refine zCa ?_ _)|  (with_reducible refine zCn ?_ _)|  (with_reducible refine zCd ?_))); (case side2 => exact HC1.out); rintro e w' ⟨rfl, ⟨nd, rfl⟩⟩; refine ⟨_, rfl, ?_⟩; (try (rw [drewN_self wr]; generalize hq_ : World.drewN wr _ = wr; have n0_ : Aside0 (Kd.R k36 36 wr w.heap.size (fun _ => True) u464001 x464001_1) := ⟨by rw [← hq_]; exact (by exact uR HO_464001.out)⟩; have n1_ : Aside0 (wr.heap[gb461]? = some (.cells #[.int .i64 a0_0, .slice A0_1 l0_1.length c0_1] 24 (0, 0))) := ⟨by rw [← hq_]; exact (by (with_reducible repeat (first |  refine zKn ?_ _|  refine zKd ?_|  refine zKa ?_ _)); exact BK461.out)⟩; have n2_ : Aside0 (wr.heap[gb462]? = some (.cells #[.int .i64 0, .slice none 0 0] 24 (0, 0))) := ⟨by rw [← hq_]; exact (by (with_reducible repeat (first |  refine zKn ?_ _|  refine zKd ?_|  refine zKa ?_ _)); exact BK462.out)⟩; have n3_ : Aside0 (wr.heap[gb463]? = some (.cells #[.int .i64 a0_0, u464001] 24 (0, 0))) := ⟨by rw [← hq_]; exact (by (with_reducible repeat (first |  refine zKn ?_ _|  refine zKd ?_|  refine zKa ?_ _)); exact BK463.out)⟩; have n4_ : Aside0 (Below w.heap.size w wr) := ⟨by rw [← hq_]; exact (by exact uT HB.out)⟩; clear HO_464001 BK461 BK462 BK463 HB hq_; have HO_464001 := n0_; have BK461 := n1_; have BK462 := n2_; have BK463 := n3_; have HB := n4_; clear n0_ n1_ n2_ n3_ n4_))))
      replace HO_464001 := zMk (zRd HO_464001.out)
      replace BK461 := zMk (zKd BK461.out)
      replace BK462 := zMk (zKd BK462.out)
      replace BK463 := zMk (zKd BK463.out)
      replace HB := zMk (zBd HB.out)
      have p465 : 0 ≤ (x6_1 : Int) := of_decide_eq_true (by first | (with_reducible assumption) | assumption)
      have q465 : x6_1 < (l0_1.length : Int) := of_decide_eq_true (by first | (with_reducible assumption) | assumption)
      obtain ⟨ad465, e465, hx465_0, hx465_1, hx465_2⟩ := at_T36 HR0_1.out x6_1 p465 q465
      have hw465_2 := hx465_2
      have hw465_1 := hx465_1
      have hw465_0 := hx465_0
      cases e465
      replace hx465_0 := (HB.out.cell (World.block_lt_of_cell? w _ hx465_0)).trans hx465_0
      replace hx465_1 := (HB.out.cell (World.block_lt_of_cell? w _ hx465_1)).trans hx465_1
      replace hx465_2 := (HB.out.cell (World.block_lt_of_cell? w _ hx465_2)).trans hx465_2
      replace p465 := eq_true p465
      replace q465 := eq_true q465
      refine start_ (n := 11) (S := fun w' => w'.cell? ⟨gb463, 0, none⟩ = some (.int .i64 a0_0) ∧ w'.cell? ⟨gb463, 1, none⟩ = some (u464001) ∧ w'.cell? ⟨gb461, 0, none⟩ = some (.int .i64 a0_0) ∧ w'.cell? ⟨gb461, 1, none⟩ = some (.slice (some ad465) l0_1.length c0_1) ∧ w'.cell? (ad465.add ((x6_1).toNat * 3)) = some (.int .i64 ((rd_T36 l0_1 x6_1).f0)) ∧ w'.cell? ⟨(ad465.add ((x6_1).toNat * 3)).block, (ad465.add ((x6_1).toNat * 3)).off + 1, none⟩ = some (.int .i64 ((rd_T36 l0_1 x6_1).f1)) ∧ w'.cell? ⟨(ad465.add ((x6_1).toNat * 3)).block, (ad465.add ((x6_1).toNat * 3)).off + 2, none⟩ = some (.int .i64 ((rd_T36 l0_1 x6_1).f2))) (ds := [10]) #[false, false, false, false, false, false, false, false, false, false, false] (by kernel_rfl) rfl rfl ⟨(zKc BK463.out 0).trans rfl, (zKc BK463.out 1).trans rfl, (zKc BK461.out 0).trans rfl, (zKc BK461.out 1).trans rfl, ((HB.out.cell (World.block_lt_of_cell? w _ hw465_0)).trans hw465_0), ((HB.out.cell (World.block_lt_of_cell? w _ hw465_1)).trans hw465_1), ((HB.out.cell (World.block_lt_of_cell? w _ hw465_2)).trans hw465_2)⟩ (fun hHeld => ?_); refine with_tabW filigreeref04_Less.tab6 filigreeref04_Less.bits6 (fun HT_ HW_ => ?_)
      generalize wr.drew = w22 at HO_464001 BK461 BK462 BK463 HB hx465_0 hx465_1 hx465_2 hHeld ⊢
      refine pure_ (i := 0) (N := some 21) (v := ?_) (a' := ?_) #[true, false, false, false, false, false, false, false, false, false, false] rfl rfl (any_of HT_.out (by kernel_rfl)) (fun _ _ _ h => h) (Or.inl ⟨by rfl, ?_⟩) ?_ ?_
      rotate_left
      · intro w'
        go_simp
        with_reducible rfl
      rotate_left
      · simp only [Act.put, zSa, zSb, zSc, i64_w, i32_w]
        rfl
      refine pure_ (i := 2) (N := some 23) (v := ?_) (a' := ?_) #[true, false, true, false, false, false, false, false, false, false, false] rfl rfl (any_of HT_.out (by kernel_rfl)) (fun _ _ _ h => h) (Or.inl ⟨by rfl, ?_⟩) ?_ ?_
      rotate_left
      · intro w'
        go_simp
        with_reducible rfl
      rotate_left
      · simp only [Act.put, zSa, zSb, zSc, i64_w, i32_w]
        rfl
      refine pure_ (i := 4) (N := some 25) (v := ?_) (a' := ?_) #[true, false, true, false, true, false, false, false, false, false, false] rfl rfl (any_of HT_.out (by kernel_rfl)) (fun _ _ _ h => h) (Or.inl ⟨by rfl, ?_⟩) ?_ ?_
      rotate_left
      · intro w'
        go_simp
        with_reducible rfl
      rotate_left
      · simp only [Act.put, zSa, zSb, zSc, i64_w, i32_w]
        rfl
      refine take_ (i := 1) (N := some 22) (v := ?_) (a' := ?_) #[true, true, true, false, true, false, false, false, false, false, false] rfl rfl (take_ofW HT_.out HW_.out (by kernel_rfl)) (fun _ _ _ h => h) (Or.inl ⟨by rfl, ?_⟩) hHeld ?_ ?_
      rotate_left
      · rintro w' ⟨s0, s1, s2, s3, s4, s5, s6⟩
        go_simp
        with_reducible rfl
      rotate_left
      · simp only [Act.put, zSa, zSb, zSc, i64_w, i32_w]
        rfl
      refine take_ (i := 3) (N := some 24) (v := ?_) (a' := ?_) #[true, true, true, true, true, false, false, false, false, false, false] rfl rfl (take_ofW HT_.out HW_.out (by kernel_rfl)) (fun _ _ _ h => h) (Or.inl ⟨by rfl, ?_⟩) hHeld ?_ ?_
      rotate_left
      · rintro w' ⟨s0, s1, s2, s3, s4, s5, s6⟩
        go_simp
        with_reducible rfl
      rotate_left
      · simp only [Act.put, zSa, zSb, zSc, i64_w, i32_w]
        rfl
      refine pure_ (i := 5) (N := some 26) (v := ?_) (a' := ?_) #[true, true, true, true, true, true, false, false, false, false, false] rfl rfl (any_of HT_.out (by kernel_rfl)) (fun _ _ _ h => h) (Or.inl ⟨by rfl, ?_⟩) ?_ ?_
      rotate_left
      · intro w'
        go_simp
        with_reducible rfl
      rotate_left
      · simp only [Act.put, zSa, zSb, zSc, i64_w, i32_w]
        rfl
      refine take_ (i := 6) (N := some 27) (v := ?_) (a' := ?_) #[true, true, true, true, true, true, true, false, false, false, false] rfl rfl (take_ofW HT_.out HW_.out (by kernel_rfl)) (fun _ _ _ h => h) (Or.inl ⟨by rfl, ?_⟩) hHeld ?_ ?_
      rotate_left
      · rintro w' ⟨s0, s1, s2, s3, s4, s5, s6⟩
        go_simp
        with_reducible rfl
      rotate_left
      · simp only [Act.put, zSa, zSb, zSc, i64_w, i32_w]
        rfl
      refine one_ (i := 7) (N := some 28) #[true, true, true, true, true, true, true, true, false, false, false] rfl rfl (one_of HT_.out (by kernel_rfl)) (by decide) (fun K hK => ?_)
      refine value_ (w1 := ?_) (v := ?_) (by rfl) rfl ?_ ?_
      rotate_left 2
      · go_simp
        constructor
        · rfl
        · rfl
      refine hK.out _ _ ⟨(zKc (zKa BK463.out _) 0).trans rfl, (zKc (zKa BK463.out _) 1).trans rfl, (zKc (zKa BK461.out _) 0).trans rfl, (zKc (zKa BK461.out _) 1).trans rfl, (World.cell?_alloc_lt _ _ _ (World.block_lt_of_cell? _ _ (((HB.out.cell (World.block_lt_of_cell? w _ hw465_0)).trans hw465_0)))).trans (((HB.out.cell (World.block_lt_of_cell? w _ hw465_0)).trans hw465_0)), (World.cell?_alloc_lt _ _ _ (World.block_lt_of_cell? _ _ (((HB.out.cell (World.block_lt_of_cell? w _ hw465_1)).trans hw465_1)))).trans (((HB.out.cell (World.block_lt_of_cell? w _ hw465_1)).trans hw465_1)), (World.cell?_alloc_lt _ _ _ (World.block_lt_of_cell? _ _ (((HB.out.cell (World.block_lt_of_cell? w _ hw465_2)).trans hw465_2)))).trans (((HB.out.cell (World.block_lt_of_cell? w _ hw465_2)).trans hw465_2))⟩ (fun hHeld => ?_)
      clear hK K
      refine norm_ (a' := ?_) ?_ ?_
      rotate_left
      · show Act.put _ (some 28) _ = _
        simp only [Act.put, zSa, zSb, zSc, i64_w, i32_w]
        rfl
      refine one_ (i := 8) (N := some 29) #[true, true, true, true, true, true, true, true, true, false, false] rfl rfl (one_of HT_.out (by kernel_rfl)) (by decide) (fun K hK => ?_)
      refine Kd.R_append_step k36 (w0 := w) w.heap.size (by rfl) (.tmp 22) (.tmp 28) 22 36 (.agg #[(.int .i64 0), (.int .i64 0), (.int .i64 0)]) 24 rfl Try.underlying22 info36 rfl (by decide) (by omega) u464001 x464001_1 (⟨(rd_T36 l0_1 x6_1).f0, (rd_T36 l0_1 x6_1).f1, (rd_T36 l0_1 x6_1).f2⟩ : S36) [.int .i64 ((rd_T36 l0_1 x6_1).f0), .int .i64 ((rd_T36 l0_1 x6_1).f1), .int .i64 ((rd_T36 l0_1 x6_1).f2)] (fun _ => True) (fun _ => False) rfl rfl ?aP (fun _ hk => hk.elim) ?aF ?aO ?aB ?aS ?aL ?_
      (case aP => exact k36_mkM _ _ _ (⟨(rd_T36 l0_1 x6_1).f0, (rd_T36 l0_1 x6_1).f1, (rd_T36 l0_1 x6_1).f2⟩ : S36))
      (case aB => exact (by exact uT HB.out))
      (case aF => exact (fun _ _ => trivial))
      (case aO => exact (by exact uR HO_464001.out))
      (case aS => exact (zBs (by exact uT HB.out)))
      (case aL => have := LMc18.out; omega)
      intro v467 w23 ho hb hg hat
      rw [← Ny466.out] at ho
      replace BK461 := zMk (blk_grown (g := gb461) (o := .cells #[.int .i64 a0_0, .slice (some ad465) l0_1.length c0_1] 24 (0, 0)) (by (with_reducible repeat (first | refine zKn ?_ _ | refine zKd ?_ | refine zKa ?_ _)); exact BK461.out) hg (Kd.R_ne HO_464001.out BK461.out (by decide)))
      replace BK462 := zMk (blk_grown (g := gb462) (o := .cells #[.int .i64 0, .slice none 0 0] 24 (0, 0)) (by (with_reducible repeat (first | refine zKn ?_ _ | refine zKd ?_ | refine zKa ?_ _)); exact BK462.out) hg (Kd.R_ne HO_464001.out BK462.out (by decide)))
      replace BK463 := zMk (blk_grown (g := gb463) (o := .cells #[.int .i64 a0_0, u464001] 24 (0, 0)) (by (with_reducible repeat (first | refine zKn ?_ _ | refine zKd ?_ | refine zKa ?_ _)); exact BK463.out) hg (Kd.R_ne HO_464001.out BK463.out (by decide)))
      replace HB := zMk (hb)
      have HO468 := zMk (ho)
      clear HO_464001 ho hb hg hat
      obtain ⟨Ao24, co24, eo24⟩ := zRs HO468.out
      (first |  subst eo24|  (injection eo24 with f1_ f2_ f3_; have f4_ := f1_.symm; have f5_ := f3_.symm; clear f1_ f2_ f3_; subst f4_; subst f5_))
      refine hK.out _ _ ⟨(zKc BK463.out 0).trans rfl, (zKc BK463.out 1).trans rfl, (zKc BK461.out 0).trans rfl, (zKc BK461.out 1).trans rfl, ((HB.out.cell (World.block_lt_of_cell? w _ hw465_0)).trans hw465_0), ((HB.out.cell (World.block_lt_of_cell? w _ hw465_1)).trans hw465_1), ((HB.out.cell (World.block_lt_of_cell? w _ hw465_2)).trans hw465_2)⟩ (fun hHeld => ?_)
      clear hK K
      refine norm_ (a' := ?_) ?_ ?_
      rotate_left
      · show Act.put _ (some 29) _ = _
        simp only [Act.put, zSa, zSb, zSc, i64_w, i32_w]
        rfl
      refine pure_ (i := 9) (N := some 30) (v := ?_) (a' := ?_) #[true, true, true, true, true, true, true, true, true, true, false] rfl rfl (any_of HT_.out (by kernel_rfl)) (fun _ _ _ h => h) (Or.inl ⟨by rfl, ?_⟩) ?_ ?_
      rotate_left
      · intro w'
        go_simp
        with_reducible rfl
      rotate_left
      · simp only [Act.put, zSa, zSb, zSc, i64_w, i32_w]
        rfl
      refine last_ (i := 10) (N := none) #[true, true, true, true, true, true, true, true, true, true, true] rfl rfl (one_of HT_.out (by kernel_rfl)) (by decide) (fun K hK => ?_)
      have hs25 : w23.cell? ⟨gb463, 1, none⟩ = some (u464001) := (zKc BK463.out 1).trans rfl
      have hfs25 := zKf BK463.out 1
      have hns25_0 := NB461_463.out
      have hns25_1 := NB462_463.out
      have hms25_0 := NB463_461.out
      have hms25_1 := NB463_462.out
      refine skip_ (w1 := ?_) (by rfl) rfl ?_ ?_
      rotate_left
      · go_simp
        rfl
      refine hK.out _ _ ?_
      clear hK K
      refine done_ (done_of HT_.out (by kernel_rfl)) ?_
      try go_wp2
      go_roundg k1
      case measure => have := HK1.out; omega
      case rel => exact ⟨(wrap64 (x6_1 + 1)), (y466), (.slice Ao24 y466.length co24), (by first | rfl | (simp; done) | (simp [*]; done)), H', ⟨by have := HK1.out; omega⟩, ⟨by (with_reducible repeat (first | apply zRa | apply zRn | apply zRd)); exact zRm (Kd.R_far (p := ⟨gb463, 1, none⟩) (Kd.R_types HO468.out BK463.out (by decide)) (fun _ hk => hk.2) (.slice Ao24 y466.length co24)) (fun _ hk => trivial)⟩, ⟨by (with_reducible repeat (first | refine zKn ?_ _ | refine zKd ?_ | refine zKa ?_ _)); refine blk_far ?_ NB461_463.out _; (with_reducible repeat (first | refine zKn ?_ _ | refine zKd ?_ | refine zKa ?_ _)); exact BK461.out⟩, ⟨by (with_reducible repeat (first | refine zKn ?_ _ | refine zKd ?_ | refine zKa ?_ _)); refine blk_far ?_ NB462_463.out _; (with_reducible repeat (first | refine zKn ?_ _ | refine zKd ?_ | refine zKa ?_ _)); exact BK462.out⟩, ⟨by (with_reducible repeat (first | refine zKn ?_ _ | refine zKd ?_ | refine zKa ?_ _)); refine blk_put (cs := #[.int .i64 a0_0, u464001]) ?_ 1 _ rfl; (with_reducible repeat (first | refine zKn ?_ _ | refine zKd ?_ | refine zKa ?_ _)); exact BK463.out⟩, ⟨by exact uT HB.out⟩⟩
  · rw [if_neg c11] at H
    have c11b0 : decide (x6_1 < (l0_1.length : Int)) = false := decide_eq_false c11
    clear c11
    simp only [Option.some.injEq, Prod.mk.injEq] at H
    obtain ⟨rfl, rfl⟩ := H
    have hnb26 := NB461_462.out
    have hnc26 := NB462_461.out
    have hnb27 := NB461_463.out
    have hnc27 := NB463_461.out
    have hcz28_0 : wr.cell? ⟨gb461, 0, none⟩ = some (.int .i64 a0_0) := (zKc BK461.out 0).trans rfl
    have hcz28_1 : wr.cell? ⟨gb461, 1, none⟩ = some (.slice A0_1 l0_1.length c0_1) := (zKc BK461.out 1).trans rfl
    have hfz28_0 := zKf BK461.out 0
    have hfz28_1 := zKf BK461.out 1
    have hnb29 := NB463_462.out
    have hnc29 := NB462_463.out
    have hcz30_0 : wr.cell? ⟨gb463, 0, none⟩ = some (.int .i64 a0_0) := (zKc BK463.out 0).trans rfl
    have hcz30_1 : wr.cell? ⟨gb463, 1, none⟩ = some (u464001) := (zKc BK463.out 1).trans rfl
    have hfz30_0 := zKf BK463.out 0
    have hfz30_1 := zKf BK463.out 1
    have hcz31_0 : wr.cell? ⟨gb462, 0, none⟩ = some (.int .i64 0) := (zKc BK462.out 0).trans rfl
    have hcz31_1 : wr.cell? ⟨gb462, 1, none⟩ = some (.slice none 0 0) := (zKc BK462.out 1).trans rfl
    have hfz31_0 := zKf BK462.out 0
    have hfz31_1 := zKf BK462.out 1
    obtain ⟨Ao32, co32, eo32⟩ := zRs HO_464001.out
    subst eo32
    go_wp2
    refine bodyPost_ret (results_cell_row rfl _ _ gb462 24 #[.int .i64 a0_0, .slice Ao32 x464001_1.length co32] (0, 0) _ rfl (by (with_reducible repeat (first | refine zKn ?_ _ | refine zKd ?_ | refine zKa ?_ _)); refine blk_put (cs := #[.int .i64 a0_0, .slice none 0 0]) ?_ 1 _ rfl; (with_reducible repeat (first | refine zKn ?_ _ | refine zKd ?_ | refine zKa ?_ _)); refine blk_put (cs := #[.int .i64 0, .slice none 0 0]) ?_ 0 _ rfl; (with_reducible repeat (first | refine zKn ?_ _ | refine zKd ?_ | refine zKa ?_ _)); exact BK462.out) Try.underlying24 rfl (by kernel_rfl)) rfl ?_
    exact ⟨_, by first | rfl | (simp [errW_none, errW_some] <;> rfl) | (simp [*, errW_none, errW_some] <;> rfl), by (with_reducible repeat (first | apply zRa | apply zRn | apply zRd)); exact zRm (Kd.R_far (p := ⟨gb462, 1, none⟩) (Kd.R_far (p := ⟨gb462, 0, none⟩) (Kd.R_types HO_464001.out BK462.out (by decide)) (fun _ hk => hk.2) (.int .i64 a0_0)) (fun _ hk => hk.2) (.slice Ao32 x464001_1.length co32)) (fun _ hk => trivial), by exact uT HB.out⟩

end Go.Proofs.Yteicpdkembmilaa.A
