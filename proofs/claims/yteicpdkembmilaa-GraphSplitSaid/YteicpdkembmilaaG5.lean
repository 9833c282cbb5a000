/- Lemmas for the statement: the walks of the functions that it reaches, and plain laws. -/
import Derived.Test.YteicpdkembmilaaG1
import Derived.Test.YteicpdkembmilaaG2
import Derived.Test.YteicpdkembmilaaG4
import Derived.Test.YteicpdkembmilaaG3
set_option linter.unusedVariables false
set_option linter.unusedSimpArgs false
set_option maxHeartbeats 8000000
set_option maxRecDepth 100000
namespace Go.Proofs.Yteicpdkembmilaa.A
open Go Go.RowKit Go.Proofs.YteicpdkembmilaaW.PrintWords Go.Proofs.YteicpdkembmilaaW.PrintLast Go.Proofs.YteicpdkembmilaaW.PrintMore
attribute [local go_sem] max2_int min2_int max_two min_two max_three min_three max_four min_four
open Go.Proofs.YteicpdkembmilaaW.PrintWords.Kd renaming R_alloc → zRa, R_drewN → zRn, R_drew → zRd, C_alloc → zCa, C_drewN → zCn, C_drew → zCd, R_mono → zRm, at_int → zAi, R_elder' → zRe, R_lower → zRl, R_new' → zRw, R_lt → zRt, R_below → zRb, R_base → zRz, R_reads' → zRr, R_slice → zRs
open Go.Proofs.YteicpdkembmilaaW.PrintWords renaming pw_below_drewN → zBn, below_alloc → zBa, below_drew1 → zBd, below_size → zBs, below_step → zBt, blk_drewN → zKn, blk_drew → zKd, blk_alloc → zKa, blk_below → zKb, blk_cell → zKc, blk_frozen → zKf
open List renaming setIfInBounds_toArray → zSa, set_cons_zero → zSb, set_cons_succ → zSc, length_drop → zLd, length_take → zLt, map_toArray → zMa, map_cons → zMc, map_nil → zMn, length_cons → zLc, length_nil → zLn
open Go.Proofs.YteicpdkembmilaaW.PrintWords.Aside0 renaming mk → zMk
open Option renaming bind_eq_some_iff → zBi, bind_some → zOb
open Option.some renaming inj → zOi
open Int renaming toNat_natCast → zTn

mutual
def filigreelaw04_GraphSplit.j0 : Nat → List Bool → Bool → Int → List (S36) → Option (Bool)
 | 0, _, _, _, _ => none
 | k + 1, x1, x25, x517000, x517001 => if x25 = true then ((filigreelaw04_alive.f k).bind fun t519 => (some t519)) else (filigreelaw04_GraphSplit.l0 k x1 ([] : List Int) ([] : List Int) 0 x517000 x517001)
def filigreelaw04_GraphSplit.l0 : Nat → List Bool → List Int → List Int → Int → Int → List (S36) → Option (Bool)
 | 0, _, _, _, _, _, _ => none
 | k + 1, x1, x5, x6, x7, x517000, x517001 => if x7 < (x517001.length : Int) then (if x7 < (x1.length : Int) then (if 0 ≤ x7 then (if rdOf false x1 x7 = true then (if x5.length < 17592186044416 then (filigreelaw04_GraphSplit.l0 k x1 (x5 ++ [x7]) x6 (wrap64 (x7 + 1)) x517000 x517001) else (none)) else (if x6.length < 17592186044416 then (filigreelaw04_GraphSplit.l0 k x1 x5 (x6 ++ [x7]) (wrap64 (x7 + 1)) x517000 x517001) else (none))) else (none)) else (if x6.length < 17592186044416 then (filigreelaw04_GraphSplit.l0 k x1 x5 (x6 ++ [x7]) (wrap64 (x7 + 1)) x517000 x517001) else (none))) else ((graph_Less.f k x517000 x517001 x5).bind fun bt530 => ((graph_Less.f k x517000 x517001 x6).bind fun bt534 => ((some (([] : List (S36)) : List (S36))).bind fun y540 => (if y540.length + bt530.2.length < 5864062014805 then ((some (y540 ++ bt530.2 : List (S36))).bind fun y543 => (if y543.length + bt534.2.length < 5864062014805 then ((graph_Make.f k x517000 (y543 ++ bt534.2)).bind fun bt549 => ((graph_Weight.f k x517000 x517001 x5).bind fun bt555 => ((graph_Weight.f k x517000 x517001 x6).bind fun bt557 => ((some (([] : List Int) : List Int)).bind fun y559 => (if y559.length + x5.length < 17592186044416 then ((some (y559 ++ x5 : List Int)).bind fun y562 => (if y562.length + x6.length < 17592186044416 then ((graph_Weight.f k x517000 x517001 (y562 ++ x6)).bind fun bt568 => (if bt549.2.2 = 0 then (if bt555.2 = 0 then (if bt557.2 = 0 then (if bt568.2 = 0 then ((graph_Same.f k bt549.1 bt549.2.1 x517000 x517001).bind fun t570 => (if t570 = true then (if (wrap64 (bt555.1 + bt557.1)) = bt568.1 then (if (bt530.2.length : Int) = (x6.length : Int) then ((filigreelaw04_alive.f k).bind fun t571 => (some t571)) else (some false)) else (some false)) else (some false))) else (some false)) else (some false)) else (some false)) else (some false))) else (none))) else (none)))))) else (none))) else (none)))))
end
def filigreelaw04_GraphSplit.f (k : Nat) (a0_0 : Int) (l0_1 : List (S36)) (l1 : List Bool) : Option (Bool) := (filigreelaw04_Light.f a0_0 l0_1 200).bind fun t517 => (if t517 = true then ((graph_Right.f k a0_0 l0_1).bind fun t518 => (filigreelaw04_GraphSplit.j0 k l1 (t518 != 0) a0_0 l0_1)) else (filigreelaw04_GraphSplit.j0 k l1 true a0_0 l0_1))
def filigreelaw04_GraphSplit.T10 : Bool × List (List Nat × List Nat) := (true, [([], []), ([], []), ([0, 1], [0, 1]), ([], []), ([], []), ([3, 4, 2], [3, 4]), ([], []), ([], []), ([6, 2, 5, 0, 1, 2, 6, 7], [2, 6]), ([7, 5, 8, 0, 1, 2, 3, 4, 5, 6, 7, 8], [5, 7])])
def filigreelaw04_GraphSplit.B10 : List Nat := [0, 0, 3, 0, 0, 31, 0, 0, 255, 511]
theorem filigreelaw04_GraphSplit.tab10 : rtab .any (opsOf Try.f8 10) = filigreelaw04_GraphSplit.T10 := by kernel_rfl
theorem filigreelaw04_GraphSplit.bits10 : waitsOk filigreelaw04_GraphSplit.T10.2 filigreelaw04_GraphSplit.B10 = true := by kernel_rfl
def filigreelaw04_GraphSplit.T11 : Bool × List (List Nat × List Nat) := (true, [([], []), ([0], [0]), ([], []), ([], []), ([3], [3]), ([2, 4], [2, 4]), ([], []), ([6], [6]), ([5, 7, 5], [5, 7]), ([1, 8, 8], [1, 8]), ([9], [9]), ([10], [10]), ([10], [10]), ([], []), ([13, 11, 9, 0, 1, 2, 3, 4, 5, 6, 7, 8, 9, 10, 11, 13], [11, 13]), ([12, 14, 0, 1, 2, 3, 4, 5, 6, 7, 8, 9, 10, 11, 12, 13, 14], [12])])
def filigreelaw04_GraphSplit.B11 : List Nat := [0, 1, 0, 0, 8, 28, 0, 64, 252, 511, 1023, 2047, 2047, 0, 12287, 32767]
theorem filigreelaw04_GraphSplit.tab11 : rtab .any (opsOf Try.f8 11) = filigreelaw04_GraphSplit.T11 := by kernel_rfl
theorem filigreelaw04_GraphSplit.bits11 : waitsOk filigreelaw04_GraphSplit.T11.2 filigreelaw04_GraphSplit.B11 = true := by kernel_rfl
def filigreelaw04_GraphSplit.T14 : Bool × List (List Nat × List Nat) := (true, [([], []), ([], []), ([], []), ([1, 2], [1, 2]), ([], []), ([3, 4, 3], [3, 4]), ([0, 5, 5], [0, 5]), ([6], [6]), ([7], [7]), ([7], [7]), ([8, 6, 0, 1, 2, 3, 4, 5, 6, 7, 8], [8]), ([9, 10, 0, 1, 2, 3, 4, 5, 6, 7, 8, 9, 10], [9])])
def filigreelaw04_GraphSplit.B14 : List Nat := [0, 0, 0, 6, 0, 30, 63, 127, 255, 255, 511, 2047]
theorem filigreelaw04_GraphSplit.tab14 : rtab .any (opsOf Try.f8 14) = filigreelaw04_GraphSplit.T14 := by kernel_rfl
theorem filigreelaw04_GraphSplit.bits14 : waitsOk filigreelaw04_GraphSplit.T14.2 filigreelaw04_GraphSplit.B14 = true := by kernel_rfl
theorem filigreelaw04_GraphSplit.calls (k : Nat) (a0_0 : Int) (A0_1 : Option Addr) (c0_1 : Nat) (l0_1 : List (S36)) (A1 : Option Addr) (c1 : Nat) (l1 : List Bool) (r : Bool) (w : World) (hr0_1 : Kd.C k36 w A0_1 l0_1.length l0_1) (hc0_1 : l0_1.length ≤ c0_1) (hr1 : Kd.C Kd.bool w A1 l1.length l1) (hc1 : l1.length ≤ c1) (h : filigreelaw04_GraphSplit.f k a0_0 l0_1 l1 = some r) (hr_ : r = true) :
  Calls Try.prog 8 #[.agg #[.int .i64 a0_0, .slice A0_1 l0_1.length c0_1], .slice A1 l1.length c1] w fun e w' => e = .returned (.bool r) ∧ Below w.heap.size w w' := by
 have HRT := zMk hr_
 clear hr_
 have hu24 := Try.underlying24
 have HR0_1 := zMk hr0_1
 have HC0_1 := zMk hc0_1
 clear hr0_1 hc0_1
 have HR1 := zMk hr1
 have HC1 := zMk hc1
 clear hr1 hc1
 have HB := zMk (Below.refl w.heap.size w)
 have H : ((filigreelaw04_Light.f a0_0 l0_1 200).bind fun t517 => (if t517 = true then ((graph_Right.f k a0_0 l0_1).bind fun t518 => (filigreelaw04_GraphSplit.j0 k l1 (t518 != 0) a0_0 l0_1)) else (filigreelaw04_GraphSplit.j0 k l1 true a0_0 l0_1))) = some r := h
 clear h
 have HC3 := zMk H
 clear H
 go_enter Try.func8, Try.ntmps8
 go_upto_region 1 with (first | ((with_reducible refine gate_dst (N := 2) rfl ?_); (try (refine gate_guard (by rfl) ?_; dsimp only)); refine box_event ?hg (N := 2) ?hd (cs := #[.int .i64 a0_0, .slice A0_1 l0_1.length c0_1]) (t := 24) ?hr ?_; (case hd => rfl); (case hg => rfl); (case hr => first | (go_simp; done)|(go_simp; rfl)|(go_simp; rw [show ∀ x : Int, IntKind.u32.wrap (IntKind.u8.wrap x) = x % 256 from fun x => (by show (x % 256) % 4294967296 = x % 256; omega)])); intro gb516 hg w4 hbox hb; have BK516 := zMk (hbox); have GW516 := zMk ((by rw [hg]; exact (zBs (uT HB.out)) : w.heap.size ≤ gb516)); have GE516 := zMk ((by rw [hg]; exact (zBs (uT HB.out)) : w.heap.size ≤ gb516)); have IGE516 := ownGe GE516.out; replace HB := zMk (zBt (uT HB.out) hb); clear hb hbox hg))
 (try simp only [Act.put, zSa, zSb, zSc])
 go_cut [25] (fun v25 wc => ∃ (kq : Nat) (x25_2 : Bool), v25 = .bool x25_2 ∧ Aside0 (filigreelaw04_GraphSplit.j0 kq l1 x25_2 a0_0 l0_1 = some r) ∧ Aside0 (kq ≤ k) ∧ Aside0 (wc.heap[gb516]? = some (.cells #[.int .i64 a0_0, (.slice A0_1 l0_1.length c0_1)] 24 (0, 0))) ∧ Aside0 (Below w.heap.size w wc))
 case first =>
  have H := HC3.out
  clear HC3
  replace H := bnd H
  obtain ⟨t517, A50, H⟩ := H
  have A5 := zMk A50
  clear A50
  by_cases c6 : t517 = true
  ·subst c6
   replace H : ((graph_Right.f k a0_0 l0_1).bind fun t518 => (filigreelaw04_GraphSplit.j0 k l1 (t518 != 0) a0_0 l0_1)) = some r := by rw [if_pos rfl] at H; exact H
   replace H := bnd H
   obtain ⟨t518, A70, H⟩ := H
   have A7 := zMk A70
   clear A70
   have H' := zMk H
   clear H
   have hcz8_0 : w4.cell? ⟨gb516, 0, none⟩ = some (.int .i64 a0_0) := (zKc BK516.out 0).trans rfl
   have hcz8_1 : w4.cell? ⟨gb516, 1, none⟩ = some (.slice A0_1 l0_1.length c0_1) := (zKc BK516.out 1).trans rfl
   have hfz8_0 := zKf BK516.out 0
   have hfz8_1 := zKf BK516.out 1
   go_wp2_with (first | ((with_reducible refine gate_callee (f := 17) rfl ?_); refine goesL_ (some 19) rfl rfl Try.func17 (by kernel_rfl) rfl #[.agg #[.int .i64 a0_0, .slice A0_1 l0_1.length c0_1], .int .i64 200] rfl (by (try simp only [zMa, zMc, zMn]); first |  done|  rfl|  (simp only [zLd, zLt]; rfl)) ?_; (with_reducible refine (filigreelaw04_Light.calls a0_0 _ _ l0_1 200 true _ ?side1 ?side2 A5.out).mono ?_); (case side1 => repeat (first |  exact (Kd.C_below HR0_1.out HB.out)|(with_reducible refine zCa ?_ _)|(with_reducible refine zCn ?_ _)|(with_reducible refine zCd ?_))); (case side2 => exact HC0_1.out); rintro e w9 ⟨rfl, hb⟩; refine ⟨_, rfl, ?_⟩; replace BK516 := zMk (zKb BK516.out hb); replace HB := zMk (zBt (uT HB.out) hb); have hcz10_0 : w9.cell? ⟨gb516, 0, none⟩ = some (.int .i64 a0_0) := (zKc BK516.out 0).trans rfl; have hcz10_1 : w9.cell? ⟨gb516, 1, none⟩ = some (.slice A0_1 l0_1.length c0_1) := (zKc BK516.out 1).trans rfl; have hfz10_0 := zKf BK516.out 0; have hfz10_1 := zKf BK516.out 1)|(go_at_call 11; (with_reducible refine (graph_Right.calls k a0_0 _ _ l0_1 t518 _ ?side1 ?side2 A7.out).mono ?_); (case side1 => repeat (first |  exact (Kd.C_below HR0_1.out HB.out)|(with_reducible refine zCa ?_ _)|(with_reducible refine zCn ?_ _)|(with_reducible refine zCd ?_))); (case side2 => exact HC0_1.out); rintro e w11 ⟨rfl, hb⟩; replace BK516 := zMk (zKb BK516.out hb); replace HB := zMk (zBt (uT HB.out) hb)))
   go_meet
   case rel => exact ⟨_, ((t518 != 0)), (by first | rfl | (simp; done) | (simp [*]; done)), H', ⟨by first | omega | exact Nat.le_refl _⟩, ⟨by (with_reducible repeat (first | refine zKn ?_ _ | refine zKd ?_ | refine zKa ?_ _)); exact BK516.out⟩, ⟨by exact uT HB.out⟩⟩
  ·replace c6 := Bool.eq_false_iff.mpr c6
   subst c6
   replace H : (filigreelaw04_GraphSplit.j0 k l1 true a0_0 l0_1) = some r := by rw [if_neg (show ¬ (false = true) by decide)] at H; exact H
   have H' := zMk H
   clear H
   have hcz12_0 : w4.cell? ⟨gb516, 0, none⟩ = some (.int .i64 a0_0) := (zKc BK516.out 0).trans rfl
   have hcz12_1 : w4.cell? ⟨gb516, 1, none⟩ = some (.slice A0_1 l0_1.length c0_1) := (zKc BK516.out 1).trans rfl
   have hfz12_0 := zKf BK516.out 0
   have hfz12_1 := zKf BK516.out 1
   go_wp2_with (first | ((with_reducible refine gate_callee (f := 17) rfl ?_); refine goesL_ (some 19) rfl rfl Try.func17 (by kernel_rfl) rfl #[.agg #[.int .i64 a0_0, .slice A0_1 l0_1.length c0_1], .int .i64 200] rfl (by (try simp only [zMa, zMc, zMn]); first |  done|  rfl|  (simp only [zLd, zLt]; rfl)) ?_; (with_reducible refine (filigreelaw04_Light.calls a0_0 _ _ l0_1 200 false _ ?side1 ?side2 A5.out).mono ?_); (case side1 => repeat (first |  exact (Kd.C_below HR0_1.out HB.out)|(with_reducible refine zCa ?_ _)|(with_reducible refine zCn ?_ _)|(with_reducible refine zCd ?_))); (case side2 => exact HC0_1.out); rintro e w13 ⟨rfl, hb⟩; refine ⟨_, rfl, ?_⟩; replace BK516 := zMk (zKb BK516.out hb); replace HB := zMk (zBt (uT HB.out) hb)))
   go_meet
   case rel => exact ⟨_, (true), (by first | rfl | (simp; done) | (simp [*]; done)), H', ⟨by first | omega | exact Nat.le_refl _⟩, ⟨by (with_reducible repeat (first | refine zKn ?_ _ | refine zKd ?_ | refine zKa ?_ _)); exact BK516.out⟩, ⟨by exact uT HB.out⟩⟩
 case rest =>
  clear HC3
  obtain ⟨kq, x25_2, rfl, HA, HJ2, BK516, HB⟩ := hcut
  rcases kq with _ | kj2
  ·exact absurd HA.out (by simp [filigreelaw04_GraphSplit.j0])
  have H := HA.out
  clear HA
  simp only [filigreelaw04_GraphSplit.j0] at H
  by_cases c14 : x25_2 = true
  ·subst c14
   replace H : ((filigreelaw04_alive.f kj2).bind fun t519 => (some t519)) = some r := by rw [if_pos rfl] at H; exact H
   replace H := bnd H
   obtain ⟨t519, A150, H⟩ := H
   have A15 := zMk A150
   clear A150
   obtain rfl := zOi H
   go_wp2_with (first | ((with_reducible refine gate_callee (f := 13) rfl ?_); refine goesL_ (some 26) rfl rfl Try.func13 (by kernel_rfl) rfl #[] rfl (by (try simp only [zMa, zMc, zMn]); first |  done|  rfl|  (simp only [zLd, zLt]; rfl)) ?_; (with_reducible refine (filigreelaw04_alive.calls kj2  t519 _ A15.out).mono ?_); rintro e w16 ⟨rfl, hb⟩; refine ⟨_, rfl, ?_⟩; replace BK516 := zMk (zKb BK516.out hb); replace HB := zMk (zBt (uT HB.out) hb)))
   go_ret
   exact ⟨by first | rfl | (simp [errW_none, errW_some] <;> rfl) | (simp [*, errW_none, errW_some] <;> rfl), by exact uT HB.out⟩
  ·replace c14 := Bool.eq_false_iff.mpr c14
   subst c14
   replace H : (filigreelaw04_GraphSplit.l0 kj2 l1 ([] : List Int) ([] : List Int) 0 a0_0 l0_1) = some r := by rw [if_neg (show ¬ (false = true) by decide)] at H; exact H
   have H' := zMk H
   clear H
   go_wp2
   go_loopg [5, 6, 7] kj2 (fun kq v5 v6 v7 w' => ∃ (x5_2 : List Int) (x6_2 : List Int) (x7_2 : Int), v7 = .int .i64 x7_2 ∧ Aside0 (filigreelaw04_GraphSplit.l0 kq l1 x5_2 x6_2 x7_2 a0_0 l0_1 = some r) ∧ Aside0 (kq ≤ kj2) ∧ Aside0 (Kd.R (Kd.int .i64) 3 w' w.heap.size (fun k_ => some k_ ≠ (v6 : Value).ownBlock) v5 x5_2) ∧ Aside0 (Kd.R (Kd.int .i64) 3 w' w.heap.size (fun k_ => some k_ ≠ (v5 : Value).ownBlock) v6 x6_2) ∧ Aside0 (w'.heap[gb516]? = some (.cells #[.int .i64 a0_0, (.slice A0_1 l0_1.length c0_1)] 24 (0, 0))) ∧ Aside0 (Below w.heap.size w w'))
   case atStart => exact ⟨(([] : List Int)), (([] : List Int)), (0), (by first | rfl | (simp; done) | (simp [*]; done)), H', ⟨Nat.le_refl _⟩, ⟨by first | exact Kd.R_nil _ _ _ _ _ | exact Kd.N_nil _ _ _ _ _ | exact Kd.V_nil _ _ _ _ _ | exact Kd.Q_nil _ _ _ _ _ | exact Kd.S_nil _ _ _ _ _⟩, ⟨by first | exact Kd.R_nil _ _ _ _ _ | exact Kd.N_nil _ _ _ _ _ | exact Kd.V_nil _ _ _ _ _ | exact Kd.Q_nil _ _ _ _ _ | exact Kd.S_nil _ _ _ _ _⟩, ⟨by (with_reducible repeat (first | refine zKn ?_ _ | refine zKd ?_ | refine zKa ?_ _)); exact BK516.out⟩, ⟨by exact uT HB.out⟩⟩
   clear H'
   obtain ⟨x5_2, x6_2, x7_2, rfl, HA, HK2, HO_5, HO_6, BK516, HB⟩ := hrel
   rcases gk with _ | k2
   ·exact absurd HA.out (by simp [filigreelaw04_GraphSplit.l0])
   have H := HA.out
   clear HA
   simp only [filigreelaw04_GraphSplit.l0] at H
   by_cases c17 : x7_2 < (l0_1.length : Int)
   ·rw [if_pos c17] at H
    have c17b0 : decide (x7_2 < (l0_1.length : Int)) = true := decide_eq_true c17
    clear c17
    by_cases c18 : x7_2 < (l1.length : Int)
    ·rw [if_pos c18] at H
     have c18b0 : decide (x7_2 < (l1.length : Int)) = true := decide_eq_true c18
     clear c18
     by_cases c19 : 0 ≤ x7_2
     rotate_left
     ·rw [if_neg c19] at H; exact absurd H (by simp)
     rw [if_pos c19] at H
     have c19b0 : decide (0 ≤ x7_2) = true := decide_eq_true c19
     clear c19
     obtain ⟨bq20, hbq20⟩ : ∃ b_ : Bool, b_ = (rdOf false l1 x7_2) := ⟨_, rfl⟩
     replace H : (if bq20 = true then (if x5_2.length < 17592186044416 then (filigreelaw04_GraphSplit.l0 k2 l1 (x5_2 ++ [x7_2]) x6_2 (wrap64 (x7_2 + 1)) a0_0 l0_1) else (none)) else (if x6_2.length < 17592186044416 then (filigreelaw04_GraphSplit.l0 k2 l1 x5_2 (x6_2 ++ [x7_2]) (wrap64 (x7_2 + 1)) a0_0 l0_1) else (none))) = some r := by rw [← hbq20] at H; exact H
     have Nbq20 := zMk hbq20
     clear hbq20
     by_cases c21 : bq20 = true
     ·subst c21
      replace H : (if x5_2.length < 17592186044416 then (filigreelaw04_GraphSplit.l0 k2 l1 (x5_2 ++ [x7_2]) x6_2 (wrap64 (x7_2 + 1)) a0_0 l0_1) else (none)) = some r := by rw [if_pos rfl] at H; exact H
      by_cases c22 : x5_2.length < 17592186044416
      rotate_left
      ·rw [if_neg c22] at H; exact absurd H (by simp)
      rw [if_pos c22] at H
      have LMc22 := zMk c22
      clear c22
      obtain ⟨y521, hy521⟩ : ∃ y_ : List Int, y_ = (x5_2 ++ [x7_2]) := ⟨_, rfl⟩
      replace H : (filigreelaw04_GraphSplit.l0 k2 l1 y521 x6_2 (wrap64 (x7_2 + 1)) a0_0 l0_1) = some r := by first | (rw [hy521]; with_reducible exact H) | (have H2_ := bsm H; first | (rw [hy521]; with_reducible exact H2_) | with_reducible exact H2_) | with_reducible exact H | (rw [hy521]; exact H) | exact H
      have Ny521 := zMk hy521
      clear hy521
      have H' := zMk H
      clear H
      have hcz23_0 : wr.cell? ⟨gb516, 0, none⟩ = some (.int .i64 a0_0) := (zKc BK516.out 0).trans rfl
      have hcz23_1 : wr.cell? ⟨gb516, 1, none⟩ = some (.slice A0_1 l0_1.length c0_1) := (zKc BK516.out 1).trans rfl
      have hfz23_0 := zKf BK516.out 0
      have hfz23_1 := zKf BK516.out 1
      have p520 : 0 ≤ (x7_2 : Int) := of_decide_eq_true (by assumption)
      have q520 : x7_2 < (l1.length : Int) := of_decide_eq_true (by assumption)
      obtain ⟨ad520, e520, hx520_0⟩ := Kd.at_bool HR1.out x7_2 p520 q520
      (try rw [← Nbq20.out] at hx520_0)
      cases e520
      replace hx520_0 := (HB.out.cell (World.block_lt_of_cell? w _ hx520_0)).trans hx520_0
      replace p520 := eq_true p520
      replace q520 := eq_true q520
      go_wp2_with (first | ((with_reducible refine gate_builtin (b := .append) (xs := #[.tmp 44, .tmp 46]) rfl ?_); (try (refine gate_guard (by rfl) ?_; dsimp only)); at_builtin; refine Kd.R_append (Kd.int .i64) (w0 := w) w.heap.size rfl (.tmp 44) (.tmp 46) 33 3 (.int .i64 0) 8 rfl Try.underlying33 info3 rfl (by decide) (by omega) u5 x5_2 x7_2 [.int .i64 x7_2] (fun k_ => some k_ ≠ (u6 : Value).ownBlock) (fun _ => False) rfl rfl ?aP (fun _ hk => hk.elim) ?aF ?aO ?aB ?aS ?aL ?_; (case aP => exact rfl); (case aB => exact (uT HB.out)); (case aF => exact (fun k_ hk => Kd.fresh' (zRt (uR HO_6.out)) k_ hk)); (case aO => exact (uR HO_5.out)); (case aS => exact (zBs (uT HB.out))); (case aL => have := LMc22.out; omega); intro v522 w24 ho hb hg hat; rw [← Ny521.out] at ho; replace HO_6 := zMk (Kd.R_after (ok := (fun _ => True)) (zRm HO_6.out (fun _ hk => ⟨trivial, hk⟩)) hg hat); replace BK516 := zMk (blk_grown (g := gb516) (o := .cells #[.int .i64 a0_0, .slice A0_1 l0_1.length c0_1] 24 (0, 0)) BK516.out hg (Kd.R_ne HO_5.out BK516.out (by decide))); replace HB := zMk (hb); have HO523 := zMk (ho); clear HO_5 ho hb hg hat))
      go_roundg k2
      case measure => have := HJ2.out; have := HK2.out; omega
      case rel => exact ⟨(y521), (x6_2), (wrap64 (x7_2 + 1)), (by first | rfl | (simp; done) | (simp [*]; done)), H', ⟨by have := HJ2.out; have := HK2.out; omega⟩, ⟨by exact uR HO523.out⟩, ⟨by (with_reducible repeat (first | apply zRa | apply zRn | apply zRd)); exact zRm HO_6.out (fun _ hk => hk.2)⟩, ⟨by (with_reducible repeat (first | refine zKn ?_ _ | refine zKd ?_ | refine zKa ?_ _)); exact BK516.out⟩, ⟨by exact uT HB.out⟩⟩
     ·replace c21 := Bool.eq_false_iff.mpr c21
      subst c21
      replace H : (if x6_2.length < 17592186044416 then (filigreelaw04_GraphSplit.l0 k2 l1 x5_2 (x6_2 ++ [x7_2]) (wrap64 (x7_2 + 1)) a0_0 l0_1) else (none)) = some r := by rw [if_neg (show ¬ (false = true) by decide)] at H; exact H
      by_cases c25 : x6_2.length < 17592186044416
      rotate_left
      ·rw [if_neg c25] at H; exact absurd H (by simp)
      rw [if_pos c25] at H
      have LMc25 := zMk c25
      clear c25
      obtain ⟨y524, hy524⟩ : ∃ y_ : List Int, y_ = (x6_2 ++ [x7_2]) := ⟨_, rfl⟩
      replace H : (filigreelaw04_GraphSplit.l0 k2 l1 x5_2 y524 (wrap64 (x7_2 + 1)) a0_0 l0_1) = some r := by first | (rw [hy524]; with_reducible exact H) | (have H2_ := bsm H; first | (rw [hy524]; with_reducible exact H2_) | with_reducible exact H2_) | with_reducible exact H | (rw [hy524]; exact H) | exact H
      have Ny524 := zMk hy524
      clear hy524
      have H' := zMk H
      clear H
      have hcz26_0 : wr.cell? ⟨gb516, 0, none⟩ = some (.int .i64 a0_0) := (zKc BK516.out 0).trans rfl
      have hcz26_1 : wr.cell? ⟨gb516, 1, none⟩ = some (.slice A0_1 l0_1.length c0_1) := (zKc BK516.out 1).trans rfl
      have hfz26_0 := zKf BK516.out 0
      have hfz26_1 := zKf BK516.out 1
      have p520 : 0 ≤ (x7_2 : Int) := of_decide_eq_true (by assumption)
      have q520 : x7_2 < (l1.length : Int) := of_decide_eq_true (by assumption)
      obtain ⟨ad520, e520, hx520_0⟩ := Kd.at_bool HR1.out x7_2 p520 q520
      (try rw [← Nbq20.out] at hx520_0)
      cases e520
      replace hx520_0 := (HB.out.cell (World.block_lt_of_cell? w _ hx520_0)).trans hx520_0
      replace p520 := eq_true p520
      replace q520 := eq_true q520
      go_wp2_with (first | ((with_reducible refine gate_builtin (b := .append) (xs := #[.tmp 48, .tmp 50]) rfl ?_); (try (refine gate_guard (by rfl) ?_; dsimp only)); at_builtin; refine Kd.R_append (Kd.int .i64) (w0 := w) w.heap.size rfl (.tmp 48) (.tmp 50) 33 3 (.int .i64 0) 8 rfl Try.underlying33 info3 rfl (by decide) (by omega) u6 x6_2 x7_2 [.int .i64 x7_2] (fun k_ => some k_ ≠ (u5 : Value).ownBlock) (fun _ => False) rfl rfl ?aP (fun _ hk => hk.elim) ?aF ?aO ?aB ?aS ?aL ?_; (case aP => exact rfl); (case aB => exact (uT HB.out)); (case aF => exact (fun k_ hk => Kd.fresh' (zRt (uR HO_5.out)) k_ hk)); (case aO => exact (uR HO_6.out)); (case aS => exact (zBs (uT HB.out))); (case aL => have := LMc25.out; omega); intro v525 w27 ho hb hg hat; rw [← Ny524.out] at ho; replace HO_5 := zMk (Kd.R_after (ok := (fun _ => True)) (zRm HO_5.out (fun _ hk => ⟨trivial, hk⟩)) hg hat); replace BK516 := zMk (blk_grown (g := gb516) (o := .cells #[.int .i64 a0_0, .slice A0_1 l0_1.length c0_1] 24 (0, 0)) BK516.out hg (Kd.R_ne HO_6.out BK516.out (by decide))); replace HB := zMk (hb); have HO526 := zMk (ho); clear HO_6 ho hb hg hat))
      go_roundg k2
      case measure => have := HJ2.out; have := HK2.out; omega
      case rel => exact ⟨(x5_2), (y524), (wrap64 (x7_2 + 1)), (by first | rfl | (simp; done) | (simp [*]; done)), H', ⟨by have := HJ2.out; have := HK2.out; omega⟩, ⟨by (with_reducible repeat (first | apply zRa | apply zRn | apply zRd)); exact zRm HO_5.out (fun _ hk => hk.2)⟩, ⟨by exact uR HO526.out⟩, ⟨by (with_reducible repeat (first | refine zKn ?_ _ | refine zKd ?_ | refine zKa ?_ _)); exact BK516.out⟩, ⟨by exact uT HB.out⟩⟩
    ·rw [if_neg c18] at H
     have c18b0 : decide (x7_2 < (l1.length : Int)) = false := decide_eq_false c18
     clear c18
     by_cases c28 : x6_2.length < 17592186044416
     rotate_left
     ·rw [if_neg c28] at H; exact absurd H (by simp)
     rw [if_pos c28] at H
     have LMc28 := zMk c28
     clear c28
     obtain ⟨y527, hy527⟩ : ∃ y_ : List Int, y_ = (x6_2 ++ [x7_2]) := ⟨_, rfl⟩
     replace H : (filigreelaw04_GraphSplit.l0 k2 l1 x5_2 y527 (wrap64 (x7_2 + 1)) a0_0 l0_1) = some r := by first | (rw [hy527]; with_reducible exact H) | (have H2_ := bsm H; first | (rw [hy527]; with_reducible exact H2_) | with_reducible exact H2_) | with_reducible exact H | (rw [hy527]; exact H) | exact H
     have Ny527 := zMk hy527
     clear hy527
     have H' := zMk H
     clear H
     have hcz29_0 : wr.cell? ⟨gb516, 0, none⟩ = some (.int .i64 a0_0) := (zKc BK516.out 0).trans rfl
     have hcz29_1 : wr.cell? ⟨gb516, 1, none⟩ = some (.slice A0_1 l0_1.length c0_1) := (zKc BK516.out 1).trans rfl
     have hfz29_0 := zKf BK516.out 0
     have hfz29_1 := zKf BK516.out 1
     go_wp2_with (first | ((with_reducible refine gate_builtin (b := .append) (xs := #[.tmp 48, .tmp 50]) rfl ?_); (try (refine gate_guard (by rfl) ?_; dsimp only)); at_builtin; refine Kd.R_append (Kd.int .i64) (w0 := w) w.heap.size rfl (.tmp 48) (.tmp 50) 33 3 (.int .i64 0) 8 rfl Try.underlying33 info3 rfl (by decide) (by omega) u6 x6_2 x7_2 [.int .i64 x7_2] (fun k_ => some k_ ≠ (u5 : Value).ownBlock) (fun _ => False) rfl rfl ?aP (fun _ hk => hk.elim) ?aF ?aO ?aB ?aS ?aL ?_; (case aP => exact rfl); (case aB => exact (uT HB.out)); (case aF => exact (fun k_ hk => Kd.fresh' (zRt (uR HO_5.out)) k_ hk)); (case aO => exact (uR HO_6.out)); (case aS => exact (zBs (uT HB.out))); (case aL => have := LMc28.out; omega); intro v528 w30 ho hb hg hat; rw [← Ny527.out] at ho; replace HO_5 := zMk (Kd.R_after (ok := (fun _ => True)) (zRm HO_5.out (fun _ hk => ⟨trivial, hk⟩)) hg hat); replace BK516 := zMk (blk_grown (g := gb516) (o := .cells #[.int .i64 a0_0, .slice A0_1 l0_1.length c0_1] 24 (0, 0)) BK516.out hg (Kd.R_ne HO_6.out BK516.out (by decide))); replace HB := zMk (hb); have HO529 := zMk (ho); clear HO_6 ho hb hg hat))
     go_roundg k2
     case measure => have := HJ2.out; have := HK2.out; omega
     case rel => exact ⟨(x5_2), (y527), (wrap64 (x7_2 + 1)), (by first | rfl | (simp; done) | (simp [*]; done)), H', ⟨by have := HJ2.out; have := HK2.out; omega⟩, ⟨by (with_reducible repeat (first | apply zRa | apply zRn | apply zRd)); exact zRm HO_5.out (fun _ hk => hk.2)⟩, ⟨by exact uR HO529.out⟩, ⟨by (with_reducible repeat (first | refine zKn ?_ _ | refine zKd ?_ | refine zKa ?_ _)); exact BK516.out⟩, ⟨by exact uT HB.out⟩⟩
   ·rw [if_neg c17] at H
    have c17b0 : decide (x7_2 < (l0_1.length : Int)) = false := decide_eq_false c17
    clear c17
    replace H := bnd H
    obtain ⟨⟨t530, t531⟩, A310, H⟩ := H
    replace H : ((graph_Less.f k2 a0_0 l0_1 x6_2).bind fun bt534 => ((some (([] : List (S36)) : List (S36))).bind fun y540 => (if y540.length + t531.length < 5864062014805 then ((some (y540 ++ t531 : List (S36))).bind fun y543 => (if y543.length + bt534.2.length < 5864062014805 then ((graph_Make.f k2 a0_0 (y543 ++ bt534.2)).bind fun bt549 => ((graph_Weight.f k2 a0_0 l0_1 x5_2).bind fun bt555 => ((graph_Weight.f k2 a0_0 l0_1 x6_2).bind fun bt557 => ((some (([] : List Int) : List Int)).bind fun y559 => (if y559.length + x5_2.length < 17592186044416 then ((some (y559 ++ x5_2 : List Int)).bind fun y562 => (if y562.length + x6_2.length < 17592186044416 then ((graph_Weight.f k2 a0_0 l0_1 (y562 ++ x6_2)).bind fun bt568 => (if bt549.2.2 = 0 then (if bt555.2 = 0 then (if bt557.2 = 0 then (if bt568.2 = 0 then ((graph_Same.f k2 bt549.1 bt549.2.1 a0_0 l0_1).bind fun t570 => (if t570 = true then (if (wrap64 (bt555.1 + bt557.1)) = bt568.1 then (if (t531.length : Int) = (x6_2.length : Int) then ((filigreelaw04_alive.f k2).bind fun t571 => (some t571)) else (some false)) else (some false)) else (some false))) else (some false)) else (some false)) else (some false)) else (some false))) else (none))) else (none)))))) else (none))) else (none)))) = some r := H
    have A31 := zMk A310
    clear A310
    replace H := bnd H
    obtain ⟨⟨t534, t535⟩, A320, H⟩ := H
    replace H : ((some (([] : List (S36)) : List (S36))).bind fun y540 => (if y540.length + t531.length < 5864062014805 then ((some (y540 ++ t531 : List (S36))).bind fun y543 => (if y543.length + t535.length < 5864062014805 then ((graph_Make.f k2 a0_0 (y543 ++ t535)).bind fun bt549 => ((graph_Weight.f k2 a0_0 l0_1 x5_2).bind fun bt555 => ((graph_Weight.f k2 a0_0 l0_1 x6_2).bind fun bt557 => ((some (([] : List Int) : List Int)).bind fun y559 => (if y559.length + x5_2.length < 17592186044416 then ((some (y559 ++ x5_2 : List Int)).bind fun y562 => (if y562.length + x6_2.length < 17592186044416 then ((graph_Weight.f k2 a0_0 l0_1 (y562 ++ x6_2)).bind fun bt568 => (if bt549.2.2 = 0 then (if bt555.2 = 0 then (if bt557.2 = 0 then (if bt568.2 = 0 then ((graph_Same.f k2 bt549.1 bt549.2.1 a0_0 l0_1).bind fun t570 => (if t570 = true then (if (wrap64 (bt555.1 + bt557.1)) = bt568.1 then (if (t531.length : Int) = (x6_2.length : Int) then ((filigreelaw04_alive.f k2).bind fun t571 => (some t571)) else (some false)) else (some false)) else (some false))) else (some false)) else (some false)) else (some false)) else (some false))) else (none))) else (none)))))) else (none))) else (none))) = some r := H
    have A32 := zMk A320
    clear A320
    obtain ⟨y540, hy540⟩ : ∃ y_ : List (S36), y_ = (([] : List (S36))) := ⟨_, rfl⟩
    replace H : (if y540.length + t531.length < 5864062014805 then ((some (y540 ++ t531 : List (S36))).bind fun y543 => (if y543.length + t535.length < 5864062014805 then ((graph_Make.f k2 a0_0 (y543 ++ t535)).bind fun bt549 => ((graph_Weight.f k2 a0_0 l0_1 x5_2).bind fun bt555 => ((graph_Weight.f k2 a0_0 l0_1 x6_2).bind fun bt557 => ((some (([] : List Int) : List Int)).bind fun y559 => (if y559.length + x5_2.length < 17592186044416 then ((some (y559 ++ x5_2 : List Int)).bind fun y562 => (if y562.length + x6_2.length < 17592186044416 then ((graph_Weight.f k2 a0_0 l0_1 (y562 ++ x6_2)).bind fun bt568 => (if bt549.2.2 = 0 then (if bt555.2 = 0 then (if bt557.2 = 0 then (if bt568.2 = 0 then ((graph_Same.f k2 bt549.1 bt549.2.1 a0_0 l0_1).bind fun t570 => (if t570 = true then (if (wrap64 (bt555.1 + bt557.1)) = bt568.1 then (if (t531.length : Int) = (x6_2.length : Int) then ((filigreelaw04_alive.f k2).bind fun t571 => (some t571)) else (some false)) else (some false)) else (some false))) else (some false)) else (some false)) else (some false)) else (some false))) else (none))) else (none)))))) else (none))) else (none)) = some r := by first | (rw [hy540]; with_reducible exact H) | (have H2_ := bsm H; first | (rw [hy540]; with_reducible exact H2_) | with_reducible exact H2_) | with_reducible exact H | (rw [hy540]; exact H) | exact H
    have Ny540 := zMk hy540
    clear hy540
    by_cases c33 : y540.length + t531.length < 5864062014805
    ·rw [if_pos c33] at H
     have LMc33 := zMk c33
     clear c33
     obtain ⟨y543, hy543⟩ : ∃ y_ : List (S36), y_ = (y540 ++ t531) := ⟨_, rfl⟩
     replace H : (if y543.length + t535.length < 5864062014805 then ((graph_Make.f k2 a0_0 (y543 ++ t535)).bind fun bt549 => ((graph_Weight.f k2 a0_0 l0_1 x5_2).bind fun bt555 => ((graph_Weight.f k2 a0_0 l0_1 x6_2).bind fun bt557 => ((some (([] : List Int) : List Int)).bind fun y559 => (if y559.length + x5_2.length < 17592186044416 then ((some (y559 ++ x5_2 : List Int)).bind fun y562 => (if y562.length + x6_2.length < 17592186044416 then ((graph_Weight.f k2 a0_0 l0_1 (y562 ++ x6_2)).bind fun bt568 => (if bt549.2.2 = 0 then (if bt555.2 = 0 then (if bt557.2 = 0 then (if bt568.2 = 0 then ((graph_Same.f k2 bt549.1 bt549.2.1 a0_0 l0_1).bind fun t570 => (if t570 = true then (if (wrap64 (bt555.1 + bt557.1)) = bt568.1 then (if (t531.length : Int) = (x6_2.length : Int) then ((filigreelaw04_alive.f k2).bind fun t571 => (some t571)) else (some false)) else (some false)) else (some false))) else (some false)) else (some false)) else (some false)) else (some false))) else (none))) else (none)))))) else (none)) = some r := by first | (rw [hy543]; with_reducible exact H) | (have H2_ := bsm H; first | (rw [hy543]; with_reducible exact H2_) | with_reducible exact H2_) | with_reducible exact H | (rw [hy543]; exact H) | exact H
     have Ny543 := zMk hy543
     clear hy543
     by_cases c34 : y543.length + t535.length < 5864062014805
     rotate_left
     ·rw [if_neg c34] at H; exact absurd H (by simp)
     rw [if_pos c34] at H
     have LMc34 := zMk c34
     clear c34
     obtain ⟨y546, hy546⟩ : ∃ y_ : List (S36), y_ = (y543 ++ t535) := ⟨_, rfl⟩
     replace H : ((graph_Make.f k2 a0_0 y546).bind fun bt549 => ((graph_Weight.f k2 a0_0 l0_1 x5_2).bind fun bt555 => ((graph_Weight.f k2 a0_0 l0_1 x6_2).bind fun bt557 => ((some (([] : List Int) : List Int)).bind fun y559 => (if y559.length + x5_2.length < 17592186044416 then ((some (y559 ++ x5_2 : List Int)).bind fun y562 => (if y562.length + x6_2.length < 17592186044416 then ((graph_Weight.f k2 a0_0 l0_1 (y562 ++ x6_2)).bind fun bt568 => (if bt549.2.2 = 0 then (if bt555.2 = 0 then (if bt557.2 = 0 then (if bt568.2 = 0 then ((graph_Same.f k2 bt549.1 bt549.2.1 a0_0 l0_1).bind fun t570 => (if t570 = true then (if (wrap64 (bt555.1 + bt557.1)) = bt568.1 then (if (t531.length : Int) = (x6_2.length : Int) then ((filigreelaw04_alive.f k2).bind fun t571 => (some t571)) else (some false)) else (some false)) else (some false))) else (some false)) else (some false)) else (some false)) else (some false))) else (none))) else (none)))))) = some r := by first | (rw [hy546]; with_reducible exact H) | (have H2_ := bsm H; first | (rw [hy546]; with_reducible exact H2_) | with_reducible exact H2_) | with_reducible exact H | (rw [hy546]; exact H) | exact H
     have Ny546 := zMk hy546
     clear hy546
     replace H := bnd H
     obtain ⟨⟨t549, t550, t553⟩, A350, H⟩ := H
     replace H : ((graph_Weight.f k2 a0_0 l0_1 x5_2).bind fun bt555 => ((graph_Weight.f k2 a0_0 l0_1 x6_2).bind fun bt557 => ((some (([] : List Int) : List Int)).bind fun y559 => (if y559.length + x5_2.length < 17592186044416 then ((some (y559 ++ x5_2 : List Int)).bind fun y562 => (if y562.length + x6_2.length < 17592186044416 then ((graph_Weight.f k2 a0_0 l0_1 (y562 ++ x6_2)).bind fun bt568 => (if t553 = 0 then (if bt555.2 = 0 then (if bt557.2 = 0 then (if bt568.2 = 0 then ((graph_Same.f k2 t549 t550 a0_0 l0_1).bind fun t570 => (if t570 = true then (if (wrap64 (bt555.1 + bt557.1)) = bt568.1 then (if (t531.length : Int) = (x6_2.length : Int) then ((filigreelaw04_alive.f k2).bind fun t571 => (some t571)) else (some false)) else (some false)) else (some false))) else (some false)) else (some false)) else (some false)) else (some false))) else (none))) else (none))))) = some r := H
     have A35 := zMk A350
     clear A350
     replace H := bnd H
     obtain ⟨⟨t555, t556⟩, A360, H⟩ := H
     replace H : ((graph_Weight.f k2 a0_0 l0_1 x6_2).bind fun bt557 => ((some (([] : List Int) : List Int)).bind fun y559 => (if y559.length + x5_2.length < 17592186044416 then ((some (y559 ++ x5_2 : List Int)).bind fun y562 => (if y562.length + x6_2.length < 17592186044416 then ((graph_Weight.f k2 a0_0 l0_1 (y562 ++ x6_2)).bind fun bt568 => (if t553 = 0 then (if t556 = 0 then (if bt557.2 = 0 then (if bt568.2 = 0 then ((graph_Same.f k2 t549 t550 a0_0 l0_1).bind fun t570 => (if t570 = true then (if (wrap64 (t555 + bt557.1)) = bt568.1 then (if (t531.length : Int) = (x6_2.length : Int) then ((filigreelaw04_alive.f k2).bind fun t571 => (some t571)) else (some false)) else (some false)) else (some false))) else (some false)) else (some false)) else (some false)) else (some false))) else (none))) else (none)))) = some r := H
     have A36 := zMk A360
     clear A360
     replace H := bnd H
     obtain ⟨⟨t557, t558⟩, A370, H⟩ := H
     replace H : ((some (([] : List Int) : List Int)).bind fun y559 => (if y559.length + x5_2.length < 17592186044416 then ((some (y559 ++ x5_2 : List Int)).bind fun y562 => (if y562.length + x6_2.length < 17592186044416 then ((graph_Weight.f k2 a0_0 l0_1 (y562 ++ x6_2)).bind fun bt568 => (if t553 = 0 then (if t556 = 0 then (if t558 = 0 then (if bt568.2 = 0 then ((graph_Same.f k2 t549 t550 a0_0 l0_1).bind fun t570 => (if t570 = true then (if (wrap64 (t555 + t557)) = bt568.1 then (if (t531.length : Int) = (x6_2.length : Int) then ((filigreelaw04_alive.f k2).bind fun t571 => (some t571)) else (some false)) else (some false)) else (some false))) else (some false)) else (some false)) else (some false)) else (some false))) else (none))) else (none))) = some r := H
     have A37 := zMk A370
     clear A370
     obtain ⟨y559, hy559⟩ : ∃ y_ : List Int, y_ = (([] : List Int)) := ⟨_, rfl⟩
     replace H : (if y559.length + x5_2.length < 17592186044416 then ((some (y559 ++ x5_2 : List Int)).bind fun y562 => (if y562.length + x6_2.length < 17592186044416 then ((graph_Weight.f k2 a0_0 l0_1 (y562 ++ x6_2)).bind fun bt568 => (if t553 = 0 then (if t556 = 0 then (if t558 = 0 then (if bt568.2 = 0 then ((graph_Same.f k2 t549 t550 a0_0 l0_1).bind fun t570 => (if t570 = true then (if (wrap64 (t555 + t557)) = bt568.1 then (if (t531.length : Int) = (x6_2.length : Int) then ((filigreelaw04_alive.f k2).bind fun t571 => (some t571)) else (some false)) else (some false)) else (some false))) else (some false)) else (some false)) else (some false)) else (some false))) else (none))) else (none)) = some r := by first | (rw [hy559]; with_reducible exact H) | (have H2_ := bsm H; first | (rw [hy559]; with_reducible exact H2_) | with_reducible exact H2_) | with_reducible exact H | (rw [hy559]; exact H) | exact H
     have Ny559 := zMk hy559
     clear hy559
     by_cases c38 : y559.length + x5_2.length < 17592186044416
     rotate_left
     ·rw [if_neg c38] at H; exact absurd H (by simp)
     rw [if_pos c38] at H
     have LMc38 := zMk c38
     clear c38
     obtain ⟨y562, hy562⟩ : ∃ y_ : List Int, y_ = (y559 ++ x5_2) := ⟨_, rfl⟩
     replace H : (if y562.length + x6_2.length < 17592186044416 then ((graph_Weight.f k2 a0_0 l0_1 (y562 ++ x6_2)).bind fun bt568 => (if t553 = 0 then (if t556 = 0 then (if t558 = 0 then (if bt568.2 = 0 then ((graph_Same.f k2 t549 t550 a0_0 l0_1).bind fun t570 => (if t570 = true then (if (wrap64 (t555 + t557)) = bt568.1 then (if (t531.length : Int) = (x6_2.length : Int) then ((filigreelaw04_alive.f k2).bind fun t571 => (some t571)) else (some false)) else (some false)) else (some false))) else (some false)) else (some false)) else (some false)) else (some false))) else (none)) = some r := by first | (rw [hy562]; with_reducible exact H) | (have H2_ := bsm H; first | (rw [hy562]; with_reducible exact H2_) | with_reducible exact H2_) | with_reducible exact H | (rw [hy562]; exact H) | exact H
     have Ny562 := zMk hy562
     clear hy562
     by_cases c39 : y562.length + x6_2.length < 17592186044416
     rotate_left
     ·rw [if_neg c39] at H; exact absurd H (by simp)
     rw [if_pos c39] at H
     have LMc39 := zMk c39
     clear c39
     obtain ⟨y565, hy565⟩ : ∃ y_ : List Int, y_ = (y562 ++ x6_2) := ⟨_, rfl⟩
     replace H : ((graph_Weight.f k2 a0_0 l0_1 y565).bind fun bt568 => (if t553 = 0 then (if t556 = 0 then (if t558 = 0 then (if bt568.2 = 0 then ((graph_Same.f k2 t549 t550 a0_0 l0_1).bind fun t570 => (if t570 = true then (if (wrap64 (t555 + t557)) = bt568.1 then (if (t531.length : Int) = (x6_2.length : Int) then ((filigreelaw04_alive.f k2).bind fun t571 => (some t571)) else (some false)) else (some false)) else (some false))) else (some false)) else (some false)) else (some false)) else (some false))) = some r := by first | (rw [hy565]; with_reducible exact H) | (have H2_ := bsm H; first | (rw [hy565]; with_reducible exact H2_) | with_reducible exact H2_) | with_reducible exact H | (rw [hy565]; exact H) | exact H
     have Ny565 := zMk hy565
     clear hy565
     replace H := bnd H
     obtain ⟨⟨t568, t569⟩, A400, H⟩ := H
     replace H : (if t553 = 0 then (if t556 = 0 then (if t558 = 0 then (if t569 = 0 then ((graph_Same.f k2 t549 t550 a0_0 l0_1).bind fun t570 => (if t570 = true then (if (wrap64 (t555 + t557)) = t568 then (if (t531.length : Int) = (x6_2.length : Int) then ((filigreelaw04_alive.f k2).bind fun t571 => (some t571)) else (some false)) else (some false)) else (some false))) else (some false)) else (some false)) else (some false)) else (some false)) = some r := H
     have A40 := zMk A400
     clear A400
     by_cases c41 : t553 = 0
     ·rw [if_pos c41] at H
      have c41b0 : (t553 == 0) = true := beq_iff_eq.mpr c41
      have c41b1 : (t553 != 0) = false := bne_eq_false_iff_eq.mpr c41
      clear c41
      by_cases c42 : t556 = 0
      ·rw [if_pos c42] at H
       have c42b0 : (t556 == 0) = true := beq_iff_eq.mpr c42
       have c42b1 : (t556 != 0) = false := bne_eq_false_iff_eq.mpr c42
       clear c42
       by_cases c43 : t558 = 0
       ·rw [if_pos c43] at H
        have c43b0 : (t558 == 0) = true := beq_iff_eq.mpr c43
        have c43b1 : (t558 != 0) = false := bne_eq_false_iff_eq.mpr c43
        clear c43
        by_cases c44 : t569 = 0
        ·rw [if_pos c44] at H
         have c44b0 : (t569 == 0) = true := beq_iff_eq.mpr c44
         have c44b1 : (t569 != 0) = false := bne_eq_false_iff_eq.mpr c44
         clear c44
         replace H := bnd H
         obtain ⟨t570, A450, H⟩ := H
         have A45 := zMk A450
         clear A450
         by_cases c46 : t570 = true
         ·subst c46
          replace H : (if (wrap64 (t555 + t557)) = t568 then (if (t531.length : Int) = (x6_2.length : Int) then ((filigreelaw04_alive.f k2).bind fun t571 => (some t571)) else (some false)) else (some false)) = some r := by rw [if_pos rfl] at H; exact H
          by_cases c47 : (wrap64 (t555 + t557)) = t568
          ·rw [if_pos c47] at H
           have c47b0 : ((wrap64 (t555 + t557)) == t568) = true := beq_iff_eq.mpr c47
           have c47b1 : ((wrap64 (t555 + t557)) != t568) = false := bne_eq_false_iff_eq.mpr c47
           clear c47
           by_cases c48 : (t531.length : Int) = (x6_2.length : Int)
           ·rw [if_pos c48] at H
            have c48b0 : ((t531.length : Int) == (x6_2.length : Int)) = true := beq_iff_eq.mpr c48
            have c48b1 : ((t531.length : Int) != (x6_2.length : Int)) = false := bne_eq_false_iff_eq.mpr c48
            have c48b2 : (t531.length == x6_2.length) = true := by first | simpa using c48 | (simp at c48 ⊢; omega)
            clear c48
            replace H := bnd H
            obtain ⟨t571, A490, H⟩ := H
            have A49 := zMk A490
            clear A490
            obtain rfl := zOi H
            have hcz50_0 : wr.cell? ⟨gb516, 0, none⟩ = some (.int .i64 a0_0) := (zKc BK516.out 0).trans rfl
            have hcz50_1 : wr.cell? ⟨gb516, 1, none⟩ = some (.slice A0_1 l0_1.length c0_1) := (zKc BK516.out 1).trans rfl
            have hfz50_0 := zKf BK516.out 0
            have hfz50_1 := zKf BK516.out 1
            obtain ⟨Ao51, co51, eo51⟩ := zRs HO_5.out
            subst eo51
            obtain ⟨Ao52, co52, eo52⟩ := zRs HO_6.out
            subst eo52
            try go_wp2
            replace HO_5 := zMk (zRd HO_5.out)
            replace HO_6 := zMk (zRd HO_6.out)
            replace BK516 := zMk (zKd BK516.out)
            replace HB := zMk (zBd HB.out)
            refine start_ (n := 10) (S := fun w' => w'.cell? ⟨gb516, 0, none⟩ = some (.int .i64 a0_0) ∧ w'.cell? ⟨gb516, 1, none⟩ = some (.slice A0_1 l0_1.length c0_1)) (ds := []) #[false, false, false, false, false, false, false, false, false, false] (by kernel_rfl) rfl rfl ⟨(zKc BK516.out 0).trans rfl, (zKc BK516.out 1).trans rfl⟩ (fun hHeld => ?_); refine with_tabW filigreelaw04_GraphSplit.tab10 filigreelaw04_GraphSplit.bits10 (fun HT_ HW_ => ?_)
            generalize wr.drew = w53 at HO_5 HO_6 BK516 HB hHeld ⊢
            refine pure_ (i := 1) (N := some 53) (v := ?_) (a' := ?_) #[false, true, false, false, false, false, false, false, false, false] rfl rfl (any_of HT_.out (by kernel_rfl)) (fun _ _ _ h => h) (Or.inl ⟨by rfl, ?_⟩) ?_ ?_
            rotate_left
            ·intro w'
             go_simp
             with_reducible rfl
            rotate_left
            ·simp only [Act.put, zSa, zSb, zSc, i64_w, i32_w]
             rfl
            refine pure_ (i := 4) (N := some 56) (v := ?_) (a' := ?_) #[false, true, false, false, true, false, false, false, false, false] rfl rfl (any_of HT_.out (by kernel_rfl)) (fun _ _ _ h => h) (Or.inl ⟨by rfl, ?_⟩) ?_ ?_
            rotate_left
            ·intro w'
             go_simp
             with_reducible rfl
            rotate_left
            ·simp only [Act.put, zSa, zSb, zSc, i64_w, i32_w]
             rfl
            refine take_ (i := 0) (N := some 52) (v := ?_) (a' := ?_) #[true, true, false, false, true, false, false, false, false, false] rfl rfl (take_ofW HT_.out HW_.out (by kernel_rfl)) (fun _ _ _ h => h) (Or.inl ⟨by rfl, ?_⟩) hHeld ?_ ?_
            rotate_left
            ·rintro w' ⟨s0, s1⟩
             go_simp
             with_reducible rfl
            rotate_left
            ·simp only [Act.put, zSa, zSb, zSc, i64_w, i32_w]
             rfl
            refine take_ (i := 3) (N := some 55) (v := ?_) (a' := ?_) #[true, true, false, true, true, false, false, false, false, false] rfl rfl (take_ofW HT_.out HW_.out (by kernel_rfl)) (fun _ _ _ h => h) (Or.inl ⟨by rfl, ?_⟩) hHeld ?_ ?_
            rotate_left
            ·rintro w' ⟨s0, s1⟩
             go_simp
             with_reducible rfl
            rotate_left
            ·simp only [Act.put, zSa, zSb, zSc, i64_w, i32_w]
             rfl
            refine join_ (σ := Value × Value × Nat × Nat) 2 #[true, true, true, true, true, true, true, true, false, false] (fun s_ => [(54, .agg #[.int .i64 t530, s_.1]), (57, .agg #[.int .i64 t534, s_.2.1]), (8, .pointer (some ⟨s_.2.2.1, 0, none⟩)), (9, .pointer (some ⟨s_.2.2.2, 0, none⟩))]) (fun s_ w' => (w'.cell? ⟨gb516, 0, none⟩ = some (.int .i64 a0_0) ∧ w'.cell? ⟨gb516, 1, none⟩ = some (.slice A0_1 l0_1.length c0_1)) ∧ (Kd.R k36 36 w' w.heap.size (fun k_ => some k_ ≠ (s_.2.1 : Value).ownBlock) s_.1 t531) ∧ (Kd.R k36 36 w' w.heap.size (fun k_ => some k_ ≠ (s_.1 : Value).ownBlock) s_.2.1 t535) ∧ (Kd.R (Kd.int .i64) 3 w' w.heap.size (fun k_ => some k_ ≠ (.slice Ao52 x6_2.length co52 : Value).ownBlock) (.slice Ao51 x5_2.length co51) x5_2) ∧ (Kd.R (Kd.int .i64) 3 w' w.heap.size (fun k_ => some k_ ≠ (.slice Ao51 x5_2.length co51 : Value).ownBlock) (.slice Ao52 x6_2.length co52) x6_2) ∧ (w'.heap[gb516]? = some (.cells #[.int .i64 a0_0, .slice A0_1 l0_1.length c0_1] 24 (0, 0))) ∧ (w'.heap[s_.2.2.1]? = some (.cells #[.int .i64 0, .slice none 0 0] 24 (0, 0))) ∧ (w'.heap[s_.2.2.2]? = some (.cells #[.int .i64 0, .slice none 0 0] 24 (0, 0))) ∧ (w.heap.size ≤ s_.2.2.1) ∧ (w.heap.size ≤ s_.2.2.1) ∧ (gb516 ≠ s_.2.2.1) ∧ (s_.2.2.1 ≠ gb516) ∧ (s_.2.2.2 ≠ s_.2.2.1) ∧ (s_.2.2.1 ≠ s_.2.2.2) ∧ (w.heap.size ≤ s_.2.2.2) ∧ (w.heap.size ≤ s_.2.2.2) ∧ (gb516 ≠ s_.2.2.2) ∧ (s_.2.2.2 ≠ gb516) ∧ (Below w.heap.size w w')) ?_ ?_
            rotate_left
            ·intro hJ2_5_6_7
             refine join_ (σ := Value × Value × Nat) 3 #[true, true, true, true, true, true, true, false, false, false] (fun s_ => [(54, .agg #[.int .i64 t530, s_.1]), (57, .agg #[.int .i64 t534, s_.2.1]), (8, .pointer (some ⟨s_.2.2, 0, none⟩))]) (fun s_ w' => (w'.cell? ⟨gb516, 0, none⟩ = some (.int .i64 a0_0) ∧ w'.cell? ⟨gb516, 1, none⟩ = some (.slice A0_1 l0_1.length c0_1)) ∧ (Kd.R k36 36 w' w.heap.size (fun k_ => some k_ ≠ (s_.2.1 : Value).ownBlock) s_.1 t531) ∧ (Kd.R k36 36 w' w.heap.size (fun k_ => some k_ ≠ (s_.1 : Value).ownBlock) s_.2.1 t535) ∧ (Kd.R (Kd.int .i64) 3 w' w.heap.size (fun k_ => some k_ ≠ (.slice Ao52 x6_2.length co52 : Value).ownBlock) (.slice Ao51 x5_2.length co51) x5_2) ∧ (Kd.R (Kd.int .i64) 3 w' w.heap.size (fun k_ => some k_ ≠ (.slice Ao51 x5_2.length co51 : Value).ownBlock) (.slice Ao52 x6_2.length co52) x6_2) ∧ (w'.heap[gb516]? = some (.cells #[.int .i64 a0_0, .slice A0_1 l0_1.length c0_1] 24 (0, 0))) ∧ (w'.heap[s_.2.2]? = some (.cells #[.int .i64 0, .slice none 0 0] 24 (0, 0))) ∧ (w.heap.size ≤ s_.2.2) ∧ (w.heap.size ≤ s_.2.2) ∧ (gb516 ≠ s_.2.2) ∧ (s_.2.2 ≠ gb516) ∧ (Below w.heap.size w w')) ?_ ?_
             rotate_left
             ·intro hJ2_5_6
              refine join_ (σ := Value × Value × Nat) 3 #[true, true, true, true, true, true, false, true, false, false] (fun s_ => [(54, .agg #[.int .i64 t530, s_.1]), (57, .agg #[.int .i64 t534, s_.2.1]), (9, .pointer (some ⟨s_.2.2, 0, none⟩))]) (fun s_ w' => (w'.cell? ⟨gb516, 0, none⟩ = some (.int .i64 a0_0) ∧ w'.cell? ⟨gb516, 1, none⟩ = some (.slice A0_1 l0_1.length c0_1)) ∧ (Kd.R k36 36 w' w.heap.size (fun k_ => some k_ ≠ (s_.2.1 : Value).ownBlock) s_.1 t531) ∧ (Kd.R k36 36 w' w.heap.size (fun k_ => some k_ ≠ (s_.1 : Value).ownBlock) s_.2.1 t535) ∧ (Kd.R (Kd.int .i64) 3 w' w.heap.size (fun k_ => some k_ ≠ (.slice Ao52 x6_2.length co52 : Value).ownBlock) (.slice Ao51 x5_2.length co51) x5_2) ∧ (Kd.R (Kd.int .i64) 3 w' w.heap.size (fun k_ => some k_ ≠ (.slice Ao51 x5_2.length co51 : Value).ownBlock) (.slice Ao52 x6_2.length co52) x6_2) ∧ (w'.heap[gb516]? = some (.cells #[.int .i64 a0_0, .slice A0_1 l0_1.length c0_1] 24 (0, 0))) ∧ (w'.heap[s_.2.2]? = some (.cells #[.int .i64 0, .slice none 0 0] 24 (0, 0))) ∧ (w.heap.size ≤ s_.2.2) ∧ (w.heap.size ≤ s_.2.2) ∧ (gb516 ≠ s_.2.2) ∧ (s_.2.2 ≠ gb516) ∧ (Below w.heap.size w w')) ?_ ?_
              rotate_left
              ·intro hJ2_5_7
               refine join_ (σ := Value × Nat × Nat) 3 #[true, true, true, true, true, false, true, true, false, false] (fun s_ => [(54, .agg #[.int .i64 t530, s_.1]), (8, .pointer (some ⟨s_.2.1, 0, none⟩)), (9, .pointer (some ⟨s_.2.2, 0, none⟩))]) (fun s_ w' => (w'.cell? ⟨gb516, 0, none⟩ = some (.int .i64 a0_0) ∧ w'.cell? ⟨gb516, 1, none⟩ = some (.slice A0_1 l0_1.length c0_1)) ∧ (Kd.R k36 36 w' w.heap.size (fun _ => True) s_.1 t531) ∧ (Kd.R (Kd.int .i64) 3 w' w.heap.size (fun k_ => some k_ ≠ (.slice Ao52 x6_2.length co52 : Value).ownBlock) (.slice Ao51 x5_2.length co51) x5_2) ∧ (Kd.R (Kd.int .i64) 3 w' w.heap.size (fun k_ => some k_ ≠ (.slice Ao51 x5_2.length co51 : Value).ownBlock) (.slice Ao52 x6_2.length co52) x6_2) ∧ (w'.heap[gb516]? = some (.cells #[.int .i64 a0_0, .slice A0_1 l0_1.length c0_1] 24 (0, 0))) ∧ (w'.heap[s_.2.1]? = some (.cells #[.int .i64 0, .slice none 0 0] 24 (0, 0))) ∧ (w'.heap[s_.2.2]? = some (.cells #[.int .i64 0, .slice none 0 0] 24 (0, 0))) ∧ (w.heap.size ≤ s_.2.1) ∧ (w.heap.size ≤ s_.2.1) ∧ (gb516 ≠ s_.2.1) ∧ (s_.2.1 ≠ gb516) ∧ (s_.2.2 ≠ s_.2.1) ∧ (s_.2.1 ≠ s_.2.2) ∧ (w.heap.size ≤ s_.2.2) ∧ (w.heap.size ≤ s_.2.2) ∧ (gb516 ≠ s_.2.2) ∧ (s_.2.2 ≠ gb516) ∧ (Below w.heap.size w w')) ?_ ?_
               rotate_left
               ·intro hJ2_6_7
                refine join_ (σ := Value × Value) 4 #[true, true, true, true, true, true, false, false, false, false] (fun s_ => [(54, .agg #[.int .i64 t530, s_.1]), (57, .agg #[.int .i64 t534, s_.2])]) (fun s_ w' => (w'.cell? ⟨gb516, 0, none⟩ = some (.int .i64 a0_0) ∧ w'.cell? ⟨gb516, 1, none⟩ = some (.slice A0_1 l0_1.length c0_1)) ∧ (Kd.R k36 36 w' w.heap.size (fun k_ => some k_ ≠ (s_.2 : Value).ownBlock) s_.1 t531) ∧ (Kd.R k36 36 w' w.heap.size (fun k_ => some k_ ≠ (s_.1 : Value).ownBlock) s_.2 t535) ∧ (Kd.R (Kd.int .i64) 3 w' w.heap.size (fun k_ => some k_ ≠ (.slice Ao52 x6_2.length co52 : Value).ownBlock) (.slice Ao51 x5_2.length co51) x5_2) ∧ (Kd.R (Kd.int .i64) 3 w' w.heap.size (fun k_ => some k_ ≠ (.slice Ao51 x5_2.length co51 : Value).ownBlock) (.slice Ao52 x6_2.length co52) x6_2) ∧ (w'.heap[gb516]? = some (.cells #[.int .i64 a0_0, .slice A0_1 l0_1.length c0_1] 24 (0, 0))) ∧ (Below w.heap.size w w')) ?_ ?_
                rotate_left
                ·intro hJ2_5
                 refine join_ (σ := Value × Nat) 4 #[true, true, true, true, true, false, true, false, false, false] (fun s_ => [(54, .agg #[.int .i64 t530, s_.1]), (8, .pointer (some ⟨s_.2, 0, none⟩))]) (fun s_ w' => (w'.cell? ⟨gb516, 0, none⟩ = some (.int .i64 a0_0) ∧ w'.cell? ⟨gb516, 1, none⟩ = some (.slice A0_1 l0_1.length c0_1)) ∧ (Kd.R k36 36 w' w.heap.size (fun _ => True) s_.1 t531) ∧ (Kd.R (Kd.int .i64) 3 w' w.heap.size (fun k_ => some k_ ≠ (.slice Ao52 x6_2.length co52 : Value).ownBlock) (.slice Ao51 x5_2.length co51) x5_2) ∧ (Kd.R (Kd.int .i64) 3 w' w.heap.size (fun k_ => some k_ ≠ (.slice Ao51 x5_2.length co51 : Value).ownBlock) (.slice Ao52 x6_2.length co52) x6_2) ∧ (w'.heap[gb516]? = some (.cells #[.int .i64 a0_0, .slice A0_1 l0_1.length c0_1] 24 (0, 0))) ∧ (w'.heap[s_.2]? = some (.cells #[.int .i64 0, .slice none 0 0] 24 (0, 0))) ∧ (w.heap.size ≤ s_.2) ∧ (w.heap.size ≤ s_.2) ∧ (gb516 ≠ s_.2) ∧ (s_.2 ≠ gb516) ∧ (Below w.heap.size w w')) ?_ ?_
                 rotate_left
                 ·intro hJ2_6
                  refine join_ (σ := Value × Nat) 4 #[true, true, true, true, true, false, false, true, false, false] (fun s_ => [(54, .agg #[.int .i64 t530, s_.1]), (9, .pointer (some ⟨s_.2, 0, none⟩))]) (fun s_ w' => (w'.cell? ⟨gb516, 0, none⟩ = some (.int .i64 a0_0) ∧ w'.cell? ⟨gb516, 1, none⟩ = some (.slice A0_1 l0_1.length c0_1)) ∧ (Kd.R k36 36 w' w.heap.size (fun _ => True) s_.1 t531) ∧ (Kd.R (Kd.int .i64) 3 w' w.heap.size (fun k_ => some k_ ≠ (.slice Ao52 x6_2.length co52 : Value).ownBlock) (.slice Ao51 x5_2.length co51) x5_2) ∧ (Kd.R (Kd.int .i64) 3 w' w.heap.size (fun k_ => some k_ ≠ (.slice Ao51 x5_2.length co51 : Value).ownBlock) (.slice Ao52 x6_2.length co52) x6_2) ∧ (w'.heap[gb516]? = some (.cells #[.int .i64 a0_0, .slice A0_1 l0_1.length c0_1] 24 (0, 0))) ∧ (w'.heap[s_.2]? = some (.cells #[.int .i64 0, .slice none 0 0] 24 (0, 0))) ∧ (w.heap.size ≤ s_.2) ∧ (w.heap.size ≤ s_.2) ∧ (gb516 ≠ s_.2) ∧ (s_.2 ≠ gb516) ∧ (Below w.heap.size w w')) ?_ ?_
                  rotate_left
                  ·intro hJ2_7
                   refine join_ (σ := Nat × Nat) 4 #[true, true, false, true, true, false, true, true, false, false] (fun s_ => [(8, .pointer (some ⟨s_.1, 0, none⟩)), (9, .pointer (some ⟨s_.2, 0, none⟩))]) (fun s_ w' => (w'.cell? ⟨gb516, 0, none⟩ = some (.int .i64 a0_0) ∧ w'.cell? ⟨gb516, 1, none⟩ = some (.slice A0_1 l0_1.length c0_1)) ∧ (Kd.R (Kd.int .i64) 3 w' w.heap.size (fun k_ => some k_ ≠ (.slice Ao52 x6_2.length co52 : Value).ownBlock) (.slice Ao51 x5_2.length co51) x5_2) ∧ (Kd.R (Kd.int .i64) 3 w' w.heap.size (fun k_ => some k_ ≠ (.slice Ao51 x5_2.length co51 : Value).ownBlock) (.slice Ao52 x6_2.length co52) x6_2) ∧ (w'.heap[gb516]? = some (.cells #[.int .i64 a0_0, .slice A0_1 l0_1.length c0_1] 24 (0, 0))) ∧ (w'.heap[s_.1]? = some (.cells #[.int .i64 0, .slice none 0 0] 24 (0, 0))) ∧ (w'.heap[s_.2]? = some (.cells #[.int .i64 0, .slice none 0 0] 24 (0, 0))) ∧ (w.heap.size ≤ s_.1) ∧ (w.heap.size ≤ s_.1) ∧ (gb516 ≠ s_.1) ∧ (s_.1 ≠ gb516) ∧ (s_.2 ≠ s_.1) ∧ (s_.1 ≠ s_.2) ∧ (w.heap.size ≤ s_.2) ∧ (w.heap.size ≤ s_.2) ∧ (gb516 ≠ s_.2) ∧ (s_.2 ≠ gb516) ∧ (Below w.heap.size w w')) ?_ ?_
                   rotate_left
                   ·intro hJ6_7
                    refine join_ (σ := Value) 5 #[true, true, true, true, true, false, false, false, false, false] (fun s_ => [(54, .agg #[.int .i64 t530, s_])]) (fun s_ w' => (w'.cell? ⟨gb516, 0, none⟩ = some (.int .i64 a0_0) ∧ w'.cell? ⟨gb516, 1, none⟩ = some (.slice A0_1 l0_1.length c0_1)) ∧ (Kd.R k36 36 w' w.heap.size (fun _ => True) s_ t531) ∧ (Kd.R (Kd.int .i64) 3 w' w.heap.size (fun k_ => some k_ ≠ (.slice Ao52 x6_2.length co52 : Value).ownBlock) (.slice Ao51 x5_2.length co51) x5_2) ∧ (Kd.R (Kd.int .i64) 3 w' w.heap.size (fun k_ => some k_ ≠ (.slice Ao51 x5_2.length co51 : Value).ownBlock) (.slice Ao52 x6_2.length co52) x6_2) ∧ (w'.heap[gb516]? = some (.cells #[.int .i64 a0_0, .slice A0_1 l0_1.length c0_1] 24 (0, 0))) ∧ (Below w.heap.size w w')) ?_ ?_
                    rotate_left
                    ·intro hJ2
                     refine join_ (σ := Nat) 5 #[true, true, false, true, true, false, true, false, false, false] (fun s_ => [(8, .pointer (some ⟨s_, 0, none⟩))]) (fun s_ w' => (w'.cell? ⟨gb516, 0, none⟩ = some (.int .i64 a0_0) ∧ w'.cell? ⟨gb516, 1, none⟩ = some (.slice A0_1 l0_1.length c0_1)) ∧ (Kd.R (Kd.int .i64) 3 w' w.heap.size (fun k_ => some k_ ≠ (.slice Ao52 x6_2.length co52 : Value).ownBlock) (.slice Ao51 x5_2.length co51) x5_2) ∧ (Kd.R (Kd.int .i64) 3 w' w.heap.size (fun k_ => some k_ ≠ (.slice Ao51 x5_2.length co51 : Value).ownBlock) (.slice Ao52 x6_2.length co52) x6_2) ∧ (w'.heap[gb516]? = some (.cells #[.int .i64 a0_0, .slice A0_1 l0_1.length c0_1] 24 (0, 0))) ∧ (w'.heap[s_]? = some (.cells #[.int .i64 0, .slice none 0 0] 24 (0, 0))) ∧ (w.heap.size ≤ s_) ∧ (w.heap.size ≤ s_) ∧ (gb516 ≠ s_) ∧ (s_ ≠ gb516) ∧ (Below w.heap.size w w')) ?_ ?_
                     rotate_left
                     ·intro hJ6
                      refine join_ (σ := Nat) 5 #[true, true, false, true, true, false, false, true, false, false] (fun s_ => [(9, .pointer (some ⟨s_, 0, none⟩))]) (fun s_ w' => (w'.cell? ⟨gb516, 0, none⟩ = some (.int .i64 a0_0) ∧ w'.cell? ⟨gb516, 1, none⟩ = some (.slice A0_1 l0_1.length c0_1)) ∧ (Kd.R (Kd.int .i64) 3 w' w.heap.size (fun k_ => some k_ ≠ (.slice Ao52 x6_2.length co52 : Value).ownBlock) (.slice Ao51 x5_2.length co51) x5_2) ∧ (Kd.R (Kd.int .i64) 3 w' w.heap.size (fun k_ => some k_ ≠ (.slice Ao51 x5_2.length co51 : Value).ownBlock) (.slice Ao52 x6_2.length co52) x6_2) ∧ (w'.heap[gb516]? = some (.cells #[.int .i64 a0_0, .slice A0_1 l0_1.length c0_1] 24 (0, 0))) ∧ (w'.heap[s_]? = some (.cells #[.int .i64 0, .slice none 0 0] 24 (0, 0))) ∧ (w.heap.size ≤ s_) ∧ (w.heap.size ≤ s_) ∧ (gb516 ≠ s_) ∧ (s_ ≠ gb516) ∧ (Below w.heap.size w w')) ?_ ?_
                      rotate_left
                      ·intro hJ7
                       refine three_ (i := 2) (j := 6) (k := 7) (Ni := some 54) (Nj := some 8) (Nk := some 9) #[true, true, true, true, true, false, false, false, false, false] #[true, true, false, true, true, false, true, false, false, false] #[true, true, false, true, true, false, false, true, false, false] rfl rfl rfl rfl rfl rfl (three_of HT_.out (by kernel_rfl)) (by decide) (by decide) (by decide) (fun K hK => ?_) (fun K hK => ?_) (fun K hK => ?_)
                       ·skip
                        refine goes_ Try.func22 (by kernel_rfl) rfl #[.agg #[.int .i64 a0_0, .slice A0_1 l0_1.length c0_1], .slice Ao51 x5_2.length co51] (by rfl) rfl rfl (by (try simp only [zMa, zMc, zMn]); first | done | rfl | (simp only [zLd, zLt]; rfl)) ?_
                        with_reducible refine (graph_Less.calls k2 a0_0 _ _ l0_1 _ _ x5_2 t530 t531 _ ?side1 ?side2 ?side3 ?side4 A31.out).mono ?_
                        (case side1 => repeat (first | exact (Kd.C_below HR0_1.out HB.out) | (with_reducible refine zCa ?_ _) | (with_reducible refine zCn ?_ _) | (with_reducible refine zCd ?_)))
                        (case side2 => exact HC0_1.out)
                        (case side3 => exact uC (zRr HO_5.out).2.2)
                        (case side4 => exact (zRr HO_5.out).2.1)
                        rintro e w54 ⟨v532, rfl, ho0, hb⟩
                        refine ⟨_, rfl, ?_⟩
                        replace HO_5 := zMk (zRb (uR HO_5.out) hb)
                        replace HO_6 := zMk (zRb (uR HO_6.out) hb)
                        have HO533 := zMk (zRl ho0 (zBs (uT HB.out)))
                        replace BK516 := zMk (zKb BK516.out hb)
                        replace HB := zMk (zBt (uT HB.out) hb)
                        refine hK.out _ _ ⟨(zKc BK516.out 0).trans rfl, (zKc BK516.out 1).trans rfl⟩ (fun hHeld => ?_)
                        clear hK K
                        refine norm_ (a' := ?_) ?_ ?_
                        rotate_left
                        ·show Act.put _ (some 54) _ = _
                         simp only [Act.put, zSa, zSb, zSc, i64_w, i32_w]
                         rfl
                        exact norm_ (by first | (simp only [putAll, Act.put, zSa, zSb, zSc]; done) | (simp only [putAll, Act.put, zSa, zSb, zSc]; rfl)) (hJ2 (v532) _ ⟨hHeld, (uR HO533.out), (uR HO_5.out), (uR HO_6.out), BK516.out, (uT HB.out)⟩)
                       ·skip
                        refine box_step ?hg (N := 8) ?hd (cs := #[.int .i64 0, .slice none 0 0]) (t := 24) ?hr ?_; (case hd => rfl); (case hg => rfl); (case hr => first | (go_simp; done) | (go_simp; rfl) | (go_simp; rw [show ∀ x : Int, IntKind.u32.wrap (IntKind.u8.wrap x) = x % 256 from fun x => (by show (x % 256) % 4294967296 = x % 256; omega)]))
                        intro gb538 hg w54 hbox hb
                        replace HO_5 := zMk (zRb (uR HO_5.out) hb)
                        replace HO_6 := zMk (zRb (uR HO_6.out) hb)
                        have BK538 := zMk (hbox)
                        have GW538 := zMk ((by rw [hg]; exact (zBs (uT HB.out)) : w.heap.size ≤ gb538))
                        have GE538 := zMk ((by rw [hg]; exact (zBs (uT HB.out)) : w.heap.size ≤ gb538))
                        have IGE538 := ownGe GE538.out
                        replace HB := zMk (zBt (uT HB.out) hb)
                        have NB516_538 := zMk ((by rw [hg]; exact Nat.ne_of_lt (blk_lt BK516.out) : gb516 ≠ gb538))
                        have NB538_516 := zMk ((by rw [hg]; exact Nat.ne_of_gt (blk_lt BK516.out) : gb538 ≠ gb516))
                        replace BK516 := zMk (zKb BK516.out hb)
                        clear hb hbox hg
                        refine hK.out _ _ ⟨(zKc BK516.out 0).trans rfl, (zKc BK516.out 1).trans rfl⟩ (fun hHeld => ?_)
                        clear hK K
                        refine norm_ (a' := ?_) ?_ ?_
                        rotate_left
                        ·show Act.put _ (some 8) _ = _
                         simp only [Act.put, zSa, zSb, zSc, i64_w, i32_w]
                         rfl
                        exact norm_ (by first | (simp only [putAll, Act.put, zSa, zSb, zSc]; done) | (simp only [putAll, Act.put, zSa, zSb, zSc]; rfl)) (hJ6 (gb538) _ ⟨hHeld, (uR HO_5.out), (uR HO_6.out), BK516.out, BK538.out, GW538.out, GE538.out, NB516_538.out, NB538_516.out, (uT HB.out)⟩)
                       ·skip
                        refine box_step ?hg (N := 9) ?hd (cs := #[.int .i64 0, .slice none 0 0]) (t := 24) ?hr ?_; (case hd => rfl); (case hg => rfl); (case hr => first | (go_simp; done) | (go_simp; rfl) | (go_simp; rw [show ∀ x : Int, IntKind.u32.wrap (IntKind.u8.wrap x) = x % 256 from fun x => (by show (x % 256) % 4294967296 = x % 256; omega)]))
                        intro gb539 hg w54 hbox hb
                        replace HO_5 := zMk (zRb (uR HO_5.out) hb)
                        replace HO_6 := zMk (zRb (uR HO_6.out) hb)
                        have BK539 := zMk (hbox)
                        have GW539 := zMk ((by rw [hg]; exact (zBs (uT HB.out)) : w.heap.size ≤ gb539))
                        have GE539 := zMk ((by rw [hg]; exact (zBs (uT HB.out)) : w.heap.size ≤ gb539))
                        have IGE539 := ownGe GE539.out
                        replace HB := zMk (zBt (uT HB.out) hb)
                        have NB516_539 := zMk ((by rw [hg]; exact Nat.ne_of_lt (blk_lt BK516.out) : gb516 ≠ gb539))
                        have NB539_516 := zMk ((by rw [hg]; exact Nat.ne_of_gt (blk_lt BK516.out) : gb539 ≠ gb516))
                        replace BK516 := zMk (zKb BK516.out hb)
                        clear hb hbox hg
                        refine hK.out _ _ ⟨(zKc BK516.out 0).trans rfl, (zKc BK516.out 1).trans rfl⟩ (fun hHeld => ?_)
                        clear hK K
                        refine norm_ (a' := ?_) ?_ ?_
                        rotate_left
                        ·show Act.put _ (some 9) _ = _
                         simp only [Act.put, zSa, zSb, zSc, i64_w, i32_w]
                         rfl
                        exact norm_ (by first | (simp only [putAll, Act.put, zSa, zSb, zSc]; done) | (simp only [putAll, Act.put, zSa, zSb, zSc]; rfl)) (hJ7 (gb539) _ ⟨hHeld, (uR HO_5.out), (uR HO_6.out), BK516.out, BK539.out, GW539.out, GE539.out, NB516_539.out, NB539_516.out, (uT HB.out)⟩)
                      ·skip
                       rintro gb539 w55 ⟨hS_, h0_, h1_, h2_, h3_, h4_, h5_, h6_, h7_, h8_⟩
                       have n0_ : Aside0 (Kd.R (Kd.int .i64) 3 w55 w.heap.size (fun k_ => some k_ ≠ (.slice Ao52 x6_2.length co52 : Value).ownBlock) (.slice Ao51 x5_2.length co51) x5_2) := ⟨h0_⟩
                       have n1_ : Aside0 (Kd.R (Kd.int .i64) 3 w55 w.heap.size (fun k_ => some k_ ≠ (.slice Ao51 x5_2.length co51 : Value).ownBlock) (.slice Ao52 x6_2.length co52) x6_2) := ⟨h1_⟩
                       have n2_ : Aside0 (w55.heap[gb516]? = some (.cells #[.int .i64 a0_0, .slice A0_1 l0_1.length c0_1] 24 (0, 0))) := ⟨h2_⟩
                       have n3_ : Aside0 (w55.heap[gb539]? = some (.cells #[.int .i64 0, .slice none 0 0] 24 (0, 0))) := ⟨h3_⟩
                       have n4_ : Aside0 (w.heap.size ≤ gb539) := ⟨h4_⟩
                       have n5_ : Aside0 (w.heap.size ≤ gb539) := ⟨h5_⟩
                       have n6_ : Aside0 (gb516 ≠ gb539) := ⟨h6_⟩
                       have n7_ : Aside0 (gb539 ≠ gb516) := ⟨h7_⟩
                       have n8_ : Aside0 (Below w.heap.size w w55) := ⟨h8_⟩
                       clear HO_5 HO_6 BK516 HB h0_ h1_ h2_ h3_ h4_ h5_ h6_ h7_ h8_
                       have HO_5 := n0_
                       have HO_6 := n1_
                       have BK516 := n2_
                       have BK539 := n3_
                       have GW539 := n4_
                       have GE539 := n5_
                       have IGE539 := ownGe GE539.out
                       have NB516_539 := n6_
                       have NB539_516 := n7_
                       have HB := n8_
                       clear n0_ n1_ n2_ n3_ n4_ n5_ n6_ n7_ n8_
                       have hHeld : w55.cell? ⟨gb516, 0, none⟩ = some (.int .i64 a0_0) ∧ w55.cell? ⟨gb516, 1, none⟩ = some (.slice A0_1 l0_1.length c0_1) := hS_
                       refine norm_ (a' := ?_) ?_ ?_
                       rotate_left
                       ·simp only [putAll, Act.put, zSa, zSb, zSc]
                        rfl
                       refine two_ (i := 2) (j := 6) (Ni := some 54) (Nj := some 8) #[true, true, true, true, true, false, false, true, false, false] #[true, true, false, true, true, false, true, true, false, false] rfl rfl rfl rfl (two_of HT_.out (by kernel_rfl)) (by decide) (by decide) (fun K hK => ?_) (fun K hK => ?_)
                       ·skip
                        refine goes_ Try.func22 (by kernel_rfl) rfl #[.agg #[.int .i64 a0_0, .slice A0_1 l0_1.length c0_1], .slice Ao51 x5_2.length co51] (by rfl) rfl rfl (by (try simp only [zMa, zMc, zMn]); first | done | rfl | (simp only [zLd, zLt]; rfl)) ?_
                        with_reducible refine (graph_Less.calls k2 a0_0 _ _ l0_1 _ _ x5_2 t530 t531 _ ?side1 ?side2 ?side3 ?side4 A31.out).mono ?_
                        (case side1 => repeat (first | exact (Kd.C_below HR0_1.out HB.out) | (with_reducible refine zCa ?_ _) | (with_reducible refine zCn ?_ _) | (with_reducible refine zCd ?_)))
                        (case side2 => exact HC0_1.out)
                        (case side3 => exact uC (zRr HO_5.out).2.2)
                        (case side4 => exact (zRr HO_5.out).2.1)
                        rintro e w56 ⟨v532, rfl, ho0, hb⟩
                        refine ⟨_, rfl, ?_⟩
                        replace HO_5 := zMk (zRb (uR HO_5.out) hb)
                        replace HO_6 := zMk (zRb (uR HO_6.out) hb)
                        have HO533 := zMk (zRl ho0 (zBs (uT HB.out)))
                        replace BK516 := zMk (zKb BK516.out hb)
                        replace BK539 := zMk (zKb BK539.out hb)
                        replace HB := zMk (zBt (uT HB.out) hb)
                        refine hK.out _ _ ⟨(zKc BK516.out 0).trans rfl, (zKc BK516.out 1).trans rfl⟩ (fun hHeld => ?_)
                        clear hK K
                        refine norm_ (a' := ?_) ?_ ?_
                        rotate_left
                        ·show Act.put _ (some 54) _ = _
                         simp only [Act.put, zSa, zSb, zSc, i64_w, i32_w]
                         rfl
                        exact norm_ (by first | (simp only [putAll, Act.put, zSa, zSb, zSc]; done) | (simp only [putAll, Act.put, zSa, zSb, zSc]; rfl)) (hJ2_7 (v532, gb539) _ ⟨hHeld, (uR HO533.out), (uR HO_5.out), (uR HO_6.out), BK516.out, BK539.out, GW539.out, GE539.out, NB516_539.out, NB539_516.out, (uT HB.out)⟩)
                       ·skip
                        refine box_step ?hg (N := 8) ?hd (cs := #[.int .i64 0, .slice none 0 0]) (t := 24) ?hr ?_; (case hd => rfl); (case hg => rfl); (case hr => first | (go_simp; done) | (go_simp; rfl) | (go_simp; rw [show ∀ x : Int, IntKind.u32.wrap (IntKind.u8.wrap x) = x % 256 from fun x => (by show (x % 256) % 4294967296 = x % 256; omega)]))
                        intro gb538 hg w56 hbox hb
                        replace HO_5 := zMk (zRb (uR HO_5.out) hb)
                        replace HO_6 := zMk (zRb (uR HO_6.out) hb)
                        have BK538 := zMk (hbox)
                        have GW538 := zMk ((by rw [hg]; exact (zBs (uT HB.out)) : w.heap.size ≤ gb538))
                        have GE538 := zMk ((by rw [hg]; exact (zBs (uT HB.out)) : w.heap.size ≤ gb538))
                        have IGE538 := ownGe GE538.out
                        replace HB := zMk (zBt (uT HB.out) hb)
                        have NB516_538 := zMk ((by rw [hg]; exact Nat.ne_of_lt (blk_lt BK516.out) : gb516 ≠ gb538))
                        have NB538_516 := zMk ((by rw [hg]; exact Nat.ne_of_gt (blk_lt BK516.out) : gb538 ≠ gb516))
                        replace BK516 := zMk (zKb BK516.out hb)
                        have NB539_538 := zMk ((by rw [hg]; exact Nat.ne_of_lt (blk_lt BK539.out) : gb539 ≠ gb538))
                        have NB538_539 := zMk ((by rw [hg]; exact Nat.ne_of_gt (blk_lt BK539.out) : gb538 ≠ gb539))
                        replace BK539 := zMk (zKb BK539.out hb)
                        clear hb hbox hg
                        refine hK.out _ _ ⟨(zKc BK516.out 0).trans rfl, (zKc BK516.out 1).trans rfl⟩ (fun hHeld => ?_)
                        clear hK K
                        refine norm_ (a' := ?_) ?_ ?_
                        rotate_left
                        ·show Act.put _ (some 8) _ = _
                         simp only [Act.put, zSa, zSb, zSc, i64_w, i32_w]
                         rfl
                        exact norm_ (by first | (simp only [putAll, Act.put, zSa, zSb, zSc]; done) | (simp only [putAll, Act.put, zSa, zSb, zSc]; rfl)) (hJ6_7 (gb538, gb539) _ ⟨hHeld, (uR HO_5.out), (uR HO_6.out), BK516.out, BK538.out, BK539.out, GW538.out, GE538.out, NB516_538.out, NB538_516.out, NB539_538.out, NB538_539.out, GW539.out, GE539.out, NB516_539.out, NB539_516.out, (uT HB.out)⟩)
                     ·skip
                      rintro gb538 w55 ⟨hS_, h0_, h1_, h2_, h3_, h4_, h5_, h6_, h7_, h8_⟩
                      have n0_ : Aside0 (Kd.R (Kd.int .i64) 3 w55 w.heap.size (fun k_ => some k_ ≠ (.slice Ao52 x6_2.length co52 : Value).ownBlock) (.slice Ao51 x5_2.length co51) x5_2) := ⟨h0_⟩
                      have n1_ : Aside0 (Kd.R (Kd.int .i64) 3 w55 w.heap.size (fun k_ => some k_ ≠ (.slice Ao51 x5_2.length co51 : Value).ownBlock) (.slice Ao52 x6_2.length co52) x6_2) := ⟨h1_⟩
                      have n2_ : Aside0 (w55.heap[gb516]? = some (.cells #[.int .i64 a0_0, .slice A0_1 l0_1.length c0_1] 24 (0, 0))) := ⟨h2_⟩
                      have n3_ : Aside0 (w55.heap[gb538]? = some (.cells #[.int .i64 0, .slice none 0 0] 24 (0, 0))) := ⟨h3_⟩
                      have n4_ : Aside0 (w.heap.size ≤ gb538) := ⟨h4_⟩
                      have n5_ : Aside0 (w.heap.size ≤ gb538) := ⟨h5_⟩
                      have n6_ : Aside0 (gb516 ≠ gb538) := ⟨h6_⟩
                      have n7_ : Aside0 (gb538 ≠ gb516) := ⟨h7_⟩
                      have n8_ : Aside0 (Below w.heap.size w w55) := ⟨h8_⟩
                      clear HO_5 HO_6 BK516 HB h0_ h1_ h2_ h3_ h4_ h5_ h6_ h7_ h8_
                      have HO_5 := n0_
                      have HO_6 := n1_
                      have BK516 := n2_
                      have BK538 := n3_
                      have GW538 := n4_
                      have GE538 := n5_
                      have IGE538 := ownGe GE538.out
                      have NB516_538 := n6_
                      have NB538_516 := n7_
                      have HB := n8_
                      clear n0_ n1_ n2_ n3_ n4_ n5_ n6_ n7_ n8_
                      have hHeld : w55.cell? ⟨gb516, 0, none⟩ = some (.int .i64 a0_0) ∧ w55.cell? ⟨gb516, 1, none⟩ = some (.slice A0_1 l0_1.length c0_1) := hS_
                      refine norm_ (a' := ?_) ?_ ?_
                      rotate_left
                      ·simp only [putAll, Act.put, zSa, zSb, zSc]
                       rfl
                      refine two_ (i := 2) (j := 7) (Ni := some 54) (Nj := some 9) #[true, true, true, true, true, false, true, false, false, false] #[true, true, false, true, true, false, true, true, false, false] rfl rfl rfl rfl (two_of HT_.out (by kernel_rfl)) (by decide) (by decide) (fun K hK => ?_) (fun K hK => ?_)
                      ·skip
                       refine goes_ Try.func22 (by kernel_rfl) rfl #[.agg #[.int .i64 a0_0, .slice A0_1 l0_1.length c0_1], .slice Ao51 x5_2.length co51] (by rfl) rfl rfl (by (try simp only [zMa, zMc, zMn]); first | done | rfl | (simp only [zLd, zLt]; rfl)) ?_
                       with_reducible refine (graph_Less.calls k2 a0_0 _ _ l0_1 _ _ x5_2 t530 t531 _ ?side1 ?side2 ?side3 ?side4 A31.out).mono ?_
                       (case side1 => repeat (first | exact (Kd.C_below HR0_1.out HB.out) | (with_reducible refine zCa ?_ _) | (with_reducible refine zCn ?_ _) | (with_reducible refine zCd ?_)))
                       (case side2 => exact HC0_1.out)
                       (case side3 => exact uC (zRr HO_5.out).2.2)
                       (case side4 => exact (zRr HO_5.out).2.1)
                       rintro e w56 ⟨v532, rfl, ho0, hb⟩
                       refine ⟨_, rfl, ?_⟩
                       replace HO_5 := zMk (zRb (uR HO_5.out) hb)
                       replace HO_6 := zMk (zRb (uR HO_6.out) hb)
                       have HO533 := zMk (zRl ho0 (zBs (uT HB.out)))
                       replace BK516 := zMk (zKb BK516.out hb)
                       replace BK538 := zMk (zKb BK538.out hb)
                       replace HB := zMk (zBt (uT HB.out) hb)
                       refine hK.out _ _ ⟨(zKc BK516.out 0).trans rfl, (zKc BK516.out 1).trans rfl⟩ (fun hHeld => ?_)
                       clear hK K
                       refine norm_ (a' := ?_) ?_ ?_
                       rotate_left
                       ·show Act.put _ (some 54) _ = _
                        simp only [Act.put, zSa, zSb, zSc, i64_w, i32_w]
                        rfl
                       exact norm_ (by first | (simp only [putAll, Act.put, zSa, zSb, zSc]; done) | (simp only [putAll, Act.put, zSa, zSb, zSc]; rfl)) (hJ2_6 (v532, gb538) _ ⟨hHeld, (uR HO533.out), (uR HO_5.out), (uR HO_6.out), BK516.out, BK538.out, GW538.out, GE538.out, NB516_538.out, NB538_516.out, (uT HB.out)⟩)
                      ·skip
                       refine box_step ?hg (N := 9) ?hd (cs := #[.int .i64 0, .slice none 0 0]) (t := 24) ?hr ?_; (case hd => rfl); (case hg => rfl); (case hr => first | (go_simp; done) | (go_simp; rfl) | (go_simp; rw [show ∀ x : Int, IntKind.u32.wrap (IntKind.u8.wrap x) = x % 256 from fun x => (by show (x % 256) % 4294967296 = x % 256; omega)]))
                       intro gb539 hg w56 hbox hb
                       replace HO_5 := zMk (zRb (uR HO_5.out) hb)
                       replace HO_6 := zMk (zRb (uR HO_6.out) hb)
                       have BK539 := zMk (hbox)
                       have GW539 := zMk ((by rw [hg]; exact (zBs (uT HB.out)) : w.heap.size ≤ gb539))
                       have GE539 := zMk ((by rw [hg]; exact (zBs (uT HB.out)) : w.heap.size ≤ gb539))
                       have IGE539 := ownGe GE539.out
                       replace HB := zMk (zBt (uT HB.out) hb)
                       have NB516_539 := zMk ((by rw [hg]; exact Nat.ne_of_lt (blk_lt BK516.out) : gb516 ≠ gb539))
                       have NB539_516 := zMk ((by rw [hg]; exact Nat.ne_of_gt (blk_lt BK516.out) : gb539 ≠ gb516))
                       replace BK516 := zMk (zKb BK516.out hb)
                       have NB538_539 := zMk ((by rw [hg]; exact Nat.ne_of_lt (blk_lt BK538.out) : gb538 ≠ gb539))
                       have NB539_538 := zMk ((by rw [hg]; exact Nat.ne_of_gt (blk_lt BK538.out) : gb539 ≠ gb538))
                       replace BK538 := zMk (zKb BK538.out hb)
                       clear hb hbox hg
                       refine hK.out _ _ ⟨(zKc BK516.out 0).trans rfl, (zKc BK516.out 1).trans rfl⟩ (fun hHeld => ?_)
                       clear hK K
                       refine norm_ (a' := ?_) ?_ ?_
                       rotate_left
                       ·show Act.put _ (some 9) _ = _
                        simp only [Act.put, zSa, zSb, zSc, i64_w, i32_w]
                        rfl
                       exact norm_ (by first | (simp only [putAll, Act.put, zSa, zSb, zSc]; done) | (simp only [putAll, Act.put, zSa, zSb, zSc]; rfl)) (hJ6_7 (gb538, gb539) _ ⟨hHeld, (uR HO_5.out), (uR HO_6.out), BK516.out, BK538.out, BK539.out, GW538.out, GE538.out, NB516_538.out, NB538_516.out, NB539_538.out, NB538_539.out, GW539.out, GE539.out, NB516_539.out, NB539_516.out, (uT HB.out)⟩)
                    ·skip
                     rintro v532 w55 ⟨hS_, h0_, h1_, h2_, h3_, h4_⟩
                     have n0_ : Aside0 (Kd.R k36 36 w55 w.heap.size (fun _ => True) v532 t531) := ⟨h0_⟩
                     have n1_ : Aside0 (Kd.R (Kd.int .i64) 3 w55 w.heap.size (fun k_ => some k_ ≠ (.slice Ao52 x6_2.length co52 : Value).ownBlock) (.slice Ao51 x5_2.length co51) x5_2) := ⟨h1_⟩
                     have n2_ : Aside0 (Kd.R (Kd.int .i64) 3 w55 w.heap.size (fun k_ => some k_ ≠ (.slice Ao51 x5_2.length co51 : Value).ownBlock) (.slice Ao52 x6_2.length co52) x6_2) := ⟨h2_⟩
                     have n3_ : Aside0 (w55.heap[gb516]? = some (.cells #[.int .i64 a0_0, .slice A0_1 l0_1.length c0_1] 24 (0, 0))) := ⟨h3_⟩
                     have n4_ : Aside0 (Below w.heap.size w w55) := ⟨h4_⟩
                     clear HO_5 HO_6 BK516 HB h0_ h1_ h2_ h3_ h4_
                     have HO533 := n0_
                     have HO_5 := n1_
                     have HO_6 := n2_
                     have BK516 := n3_
                     have HB := n4_
                     clear n0_ n1_ n2_ n3_ n4_
                     have hHeld : w55.cell? ⟨gb516, 0, none⟩ = some (.int .i64 a0_0) ∧ w55.cell? ⟨gb516, 1, none⟩ = some (.slice A0_1 l0_1.length c0_1) := hS_
                     refine norm_ (a' := ?_) ?_ ?_
                     rotate_left
                     ·simp only [putAll, Act.put, zSa, zSb, zSc]
                      rfl
                     refine three_ (i := 5) (j := 6) (k := 7) (Ni := some 57) (Nj := some 8) (Nk := some 9) #[true, true, true, true, true, true, false, false, false, false] #[true, true, true, true, true, false, true, false, false, false] #[true, true, true, true, true, false, false, true, false, false] rfl rfl rfl rfl rfl rfl (three_of HT_.out (by kernel_rfl)) (by decide) (by decide) (by decide) (fun K hK => ?_) (fun K hK => ?_) (fun K hK => ?_)
                     ·skip
                      refine goes_ Try.func22 (by kernel_rfl) rfl #[.agg #[.int .i64 a0_0, .slice A0_1 l0_1.length c0_1], .slice Ao52 x6_2.length co52] (by rfl) rfl rfl (by (try simp only [zMa, zMc, zMn]); first | done | rfl | (simp only [zLd, zLt]; rfl)) ?_
                      with_reducible refine (graph_Less.calls k2 a0_0 _ _ l0_1 _ _ x6_2 t534 t535 _ ?side1 ?side2 ?side3 ?side4 A32.out).mono ?_
                      (case side1 => repeat (first | exact (Kd.C_below HR0_1.out HB.out) | (with_reducible refine zCa ?_ _) | (with_reducible refine zCn ?_ _) | (with_reducible refine zCd ?_)))
                      (case side2 => exact HC0_1.out)
                      (case side3 => exact uC (zRr HO_6.out).2.2)
                      (case side4 => exact (zRr HO_6.out).2.1)
                      rintro e w56 ⟨v536, rfl, ho0, hb⟩
                      refine ⟨_, rfl, ?_⟩
                      replace HO_5 := zMk (zRb (uR HO_5.out) hb)
                      replace HO_6 := zMk (zRb (uR HO_6.out) hb)
                      have HO537 := zMk (zRl (zRw ho0 (zRt (uR HO533.out))) (zBs (uT HB.out)))
                      replace HO533 := zMk (zRe (uR HO533.out) (zRz ho0) hb)
                      replace BK516 := zMk (zKb BK516.out hb)
                      replace HB := zMk (zBt (uT HB.out) hb)
                      refine hK.out _ _ ⟨(zKc BK516.out 0).trans rfl, (zKc BK516.out 1).trans rfl⟩ (fun hHeld => ?_)
                      clear hK K
                      refine norm_ (a' := ?_) ?_ ?_
                      rotate_left
                      ·show Act.put _ (some 57) _ = _
                       simp only [Act.put, zSa, zSb, zSc, i64_w, i32_w]
                       rfl
                      exact norm_ (by first | (simp only [putAll, Act.put, zSa, zSb, zSc]; done) | (simp only [putAll, Act.put, zSa, zSb, zSc]; rfl)) (hJ2_5 (v532, v536) _ ⟨hHeld, (zRm HO533.out (fun _ hk => hk.2)), (zRm HO537.out (fun _ hk => hk.2)), (uR HO_5.out), (uR HO_6.out), BK516.out, (uT HB.out)⟩)
                     ·skip
                      refine box_step ?hg (N := 8) ?hd (cs := #[.int .i64 0, .slice none 0 0]) (t := 24) ?hr ?_; (case hd => rfl); (case hg => rfl); (case hr => first | (go_simp; done) | (go_simp; rfl) | (go_simp; rw [show ∀ x : Int, IntKind.u32.wrap (IntKind.u8.wrap x) = x % 256 from fun x => (by show (x % 256) % 4294967296 = x % 256; omega)]))
                      intro gb538 hg w56 hbox hb
                      replace HO_5 := zMk (zRb (uR HO_5.out) hb)
                      replace HO_6 := zMk (zRb (uR HO_6.out) hb)
                      replace HO533 := zMk (zRb (uR HO533.out) hb)
                      have BK538 := zMk (hbox)
                      have GW538 := zMk ((by rw [hg]; exact (zBs (uT HB.out)) : w.heap.size ≤ gb538))
                      have GE538 := zMk ((by rw [hg]; exact (zBs (uT HB.out)) : w.heap.size ≤ gb538))
                      have IGE538 := ownGe GE538.out
                      replace HB := zMk (zBt (uT HB.out) hb)
                      have NB516_538 := zMk ((by rw [hg]; exact Nat.ne_of_lt (blk_lt BK516.out) : gb516 ≠ gb538))
                      have NB538_516 := zMk ((by rw [hg]; exact Nat.ne_of_gt (blk_lt BK516.out) : gb538 ≠ gb516))
                      replace BK516 := zMk (zKb BK516.out hb)
                      clear hb hbox hg
                      refine hK.out _ _ ⟨(zKc BK516.out 0).trans rfl, (zKc BK516.out 1).trans rfl⟩ (fun hHeld => ?_)
                      clear hK K
                      refine norm_ (a' := ?_) ?_ ?_
                      rotate_left
                      ·show Act.put _ (some 8) _ = _
                       simp only [Act.put, zSa, zSb, zSc, i64_w, i32_w]
                       rfl
                      exact norm_ (by first | (simp only [putAll, Act.put, zSa, zSb, zSc]; done) | (simp only [putAll, Act.put, zSa, zSb, zSc]; rfl)) (hJ2_6 (v532, gb538) _ ⟨hHeld, (uR HO533.out), (uR HO_5.out), (uR HO_6.out), BK516.out, BK538.out, GW538.out, GE538.out, NB516_538.out, NB538_516.out, (uT HB.out)⟩)
                     ·skip
                      refine box_step ?hg (N := 9) ?hd (cs := #[.int .i64 0, .slice none 0 0]) (t := 24) ?hr ?_; (case hd => rfl); (case hg => rfl); (case hr => first | (go_simp; done) | (go_simp; rfl) | (go_simp; rw [show ∀ x : Int, IntKind.u32.wrap (IntKind.u8.wrap x) = x % 256 from fun x => (by show (x % 256) % 4294967296 = x % 256; omega)]))
                      intro gb539 hg w56 hbox hb
                      replace HO_5 := zMk (zRb (uR HO_5.out) hb)
                      replace HO_6 := zMk (zRb (uR HO_6.out) hb)
                      replace HO533 := zMk (zRb (uR HO533.out) hb)
                      have BK539 := zMk (hbox)
                      have GW539 := zMk ((by rw [hg]; exact (zBs (uT HB.out)) : w.heap.size ≤ gb539))
                      have GE539 := zMk ((by rw [hg]; exact (zBs (uT HB.out)) : w.heap.size ≤ gb539))
                      have IGE539 := ownGe GE539.out
                      replace HB := zMk (zBt (uT HB.out) hb)
                      have NB516_539 := zMk ((by rw [hg]; exact Nat.ne_of_lt (blk_lt BK516.out) : gb516 ≠ gb539))
                      have NB539_516 := zMk ((by rw [hg]; exact Nat.ne_of_gt (blk_lt BK516.out) : gb539 ≠ gb516))
                      replace BK516 := zMk (zKb BK516.out hb)
                      clear hb hbox hg
                      refine hK.out _ _ ⟨(zKc BK516.out 0).trans rfl, (zKc BK516.out 1).trans rfl⟩ (fun hHeld => ?_)
                      clear hK K
                      refine norm_ (a' := ?_) ?_ ?_
                      rotate_left
                      ·show Act.put _ (some 9) _ = _
                       simp only [Act.put, zSa, zSb, zSc, i64_w, i32_w]
                       rfl
                      exact norm_ (by first | (simp only [putAll, Act.put, zSa, zSb, zSc]; done) | (simp only [putAll, Act.put, zSa, zSb, zSc]; rfl)) (hJ2_7 (v532, gb539) _ ⟨hHeld, (uR HO533.out), (uR HO_5.out), (uR HO_6.out), BK516.out, BK539.out, GW539.out, GE539.out, NB516_539.out, NB539_516.out, (uT HB.out)⟩)
                   ·skip
                    rintro ⟨gb538, gb539⟩ w56 ⟨hS_, h0_, h1_, h2_, h3_, h4_, h5_, h6_, h7_, h8_, h9_, h10_, h11_, h12_, h13_, h14_, h15_⟩
                    have n0_ : Aside0 (Kd.R (Kd.int .i64) 3 w56 w.heap.size (fun k_ => some k_ ≠ (.slice Ao52 x6_2.length co52 : Value).ownBlock) (.slice Ao51 x5_2.length co51) x5_2) := ⟨h0_⟩
                    have n1_ : Aside0 (Kd.R (Kd.int .i64) 3 w56 w.heap.size (fun k_ => some k_ ≠ (.slice Ao51 x5_2.length co51 : Value).ownBlock) (.slice Ao52 x6_2.length co52) x6_2) := ⟨h1_⟩
                    have n2_ : Aside0 (w56.heap[gb516]? = some (.cells #[.int .i64 a0_0, .slice A0_1 l0_1.length c0_1] 24 (0, 0))) := ⟨h2_⟩
                    have n3_ : Aside0 (w56.heap[gb538]? = some (.cells #[.int .i64 0, .slice none 0 0] 24 (0, 0))) := ⟨h3_⟩
                    have n4_ : Aside0 (w56.heap[gb539]? = some (.cells #[.int .i64 0, .slice none 0 0] 24 (0, 0))) := ⟨h4_⟩
                    have n5_ : Aside0 (w.heap.size ≤ gb538) := ⟨h5_⟩
                    have n6_ : Aside0 (w.heap.size ≤ gb538) := ⟨h6_⟩
                    have n7_ : Aside0 (gb516 ≠ gb538) := ⟨h7_⟩
                    have n8_ : Aside0 (gb538 ≠ gb516) := ⟨h8_⟩
                    have n9_ : Aside0 (gb539 ≠ gb538) := ⟨h9_⟩
                    have n10_ : Aside0 (gb538 ≠ gb539) := ⟨h10_⟩
                    have n11_ : Aside0 (w.heap.size ≤ gb539) := ⟨h11_⟩
                    have n12_ : Aside0 (w.heap.size ≤ gb539) := ⟨h12_⟩
                    have n13_ : Aside0 (gb516 ≠ gb539) := ⟨h13_⟩
                    have n14_ : Aside0 (gb539 ≠ gb516) := ⟨h14_⟩
                    have n15_ : Aside0 (Below w.heap.size w w56) := ⟨h15_⟩
                    clear HO_5 HO_6 BK516 HB h0_ h1_ h2_ h3_ h4_ h5_ h6_ h7_ h8_ h9_ h10_ h11_ h12_ h13_ h14_ h15_
                    have HO_5 := n0_
                    have HO_6 := n1_
                    have BK516 := n2_
                    have BK538 := n3_
                    have BK539 := n4_
                    have GW538 := n5_
                    have GE538 := n6_
                    have IGE538 := ownGe GE538.out
                    have NB516_538 := n7_
                    have NB538_516 := n8_
                    have NB539_538 := n9_
                    have NB538_539 := n10_
                    have GW539 := n11_
                    have GE539 := n12_
                    have IGE539 := ownGe GE539.out
                    have NB516_539 := n13_
                    have NB539_516 := n14_
                    have HB := n15_
                    clear n0_ n1_ n2_ n3_ n4_ n5_ n6_ n7_ n8_ n9_ n10_ n11_ n12_ n13_ n14_ n15_
                    have hHeld : w56.cell? ⟨gb516, 0, none⟩ = some (.int .i64 a0_0) ∧ w56.cell? ⟨gb516, 1, none⟩ = some (.slice A0_1 l0_1.length c0_1) := hS_
                    refine norm_ (a' := ?_) ?_ ?_
                    rotate_left
                    ·simp only [putAll, Act.put, zSa, zSb, zSc]
                     rfl
                    refine one_ (i := 2) (N := some 54) #[true, true, true, true, true, false, true, true, false, false] rfl rfl (one_of HT_.out (by kernel_rfl)) (by decide) (fun K hK => ?_)
                    refine goes_ Try.func22 (by kernel_rfl) rfl #[.agg #[.int .i64 a0_0, .slice A0_1 l0_1.length c0_1], .slice Ao51 x5_2.length co51] (by rfl) rfl rfl (by (try simp only [zMa, zMc, zMn]); first | done | rfl | (simp only [zLd, zLt]; rfl)) ?_
                    with_reducible refine (graph_Less.calls k2 a0_0 _ _ l0_1 _ _ x5_2 t530 t531 _ ?side1 ?side2 ?side3 ?side4 A31.out).mono ?_
                    (case side1 => repeat (first | exact (Kd.C_below HR0_1.out HB.out) | (with_reducible refine zCa ?_ _) | (with_reducible refine zCn ?_ _) | (with_reducible refine zCd ?_)))
                    (case side2 => exact HC0_1.out)
                    (case side3 => exact uC (zRr HO_5.out).2.2)
                    (case side4 => exact (zRr HO_5.out).2.1)
                    rintro e w57 ⟨v532, rfl, ho0, hb⟩
                    refine ⟨_, rfl, ?_⟩
                    replace HO_5 := zMk (zRb (uR HO_5.out) hb)
                    replace HO_6 := zMk (zRb (uR HO_6.out) hb)
                    have HO533 := zMk (zRl ho0 (zBs (uT HB.out)))
                    replace BK516 := zMk (zKb BK516.out hb)
                    replace BK538 := zMk (zKb BK538.out hb)
                    replace BK539 := zMk (zKb BK539.out hb)
                    replace HB := zMk (zBt (uT HB.out) hb)
                    refine hK.out _ _ ⟨(zKc BK516.out 0).trans rfl, (zKc BK516.out 1).trans rfl⟩ (fun hHeld => ?_)
                    clear hK K
                    refine norm_ (a' := ?_) ?_ ?_
                    rotate_left
                    ·show Act.put _ (some 54) _ = _
                     simp only [Act.put, zSa, zSb, zSc, i64_w, i32_w]
                     rfl
                    exact norm_ (by first | (simp only [putAll, Act.put, zSa, zSb, zSc]; done) | (simp only [putAll, Act.put, zSa, zSb, zSc]; rfl)) (hJ2_6_7 (v532, gb538, gb539) _ ⟨hHeld, (uR HO533.out), (uR HO_5.out), (uR HO_6.out), BK516.out, BK538.out, BK539.out, GW538.out, GE538.out, NB516_538.out, NB538_516.out, NB539_538.out, NB538_539.out, GW539.out, GE539.out, NB516_539.out, NB539_516.out, (uT HB.out)⟩)
                  ·skip
                   rintro ⟨v532, gb539⟩ w56 ⟨hS_, h0_, h1_, h2_, h3_, h4_, h5_, h6_, h7_, h8_, h9_⟩
                   have n0_ : Aside0 (Kd.R k36 36 w56 w.heap.size (fun _ => True) v532 t531) := ⟨h0_⟩
                   have n1_ : Aside0 (Kd.R (Kd.int .i64) 3 w56 w.heap.size (fun k_ => some k_ ≠ (.slice Ao52 x6_2.length co52 : Value).ownBlock) (.slice Ao51 x5_2.length co51) x5_2) := ⟨h1_⟩
                   have n2_ : Aside0 (Kd.R (Kd.int .i64) 3 w56 w.heap.size (fun k_ => some k_ ≠ (.slice Ao51 x5_2.length co51 : Value).ownBlock) (.slice Ao52 x6_2.length co52) x6_2) := ⟨h2_⟩
                   have n3_ : Aside0 (w56.heap[gb516]? = some (.cells #[.int .i64 a0_0, .slice A0_1 l0_1.length c0_1] 24 (0, 0))) := ⟨h3_⟩
                   have n4_ : Aside0 (w56.heap[gb539]? = some (.cells #[.int .i64 0, .slice none 0 0] 24 (0, 0))) := ⟨h4_⟩
                   have n5_ : Aside0 (w.heap.size ≤ gb539) := ⟨h5_⟩
                   have n6_ : Aside0 (w.heap.size ≤ gb539) := ⟨h6_⟩
                   have n7_ : Aside0 (gb516 ≠ gb539) := ⟨h7_⟩
                   have n8_ : Aside0 (gb539 ≠ gb516) := ⟨h8_⟩
                   have n9_ : Aside0 (Below w.heap.size w w56) := ⟨h9_⟩
                   clear HO_5 HO_6 BK516 HB h0_ h1_ h2_ h3_ h4_ h5_ h6_ h7_ h8_ h9_
                   have HO533 := n0_
                   have HO_5 := n1_
                   have HO_6 := n2_
                   have BK516 := n3_
                   have BK539 := n4_
                   have GW539 := n5_
                   have GE539 := n6_
                   have IGE539 := ownGe GE539.out
                   have NB516_539 := n7_
                   have NB539_516 := n8_
                   have HB := n9_
                   clear n0_ n1_ n2_ n3_ n4_ n5_ n6_ n7_ n8_ n9_
                   have hHeld : w56.cell? ⟨gb516, 0, none⟩ = some (.int .i64 a0_0) ∧ w56.cell? ⟨gb516, 1, none⟩ = some (.slice A0_1 l0_1.length c0_1) := hS_
                   refine norm_ (a' := ?_) ?_ ?_
                   rotate_left
                   ·simp only [putAll, Act.put, zSa, zSb, zSc]
                    rfl
                   refine two_ (i := 5) (j := 6) (Ni := some 57) (Nj := some 8) #[true, true, true, true, true, true, false, true, false, false] #[true, true, true, true, true, false, true, true, false, false] rfl rfl rfl rfl (two_of HT_.out (by kernel_rfl)) (by decide) (by decide) (fun K hK => ?_) (fun K hK => ?_)
                   ·skip
                    refine goes_ Try.func22 (by kernel_rfl) rfl #[.agg #[.int .i64 a0_0, .slice A0_1 l0_1.length c0_1], .slice Ao52 x6_2.length co52] (by rfl) rfl rfl (by (try simp only [zMa, zMc, zMn]); first | done | rfl | (simp only [zLd, zLt]; rfl)) ?_
                    with_reducible refine (graph_Less.calls k2 a0_0 _ _ l0_1 _ _ x6_2 t534 t535 _ ?side1 ?side2 ?side3 ?side4 A32.out).mono ?_
                    (case side1 => repeat (first | exact (Kd.C_below HR0_1.out HB.out) | (with_reducible refine zCa ?_ _) | (with_reducible refine zCn ?_ _) | (with_reducible refine zCd ?_)))
                    (case side2 => exact HC0_1.out)
                    (case side3 => exact uC (zRr HO_6.out).2.2)
                    (case side4 => exact (zRr HO_6.out).2.1)
                    rintro e w57 ⟨v536, rfl, ho0, hb⟩
                    refine ⟨_, rfl, ?_⟩
                    replace HO_5 := zMk (zRb (uR HO_5.out) hb)
                    replace HO_6 := zMk (zRb (uR HO_6.out) hb)
                    have HO537 := zMk (zRl (zRw ho0 (zRt (uR HO533.out))) (zBs (uT HB.out)))
                    replace HO533 := zMk (zRe (uR HO533.out) (zRz ho0) hb)
                    replace BK516 := zMk (zKb BK516.out hb)
                    replace BK539 := zMk (zKb BK539.out hb)
                    replace HB := zMk (zBt (uT HB.out) hb)
                    refine hK.out _ _ ⟨(zKc BK516.out 0).trans rfl, (zKc BK516.out 1).trans rfl⟩ (fun hHeld => ?_)
                    clear hK K
                    refine norm_ (a' := ?_) ?_ ?_
                    rotate_left
                    ·show Act.put _ (some 57) _ = _
                     simp only [Act.put, zSa, zSb, zSc, i64_w, i32_w]
                     rfl
                    exact norm_ (by first | (simp only [putAll, Act.put, zSa, zSb, zSc]; done) | (simp only [putAll, Act.put, zSa, zSb, zSc]; rfl)) (hJ2_5_7 (v532, v536, gb539) _ ⟨hHeld, (zRm HO533.out (fun _ hk => hk.2)), (zRm HO537.out (fun _ hk => hk.2)), (uR HO_5.out), (uR HO_6.out), BK516.out, BK539.out, GW539.out, GE539.out, NB516_539.out, NB539_516.out, (uT HB.out)⟩)
                   ·skip
                    refine box_step ?hg (N := 8) ?hd (cs := #[.int .i64 0, .slice none 0 0]) (t := 24) ?hr ?_; (case hd => rfl); (case hg => rfl); (case hr => first | (go_simp; done) | (go_simp; rfl) | (go_simp; rw [show ∀ x : Int, IntKind.u32.wrap (IntKind.u8.wrap x) = x % 256 from fun x => (by show (x % 256) % 4294967296 = x % 256; omega)]))
                    intro gb538 hg w57 hbox hb
                    replace HO_5 := zMk (zRb (uR HO_5.out) hb)
                    replace HO_6 := zMk (zRb (uR HO_6.out) hb)
                    replace HO533 := zMk (zRb (uR HO533.out) hb)
                    have BK538 := zMk (hbox)
                    have GW538 := zMk ((by rw [hg]; exact (zBs (uT HB.out)) : w.heap.size ≤ gb538))
                    have GE538 := zMk ((by rw [hg]; exact (zBs (uT HB.out)) : w.heap.size ≤ gb538))
                    have IGE538 := ownGe GE538.out
                    replace HB := zMk (zBt (uT HB.out) hb)
                    have NB516_538 := zMk ((by rw [hg]; exact Nat.ne_of_lt (blk_lt BK516.out) : gb516 ≠ gb538))
                    have NB538_516 := zMk ((by rw [hg]; exact Nat.ne_of_gt (blk_lt BK516.out) : gb538 ≠ gb516))
                    replace BK516 := zMk (zKb BK516.out hb)
                    have NB539_538 := zMk ((by rw [hg]; exact Nat.ne_of_lt (blk_lt BK539.out) : gb539 ≠ gb538))
                    have NB538_539 := zMk ((by rw [hg]; exact Nat.ne_of_gt (blk_lt BK539.out) : gb538 ≠ gb539))
                    replace BK539 := zMk (zKb BK539.out hb)
                    clear hb hbox hg
                    refine hK.out _ _ ⟨(zKc BK516.out 0).trans rfl, (zKc BK516.out 1).trans rfl⟩ (fun hHeld => ?_)
                    clear hK K
                    refine norm_ (a' := ?_) ?_ ?_
                    rotate_left
                    ·show Act.put _ (some 8) _ = _
                     simp only [Act.put, zSa, zSb, zSc, i64_w, i32_w]
                     rfl
                    exact norm_ (by first | (simp only [putAll, Act.put, zSa, zSb, zSc]; done) | (simp only [putAll, Act.put, zSa, zSb, zSc]; rfl)) (hJ2_6_7 (v532, gb538, gb539) _ ⟨hHeld, (uR HO533.out), (uR HO_5.out), (uR HO_6.out), BK516.out, BK538.out, BK539.out, GW538.out, GE538.out, NB516_538.out, NB538_516.out, NB539_538.out, NB538_539.out, GW539.out, GE539.out, NB516_539.out, NB539_516.out, (uT HB.out)⟩)
                 ·skip
                  rintro ⟨v532, gb538⟩ w56 ⟨hS_, h0_, h1_, h2_, h3_, h4_, h5_, h6_, h7_, h8_, h9_⟩
                  have n0_ : Aside0 (Kd.R k36 36 w56 w.heap.size (fun _ => True) v532 t531) := ⟨h0_⟩
                  have n1_ : Aside0 (Kd.R (Kd.int .i64) 3 w56 w.heap.size (fun k_ => some k_ ≠ (.slice Ao52 x6_2.length co52 : Value).ownBlock) (.slice Ao51 x5_2.length co51) x5_2) := ⟨h1_⟩
                  have n2_ : Aside0 (Kd.R (Kd.int .i64) 3 w56 w.heap.size (fun k_ => some k_ ≠ (.slice Ao51 x5_2.length co51 : Value).ownBlock) (.slice Ao52 x6_2.length co52) x6_2) := ⟨h2_⟩
                  have n3_ : Aside0 (w56.heap[gb516]? = some (.cells #[.int .i64 a0_0, .slice A0_1 l0_1.length c0_1] 24 (0, 0))) := ⟨h3_⟩
                  have n4_ : Aside0 (w56.heap[gb538]? = some (.cells #[.int .i64 0, .slice none 0 0] 24 (0, 0))) := ⟨h4_⟩
                  have n5_ : Aside0 (w.heap.size ≤ gb538) := ⟨h5_⟩
                  have n6_ : Aside0 (w.heap.size ≤ gb538) := ⟨h6_⟩
                  have n7_ : Aside0 (gb516 ≠ gb538) := ⟨h7_⟩
                  have n8_ : Aside0 (gb538 ≠ gb516) := ⟨h8_⟩
                  have n9_ : Aside0 (Below w.heap.size w w56) := ⟨h9_⟩
                  clear HO_5 HO_6 BK516 HB h0_ h1_ h2_ h3_ h4_ h5_ h6_ h7_ h8_ h9_
                  have HO533 := n0_
                  have HO_5 := n1_
                  have HO_6 := n2_
                  have BK516 := n3_
                  have BK538 := n4_
                  have GW538 := n5_
                  have GE538 := n6_
                  have IGE538 := ownGe GE538.out
                  have NB516_538 := n7_
                  have NB538_516 := n8_
                  have HB := n9_
                  clear n0_ n1_ n2_ n3_ n4_ n5_ n6_ n7_ n8_ n9_
                  have hHeld : w56.cell? ⟨gb516, 0, none⟩ = some (.int .i64 a0_0) ∧ w56.cell? ⟨gb516, 1, none⟩ = some (.slice A0_1 l0_1.length c0_1) := hS_
                  refine norm_ (a' := ?_) ?_ ?_
                  rotate_left
                  ·simp only [putAll, Act.put, zSa, zSb, zSc]
                   rfl
                  refine two_ (i := 5) (j := 7) (Ni := some 57) (Nj := some 9) #[true, true, true, true, true, true, true, false, false, false] #[true, true, true, true, true, false, true, true, false, false] rfl rfl rfl rfl (two_of HT_.out (by kernel_rfl)) (by decide) (by decide) (fun K hK => ?_) (fun K hK => ?_)
                  ·skip
                   refine goes_ Try.func22 (by kernel_rfl) rfl #[.agg #[.int .i64 a0_0, .slice A0_1 l0_1.length c0_1], .slice Ao52 x6_2.length co52] (by rfl) rfl rfl (by (try simp only [zMa, zMc, zMn]); first | done | rfl | (simp only [zLd, zLt]; rfl)) ?_
                   with_reducible refine (graph_Less.calls k2 a0_0 _ _ l0_1 _ _ x6_2 t534 t535 _ ?side1 ?side2 ?side3 ?side4 A32.out).mono ?_
                   (case side1 => repeat (first | exact (Kd.C_below HR0_1.out HB.out) | (with_reducible refine zCa ?_ _) | (with_reducible refine zCn ?_ _) | (with_reducible refine zCd ?_)))
                   (case side2 => exact HC0_1.out)
                   (case side3 => exact uC (zRr HO_6.out).2.2)
                   (case side4 => exact (zRr HO_6.out).2.1)
                   rintro e w57 ⟨v536, rfl, ho0, hb⟩
                   refine ⟨_, rfl, ?_⟩
                   replace HO_5 := zMk (zRb (uR HO_5.out) hb)
                   replace HO_6 := zMk (zRb (uR HO_6.out) hb)
                   have HO537 := zMk (zRl (zRw ho0 (zRt (uR HO533.out))) (zBs (uT HB.out)))
                   replace HO533 := zMk (zRe (uR HO533.out) (zRz ho0) hb)
                   replace BK516 := zMk (zKb BK516.out hb)
                   replace BK538 := zMk (zKb BK538.out hb)
                   replace HB := zMk (zBt (uT HB.out) hb)
                   refine hK.out _ _ ⟨(zKc BK516.out 0).trans rfl, (zKc BK516.out 1).trans rfl⟩ (fun hHeld => ?_)
                   clear hK K
                   refine norm_ (a' := ?_) ?_ ?_
                   rotate_left
                   ·show Act.put _ (some 57) _ = _
                    simp only [Act.put, zSa, zSb, zSc, i64_w, i32_w]
                    rfl
                   exact norm_ (by first | (simp only [putAll, Act.put, zSa, zSb, zSc]; done) | (simp only [putAll, Act.put, zSa, zSb, zSc]; rfl)) (hJ2_5_6 (v532, v536, gb538) _ ⟨hHeld, (zRm HO533.out (fun _ hk => hk.2)), (zRm HO537.out (fun _ hk => hk.2)), (uR HO_5.out), (uR HO_6.out), BK516.out, BK538.out, GW538.out, GE538.out, NB516_538.out, NB538_516.out, (uT HB.out)⟩)
                  ·skip
                   refine box_step ?hg (N := 9) ?hd (cs := #[.int .i64 0, .slice none 0 0]) (t := 24) ?hr ?_; (case hd => rfl); (case hg => rfl); (case hr => first | (go_simp; done) | (go_simp; rfl) | (go_simp; rw [show ∀ x : Int, IntKind.u32.wrap (IntKind.u8.wrap x) = x % 256 from fun x => (by show (x % 256) % 4294967296 = x % 256; omega)]))
                   intro gb539 hg w57 hbox hb
                   replace HO_5 := zMk (zRb (uR HO_5.out) hb)
                   replace HO_6 := zMk (zRb (uR HO_6.out) hb)
                   replace HO533 := zMk (zRb (uR HO533.out) hb)
                   have BK539 := zMk (hbox)
                   have GW539 := zMk ((by rw [hg]; exact (zBs (uT HB.out)) : w.heap.size ≤ gb539))
                   have GE539 := zMk ((by rw [hg]; exact (zBs (uT HB.out)) : w.heap.size ≤ gb539))
                   have IGE539 := ownGe GE539.out
                   replace HB := zMk (zBt (uT HB.out) hb)
                   have NB516_539 := zMk ((by rw [hg]; exact Nat.ne_of_lt (blk_lt BK516.out) : gb516 ≠ gb539))
                   have NB539_516 := zMk ((by rw [hg]; exact Nat.ne_of_gt (blk_lt BK516.out) : gb539 ≠ gb516))
                   replace BK516 := zMk (zKb BK516.out hb)
                   have NB538_539 := zMk ((by rw [hg]; exact Nat.ne_of_lt (blk_lt BK538.out) : gb538 ≠ gb539))
                   have NB539_538 := zMk ((by rw [hg]; exact Nat.ne_of_gt (blk_lt BK538.out) : gb539 ≠ gb538))
                   replace BK538 := zMk (zKb BK538.out hb)
                   clear hb hbox hg
                   refine hK.out _ _ ⟨(zKc BK516.out 0).trans rfl, (zKc BK516.out 1).trans rfl⟩ (fun hHeld => ?_)
                   clear hK K
                   refine norm_ (a' := ?_) ?_ ?_
                   rotate_left
                   ·show Act.put _ (some 9) _ = _
                    simp only [Act.put, zSa, zSb, zSc, i64_w, i32_w]
                    rfl
                   exact norm_ (by first | (simp only [putAll, Act.put, zSa, zSb, zSc]; done) | (simp only [putAll, Act.put, zSa, zSb, zSc]; rfl)) (hJ2_6_7 (v532, gb538, gb539) _ ⟨hHeld, (uR HO533.out), (uR HO_5.out), (uR HO_6.out), BK516.out, BK538.out, BK539.out, GW538.out, GE538.out, NB516_538.out, NB538_516.out, NB539_538.out, NB538_539.out, GW539.out, GE539.out, NB516_539.out, NB539_516.out, (uT HB.out)⟩)
                ·skip
                 rintro ⟨v532, v536⟩ w56 ⟨hS_, h0_, h1_, h2_, h3_, h4_, h5_⟩
                 have n0_ : Aside0 (Kd.R k36 36 w56 w.heap.size (fun k_ => some k_ ≠ (v536 : Value).ownBlock) v532 t531) := ⟨h0_⟩
                 have n1_ : Aside0 (Kd.R k36 36 w56 w.heap.size (fun k_ => some k_ ≠ (v532 : Value).ownBlock) v536 t535) := ⟨h1_⟩
                 have n2_ : Aside0 (Kd.R (Kd.int .i64) 3 w56 w.heap.size (fun k_ => some k_ ≠ (.slice Ao52 x6_2.length co52 : Value).ownBlock) (.slice Ao51 x5_2.length co51) x5_2) := ⟨h2_⟩
                 have n3_ : Aside0 (Kd.R (Kd.int .i64) 3 w56 w.heap.size (fun k_ => some k_ ≠ (.slice Ao51 x5_2.length co51 : Value).ownBlock) (.slice Ao52 x6_2.length co52) x6_2) := ⟨h3_⟩
                 have n4_ : Aside0 (w56.heap[gb516]? = some (.cells #[.int .i64 a0_0, .slice A0_1 l0_1.length c0_1] 24 (0, 0))) := ⟨h4_⟩
                 have n5_ : Aside0 (Below w.heap.size w w56) := ⟨h5_⟩
                 clear HO_5 HO_6 BK516 HB h0_ h1_ h2_ h3_ h4_ h5_
                 have HO533 := n0_
                 have HO537 := n1_
                 have HO_5 := n2_
                 have HO_6 := n3_
                 have BK516 := n4_
                 have HB := n5_
                 clear n0_ n1_ n2_ n3_ n4_ n5_
                 have hHeld : w56.cell? ⟨gb516, 0, none⟩ = some (.int .i64 a0_0) ∧ w56.cell? ⟨gb516, 1, none⟩ = some (.slice A0_1 l0_1.length c0_1) := hS_
                 refine norm_ (a' := ?_) ?_ ?_
                 rotate_left
                 ·simp only [putAll, Act.put, zSa, zSb, zSc]
                  rfl
                 refine two_ (i := 6) (j := 7) (Ni := some 8) (Nj := some 9) #[true, true, true, true, true, true, true, false, false, false] #[true, true, true, true, true, true, false, true, false, false] rfl rfl rfl rfl (two_of HT_.out (by kernel_rfl)) (by decide) (by decide) (fun K hK => ?_) (fun K hK => ?_)
                 ·skip
                  refine box_step ?hg (N := 8) ?hd (cs := #[.int .i64 0, .slice none 0 0]) (t := 24) ?hr ?_; (case hd => rfl); (case hg => rfl); (case hr => first | (go_simp; done) | (go_simp; rfl) | (go_simp; rw [show ∀ x : Int, IntKind.u32.wrap (IntKind.u8.wrap x) = x % 256 from fun x => (by show (x % 256) % 4294967296 = x % 256; omega)]))
                  intro gb538 hg w57 hbox hb
                  replace HO_5 := zMk (zRb (uR HO_5.out) hb)
                  replace HO_6 := zMk (zRb (uR HO_6.out) hb)
                  replace HO533 := zMk (zRb (uR HO533.out) hb)
                  replace HO537 := zMk (zRb (uR HO537.out) hb)
                  have BK538 := zMk (hbox)
                  have GW538 := zMk ((by rw [hg]; exact (zBs (uT HB.out)) : w.heap.size ≤ gb538))
                  have GE538 := zMk ((by rw [hg]; exact (zBs (uT HB.out)) : w.heap.size ≤ gb538))
                  have IGE538 := ownGe GE538.out
                  replace HB := zMk (zBt (uT HB.out) hb)
                  have NB516_538 := zMk ((by rw [hg]; exact Nat.ne_of_lt (blk_lt BK516.out) : gb516 ≠ gb538))
                  have NB538_516 := zMk ((by rw [hg]; exact Nat.ne_of_gt (blk_lt BK516.out) : gb538 ≠ gb516))
                  replace BK516 := zMk (zKb BK516.out hb)
                  clear hb hbox hg
                  refine hK.out _ _ ⟨(zKc BK516.out 0).trans rfl, (zKc BK516.out 1).trans rfl⟩ (fun hHeld => ?_)
                  clear hK K
                  refine norm_ (a' := ?_) ?_ ?_
                  rotate_left
                  ·show Act.put _ (some 8) _ = _
                   simp only [Act.put, zSa, zSb, zSc, i64_w, i32_w]
                   rfl
                  exact norm_ (by first | (simp only [putAll, Act.put, zSa, zSb, zSc]; done) | (simp only [putAll, Act.put, zSa, zSb, zSc]; rfl)) (hJ2_5_6 (v532, v536, gb538) _ ⟨hHeld, (uR HO533.out), (uR HO537.out), (uR HO_5.out), (uR HO_6.out), BK516.out, BK538.out, GW538.out, GE538.out, NB516_538.out, NB538_516.out, (uT HB.out)⟩)
                 ·skip
                  refine box_step ?hg (N := 9) ?hd (cs := #[.int .i64 0, .slice none 0 0]) (t := 24) ?hr ?_; (case hd => rfl); (case hg => rfl); (case hr => first | (go_simp; done) | (go_simp; rfl) | (go_simp; rw [show ∀ x : Int, IntKind.u32.wrap (IntKind.u8.wrap x) = x % 256 from fun x => (by show (x % 256) % 4294967296 = x % 256; omega)]))
                  intro gb539 hg w57 hbox hb
                  replace HO_5 := zMk (zRb (uR HO_5.out) hb)
                  replace HO_6 := zMk (zRb (uR HO_6.out) hb)
                  replace HO533 := zMk (zRb (uR HO533.out) hb)
                  replace HO537 := zMk (zRb (uR HO537.out) hb)
                  have BK539 := zMk (hbox)
                  have GW539 := zMk ((by rw [hg]; exact (zBs (uT HB.out)) : w.heap.size ≤ gb539))
                  have GE539 := zMk ((by rw [hg]; exact (zBs (uT HB.out)) : w.heap.size ≤ gb539))
                  have IGE539 := ownGe GE539.out
                  replace HB := zMk (zBt (uT HB.out) hb)
                  have NB516_539 := zMk ((by rw [hg]; exact Nat.ne_of_lt (blk_lt BK516.out) : gb516 ≠ gb539))
                  have NB539_516 := zMk ((by rw [hg]; exact Nat.ne_of_gt (blk_lt BK516.out) : gb539 ≠ gb516))
                  replace BK516 := zMk (zKb BK516.out hb)
                  clear hb hbox hg
                  refine hK.out _ _ ⟨(zKc BK516.out 0).trans rfl, (zKc BK516.out 1).trans rfl⟩ (fun hHeld => ?_)
                  clear hK K
                  refine norm_ (a' := ?_) ?_ ?_
                  rotate_left
                  ·show Act.put _ (some 9) _ = _
                   simp only [Act.put, zSa, zSb, zSc, i64_w, i32_w]
                   rfl
                  exact norm_ (by first | (simp only [putAll, Act.put, zSa, zSb, zSc]; done) | (simp only [putAll, Act.put, zSa, zSb, zSc]; rfl)) (hJ2_5_7 (v532, v536, gb539) _ ⟨hHeld, (uR HO533.out), (uR HO537.out), (uR HO_5.out), (uR HO_6.out), BK516.out, BK539.out, GW539.out, GE539.out, NB516_539.out, NB539_516.out, (uT HB.out)⟩)
               ·skip
                rintro ⟨v532, gb538, gb539⟩ w57 ⟨hS_, h0_, h1_, h2_, h3_, h4_, h5_, h6_, h7_, h8_, h9_, h10_, h11_, h12_, h13_, h14_, h15_, h16_⟩
                have n0_ : Aside0 (Kd.R k36 36 w57 w.heap.size (fun _ => True) v532 t531) := ⟨h0_⟩
                have n1_ : Aside0 (Kd.R (Kd.int .i64) 3 w57 w.heap.size (fun k_ => some k_ ≠ (.slice Ao52 x6_2.length co52 : Value).ownBlock) (.slice Ao51 x5_2.length co51) x5_2) := ⟨h1_⟩
                have n2_ : Aside0 (Kd.R (Kd.int .i64) 3 w57 w.heap.size (fun k_ => some k_ ≠ (.slice Ao51 x5_2.length co51 : Value).ownBlock) (.slice Ao52 x6_2.length co52) x6_2) := ⟨h2_⟩
                have n3_ : Aside0 (w57.heap[gb516]? = some (.cells #[.int .i64 a0_0, .slice A0_1 l0_1.length c0_1] 24 (0, 0))) := ⟨h3_⟩
                have n4_ : Aside0 (w57.heap[gb538]? = some (.cells #[.int .i64 0, .slice none 0 0] 24 (0, 0))) := ⟨h4_⟩
                have n5_ : Aside0 (w57.heap[gb539]? = some (.cells #[.int .i64 0, .slice none 0 0] 24 (0, 0))) := ⟨h5_⟩
                have n6_ : Aside0 (w.heap.size ≤ gb538) := ⟨h6_⟩
                have n7_ : Aside0 (w.heap.size ≤ gb538) := ⟨h7_⟩
                have n8_ : Aside0 (gb516 ≠ gb538) := ⟨h8_⟩
                have n9_ : Aside0 (gb538 ≠ gb516) := ⟨h9_⟩
                have n10_ : Aside0 (gb539 ≠ gb538) := ⟨h10_⟩
                have n11_ : Aside0 (gb538 ≠ gb539) := ⟨h11_⟩
                have n12_ : Aside0 (w.heap.size ≤ gb539) := ⟨h12_⟩
                have n13_ : Aside0 (w.heap.size ≤ gb539) := ⟨h13_⟩
                have n14_ : Aside0 (gb516 ≠ gb539) := ⟨h14_⟩
                have n15_ : Aside0 (gb539 ≠ gb516) := ⟨h15_⟩
                have n16_ : Aside0 (Below w.heap.size w w57) := ⟨h16_⟩
                clear HO_5 HO_6 BK516 HB h0_ h1_ h2_ h3_ h4_ h5_ h6_ h7_ h8_ h9_ h10_ h11_ h12_ h13_ h14_ h15_ h16_
                have HO533 := n0_
                have HO_5 := n1_
                have HO_6 := n2_
                have BK516 := n3_
                have BK538 := n4_
                have BK539 := n5_
                have GW538 := n6_
                have GE538 := n7_
                have IGE538 := ownGe GE538.out
                have NB516_538 := n8_
                have NB538_516 := n9_
                have NB539_538 := n10_
                have NB538_539 := n11_
                have GW539 := n12_
                have GE539 := n13_
                have IGE539 := ownGe GE539.out
                have NB516_539 := n14_
                have NB539_516 := n15_
                have HB := n16_
                clear n0_ n1_ n2_ n3_ n4_ n5_ n6_ n7_ n8_ n9_ n10_ n11_ n12_ n13_ n14_ n15_ n16_
                have hHeld : w57.cell? ⟨gb516, 0, none⟩ = some (.int .i64 a0_0) ∧ w57.cell? ⟨gb516, 1, none⟩ = some (.slice A0_1 l0_1.length c0_1) := hS_
                refine norm_ (a' := ?_) ?_ ?_
                rotate_left
                ·simp only [putAll, Act.put, zSa, zSb, zSc]
                 rfl
                refine one_ (i := 5) (N := some 57) #[true, true, true, true, true, true, true, true, false, false] rfl rfl (one_of HT_.out (by kernel_rfl)) (by decide) (fun K hK => ?_)
                refine goes_ Try.func22 (by kernel_rfl) rfl #[.agg #[.int .i64 a0_0, .slice A0_1 l0_1.length c0_1], .slice Ao52 x6_2.length co52] (by rfl) rfl rfl (by (try simp only [zMa, zMc, zMn]); first | done | rfl | (simp only [zLd, zLt]; rfl)) ?_
                with_reducible refine (graph_Less.calls k2 a0_0 _ _ l0_1 _ _ x6_2 t534 t535 _ ?side1 ?side2 ?side3 ?side4 A32.out).mono ?_
                (case side1 => repeat (first | exact (Kd.C_below HR0_1.out HB.out) | (with_reducible refine zCa ?_ _) | (with_reducible refine zCn ?_ _) | (with_reducible refine zCd ?_)))
                (case side2 => exact HC0_1.out)
                (case side3 => exact uC (zRr HO_6.out).2.2)
                (case side4 => exact (zRr HO_6.out).2.1)
                rintro e w58 ⟨v536, rfl, ho0, hb⟩
                refine ⟨_, rfl, ?_⟩
                replace HO_5 := zMk (zRb (uR HO_5.out) hb)
                replace HO_6 := zMk (zRb (uR HO_6.out) hb)
                have HO537 := zMk (zRl (zRw ho0 (zRt (uR HO533.out))) (zBs (uT HB.out)))
                replace HO533 := zMk (zRe (uR HO533.out) (zRz ho0) hb)
                replace BK516 := zMk (zKb BK516.out hb)
                replace BK538 := zMk (zKb BK538.out hb)
                replace BK539 := zMk (zKb BK539.out hb)
                replace HB := zMk (zBt (uT HB.out) hb)
                refine hK.out _ _ ⟨(zKc BK516.out 0).trans rfl, (zKc BK516.out 1).trans rfl⟩ (fun hHeld => ?_)
                clear hK K
                refine norm_ (a' := ?_) ?_ ?_
                rotate_left
                ·show Act.put _ (some 57) _ = _
                 simp only [Act.put, zSa, zSb, zSc, i64_w, i32_w]
                 rfl
                exact norm_ (by first | (simp only [putAll, Act.put, zSa, zSb, zSc]; done) | (simp only [putAll, Act.put, zSa, zSb, zSc]; rfl)) (hJ2_5_6_7 (v532, v536, gb538, gb539) _ ⟨hHeld, (zRm HO533.out (fun _ hk => hk.2)), (zRm HO537.out (fun _ hk => hk.2)), (uR HO_5.out), (uR HO_6.out), BK516.out, BK538.out, BK539.out, GW538.out, GE538.out, NB516_538.out, NB538_516.out, NB539_538.out, NB538_539.out, GW539.out, GE539.out, NB516_539.out, NB539_516.out, (uT HB.out)⟩)
              ·skip
               rintro ⟨v532, v536, gb539⟩ w57 ⟨hS_, h0_, h1_, h2_, h3_, h4_, h5_, h6_, h7_, h8_, h9_, h10_⟩
               have n0_ : Aside0 (Kd.R k36 36 w57 w.heap.size (fun k_ => some k_ ≠ (v536 : Value).ownBlock) v532 t531) := ⟨h0_⟩
               have n1_ : Aside0 (Kd.R k36 36 w57 w.heap.size (fun k_ => some k_ ≠ (v532 : Value).ownBlock) v536 t535) := ⟨h1_⟩
               have n2_ : Aside0 (Kd.R (Kd.int .i64) 3 w57 w.heap.size (fun k_ => some k_ ≠ (.slice Ao52 x6_2.length co52 : Value).ownBlock) (.slice Ao51 x5_2.length co51) x5_2) := ⟨h2_⟩
               have n3_ : Aside0 (Kd.R (Kd.int .i64) 3 w57 w.heap.size (fun k_ => some k_ ≠ (.slice Ao51 x5_2.length co51 : Value).ownBlock) (.slice Ao52 x6_2.length co52) x6_2) := ⟨h3_⟩
               have n4_ : Aside0 (w57.heap[gb516]? = some (.cells #[.int .i64 a0_0, .slice A0_1 l0_1.length c0_1] 24 (0, 0))) := ⟨h4_⟩
               have n5_ : Aside0 (w57.heap[gb539]? = some (.cells #[.int .i64 0, .slice none 0 0] 24 (0, 0))) := ⟨h5_⟩
               have n6_ : Aside0 (w.heap.size ≤ gb539) := ⟨h6_⟩
               have n7_ : Aside0 (w.heap.size ≤ gb539) := ⟨h7_⟩
               have n8_ : Aside0 (gb516 ≠ gb539) := ⟨h8_⟩
               have n9_ : Aside0 (gb539 ≠ gb516) := ⟨h9_⟩
               have n10_ : Aside0 (Below w.heap.size w w57) := ⟨h10_⟩
               clear HO_5 HO_6 BK516 HB h0_ h1_ h2_ h3_ h4_ h5_ h6_ h7_ h8_ h9_ h10_
               have HO533 := n0_
               have HO537 := n1_
               have HO_5 := n2_
               have HO_6 := n3_
               have BK516 := n4_
               have BK539 := n5_
               have GW539 := n6_
               have GE539 := n7_
               have IGE539 := ownGe GE539.out
               have NB516_539 := n8_
               have NB539_516 := n9_
               have HB := n10_
               clear n0_ n1_ n2_ n3_ n4_ n5_ n6_ n7_ n8_ n9_ n10_
               have hHeld : w57.cell? ⟨gb516, 0, none⟩ = some (.int .i64 a0_0) ∧ w57.cell? ⟨gb516, 1, none⟩ = some (.slice A0_1 l0_1.length c0_1) := hS_
               refine norm_ (a' := ?_) ?_ ?_
               rotate_left
               ·simp only [putAll, Act.put, zSa, zSb, zSc]
                rfl
               refine one_ (i := 6) (N := some 8) #[true, true, true, true, true, true, true, true, false, false] rfl rfl (one_of HT_.out (by kernel_rfl)) (by decide) (fun K hK => ?_)
               refine box_step ?hg (N := 8) ?hd (cs := #[.int .i64 0, .slice none 0 0]) (t := 24) ?hr ?_; (case hd => rfl); (case hg => rfl); (case hr => first | (go_simp; done) | (go_simp; rfl) | (go_simp; rw [show ∀ x : Int, IntKind.u32.wrap (IntKind.u8.wrap x) = x % 256 from fun x => (by show (x % 256) % 4294967296 = x % 256; omega)]))
               intro gb538 hg w58 hbox hb
               replace HO_5 := zMk (zRb (uR HO_5.out) hb)
               replace HO_6 := zMk (zRb (uR HO_6.out) hb)
               replace HO533 := zMk (zRb (uR HO533.out) hb)
               replace HO537 := zMk (zRb (uR HO537.out) hb)
               have BK538 := zMk (hbox)
               have GW538 := zMk ((by rw [hg]; exact (zBs (uT HB.out)) : w.heap.size ≤ gb538))
               have GE538 := zMk ((by rw [hg]; exact (zBs (uT HB.out)) : w.heap.size ≤ gb538))
               have IGE538 := ownGe GE538.out
               replace HB := zMk (zBt (uT HB.out) hb)
               have NB516_538 := zMk ((by rw [hg]; exact Nat.ne_of_lt (blk_lt BK516.out) : gb516 ≠ gb538))
               have NB538_516 := zMk ((by rw [hg]; exact Nat.ne_of_gt (blk_lt BK516.out) : gb538 ≠ gb516))
               replace BK516 := zMk (zKb BK516.out hb)
               have NB539_538 := zMk ((by rw [hg]; exact Nat.ne_of_lt (blk_lt BK539.out) : gb539 ≠ gb538))
               have NB538_539 := zMk ((by rw [hg]; exact Nat.ne_of_gt (blk_lt BK539.out) : gb538 ≠ gb539))
               replace BK539 := zMk (zKb BK539.out hb)
               clear hb hbox hg
               refine hK.out _ _ ⟨(zKc BK516.out 0).trans rfl, (zKc BK516.out 1).trans rfl⟩ (fun hHeld => ?_)
               clear hK K
               refine norm_ (a' := ?_) ?_ ?_
               rotate_left
               ·show Act.put _ (some 8) _ = _
                simp only [Act.put, zSa, zSb, zSc, i64_w, i32_w]
                rfl
               exact norm_ (by first | (simp only [putAll, Act.put, zSa, zSb, zSc]; done) | (simp only [putAll, Act.put, zSa, zSb, zSc]; rfl)) (hJ2_5_6_7 (v532, v536, gb538, gb539) _ ⟨hHeld, (uR HO533.out), (uR HO537.out), (uR HO_5.out), (uR HO_6.out), BK516.out, BK538.out, BK539.out, GW538.out, GE538.out, NB516_538.out, NB538_516.out, NB539_538.out, NB538_539.out, GW539.out, GE539.out, NB516_539.out, NB539_516.out, (uT HB.out)⟩)
             ·skip
              rintro ⟨v532, v536, gb538⟩ w57 ⟨hS_, h0_, h1_, h2_, h3_, h4_, h5_, h6_, h7_, h8_, h9_, h10_⟩
              have n0_ : Aside0 (Kd.R k36 36 w57 w.heap.size (fun k_ => some k_ ≠ (v536 : Value).ownBlock) v532 t531) := ⟨h0_⟩
              have n1_ : Aside0 (Kd.R k36 36 w57 w.heap.size (fun k_ => some k_ ≠ (v532 : Value).ownBlock) v536 t535) := ⟨h1_⟩
              have n2_ : Aside0 (Kd.R (Kd.int .i64) 3 w57 w.heap.size (fun k_ => some k_ ≠ (.slice Ao52 x6_2.length co52 : Value).ownBlock) (.slice Ao51 x5_2.length co51) x5_2) := ⟨h2_⟩
              have n3_ : Aside0 (Kd.R (Kd.int .i64) 3 w57 w.heap.size (fun k_ => some k_ ≠ (.slice Ao51 x5_2.length co51 : Value).ownBlock) (.slice Ao52 x6_2.length co52) x6_2) := ⟨h3_⟩
              have n4_ : Aside0 (w57.heap[gb516]? = some (.cells #[.int .i64 a0_0, .slice A0_1 l0_1.length c0_1] 24 (0, 0))) := ⟨h4_⟩
              have n5_ : Aside0 (w57.heap[gb538]? = some (.cells #[.int .i64 0, .slice none 0 0] 24 (0, 0))) := ⟨h5_⟩
              have n6_ : Aside0 (w.heap.size ≤ gb538) := ⟨h6_⟩
              have n7_ : Aside0 (w.heap.size ≤ gb538) := ⟨h7_⟩
              have n8_ : Aside0 (gb516 ≠ gb538) := ⟨h8_⟩
              have n9_ : Aside0 (gb538 ≠ gb516) := ⟨h9_⟩
              have n10_ : Aside0 (Below w.heap.size w w57) := ⟨h10_⟩
              clear HO_5 HO_6 BK516 HB h0_ h1_ h2_ h3_ h4_ h5_ h6_ h7_ h8_ h9_ h10_
              have HO533 := n0_
              have HO537 := n1_
              have HO_5 := n2_
              have HO_6 := n3_
              have BK516 := n4_
              have BK538 := n5_
              have GW538 := n6_
              have GE538 := n7_
              have IGE538 := ownGe GE538.out
              have NB516_538 := n8_
              have NB538_516 := n9_
              have HB := n10_
              clear n0_ n1_ n2_ n3_ n4_ n5_ n6_ n7_ n8_ n9_ n10_
              have hHeld : w57.cell? ⟨gb516, 0, none⟩ = some (.int .i64 a0_0) ∧ w57.cell? ⟨gb516, 1, none⟩ = some (.slice A0_1 l0_1.length c0_1) := hS_
              refine norm_ (a' := ?_) ?_ ?_
              rotate_left
              ·simp only [putAll, Act.put, zSa, zSb, zSc]
               rfl
              refine one_ (i := 7) (N := some 9) #[true, true, true, true, true, true, true, true, false, false] rfl rfl (one_of HT_.out (by kernel_rfl)) (by decide) (fun K hK => ?_)
              refine box_step ?hg (N := 9) ?hd (cs := #[.int .i64 0, .slice none 0 0]) (t := 24) ?hr ?_; (case hd => rfl); (case hg => rfl); (case hr => first | (go_simp; done) | (go_simp; rfl) | (go_simp; rw [show ∀ x : Int, IntKind.u32.wrap (IntKind.u8.wrap x) = x % 256 from fun x => (by show (x % 256) % 4294967296 = x % 256; omega)]))
              intro gb539 hg w58 hbox hb
              replace HO_5 := zMk (zRb (uR HO_5.out) hb)
              replace HO_6 := zMk (zRb (uR HO_6.out) hb)
              replace HO533 := zMk (zRb (uR HO533.out) hb)
              replace HO537 := zMk (zRb (uR HO537.out) hb)
              have BK539 := zMk (hbox)
              have GW539 := zMk ((by rw [hg]; exact (zBs (uT HB.out)) : w.heap.size ≤ gb539))
              have GE539 := zMk ((by rw [hg]; exact (zBs (uT HB.out)) : w.heap.size ≤ gb539))
              have IGE539 := ownGe GE539.out
              replace HB := zMk (zBt (uT HB.out) hb)
              have NB516_539 := zMk ((by rw [hg]; exact Nat.ne_of_lt (blk_lt BK516.out) : gb516 ≠ gb539))
              have NB539_516 := zMk ((by rw [hg]; exact Nat.ne_of_gt (blk_lt BK516.out) : gb539 ≠ gb516))
              replace BK516 := zMk (zKb BK516.out hb)
              have NB538_539 := zMk ((by rw [hg]; exact Nat.ne_of_lt (blk_lt BK538.out) : gb538 ≠ gb539))
              have NB539_538 := zMk ((by rw [hg]; exact Nat.ne_of_gt (blk_lt BK538.out) : gb539 ≠ gb538))
              replace BK538 := zMk (zKb BK538.out hb)
              clear hb hbox hg
              refine hK.out _ _ ⟨(zKc BK516.out 0).trans rfl, (zKc BK516.out 1).trans rfl⟩ (fun hHeld => ?_)
              clear hK K
              refine norm_ (a' := ?_) ?_ ?_
              rotate_left
              ·show Act.put _ (some 9) _ = _
               simp only [Act.put, zSa, zSb, zSc, i64_w, i32_w]
               rfl
              exact norm_ (by first | (simp only [putAll, Act.put, zSa, zSb, zSc]; done) | (simp only [putAll, Act.put, zSa, zSb, zSc]; rfl)) (hJ2_5_6_7 (v532, v536, gb538, gb539) _ ⟨hHeld, (uR HO533.out), (uR HO537.out), (uR HO_5.out), (uR HO_6.out), BK516.out, BK538.out, BK539.out, GW538.out, GE538.out, NB516_538.out, NB538_516.out, NB539_538.out, NB538_539.out, GW539.out, GE539.out, NB516_539.out, NB539_516.out, (uT HB.out)⟩)
            rintro ⟨v532, v536, gb538, gb539⟩ w58 ⟨hS_, h0_, h1_, h2_, h3_, h4_, h5_, h6_, h7_, h8_, h9_, h10_, h11_, h12_, h13_, h14_, h15_, h16_, h17_⟩
            have n0_ : Aside0 (Kd.R k36 36 w58 w.heap.size (fun k_ => some k_ ≠ (v536 : Value).ownBlock) v532 t531) := ⟨h0_⟩
            have n1_ : Aside0 (Kd.R k36 36 w58 w.heap.size (fun k_ => some k_ ≠ (v532 : Value).ownBlock) v536 t535) := ⟨h1_⟩
            have n2_ : Aside0 (Kd.R (Kd.int .i64) 3 w58 w.heap.size (fun k_ => some k_ ≠ (.slice Ao52 x6_2.length co52 : Value).ownBlock) (.slice Ao51 x5_2.length co51) x5_2) := ⟨h2_⟩
            have n3_ : Aside0 (Kd.R (Kd.int .i64) 3 w58 w.heap.size (fun k_ => some k_ ≠ (.slice Ao51 x5_2.length co51 : Value).ownBlock) (.slice Ao52 x6_2.length co52) x6_2) := ⟨h3_⟩
            have n4_ : Aside0 (w58.heap[gb516]? = some (.cells #[.int .i64 a0_0, .slice A0_1 l0_1.length c0_1] 24 (0, 0))) := ⟨h4_⟩
            have n5_ : Aside0 (w58.heap[gb538]? = some (.cells #[.int .i64 0, .slice none 0 0] 24 (0, 0))) := ⟨h5_⟩
            have n6_ : Aside0 (w58.heap[gb539]? = some (.cells #[.int .i64 0, .slice none 0 0] 24 (0, 0))) := ⟨h6_⟩
            have n7_ : Aside0 (w.heap.size ≤ gb538) := ⟨h7_⟩
            have n8_ : Aside0 (w.heap.size ≤ gb538) := ⟨h8_⟩
            have n9_ : Aside0 (gb516 ≠ gb538) := ⟨h9_⟩
            have n10_ : Aside0 (gb538 ≠ gb516) := ⟨h10_⟩
            have n11_ : Aside0 (gb539 ≠ gb538) := ⟨h11_⟩
            have n12_ : Aside0 (gb538 ≠ gb539) := ⟨h12_⟩
            have n13_ : Aside0 (w.heap.size ≤ gb539) := ⟨h13_⟩
            have n14_ : Aside0 (w.heap.size ≤ gb539) := ⟨h14_⟩
            have n15_ : Aside0 (gb516 ≠ gb539) := ⟨h15_⟩
            have n16_ : Aside0 (gb539 ≠ gb516) := ⟨h16_⟩
            have n17_ : Aside0 (Below w.heap.size w w58) := ⟨h17_⟩
            clear HO_5 HO_6 BK516 HB h0_ h1_ h2_ h3_ h4_ h5_ h6_ h7_ h8_ h9_ h10_ h11_ h12_ h13_ h14_ h15_ h16_ h17_
            have HO533 := n0_
            have HO537 := n1_
            have HO_5 := n2_
            have HO_6 := n3_
            have BK516 := n4_
            have BK538 := n5_
            have BK539 := n6_
            have GW538 := n7_
            have GE538 := n8_
            have IGE538 := ownGe GE538.out
            have NB516_538 := n9_
            have NB538_516 := n10_
            have NB539_538 := n11_
            have NB538_539 := n12_
            have GW539 := n13_
            have GE539 := n14_
            have IGE539 := ownGe GE539.out
            have NB516_539 := n15_
            have NB539_516 := n16_
            have HB := n17_
            clear n0_ n1_ n2_ n3_ n4_ n5_ n6_ n7_ n8_ n9_ n10_ n11_ n12_ n13_ n14_ n15_ n16_ n17_
            have hHeld : w58.cell? ⟨gb516, 0, none⟩ = some (.int .i64 a0_0) ∧ w58.cell? ⟨gb516, 1, none⟩ = some (.slice A0_1 l0_1.length c0_1) := hS_
            obtain ⟨Ao60, co60, eo60⟩ := zRs HO533.out
            (first |  subst eo60|  (injection eo60 with f1_ f2_ f3_; have f4_ := f1_.symm; have f5_ := f3_.symm; clear f1_ f2_ f3_; subst f4_; subst f5_))
            obtain ⟨Ao63, co63, eo63⟩ := zRs HO537.out
            (first |  subst eo63|  (injection eo63 with f1_ f2_ f3_; have f4_ := f1_.symm; have f5_ := f3_.symm; clear f1_ f2_ f3_; subst f4_; subst f5_))
            refine norm_ (a' := ?_) ?_ ?_
            rotate_left
            ·simp only [putAll, Act.put, zSa, zSb, zSc]
             rfl
            refine one_ (i := 8) (N := none) #[true, true, true, true, true, true, true, true, true, false] rfl rfl (one_of HT_.out (by kernel_rfl)) (by decide) (fun K hK => ?_)
            have hs59 : w58.cell? ⟨gb538, 0, none⟩ = some (.int .i64 0) := (zKc BK538.out 0).trans rfl
            have hfs59 := zKf BK538.out 0
            have hns59_0 := NB516_538.out
            have hns59_2 := NB539_538.out
            have hms59_0 := NB538_516.out
            have hms59_2 := NB538_539.out
            have hs61 : w58.cell? ⟨gb538, 1, none⟩ = some (.slice none 0 0) := (zKc BK538.out 1).trans rfl
            have hfs61 := zKf BK538.out 1
            have hns61_0 := NB516_538.out
            have hns61_2 := NB539_538.out
            have hms61_0 := NB538_516.out
            have hms61_2 := NB538_539.out
            refine skip_ (w1 := ?_) (by rfl) rfl ?_ ?_
            rotate_left
            ·go_simp
             rfl
            refine hK.out _ _ ⟨((cell_far (p := ⟨gb538, _, none⟩) NB516_538.out _).trans (((cell_far (p := ⟨gb538, _, none⟩) NB516_538.out _).trans (hHeld.1)))), ((cell_far (p := ⟨gb538, _, none⟩) NB516_538.out _).trans (((cell_far (p := ⟨gb538, _, none⟩) NB516_538.out _).trans (hHeld.2))))⟩ (fun hHeld => ?_)
            clear hK K
            refine one_ (i := 9) (N := none) #[true, true, true, true, true, true, true, true, true, true] rfl rfl (one_of HT_.out (by kernel_rfl)) (by decide) (fun K hK => ?_)
            have hs62 : w58.cell? ⟨gb539, 0, none⟩ = some (.int .i64 0) := (zKc BK539.out 0).trans rfl
            have hfs62 := zKf BK539.out 0
            have hns62_0 := NB516_539.out
            have hns62_1 := NB538_539.out
            have hms62_0 := NB539_516.out
            have hms62_1 := NB539_538.out
            have hs64 : w58.cell? ⟨gb539, 1, none⟩ = some (.slice none 0 0) := (zKc BK539.out 1).trans rfl
            have hfs64 := zKf BK539.out 1
            have hns64_0 := NB516_539.out
            have hns64_1 := NB538_539.out
            have hms64_0 := NB539_516.out
            have hms64_1 := NB539_538.out
            refine skip_ (w1 := ?_) (by rfl) rfl ?_ ?_
            rotate_left
            ·go_simp
             rfl
            refine hK.out _ _ ⟨((cell_far (p := ⟨gb539, _, none⟩) NB516_539.out _).trans (((cell_far (p := ⟨gb539, _, none⟩) NB516_539.out _).trans (hHeld.1)))), ((cell_far (p := ⟨gb539, _, none⟩) NB516_539.out _).trans (((cell_far (p := ⟨gb539, _, none⟩) NB516_539.out _).trans (hHeld.2))))⟩ (fun hHeld => ?_)
            clear hK K
            refine done_ (done_of HT_.out (by kernel_rfl)) ?_
            try go_wp2
            have n0_ : Aside0 (Kd.R (Kd.int .i64) 3 ((((w58.setCell ⟨gb538, 0, none⟩ (.int .i64 t530)).setCell ⟨gb538, 1, none⟩ (.slice Ao60 t531.length co60)).setCell ⟨gb539, 0, none⟩ (.int .i64 t534)).setCell ⟨gb539, 1, none⟩ (.slice Ao63 t535.length co63)) w.heap.size (fun k_ => some k_ ≠ (.slice Ao52 x6_2.length co52 : Value).ownBlock) (.slice Ao51 x5_2.length co51) x5_2) := ⟨by (with_reducible repeat (first |  apply zRa|  apply zRn|  apply zRd)); exact zRm (Kd.R_far (p := ⟨gb539, 1, none⟩) (Kd.R_far (p := ⟨gb539, 0, none⟩) (Kd.R_far (p := ⟨gb538, 1, none⟩) (Kd.R_far (p := ⟨gb538, 0, none⟩) (Kd.R_types (Kd.R_types HO_5.out BK538.out (by decide)) BK539.out (by decide)) (fun _ hk => hk.1.2) (.int .i64 t530)) (fun _ hk => hk.1.2) (.slice Ao60 t531.length co60)) (fun _ hk => hk.2) (.int .i64 t534)) (fun _ hk => hk.2) (.slice Ao63 t535.length co63)) (fun _ hk => hk.1.1)⟩
            have n1_ : Aside0 (Kd.R (Kd.int .i64) 3 ((((w58.setCell ⟨gb538, 0, none⟩ (.int .i64 t530)).setCell ⟨gb538, 1, none⟩ (.slice Ao60 t531.length co60)).setCell ⟨gb539, 0, none⟩ (.int .i64 t534)).setCell ⟨gb539, 1, none⟩ (.slice Ao63 t535.length co63)) w.heap.size (fun k_ => some k_ ≠ (.slice Ao51 x5_2.length co51 : Value).ownBlock) (.slice Ao52 x6_2.length co52) x6_2) := ⟨by (with_reducible repeat (first | apply zRa | apply zRn | apply zRd)); exact zRm (Kd.R_far (p := ⟨gb539, 1, none⟩) (Kd.R_far (p := ⟨gb539, 0, none⟩) (Kd.R_far (p := ⟨gb538, 1, none⟩) (Kd.R_far (p := ⟨gb538, 0, none⟩) (Kd.R_types (Kd.R_types HO_6.out BK538.out (by decide)) BK539.out (by decide)) (fun _ hk => hk.1.2) (.int .i64 t530)) (fun _ hk => hk.1.2) (.slice Ao60 t531.length co60)) (fun _ hk => hk.2) (.int .i64 t534)) (fun _ hk => hk.2) (.slice Ao63 t535.length co63)) (fun _ hk => hk.1.1)⟩
            have n2_ : Aside0 (Kd.R k36 36 ((((w58.setCell ⟨gb538, 0, none⟩ (.int .i64 t530)).setCell ⟨gb538, 1, none⟩ (.slice Ao60 t531.length co60)).setCell ⟨gb539, 0, none⟩ (.int .i64 t534)).setCell ⟨gb539, 1, none⟩ (.slice Ao63 t535.length co63)) w.heap.size (fun k_ => some k_ ≠ (.slice Ao63 t535.length co63 : Value).ownBlock) (.slice Ao60 t531.length co60) t531) := ⟨by (with_reducible repeat (first | apply zRa | apply zRn | apply zRd)); exact zRm (Kd.R_far (p := ⟨gb539, 1, none⟩) (Kd.R_far (p := ⟨gb539, 0, none⟩) (Kd.R_far (p := ⟨gb538, 1, none⟩) (Kd.R_far (p := ⟨gb538, 0, none⟩) (Kd.R_types (Kd.R_types HO533.out BK538.out (by decide)) BK539.out (by decide)) (fun _ hk => hk.1.2) (.int .i64 t530)) (fun _ hk => hk.1.2) (.slice Ao60 t531.length co60)) (fun _ hk => hk.2) (.int .i64 t534)) (fun _ hk => hk.2) (.slice Ao63 t535.length co63)) (fun _ hk => hk.1.1)⟩
            have n3_ : Aside0 (Kd.R k36 36 ((((w58.setCell ⟨gb538, 0, none⟩ (.int .i64 t530)).setCell ⟨gb538, 1, none⟩ (.slice Ao60 t531.length co60)).setCell ⟨gb539, 0, none⟩ (.int .i64 t534)).setCell ⟨gb539, 1, none⟩ (.slice Ao63 t535.length co63)) w.heap.size (fun k_ => some k_ ≠ (.slice Ao60 t531.length co60 : Value).ownBlock) (.slice Ao63 t535.length co63) t535) := ⟨by (with_reducible repeat (first | apply zRa | apply zRn | apply zRd)); exact zRm (Kd.R_far (p := ⟨gb539, 1, none⟩) (Kd.R_far (p := ⟨gb539, 0, none⟩) (Kd.R_far (p := ⟨gb538, 1, none⟩) (Kd.R_far (p := ⟨gb538, 0, none⟩) (Kd.R_types (Kd.R_types HO537.out BK538.out (by decide)) BK539.out (by decide)) (fun _ hk => hk.1.2) (.int .i64 t530)) (fun _ hk => hk.1.2) (.slice Ao60 t531.length co60)) (fun _ hk => hk.2) (.int .i64 t534)) (fun _ hk => hk.2) (.slice Ao63 t535.length co63)) (fun _ hk => hk.1.1)⟩
            have n4_ : Aside0 (((((w58.setCell ⟨gb538, 0, none⟩ (.int .i64 t530)).setCell ⟨gb538, 1, none⟩ (.slice Ao60 t531.length co60)).setCell ⟨gb539, 0, none⟩ (.int .i64 t534)).setCell ⟨gb539, 1, none⟩ (.slice Ao63 t535.length co63)).heap[gb516]? = some (.cells #[.int .i64 a0_0, .slice A0_1 l0_1.length c0_1] 24 (0, 0))) := ⟨by (with_reducible repeat (first | refine zKn ?_ _ | refine zKd ?_ | refine zKa ?_ _)); refine blk_far ?_ NB516_539.out _; (with_reducible repeat (first | refine zKn ?_ _ | refine zKd ?_ | refine zKa ?_ _)); refine blk_far ?_ NB516_539.out _; (with_reducible repeat (first | refine zKn ?_ _ | refine zKd ?_ | refine zKa ?_ _)); refine blk_far ?_ NB516_538.out _; (with_reducible repeat (first | refine zKn ?_ _ | refine zKd ?_ | refine zKa ?_ _)); refine blk_far ?_ NB516_538.out _; (with_reducible repeat (first | refine zKn ?_ _ | refine zKd ?_ | refine zKa ?_ _)); exact BK516.out⟩
            have n5_ : Aside0 (((((w58.setCell ⟨gb538, 0, none⟩ (.int .i64 t530)).setCell ⟨gb538, 1, none⟩ (.slice Ao60 t531.length co60)).setCell ⟨gb539, 0, none⟩ (.int .i64 t534)).setCell ⟨gb539, 1, none⟩ (.slice Ao63 t535.length co63)).heap[gb538]? = some (.cells #[.int .i64 t530, .slice Ao60 t531.length co60] 24 (0, 0))) := ⟨by (with_reducible repeat (first | refine zKn ?_ _ | refine zKd ?_ | refine zKa ?_ _)); refine blk_far ?_ NB538_539.out _; (with_reducible repeat (first | refine zKn ?_ _ | refine zKd ?_ | refine zKa ?_ _)); refine blk_far ?_ NB538_539.out _; (with_reducible repeat (first | refine zKn ?_ _ | refine zKd ?_ | refine zKa ?_ _)); refine blk_put (cs := #[.int .i64 t530, .slice none 0 0]) ?_ 1 _ rfl; (with_reducible repeat (first | refine zKn ?_ _ | refine zKd ?_ | refine zKa ?_ _)); refine blk_put (cs := #[.int .i64 0, .slice none 0 0]) ?_ 0 _ rfl; (with_reducible repeat (first | refine zKn ?_ _ | refine zKd ?_ | refine zKa ?_ _)); exact BK538.out⟩
            have n6_ : Aside0 (((((w58.setCell ⟨gb538, 0, none⟩ (.int .i64 t530)).setCell ⟨gb538, 1, none⟩ (.slice Ao60 t531.length co60)).setCell ⟨gb539, 0, none⟩ (.int .i64 t534)).setCell ⟨gb539, 1, none⟩ (.slice Ao63 t535.length co63)).heap[gb539]? = some (.cells #[.int .i64 t534, .slice Ao63 t535.length co63] 24 (0, 0))) := ⟨by (with_reducible repeat (first | refine zKn ?_ _ | refine zKd ?_ | refine zKa ?_ _)); refine blk_put (cs := #[.int .i64 t534, .slice none 0 0]) ?_ 1 _ rfl; (with_reducible repeat (first | refine zKn ?_ _ | refine zKd ?_ | refine zKa ?_ _)); refine blk_put (cs := #[.int .i64 0, .slice none 0 0]) ?_ 0 _ rfl; (with_reducible repeat (first | refine zKn ?_ _ | refine zKd ?_ | refine zKa ?_ _)); refine blk_far ?_ NB539_538.out _; (with_reducible repeat (first | refine zKn ?_ _ | refine zKd ?_ | refine zKa ?_ _)); refine blk_far ?_ NB539_538.out _; (with_reducible repeat (first | refine zKn ?_ _ | refine zKd ?_ | refine zKa ?_ _)); exact BK539.out⟩
            have n7_ : Aside0 (Below w.heap.size w ((((w58.setCell ⟨gb538, 0, none⟩ (.int .i64 t530)).setCell ⟨gb538, 1, none⟩ (.slice Ao60 t531.length co60)).setCell ⟨gb539, 0, none⟩ (.int .i64 t534)).setCell ⟨gb539, 1, none⟩ (.slice Ao63 t535.length co63))) := ⟨by exact uT HB.out⟩
            generalize ((((w58.setCell ⟨gb538, 0, none⟩ (.int .i64 t530)).setCell ⟨gb538, 1, none⟩ (.slice Ao60 t531.length co60)).setCell ⟨gb539, 0, none⟩ (.int .i64 t534)).setCell ⟨gb539, 1, none⟩ (.slice Ao63 t535.length co63)) = w65 at n0_ n1_ n2_ n3_ n4_ n5_ n6_ n7_ ⊢
            have HO_5 := n0_
            have HO_6 := n1_
            have HO533 := n2_
            have HO537 := n3_
            have BK516 := n4_
            have BK538 := n5_
            have BK539 := n6_
            have HB := n7_
            clear n0_ n1_ n2_ n3_ n4_ n5_ n6_ n7_
            replace HO_5 := zMk (zRd HO_5.out)
            replace HO_6 := zMk (zRd HO_6.out)
            replace HO533 := zMk (zRd HO533.out)
            replace HO537 := zMk (zRd HO537.out)
            replace BK516 := zMk (zKd BK516.out)
            replace BK538 := zMk (zKd BK538.out)
            replace BK539 := zMk (zKd BK539.out)
            replace HB := zMk (zBd HB.out)
            refine start_ (n := 16) (S := fun w' => w'.cell? ⟨gb516, 0, none⟩ = some (.int .i64 a0_0) ∧ w'.cell? ⟨gb516, 1, none⟩ = some (.slice A0_1 l0_1.length c0_1) ∧ w'.cell? ⟨gb538, 0, none⟩ = some (.int .i64 t530) ∧ w'.cell? ⟨gb538, 1, none⟩ = some (.slice Ao60 t531.length co60) ∧ w'.cell? ⟨gb539, 0, none⟩ = some (.int .i64 t534) ∧ w'.cell? ⟨gb539, 1, none⟩ = some (.slice Ao63 t535.length co63)) (ds := []) #[false, false, false, false, false, false, false, false, false, false, false, false, false, false, false, false] (by kernel_rfl) rfl rfl ⟨(zKc BK516.out 0).trans rfl, (zKc BK516.out 1).trans rfl, (zKc BK538.out 0).trans rfl, (zKc BK538.out 1).trans rfl, (zKc BK539.out 0).trans rfl, (zKc BK539.out 1).trans rfl⟩ (fun hHeld => ?_); refine with_tabW filigreelaw04_GraphSplit.tab11 filigreelaw04_GraphSplit.bits11 (fun HT_ HW_ => ?_)
            generalize w65.drew = w66 at HO_5 HO_6 HO533 HO537 BK516 BK538 BK539 HB hHeld ⊢
            refine pure_ (i := 0) (N := some 59) (v := ?_) (a' := ?_) #[true, false, false, false, false, false, false, false, false, false, false, false, false, false, false, false] rfl rfl (any_of HT_.out (by kernel_rfl)) (fun _ _ _ h => h) (Or.inl ⟨by rfl, ?_⟩) ?_ ?_
            rotate_left
            ·intro w'
             go_simp
             with_reducible rfl
            rotate_left
            ·simp only [Act.put, zSa, zSb, zSc, i64_w, i32_w]
             rfl
            refine pure_ (i := 3) (N := some 62) (v := ?_) (a' := ?_) #[true, false, false, true, false, false, false, false, false, false, false, false, false, false, false, false] rfl rfl (any_of HT_.out (by kernel_rfl)) (fun _ _ _ h => h) (Or.inl ⟨by rfl, ?_⟩) ?_ ?_
            rotate_left
            ·intro w'
             go_simp
             with_reducible rfl
            rotate_left
            ·simp only [Act.put, zSa, zSb, zSc, i64_w, i32_w]
             rfl
            refine pure_ (i := 6) (N := some 65) (v := ?_) (a' := ?_) #[true, false, false, true, false, false, true, false, false, false, false, false, false, false, false, false] rfl rfl (any_of HT_.out (by kernel_rfl)) (fun _ _ _ h => h) (Or.inl ⟨by rfl, ?_⟩) ?_ ?_
            rotate_left
            ·intro w'
             go_simp
             with_reducible rfl
            rotate_left
            ·simp only [Act.put, zSa, zSb, zSc, i64_w, i32_w]
             rfl
            refine take_ (i := 1) (N := some 60) (v := ?_) (a' := ?_) #[true, true, false, true, false, false, true, false, false, false, false, false, false, false, false, false] rfl rfl (take_ofW HT_.out HW_.out (by kernel_rfl)) (fun _ _ _ h => h) (Or.inl ⟨by rfl, ?_⟩) hHeld ?_ ?_
            rotate_left
            ·rintro w' ⟨s0, s1, s2, s3, s4, s5⟩
             go_simp
             with_reducible rfl
            rotate_left
            ·simp only [Act.put, zSa, zSb, zSc, i64_w, i32_w]
             rfl
            refine take_ (i := 4) (N := some 63) (v := ?_) (a' := ?_) #[true, true, false, true, true, false, true, false, false, false, false, false, false, false, false, false] rfl rfl (take_ofW HT_.out HW_.out (by kernel_rfl)) (fun _ _ _ h => h) (Or.inl ⟨by rfl, ?_⟩) hHeld ?_ ?_
            rotate_left
            ·rintro w' ⟨s0, s1, s2, s3, s4, s5⟩
             go_simp
             with_reducible rfl
            rotate_left
            ·simp only [Act.put, zSa, zSb, zSc, i64_w, i32_w]
             rfl
            refine take_ (i := 7) (N := some 66) (v := ?_) (a' := ?_) #[true, true, false, true, true, false, true, true, false, false, false, false, false, false, false, false] rfl rfl (take_ofW HT_.out HW_.out (by kernel_rfl)) (fun _ _ _ h => h) (Or.inl ⟨by rfl, ?_⟩) hHeld ?_ ?_
            rotate_left
            ·rintro w' ⟨s0, s1, s2, s3, s4, s5⟩
             go_simp
             with_reducible rfl
            rotate_left
            ·simp only [Act.put, zSa, zSb, zSc, i64_w, i32_w]
             rfl
            refine join_ (σ := Value × Value × Value × Value × Nat) 2 #[true, true, true, true, true, true, true, true, true, true, true, true, true, true, false, false] (fun s_ => [(61, s_.1), (64, s_.2.1), (67, s_.2.2.1), (68, .tuple #[.agg #[.int .i64 t549, s_.2.2.2.1], .int .i64 t553]), (10, .pointer (some ⟨s_.2.2.2.2, 0, none⟩)), (58, .tuple #[.agg #[.int .i64 t549, s_.2.2.2.1], .int .i64 t553]), (69, .agg #[.int .i64 t549, s_.2.2.2.1]), (70, .int .i64 t553)]) (fun s_ w' => (w'.cell? ⟨gb516, 0, none⟩ = some (.int .i64 a0_0) ∧ w'.cell? ⟨gb516, 1, none⟩ = some (.slice A0_1 l0_1.length c0_1) ∧ w'.cell? ⟨gb538, 0, none⟩ = some (.int .i64 t530) ∧ w'.cell? ⟨gb538, 1, none⟩ = some (.slice Ao60 t531.length co60) ∧ w'.cell? ⟨gb539, 0, none⟩ = some (.int .i64 t534) ∧ w'.cell? ⟨gb539, 1, none⟩ = some (.slice Ao63 t535.length co63)) ∧ (Kd.R k36 36 w' w.heap.size (fun k_ => some k_ ≠ (.slice Ao63 t535.length co63 : Value).ownBlock ∧ some k_ ≠ (s_.2.2.1 : Value).ownBlock ∧ some k_ ≠ (s_.2.2.2.1 : Value).ownBlock) (.slice Ao60 t531.length co60) t531) ∧ (Kd.R k36 36 w' w.heap.size (fun k_ => some k_ ≠ (.slice Ao60 t531.length co60 : Value).ownBlock ∧ some k_ ≠ (s_.2.2.1 : Value).ownBlock ∧ some k_ ≠ (s_.2.2.2.1 : Value).ownBlock) (.slice Ao63 t535.length co63) t535) ∧ (Kd.R k36 36 w' w.heap.size (fun k_ => some k_ ≠ (.slice Ao60 t531.length co60 : Value).ownBlock ∧ some k_ ≠ (.slice Ao63 t535.length co63 : Value).ownBlock ∧ some k_ ≠ (s_.2.2.2.1 : Value).ownBlock) s_.2.2.1 y546) ∧ (Kd.R k36 36 w' w.heap.size (fun k_ => some k_ ≠ (.slice Ao60 t531.length co60 : Value).ownBlock ∧ some k_ ≠ (.slice Ao63 t535.length co63 : Value).ownBlock ∧ some k_ ≠ (s_.2.2.1 : Value).ownBlock) s_.2.2.2.1 t550) ∧ (Kd.R (Kd.int .i64) 3 w' w.heap.size (fun k_ => some k_ ≠ (.slice Ao52 x6_2.length co52 : Value).ownBlock) (.slice Ao51 x5_2.length co51) x5_2) ∧ (Kd.R (Kd.int .i64) 3 w' w.heap.size (fun k_ => some k_ ≠ (.slice Ao51 x5_2.length co51 : Value).ownBlock) (.slice Ao52 x6_2.length co52) x6_2) ∧ (w'.heap[gb516]? = some (.cells #[.int .i64 a0_0, .slice A0_1 l0_1.length c0_1] 24 (0, 0))) ∧ (w'.heap[gb538]? = some (.cells #[.int .i64 t530, .slice Ao60 t531.length co60] 24 (0, 0))) ∧ (w'.heap[gb539]? = some (.cells #[.int .i64 t534, .slice Ao63 t535.length co63] 24 (0, 0))) ∧ (w'.heap[s_.2.2.2.2]? = some (.cells #[.int .i64 0, .slice none 0 0] 24 (0, 0))) ∧ (w.heap.size ≤ s_.2.2.2.2) ∧ (w.heap.size ≤ s_.2.2.2.2) ∧ (gb516 ≠ s_.2.2.2.2) ∧ (s_.2.2.2.2 ≠ gb516) ∧ (gb538 ≠ s_.2.2.2.2) ∧ (s_.2.2.2.2 ≠ gb538) ∧ (gb539 ≠ s_.2.2.2.2) ∧ (s_.2.2.2.2 ≠ gb539) ∧ (Below w.heap.size w w')) ?_ ?_
            rotate_left
            ·intro hJ2_5_8_9_13
             refine join_ (σ := Value × Value × Value × Value) 3 #[true, true, true, true, true, true, true, true, true, true, true, true, true, false, false, false] (fun s_ => [(61, s_.1), (64, s_.2.1), (67, s_.2.2.1), (68, .tuple #[.agg #[.int .i64 t549, s_.2.2.2], .int .i64 t553]), (58, .tuple #[.agg #[.int .i64 t549, s_.2.2.2], .int .i64 t553]), (69, .agg #[.int .i64 t549, s_.2.2.2]), (70, .int .i64 t553)]) (fun s_ w' => (w'.cell? ⟨gb516, 0, none⟩ = some (.int .i64 a0_0) ∧ w'.cell? ⟨gb516, 1, none⟩ = some (.slice A0_1 l0_1.length c0_1) ∧ w'.cell? ⟨gb538, 0, none⟩ = some (.int .i64 t530) ∧ w'.cell? ⟨gb538, 1, none⟩ = some (.slice Ao60 t531.length co60) ∧ w'.cell? ⟨gb539, 0, none⟩ = some (.int .i64 t534) ∧ w'.cell? ⟨gb539, 1, none⟩ = some (.slice Ao63 t535.length co63)) ∧ (Kd.R k36 36 w' w.heap.size (fun k_ => some k_ ≠ (.slice Ao63 t535.length co63 : Value).ownBlock ∧ some k_ ≠ (s_.2.2.1 : Value).ownBlock ∧ some k_ ≠ (s_.2.2.2 : Value).ownBlock) (.slice Ao60 t531.length co60) t531) ∧ (Kd.R k36 36 w' w.heap.size (fun k_ => some k_ ≠ (.slice Ao60 t531.length co60 : Value).ownBlock ∧ some k_ ≠ (s_.2.2.1 : Value).ownBlock ∧ some k_ ≠ (s_.2.2.2 : Value).ownBlock) (.slice Ao63 t535.length co63) t535) ∧ (Kd.R k36 36 w' w.heap.size (fun k_ => some k_ ≠ (.slice Ao60 t531.length co60 : Value).ownBlock ∧ some k_ ≠ (.slice Ao63 t535.length co63 : Value).ownBlock ∧ some k_ ≠ (s_.2.2.2 : Value).ownBlock) s_.2.2.1 y546) ∧ (Kd.R k36 36 w' w.heap.size (fun k_ => some k_ ≠ (.slice Ao60 t531.length co60 : Value).ownBlock ∧ some k_ ≠ (.slice Ao63 t535.length co63 : Value).ownBlock ∧ some k_ ≠ (s_.2.2.1 : Value).ownBlock) s_.2.2.2 t550) ∧ (Kd.R (Kd.int .i64) 3 w' w.heap.size (fun k_ => some k_ ≠ (.slice Ao52 x6_2.length co52 : Value).ownBlock) (.slice Ao51 x5_2.length co51) x5_2) ∧ (Kd.R (Kd.int .i64) 3 w' w.heap.size (fun k_ => some k_ ≠ (.slice Ao51 x5_2.length co51 : Value).ownBlock) (.slice Ao52 x6_2.length co52) x6_2) ∧ (w'.heap[gb516]? = some (.cells #[.int .i64 a0_0, .slice A0_1 l0_1.length c0_1] 24 (0, 0))) ∧ (w'.heap[gb538]? = some (.cells #[.int .i64 t530, .slice Ao60 t531.length co60] 24 (0, 0))) ∧ (w'.heap[gb539]? = some (.cells #[.int .i64 t534, .slice Ao63 t535.length co63] 24 (0, 0))) ∧ (Below w.heap.size w w')) ?_ ?_
             rotate_left
             ·intro hJ2_5_8_9
              refine join_ (σ := Value × Value × Value × Nat) 6 #[true, true, true, true, true, true, true, true, true, false, false, false, false, true, false, false] (fun s_ => [(61, s_.1), (64, s_.2.1), (67, s_.2.2.1), (10, .pointer (some ⟨s_.2.2.2, 0, none⟩))]) (fun s_ w' => (w'.cell? ⟨gb516, 0, none⟩ = some (.int .i64 a0_0) ∧ w'.cell? ⟨gb516, 1, none⟩ = some (.slice A0_1 l0_1.length c0_1) ∧ w'.cell? ⟨gb538, 0, none⟩ = some (.int .i64 t530) ∧ w'.cell? ⟨gb538, 1, none⟩ = some (.slice Ao60 t531.length co60) ∧ w'.cell? ⟨gb539, 0, none⟩ = some (.int .i64 t534) ∧ w'.cell? ⟨gb539, 1, none⟩ = some (.slice Ao63 t535.length co63)) ∧ (Kd.R k36 36 w' w.heap.size (fun k_ => some k_ ≠ (.slice Ao63 t535.length co63 : Value).ownBlock ∧ some k_ ≠ (s_.2.2.1 : Value).ownBlock) (.slice Ao60 t531.length co60) t531) ∧ (Kd.R k36 36 w' w.heap.size (fun k_ => some k_ ≠ (.slice Ao60 t531.length co60 : Value).ownBlock ∧ some k_ ≠ (s_.2.2.1 : Value).ownBlock) (.slice Ao63 t535.length co63) t535) ∧ (Kd.R k36 36 w' w.heap.size (fun k_ => some k_ ≠ (.slice Ao60 t531.length co60 : Value).ownBlock ∧ some k_ ≠ (.slice Ao63 t535.length co63 : Value).ownBlock) s_.2.2.1 y546) ∧ (Kd.R (Kd.int .i64) 3 w' w.heap.size (fun k_ => some k_ ≠ (.slice Ao52 x6_2.length co52 : Value).ownBlock) (.slice Ao51 x5_2.length co51) x5_2) ∧ (Kd.R (Kd.int .i64) 3 w' w.heap.size (fun k_ => some k_ ≠ (.slice Ao51 x5_2.length co51 : Value).ownBlock) (.slice Ao52 x6_2.length co52) x6_2) ∧ (w'.heap[gb516]? = some (.cells #[.int .i64 a0_0, .slice A0_1 l0_1.length c0_1] 24 (0, 0))) ∧ (w'.heap[gb538]? = some (.cells #[.int .i64 t530, .slice Ao60 t531.length co60] 24 (0, 0))) ∧ (w'.heap[gb539]? = some (.cells #[.int .i64 t534, .slice Ao63 t535.length co63] 24 (0, 0))) ∧ (w'.heap[s_.2.2.2]? = some (.cells #[.int .i64 0, .slice none 0 0] 24 (0, 0))) ∧ (w.heap.size ≤ s_.2.2.2) ∧ (w.heap.size ≤ s_.2.2.2) ∧ (gb516 ≠ s_.2.2.2) ∧ (s_.2.2.2 ≠ gb516) ∧ (gb538 ≠ s_.2.2.2) ∧ (s_.2.2.2 ≠ gb538) ∧ (gb539 ≠ s_.2.2.2) ∧ (s_.2.2.2 ≠ gb539) ∧ (Below w.heap.size w w')) ?_ ?_
              rotate_left
              ·intro hJ2_5_8_13
               refine join_ (σ := Value × Value × Value) 7 #[true, true, true, true, true, true, true, true, true, false, false, false, false, false, false, false] (fun s_ => [(61, s_.1), (64, s_.2.1), (67, s_.2.2)]) (fun s_ w' => (w'.cell? ⟨gb516, 0, none⟩ = some (.int .i64 a0_0) ∧ w'.cell? ⟨gb516, 1, none⟩ = some (.slice A0_1 l0_1.length c0_1) ∧ w'.cell? ⟨gb538, 0, none⟩ = some (.int .i64 t530) ∧ w'.cell? ⟨gb538, 1, none⟩ = some (.slice Ao60 t531.length co60) ∧ w'.cell? ⟨gb539, 0, none⟩ = some (.int .i64 t534) ∧ w'.cell? ⟨gb539, 1, none⟩ = some (.slice Ao63 t535.length co63)) ∧ (Kd.R k36 36 w' w.heap.size (fun k_ => some k_ ≠ (.slice Ao63 t535.length co63 : Value).ownBlock ∧ some k_ ≠ (s_.2.2 : Value).ownBlock) (.slice Ao60 t531.length co60) t531) ∧ (Kd.R k36 36 w' w.heap.size (fun k_ => some k_ ≠ (.slice Ao60 t531.length co60 : Value).ownBlock ∧ some k_ ≠ (s_.2.2 : Value).ownBlock) (.slice Ao63 t535.length co63) t535) ∧ (Kd.R k36 36 w' w.heap.size (fun k_ => some k_ ≠ (.slice Ao60 t531.length co60 : Value).ownBlock ∧ some k_ ≠ (.slice Ao63 t535.length co63 : Value).ownBlock) s_.2.2 y546) ∧ (Kd.R (Kd.int .i64) 3 w' w.heap.size (fun k_ => some k_ ≠ (.slice Ao52 x6_2.length co52 : Value).ownBlock) (.slice Ao51 x5_2.length co51) x5_2) ∧ (Kd.R (Kd.int .i64) 3 w' w.heap.size (fun k_ => some k_ ≠ (.slice Ao51 x5_2.length co51 : Value).ownBlock) (.slice Ao52 x6_2.length co52) x6_2) ∧ (w'.heap[gb516]? = some (.cells #[.int .i64 a0_0, .slice A0_1 l0_1.length c0_1] 24 (0, 0))) ∧ (w'.heap[gb538]? = some (.cells #[.int .i64 t530, .slice Ao60 t531.length co60] 24 (0, 0))) ∧ (w'.heap[gb539]? = some (.cells #[.int .i64 t534, .slice Ao63 t535.length co63] 24 (0, 0))) ∧ (Below w.heap.size w w')) ?_ ?_
               rotate_left
               ·intro hJ2_5_8
                refine join_ (σ := Value × Value × Nat) 7 #[true, true, true, true, true, true, true, true, false, false, false, false, false, true, false, false] (fun s_ => [(61, s_.1), (64, s_.2.1), (10, .pointer (some ⟨s_.2.2, 0, none⟩))]) (fun s_ w' => (w'.cell? ⟨gb516, 0, none⟩ = some (.int .i64 a0_0) ∧ w'.cell? ⟨gb516, 1, none⟩ = some (.slice A0_1 l0_1.length c0_1) ∧ w'.cell? ⟨gb538, 0, none⟩ = some (.int .i64 t530) ∧ w'.cell? ⟨gb538, 1, none⟩ = some (.slice Ao60 t531.length co60) ∧ w'.cell? ⟨gb539, 0, none⟩ = some (.int .i64 t534) ∧ w'.cell? ⟨gb539, 1, none⟩ = some (.slice Ao63 t535.length co63)) ∧ (Kd.R k36 36 w' w.heap.size (fun k_ => some k_ ≠ (.slice Ao63 t535.length co63 : Value).ownBlock ∧ some k_ ≠ (s_.2.1 : Value).ownBlock) (.slice Ao60 t531.length co60) t531) ∧ (Kd.R k36 36 w' w.heap.size (fun k_ => some k_ ≠ (.slice Ao60 t531.length co60 : Value).ownBlock ∧ some k_ ≠ (s_.2.1 : Value).ownBlock) (.slice Ao63 t535.length co63) t535) ∧ (Kd.R k36 36 w' w.heap.size (fun k_ => some k_ ≠ (.slice Ao60 t531.length co60 : Value).ownBlock ∧ some k_ ≠ (.slice Ao63 t535.length co63 : Value).ownBlock) s_.2.1 y543) ∧ (Kd.R (Kd.int .i64) 3 w' w.heap.size (fun k_ => some k_ ≠ (.slice Ao52 x6_2.length co52 : Value).ownBlock) (.slice Ao51 x5_2.length co51) x5_2) ∧ (Kd.R (Kd.int .i64) 3 w' w.heap.size (fun k_ => some k_ ≠ (.slice Ao51 x5_2.length co51 : Value).ownBlock) (.slice Ao52 x6_2.length co52) x6_2) ∧ (w'.heap[gb516]? = some (.cells #[.int .i64 a0_0, .slice A0_1 l0_1.length c0_1] 24 (0, 0))) ∧ (w'.heap[gb538]? = some (.cells #[.int .i64 t530, .slice Ao60 t531.length co60] 24 (0, 0))) ∧ (w'.heap[gb539]? = some (.cells #[.int .i64 t534, .slice Ao63 t535.length co63] 24 (0, 0))) ∧ (w'.heap[s_.2.2]? = some (.cells #[.int .i64 0, .slice none 0 0] 24 (0, 0))) ∧ (w.heap.size ≤ s_.2.2) ∧ (w.heap.size ≤ s_.2.2) ∧ (gb516 ≠ s_.2.2) ∧ (s_.2.2 ≠ gb516) ∧ (gb538 ≠ s_.2.2) ∧ (s_.2.2 ≠ gb538) ∧ (gb539 ≠ s_.2.2) ∧ (s_.2.2 ≠ gb539) ∧ (Below w.heap.size w w')) ?_ ?_
                rotate_left
                ·intro hJ2_5_13
                 refine join_ (σ := Value × Value) 8 #[true, true, true, true, true, true, true, true, false, false, false, false, false, false, false, false] (fun s_ => [(61, s_.1), (64, s_.2)]) (fun s_ w' => (w'.cell? ⟨gb516, 0, none⟩ = some (.int .i64 a0_0) ∧ w'.cell? ⟨gb516, 1, none⟩ = some (.slice A0_1 l0_1.length c0_1) ∧ w'.cell? ⟨gb538, 0, none⟩ = some (.int .i64 t530) ∧ w'.cell? ⟨gb538, 1, none⟩ = some (.slice Ao60 t531.length co60) ∧ w'.cell? ⟨gb539, 0, none⟩ = some (.int .i64 t534) ∧ w'.cell? ⟨gb539, 1, none⟩ = some (.slice Ao63 t535.length co63)) ∧ (Kd.R k36 36 w' w.heap.size (fun k_ => some k_ ≠ (.slice Ao63 t535.length co63 : Value).ownBlock ∧ some k_ ≠ (s_.2 : Value).ownBlock) (.slice Ao60 t531.length co60) t531) ∧ (Kd.R k36 36 w' w.heap.size (fun k_ => some k_ ≠ (.slice Ao60 t531.length co60 : Value).ownBlock ∧ some k_ ≠ (s_.2 : Value).ownBlock) (.slice Ao63 t535.length co63) t535) ∧ (Kd.R k36 36 w' w.heap.size (fun k_ => some k_ ≠ (.slice Ao60 t531.length co60 : Value).ownBlock ∧ some k_ ≠ (.slice Ao63 t535.length co63 : Value).ownBlock) s_.2 y543) ∧ (Kd.R (Kd.int .i64) 3 w' w.heap.size (fun k_ => some k_ ≠ (.slice Ao52 x6_2.length co52 : Value).ownBlock) (.slice Ao51 x5_2.length co51) x5_2) ∧ (Kd.R (Kd.int .i64) 3 w' w.heap.size (fun k_ => some k_ ≠ (.slice Ao51 x5_2.length co51 : Value).ownBlock) (.slice Ao52 x6_2.length co52) x6_2) ∧ (w'.heap[gb516]? = some (.cells #[.int .i64 a0_0, .slice A0_1 l0_1.length c0_1] 24 (0, 0))) ∧ (w'.heap[gb538]? = some (.cells #[.int .i64 t530, .slice Ao60 t531.length co60] 24 (0, 0))) ∧ (w'.heap[gb539]? = some (.cells #[.int .i64 t534, .slice Ao63 t535.length co63] 24 (0, 0))) ∧ (Below w.heap.size w w')) ?_ ?_
                 rotate_left
                 ·intro hJ2_5
                  refine join_ (σ := Value × Nat) 8 #[true, true, true, true, true, false, true, true, false, false, false, false, false, true, false, false] (fun s_ => [(61, s_.1), (10, .pointer (some ⟨s_.2, 0, none⟩))]) (fun s_ w' => (w'.cell? ⟨gb516, 0, none⟩ = some (.int .i64 a0_0) ∧ w'.cell? ⟨gb516, 1, none⟩ = some (.slice A0_1 l0_1.length c0_1) ∧ w'.cell? ⟨gb538, 0, none⟩ = some (.int .i64 t530) ∧ w'.cell? ⟨gb538, 1, none⟩ = some (.slice Ao60 t531.length co60) ∧ w'.cell? ⟨gb539, 0, none⟩ = some (.int .i64 t534) ∧ w'.cell? ⟨gb539, 1, none⟩ = some (.slice Ao63 t535.length co63)) ∧ (Kd.R k36 36 w' w.heap.size (fun k_ => some k_ ≠ (.slice Ao63 t535.length co63 : Value).ownBlock ∧ some k_ ≠ (s_.1 : Value).ownBlock) (.slice Ao60 t531.length co60) t531) ∧ (Kd.R k36 36 w' w.heap.size (fun k_ => some k_ ≠ (.slice Ao60 t531.length co60 : Value).ownBlock ∧ some k_ ≠ (s_.1 : Value).ownBlock) (.slice Ao63 t535.length co63) t535) ∧ (Kd.R k36 36 w' w.heap.size (fun k_ => some k_ ≠ (.slice Ao60 t531.length co60 : Value).ownBlock ∧ some k_ ≠ (.slice Ao63 t535.length co63 : Value).ownBlock) s_.1 y540) ∧ (Kd.R (Kd.int .i64) 3 w' w.heap.size (fun k_ => some k_ ≠ (.slice Ao52 x6_2.length co52 : Value).ownBlock) (.slice Ao51 x5_2.length co51) x5_2) ∧ (Kd.R (Kd.int .i64) 3 w' w.heap.size (fun k_ => some k_ ≠ (.slice Ao51 x5_2.length co51 : Value).ownBlock) (.slice Ao52 x6_2.length co52) x6_2) ∧ (w'.heap[gb516]? = some (.cells #[.int .i64 a0_0, .slice A0_1 l0_1.length c0_1] 24 (0, 0))) ∧ (w'.heap[gb538]? = some (.cells #[.int .i64 t530, .slice Ao60 t531.length co60] 24 (0, 0))) ∧ (w'.heap[gb539]? = some (.cells #[.int .i64 t534, .slice Ao63 t535.length co63] 24 (0, 0))) ∧ (w'.heap[s_.2]? = some (.cells #[.int .i64 0, .slice none 0 0] 24 (0, 0))) ∧ (w.heap.size ≤ s_.2) ∧ (w.heap.size ≤ s_.2) ∧ (gb516 ≠ s_.2) ∧ (s_.2 ≠ gb516) ∧ (gb538 ≠ s_.2) ∧ (s_.2 ≠ gb538) ∧ (gb539 ≠ s_.2) ∧ (s_.2 ≠ gb539) ∧ (Below w.heap.size w w')) ?_ ?_
                  rotate_left
                  ·intro hJ2_13
                   refine join_ (σ := Value) 9 #[true, true, true, true, true, false, true, true, false, false, false, false, false, false, false, false] (fun s_ => [(61, s_)]) (fun s_ w' => (w'.cell? ⟨gb516, 0, none⟩ = some (.int .i64 a0_0) ∧ w'.cell? ⟨gb516, 1, none⟩ = some (.slice A0_1 l0_1.length c0_1) ∧ w'.cell? ⟨gb538, 0, none⟩ = some (.int .i64 t530) ∧ w'.cell? ⟨gb538, 1, none⟩ = some (.slice Ao60 t531.length co60) ∧ w'.cell? ⟨gb539, 0, none⟩ = some (.int .i64 t534) ∧ w'.cell? ⟨gb539, 1, none⟩ = some (.slice Ao63 t535.length co63)) ∧ (Kd.R k36 36 w' w.heap.size (fun k_ => some k_ ≠ (.slice Ao63 t535.length co63 : Value).ownBlock ∧ some k_ ≠ (s_ : Value).ownBlock) (.slice Ao60 t531.length co60) t531) ∧ (Kd.R k36 36 w' w.heap.size (fun k_ => some k_ ≠ (.slice Ao60 t531.length co60 : Value).ownBlock ∧ some k_ ≠ (s_ : Value).ownBlock) (.slice Ao63 t535.length co63) t535) ∧ (Kd.R k36 36 w' w.heap.size (fun k_ => some k_ ≠ (.slice Ao60 t531.length co60 : Value).ownBlock ∧ some k_ ≠ (.slice Ao63 t535.length co63 : Value).ownBlock) s_ y540) ∧ (Kd.R (Kd.int .i64) 3 w' w.heap.size (fun k_ => some k_ ≠ (.slice Ao52 x6_2.length co52 : Value).ownBlock) (.slice Ao51 x5_2.length co51) x5_2) ∧ (Kd.R (Kd.int .i64) 3 w' w.heap.size (fun k_ => some k_ ≠ (.slice Ao51 x5_2.length co51 : Value).ownBlock) (.slice Ao52 x6_2.length co52) x6_2) ∧ (w'.heap[gb516]? = some (.cells #[.int .i64 a0_0, .slice A0_1 l0_1.length c0_1] 24 (0, 0))) ∧ (w'.heap[gb538]? = some (.cells #[.int .i64 t530, .slice Ao60 t531.length co60] 24 (0, 0))) ∧ (w'.heap[gb539]? = some (.cells #[.int .i64 t534, .slice Ao63 t535.length co63] 24 (0, 0))) ∧ (Below w.heap.size w w')) ?_ ?_
                   rotate_left
                   ·intro hJ2
                    refine join_ (σ := Nat) 9 #[true, true, false, true, true, false, true, true, false, false, false, false, false, true, false, false] (fun s_ => [(10, .pointer (some ⟨s_, 0, none⟩))]) (fun s_ w' => (w'.cell? ⟨gb516, 0, none⟩ = some (.int .i64 a0_0) ∧ w'.cell? ⟨gb516, 1, none⟩ = some (.slice A0_1 l0_1.length c0_1) ∧ w'.cell? ⟨gb538, 0, none⟩ = some (.int .i64 t530) ∧ w'.cell? ⟨gb538, 1, none⟩ = some (.slice Ao60 t531.length co60) ∧ w'.cell? ⟨gb539, 0, none⟩ = some (.int .i64 t534) ∧ w'.cell? ⟨gb539, 1, none⟩ = some (.slice Ao63 t535.length co63)) ∧ (Kd.R k36 36 w' w.heap.size (fun k_ => some k_ ≠ (.slice Ao63 t535.length co63 : Value).ownBlock) (.slice Ao60 t531.length co60) t531) ∧ (Kd.R k36 36 w' w.heap.size (fun k_ => some k_ ≠ (.slice Ao60 t531.length co60 : Value).ownBlock) (.slice Ao63 t535.length co63) t535) ∧ (Kd.R (Kd.int .i64) 3 w' w.heap.size (fun k_ => some k_ ≠ (.slice Ao52 x6_2.length co52 : Value).ownBlock) (.slice Ao51 x5_2.length co51) x5_2) ∧ (Kd.R (Kd.int .i64) 3 w' w.heap.size (fun k_ => some k_ ≠ (.slice Ao51 x5_2.length co51 : Value).ownBlock) (.slice Ao52 x6_2.length co52) x6_2) ∧ (w'.heap[gb516]? = some (.cells #[.int .i64 a0_0, .slice A0_1 l0_1.length c0_1] 24 (0, 0))) ∧ (w'.heap[gb538]? = some (.cells #[.int .i64 t530, .slice Ao60 t531.length co60] 24 (0, 0))) ∧ (w'.heap[gb539]? = some (.cells #[.int .i64 t534, .slice Ao63 t535.length co63] 24 (0, 0))) ∧ (w'.heap[s_]? = some (.cells #[.int .i64 0, .slice none 0 0] 24 (0, 0))) ∧ (w.heap.size ≤ s_) ∧ (w.heap.size ≤ s_) ∧ (gb516 ≠ s_) ∧ (s_ ≠ gb516) ∧ (gb538 ≠ s_) ∧ (s_ ≠ gb538) ∧ (gb539 ≠ s_) ∧ (s_ ≠ gb539) ∧ (Below w.heap.size w w')) ?_ ?_
                    rotate_left
                    ·intro hJ13
                     refine two_ (i := 2) (j := 13) (Ni := some 61) (Nj := some 10) #[true, true, true, true, true, false, true, true, false, false, false, false, false, false, false, false] #[true, true, false, true, true, false, true, true, false, false, false, false, false, true, false, false] rfl rfl rfl rfl (two_of HT_.out (by kernel_rfl)) (by decide) (by decide) (fun K hK => ?_) (fun K hK => ?_)
                     ·skip
                      refine Kd.R_lit_step k36 _ 36 ?hg (N := 61) ?hd (xs := ([] : List (S36))) (inner := []) (ok := fun _ => True) (okp := fun _ => True) ?hr ?hp (fun _ hk => hk) trivial (Below.refl _ _) (Nat.le_refl _) (by simp) ?_; (case hd => rfl); (case hg => rfl); (case hr => first | (go_simp; done) | (go_simp; rfl) | (go_simp; rw [show ∀ x : Int, IntKind.u32.wrap (IntKind.u8.wrap x) = x % 256 from fun x => (by show (x % 256) % 4294967296 = x % 256; omega)])); (case hp => exact (Reps.none _ _))
                      intro v541 w67 ho68 hb hg_ hnew_
                      clear hg_ hnew_
                      (first | rw [← Ny540.out] at ho68 | (simp only [Int.reduceToNat] at ho68; rw [← Ny540.out] at ho68))
                      replace HO_5 := zMk (zRb (uR HO_5.out) hb)
                      replace HO_6 := zMk (zRb (uR HO_6.out) hb)
                      have HO542 := zMk (zRl (zRw (zRw ho68 (zRt (uR HO533.out))) (zRt (uR HO537.out))) (zBs (uT HB.out)))
                      replace HO533 := zMk (zRe (uR HO533.out) (zRz ho68) hb)
                      replace HO537 := zMk (zRe (uR HO537.out) (zRz ho68) hb)
                      replace BK516 := zMk (zKb BK516.out hb)
                      replace BK538 := zMk (zKb BK538.out hb)
                      replace BK539 := zMk (zKb BK539.out hb)
                      replace HB := zMk (zBt (uT HB.out) hb)
                      clear hb ho68
                      refine hK.out _ _ ⟨(zKc BK516.out 0).trans rfl, (zKc BK516.out 1).trans rfl, (zKc BK538.out 0).trans rfl, (zKc BK538.out 1).trans rfl, (zKc BK539.out 0).trans rfl, (zKc BK539.out 1).trans rfl⟩ (fun hHeld => ?_)
                      clear hK K
                      refine norm_ (a' := ?_) ?_ ?_
                      rotate_left
                      ·show Act.put _ (some 61) _ = _
                       simp only [Act.put, zSa, zSb, zSc, i64_w, i32_w]
                       rfl
                      exact norm_ (by first | (simp only [putAll, Act.put, zSa, zSb, zSc]; done) | (simp only [putAll, Act.put, zSa, zSb, zSc]; rfl)) (hJ2 (v541) _ ⟨hHeld, (uR HO533.out), (uR HO537.out), (zRm HO542.out (fun _ hk => ⟨hk.1.2, hk.2⟩)), (uR HO_5.out), (uR HO_6.out), BK516.out, BK538.out, BK539.out, (uT HB.out)⟩)
                     ·skip
                      refine box_step ?hg (N := 10) ?hd (cs := #[.int .i64 0, .slice none 0 0]) (t := 24) ?hr ?_; (case hd => rfl); (case hg => rfl); (case hr => first | (go_simp; done) | (go_simp; rfl) | (go_simp; rw [show ∀ x : Int, IntKind.u32.wrap (IntKind.u8.wrap x) = x % 256 from fun x => (by show (x % 256) % 4294967296 = x % 256; omega)]))
                      intro gb554 hg w67 hbox hb
                      replace HO_5 := zMk (zRb (uR HO_5.out) hb)
                      replace HO_6 := zMk (zRb (uR HO_6.out) hb)
                      replace HO533 := zMk (zRb (uR HO533.out) hb)
                      replace HO537 := zMk (zRb (uR HO537.out) hb)
                      have BK554 := zMk (hbox)
                      have GW554 := zMk ((by rw [hg]; exact (zBs (uT HB.out)) : w.heap.size ≤ gb554))
                      have GE554 := zMk ((by rw [hg]; exact (zBs (uT HB.out)) : w.heap.size ≤ gb554))
                      have IGE554 := ownGe GE554.out
                      replace HB := zMk (zBt (uT HB.out) hb)
                      have NB516_554 := zMk ((by rw [hg]; exact Nat.ne_of_lt (blk_lt BK516.out) : gb516 ≠ gb554))
                      have NB554_516 := zMk ((by rw [hg]; exact Nat.ne_of_gt (blk_lt BK516.out) : gb554 ≠ gb516))
                      replace BK516 := zMk (zKb BK516.out hb)
                      have NB538_554 := zMk ((by rw [hg]; exact Nat.ne_of_lt (blk_lt BK538.out) : gb538 ≠ gb554))
                      have NB554_538 := zMk ((by rw [hg]; exact Nat.ne_of_gt (blk_lt BK538.out) : gb554 ≠ gb538))
                      replace BK538 := zMk (zKb BK538.out hb)
                      have NB539_554 := zMk ((by rw [hg]; exact Nat.ne_of_lt (blk_lt BK539.out) : gb539 ≠ gb554))
                      have NB554_539 := zMk ((by rw [hg]; exact Nat.ne_of_gt (blk_lt BK539.out) : gb554 ≠ gb539))
                      replace BK539 := zMk (zKb BK539.out hb)
                      clear hb hbox hg
                      refine hK.out _ _ ⟨(zKc BK516.out 0).trans rfl, (zKc BK516.out 1).trans rfl, (zKc BK538.out 0).trans rfl, (zKc BK538.out 1).trans rfl, (zKc BK539.out 0).trans rfl, (zKc BK539.out 1).trans rfl⟩ (fun hHeld => ?_)
                      clear hK K
                      refine norm_ (a' := ?_) ?_ ?_
                      rotate_left
                      ·show Act.put _ (some 10) _ = _
                       simp only [Act.put, zSa, zSb, zSc, i64_w, i32_w]
                       rfl
                      exact norm_ (by first | (simp only [putAll, Act.put, zSa, zSb, zSc]; done) | (simp only [putAll, Act.put, zSa, zSb, zSc]; rfl)) (hJ13 (gb554) _ ⟨hHeld, (uR HO533.out), (uR HO537.out), (uR HO_5.out), (uR HO_6.out), BK516.out, BK538.out, BK539.out, BK554.out, GW554.out, GE554.out, NB516_554.out, NB554_516.out, NB538_554.out, NB554_538.out, NB539_554.out, NB554_539.out, (uT HB.out)⟩)
                    ·skip
                     rintro gb554 w68 ⟨hS_, h0_, h1_, h2_, h3_, h4_, h5_, h6_, h7_, h8_, h9_, h10_, h11_, h12_, h13_, h14_, h15_, h16_⟩
                     have n0_ : Aside0 (Kd.R k36 36 w68 w.heap.size (fun k_ => some k_ ≠ (.slice Ao63 t535.length co63 : Value).ownBlock) (.slice Ao60 t531.length co60) t531) := ⟨h0_⟩
                     have n1_ : Aside0 (Kd.R k36 36 w68 w.heap.size (fun k_ => some k_ ≠ (.slice Ao60 t531.length co60 : Value).ownBlock) (.slice Ao63 t535.length co63) t535) := ⟨h1_⟩
                     have n2_ : Aside0 (Kd.R (Kd.int .i64) 3 w68 w.heap.size (fun k_ => some k_ ≠ (.slice Ao52 x6_2.length co52 : Value).ownBlock) (.slice Ao51 x5_2.length co51) x5_2) := ⟨h2_⟩
                     have n3_ : Aside0 (Kd.R (Kd.int .i64) 3 w68 w.heap.size (fun k_ => some k_ ≠ (.slice Ao51 x5_2.length co51 : Value).ownBlock) (.slice Ao52 x6_2.length co52) x6_2) := ⟨h3_⟩
                     have n4_ : Aside0 (w68.heap[gb516]? = some (.cells #[.int .i64 a0_0, .slice A0_1 l0_1.length c0_1] 24 (0, 0))) := ⟨h4_⟩
                     have n5_ : Aside0 (w68.heap[gb538]? = some (.cells #[.int .i64 t530, .slice Ao60 t531.length co60] 24 (0, 0))) := ⟨h5_⟩
                     have n6_ : Aside0 (w68.heap[gb539]? = some (.cells #[.int .i64 t534, .slice Ao63 t535.length co63] 24 (0, 0))) := ⟨h6_⟩
                     have n7_ : Aside0 (w68.heap[gb554]? = some (.cells #[.int .i64 0, .slice none 0 0] 24 (0, 0))) := ⟨h7_⟩
                     have n8_ : Aside0 (w.heap.size ≤ gb554) := ⟨h8_⟩
                     have n9_ : Aside0 (w.heap.size ≤ gb554) := ⟨h9_⟩
                     have n10_ : Aside0 (gb516 ≠ gb554) := ⟨h10_⟩
                     have n11_ : Aside0 (gb554 ≠ gb516) := ⟨h11_⟩
                     have n12_ : Aside0 (gb538 ≠ gb554) := ⟨h12_⟩
                     have n13_ : Aside0 (gb554 ≠ gb538) := ⟨h13_⟩
                     have n14_ : Aside0 (gb539 ≠ gb554) := ⟨h14_⟩
                     have n15_ : Aside0 (gb554 ≠ gb539) := ⟨h15_⟩
                     have n16_ : Aside0 (Below w.heap.size w w68) := ⟨h16_⟩
                     clear HO_5 HO_6 HO533 HO537 BK516 BK538 BK539 HB h0_ h1_ h2_ h3_ h4_ h5_ h6_ h7_ h8_ h9_ h10_ h11_ h12_ h13_ h14_ h15_ h16_
                     have HO533 := n0_
                     have HO537 := n1_
                     have HO_5 := n2_
                     have HO_6 := n3_
                     have BK516 := n4_
                     have BK538 := n5_
                     have BK539 := n6_
                     have BK554 := n7_
                     have GW554 := n8_
                     have GE554 := n9_
                     have IGE554 := ownGe GE554.out
                     have NB516_554 := n10_
                     have NB554_516 := n11_
                     have NB538_554 := n12_
                     have NB554_538 := n13_
                     have NB539_554 := n14_
                     have NB554_539 := n15_
                     have HB := n16_
                     clear n0_ n1_ n2_ n3_ n4_ n5_ n6_ n7_ n8_ n9_ n10_ n11_ n12_ n13_ n14_ n15_ n16_
                     have hHeld : w68.cell? ⟨gb516, 0, none⟩ = some (.int .i64 a0_0) ∧ w68.cell? ⟨gb516, 1, none⟩ = some (.slice A0_1 l0_1.length c0_1) ∧ w68.cell? ⟨gb538, 0, none⟩ = some (.int .i64 t530) ∧ w68.cell? ⟨gb538, 1, none⟩ = some (.slice Ao60 t531.length co60) ∧ w68.cell? ⟨gb539, 0, none⟩ = some (.int .i64 t534) ∧ w68.cell? ⟨gb539, 1, none⟩ = some (.slice Ao63 t535.length co63) := hS_
                     refine norm_ (a' := ?_) ?_ ?_
                     rotate_left
                     ·simp only [putAll, Act.put, zSa, zSb, zSc]
                      rfl
                     refine one_ (i := 2) (N := some 61) #[true, true, true, true, true, false, true, true, false, false, false, false, false, true, false, false] rfl rfl (one_of HT_.out (by kernel_rfl)) (by decide) (fun K hK => ?_)
                     refine Kd.R_lit_step k36 _ 36 ?hg (N := 61) ?hd (xs := ([] : List (S36))) (inner := []) (ok := fun _ => True) (okp := fun _ => True) ?hr ?hp (fun _ hk => hk) trivial (Below.refl _ _) (Nat.le_refl _) (by simp) ?_; (case hd => rfl); (case hg => rfl); (case hr => first | (go_simp; done) | (go_simp; rfl) | (go_simp; rw [show ∀ x : Int, IntKind.u32.wrap (IntKind.u8.wrap x) = x % 256 from fun x => (by show (x % 256) % 4294967296 = x % 256; omega)])); (case hp => exact (Reps.none _ _))
                     intro v541 w69 ho70 hb hg_ hnew_
                     clear hg_ hnew_
                     (first | rw [← Ny540.out] at ho70 | (simp only [Int.reduceToNat] at ho70; rw [← Ny540.out] at ho70))
                     replace HO_5 := zMk (zRb (uR HO_5.out) hb)
                     replace HO_6 := zMk (zRb (uR HO_6.out) hb)
                     have HO542 := zMk (zRl (zRw (zRw ho70 (zRt (uR HO533.out))) (zRt (uR HO537.out))) (zBs (uT HB.out)))
                     replace HO533 := zMk (zRe (uR HO533.out) (zRz ho70) hb)
                     replace HO537 := zMk (zRe (uR HO537.out) (zRz ho70) hb)
                     replace BK516 := zMk (zKb BK516.out hb)
                     replace BK538 := zMk (zKb BK538.out hb)
                     replace BK539 := zMk (zKb BK539.out hb)
                     replace BK554 := zMk (zKb BK554.out hb)
                     replace HB := zMk (zBt (uT HB.out) hb)
                     clear hb ho70
                     refine hK.out _ _ ⟨(zKc BK516.out 0).trans rfl, (zKc BK516.out 1).trans rfl, (zKc BK538.out 0).trans rfl, (zKc BK538.out 1).trans rfl, (zKc BK539.out 0).trans rfl, (zKc BK539.out 1).trans rfl⟩ (fun hHeld => ?_)
                     clear hK K
                     refine norm_ (a' := ?_) ?_ ?_
                     rotate_left
                     ·show Act.put _ (some 61) _ = _
                      simp only [Act.put, zSa, zSb, zSc, i64_w, i32_w]
                      rfl
                     exact norm_ (by first | (simp only [putAll, Act.put, zSa, zSb, zSc]; done) | (simp only [putAll, Act.put, zSa, zSb, zSc]; rfl)) (hJ2_13 (v541, gb554) _ ⟨hHeld, (uR HO533.out), (uR HO537.out), (zRm HO542.out (fun _ hk => ⟨hk.1.2, hk.2⟩)), (uR HO_5.out), (uR HO_6.out), BK516.out, BK538.out, BK539.out, BK554.out, GW554.out, GE554.out, NB516_554.out, NB554_516.out, NB538_554.out, NB554_538.out, NB539_554.out, NB554_539.out, (uT HB.out)⟩)
                   ·skip
                    rintro v541 w69 ⟨hS_, h0_, h1_, h2_, h3_, h4_, h5_, h6_, h7_, h8_⟩
                    have n0_ : Aside0 (Kd.R k36 36 w69 w.heap.size (fun k_ => some k_ ≠ (.slice Ao63 t535.length co63 : Value).ownBlock ∧ some k_ ≠ (v541 : Value).ownBlock) (.slice Ao60 t531.length co60) t531) := ⟨h0_⟩
                    have n1_ : Aside0 (Kd.R k36 36 w69 w.heap.size (fun k_ => some k_ ≠ (.slice Ao60 t531.length co60 : Value).ownBlock ∧ some k_ ≠ (v541 : Value).ownBlock) (.slice Ao63 t535.length co63) t535) := ⟨h1_⟩
                    have n2_ : Aside0 (Kd.R k36 36 w69 w.heap.size (fun k_ => some k_ ≠ (.slice Ao60 t531.length co60 : Value).ownBlock ∧ some k_ ≠ (.slice Ao63 t535.length co63 : Value).ownBlock) v541 y540) := ⟨h2_⟩
                    have n3_ : Aside0 (Kd.R (Kd.int .i64) 3 w69 w.heap.size (fun k_ => some k_ ≠ (.slice Ao52 x6_2.length co52 : Value).ownBlock) (.slice Ao51 x5_2.length co51) x5_2) := ⟨h3_⟩
                    have n4_ : Aside0 (Kd.R (Kd.int .i64) 3 w69 w.heap.size (fun k_ => some k_ ≠ (.slice Ao51 x5_2.length co51 : Value).ownBlock) (.slice Ao52 x6_2.length co52) x6_2) := ⟨h4_⟩
                    have n5_ : Aside0 (w69.heap[gb516]? = some (.cells #[.int .i64 a0_0, .slice A0_1 l0_1.length c0_1] 24 (0, 0))) := ⟨h5_⟩
                    have n6_ : Aside0 (w69.heap[gb538]? = some (.cells #[.int .i64 t530, .slice Ao60 t531.length co60] 24 (0, 0))) := ⟨h6_⟩
                    have n7_ : Aside0 (w69.heap[gb539]? = some (.cells #[.int .i64 t534, .slice Ao63 t535.length co63] 24 (0, 0))) := ⟨h7_⟩
                    have n8_ : Aside0 (Below w.heap.size w w69) := ⟨h8_⟩
                    clear HO_5 HO_6 HO533 HO537 BK516 BK538 BK539 HB h0_ h1_ h2_ h3_ h4_ h5_ h6_ h7_ h8_
                    have HO533 := n0_
                    have HO537 := n1_
                    have HO542 := n2_
                    have HO_5 := n3_
                    have HO_6 := n4_
                    have BK516 := n5_
                    have BK538 := n6_
                    have BK539 := n7_
                    have HB := n8_
                    clear n0_ n1_ n2_ n3_ n4_ n5_ n6_ n7_ n8_
                    have hHeld : w69.cell? ⟨gb516, 0, none⟩ = some (.int .i64 a0_0) ∧ w69.cell? ⟨gb516, 1, none⟩ = some (.slice A0_1 l0_1.length c0_1) ∧ w69.cell? ⟨gb538, 0, none⟩ = some (.int .i64 t530) ∧ w69.cell? ⟨gb538, 1, none⟩ = some (.slice Ao60 t531.length co60) ∧ w69.cell? ⟨gb539, 0, none⟩ = some (.int .i64 t534) ∧ w69.cell? ⟨gb539, 1, none⟩ = some (.slice Ao63 t535.length co63) := hS_
                    refine norm_ (a' := ?_) ?_ ?_
                    rotate_left
                    ·simp only [putAll, Act.put, zSa, zSb, zSc]
                     rfl
                    refine two_ (i := 5) (j := 13) (Ni := some 64) (Nj := some 10) #[true, true, true, true, true, true, true, true, false, false, false, false, false, false, false, false] #[true, true, true, true, true, false, true, true, false, false, false, false, false, true, false, false] rfl rfl rfl rfl (two_of HT_.out (by kernel_rfl)) (by decide) (by decide) (fun K hK => ?_) (fun K hK => ?_)
                    ·skip
                     refine Kd.R_append_rows_step k36 (w0 := w) w.heap.size (by rfl) (.tmp 61) (.tmp 63) 22 36 (.agg #[(.int .i64 0), (.int .i64 0), (.int .i64 0)]) 24 rfl Try.underlying22 info36 rfl (by decide) (by omega) v541 y540 t531 _ _ _ (fun k_ => some k_ ≠ (.slice Ao60 t531.length co60 : Value).ownBlock ∧ some k_ ≠ (.slice Ao63 t535.length co63 : Value).ownBlock) (fun _ => False) rfl rfl ?aO ?aR (fun _ _ h => h) (fun _ h => h.elim) ?aF ?aB ?aS ?aL ?_
                     (case aR => exact uC (zRr HO533.out).2.2)
                     (case aB => exact (uT HB.out))
                     (case aF => exact (fun k_ hk => ⟨Kd.fresh' (zRt (uR HO533.out)) k_ hk, Kd.fresh' (zRt (uR HO537.out)) k_ hk⟩))
                     (case aO => exact (uR HO542.out))
                     (case aS => exact (zBs (uT HB.out)))
                     (case aL => have := LMc33.out; omega)
                     intro v544 w70 ho hb hg hat
                     rw [← Ny543.out] at ho
                     replace HO_5 := zMk (Kd.R_over' (uR HO_5.out) (Kd.R_typed (uR HO542.out)) (by decide) hg)
                     replace HO_6 := zMk (Kd.R_over' (uR HO_6.out) (Kd.R_typed (uR HO542.out)) (by decide) hg)
                     replace BK516 := zMk (blk_grown (g := gb516) (o := .cells #[.int .i64 a0_0, .slice A0_1 l0_1.length c0_1] 24 (0, 0)) BK516.out hg (Kd.R_ne HO542.out BK516.out (by decide)))
                     replace HO533 := zMk (Kd.R_after (ok := (fun k_ => some k_ ≠ (.slice Ao63 t535.length co63 : Value).ownBlock)) (uR HO533.out) hg hat)
                     replace HO537 := zMk (Kd.R_after (ok := (fun k_ => some k_ ≠ (.slice Ao60 t531.length co60 : Value).ownBlock)) (uR HO537.out) hg hat)
                     replace BK538 := zMk (blk_grown (g := gb538) (o := .cells #[.int .i64 t530, .slice Ao60 t531.length co60] 24 (0, 0)) BK538.out hg (Kd.R_ne HO542.out BK538.out (by decide)))
                     replace BK539 := zMk (blk_grown (g := gb539) (o := .cells #[.int .i64 t534, .slice Ao63 t535.length co63] 24 (0, 0)) BK539.out hg (Kd.R_ne HO542.out BK539.out (by decide)))
                     replace HB := zMk (hb)
                     have HO545 := zMk (ho)
                     clear HO542 ho hb hg hat
                     refine hK.out _ _ ⟨(zKc BK516.out 0).trans rfl, (zKc BK516.out 1).trans rfl, (zKc BK538.out 0).trans rfl, (zKc BK538.out 1).trans rfl, (zKc BK539.out 0).trans rfl, (zKc BK539.out 1).trans rfl⟩ (fun hHeld => ?_)
                     clear hK K
                     refine norm_ (a' := ?_) ?_ ?_
                     rotate_left
                     ·show Act.put _ (some 64) _ = _
                      simp only [Act.put, zSa, zSb, zSc, i64_w, i32_w]
                      rfl
                     exact norm_ (by first | (simp only [putAll, Act.put, zSa, zSb, zSc]; done) | (simp only [putAll, Act.put, zSa, zSb, zSc]; rfl)) (hJ2_5 (v541, v544) _ ⟨hHeld, (uR HO533.out), (uR HO537.out), (uR HO545.out), (uR HO_5.out), (uR HO_6.out), BK516.out, BK538.out, BK539.out, (uT HB.out)⟩)
                    ·skip
                     refine box_step ?hg (N := 10) ?hd (cs := #[.int .i64 0, .slice none 0 0]) (t := 24) ?hr ?_; (case hd => rfl); (case hg => rfl); (case hr => first | (go_simp; done) | (go_simp; rfl) | (go_simp; rw [show ∀ x : Int, IntKind.u32.wrap (IntKind.u8.wrap x) = x % 256 from fun x => (by show (x % 256) % 4294967296 = x % 256; omega)]))
                     intro gb554 hg w70 hbox hb
                     replace HO_5 := zMk (zRb (uR HO_5.out) hb)
                     replace HO_6 := zMk (zRb (uR HO_6.out) hb)
                     replace HO533 := zMk (zRb (uR HO533.out) hb)
                     replace HO537 := zMk (zRb (uR HO537.out) hb)
                     replace HO542 := zMk (zRb (uR HO542.out) hb)
                     have BK554 := zMk (hbox)
                     have GW554 := zMk ((by rw [hg]; exact (zBs (uT HB.out)) : w.heap.size ≤ gb554))
                     have GE554 := zMk ((by rw [hg]; exact (zBs (uT HB.out)) : w.heap.size ≤ gb554))
                     have IGE554 := ownGe GE554.out
                     replace HB := zMk (zBt (uT HB.out) hb)
                     have NB516_554 := zMk ((by rw [hg]; exact Nat.ne_of_lt (blk_lt BK516.out) : gb516 ≠ gb554))
                     have NB554_516 := zMk ((by rw [hg]; exact Nat.ne_of_gt (blk_lt BK516.out) : gb554 ≠ gb516))
                     replace BK516 := zMk (zKb BK516.out hb)
                     have NB538_554 := zMk ((by rw [hg]; exact Nat.ne_of_lt (blk_lt BK538.out) : gb538 ≠ gb554))
                     have NB554_538 := zMk ((by rw [hg]; exact Nat.ne_of_gt (blk_lt BK538.out) : gb554 ≠ gb538))
                     replace BK538 := zMk (zKb BK538.out hb)
                     have NB539_554 := zMk ((by rw [hg]; exact Nat.ne_of_lt (blk_lt BK539.out) : gb539 ≠ gb554))
                     have NB554_539 := zMk ((by rw [hg]; exact Nat.ne_of_gt (blk_lt BK539.out) : gb554 ≠ gb539))
                     replace BK539 := zMk (zKb BK539.out hb)
                     clear hb hbox hg
                     refine hK.out _ _ ⟨(zKc BK516.out 0).trans rfl, (zKc BK516.out 1).trans rfl, (zKc BK538.out 0).trans rfl, (zKc BK538.out 1).trans rfl, (zKc BK539.out 0).trans rfl, (zKc BK539.out 1).trans rfl⟩ (fun hHeld => ?_)
                     clear hK K
                     refine norm_ (a' := ?_) ?_ ?_
                     rotate_left
                     ·show Act.put _ (some 10) _ = _
                      simp only [Act.put, zSa, zSb, zSc, i64_w, i32_w]
                      rfl
                     exact norm_ (by first | (simp only [putAll, Act.put, zSa, zSb, zSc]; done) | (simp only [putAll, Act.put, zSa, zSb, zSc]; rfl)) (hJ2_13 (v541, gb554) _ ⟨hHeld, (uR HO533.out), (uR HO537.out), (uR HO542.out), (uR HO_5.out), (uR HO_6.out), BK516.out, BK538.out, BK539.out, BK554.out, GW554.out, GE554.out, NB516_554.out, NB554_516.out, NB538_554.out, NB554_538.out, NB539_554.out, NB554_539.out, (uT HB.out)⟩)
                  ·skip
                   rintro ⟨v541, gb554⟩ w70 ⟨hS_, h0_, h1_, h2_, h3_, h4_, h5_, h6_, h7_, h8_, h9_, h10_, h11_, h12_, h13_, h14_, h15_, h16_, h17_⟩
                   have n0_ : Aside0 (Kd.R k36 36 w70 w.heap.size (fun k_ => some k_ ≠ (.slice Ao63 t535.length co63 : Value).ownBlock ∧ some k_ ≠ (v541 : Value).ownBlock) (.slice Ao60 t531.length co60) t531) := ⟨h0_⟩
                   have n1_ : Aside0 (Kd.R k36 36 w70 w.heap.size (fun k_ => some k_ ≠ (.slice Ao60 t531.length co60 : Value).ownBlock ∧ some k_ ≠ (v541 : Value).ownBlock) (.slice Ao63 t535.length co63) t535) := ⟨h1_⟩
                   have n2_ : Aside0 (Kd.R k36 36 w70 w.heap.size (fun k_ => some k_ ≠ (.slice Ao60 t531.length co60 : Value).ownBlock ∧ some k_ ≠ (.slice Ao63 t535.length co63 : Value).ownBlock) v541 y540) := ⟨h2_⟩
                   have n3_ : Aside0 (Kd.R (Kd.int .i64) 3 w70 w.heap.size (fun k_ => some k_ ≠ (.slice Ao52 x6_2.length co52 : Value).ownBlock) (.slice Ao51 x5_2.length co51) x5_2) := ⟨h3_⟩
                   have n4_ : Aside0 (Kd.R (Kd.int .i64) 3 w70 w.heap.size (fun k_ => some k_ ≠ (.slice Ao51 x5_2.length co51 : Value).ownBlock) (.slice Ao52 x6_2.length co52) x6_2) := ⟨h4_⟩
                   have n5_ : Aside0 (w70.heap[gb516]? = some (.cells #[.int .i64 a0_0, .slice A0_1 l0_1.length c0_1] 24 (0, 0))) := ⟨h5_⟩
                   have n6_ : Aside0 (w70.heap[gb538]? = some (.cells #[.int .i64 t530, .slice Ao60 t531.length co60] 24 (0, 0))) := ⟨h6_⟩
                   have n7_ : Aside0 (w70.heap[gb539]? = some (.cells #[.int .i64 t534, .slice Ao63 t535.length co63] 24 (0, 0))) := ⟨h7_⟩
                   have n8_ : Aside0 (w70.heap[gb554]? = some (.cells #[.int .i64 0, .slice none 0 0] 24 (0, 0))) := ⟨h8_⟩
                   have n9_ : Aside0 (w.heap.size ≤ gb554) := ⟨h9_⟩
                   have n10_ : Aside0 (w.heap.size ≤ gb554) := ⟨h10_⟩
                   have n11_ : Aside0 (gb516 ≠ gb554) := ⟨h11_⟩
                   have n12_ : Aside0 (gb554 ≠ gb516) := ⟨h12_⟩
                   have n13_ : Aside0 (gb538 ≠ gb554) := ⟨h13_⟩
                   have n14_ : Aside0 (gb554 ≠ gb538) := ⟨h14_⟩
                   have n15_ : Aside0 (gb539 ≠ gb554) := ⟨h15_⟩
                   have n16_ : Aside0 (gb554 ≠ gb539) := ⟨h16_⟩
                   have n17_ : Aside0 (Below w.heap.size w w70) := ⟨h17_⟩
                   clear HO_5 HO_6 HO533 HO537 BK516 BK538 BK539 HB h0_ h1_ h2_ h3_ h4_ h5_ h6_ h7_ h8_ h9_ h10_ h11_ h12_ h13_ h14_ h15_ h16_ h17_
                   have HO533 := n0_
                   have HO537 := n1_
                   have HO542 := n2_
                   have HO_5 := n3_
                   have HO_6 := n4_
                   have BK516 := n5_
                   have BK538 := n6_
                   have BK539 := n7_
                   have BK554 := n8_
                   have GW554 := n9_
                   have GE554 := n10_
                   have IGE554 := ownGe GE554.out
                   have NB516_554 := n11_
                   have NB554_516 := n12_
                   have NB538_554 := n13_
                   have NB554_538 := n14_
                   have NB539_554 := n15_
                   have NB554_539 := n16_
                   have HB := n17_
                   clear n0_ n1_ n2_ n3_ n4_ n5_ n6_ n7_ n8_ n9_ n10_ n11_ n12_ n13_ n14_ n15_ n16_ n17_
                   have hHeld : w70.cell? ⟨gb516, 0, none⟩ = some (.int .i64 a0_0) ∧ w70.cell? ⟨gb516, 1, none⟩ = some (.slice A0_1 l0_1.length c0_1) ∧ w70.cell? ⟨gb538, 0, none⟩ = some (.int .i64 t530) ∧ w70.cell? ⟨gb538, 1, none⟩ = some (.slice Ao60 t531.length co60) ∧ w70.cell? ⟨gb539, 0, none⟩ = some (.int .i64 t534) ∧ w70.cell? ⟨gb539, 1, none⟩ = some (.slice Ao63 t535.length co63) := hS_
                   refine norm_ (a' := ?_) ?_ ?_
                   rotate_left
                   ·simp only [putAll, Act.put, zSa, zSb, zSc]
                    rfl
                   refine one_ (i := 5) (N := some 64) #[true, true, true, true, true, true, true, true, false, false, false, false, false, true, false, false] rfl rfl (one_of HT_.out (by kernel_rfl)) (by decide) (fun K hK => ?_)
                   refine Kd.R_append_rows_step k36 (w0 := w) w.heap.size (by rfl) (.tmp 61) (.tmp 63) 22 36 (.agg #[(.int .i64 0), (.int .i64 0), (.int .i64 0)]) 24 rfl Try.underlying22 info36 rfl (by decide) (by omega) v541 y540 t531 _ _ _ (fun k_ => some k_ ≠ (.slice Ao60 t531.length co60 : Value).ownBlock ∧ some k_ ≠ (.slice Ao63 t535.length co63 : Value).ownBlock) (fun _ => False) rfl rfl ?aO ?aR (fun _ _ h => h) (fun _ h => h.elim) ?aF ?aB ?aS ?aL ?_
                   (case aR => exact uC (zRr HO533.out).2.2)
                   (case aB => exact (uT HB.out))
                   (case aF => exact (fun k_ hk => ⟨Kd.fresh' (zRt (uR HO533.out)) k_ hk, Kd.fresh' (zRt (uR HO537.out)) k_ hk⟩))
                   (case aO => exact (uR HO542.out))
                   (case aS => exact (zBs (uT HB.out)))
                   (case aL => have := LMc33.out; omega)
                   intro v544 w71 ho hb hg hat
                   rw [← Ny543.out] at ho
                   replace HO_5 := zMk (Kd.R_over' (uR HO_5.out) (Kd.R_typed (uR HO542.out)) (by decide) hg)
                   replace HO_6 := zMk (Kd.R_over' (uR HO_6.out) (Kd.R_typed (uR HO542.out)) (by decide) hg)
                   replace BK516 := zMk (blk_grown (g := gb516) (o := .cells #[.int .i64 a0_0, .slice A0_1 l0_1.length c0_1] 24 (0, 0)) BK516.out hg (Kd.R_ne HO542.out BK516.out (by decide)))
                   replace HO533 := zMk (Kd.R_after (ok := (fun k_ => some k_ ≠ (.slice Ao63 t535.length co63 : Value).ownBlock)) (uR HO533.out) hg hat)
                   replace HO537 := zMk (Kd.R_after (ok := (fun k_ => some k_ ≠ (.slice Ao60 t531.length co60 : Value).ownBlock)) (uR HO537.out) hg hat)
                   replace BK538 := zMk (blk_grown (g := gb538) (o := .cells #[.int .i64 t530, .slice Ao60 t531.length co60] 24 (0, 0)) BK538.out hg (Kd.R_ne HO542.out BK538.out (by decide)))
                   replace BK539 := zMk (blk_grown (g := gb539) (o := .cells #[.int .i64 t534, .slice Ao63 t535.length co63] 24 (0, 0)) BK539.out hg (Kd.R_ne HO542.out BK539.out (by decide)))
                   replace BK554 := zMk (blk_grown (g := gb554) (o := .cells #[.int .i64 0, .slice none 0 0] 24 (0, 0)) BK554.out hg (Kd.R_ne HO542.out BK554.out (by decide)))
                   replace HB := zMk (hb)
                   have HO545 := zMk (ho)
                   clear HO542 ho hb hg hat
                   refine hK.out _ _ ⟨(zKc BK516.out 0).trans rfl, (zKc BK516.out 1).trans rfl, (zKc BK538.out 0).trans rfl, (zKc BK538.out 1).trans rfl, (zKc BK539.out 0).trans rfl, (zKc BK539.out 1).trans rfl⟩ (fun hHeld => ?_)
                   clear hK K
                   refine norm_ (a' := ?_) ?_ ?_
                   rotate_left
                   ·show Act.put _ (some 64) _ = _
                    simp only [Act.put, zSa, zSb, zSc, i64_w, i32_w]
                    rfl
                   exact norm_ (by first | (simp only [putAll, Act.put, zSa, zSb, zSc]; done) | (simp only [putAll, Act.put, zSa, zSb, zSc]; rfl)) (hJ2_5_13 (v541, v544, gb554) _ ⟨hHeld, (uR HO533.out), (uR HO537.out), (uR HO545.out), (uR HO_5.out), (uR HO_6.out), BK516.out, BK538.out, BK539.out, BK554.out, GW554.out, GE554.out, NB516_554.out, NB554_516.out, NB538_554.out, NB554_538.out, NB539_554.out, NB554_539.out, (uT HB.out)⟩)
                 ·skip
                  rintro ⟨v541, v544⟩ w70 ⟨hS_, h0_, h1_, h2_, h3_, h4_, h5_, h6_, h7_, h8_⟩
                  have n0_ : Aside0 (Kd.R k36 36 w70 w.heap.size (fun k_ => some k_ ≠ (.slice Ao63 t535.length co63 : Value).ownBlock ∧ some k_ ≠ (v544 : Value).ownBlock) (.slice Ao60 t531.length co60) t531) := ⟨h0_⟩
                  have n1_ : Aside0 (Kd.R k36 36 w70 w.heap.size (fun k_ => some k_ ≠ (.slice Ao60 t531.length co60 : Value).ownBlock ∧ some k_ ≠ (v544 : Value).ownBlock) (.slice Ao63 t535.length co63) t535) := ⟨h1_⟩
                  have n2_ : Aside0 (Kd.R k36 36 w70 w.heap.size (fun k_ => some k_ ≠ (.slice Ao60 t531.length co60 : Value).ownBlock ∧ some k_ ≠ (.slice Ao63 t535.length co63 : Value).ownBlock) v544 y543) := ⟨h2_⟩
                  have n3_ : Aside0 (Kd.R (Kd.int .i64) 3 w70 w.heap.size (fun k_ => some k_ ≠ (.slice Ao52 x6_2.length co52 : Value).ownBlock) (.slice Ao51 x5_2.length co51) x5_2) := ⟨h3_⟩
                  have n4_ : Aside0 (Kd.R (Kd.int .i64) 3 w70 w.heap.size (fun k_ => some k_ ≠ (.slice Ao51 x5_2.length co51 : Value).ownBlock) (.slice Ao52 x6_2.length co52) x6_2) := ⟨h4_⟩
                  have n5_ : Aside0 (w70.heap[gb516]? = some (.cells #[.int .i64 a0_0, .slice A0_1 l0_1.length c0_1] 24 (0, 0))) := ⟨h5_⟩
                  have n6_ : Aside0 (w70.heap[gb538]? = some (.cells #[.int .i64 t530, .slice Ao60 t531.length co60] 24 (0, 0))) := ⟨h6_⟩
                  have n7_ : Aside0 (w70.heap[gb539]? = some (.cells #[.int .i64 t534, .slice Ao63 t535.length co63] 24 (0, 0))) := ⟨h7_⟩
                  have n8_ : Aside0 (Below w.heap.size w w70) := ⟨h8_⟩
                  clear HO_5 HO_6 HO533 HO537 BK516 BK538 BK539 HB h0_ h1_ h2_ h3_ h4_ h5_ h6_ h7_ h8_
                  have HO533 := n0_
                  have HO537 := n1_
                  have HO545 := n2_
                  have HO_5 := n3_
                  have HO_6 := n4_
                  have BK516 := n5_
                  have BK538 := n6_
                  have BK539 := n7_
                  have HB := n8_
                  clear n0_ n1_ n2_ n3_ n4_ n5_ n6_ n7_ n8_
                  have hHeld : w70.cell? ⟨gb516, 0, none⟩ = some (.int .i64 a0_0) ∧ w70.cell? ⟨gb516, 1, none⟩ = some (.slice A0_1 l0_1.length c0_1) ∧ w70.cell? ⟨gb538, 0, none⟩ = some (.int .i64 t530) ∧ w70.cell? ⟨gb538, 1, none⟩ = some (.slice Ao60 t531.length co60) ∧ w70.cell? ⟨gb539, 0, none⟩ = some (.int .i64 t534) ∧ w70.cell? ⟨gb539, 1, none⟩ = some (.slice Ao63 t535.length co63) := hS_
                  refine norm_ (a' := ?_) ?_ ?_
                  rotate_left
                  ·simp only [putAll, Act.put, zSa, zSb, zSc]
                   rfl
                  refine two_ (i := 8) (j := 13) (Ni := some 67) (Nj := some 10) #[true, true, true, true, true, true, true, true, true, false, false, false, false, false, false, false] #[true, true, true, true, true, true, true, true, false, false, false, false, false, true, false, false] rfl rfl rfl rfl (two_of HT_.out (by kernel_rfl)) (by decide) (by decide) (fun K hK => ?_) (fun K hK => ?_)
                  ·skip
                   refine Kd.R_append_rows_step k36 (w0 := w) w.heap.size (by rfl) (.tmp 64) (.tmp 66) 22 36 (.agg #[(.int .i64 0), (.int .i64 0), (.int .i64 0)]) 24 rfl Try.underlying22 info36 rfl (by decide) (by omega) v544 y543 t535 _ _ _ (fun k_ => some k_ ≠ (.slice Ao60 t531.length co60 : Value).ownBlock ∧ some k_ ≠ (.slice Ao63 t535.length co63 : Value).ownBlock) (fun _ => False) rfl rfl ?aO ?aR (fun _ _ h => h) (fun _ h => h.elim) ?aF ?aB ?aS ?aL ?_
                   (case aR => exact uC (zRr HO537.out).2.2)
                   (case aB => exact (uT HB.out))
                   (case aF => exact (fun k_ hk => ⟨Kd.fresh' (zRt (uR HO533.out)) k_ hk, Kd.fresh' (zRt (uR HO537.out)) k_ hk⟩))
                   (case aO => exact (uR HO545.out))
                   (case aS => exact (zBs (uT HB.out)))
                   (case aL => have := LMc34.out; omega)
                   intro v547 w71 ho hb hg hat
                   rw [← Ny546.out] at ho
                   replace HO_5 := zMk (Kd.R_over' (uR HO_5.out) (Kd.R_typed (uR HO545.out)) (by decide) hg)
                   replace HO_6 := zMk (Kd.R_over' (uR HO_6.out) (Kd.R_typed (uR HO545.out)) (by decide) hg)
                   replace BK516 := zMk (blk_grown (g := gb516) (o := .cells #[.int .i64 a0_0, .slice A0_1 l0_1.length c0_1] 24 (0, 0)) BK516.out hg (Kd.R_ne HO545.out BK516.out (by decide)))
                   replace HO533 := zMk (Kd.R_after (ok := (fun k_ => some k_ ≠ (.slice Ao63 t535.length co63 : Value).ownBlock)) (uR HO533.out) hg hat)
                   replace HO537 := zMk (Kd.R_after (ok := (fun k_ => some k_ ≠ (.slice Ao60 t531.length co60 : Value).ownBlock)) (uR HO537.out) hg hat)
                   replace BK538 := zMk (blk_grown (g := gb538) (o := .cells #[.int .i64 t530, .slice Ao60 t531.length co60] 24 (0, 0)) BK538.out hg (Kd.R_ne HO545.out BK538.out (by decide)))
                   replace BK539 := zMk (blk_grown (g := gb539) (o := .cells #[.int .i64 t534, .slice Ao63 t535.length co63] 24 (0, 0)) BK539.out hg (Kd.R_ne HO545.out BK539.out (by decide)))
                   replace HB := zMk (hb)
                   have HO548 := zMk (ho)
                   clear HO545 ho hb hg hat
                   refine hK.out _ _ ⟨(zKc BK516.out 0).trans rfl, (zKc BK516.out 1).trans rfl, (zKc BK538.out 0).trans rfl, (zKc BK538.out 1).trans rfl, (zKc BK539.out 0).trans rfl, (zKc BK539.out 1).trans rfl⟩ (fun hHeld => ?_)
                   clear hK K
                   refine norm_ (a' := ?_) ?_ ?_
                   rotate_left
                   ·show Act.put _ (some 67) _ = _
                    simp only [Act.put, zSa, zSb, zSc, i64_w, i32_w]
                    rfl
                   exact norm_ (by first | (simp only [putAll, Act.put, zSa, zSb, zSc]; done) | (simp only [putAll, Act.put, zSa, zSb, zSc]; rfl)) (hJ2_5_8 (v541, v544, v547) _ ⟨hHeld, (uR HO533.out), (uR HO537.out), (uR HO548.out), (uR HO_5.out), (uR HO_6.out), BK516.out, BK538.out, BK539.out, (uT HB.out)⟩)
                  ·skip
                   refine box_step ?hg (N := 10) ?hd (cs := #[.int .i64 0, .slice none 0 0]) (t := 24) ?hr ?_; (case hd => rfl); (case hg => rfl); (case hr => first | (go_simp; done) | (go_simp; rfl) | (go_simp; rw [show ∀ x : Int, IntKind.u32.wrap (IntKind.u8.wrap x) = x % 256 from fun x => (by show (x % 256) % 4294967296 = x % 256; omega)]))
                   intro gb554 hg w71 hbox hb
                   replace HO_5 := zMk (zRb (uR HO_5.out) hb)
                   replace HO_6 := zMk (zRb (uR HO_6.out) hb)
                   replace HO533 := zMk (zRb (uR HO533.out) hb)
                   replace HO537 := zMk (zRb (uR HO537.out) hb)
                   replace HO545 := zMk (zRb (uR HO545.out) hb)
                   have BK554 := zMk (hbox)
                   have GW554 := zMk ((by rw [hg]; exact (zBs (uT HB.out)) : w.heap.size ≤ gb554))
                   have GE554 := zMk ((by rw [hg]; exact (zBs (uT HB.out)) : w.heap.size ≤ gb554))
                   have IGE554 := ownGe GE554.out
                   replace HB := zMk (zBt (uT HB.out) hb)
                   have NB516_554 := zMk ((by rw [hg]; exact Nat.ne_of_lt (blk_lt BK516.out) : gb516 ≠ gb554))
                   have NB554_516 := zMk ((by rw [hg]; exact Nat.ne_of_gt (blk_lt BK516.out) : gb554 ≠ gb516))
                   replace BK516 := zMk (zKb BK516.out hb)
                   have NB538_554 := zMk ((by rw [hg]; exact Nat.ne_of_lt (blk_lt BK538.out) : gb538 ≠ gb554))
                   have NB554_538 := zMk ((by rw [hg]; exact Nat.ne_of_gt (blk_lt BK538.out) : gb554 ≠ gb538))
                   replace BK538 := zMk (zKb BK538.out hb)
                   have NB539_554 := zMk ((by rw [hg]; exact Nat.ne_of_lt (blk_lt BK539.out) : gb539 ≠ gb554))
                   have NB554_539 := zMk ((by rw [hg]; exact Nat.ne_of_gt (blk_lt BK539.out) : gb554 ≠ gb539))
                   replace BK539 := zMk (zKb BK539.out hb)
                   clear hb hbox hg
                   refine hK.out _ _ ⟨(zKc BK516.out 0).trans rfl, (zKc BK516.out 1).trans rfl, (zKc BK538.out 0).trans rfl, (zKc BK538.out 1).trans rfl, (zKc BK539.out 0).trans rfl, (zKc BK539.out 1).trans rfl⟩ (fun hHeld => ?_)
                   clear hK K
                   refine norm_ (a' := ?_) ?_ ?_
                   rotate_left
                   ·show Act.put _ (some 10) _ = _
                    simp only [Act.put, zSa, zSb, zSc, i64_w, i32_w]
                    rfl
                   exact norm_ (by first | (simp only [putAll, Act.put, zSa, zSb, zSc]; done) | (simp only [putAll, Act.put, zSa, zSb, zSc]; rfl)) (hJ2_5_13 (v541, v544, gb554) _ ⟨hHeld, (uR HO533.out), (uR HO537.out), (uR HO545.out), (uR HO_5.out), (uR HO_6.out), BK516.out, BK538.out, BK539.out, BK554.out, GW554.out, GE554.out, NB516_554.out, NB554_516.out, NB538_554.out, NB554_538.out, NB539_554.out, NB554_539.out, (uT HB.out)⟩)
                ·skip
                 rintro ⟨v541, v544, gb554⟩ w71 ⟨hS_, h0_, h1_, h2_, h3_, h4_, h5_, h6_, h7_, h8_, h9_, h10_, h11_, h12_, h13_, h14_, h15_, h16_, h17_⟩
                 have n0_ : Aside0 (Kd.R k36 36 w71 w.heap.size (fun k_ => some k_ ≠ (.slice Ao63 t535.length co63 : Value).ownBlock ∧ some k_ ≠ (v544 : Value).ownBlock) (.slice Ao60 t531.length co60) t531) := ⟨h0_⟩
                 have n1_ : Aside0 (Kd.R k36 36 w71 w.heap.size (fun k_ => some k_ ≠ (.slice Ao60 t531.length co60 : Value).ownBlock ∧ some k_ ≠ (v544 : Value).ownBlock) (.slice Ao63 t535.length co63) t535) := ⟨h1_⟩
                 have n2_ : Aside0 (Kd.R k36 36 w71 w.heap.size (fun k_ => some k_ ≠ (.slice Ao60 t531.length co60 : Value).ownBlock ∧ some k_ ≠ (.slice Ao63 t535.length co63 : Value).ownBlock) v544 y543) := ⟨h2_⟩
                 have n3_ : Aside0 (Kd.R (Kd.int .i64) 3 w71 w.heap.size (fun k_ => some k_ ≠ (.slice Ao52 x6_2.length co52 : Value).ownBlock) (.slice Ao51 x5_2.length co51) x5_2) := ⟨h3_⟩
                 have n4_ : Aside0 (Kd.R (Kd.int .i64) 3 w71 w.heap.size (fun k_ => some k_ ≠ (.slice Ao51 x5_2.length co51 : Value).ownBlock) (.slice Ao52 x6_2.length co52) x6_2) := ⟨h4_⟩
                 have n5_ : Aside0 (w71.heap[gb516]? = some (.cells #[.int .i64 a0_0, .slice A0_1 l0_1.length c0_1] 24 (0, 0))) := ⟨h5_⟩
                 have n6_ : Aside0 (w71.heap[gb538]? = some (.cells #[.int .i64 t530, .slice Ao60 t531.length co60] 24 (0, 0))) := ⟨h6_⟩
                 have n7_ : Aside0 (w71.heap[gb539]? = some (.cells #[.int .i64 t534, .slice Ao63 t535.length co63] 24 (0, 0))) := ⟨h7_⟩
                 have n8_ : Aside0 (w71.heap[gb554]? = some (.cells #[.int .i64 0, .slice none 0 0] 24 (0, 0))) := ⟨h8_⟩
                 have n9_ : Aside0 (w.heap.size ≤ gb554) := ⟨h9_⟩
                 have n10_ : Aside0 (w.heap.size ≤ gb554) := ⟨h10_⟩
                 have n11_ : Aside0 (gb516 ≠ gb554) := ⟨h11_⟩
                 have n12_ : Aside0 (gb554 ≠ gb516) := ⟨h12_⟩
                 have n13_ : Aside0 (gb538 ≠ gb554) := ⟨h13_⟩
                 have n14_ : Aside0 (gb554 ≠ gb538) := ⟨h14_⟩
                 have n15_ : Aside0 (gb539 ≠ gb554) := ⟨h15_⟩
                 have n16_ : Aside0 (gb554 ≠ gb539) := ⟨h16_⟩
                 have n17_ : Aside0 (Below w.heap.size w w71) := ⟨h17_⟩
                 clear HO_5 HO_6 HO533 HO537 BK516 BK538 BK539 HB h0_ h1_ h2_ h3_ h4_ h5_ h6_ h7_ h8_ h9_ h10_ h11_ h12_ h13_ h14_ h15_ h16_ h17_
                 have HO533 := n0_
                 have HO537 := n1_
                 have HO545 := n2_
                 have HO_5 := n3_
                 have HO_6 := n4_
                 have BK516 := n5_
                 have BK538 := n6_
                 have BK539 := n7_
                 have BK554 := n8_
                 have GW554 := n9_
                 have GE554 := n10_
                 have IGE554 := ownGe GE554.out
                 have NB516_554 := n11_
                 have NB554_516 := n12_
                 have NB538_554 := n13_
                 have NB554_538 := n14_
                 have NB539_554 := n15_
                 have NB554_539 := n16_
                 have HB := n17_
                 clear n0_ n1_ n2_ n3_ n4_ n5_ n6_ n7_ n8_ n9_ n10_ n11_ n12_ n13_ n14_ n15_ n16_ n17_
                 have hHeld : w71.cell? ⟨gb516, 0, none⟩ = some (.int .i64 a0_0) ∧ w71.cell? ⟨gb516, 1, none⟩ = some (.slice A0_1 l0_1.length c0_1) ∧ w71.cell? ⟨gb538, 0, none⟩ = some (.int .i64 t530) ∧ w71.cell? ⟨gb538, 1, none⟩ = some (.slice Ao60 t531.length co60) ∧ w71.cell? ⟨gb539, 0, none⟩ = some (.int .i64 t534) ∧ w71.cell? ⟨gb539, 1, none⟩ = some (.slice Ao63 t535.length co63) := hS_
                 refine norm_ (a' := ?_) ?_ ?_
                 rotate_left
                 ·simp only [putAll, Act.put, zSa, zSb, zSc]
                  rfl
                 refine one_ (i := 8) (N := some 67) #[true, true, true, true, true, true, true, true, true, false, false, false, false, true, false, false] rfl rfl (one_of HT_.out (by kernel_rfl)) (by decide) (fun K hK => ?_)
                 refine Kd.R_append_rows_step k36 (w0 := w) w.heap.size (by rfl) (.tmp 64) (.tmp 66) 22 36 (.agg #[(.int .i64 0), (.int .i64 0), (.int .i64 0)]) 24 rfl Try.underlying22 info36 rfl (by decide) (by omega) v544 y543 t535 _ _ _ (fun k_ => some k_ ≠ (.slice Ao60 t531.length co60 : Value).ownBlock ∧ some k_ ≠ (.slice Ao63 t535.length co63 : Value).ownBlock) (fun _ => False) rfl rfl ?aO ?aR (fun _ _ h => h) (fun _ h => h.elim) ?aF ?aB ?aS ?aL ?_
                 (case aR => exact uC (zRr HO537.out).2.2)
                 (case aB => exact (uT HB.out))
                 (case aF => exact (fun k_ hk => ⟨Kd.fresh' (zRt (uR HO533.out)) k_ hk, Kd.fresh' (zRt (uR HO537.out)) k_ hk⟩))
                 (case aO => exact (uR HO545.out))
                 (case aS => exact (zBs (uT HB.out)))
                 (case aL => have := LMc34.out; omega)
                 intro v547 w72 ho hb hg hat
                 rw [← Ny546.out] at ho
                 replace HO_5 := zMk (Kd.R_over' (uR HO_5.out) (Kd.R_typed (uR HO545.out)) (by decide) hg)
                 replace HO_6 := zMk (Kd.R_over' (uR HO_6.out) (Kd.R_typed (uR HO545.out)) (by decide) hg)
                 replace BK516 := zMk (blk_grown (g := gb516) (o := .cells #[.int .i64 a0_0, .slice A0_1 l0_1.length c0_1] 24 (0, 0)) BK516.out hg (Kd.R_ne HO545.out BK516.out (by decide)))
                 replace HO533 := zMk (Kd.R_after (ok := (fun k_ => some k_ ≠ (.slice Ao63 t535.length co63 : Value).ownBlock)) (uR HO533.out) hg hat)
                 replace HO537 := zMk (Kd.R_after (ok := (fun k_ => some k_ ≠ (.slice Ao60 t531.length co60 : Value).ownBlock)) (uR HO537.out) hg hat)
                 replace BK538 := zMk (blk_grown (g := gb538) (o := .cells #[.int .i64 t530, .slice Ao60 t531.length co60] 24 (0, 0)) BK538.out hg (Kd.R_ne HO545.out BK538.out (by decide)))
                 replace BK539 := zMk (blk_grown (g := gb539) (o := .cells #[.int .i64 t534, .slice Ao63 t535.length co63] 24 (0, 0)) BK539.out hg (Kd.R_ne HO545.out BK539.out (by decide)))
                 replace BK554 := zMk (blk_grown (g := gb554) (o := .cells #[.int .i64 0, .slice none 0 0] 24 (0, 0)) BK554.out hg (Kd.R_ne HO545.out BK554.out (by decide)))
                 replace HB := zMk (hb)
                 have HO548 := zMk (ho)
                 clear HO545 ho hb hg hat
                 refine hK.out _ _ ⟨(zKc BK516.out 0).trans rfl, (zKc BK516.out 1).trans rfl, (zKc BK538.out 0).trans rfl, (zKc BK538.out 1).trans rfl, (zKc BK539.out 0).trans rfl, (zKc BK539.out 1).trans rfl⟩ (fun hHeld => ?_)
                 clear hK K
                 refine norm_ (a' := ?_) ?_ ?_
                 rotate_left
                 ·show Act.put _ (some 67) _ = _
                  simp only [Act.put, zSa, zSb, zSc, i64_w, i32_w]
                  rfl
                 exact norm_ (by first | (simp only [putAll, Act.put, zSa, zSb, zSc]; done) | (simp only [putAll, Act.put, zSa, zSb, zSc]; rfl)) (hJ2_5_8_13 (v541, v544, v547, gb554) _ ⟨hHeld, (uR HO533.out), (uR HO537.out), (uR HO548.out), (uR HO_5.out), (uR HO_6.out), BK516.out, BK538.out, BK539.out, BK554.out, GW554.out, GE554.out, NB516_554.out, NB554_516.out, NB538_554.out, NB554_538.out, NB539_554.out, NB554_539.out, (uT HB.out)⟩)
               ·skip
                rintro ⟨v541, v544, v547⟩ w71 ⟨hS_, h0_, h1_, h2_, h3_, h4_, h5_, h6_, h7_, h8_⟩
                have n0_ : Aside0 (Kd.R k36 36 w71 w.heap.size (fun k_ => some k_ ≠ (.slice Ao63 t535.length co63 : Value).ownBlock ∧ some k_ ≠ (v547 : Value).ownBlock) (.slice Ao60 t531.length co60) t531) := ⟨h0_⟩
                have n1_ : Aside0 (Kd.R k36 36 w71 w.heap.size (fun k_ => some k_ ≠ (.slice Ao60 t531.length co60 : Value).ownBlock ∧ some k_ ≠ (v547 : Value).ownBlock) (.slice Ao63 t535.length co63) t535) := ⟨h1_⟩
                have n2_ : Aside0 (Kd.R k36 36 w71 w.heap.size (fun k_ => some k_ ≠ (.slice Ao60 t531.length co60 : Value).ownBlock ∧ some k_ ≠ (.slice Ao63 t535.length co63 : Value).ownBlock) v547 y546) := ⟨h2_⟩
                have n3_ : Aside0 (Kd.R (Kd.int .i64) 3 w71 w.heap.size (fun k_ => some k_ ≠ (.slice Ao52 x6_2.length co52 : Value).ownBlock) (.slice Ao51 x5_2.length co51) x5_2) := ⟨h3_⟩
                have n4_ : Aside0 (Kd.R (Kd.int .i64) 3 w71 w.heap.size (fun k_ => some k_ ≠ (.slice Ao51 x5_2.length co51 : Value).ownBlock) (.slice Ao52 x6_2.length co52) x6_2) := ⟨h4_⟩
                have n5_ : Aside0 (w71.heap[gb516]? = some (.cells #[.int .i64 a0_0, .slice A0_1 l0_1.length c0_1] 24 (0, 0))) := ⟨h5_⟩
                have n6_ : Aside0 (w71.heap[gb538]? = some (.cells #[.int .i64 t530, .slice Ao60 t531.length co60] 24 (0, 0))) := ⟨h6_⟩
                have n7_ : Aside0 (w71.heap[gb539]? = some (.cells #[.int .i64 t534, .slice Ao63 t535.length co63] 24 (0, 0))) := ⟨h7_⟩
                have n8_ : Aside0 (Below w.heap.size w w71) := ⟨h8_⟩
                clear HO_5 HO_6 HO533 HO537 BK516 BK538 BK539 HB h0_ h1_ h2_ h3_ h4_ h5_ h6_ h7_ h8_
                have HO533 := n0_
                have HO537 := n1_
                have HO548 := n2_
                have HO_5 := n3_
                have HO_6 := n4_
                have BK516 := n5_
                have BK538 := n6_
                have BK539 := n7_
                have HB := n8_
                clear n0_ n1_ n2_ n3_ n4_ n5_ n6_ n7_ n8_
                have hHeld : w71.cell? ⟨gb516, 0, none⟩ = some (.int .i64 a0_0) ∧ w71.cell? ⟨gb516, 1, none⟩ = some (.slice A0_1 l0_1.length c0_1) ∧ w71.cell? ⟨gb538, 0, none⟩ = some (.int .i64 t530) ∧ w71.cell? ⟨gb538, 1, none⟩ = some (.slice Ao60 t531.length co60) ∧ w71.cell? ⟨gb539, 0, none⟩ = some (.int .i64 t534) ∧ w71.cell? ⟨gb539, 1, none⟩ = some (.slice Ao63 t535.length co63) := hS_
                obtain ⟨Ao72, co72, eo72⟩ := zRs HO548.out
                (first |  subst eo72|  (injection eo72 with f1_ f2_ f3_; have f4_ := f1_.symm; have f5_ := f3_.symm; clear f1_ f2_ f3_; subst f4_; subst f5_))
                refine norm_ (a' := ?_) ?_ ?_
                rotate_left
                ·simp only [putAll, Act.put, zSa, zSb, zSc]
                 rfl
                refine two_ (i := 9) (j := 13) (Ni := some 68) (Nj := some 10) #[true, true, true, true, true, true, true, true, true, true, false, false, false, false, false, false] #[true, true, true, true, true, true, true, true, true, false, false, false, false, true, false, false] rfl rfl rfl rfl (two_of HT_.out (by kernel_rfl)) (by decide) (by decide) (fun K hK => ?_) (fun K hK => ?_)
                ·skip
                 refine goes_ Try.func14 (by kernel_rfl) rfl #[.int .i64 a0_0, .slice Ao72 y546.length co72] (by rfl) rfl rfl (by (try simp only [zMa, zMc, zMn]); first | done | rfl | (simp only [zLd, zLt]; rfl)) ?_
                 with_reducible refine (graph_Make.calls k2 a0_0 _ _ y546 t549 t550 t553 _ ?side1 ?side2 A35.out).mono ?_
                 (case side1 => exact uC (zRr HO548.out).2.2)
                 (case side2 => exact (zRr HO548.out).2.1)
                 rintro e w73 ⟨v551, rfl, ho0, hb⟩
                 refine ⟨_, rfl, ?_⟩
                 replace HO_5 := zMk (zRb (uR HO_5.out) hb)
                 replace HO_6 := zMk (zRb (uR HO_6.out) hb)
                 have HO552 := zMk (zRl (zRw (zRw (zRw ho0 (zRt (uR HO533.out))) (zRt (uR HO537.out))) (zRt (uR HO548.out))) (zBs (uT HB.out)))
                 replace HO533 := zMk (zRe (uR HO533.out) (zRz ho0) hb)
                 replace HO537 := zMk (zRe (uR HO537.out) (zRz ho0) hb)
                 replace HO548 := zMk (zRe (uR HO548.out) (zRz ho0) hb)
                 replace BK516 := zMk (zKb BK516.out hb)
                 replace BK538 := zMk (zKb BK538.out hb)
                 replace BK539 := zMk (zKb BK539.out hb)
                 replace HB := zMk (zBt (uT HB.out) hb)
                 refine hK.out _ _ ⟨(zKc BK516.out 0).trans rfl, (zKc BK516.out 1).trans rfl, (zKc BK538.out 0).trans rfl, (zKc BK538.out 1).trans rfl, (zKc BK539.out 0).trans rfl, (zKc BK539.out 1).trans rfl⟩ (fun hHeld => ?_)
                 clear hK K
                 refine norm_ (a' := ?_) ?_ ?_
                 rotate_left
                 ·show Act.put _ (some 68) _ = _
                  simp only [Act.put, zSa, zSb, zSc, i64_w, i32_w]
                  rfl
                 refine pure_ (i := 10) (N := some 58) (v := ?_) (a' := ?_) #[true, true, true, true, true, true, true, true, true, true, true, false, false, false, false, false] rfl rfl (any_of HT_.out (by kernel_rfl)) (fun _ _ _ h => h) (Or.inl ⟨by rfl, ?_⟩) ?_ ?_
                 rotate_left
                 ·intro w'
                  go_simp
                  with_reducible rfl
                 rotate_left
                 ·simp only [Act.put, zSa, zSb, zSc, i64_w, i32_w]
                  rfl
                 refine pure_ (i := 11) (N := some 69) (v := ?_) (a' := ?_) #[true, true, true, true, true, true, true, true, true, true, true, true, false, false, false, false] rfl rfl (any_of HT_.out (by kernel_rfl)) (fun _ _ _ h => h) (Or.inl ⟨by rfl, ?_⟩) ?_ ?_
                 rotate_left
                 ·intro w'
                  go_simp
                  with_reducible rfl
                 rotate_left
                 ·simp only [Act.put, zSa, zSb, zSc, i64_w, i32_w]
                  rfl
                 refine pure_ (i := 12) (N := some 70) (v := ?_) (a' := ?_) #[true, true, true, true, true, true, true, true, true, true, true, true, true, false, false, false] rfl rfl (any_of HT_.out (by kernel_rfl)) (fun _ _ _ h => h) (Or.inl ⟨by rfl, ?_⟩) ?_ ?_
                 rotate_left
                 ·intro w'
                  go_simp
                  with_reducible rfl
                 rotate_left
                 ·simp only [Act.put, zSa, zSb, zSc, i64_w, i32_w]
                  rfl
                 exact norm_ (by first | (simp only [putAll, Act.put, zSa, zSb, zSc]; done) | (simp only [putAll, Act.put, zSa, zSb, zSc]; rfl)) (hJ2_5_8_9 (v541, v544, .slice Ao72 y546.length co72, v551) _ ⟨hHeld, (zRm HO533.out (fun _ hk => ⟨hk.1.1, ⟨hk.1.2, hk.2⟩⟩)), (zRm HO537.out (fun _ hk => ⟨hk.1.1, ⟨hk.1.2, hk.2⟩⟩)), (zRm HO548.out (fun _ hk => ⟨hk.1.1, ⟨hk.1.2, hk.2⟩⟩)), (zRm HO552.out (fun _ hk => ⟨hk.1.1.2, ⟨hk.1.2, hk.2⟩⟩)), (uR HO_5.out), (uR HO_6.out), BK516.out, BK538.out, BK539.out, (uT HB.out)⟩)
                ·skip
                 refine box_step ?hg (N := 10) ?hd (cs := #[.int .i64 0, .slice none 0 0]) (t := 24) ?hr ?_; (case hd => rfl); (case hg => rfl); (case hr => first | (go_simp; done) | (go_simp; rfl) | (go_simp; rw [show ∀ x : Int, IntKind.u32.wrap (IntKind.u8.wrap x) = x % 256 from fun x => (by show (x % 256) % 4294967296 = x % 256; omega)]))
                 intro gb554 hg w72 hbox hb
                 replace HO_5 := zMk (zRb (uR HO_5.out) hb)
                 replace HO_6 := zMk (zRb (uR HO_6.out) hb)
                 replace HO533 := zMk (zRb (uR HO533.out) hb)
                 replace HO537 := zMk (zRb (uR HO537.out) hb)
                 replace HO548 := zMk (zRb (uR HO548.out) hb)
                 have BK554 := zMk (hbox)
                 have GW554 := zMk ((by rw [hg]; exact (zBs (uT HB.out)) : w.heap.size ≤ gb554))
                 have GE554 := zMk ((by rw [hg]; exact (zBs (uT HB.out)) : w.heap.size ≤ gb554))
                 have IGE554 := ownGe GE554.out
                 replace HB := zMk (zBt (uT HB.out) hb)
                 have NB516_554 := zMk ((by rw [hg]; exact Nat.ne_of_lt (blk_lt BK516.out) : gb516 ≠ gb554))
                 have NB554_516 := zMk ((by rw [hg]; exact Nat.ne_of_gt (blk_lt BK516.out) : gb554 ≠ gb516))
                 replace BK516 := zMk (zKb BK516.out hb)
                 have NB538_554 := zMk ((by rw [hg]; exact Nat.ne_of_lt (blk_lt BK538.out) : gb538 ≠ gb554))
                 have NB554_538 := zMk ((by rw [hg]; exact Nat.ne_of_gt (blk_lt BK538.out) : gb554 ≠ gb538))
                 replace BK538 := zMk (zKb BK538.out hb)
                 have NB539_554 := zMk ((by rw [hg]; exact Nat.ne_of_lt (blk_lt BK539.out) : gb539 ≠ gb554))
                 have NB554_539 := zMk ((by rw [hg]; exact Nat.ne_of_gt (blk_lt BK539.out) : gb554 ≠ gb539))
                 replace BK539 := zMk (zKb BK539.out hb)
                 clear hb hbox hg
                 refine hK.out _ _ ⟨(zKc BK516.out 0).trans rfl, (zKc BK516.out 1).trans rfl, (zKc BK538.out 0).trans rfl, (zKc BK538.out 1).trans rfl, (zKc BK539.out 0).trans rfl, (zKc BK539.out 1).trans rfl⟩ (fun hHeld => ?_)
                 clear hK K
                 refine norm_ (a' := ?_) ?_ ?_
                 rotate_left
                 ·show Act.put _ (some 10) _ = _
                  simp only [Act.put, zSa, zSb, zSc, i64_w, i32_w]
                  rfl
                 exact norm_ (by first | (simp only [putAll, Act.put, zSa, zSb, zSc]; done) | (simp only [putAll, Act.put, zSa, zSb, zSc]; rfl)) (hJ2_5_8_13 (v541, v544, (.slice Ao72 y546.length co72 : Value), gb554) _ ⟨hHeld, (uR HO533.out), (uR HO537.out), (uR HO548.out), (uR HO_5.out), (uR HO_6.out), BK516.out, BK538.out, BK539.out, BK554.out, GW554.out, GE554.out, NB516_554.out, NB554_516.out, NB538_554.out, NB554_538.out, NB539_554.out, NB554_539.out, (uT HB.out)⟩)
              ·skip
               rintro ⟨v541, v544, v547, gb554⟩ w72 ⟨hS_, h0_, h1_, h2_, h3_, h4_, h5_, h6_, h7_, h8_, h9_, h10_, h11_, h12_, h13_, h14_, h15_, h16_, h17_⟩
               have n0_ : Aside0 (Kd.R k36 36 w72 w.heap.size (fun k_ => some k_ ≠ (.slice Ao63 t535.length co63 : Value).ownBlock ∧ some k_ ≠ (v547 : Value).ownBlock) (.slice Ao60 t531.length co60) t531) := ⟨h0_⟩
               have n1_ : Aside0 (Kd.R k36 36 w72 w.heap.size (fun k_ => some k_ ≠ (.slice Ao60 t531.length co60 : Value).ownBlock ∧ some k_ ≠ (v547 : Value).ownBlock) (.slice Ao63 t535.length co63) t535) := ⟨h1_⟩
               have n2_ : Aside0 (Kd.R k36 36 w72 w.heap.size (fun k_ => some k_ ≠ (.slice Ao60 t531.length co60 : Value).ownBlock ∧ some k_ ≠ (.slice Ao63 t535.length co63 : Value).ownBlock) v547 y546) := ⟨h2_⟩
               have n3_ : Aside0 (Kd.R (Kd.int .i64) 3 w72 w.heap.size (fun k_ => some k_ ≠ (.slice Ao52 x6_2.length co52 : Value).ownBlock) (.slice Ao51 x5_2.length co51) x5_2) := ⟨h3_⟩
               have n4_ : Aside0 (Kd.R (Kd.int .i64) 3 w72 w.heap.size (fun k_ => some k_ ≠ (.slice Ao51 x5_2.length co51 : Value).ownBlock) (.slice Ao52 x6_2.length co52) x6_2) := ⟨h4_⟩
               have n5_ : Aside0 (w72.heap[gb516]? = some (.cells #[.int .i64 a0_0, .slice A0_1 l0_1.length c0_1] 24 (0, 0))) := ⟨h5_⟩
               have n6_ : Aside0 (w72.heap[gb538]? = some (.cells #[.int .i64 t530, .slice Ao60 t531.length co60] 24 (0, 0))) := ⟨h6_⟩
               have n7_ : Aside0 (w72.heap[gb539]? = some (.cells #[.int .i64 t534, .slice Ao63 t535.length co63] 24 (0, 0))) := ⟨h7_⟩
               have n8_ : Aside0 (w72.heap[gb554]? = some (.cells #[.int .i64 0, .slice none 0 0] 24 (0, 0))) := ⟨h8_⟩
               have n9_ : Aside0 (w.heap.size ≤ gb554) := ⟨h9_⟩
               have n10_ : Aside0 (w.heap.size ≤ gb554) := ⟨h10_⟩
               have n11_ : Aside0 (gb516 ≠ gb554) := ⟨h11_⟩
               have n12_ : Aside0 (gb554 ≠ gb516) := ⟨h12_⟩
               have n13_ : Aside0 (gb538 ≠ gb554) := ⟨h13_⟩
               have n14_ : Aside0 (gb554 ≠ gb538) := ⟨h14_⟩
               have n15_ : Aside0 (gb539 ≠ gb554) := ⟨h15_⟩
               have n16_ : Aside0 (gb554 ≠ gb539) := ⟨h16_⟩
               have n17_ : Aside0 (Below w.heap.size w w72) := ⟨h17_⟩
               clear HO_5 HO_6 HO533 HO537 BK516 BK538 BK539 HB h0_ h1_ h2_ h3_ h4_ h5_ h6_ h7_ h8_ h9_ h10_ h11_ h12_ h13_ h14_ h15_ h16_ h17_
               have HO533 := n0_
               have HO537 := n1_
               have HO548 := n2_
               have HO_5 := n3_
               have HO_6 := n4_
               have BK516 := n5_
               have BK538 := n6_
               have BK539 := n7_
               have BK554 := n8_
               have GW554 := n9_
               have GE554 := n10_
               have IGE554 := ownGe GE554.out
               have NB516_554 := n11_
               have NB554_516 := n12_
               have NB538_554 := n13_
               have NB554_538 := n14_
               have NB539_554 := n15_
               have NB554_539 := n16_
               have HB := n17_
               clear n0_ n1_ n2_ n3_ n4_ n5_ n6_ n7_ n8_ n9_ n10_ n11_ n12_ n13_ n14_ n15_ n16_ n17_
               have hHeld : w72.cell? ⟨gb516, 0, none⟩ = some (.int .i64 a0_0) ∧ w72.cell? ⟨gb516, 1, none⟩ = some (.slice A0_1 l0_1.length c0_1) ∧ w72.cell? ⟨gb538, 0, none⟩ = some (.int .i64 t530) ∧ w72.cell? ⟨gb538, 1, none⟩ = some (.slice Ao60 t531.length co60) ∧ w72.cell? ⟨gb539, 0, none⟩ = some (.int .i64 t534) ∧ w72.cell? ⟨gb539, 1, none⟩ = some (.slice Ao63 t535.length co63) := hS_
               obtain ⟨Ao73, co73, eo73⟩ := zRs HO548.out
               (first |  subst eo73|  (injection eo73 with f1_ f2_ f3_; have f4_ := f1_.symm; have f5_ := f3_.symm; clear f1_ f2_ f3_; subst f4_; subst f5_))
               refine norm_ (a' := ?_) ?_ ?_
               rotate_left
               ·simp only [putAll, Act.put, zSa, zSb, zSc]
                rfl
               refine one_ (i := 9) (N := some 68) #[true, true, true, true, true, true, true, true, true, true, false, false, false, true, false, false] rfl rfl (one_of HT_.out (by kernel_rfl)) (by decide) (fun K hK => ?_)
               refine goes_ Try.func14 (by kernel_rfl) rfl #[.int .i64 a0_0, .slice Ao73 y546.length co73] (by rfl) rfl rfl (by (try simp only [zMa, zMc, zMn]); first | done | rfl | (simp only [zLd, zLt]; rfl)) ?_
               with_reducible refine (graph_Make.calls k2 a0_0 _ _ y546 t549 t550 t553 _ ?side1 ?side2 A35.out).mono ?_
               (case side1 => exact uC (zRr HO548.out).2.2)
               (case side2 => exact (zRr HO548.out).2.1)
               rintro e w74 ⟨v551, rfl, ho0, hb⟩
               refine ⟨_, rfl, ?_⟩
               replace HO_5 := zMk (zRb (uR HO_5.out) hb)
               replace HO_6 := zMk (zRb (uR HO_6.out) hb)
               have HO552 := zMk (zRl (zRw (zRw (zRw ho0 (zRt (uR HO533.out))) (zRt (uR HO537.out))) (zRt (uR HO548.out))) (zBs (uT HB.out)))
               replace HO533 := zMk (zRe (uR HO533.out) (zRz ho0) hb)
               replace HO537 := zMk (zRe (uR HO537.out) (zRz ho0) hb)
               replace HO548 := zMk (zRe (uR HO548.out) (zRz ho0) hb)
               replace BK516 := zMk (zKb BK516.out hb)
               replace BK538 := zMk (zKb BK538.out hb)
               replace BK539 := zMk (zKb BK539.out hb)
               replace BK554 := zMk (zKb BK554.out hb)
               replace HB := zMk (zBt (uT HB.out) hb)
               refine hK.out _ _ ⟨(zKc BK516.out 0).trans rfl, (zKc BK516.out 1).trans rfl, (zKc BK538.out 0).trans rfl, (zKc BK538.out 1).trans rfl, (zKc BK539.out 0).trans rfl, (zKc BK539.out 1).trans rfl⟩ (fun hHeld => ?_)
               clear hK K
               refine norm_ (a' := ?_) ?_ ?_
               rotate_left
               ·show Act.put _ (some 68) _ = _
                simp only [Act.put, zSa, zSb, zSc, i64_w, i32_w]
                rfl
               refine pure_ (i := 10) (N := some 58) (v := ?_) (a' := ?_) #[true, true, true, true, true, true, true, true, true, true, true, false, false, true, false, false] rfl rfl (any_of HT_.out (by kernel_rfl)) (fun _ _ _ h => h) (Or.inl ⟨by rfl, ?_⟩) ?_ ?_
               rotate_left
               ·intro w'
                go_simp
                with_reducible rfl
               rotate_left
               ·simp only [Act.put, zSa, zSb, zSc, i64_w, i32_w]
                rfl
               refine pure_ (i := 11) (N := some 69) (v := ?_) (a' := ?_) #[true, true, true, true, true, true, true, true, true, true, true, true, false, true, false, false] rfl rfl (any_of HT_.out (by kernel_rfl)) (fun _ _ _ h => h) (Or.inl ⟨by rfl, ?_⟩) ?_ ?_
               rotate_left
               ·intro w'
                go_simp
                with_reducible rfl
               rotate_left
               ·simp only [Act.put, zSa, zSb, zSc, i64_w, i32_w]
                rfl
               refine pure_ (i := 12) (N := some 70) (v := ?_) (a' := ?_) #[true, true, true, true, true, true, true, true, true, true, true, true, true, true, false, false] rfl rfl (any_of HT_.out (by kernel_rfl)) (fun _ _ _ h => h) (Or.inl ⟨by rfl, ?_⟩) ?_ ?_
               rotate_left
               ·intro w'
                go_simp
                with_reducible rfl
               rotate_left
               ·simp only [Act.put, zSa, zSb, zSc, i64_w, i32_w]
                rfl
               exact norm_ (by first | (simp only [putAll, Act.put, zSa, zSb, zSc]; done) | (simp only [putAll, Act.put, zSa, zSb, zSc]; rfl)) (hJ2_5_8_9_13 (v541, v544, .slice Ao73 y546.length co73, v551, gb554) _ ⟨hHeld, (zRm HO533.out (fun _ hk => ⟨hk.1.1, ⟨hk.1.2, hk.2⟩⟩)), (zRm HO537.out (fun _ hk => ⟨hk.1.1, ⟨hk.1.2, hk.2⟩⟩)), (zRm HO548.out (fun _ hk => ⟨hk.1.1, ⟨hk.1.2, hk.2⟩⟩)), (zRm HO552.out (fun _ hk => ⟨hk.1.1.2, ⟨hk.1.2, hk.2⟩⟩)), (uR HO_5.out), (uR HO_6.out), BK516.out, BK538.out, BK539.out, BK554.out, GW554.out, GE554.out, NB516_554.out, NB554_516.out, NB538_554.out, NB554_538.out, NB539_554.out, NB554_539.out, (uT HB.out)⟩)
             ·skip
              rintro ⟨v541, v544, v547, v551⟩ w73 ⟨hS_, h0_, h1_, h2_, h3_, h4_, h5_, h6_, h7_, h8_, h9_⟩
              have n0_ : Aside0 (Kd.R k36 36 w73 w.heap.size (fun k_ => some k_ ≠ (.slice Ao63 t535.length co63 : Value).ownBlock ∧ some k_ ≠ (v547 : Value).ownBlock ∧ some k_ ≠ (v551 : Value).ownBlock) (.slice Ao60 t531.length co60) t531) := ⟨h0_⟩
              have n1_ : Aside0 (Kd.R k36 36 w73 w.heap.size (fun k_ => some k_ ≠ (.slice Ao60 t531.length co60 : Value).ownBlock ∧ some k_ ≠ (v547 : Value).ownBlock ∧ some k_ ≠ (v551 : Value).ownBlock) (.slice Ao63 t535.length co63) t535) := ⟨h1_⟩
              have n2_ : Aside0 (Kd.R k36 36 w73 w.heap.size (fun k_ => some k_ ≠ (.slice Ao60 t531.length co60 : Value).ownBlock ∧ some k_ ≠ (.slice Ao63 t535.length co63 : Value).ownBlock ∧ some k_ ≠ (v551 : Value).ownBlock) v547 y546) := ⟨h2_⟩
              have n3_ : Aside0 (Kd.R k36 36 w73 w.heap.size (fun k_ => some k_ ≠ (.slice Ao60 t531.length co60 : Value).ownBlock ∧ some k_ ≠ (.slice Ao63 t535.length co63 : Value).ownBlock ∧ some k_ ≠ (v547 : Value).ownBlock) v551 t550) := ⟨h3_⟩
              have n4_ : Aside0 (Kd.R (Kd.int .i64) 3 w73 w.heap.size (fun k_ => some k_ ≠ (.slice Ao52 x6_2.length co52 : Value).ownBlock) (.slice Ao51 x5_2.length co51) x5_2) := ⟨h4_⟩
              have n5_ : Aside0 (Kd.R (Kd.int .i64) 3 w73 w.heap.size (fun k_ => some k_ ≠ (.slice Ao51 x5_2.length co51 : Value).ownBlock) (.slice Ao52 x6_2.length co52) x6_2) := ⟨h5_⟩
              have n6_ : Aside0 (w73.heap[gb516]? = some (.cells #[.int .i64 a0_0, .slice A0_1 l0_1.length c0_1] 24 (0, 0))) := ⟨h6_⟩
              have n7_ : Aside0 (w73.heap[gb538]? = some (.cells #[.int .i64 t530, .slice Ao60 t531.length co60] 24 (0, 0))) := ⟨h7_⟩
              have n8_ : Aside0 (w73.heap[gb539]? = some (.cells #[.int .i64 t534, .slice Ao63 t535.length co63] 24 (0, 0))) := ⟨h8_⟩
              have n9_ : Aside0 (Below w.heap.size w w73) := ⟨h9_⟩
              clear HO_5 HO_6 HO533 HO537 BK516 BK538 BK539 HB h0_ h1_ h2_ h3_ h4_ h5_ h6_ h7_ h8_ h9_
              have HO533 := n0_
              have HO537 := n1_
              have HO548 := n2_
              have HO552 := n3_
              have HO_5 := n4_
              have HO_6 := n5_
              have BK516 := n6_
              have BK538 := n7_
              have BK539 := n8_
              have HB := n9_
              clear n0_ n1_ n2_ n3_ n4_ n5_ n6_ n7_ n8_ n9_
              have hHeld : w73.cell? ⟨gb516, 0, none⟩ = some (.int .i64 a0_0) ∧ w73.cell? ⟨gb516, 1, none⟩ = some (.slice A0_1 l0_1.length c0_1) ∧ w73.cell? ⟨gb538, 0, none⟩ = some (.int .i64 t530) ∧ w73.cell? ⟨gb538, 1, none⟩ = some (.slice Ao60 t531.length co60) ∧ w73.cell? ⟨gb539, 0, none⟩ = some (.int .i64 t534) ∧ w73.cell? ⟨gb539, 1, none⟩ = some (.slice Ao63 t535.length co63) := hS_
              refine norm_ (a' := ?_) ?_ ?_
              rotate_left
              ·simp only [putAll, Act.put, zSa, zSb, zSc]
               rfl
              refine one_ (i := 13) (N := some 10) #[true, true, true, true, true, true, true, true, true, true, true, true, true, true, false, false] rfl rfl (one_of HT_.out (by kernel_rfl)) (by decide) (fun K hK => ?_)
              refine box_step ?hg (N := 10) ?hd (cs := #[.int .i64 0, .slice none 0 0]) (t := 24) ?hr ?_; (case hd => rfl); (case hg => rfl); (case hr => first | (go_simp; done) | (go_simp; rfl) | (go_simp; rw [show ∀ x : Int, IntKind.u32.wrap (IntKind.u8.wrap x) = x % 256 from fun x => (by show (x % 256) % 4294967296 = x % 256; omega)]))
              intro gb554 hg w74 hbox hb
              replace HO_5 := zMk (zRb (uR HO_5.out) hb)
              replace HO_6 := zMk (zRb (uR HO_6.out) hb)
              replace HO533 := zMk (zRb (uR HO533.out) hb)
              replace HO537 := zMk (zRb (uR HO537.out) hb)
              replace HO548 := zMk (zRb (uR HO548.out) hb)
              replace HO552 := zMk (zRb (uR HO552.out) hb)
              have BK554 := zMk (hbox)
              have GW554 := zMk ((by rw [hg]; exact (zBs (uT HB.out)) : w.heap.size ≤ gb554))
              have GE554 := zMk ((by rw [hg]; exact (zBs (uT HB.out)) : w.heap.size ≤ gb554))
              have IGE554 := ownGe GE554.out
              replace HB := zMk (zBt (uT HB.out) hb)
              have NB516_554 := zMk ((by rw [hg]; exact Nat.ne_of_lt (blk_lt BK516.out) : gb516 ≠ gb554))
              have NB554_516 := zMk ((by rw [hg]; exact Nat.ne_of_gt (blk_lt BK516.out) : gb554 ≠ gb516))
              replace BK516 := zMk (zKb BK516.out hb)
              have NB538_554 := zMk ((by rw [hg]; exact Nat.ne_of_lt (blk_lt BK538.out) : gb538 ≠ gb554))
              have NB554_538 := zMk ((by rw [hg]; exact Nat.ne_of_gt (blk_lt BK538.out) : gb554 ≠ gb538))
              replace BK538 := zMk (zKb BK538.out hb)
              have NB539_554 := zMk ((by rw [hg]; exact Nat.ne_of_lt (blk_lt BK539.out) : gb539 ≠ gb554))
              have NB554_539 := zMk ((by rw [hg]; exact Nat.ne_of_gt (blk_lt BK539.out) : gb554 ≠ gb539))
              replace BK539 := zMk (zKb BK539.out hb)
              clear hb hbox hg
              refine hK.out _ _ ⟨(zKc BK516.out 0).trans rfl, (zKc BK516.out 1).trans rfl, (zKc BK538.out 0).trans rfl, (zKc BK538.out 1).trans rfl, (zKc BK539.out 0).trans rfl, (zKc BK539.out 1).trans rfl⟩ (fun hHeld => ?_)
              clear hK K
              refine norm_ (a' := ?_) ?_ ?_
              rotate_left
              ·show Act.put _ (some 10) _ = _
               simp only [Act.put, zSa, zSb, zSc, i64_w, i32_w]
               rfl
              exact norm_ (by first | (simp only [putAll, Act.put, zSa, zSb, zSc]; done) | (simp only [putAll, Act.put, zSa, zSb, zSc]; rfl)) (hJ2_5_8_9_13 (v541, v544, v547, v551, gb554) _ ⟨hHeld, (uR HO533.out), (uR HO537.out), (uR HO548.out), (uR HO552.out), (uR HO_5.out), (uR HO_6.out), BK516.out, BK538.out, BK539.out, BK554.out, GW554.out, GE554.out, NB516_554.out, NB554_516.out, NB538_554.out, NB554_538.out, NB539_554.out, NB554_539.out, (uT HB.out)⟩)
            rintro ⟨v541, v544, v547, v551, gb554⟩ w74 ⟨hS_, h0_, h1_, h2_, h3_, h4_, h5_, h6_, h7_, h8_, h9_, h10_, h11_, h12_, h13_, h14_, h15_, h16_, h17_, h18_⟩
            have n0_ : Aside0 (Kd.R k36 36 w74 w.heap.size (fun k_ => some k_ ≠ (.slice Ao63 t535.length co63 : Value).ownBlock ∧ some k_ ≠ (v547 : Value).ownBlock ∧ some k_ ≠ (v551 : Value).ownBlock) (.slice Ao60 t531.length co60) t531) := ⟨h0_⟩
            have n1_ : Aside0 (Kd.R k36 36 w74 w.heap.size (fun k_ => some k_ ≠ (.slice Ao60 t531.length co60 : Value).ownBlock ∧ some k_ ≠ (v547 : Value).ownBlock ∧ some k_ ≠ (v551 : Value).ownBlock) (.slice Ao63 t535.length co63) t535) := ⟨h1_⟩
            have n2_ : Aside0 (Kd.R k36 36 w74 w.heap.size (fun k_ => some k_ ≠ (.slice Ao60 t531.length co60 : Value).ownBlock ∧ some k_ ≠ (.slice Ao63 t535.length co63 : Value).ownBlock ∧ some k_ ≠ (v551 : Value).ownBlock) v547 y546) := ⟨h2_⟩
            have n3_ : Aside0 (Kd.R k36 36 w74 w.heap.size (fun k_ => some k_ ≠ (.slice Ao60 t531.length co60 : Value).ownBlock ∧ some k_ ≠ (.slice Ao63 t535.length co63 : Value).ownBlock ∧ some k_ ≠ (v547 : Value).ownBlock) v551 t550) := ⟨h3_⟩
            have n4_ : Aside0 (Kd.R (Kd.int .i64) 3 w74 w.heap.size (fun k_ => some k_ ≠ (.slice Ao52 x6_2.length co52 : Value).ownBlock) (.slice Ao51 x5_2.length co51) x5_2) := ⟨h4_⟩
            have n5_ : Aside0 (Kd.R (Kd.int .i64) 3 w74 w.heap.size (fun k_ => some k_ ≠ (.slice Ao51 x5_2.length co51 : Value).ownBlock) (.slice Ao52 x6_2.length co52) x6_2) := ⟨h5_⟩
            have n6_ : Aside0 (w74.heap[gb516]? = some (.cells #[.int .i64 a0_0, .slice A0_1 l0_1.length c0_1] 24 (0, 0))) := ⟨h6_⟩
            have n7_ : Aside0 (w74.heap[gb538]? = some (.cells #[.int .i64 t530, .slice Ao60 t531.length co60] 24 (0, 0))) := ⟨h7_⟩
            have n8_ : Aside0 (w74.heap[gb539]? = some (.cells #[.int .i64 t534, .slice Ao63 t535.length co63] 24 (0, 0))) := ⟨h8_⟩
            have n9_ : Aside0 (w74.heap[gb554]? = some (.cells #[.int .i64 0, .slice none 0 0] 24 (0, 0))) := ⟨h9_⟩
            have n10_ : Aside0 (w.heap.size ≤ gb554) := ⟨h10_⟩
            have n11_ : Aside0 (w.heap.size ≤ gb554) := ⟨h11_⟩
            have n12_ : Aside0 (gb516 ≠ gb554) := ⟨h12_⟩
            have n13_ : Aside0 (gb554 ≠ gb516) := ⟨h13_⟩
            have n14_ : Aside0 (gb538 ≠ gb554) := ⟨h14_⟩
            have n15_ : Aside0 (gb554 ≠ gb538) := ⟨h15_⟩
            have n16_ : Aside0 (gb539 ≠ gb554) := ⟨h16_⟩
            have n17_ : Aside0 (gb554 ≠ gb539) := ⟨h17_⟩
            have n18_ : Aside0 (Below w.heap.size w w74) := ⟨h18_⟩
            clear HO_5 HO_6 HO533 HO537 BK516 BK538 BK539 HB h0_ h1_ h2_ h3_ h4_ h5_ h6_ h7_ h8_ h9_ h10_ h11_ h12_ h13_ h14_ h15_ h16_ h17_ h18_
            have HO533 := n0_
            have HO537 := n1_
            have HO548 := n2_
            have HO552 := n3_
            have HO_5 := n4_
            have HO_6 := n5_
            have BK516 := n6_
            have BK538 := n7_
            have BK539 := n8_
            have BK554 := n9_
            have GW554 := n10_
            have GE554 := n11_
            have IGE554 := ownGe GE554.out
            have NB516_554 := n12_
            have NB554_516 := n13_
            have NB538_554 := n14_
            have NB554_538 := n15_
            have NB539_554 := n16_
            have NB554_539 := n17_
            have HB := n18_
            clear n0_ n1_ n2_ n3_ n4_ n5_ n6_ n7_ n8_ n9_ n10_ n11_ n12_ n13_ n14_ n15_ n16_ n17_ n18_
            have hHeld : w74.cell? ⟨gb516, 0, none⟩ = some (.int .i64 a0_0) ∧ w74.cell? ⟨gb516, 1, none⟩ = some (.slice A0_1 l0_1.length c0_1) ∧ w74.cell? ⟨gb538, 0, none⟩ = some (.int .i64 t530) ∧ w74.cell? ⟨gb538, 1, none⟩ = some (.slice Ao60 t531.length co60) ∧ w74.cell? ⟨gb539, 0, none⟩ = some (.int .i64 t534) ∧ w74.cell? ⟨gb539, 1, none⟩ = some (.slice Ao63 t535.length co63) := hS_
            obtain ⟨Ao76, co76, eo76⟩ := zRs HO552.out
            (first |  subst eo76|  (injection eo76 with f1_ f2_ f3_; have f4_ := f1_.symm; have f5_ := f3_.symm; clear f1_ f2_ f3_; subst f4_; subst f5_))
            refine norm_ (a' := ?_) ?_ ?_
            rotate_left
            ·simp only [putAll, Act.put, zSa, zSb, zSc]
             rfl
            refine one_ (i := 14) (N := none) #[true, true, true, true, true, true, true, true, true, true, true, true, true, true, true, false] rfl rfl (one_of HT_.out (by kernel_rfl)) (by decide) (fun K hK => ?_)
            have hs75 : w74.cell? ⟨gb554, 0, none⟩ = some (.int .i64 0) := (zKc BK554.out 0).trans rfl
            have hfs75 := zKf BK554.out 0
            have hns75_0 := NB516_554.out
            have hns75_1 := NB538_554.out
            have hns75_2 := NB539_554.out
            have hms75_0 := NB554_516.out
            have hms75_1 := NB554_538.out
            have hms75_2 := NB554_539.out
            have hs77 : w74.cell? ⟨gb554, 1, none⟩ = some (.slice none 0 0) := (zKc BK554.out 1).trans rfl
            have hfs77 := zKf BK554.out 1
            have hns77_0 := NB516_554.out
            have hns77_1 := NB538_554.out
            have hns77_2 := NB539_554.out
            have hms77_0 := NB554_516.out
            have hms77_1 := NB554_538.out
            have hms77_2 := NB554_539.out
            refine skip_ (w1 := ?_) (by rfl) rfl ?_ ?_
            rotate_left
            ·go_simp
             rfl
            refine hK.out _ _ ⟨((cell_far (p := ⟨gb554, _, none⟩) NB516_554.out _).trans (((cell_far (p := ⟨gb554, _, none⟩) NB516_554.out _).trans (hHeld.1)))), ((cell_far (p := ⟨gb554, _, none⟩) NB516_554.out _).trans (((cell_far (p := ⟨gb554, _, none⟩) NB516_554.out _).trans (hHeld.2.1)))), ((cell_far (p := ⟨gb554, _, none⟩) NB538_554.out _).trans (((cell_far (p := ⟨gb554, _, none⟩) NB538_554.out _).trans (hHeld.2.2.1)))), ((cell_far (p := ⟨gb554, _, none⟩) NB538_554.out _).trans (((cell_far (p := ⟨gb554, _, none⟩) NB538_554.out _).trans (hHeld.2.2.2.1)))), ((cell_far (p := ⟨gb554, _, none⟩) NB539_554.out _).trans (((cell_far (p := ⟨gb554, _, none⟩) NB539_554.out _).trans (hHeld.2.2.2.2.1)))), ((cell_far (p := ⟨gb554, _, none⟩) NB539_554.out _).trans (((cell_far (p := ⟨gb554, _, none⟩) NB539_554.out _).trans (hHeld.2.2.2.2.2))))⟩ (fun hHeld => ?_)
            clear hK K
            refine pure_ (i := 15) (N := some 11) (v := ?_) (a' := ?_) #[true, true, true, true, true, true, true, true, true, true, true, true, true, true, true, true] rfl rfl (any_of HT_.out (by kernel_rfl)) (fun _ _ _ h => h) (Or.inl ⟨by rfl, ?_⟩) ?_ ?_
            rotate_left
            ·intro w'
             go_simp
             with_reducible rfl
            rotate_left
            ·simp only [Act.put, zSa, zSb, zSc, i64_w, i32_w]
             rfl
            refine done_ (done_of HT_.out (by kernel_rfl)) ?_
            have hnb78 := NB516_538.out
            have hnc78 := NB538_516.out
            have hnb79 := NB516_539.out
            have hnc79 := NB539_516.out
            have hnb80 := NB516_554.out
            have hnc80 := NB554_516.out
            have hcz81_0 : w74.cell? ⟨gb516, 0, none⟩ = some (.int .i64 a0_0) := (zKc BK516.out 0).trans rfl
            have hcz81_1 : w74.cell? ⟨gb516, 1, none⟩ = some (.slice A0_1 l0_1.length c0_1) := (zKc BK516.out 1).trans rfl
            have hfz81_0 := zKf BK516.out 0
            have hfz81_1 := zKf BK516.out 1
            try go_wp2_with (first | ((with_reducible refine gate_callee (f := 19) rfl ?_); refine goesL_ (some 74) rfl rfl Try.func19 (by kernel_rfl) rfl #[.agg #[.int .i64 a0_0, .slice A0_1 l0_1.length c0_1], .slice Ao51 x5_2.length co51] rfl (by (try simp only [zMa, zMc, zMn]); first |  done|  rfl|  (simp only [zLd, zLt]; rfl)) ?_; (with_reducible refine (graph_Weight.calls k2 a0_0 _ _ l0_1 _ _ x5_2 t555 t556 _ ?side1 ?side2 ?side3 ?side4 A36.out).mono ?_); (case side1 => exact Kd.C_below HR0_1.out (uT HB.out)); (case side2 => exact HC0_1.out); (case side3 => refine (zRr (e := 3) (base := w.heap.size) (ok := fun k_ => some k_ ≠ (.slice Ao52 x6_2.length co52 : Value).ownBlock) (n := x5_2.length) (c := co51) ?_).2.2; exact (zRm (Kd.R_far (p := ⟨gb554, 1, none⟩) (Kd.R_far (p := ⟨gb554, 0, none⟩) (Kd.R_types HO_5.out BK554.out (by decide)) (fun _ hk => hk.2) (.int .i64 t549)) (fun _ hk => hk.2) (.slice Ao76 t550.length co76)) (fun _ h_ => h_.1))); (case side4 => exact (zRr HO_5.out).2.1); rintro e w82 ⟨rfl, hb⟩; refine ⟨_, rfl, ?_⟩; replace HO_5 := zMk (zRb (zRm (Kd.R_far (p := ⟨gb554, 1, none⟩) (Kd.R_far (p := ⟨gb554, 0, none⟩) (Kd.R_types HO_5.out BK554.out (by decide)) (fun _ hk => hk.2) (.int .i64 t549)) (fun _ hk => hk.2) (.slice Ao76 t550.length co76)) (fun _ h_ => h_.1)) hb); replace HO_6 := zMk (zRb (zRm (Kd.R_far (p := ⟨gb554, 1, none⟩) (Kd.R_far (p := ⟨gb554, 0, none⟩) (Kd.R_types HO_6.out BK554.out (by decide)) (fun _ hk => hk.2) (.int .i64 t549)) (fun _ hk => hk.2) (.slice Ao76 t550.length co76)) (fun _ h_ => h_.1)) hb); replace HO533 := zMk (zRb (zRm (Kd.R_far (p := ⟨gb554, 1, none⟩) (Kd.R_far (p := ⟨gb554, 0, none⟩) (Kd.R_types HO533.out BK554.out (by decide)) (fun _ hk => hk.2) (.int .i64 t549)) (fun _ hk => hk.2) (.slice Ao76 t550.length co76)) (fun _ h_ => h_.1)) hb); replace HO537 := zMk (zRb (zRm (Kd.R_far (p := ⟨gb554, 1, none⟩) (Kd.R_far (p := ⟨gb554, 0, none⟩) (Kd.R_types HO537.out BK554.out (by decide)) (fun _ hk => hk.2) (.int .i64 t549)) (fun _ hk => hk.2) (.slice Ao76 t550.length co76)) (fun _ h_ => h_.1)) hb); replace HO548 := zMk (zRb (zRm (Kd.R_far (p := ⟨gb554, 1, none⟩) (Kd.R_far (p := ⟨gb554, 0, none⟩) (Kd.R_types HO548.out BK554.out (by decide)) (fun _ hk => hk.2) (.int .i64 t549)) (fun _ hk => hk.2) (.slice Ao76 t550.length co76)) (fun _ h_ => h_.1)) hb); replace HO552 := zMk (zRb (zRm (Kd.R_far (p := ⟨gb554, 1, none⟩) (Kd.R_far (p := ⟨gb554, 0, none⟩) (Kd.R_types HO552.out BK554.out (by decide)) (fun _ hk => hk.2) (.int .i64 t549)) (fun _ hk => hk.2) (.slice Ao76 t550.length co76)) (fun _ h_ => h_.1)) hb); replace BK516 := zMk (zKb (g := gb516) (o := .cells #[.int .i64 a0_0, .slice A0_1 l0_1.length c0_1] 24 (0, 0)) (by (with_reducible repeat (first |  refine zKn ?_ _|  refine zKd ?_|  refine zKa ?_ _)); refine blk_far ?_ NB516_554.out _; (with_reducible repeat (first |  refine zKn ?_ _|  refine zKd ?_|  refine zKa ?_ _)); refine blk_far ?_ NB516_554.out _; (with_reducible repeat (first |  refine zKn ?_ _|  refine zKd ?_|  refine zKa ?_ _)); exact BK516.out) hb); replace BK538 := zMk (zKb (g := gb538) (o := .cells #[.int .i64 t530, .slice Ao60 t531.length co60] 24 (0, 0)) (by (with_reducible repeat (first |  refine zKn ?_ _|  refine zKd ?_|  refine zKa ?_ _)); refine blk_far ?_ NB538_554.out _; (with_reducible repeat (first |  refine zKn ?_ _|  refine zKd ?_|  refine zKa ?_ _)); refine blk_far ?_ NB538_554.out _; (with_reducible repeat (first |  refine zKn ?_ _|  refine zKd ?_|  refine zKa ?_ _)); exact BK538.out) hb); replace BK539 := zMk (zKb (g := gb539) (o := .cells #[.int .i64 t534, .slice Ao63 t535.length co63] 24 (0, 0)) (by (with_reducible repeat (first |  refine zKn ?_ _|  refine zKd ?_|  refine zKa ?_ _)); refine blk_far ?_ NB539_554.out _; (with_reducible repeat (first |  refine zKn ?_ _|  refine zKd ?_|  refine zKa ?_ _)); refine blk_far ?_ NB539_554.out _; (with_reducible repeat (first |  refine zKn ?_ _|  refine zKd ?_|  refine zKa ?_ _)); exact BK539.out) hb); replace BK554 := zMk (zKb (g := gb554) (o := .cells #[.int .i64 t549, .slice Ao76 t550.length co76] 24 (0, 0)) (by (with_reducible repeat (first |  refine zKn ?_ _|  refine zKd ?_|  refine zKa ?_ _)); refine blk_put (cs := #[.int .i64 t549, .slice none 0 0]) ?_ 1 _ rfl; (with_reducible repeat (first |  refine zKn ?_ _|  refine zKd ?_|  refine zKa ?_ _)); refine blk_put (cs := #[.int .i64 0, .slice none 0 0]) ?_ 0 _ rfl; (with_reducible repeat (first |  refine zKn ?_ _|  refine zKd ?_|  refine zKa ?_ _)); exact BK554.out) hb); replace HB := zMk (zBt (uT HB.out) hb); have hcz83_0 : w82.cell? ⟨gb516, 0, none⟩ = some (.int .i64 a0_0) := (zKc BK516.out 0).trans rfl; have hcz83_1 : w82.cell? ⟨gb516, 1, none⟩ = some (.slice A0_1 l0_1.length c0_1) := (zKc BK516.out 1).trans rfl; have hfz83_0 := zKf BK516.out 0; have hfz83_1 := zKf BK516.out 1)|((with_reducible refine gate_callee (f := 19) rfl ?_); refine goesL_ (some 80) rfl rfl Try.func19 (by kernel_rfl) rfl #[.agg #[.int .i64 a0_0, .slice A0_1 l0_1.length c0_1], .slice Ao52 x6_2.length co52] rfl (by (try simp only [zMa, zMc, zMn]); first |  done|  rfl|  (simp only [zLd, zLt]; rfl)) ?_; (with_reducible refine (graph_Weight.calls k2 a0_0 _ _ l0_1 _ _ x6_2 t557 t558 _ ?side1 ?side2 ?side3 ?side4 A37.out).mono ?_); (case side1 => repeat (first |  exact (Kd.C_below HR0_1.out HB.out)|(with_reducible refine zCa ?_ _)|(with_reducible refine zCn ?_ _)|(with_reducible refine zCd ?_))); (case side2 => exact HC0_1.out); (case side3 => exact uC (zRr HO_6.out).2.2); (case side4 => exact (zRr HO_6.out).2.1); rintro e w84 ⟨rfl, hb⟩; refine ⟨_, rfl, ?_⟩; replace HO_5 := zMk (zRb (uR HO_5.out) hb); replace HO_6 := zMk (zRb (uR HO_6.out) hb); replace HO533 := zMk (zRb (uR HO533.out) hb); replace HO537 := zMk (zRb (uR HO537.out) hb); replace HO548 := zMk (zRb (uR HO548.out) hb); replace HO552 := zMk (zRb (uR HO552.out) hb); replace BK516 := zMk (zKb BK516.out hb); replace BK538 := zMk (zKb BK538.out hb); replace BK539 := zMk (zKb BK539.out hb); replace BK554 := zMk (zKb BK554.out hb); replace HB := zMk (zBt (uT HB.out) hb)))
            replace HO_5 := zMk (zRd HO_5.out)
            replace HO_6 := zMk (zRd HO_6.out)
            replace HO533 := zMk (zRd HO533.out)
            replace HO537 := zMk (zRd HO537.out)
            replace HO548 := zMk (zRd HO548.out)
            replace HO552 := zMk (zRd HO552.out)
            replace BK516 := zMk (zKd BK516.out)
            replace BK538 := zMk (zKd BK538.out)
            replace BK539 := zMk (zKd BK539.out)
            replace BK554 := zMk (zKd BK554.out)
            replace HB := zMk (zBd HB.out)
            refine start_ (n := 12) (S := fun w' => w'.cell? ⟨gb516, 0, none⟩ = some (.int .i64 a0_0) ∧ w'.cell? ⟨gb516, 1, none⟩ = some (.slice A0_1 l0_1.length c0_1)) (ds := []) #[false, false, false, false, false, false, false, false, false, false, false, false] (by kernel_rfl) rfl rfl ⟨(zKc BK516.out 0).trans rfl, (zKc BK516.out 1).trans rfl⟩ (fun hHeld => ?_); refine with_tabW filigreelaw04_GraphSplit.tab14 filigreelaw04_GraphSplit.bits14 (fun HT_ HW_ => ?_)
            generalize w84.drew = w85 at HO_5 HO_6 HO533 HO537 HO548 HO552 BK516 BK538 BK539 BK554 HB hHeld ⊢
            refine pure_ (i := 2) (N := some 86) (v := ?_) (a' := ?_) #[false, false, true, false, false, false, false, false, false, false, false, false] rfl rfl (any_of HT_.out (by kernel_rfl)) (fun _ _ _ h => h) (Or.inl ⟨by rfl, ?_⟩) ?_ ?_
            rotate_left
            ·intro w'
             go_simp
             with_reducible rfl
            rotate_left
            ·simp only [Act.put, zSa, zSb, zSc, i64_w, i32_w]
             rfl
            refine pure_ (i := 4) (N := some 88) (v := ?_) (a' := ?_) #[false, false, true, false, true, false, false, false, false, false, false, false] rfl rfl (any_of HT_.out (by kernel_rfl)) (fun _ _ _ h => h) (Or.inl ⟨by rfl, ?_⟩) ?_ ?_
            rotate_left
            ·intro w'
             go_simp
             with_reducible rfl
            rotate_left
            ·simp only [Act.put, zSa, zSb, zSc, i64_w, i32_w]
             rfl
            refine take_ (i := 0) (N := some 84) (v := ?_) (a' := ?_) #[true, false, true, false, true, false, false, false, false, false, false, false] rfl rfl (take_ofW HT_.out HW_.out (by kernel_rfl)) (fun _ _ _ h => h) (Or.inl ⟨by rfl, ?_⟩) hHeld ?_ ?_
            rotate_left
            ·rintro w' ⟨s0, s1⟩
             go_simp
             with_reducible rfl
            rotate_left
            ·simp only [Act.put, zSa, zSb, zSc, i64_w, i32_w]
             rfl
            refine one_ (i := 1) (N := some 85) #[true, true, true, false, true, false, false, false, false, false, false, false] rfl rfl (one_of HT_.out (by kernel_rfl)) (by decide) (fun K hK => ?_)
            refine Kd.R_lit_step (Kd.int .i64) _ 3 ?hg (N := 85) ?hd (xs := ([] : List Int)) (inner := []) (ok := fun _ => True) (okp := fun _ => True) ?hr ?hp (fun _ hk => hk) trivial (Below.refl _ _) (Nat.le_refl _) (by simp) ?_; (case hd => rfl); (case hg => rfl); (case hr => first | (go_simp; done) | (go_simp; rfl) | (go_simp; rw [show ∀ x : Int, IntKind.u32.wrap (IntKind.u8.wrap x) = x % 256 from fun x => (by show (x % 256) % 4294967296 = x % 256; omega)])); (case hp => exact (Reps.none _ _))
            intro v560 w86 ho87 hb hg_ hnew_
            clear hg_ hnew_
            (first | rw [← Ny559.out] at ho87 | (simp only [Int.reduceToNat] at ho87; rw [← Ny559.out] at ho87))
            replace HO533 := zMk (zRb (uR HO533.out) hb)
            replace HO537 := zMk (zRb (uR HO537.out) hb)
            replace HO548 := zMk (zRb (uR HO548.out) hb)
            replace HO552 := zMk (zRb (uR HO552.out) hb)
            have HO561 := zMk (zRl (zRw (zRw ho87 (zRt (uR HO_5.out))) (zRt (uR HO_6.out))) (zBs (uT HB.out)))
            replace HO_5 := zMk (zRe (uR HO_5.out) (zRz ho87) hb)
            replace HO_6 := zMk (zRe (uR HO_6.out) (zRz ho87) hb)
            replace BK516 := zMk (zKb BK516.out hb)
            replace BK538 := zMk (zKb BK538.out hb)
            replace BK539 := zMk (zKb BK539.out hb)
            replace BK554 := zMk (zKb BK554.out hb)
            replace HB := zMk (zBt (uT HB.out) hb)
            clear hb ho87
            refine hK.out _ _ ⟨(zKc BK516.out 0).trans rfl, (zKc BK516.out 1).trans rfl⟩ (fun hHeld => ?_)
            clear hK K
            refine norm_ (a' := ?_) ?_ ?_
            rotate_left
            ·show Act.put _ (some 85) _ = _
             simp only [Act.put, zSa, zSb, zSc, i64_w, i32_w]
             rfl
            refine one_ (i := 3) (N := some 87) #[true, true, true, true, true, false, false, false, false, false, false, false] rfl rfl (one_of HT_.out (by kernel_rfl)) (by decide) (fun K hK => ?_)
            refine Kd.R_append_rows_step (Kd.int .i64) (w0 := w) w.heap.size (by rfl) (.tmp 85) (.tmp 86) 33 3 (.int .i64 0) 8 rfl Try.underlying33 info3 rfl (by decide) (by omega) v560 y559 x5_2 _ _ _ (fun k_ => some k_ ≠ (.slice Ao51 x5_2.length co51 : Value).ownBlock ∧ some k_ ≠ (.slice Ao52 x6_2.length co52 : Value).ownBlock) (fun _ => False) rfl rfl ?aO ?aR (fun _ _ h => h) (fun _ h => h.elim) ?aF ?aB ?aS ?aL ?_
            (case aR => exact uC (zRr HO_5.out).2.2)
            (case aB => exact (uT HB.out))
            (case aF => exact (fun k_ hk => ⟨Kd.fresh' (zRt (uR HO_5.out)) k_ hk, Kd.fresh' (zRt (uR HO_6.out)) k_ hk⟩))
            (case aO => exact (zRm HO561.out (fun _ hk => ⟨hk.1.2, hk.2⟩)))
            (case aS => exact (zBs (uT HB.out)))
            (case aL => have := LMc38.out; omega)
            intro v563 w88 ho hb hg hat
            rw [← Ny562.out] at ho
            replace HO_5 := zMk (Kd.R_after (ok := (fun k_ => some k_ ≠ (.slice Ao52 x6_2.length co52 : Value).ownBlock)) (uR HO_5.out) hg hat)
            replace HO_6 := zMk (Kd.R_after (ok := (fun k_ => some k_ ≠ (.slice Ao51 x5_2.length co51 : Value).ownBlock)) (uR HO_6.out) hg hat)
            replace BK516 := zMk (blk_grown (g := gb516) (o := .cells #[.int .i64 a0_0, .slice A0_1 l0_1.length c0_1] 24 (0, 0)) BK516.out hg (Kd.R_ne HO561.out BK516.out (by decide)))
            replace HO533 := zMk (Kd.R_over' (uR HO533.out) (Kd.R_typed (uR HO561.out)) (by decide) hg)
            replace HO537 := zMk (Kd.R_over' (uR HO537.out) (Kd.R_typed (uR HO561.out)) (by decide) hg)
            replace BK538 := zMk (blk_grown (g := gb538) (o := .cells #[.int .i64 t530, .slice Ao60 t531.length co60] 24 (0, 0)) BK538.out hg (Kd.R_ne HO561.out BK538.out (by decide)))
            replace BK539 := zMk (blk_grown (g := gb539) (o := .cells #[.int .i64 t534, .slice Ao63 t535.length co63] 24 (0, 0)) BK539.out hg (Kd.R_ne HO561.out BK539.out (by decide)))
            replace HO548 := zMk (Kd.R_over' (uR HO548.out) (Kd.R_typed (uR HO561.out)) (by decide) hg)
            replace HO552 := zMk (Kd.R_over' (uR HO552.out) (Kd.R_typed (uR HO561.out)) (by decide) hg)
            replace BK554 := zMk (blk_grown (g := gb554) (o := .cells #[.int .i64 t549, .slice Ao76 t550.length co76] 24 (0, 0)) BK554.out hg (Kd.R_ne HO561.out BK554.out (by decide)))
            replace HB := zMk (hb)
            have HO564 := zMk (ho)
            clear HO561 ho hb hg hat
            refine hK.out _ _ ⟨(zKc BK516.out 0).trans rfl, (zKc BK516.out 1).trans rfl⟩ (fun hHeld => ?_)
            clear hK K
            refine norm_ (a' := ?_) ?_ ?_
            rotate_left
            ·show Act.put _ (some 87) _ = _
             simp only [Act.put, zSa, zSb, zSc, i64_w, i32_w]
             rfl
            refine one_ (i := 5) (N := some 89) #[true, true, true, true, true, true, false, false, false, false, false, false] rfl rfl (one_of HT_.out (by kernel_rfl)) (by decide) (fun K hK => ?_)
            refine Kd.R_append_rows_step (Kd.int .i64) (w0 := w) w.heap.size (by rfl) (.tmp 87) (.tmp 88) 33 3 (.int .i64 0) 8 rfl Try.underlying33 info3 rfl (by decide) (by omega) v563 y562 x6_2 _ _ _ (fun k_ => some k_ ≠ (.slice Ao51 x5_2.length co51 : Value).ownBlock ∧ some k_ ≠ (.slice Ao52 x6_2.length co52 : Value).ownBlock) (fun _ => False) rfl rfl ?aO ?aR (fun _ _ h => h) (fun _ h => h.elim) ?aF ?aB ?aS ?aL ?_
            (case aR => exact uC (zRr HO_6.out).2.2)
            (case aB => exact (uT HB.out))
            (case aF => exact (fun k_ hk => ⟨Kd.fresh' (zRt (uR HO_5.out)) k_ hk, Kd.fresh' (zRt (uR HO_6.out)) k_ hk⟩))
            (case aO => exact (uR HO564.out))
            (case aS => exact (zBs (uT HB.out)))
            (case aL => have := LMc39.out; omega)
            intro v566 w89 ho hb hg hat
            rw [← Ny565.out] at ho
            replace HO_5 := zMk (Kd.R_after (ok := (fun k_ => some k_ ≠ (.slice Ao52 x6_2.length co52 : Value).ownBlock)) (uR HO_5.out) hg hat)
            replace HO_6 := zMk (Kd.R_after (ok := (fun k_ => some k_ ≠ (.slice Ao51 x5_2.length co51 : Value).ownBlock)) (uR HO_6.out) hg hat)
            replace BK516 := zMk (blk_grown (g := gb516) (o := .cells #[.int .i64 a0_0, .slice A0_1 l0_1.length c0_1] 24 (0, 0)) BK516.out hg (Kd.R_ne HO564.out BK516.out (by decide)))
            replace HO533 := zMk (Kd.R_over' (uR HO533.out) (Kd.R_typed (uR HO564.out)) (by decide) hg)
            replace HO537 := zMk (Kd.R_over' (uR HO537.out) (Kd.R_typed (uR HO564.out)) (by decide) hg)
            replace BK538 := zMk (blk_grown (g := gb538) (o := .cells #[.int .i64 t530, .slice Ao60 t531.length co60] 24 (0, 0)) BK538.out hg (Kd.R_ne HO564.out BK538.out (by decide)))
            replace BK539 := zMk (blk_grown (g := gb539) (o := .cells #[.int .i64 t534, .slice Ao63 t535.length co63] 24 (0, 0)) BK539.out hg (Kd.R_ne HO564.out BK539.out (by decide)))
            replace HO548 := zMk (Kd.R_over' (uR HO548.out) (Kd.R_typed (uR HO564.out)) (by decide) hg)
            replace HO552 := zMk (Kd.R_over' (uR HO552.out) (Kd.R_typed (uR HO564.out)) (by decide) hg)
            replace BK554 := zMk (blk_grown (g := gb554) (o := .cells #[.int .i64 t549, .slice Ao76 t550.length co76] 24 (0, 0)) BK554.out hg (Kd.R_ne HO564.out BK554.out (by decide)))
            replace HB := zMk (hb)
            have HO567 := zMk (ho)
            clear HO564 ho hb hg hat
            obtain ⟨Ao90, co90, eo90⟩ := zRs HO567.out
            (first |  subst eo90|  (injection eo90 with f1_ f2_ f3_; have f4_ := f1_.symm; have f5_ := f3_.symm; clear f1_ f2_ f3_; subst f4_; subst f5_))
            refine hK.out _ _ ⟨(zKc BK516.out 0).trans rfl, (zKc BK516.out 1).trans rfl⟩ (fun hHeld => ?_)
            clear hK K
            refine norm_ (a' := ?_) ?_ ?_
            rotate_left
            ·show Act.put _ (some 89) _ = _
             simp only [Act.put, zSa, zSb, zSc, i64_w, i32_w]
             rfl
            refine one_ (i := 6) (N := some 90) #[true, true, true, true, true, true, true, false, false, false, false, false] rfl rfl (one_of HT_.out (by kernel_rfl)) (by decide) (fun K hK => ?_)
            refine goes_ Try.func19 (by kernel_rfl) rfl #[.agg #[.int .i64 a0_0, .slice A0_1 l0_1.length c0_1], .slice Ao90 y565.length co90] (by rfl) rfl rfl (by (try simp only [zMa, zMc, zMn]); first | done | rfl | (simp only [zLd, zLt]; rfl)) ?_
            with_reducible refine (graph_Weight.calls k2 a0_0 _ _ l0_1 _ _ y565 t568 t569 _ ?side1 ?side2 ?side3 ?side4 A40.out).mono ?_
            (case side1 => repeat (first | exact (Kd.C_below HR0_1.out HB.out) | (with_reducible refine zCa ?_ _) | (with_reducible refine zCn ?_ _) | (with_reducible refine zCd ?_)))
            (case side2 => exact HC0_1.out)
            (case side3 => exact uC (zRr HO567.out).2.2)
            (case side4 => exact (zRr HO567.out).2.1)
            rintro e w91 ⟨rfl, hb⟩
            refine ⟨_, rfl, ?_⟩
            replace HO_5 := zMk (zRb (uR HO_5.out) hb)
            replace HO_6 := zMk (zRb (uR HO_6.out) hb)
            replace HO533 := zMk (zRb (uR HO533.out) hb)
            replace HO537 := zMk (zRb (uR HO537.out) hb)
            replace HO548 := zMk (zRb (uR HO548.out) hb)
            replace HO552 := zMk (zRb (uR HO552.out) hb)
            replace HO567 := zMk (zRb (uR HO567.out) hb)
            replace BK516 := zMk (zKb BK516.out hb)
            replace BK538 := zMk (zKb BK538.out hb)
            replace BK539 := zMk (zKb BK539.out hb)
            replace BK554 := zMk (zKb BK554.out hb)
            replace HB := zMk (zBt (uT HB.out) hb)
            refine hK.out _ _ ⟨(zKc BK516.out 0).trans rfl, (zKc BK516.out 1).trans rfl⟩ (fun hHeld => ?_)
            clear hK K
            refine norm_ (a' := ?_) ?_ ?_
            rotate_left
            ·show Act.put _ (some 90) _ = _
             simp only [Act.put, zSa, zSb, zSc, i64_w, i32_w]
             rfl
            refine pure_ (i := 7) (N := some 83) (v := ?_) (a' := ?_) #[true, true, true, true, true, true, true, true, false, false, false, false] rfl rfl (any_of HT_.out (by kernel_rfl)) (fun _ _ _ h => h) (Or.inl ⟨by rfl, ?_⟩) ?_ ?_
            rotate_left
            ·intro w'
             go_simp
             with_reducible rfl
            rotate_left
            ·simp only [Act.put, zSa, zSb, zSc, i64_w, i32_w]
             rfl
            refine pure_ (i := 8) (N := some 91) (v := ?_) (a' := ?_) #[true, true, true, true, true, true, true, true, true, false, false, false] rfl rfl (any_of HT_.out (by kernel_rfl)) (fun _ _ _ h => h) (Or.inl ⟨by rfl, ?_⟩) ?_ ?_
            rotate_left
            ·intro w'
             go_simp
             with_reducible rfl
            rotate_left
            ·simp only [Act.put, zSa, zSb, zSc, i64_w, i32_w]
             rfl
            refine pure_ (i := 9) (N := some 92) (v := ?_) (a' := ?_) #[true, true, true, true, true, true, true, true, true, true, false, false] rfl rfl (any_of HT_.out (by kernel_rfl)) (fun _ _ _ h => h) (Or.inl ⟨by rfl, ?_⟩) ?_ ?_
            rotate_left
            ·intro w'
             go_simp
             with_reducible rfl
            rotate_left
            ·simp only [Act.put, zSa, zSb, zSc, i64_w, i32_w]
             rfl
            refine pure_ (i := 10) (N := some 16) (v := ?_) (a' := ?_) #[true, true, true, true, true, true, true, true, true, true, true, false] rfl rfl (any_of HT_.out (by kernel_rfl)) (fun _ _ _ h => h) (Or.inl ⟨by rfl, ?_⟩) ?_ ?_
            rotate_left
            ·intro w'
             go_simp
             with_reducible rfl
            rotate_left
            ·simp only [Act.put, zSa, zSb, zSc, i64_w, i32_w]
             rfl
            refine pure_ (i := 11) (N := some 17) (v := ?_) (a' := ?_) #[true, true, true, true, true, true, true, true, true, true, true, true] rfl rfl (any_of HT_.out (by kernel_rfl)) (fun _ _ _ h => h) (Or.inl ⟨by rfl, ?_⟩) ?_ ?_
            rotate_left
            ·intro w'
             go_simp
             with_reducible rfl
            rotate_left
            ·simp only [Act.put, zSa, zSb, zSc, i64_w, i32_w]
             rfl
            refine done_ (done_of HT_.out (by kernel_rfl)) ?_
            have hnb92 := NB554_538.out
            have hnc92 := NB538_554.out
            have hnb93 := NB554_539.out
            have hnc93 := NB539_554.out
            have hcz94_0 : w91.cell? ⟨gb554, 0, none⟩ = some (.int .i64 t549) := (zKc BK554.out 0).trans rfl
            have hcz94_1 : w91.cell? ⟨gb554, 1, none⟩ = some (.slice Ao76 t550.length co76) := (zKc BK554.out 1).trans rfl
            have hfz94_0 := zKf BK554.out 0
            have hfz94_1 := zKf BK554.out 1
            have hcz95_0 : w91.cell? ⟨gb516, 0, none⟩ = some (.int .i64 a0_0) := (zKc BK516.out 0).trans rfl
            have hcz95_1 : w91.cell? ⟨gb516, 1, none⟩ = some (.slice A0_1 l0_1.length c0_1) := (zKc BK516.out 1).trans rfl
            have hfz95_0 := zKf BK516.out 0
            have hfz95_1 := zKf BK516.out 1
            try go_wp2_with (first | (go_at_call 18; (with_reducible refine (graph_Same.calls k2 t549 _ _ t550 a0_0 _ _ l0_1 true _ ?side1 ?side2 ?side3 ?side4 A45.out).mono ?_); (case side1 => exact uC (zRr HO552.out).2.2); (case side2 => exact (zRr HO552.out).2.1); (case side3 => repeat (first |  exact (Kd.C_below HR0_1.out HB.out)|(with_reducible refine zCa ?_ _)|(with_reducible refine zCn ?_ _)|(with_reducible refine zCd ?_))); (case side4 => exact HC0_1.out); rintro e w96 ⟨rfl, hb⟩; replace HO_5 := zMk (zRb (uR HO_5.out) hb); replace HO_6 := zMk (zRb (uR HO_6.out) hb); replace HO533 := zMk (zRb (uR HO533.out) hb); replace HO537 := zMk (zRb (uR HO537.out) hb); replace HO548 := zMk (zRb (uR HO548.out) hb); replace HO552 := zMk (zRb (uR HO552.out) hb); replace HO567 := zMk (zRb (uR HO567.out) hb); replace BK516 := zMk (zKb BK516.out hb); replace BK538 := zMk (zKb BK538.out hb); replace BK539 := zMk (zKb BK539.out hb); replace BK554 := zMk (zKb BK554.out hb); replace HB := zMk (zBt (uT HB.out) hb); have hnb97 := NB538_539.out; have hnc97 := NB539_538.out; have hcz98_0 : w96.cell? ⟨gb538, 0, none⟩ = some (.int .i64 t530) := (zKc BK538.out 0).trans rfl; have hcz98_1 : w96.cell? ⟨gb538, 1, none⟩ = some (.slice Ao60 t531.length co60) := (zKc BK538.out 1).trans rfl; have hfz98_0 := zKf BK538.out 0; have hfz98_1 := zKf BK538.out 1)|(go_at_call 13; (with_reducible refine (filigreelaw04_alive.calls k2  t571 _ A49.out).mono ?_); rintro e w99 ⟨rfl, hb⟩; replace HO_5 := zMk (zRb (uR HO_5.out) hb); replace HO_6 := zMk (zRb (uR HO_6.out) hb); replace HO533 := zMk (zRb (uR HO533.out) hb); replace HO537 := zMk (zRb (uR HO537.out) hb); replace HO548 := zMk (zRb (uR HO548.out) hb); replace HO552 := zMk (zRb (uR HO552.out) hb); replace HO567 := zMk (zRb (uR HO567.out) hb); replace BK516 := zMk (zKb BK516.out hb); replace BK538 := zMk (zKb BK538.out hb); replace BK539 := zMk (zKb BK539.out hb); replace BK554 := zMk (zKb BK554.out hb); replace HB := zMk (zBt (uT HB.out) hb)))
            go_ret
            exact ⟨by first | rfl | (simp [errW_none, errW_some] <;> rfl) | (simp [*, errW_none, errW_some] <;> rfl), by exact uT HB.out⟩
           ·rw [if_neg c48] at H
            exact absurd ((zOi H).trans HRT.out) (by decide)
          ·rw [if_neg c47] at H
           exact absurd ((zOi H).trans HRT.out) (by decide)
         ·replace c46 := Bool.eq_false_iff.mpr c46
          subst c46
          replace H : (some false) = some r := by rw [if_neg (show ¬ (false = true) by decide)] at H; exact H
          exact absurd ((zOi H).trans HRT.out) (by decide)
        ·rw [if_neg c44] at H
         have c44b0 : (t569 == 0) = false := beq_eq_false_iff_ne.mpr c44
         have c44b1 : (t569 != 0) = true := bne_iff_ne.mpr c44
         exact absurd ((zOi H).trans HRT.out) (by decide)
       ·rw [if_neg c43] at H
        have c43b0 : (t558 == 0) = false := beq_eq_false_iff_ne.mpr c43
        have c43b1 : (t558 != 0) = true := bne_iff_ne.mpr c43
        exact absurd ((zOi H).trans HRT.out) (by decide)
      ·rw [if_neg c42] at H
       have c42b0 : (t556 == 0) = false := beq_eq_false_iff_ne.mpr c42
       have c42b1 : (t556 != 0) = true := bne_iff_ne.mpr c42
       exact absurd ((zOi H).trans HRT.out) (by decide)
     ·rw [if_neg c41] at H
      have c41b0 : (t553 == 0) = false := beq_eq_false_iff_ne.mpr c41
      have c41b1 : (t553 != 0) = true := bne_iff_ne.mpr c41
      exact absurd ((zOi H).trans HRT.out) (by decide)
    ·rw [if_neg c33] at H
     exact absurd H (by simp)

def filigreelaw04_GraphSplit.Pure : Prop := ∀ (a0_0 : Int) (l0_1 : List A.S36) (l1 : List Bool), (Lit.int .i64 a0_0).wf = true → l0_1.length ≤ maxLen → (∀ x ∈ l0_1, (Lit.int .i64 x.f0).wf = true ∧ (Lit.int .i64 x.f1).wf = true ∧ (Lit.int .i64 x.f2).wf = true) → l1.length ≤ maxLen → l1.length * 1 ≤ 140737488351232 → ∃ k, filigreelaw04_GraphSplit.f k a0_0 l0_1 l1 = some true
end Go.Proofs.Yteicpdkembmilaa.A
