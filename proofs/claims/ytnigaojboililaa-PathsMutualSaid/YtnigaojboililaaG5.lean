/- Lemmas for the statement: the walks of the functions that it reaches, and plain laws. -/
import Derived.Test.YtnigaojboililaaG1
import Derived.Test.YtnigaojboililaaG2
import Derived.Test.YtnigaojboililaaG4
set_option linter.unusedVariables false
set_option linter.unusedSimpArgs false
set_option maxHeartbeats 8000000
set_option maxRecDepth 100000
namespace Go.Proofs.Ytnigaojboililaa.A
open Go Go.RowKit Go.Proofs.YtnigaojboililaaW.PrintWords Go.Proofs.YtnigaojboililaaW.PrintLast Go.Proofs.YtnigaojboililaaW.PrintMore
attribute [local go_sem] max2_int min2_int max_two min_two max_three min_three max_four min_four
open Go.Proofs.YtnigaojboililaaW.PrintWords.Kd renaming R_alloc → zRa, R_drewN → zRn, R_drew → zRd, C_alloc → zCa, C_drewN → zCn, C_drew → zCd, R_mono → zRm, at_int → zAi, R_elder' → zRe, R_lower → zRl, R_new' → zRw, R_lt → zRt, R_below → zRb, R_base → zRz, R_reads' → zRr, R_slice → zRs
open Go.Proofs.YtnigaojboililaaW.PrintWords renaming pw_below_drewN → zBn, below_alloc → zBa, below_drew1 → zBd, below_size → zBs, below_step → zBt, blk_drewN → zKn, blk_drew → zKd, blk_alloc → zKa, blk_below → zKb, blk_cell → zKc, blk_frozen → zKf
open List renaming setIfInBounds_toArray → zSa, set_cons_zero → zSb, set_cons_succ → zSc, length_drop → zLd, length_take → zLt, map_toArray → zMa, map_cons → zMc, map_nil → zMn, length_cons → zLc
open Go.Proofs.YtnigaojboililaaW.PrintWords.Aside0 renaming mk → zMk
open Option renaming bind_eq_some_iff → zBi, bind_some → zOb
open Option.some renaming inj → zOi
open Int renaming toNat_natCast → zTn

mutual
def filigreeref12_Check.j0 : Nat → Int → List Int → List Int → Bool → Int → List (S39) → Option (Int)
  | 0, _, _, _, _, _, _ => none
  | k + 1, x1, x2, x3, x28, x191000, x191001 => if x28 = true then (some 5) else (if (x2.length : Int) = x191000 then (if (x3.length : Int) = x191000 then (if 0 ≤ x1 then (if x1 < (x3.length : Int) then (filigreeref12_Check.j1 k x1 x2 x3 ((rd x3 x1) != (-1)) x191000 x191001) else (none)) else (none)) else (filigreeref12_Check.j1 k x1 x2 x3 true x191000 x191001)) else (filigreeref12_Check.j1 k x1 x2 x3 true x191000 x191001))
def filigreeref12_Check.j1 : Nat → Int → List Int → List Int → Bool → Int → List (S39) → Option (Int)
  | 0, _, _, _, _, _, _ => none
  | k + 1, x1, x2, x3, x47, x191000, x191001 => if x47 = true then (some 13) else ((filigreeref12_Dist.f k x191000 x191001 x1).bind fun t193 => (filigreeref12_Check.l0 k x1 x2 x3 t193 0 x191000 x191001))
def filigreeref12_Check.l0 : Nat → Int → List Int → List Int → List Int → Int → Int → List (S39) → Option (Int)
  | 0, _, _, _, _, _, _, _ => none
  | k + 1, x1, x2, x3, x10, x11, x191000, x191001 => if x11 < x191000 then (if 0 ≤ x11 then (if x11 < (x2.length : Int) then (if x11 < (x10.length : Int) then (if (rd x2 x11) = (rd x10 x11) then (if x11 = x1 then (filigreeref12_Check.l0 k x1 x2 x3 x10 (wrap64 (x11 + 1)) x191000 x191001) else (if (rd x10 x11) < 0 then (if x11 < (x3.length : Int) then (if (rd x3 x11) = (-1) then (filigreeref12_Check.l0 k x1 x2 x3 x10 (wrap64 (x11 + 1)) x191000 x191001) else (some 13)) else (none)) else (if x11 < (x3.length : Int) then (if (rd x3 x11) < 0 then (filigreeref12_Check.j3 k x1 x2 x3 x10 x11 true x191000 x191001) else (filigreeref12_Check.j3 k x1 x2 x3 x10 x11 (decide ((rd x3 x11) ≥ (x191001.length : Int))) x191000 x191001)) else (none)))) else (some 13)) else (none)) else (none)) else (none)) else (filigreeref12_Check.l1 k x1 x3 x10 0 x191000 x191001)
def filigreeref12_Check.j3 : Nat → Int → List Int → List Int → List Int → Int → Bool → Int → List (S39) → Option (Int)
  | 0, _, _, _, _, _, _, _, _ => none
  | k + 1, x1, x2, x3, x10, x11, x93, x191000, x191001 => if x93 = true then (some 13) else (if 0 ≤ x11 then (if x11 < (x3.length : Int) then (if 0 ≤ (rd x3 x11) then (if (rd x3 x11) < (x191001.length : Int) then ((filigreeref12_other.f ((rd_T39 x191001 (rd x3 x11)).f0) ((rd_T39 x191001 (rd x3 x11)).f1) ((rd_T39 x191001 (rd x3 x11)).f2) x11).bind fun t204 => (if t204 < 0 then (some 13) else (if 0 ≤ t204 then (if t204 < (x10.length : Int) then (if (rd x10 t204) < 0 then (some 13) else (if x11 < (x10.length : Int) then (if (rd x10 t204) = (wrap64 ((rd x10 x11) - ((rd_T39 x191001 (rd x3 x11)).f2))) then (filigreeref12_Check.l0 k x1 x2 x3 x10 (wrap64 (x11 + 1)) x191000 x191001) else (some 13)) else (none))) else (none)) else (none)))) else (none)) else (none)) else (none)) else (none))
def filigreeref12_Check.l1 : Nat → Int → List Int → List Int → Int → Int → List (S39) → Option (Int)
  | 0, _, _, _, _, _, _ => none
  | k + 1, x1, x3, x10, x13, x191000, x191001 => if x13 < x191000 then (if 0 ≤ x13 then (if x13 < (x10.length : Int) then (if (rd x10 x13) < 0 then (filigreeref12_Check.l1 k x1 x3 x10 (wrap64 (x13 + 1)) x191000 x191001) else (filigreeref12_Check.l2 k x1 x3 x10 x13 x13 0 x191000 x191001)) else (none)) else (none)) else (some 0)
def filigreeref12_Check.l2 : Nat → Int → List Int → List Int → Int → Int → Int → Int → List (S39) → Option (Int)
  | 0, _, _, _, _, _, _, _, _ => none
  | k + 1, x1, x3, x10, x13, x14, x15, x191000, x191001 => if x15 < x191000 then (if x14 = x1 then (filigreeref12_Check.l1 k x1 x3 x10 (wrap64 (x13 + 1)) x191000 x191001) else (if 0 ≤ x14 then (if x14 < (x3.length : Int) then (if 0 ≤ (rd x3 x14) then (if (rd x3 x14) < (x191001.length : Int) then ((filigreeref12_other.f ((rd_T39 x191001 (rd x3 x14)).f0) ((rd_T39 x191001 (rd x3 x14)).f1) ((rd_T39 x191001 (rd x3 x14)).f2) x14).bind fun t213 => (filigreeref12_Check.l2 k x1 x3 x10 x13 t213 (wrap64 (x15 + 1)) x191000 x191001)) else (none)) else (none)) else (none)) else (none))) else (if x14 = x1 then (filigreeref12_Check.l1 k x1 x3 x10 (wrap64 (x13 + 1)) x191000 x191001) else (some 13))
end
def filigreeref12_Check.f (k : Nat) (a0_0 : Int) (l0_1 : List (S39)) (a1 : Int) (l2 : List Int) (l3 : List Int) : Option (Int) := (filigreeref12_Right.f k a0_0 l0_1).bind fun t191 => (if t191 = 0 then (if a1 < 0 then (filigreeref12_Check.j0 k a1 l2 l3 true a0_0 l0_1) else (filigreeref12_Check.j0 k a1 l2 l3 (decide (a1 ≥ a0_0)) a0_0 l0_1)) else (some t191))
def filigreeref12_Check.T12 : Bool × List (List Nat × List Nat) := (true, [([], []), ([], []), ([0, 1], [0, 1]), ([2], [2]), ([], []), ([], []), ([4, 5], [4, 5]), ([6], [6]), ([3, 7], [3, 7])])
def filigreeref12_Check.B12 : List Nat := [0, 0, 3, 7, 0, 0, 48, 112, 255]
theorem filigreeref12_Check.tab12 : rtab .any (opsOf Try.f14 12) = filigreeref12_Check.T12 := by kernel_rfl
theorem filigreeref12_Check.bits12 : waitsOk filigreeref12_Check.T12.2 filigreeref12_Check.B12 = true := by kernel_rfl
def filigreeref12_Check.T18 : Bool × List (List Nat × List Nat) := (true, [([], []), ([], []), ([0, 1], [0, 1]), ([2], [2]), ([3], [3]), ([4], [4]), ([5], [5]), ([5], [5]), ([6, 7, 5], [5, 6, 7]), ([8, 5], [5, 8]), ([5], [5]), ([10, 5], [5, 10]), ([11, 5], [5, 11]), ([9, 12, 5], [5, 9, 12]), ([5, 13], [5, 13])])
def filigreeref12_Check.B18 : List Nat := [0, 0, 3, 7, 15, 31, 63, 63, 255, 511, 63, 1087, 3135, 8191, 16383]
theorem filigreeref12_Check.tab18 : rtab .any (opsOf Try.f14 18) = filigreeref12_Check.T18 := by kernel_rfl
theorem filigreeref12_Check.bits18 : waitsOk filigreeref12_Check.T18.2 filigreeref12_Check.B18 = true := by kernel_rfl
def filigreeref12_Check.T20 : Bool × List (List Nat × List Nat) := (true, [([], []), ([0], [0]), ([], []), ([], []), ([2, 3], [2, 3]), ([4], [4]), ([1, 5], [1, 5]), ([6], [6]), ([], []), ([7, 8], [7, 8]), ([9, 9, 0, 1, 2, 3, 4, 5, 6, 7, 8, 9], [9])])
def filigreeref12_Check.B20 : List Nat := [0, 1, 0, 0, 12, 28, 63, 127, 0, 511, 1023]
theorem filigreeref12_Check.tab20 : rtab .any (opsOf Try.f14 20) = filigreeref12_Check.T20 := by kernel_rfl
theorem filigreeref12_Check.bits20 : waitsOk filigreeref12_Check.T20.2 filigreeref12_Check.B20 = true := by kernel_rfl
def filigreeref12_Check.T21 : Bool × List (List Nat × List Nat) := (true, [([], []), ([0], [0]), ([1], [1]), ([2], [2]), ([2], [2]), ([3, 4, 2], [2, 3, 4]), ([5, 2], [2, 5]), ([6, 2], [2, 6]), ([2, 7], [2, 7]), ([8, 2], [8]), ([9], [9]), ([9], [9]), ([10, 11, 9], [9, 10, 11]), ([12, 9], [9, 12]), ([9], [9]), ([9], [9]), ([14, 15, 9], [9, 14, 15]), ([16, 9], [9, 16]), ([9], [9]), ([18, 9], [9, 18]), ([9], [9]), ([9], [9]), ([20, 21, 9], [9, 20, 21]), ([22, 9], [9, 22]), ([19, 23, 9], [9, 19, 23]), ([24, 9], [9, 24]), ([25, 9], [9, 25]), ([17, 26, 9], [9, 17, 26]), ([13, 27, 9], [9, 13, 27]), ([9, 28], [9, 28])])
def filigreeref12_Check.B21 : List Nat := [0, 1, 3, 7, 7, 31, 63, 127, 255, 511, 1023, 1023, 4095, 8191, 1023, 1023, 50175, 115711, 1023, 263167, 1023, 1023, 3146751, 7341055, 16516095, 33293311, 66847743, 134202367, 268435455, 536870911]
theorem filigreeref12_Check.tab21 : rtab .any (opsOf Try.f14 21) = filigreeref12_Check.T21 := by kernel_rfl
theorem filigreeref12_Check.bits21 : waitsOk filigreeref12_Check.T21.2 filigreeref12_Check.B21 = true := by kernel_rfl
def filigreeref12_Check.T31 : Bool × List (List Nat × List Nat) := (true, [([], []), ([0], [0]), ([], []), ([], []), ([2, 3], [2, 3]), ([4], [4]), ([1, 5], [1, 5]), ([6], [6]), ([], []), ([7, 8], [7, 8]), ([9, 9, 0, 1, 2, 3, 4, 5, 6, 7, 8, 9], [3, 8, 9])])
def filigreeref12_Check.B31 : List Nat := [0, 1, 0, 0, 12, 28, 63, 127, 0, 511, 1023]
theorem filigreeref12_Check.tab31 : rtab .any (opsOf Try.f14 31) = filigreeref12_Check.T31 := by kernel_rfl
theorem filigreeref12_Check.bits31 : waitsOk filigreeref12_Check.T31.2 filigreeref12_Check.B31 = true := by kernel_rfl
theorem filigreeref12_Check.calls (k : Nat) (a0_0 : Int) (A0_1 : Option Addr) (c0_1 : Nat) (l0_1 : List (S39)) (a1 : Int) (A2 : Option Addr) (c2 : Nat) (l2 : List Int) (A3 : Option Addr) (c3 : Nat) (l3 : List Int) (r : Int) (w : World) (hr0_1 : Kd.C k39 w A0_1 l0_1.length l0_1) (hc0_1 : l0_1.length ≤ c0_1) (hr2 : Kd.C (Kd.int .i64) w A2 l2.length l2) (hc2 : l2.length ≤ c2) (hr3 : Kd.C (Kd.int .i64) w A3 l3.length l3) (hc3 : l3.length ≤ c3) (h : filigreeref12_Check.f k a0_0 l0_1 a1 l2 l3 = some r) :
    Calls Try.prog 14 #[.agg #[.int .i64 a0_0, .slice A0_1 l0_1.length c0_1], .int .i64 a1, .slice A2 l2.length c2, .slice A3 l3.length c3] w fun e w' => e = .returned (.int .i64 r) ∧ Below w.heap.size w w' := by
  have hu24 := Try.underlying24
  have hu39 := Try.underlying39
  have HR0_1 := zMk hr0_1
  have HC0_1 := zMk hc0_1
  clear hr0_1 hc0_1
  have HR2 := zMk hr2
  have HC2 := zMk hc2
  clear hr2 hc2
  have HR3 := zMk hr3
  have HC3 := zMk hc3
  clear hr3 hc3
  have HB := zMk (Below.refl w.heap.size w)
  have H : ((filigreeref12_Right.f k a0_0 l0_1).bind fun t191 => (if t191 = 0 then (if a1 < 0 then (filigreeref12_Check.j0 k a1 l2 l3 true a0_0 l0_1) else (filigreeref12_Check.j0 k a1 l2 l3 (decide (a1 ≥ a0_0)) a0_0 l0_1)) else (some t191))) = some r := h
  clear h
  replace H := bnd H
  obtain ⟨t191, A50, H⟩ := H
  have A5 := zMk A50
  clear A50
  by_cases c6 : t191 = 0
  · rw [if_pos c6] at H
    have c6b0 : (t191 == 0) = true := beq_iff_eq.mpr c6
    have c6b1 : (t191 != 0) = false := bne_eq_false_iff_eq.mpr c6
    clear c6
    have HC7 := zMk H
    clear H
    go_enter Try.func14, Try.ntmps14
    go_upto_region 4 with (first | ((with_reducible refine gate_dst (N := 4) rfl ?_); (try (refine gate_guard (by rfl) ?_; dsimp only)); refine box_event ?hg (N := 4) ?hd (cs := #[.int .i64 a0_0, .slice A0_1 l0_1.length c0_1]) (t := 24) ?hr ?_; (case hd => rfl); (case hg => rfl); (case hr => first | (go_simp; done)|(go_simp; rfl)|(go_simp; rw [show ∀ x : Int, IntKind.u32.wrap (IntKind.u8.wrap x) = x % 256 from fun x => (by show (x % 256) % 4294967296 = x % 256; omega)])); intro gb190 hg w8 hbox hb; have BK190 := zMk (hbox); have GW190 := zMk ((by rw [hg]; exact (zBs (by exact uT HB.out)) : w.heap.size ≤ gb190)); have GE190 := zMk ((by rw [hg]; exact (zBs (by exact uT HB.out)) : w.heap.size ≤ gb190)); have IGE190 := ownGe GE190.out; replace HB := zMk (zBt (by exact uT HB.out) hb); clear hb hbox hg; have hcz9_0 : w8.cell? ⟨gb190, 0, none⟩ = some (.int .i64 a0_0) := (zKc BK190.out 0).trans rfl; have hcz9_1 : w8.cell? ⟨gb190, 1, none⟩ = some (.slice A0_1 l0_1.length c0_1) := (zKc BK190.out 1).trans rfl; have hfz9_0 := zKf BK190.out 0; have hfz9_1 := zKf BK190.out 1)|((with_reducible refine gate_callee (f := 8) rfl ?_); refine goesL_ (some 17) rfl rfl Try.func8 (by kernel_rfl) rfl #[.agg #[.int .i64 a0_0, .slice A0_1 l0_1.length c0_1]] rfl (by (try simp only [zMa, zMc, zMn]); first |  done|  rfl|  (simp only [zLd, zLt]; rfl)) ?_; (with_reducible refine (filigreeref12_Right.calls k a0_0 _ _ l0_1 t191 _ ?side1 ?side2 A5.out).mono ?_); (case side1 => repeat (first |  exact (Kd.C_below HR0_1.out HB.out)|(with_reducible refine zCa ?_ _)|(with_reducible refine zCn ?_ _)|(with_reducible refine zCd ?_))); (case side2 => exact HC0_1.out); rintro e w10 ⟨rfl, hb⟩; refine ⟨_, rfl, ?_⟩; replace BK190 := zMk (zKb (g := gb190) (o := .cells #[.int .i64 a0_0, .slice A0_1 l0_1.length c0_1] 24 (0, 0)) (by (with_reducible repeat (first |  refine zKn ?_ _|  refine zKd ?_|  refine zKa ?_ _)); exact BK190.out) hb); replace HB := zMk (zBt (by exact uT HB.out) hb)))
    (try simp only [Act.put, zSa, zSb, zSc])
    go_cut [28] (fun v28 wc => ∃ (kq : Nat) (x28_6 : Bool), v28 = .bool x28_6 ∧ Aside0 (filigreeref12_Check.j0 kq a1 l2 l3 x28_6 a0_0 l0_1 = some r) ∧ Aside0 (kq ≤ k) ∧ Aside0 (wc.heap[gb190]? = some (.cells #[.int .i64 a0_0, (.slice A0_1 l0_1.length c0_1)] 24 (0, 0))) ∧ Aside0 (Below w.heap.size w wc))
    case first =>
      have H := HC7.out
      clear HC7
      by_cases c11 : a1 < 0
      · rw [if_pos c11] at H
        have c11b0 : decide (a1 < 0) = true := decide_eq_true c11
        clear c11
        (first | rw [c11b0] | (simp only [i64_w, i32_w]; rw [c11b0]) | rw [c11b1] | skip)
        have H' := zMk H
        clear H
        go_wp2
        go_meet
        case rel => exact ⟨_, (true), (by first | rfl | (simp; done) | (simp [*]; done)), H', ⟨by first | omega | exact Nat.le_refl _⟩, ⟨by (with_reducible repeat (first | refine zKn ?_ _ | refine zKd ?_ | refine zKa ?_ _)); exact BK190.out⟩, ⟨by exact uT HB.out⟩⟩
      · rw [if_neg c11] at H
        have c11b0 : decide (a1 < 0) = false := decide_eq_false c11
        clear c11
        (first | rw [c11b0] | (simp only [i64_w, i32_w]; rw [c11b0]) | rw [c11b1] | skip)
        have H' := zMk H
        clear H
        have hcz12_0 : w10.cell? ⟨gb190, 0, none⟩ = some (.int .i64 a0_0) := (zKc BK190.out 0).trans rfl
        have hcz12_1 : w10.cell? ⟨gb190, 1, none⟩ = some (.slice A0_1 l0_1.length c0_1) := (zKc BK190.out 1).trans rfl
        have hfz12_0 := zKf BK190.out 0
        have hfz12_1 := zKf BK190.out 1
        go_wp2
        go_meet
        case rel => exact ⟨_, (decide (a1 ≥ a0_0)), (by first | rfl | (simp; done) | (simp [*]; done)), H', ⟨by first | omega | exact Nat.le_refl _⟩, ⟨by (with_reducible repeat (first | refine zKn ?_ _ | refine zKd ?_ | refine zKa ?_ _)); exact BK190.out⟩, ⟨by exact uT HB.out⟩⟩
    case rest =>
      clear HC7
      obtain ⟨kq, x28_6, rfl, HA, HJ6, BK190, HB⟩ := hcut
      rcases kq with _ | kj6
      · exact absurd HA.out (by simp [filigreeref12_Check.j0])
      have H := HA.out
      clear HA
      simp only [filigreeref12_Check.j0] at H
      by_cases c13 : x28_6 = true
      · subst c13
        replace H : (some 5) = some r := by rw [if_pos rfl] at H; exact H
        obtain rfl := zOi H
        go_wp2
        go_ret
        exact ⟨by first | rfl | (simp [errW_none, errW_some] <;> rfl) | (simp [*, errW_none, errW_some] <;> rfl), by exact uT HB.out⟩
      · replace c13 := Bool.eq_false_iff.mpr c13
        subst c13
        replace H : (if (l2.length : Int) = a0_0 then (if (l3.length : Int) = a0_0 then (if 0 ≤ a1 then (if a1 < (l3.length : Int) then (filigreeref12_Check.j1 kj6 a1 l2 l3 ((rd l3 a1) != (-1)) a0_0 l0_1) else (none)) else (none)) else (filigreeref12_Check.j1 kj6 a1 l2 l3 true a0_0 l0_1)) else (filigreeref12_Check.j1 kj6 a1 l2 l3 true a0_0 l0_1)) = some r := by rw [if_neg (show ¬ (false = true) by decide)] at H; exact H
        have HC14 := zMk H
        clear H
        go_upto_region 6 with (fail)
        go_cut [47] (fun v47 wc => ∃ (kq : Nat) (x47_13 : Bool), v47 = .bool x47_13 ∧ Aside0 (filigreeref12_Check.j1 kq a1 l2 l3 x47_13 a0_0 l0_1 = some r) ∧ Aside0 (kq ≤ kj6) ∧ Aside0 (wc.heap[gb190]? = some (.cells #[.int .i64 a0_0, (.slice A0_1 l0_1.length c0_1)] 24 (0, 0))) ∧ Aside0 (Below w.heap.size w wc))
        case first =>
          have H := HC14.out
          clear HC14
          by_cases c15 : (l2.length : Int) = a0_0
          · rw [if_pos c15] at H
            have c15b0 : ((l2.length : Int) == a0_0) = true := beq_iff_eq.mpr c15
            have c15b1 : ((l2.length : Int) != a0_0) = false := bne_eq_false_iff_eq.mpr c15
            clear c15
            (first | rw [c15b0] | (simp only [i64_w, i32_w]; rw [c15b0]) | rw [c15b1] | skip)
            by_cases c16 : (l3.length : Int) = a0_0
            · rw [if_pos c16] at H
              have c16b0 : ((l3.length : Int) == a0_0) = true := beq_iff_eq.mpr c16
              have c16b1 : ((l3.length : Int) != a0_0) = false := bne_eq_false_iff_eq.mpr c16
              clear c16
              by_cases c17 : 0 ≤ a1
              rotate_left
              · rw [if_neg c17] at H; exact absurd H (by simp)
              rw [if_pos c17] at H
              have c17b0 : decide (0 ≤ a1) = true := decide_eq_true c17
              clear c17
              by_cases c18 : a1 < (l3.length : Int)
              rotate_left
              · rw [if_neg c18] at H; exact absurd H (by simp)
              rw [if_pos c18] at H
              have c18b0 : decide (a1 < (l3.length : Int)) = true := decide_eq_true c18
              clear c18
              have H' := zMk H
              clear H
              have hcz19_0 : wc.cell? ⟨gb190, 0, none⟩ = some (.int .i64 a0_0) := (zKc BK190.out 0).trans rfl
              have hcz19_1 : wc.cell? ⟨gb190, 1, none⟩ = some (.slice A0_1 l0_1.length c0_1) := (zKc BK190.out 1).trans rfl
              have hfz19_0 := zKf BK190.out 0
              have hfz19_1 := zKf BK190.out 1
              have p192 : 0 ≤ (a1 : Int) := of_decide_eq_true (by assumption)
              have q192 : a1 < (l3.length : Int) := of_decide_eq_true (by assumption)
              obtain ⟨ad192, e192, hx192_0⟩ := zAi HR3.out a1 p192 q192
              cases e192
              replace hx192_0 := (HB.out.cell (World.block_lt_of_cell? w _ hx192_0)).trans hx192_0
              replace p192 := eq_true p192
              replace q192 := eq_true q192
              go_wp2
              go_meet
              case rel => exact ⟨_, (((rd l3 a1) != (-1))), (by first | rfl | (simp; done) | (simp [*]; done)), H', ⟨by have := HJ6.out; first | omega | exact Nat.le_refl _⟩, ⟨by (with_reducible repeat (first | refine zKn ?_ _ | refine zKd ?_ | refine zKa ?_ _)); exact BK190.out⟩, ⟨by exact uT HB.out⟩⟩
            · rw [if_neg c16] at H
              have c16b0 : ((l3.length : Int) == a0_0) = false := beq_eq_false_iff_ne.mpr c16
              have c16b1 : ((l3.length : Int) != a0_0) = true := bne_iff_ne.mpr c16
              have H' := zMk H
              clear H
              have hcz20_0 : wc.cell? ⟨gb190, 0, none⟩ = some (.int .i64 a0_0) := (zKc BK190.out 0).trans rfl
              have hcz20_1 : wc.cell? ⟨gb190, 1, none⟩ = some (.slice A0_1 l0_1.length c0_1) := (zKc BK190.out 1).trans rfl
              have hfz20_0 := zKf BK190.out 0
              have hfz20_1 := zKf BK190.out 1
              go_wp2
              go_meet
              case rel => exact ⟨_, (true), (by first | rfl | (simp; done) | (simp [*]; done)), H', ⟨by have := HJ6.out; first | omega | exact Nat.le_refl _⟩, ⟨by (with_reducible repeat (first | refine zKn ?_ _ | refine zKd ?_ | refine zKa ?_ _)); exact BK190.out⟩, ⟨by exact uT HB.out⟩⟩
          · rw [if_neg c15] at H
            have c15b0 : ((l2.length : Int) == a0_0) = false := beq_eq_false_iff_ne.mpr c15
            have c15b1 : ((l2.length : Int) != a0_0) = true := bne_iff_ne.mpr c15
            (first | rw [c15b0] | (simp only [i64_w, i32_w]; rw [c15b0]) | rw [c15b1] | skip)
            have H' := zMk H
            clear H
            have hcz21_0 : wc.cell? ⟨gb190, 0, none⟩ = some (.int .i64 a0_0) := (zKc BK190.out 0).trans rfl
            have hcz21_1 : wc.cell? ⟨gb190, 1, none⟩ = some (.slice A0_1 l0_1.length c0_1) := (zKc BK190.out 1).trans rfl
            have hfz21_0 := zKf BK190.out 0
            have hfz21_1 := zKf BK190.out 1
            go_wp2
            go_meet
            case rel => exact ⟨_, (true), (by first | rfl | (simp; done) | (simp [*]; done)), H', ⟨by have := HJ6.out; first | omega | exact Nat.le_refl _⟩, ⟨by (with_reducible repeat (first | refine zKn ?_ _ | refine zKd ?_ | refine zKa ?_ _)); exact BK190.out⟩, ⟨by exact uT HB.out⟩⟩
        case rest =>
          clear HC14
          obtain ⟨kq, x47_13, rfl, HA, HJ13, BK190, HB⟩ := hcut
          rcases kq with _ | kj13
          · exact absurd HA.out (by simp [filigreeref12_Check.j1])
          have H := HA.out
          clear HA
          simp only [filigreeref12_Check.j1] at H
          by_cases c22 : x47_13 = true
          · subst c22
            replace H : (some 13) = some r := by rw [if_pos rfl] at H; exact H
            obtain rfl := zOi H
            go_wp2
            go_ret
            exact ⟨by first | rfl | (simp [errW_none, errW_some] <;> rfl) | (simp [*, errW_none, errW_some] <;> rfl), by exact uT HB.out⟩
          · replace c22 := Bool.eq_false_iff.mpr c22
            subst c22
            replace H : ((filigreeref12_Dist.f kj13 a0_0 l0_1 a1).bind fun t193 => (filigreeref12_Check.l0 kj13 a1 l2 l3 t193 0 a0_0 l0_1)) = some r := by rw [if_neg (show ¬ (false = true) by decide)] at H; exact H
            replace H := bnd H
            obtain ⟨t193, A230, H⟩ := H
            have A23 := zMk A230
            clear A230
            have H' := zMk H
            clear H
            have hcz24_0 : wc.cell? ⟨gb190, 0, none⟩ = some (.int .i64 a0_0) := (zKc BK190.out 0).trans rfl
            have hcz24_1 : wc.cell? ⟨gb190, 1, none⟩ = some (.slice A0_1 l0_1.length c0_1) := (zKc BK190.out 1).trans rfl
            have hfz24_0 := zKf BK190.out 0
            have hfz24_1 := zKf BK190.out 1
            go_wp2_with (first | ((with_reducible refine gate_callee (f := 13) rfl ?_); refine goesL_ (some 50) rfl rfl Try.func13 (by kernel_rfl) rfl #[.agg #[.int .i64 a0_0, .slice A0_1 l0_1.length c0_1], .int .i64 a1] rfl (by (try simp only [zMa, zMc, zMn]); first |  done|  rfl|  (simp only [zLd, zLt]; rfl)) ?_; (with_reducible refine (filigreeref12_Dist.calls kj13 a0_0 _ _ l0_1 a1 t193 _ ?side1 ?side2 A23.out).mono ?_); (case side1 => repeat (first |  exact (Kd.C_below HR0_1.out HB.out)|(with_reducible refine zCa ?_ _)|(with_reducible refine zCn ?_ _)|(with_reducible refine zCd ?_))); (case side2 => exact HC0_1.out); rintro e w25 ⟨v194, rfl, ho0, hb⟩; refine ⟨_, rfl, ?_⟩; have HO195 := zMk (zRl ho0 (zBs (by exact uT HB.out))); replace BK190 := zMk (zKb (g := gb190) (o := .cells #[.int .i64 a0_0, .slice A0_1 l0_1.length c0_1] 24 (0, 0)) (by (with_reducible repeat (first |  refine zKn ?_ _|  refine zKd ?_|  refine zKa ?_ _)); exact BK190.out) hb); replace HB := zMk (zBt (by exact uT HB.out) hb)))
            go_loopg [11] kj13 (fun kq v11 w' => ∃ (x11_3 : Int), v11 = .int .i64 x11_3 ∧ Aside0 (filigreeref12_Check.l0 kq a1 l2 l3 t193 x11_3 a0_0 l0_1 = some r) ∧ Aside0 (kq ≤ kj13) ∧ Aside0 (Kd.R (Kd.int .i64) 2 w' w.heap.size (fun _ => True) v194 t193) ∧ Aside0 (w'.heap[gb190]? = some (.cells #[.int .i64 a0_0, (.slice A0_1 l0_1.length c0_1)] 24 (0, 0))) ∧ Aside0 (Below w.heap.size w w'))
            case atStart => exact ⟨(0), (by first | rfl | (simp; done) | (simp [*]; done)), H', ⟨Nat.le_refl _⟩, ⟨by exact uR HO195.out⟩, ⟨by (with_reducible repeat (first | refine zKn ?_ _ | refine zKd ?_ | refine zKa ?_ _)); exact BK190.out⟩, ⟨by exact uT HB.out⟩⟩
            clear H'
            obtain ⟨x11_3, rfl, HA, HK3, HO_10, BK190, HB⟩ := hrel
            rcases gk with _ | k3
            · exact absurd HA.out (by simp [filigreeref12_Check.l0])
            have H := HA.out
            clear HA
            simp only [filigreeref12_Check.l0] at H
            by_cases c26 : x11_3 < a0_0
            · rw [if_pos c26] at H
              have c26b0 : decide (x11_3 < a0_0) = true := decide_eq_true c26
              clear c26
              by_cases c27 : 0 ≤ x11_3
              rotate_left
              · rw [if_neg c27] at H; exact absurd H (by simp)
              rw [if_pos c27] at H
              have c27b0 : decide (0 ≤ x11_3) = true := decide_eq_true c27
              clear c27
              by_cases c28 : x11_3 < (l2.length : Int)
              rotate_left
              · rw [if_neg c28] at H; exact absurd H (by simp)
              rw [if_pos c28] at H
              have c28b0 : decide (x11_3 < (l2.length : Int)) = true := decide_eq_true c28
              clear c28
              by_cases c29 : x11_3 < (t193.length : Int)
              rotate_left
              · rw [if_neg c29] at H; exact absurd H (by simp)
              rw [if_pos c29] at H
              have c29b0 : decide (x11_3 < (t193.length : Int)) = true := decide_eq_true c29
              clear c29
              by_cases c30 : (rd l2 x11_3) = (rd t193 x11_3)
              · rw [if_pos c30] at H
                have c30b0 : ((rd l2 x11_3) == (rd t193 x11_3)) = true := beq_iff_eq.mpr c30
                have c30b1 : ((rd l2 x11_3) != (rd t193 x11_3)) = false := bne_eq_false_iff_eq.mpr c30
                clear c30
                by_cases c31 : x11_3 = a1
                · rw [if_pos c31] at H
                  have c31b0 : (x11_3 == a1) = true := beq_iff_eq.mpr c31
                  have c31b1 : (x11_3 != a1) = false := bne_eq_false_iff_eq.mpr c31
                  clear c31
                  have H' := zMk H
                  clear H
                  have hcz32_0 : wr.cell? ⟨gb190, 0, none⟩ = some (.int .i64 a0_0) := (zKc BK190.out 0).trans rfl
                  have hcz32_1 : wr.cell? ⟨gb190, 1, none⟩ = some (.slice A0_1 l0_1.length c0_1) := (zKc BK190.out 1).trans rfl
                  have hfz32_0 := zKf BK190.out 0
                  have hfz32_1 := zKf BK190.out 1
                  try go_wp2
                  replace HO_10 := zMk (zRd HO_10.out)
                  replace BK190 := zMk (zKd BK190.out)
                  replace HB := zMk (zBd HB.out)
                  have p196 : 0 ≤ (x11_3 : Int) := of_decide_eq_true (by assumption)
                  have q196 : x11_3 < (l2.length : Int) := of_decide_eq_true (by assumption)
                  obtain ⟨ad196, e196, hx196_0⟩ := zAi HR2.out x11_3 p196 q196
                  have hw196_0 := hx196_0
                  cases e196
                  replace hx196_0 := (HB.out.cell (World.block_lt_of_cell? w _ hx196_0)).trans hx196_0
                  replace p196 := eq_true p196
                  replace q196 := eq_true q196
                  obtain ⟨Ao34, co34, eo34⟩ := zRs HO_10.out
                  (first |  subst eo34|  (injection eo34 with f1_ f2_ f3_; have f4_ := f1_.symm; have f5_ := f3_.symm; clear f1_ f2_ f3_; subst f4_; subst f5_))
                  have p197 : 0 ≤ (x11_3 : Int) := of_decide_eq_true (by assumption)
                  have q197 : x11_3 < (t193.length : Int) := of_decide_eq_true (by assumption)
                  obtain ⟨ad197, e197, hx197_0⟩ := zAi (zRr HO_10.out).2.2 x11_3 p197 q197
                  cases e197
                  replace p197 := eq_true p197
                  replace q197 := eq_true q197
                  refine start_ (n := 9) (S := fun w' => w'.cell? (ad196.add (x11_3).toNat) = some (.int .i64 (rd l2 x11_3)) ∧ w'.cell? (ad197.add (x11_3).toNat) = some (.int .i64 (rd t193 x11_3))) (ds := []) #[false, false, false, false, false, false, false, false, false] (by kernel_rfl) rfl rfl ⟨((HB.out.cell (World.block_lt_of_cell? w _ hw196_0)).trans hw196_0), hx197_0⟩ (fun hHeld => ?_); refine with_tabW filigreeref12_Check.tab12 filigreeref12_Check.bits12 (fun HT_ HW_ => ?_)
                  generalize wr.drew = w33 at HO_10 BK190 HB hx196_0 hx197_0 hHeld ⊢
                  refine pure_ (i := 0) (N := some 57) (v := ?_) (a' := ?_) #[true, false, false, false, false, false, false, false, false] rfl rfl (any_of HT_.out (by kernel_rfl)) (fun _ _ _ h => h) (Or.inl ⟨by rfl, ?_⟩) ?_ ?_
                  rotate_left
                  · intro w'
                    go_simp
                    with_reducible rfl
                  rotate_left
                  · simp only [Act.put, zSa, zSb, zSc, i64_w, i32_w]
                    rfl
                  refine pure_ (i := 1) (N := some 58) (v := ?_) (a' := ?_) #[true, true, false, false, false, false, false, false, false] rfl rfl (any_of HT_.out (by kernel_rfl)) (fun _ _ _ h => h) (Or.inl ⟨by rfl, ?_⟩) ?_ ?_
                  rotate_left
                  · intro w'
                    go_simp
                    with_reducible rfl
                  rotate_left
                  · simp only [Act.put, zSa, zSb, zSc, i64_w, i32_w]
                    rfl
                  refine pure_ (i := 2) (N := some 59) (v := ?_) (a' := ?_) #[true, true, true, false, false, false, false, false, false] rfl rfl (any_of HT_.out (by kernel_rfl)) (fun _ _ _ h => h) (Or.inl ⟨by rfl, ?_⟩) ?_ ?_
                  rotate_left
                  · intro w'
                    go_simp
                    with_reducible rfl
                  rotate_left
                  · simp only [Act.put, zSa, zSb, zSc, i64_w, i32_w]
                    rfl
                  refine pure_ (i := 4) (N := some 61) (v := ?_) (a' := ?_) #[true, true, true, false, true, false, false, false, false] rfl rfl (any_of HT_.out (by kernel_rfl)) (fun _ _ _ h => h) (Or.inl ⟨by rfl, ?_⟩) ?_ ?_
                  rotate_left
                  · intro w'
                    go_simp
                    with_reducible rfl
                  rotate_left
                  · simp only [Act.put, zSa, zSb, zSc, i64_w, i32_w]
                    rfl
                  refine pure_ (i := 5) (N := some 62) (v := ?_) (a' := ?_) #[true, true, true, false, true, true, false, false, false] rfl rfl (any_of HT_.out (by kernel_rfl)) (fun _ _ _ h => h) (Or.inl ⟨by rfl, ?_⟩) ?_ ?_
                  rotate_left
                  · intro w'
                    go_simp
                    with_reducible rfl
                  rotate_left
                  · simp only [Act.put, zSa, zSb, zSc, i64_w, i32_w]
                    rfl
                  refine pure_ (i := 6) (N := some 63) (v := ?_) (a' := ?_) #[true, true, true, false, true, true, true, false, false] rfl rfl (any_of HT_.out (by kernel_rfl)) (fun _ _ _ h => h) (Or.inl ⟨by rfl, ?_⟩) ?_ ?_
                  rotate_left
                  · intro w'
                    go_simp
                    with_reducible rfl
                  rotate_left
                  · simp only [Act.put, zSa, zSb, zSc, i64_w, i32_w]
                    rfl
                  refine take_ (i := 3) (N := some 60) (v := ?_) (a' := ?_) #[true, true, true, true, true, true, true, false, false] rfl rfl (take_ofW HT_.out HW_.out (by kernel_rfl)) (fun _ _ _ h => h) (Or.inl ⟨by rfl, ?_⟩) hHeld ?_ ?_
                  rotate_left
                  · rintro w' ⟨s0, s1⟩
                    go_simp
                    with_reducible rfl
                  rotate_left
                  · simp only [Act.put, zSa, zSb, zSc, i64_w, i32_w]
                    rfl
                  refine take_ (i := 7) (N := some 64) (v := ?_) (a' := ?_) #[true, true, true, true, true, true, true, true, false] rfl rfl (take_ofW HT_.out HW_.out (by kernel_rfl)) (fun _ _ _ h => h) (Or.inl ⟨by rfl, ?_⟩) hHeld ?_ ?_
                  rotate_left
                  · rintro w' ⟨s0, s1⟩
                    go_simp
                    with_reducible rfl
                  rotate_left
                  · simp only [Act.put, zSa, zSb, zSc, i64_w, i32_w]
                    rfl
                  refine pure_ (i := 8) (N := some 65) (v := ?_) (a' := ?_) #[true, true, true, true, true, true, true, true, true] rfl rfl (any_of HT_.out (by kernel_rfl)) (fun _ _ _ h => h) (Or.inl ⟨by rfl, ?_⟩) ?_ ?_
                  rotate_left
                  · intro w'
                    go_simp
                    with_reducible rfl
                  rotate_left
                  · simp only [Act.put, zSa, zSb, zSc, i64_w, i32_w]
                    rfl
                  refine done_ (done_of HT_.out (by kernel_rfl)) ?_
                  try go_wp2
                  go_roundg k3
                  case measure => have := HJ6.out; have := HJ13.out; have := HK3.out; omega
                  case rel => exact ⟨(wrap64 (x11_3 + 1)), (by first | rfl | (simp; done) | (simp [*]; done)), H', ⟨by have := HJ6.out; have := HJ13.out; have := HK3.out; omega⟩, ⟨by exact uR HO_10.out⟩, ⟨by (with_reducible repeat (first | refine zKn ?_ _ | refine zKd ?_ | refine zKa ?_ _)); exact BK190.out⟩, ⟨by exact uT HB.out⟩⟩
                · rw [if_neg c31] at H
                  have c31b0 : (x11_3 == a1) = false := beq_eq_false_iff_ne.mpr c31
                  have c31b1 : (x11_3 != a1) = true := bne_iff_ne.mpr c31
                  by_cases c35 : (rd t193 x11_3) < 0
                  · rw [if_pos c35] at H
                    have c35b0 : decide ((rd t193 x11_3) < 0) = true := decide_eq_true c35
                    clear c35
                    by_cases c36 : x11_3 < (l3.length : Int)
                    rotate_left
                    · rw [if_neg c36] at H; exact absurd H (by simp)
                    rw [if_pos c36] at H
                    have c36b0 : decide (x11_3 < (l3.length : Int)) = true := decide_eq_true c36
                    clear c36
                    by_cases c37 : (rd l3 x11_3) = (-1)
                    · rw [if_pos c37] at H
                      have c37b0 : ((rd l3 x11_3) == (-1)) = true := beq_iff_eq.mpr c37
                      have c37b1 : ((rd l3 x11_3) != (-1)) = false := bne_eq_false_iff_eq.mpr c37
                      clear c37
                      have H' := zMk H
                      clear H
                      have hcz38_0 : wr.cell? ⟨gb190, 0, none⟩ = some (.int .i64 a0_0) := (zKc BK190.out 0).trans rfl
                      have hcz38_1 : wr.cell? ⟨gb190, 1, none⟩ = some (.slice A0_1 l0_1.length c0_1) := (zKc BK190.out 1).trans rfl
                      have hfz38_0 := zKf BK190.out 0
                      have hfz38_1 := zKf BK190.out 1
                      try go_wp2
                      replace HO_10 := zMk (zRd HO_10.out)
                      replace BK190 := zMk (zKd BK190.out)
                      replace HB := zMk (zBd HB.out)
                      have p196 : 0 ≤ (x11_3 : Int) := of_decide_eq_true (by assumption)
                      have q196 : x11_3 < (l2.length : Int) := of_decide_eq_true (by assumption)
                      obtain ⟨ad196, e196, hx196_0⟩ := zAi HR2.out x11_3 p196 q196
                      have hw196_0 := hx196_0
                      cases e196
                      replace hx196_0 := (HB.out.cell (World.block_lt_of_cell? w _ hx196_0)).trans hx196_0
                      replace p196 := eq_true p196
                      replace q196 := eq_true q196
                      obtain ⟨Ao40, co40, eo40⟩ := zRs HO_10.out
                      (first |  subst eo40|  (injection eo40 with f1_ f2_ f3_; have f4_ := f1_.symm; have f5_ := f3_.symm; clear f1_ f2_ f3_; subst f4_; subst f5_))
                      have p197 : 0 ≤ (x11_3 : Int) := of_decide_eq_true (by assumption)
                      have q197 : x11_3 < (t193.length : Int) := of_decide_eq_true (by assumption)
                      obtain ⟨ad197, e197, hx197_0⟩ := zAi (zRr HO_10.out).2.2 x11_3 p197 q197
                      cases e197
                      replace p197 := eq_true p197
                      replace q197 := eq_true q197
                      refine start_ (n := 9) (S := fun w' => w'.cell? (ad196.add (x11_3).toNat) = some (.int .i64 (rd l2 x11_3)) ∧ w'.cell? (ad197.add (x11_3).toNat) = some (.int .i64 (rd t193 x11_3))) (ds := []) #[false, false, false, false, false, false, false, false, false] (by kernel_rfl) rfl rfl ⟨((HB.out.cell (World.block_lt_of_cell? w _ hw196_0)).trans hw196_0), hx197_0⟩ (fun hHeld => ?_); refine with_tabW filigreeref12_Check.tab12 filigreeref12_Check.bits12 (fun HT_ HW_ => ?_)
                      generalize wr.drew = w39 at HO_10 BK190 HB hx196_0 hx197_0 hHeld ⊢
                      refine pure_ (i := 0) (N := some 57) (v := ?_) (a' := ?_) #[true, false, false, false, false, false, false, false, false] rfl rfl (any_of HT_.out (by kernel_rfl)) (fun _ _ _ h => h) (Or.inl ⟨by rfl, ?_⟩) ?_ ?_
                      rotate_left
                      · intro w'
                        go_simp
                        with_reducible rfl
                      rotate_left
                      · simp only [Act.put, zSa, zSb, zSc, i64_w, i32_w]
                        rfl
                      refine pure_ (i := 1) (N := some 58) (v := ?_) (a' := ?_) #[true, true, false, false, false, false, false, false, false] rfl rfl (any_of HT_.out (by kernel_rfl)) (fun _ _ _ h => h) (Or.inl ⟨by rfl, ?_⟩) ?_ ?_
                      rotate_left
                      · intro w'
                        go_simp
                        with_reducible rfl
                      rotate_left
                      · simp only [Act.put, zSa, zSb, zSc, i64_w, i32_w]
                        rfl
                      refine pure_ (i := 2) (N := some 59) (v := ?_) (a' := ?_) #[true, true, true, false, false, false, false, false, false] rfl rfl (any_of HT_.out (by kernel_rfl)) (fun _ _ _ h => h) (Or.inl ⟨by rfl, ?_⟩) ?_ ?_
                      rotate_left
                      · intro w'
                        go_simp
                        with_reducible rfl
                      rotate_left
                      · simp only [Act.put, zSa, zSb, zSc, i64_w, i32_w]
                        rfl
                      refine pure_ (i := 4) (N := some 61) (v := ?_) (a' := ?_) #[true, true, true, false, true, false, false, false, false] rfl rfl (any_of HT_.out (by kernel_rfl)) (fun _ _ _ h => h) (Or.inl ⟨by rfl, ?_⟩) ?_ ?_
                      rotate_left
                      · intro w'
                        go_simp
                        with_reducible rfl
                      rotate_left
                      · simp only [Act.put, zSa, zSb, zSc, i64_w, i32_w]
                        rfl
                      refine pure_ (i := 5) (N := some 62) (v := ?_) (a' := ?_) #[true, true, true, false, true, true, false, false, false] rfl rfl (any_of HT_.out (by kernel_rfl)) (fun _ _ _ h => h) (Or.inl ⟨by rfl, ?_⟩) ?_ ?_
                      rotate_left
                      · intro w'
                        go_simp
                        with_reducible rfl
                      rotate_left
                      · simp only [Act.put, zSa, zSb, zSc, i64_w, i32_w]
                        rfl
                      refine pure_ (i := 6) (N := some 63) (v := ?_) (a' := ?_) #[true, true, true, false, true, true, true, false, false] rfl rfl (any_of HT_.out (by kernel_rfl)) (fun _ _ _ h => h) (Or.inl ⟨by rfl, ?_⟩) ?_ ?_
                      rotate_left
                      · intro w'
                        go_simp
                        with_reducible rfl
                      rotate_left
                      · simp only [Act.put, zSa, zSb, zSc, i64_w, i32_w]
                        rfl
                      refine take_ (i := 3) (N := some 60) (v := ?_) (a' := ?_) #[true, true, true, true, true, true, true, false, false] rfl rfl (take_ofW HT_.out HW_.out (by kernel_rfl)) (fun _ _ _ h => h) (Or.inl ⟨by rfl, ?_⟩) hHeld ?_ ?_
                      rotate_left
                      · rintro w' ⟨s0, s1⟩
                        go_simp
                        with_reducible rfl
                      rotate_left
                      · simp only [Act.put, zSa, zSb, zSc, i64_w, i32_w]
                        rfl
                      refine take_ (i := 7) (N := some 64) (v := ?_) (a' := ?_) #[true, true, true, true, true, true, true, true, false] rfl rfl (take_ofW HT_.out HW_.out (by kernel_rfl)) (fun _ _ _ h => h) (Or.inl ⟨by rfl, ?_⟩) hHeld ?_ ?_
                      rotate_left
                      · rintro w' ⟨s0, s1⟩
                        go_simp
                        with_reducible rfl
                      rotate_left
                      · simp only [Act.put, zSa, zSb, zSc, i64_w, i32_w]
                        rfl
                      refine pure_ (i := 8) (N := some 65) (v := ?_) (a' := ?_) #[true, true, true, true, true, true, true, true, true] rfl rfl (any_of HT_.out (by kernel_rfl)) (fun _ _ _ h => h) (Or.inl ⟨by rfl, ?_⟩) ?_ ?_
                      rotate_left
                      · intro w'
                        go_simp
                        with_reducible rfl
                      rotate_left
                      · simp only [Act.put, zSa, zSb, zSc, i64_w, i32_w]
                        rfl
                      refine done_ (done_of HT_.out (by kernel_rfl)) ?_
                      have p198 : 0 ≤ (x11_3 : Int) := of_decide_eq_true (by assumption)
                      have q198 : x11_3 < (t193.length : Int) := of_decide_eq_true (by assumption)
                      obtain ⟨ad198, e198, hx198_0⟩ := zAi (zRr HO_10.out).2.2 x11_3 p198 q198
                      obtain rfl : ad197 = ad198 := (by injection e198)
                      replace p198 := eq_true p198
                      replace q198 := eq_true q198
                      have p199 : 0 ≤ (x11_3 : Int) := of_decide_eq_true (by assumption)
                      have q199 : x11_3 < (l3.length : Int) := of_decide_eq_true (by assumption)
                      obtain ⟨ad199, e199, hx199_0⟩ := zAi HR3.out x11_3 p199 q199
                      cases e199
                      replace hx199_0 := (HB.out.cell (World.block_lt_of_cell? w _ hx199_0)).trans hx199_0
                      replace p199 := eq_true p199
                      replace q199 := eq_true q199
                      try go_wp2
                      go_roundg k3
                      case measure => have := HJ6.out; have := HJ13.out; have := HK3.out; omega
                      case rel => exact ⟨(wrap64 (x11_3 + 1)), (by first | rfl | (simp; done) | (simp [*]; done)), H', ⟨by have := HJ6.out; have := HJ13.out; have := HK3.out; omega⟩, ⟨by exact uR HO_10.out⟩, ⟨by (with_reducible repeat (first | refine zKn ?_ _ | refine zKd ?_ | refine zKa ?_ _)); exact BK190.out⟩, ⟨by exact uT HB.out⟩⟩
                    · rw [if_neg c37] at H
                      have c37b0 : ((rd l3 x11_3) == (-1)) = false := beq_eq_false_iff_ne.mpr c37
                      have c37b1 : ((rd l3 x11_3) != (-1)) = true := bne_iff_ne.mpr c37
                      obtain rfl := zOi H
                      have hcz41_0 : wr.cell? ⟨gb190, 0, none⟩ = some (.int .i64 a0_0) := (zKc BK190.out 0).trans rfl
                      have hcz41_1 : wr.cell? ⟨gb190, 1, none⟩ = some (.slice A0_1 l0_1.length c0_1) := (zKc BK190.out 1).trans rfl
                      have hfz41_0 := zKf BK190.out 0
                      have hfz41_1 := zKf BK190.out 1
                      try go_wp2
                      replace HO_10 := zMk (zRd HO_10.out)
                      replace BK190 := zMk (zKd BK190.out)
                      replace HB := zMk (zBd HB.out)
                      have p196 : 0 ≤ (x11_3 : Int) := of_decide_eq_true (by assumption)
                      have q196 : x11_3 < (l2.length : Int) := of_decide_eq_true (by assumption)
                      obtain ⟨ad196, e196, hx196_0⟩ := zAi HR2.out x11_3 p196 q196
                      have hw196_0 := hx196_0
                      cases e196
                      replace hx196_0 := (HB.out.cell (World.block_lt_of_cell? w _ hx196_0)).trans hx196_0
                      replace p196 := eq_true p196
                      replace q196 := eq_true q196
                      obtain ⟨Ao43, co43, eo43⟩ := zRs HO_10.out
                      (first |  subst eo43|  (injection eo43 with f1_ f2_ f3_; have f4_ := f1_.symm; have f5_ := f3_.symm; clear f1_ f2_ f3_; subst f4_; subst f5_))
                      have p197 : 0 ≤ (x11_3 : Int) := of_decide_eq_true (by assumption)
                      have q197 : x11_3 < (t193.length : Int) := of_decide_eq_true (by assumption)
                      obtain ⟨ad197, e197, hx197_0⟩ := zAi (zRr HO_10.out).2.2 x11_3 p197 q197
                      cases e197
                      replace p197 := eq_true p197
                      replace q197 := eq_true q197
                      refine start_ (n := 9) (S := fun w' => w'.cell? (ad196.add (x11_3).toNat) = some (.int .i64 (rd l2 x11_3)) ∧ w'.cell? (ad197.add (x11_3).toNat) = some (.int .i64 (rd t193 x11_3))) (ds := []) #[false, false, false, false, false, false, false, false, false] (by kernel_rfl) rfl rfl ⟨((HB.out.cell (World.block_lt_of_cell? w _ hw196_0)).trans hw196_0), hx197_0⟩ (fun hHeld => ?_); refine with_tabW filigreeref12_Check.tab12 filigreeref12_Check.bits12 (fun HT_ HW_ => ?_)
                      generalize wr.drew = w42 at HO_10 BK190 HB hx196_0 hx197_0 hHeld ⊢
                      refine pure_ (i := 0) (N := some 57) (v := ?_) (a' := ?_) #[true, false, false, false, false, false, false, false, false] rfl rfl (any_of HT_.out (by kernel_rfl)) (fun _ _ _ h => h) (Or.inl ⟨by rfl, ?_⟩) ?_ ?_
                      rotate_left
                      · intro w'
                        go_simp
                        with_reducible rfl
                      rotate_left
                      · simp only [Act.put, zSa, zSb, zSc, i64_w, i32_w]
                        rfl
                      refine pure_ (i := 1) (N := some 58) (v := ?_) (a' := ?_) #[true, true, false, false, false, false, false, false, false] rfl rfl (any_of HT_.out (by kernel_rfl)) (fun _ _ _ h => h) (Or.inl ⟨by rfl, ?_⟩) ?_ ?_
                      rotate_left
                      · intro w'
                        go_simp
                        with_reducible rfl
                      rotate_left
                      · simp only [Act.put, zSa, zSb, zSc, i64_w, i32_w]
                        rfl
                      refine pure_ (i := 2) (N := some 59) (v := ?_) (a' := ?_) #[true, true, true, false, false, false, false, false, false] rfl rfl (any_of HT_.out (by kernel_rfl)) (fun _ _ _ h => h) (Or.inl ⟨by rfl, ?_⟩) ?_ ?_
                      rotate_left
                      · intro w'
                        go_simp
                        with_reducible rfl
                      rotate_left
                      · simp only [Act.put, zSa, zSb, zSc, i64_w, i32_w]
                        rfl
                      refine pure_ (i := 4) (N := some 61) (v := ?_) (a' := ?_) #[true, true, true, false, true, false, false, false, false] rfl rfl (any_of HT_.out (by kernel_rfl)) (fun _ _ _ h => h) (Or.inl ⟨by rfl, ?_⟩) ?_ ?_
                      rotate_left
                      · intro w'
                        go_simp
                        with_reducible rfl
                      rotate_left
                      · simp only [Act.put, zSa, zSb, zSc, i64_w, i32_w]
                        rfl
                      refine pure_ (i := 5) (N := some 62) (v := ?_) (a' := ?_) #[true, true, true, false, true, true, false, false, false] rfl rfl (any_of HT_.out (by kernel_rfl)) (fun _ _ _ h => h) (Or.inl ⟨by rfl, ?_⟩) ?_ ?_
                      rotate_left
                      · intro w'
                        go_simp
                        with_reducible rfl
                      rotate_left
                      · simp only [Act.put, zSa, zSb, zSc, i64_w, i32_w]
                        rfl
                      refine pure_ (i := 6) (N := some 63) (v := ?_) (a' := ?_) #[true, true, true, false, true, true, true, false, false] rfl rfl (any_of HT_.out (by kernel_rfl)) (fun _ _ _ h => h) (Or.inl ⟨by rfl, ?_⟩) ?_ ?_
                      rotate_left
                      · intro w'
                        go_simp
                        with_reducible rfl
                      rotate_left
                      · simp only [Act.put, zSa, zSb, zSc, i64_w, i32_w]
                        rfl
                      refine take_ (i := 3) (N := some 60) (v := ?_) (a' := ?_) #[true, true, true, true, true, true, true, false, false] rfl rfl (take_ofW HT_.out HW_.out (by kernel_rfl)) (fun _ _ _ h => h) (Or.inl ⟨by rfl, ?_⟩) hHeld ?_ ?_
                      rotate_left
                      · rintro w' ⟨s0, s1⟩
                        go_simp
                        with_reducible rfl
                      rotate_left
                      · simp only [Act.put, zSa, zSb, zSc, i64_w, i32_w]
                        rfl
                      refine take_ (i := 7) (N := some 64) (v := ?_) (a' := ?_) #[true, true, true, true, true, true, true, true, false] rfl rfl (take_ofW HT_.out HW_.out (by kernel_rfl)) (fun _ _ _ h => h) (Or.inl ⟨by rfl, ?_⟩) hHeld ?_ ?_
                      rotate_left
                      · rintro w' ⟨s0, s1⟩
                        go_simp
                        with_reducible rfl
                      rotate_left
                      · simp only [Act.put, zSa, zSb, zSc, i64_w, i32_w]
                        rfl
                      refine pure_ (i := 8) (N := some 65) (v := ?_) (a' := ?_) #[true, true, true, true, true, true, true, true, true] rfl rfl (any_of HT_.out (by kernel_rfl)) (fun _ _ _ h => h) (Or.inl ⟨by rfl, ?_⟩) ?_ ?_
                      rotate_left
                      · intro w'
                        go_simp
                        with_reducible rfl
                      rotate_left
                      · simp only [Act.put, zSa, zSb, zSc, i64_w, i32_w]
                        rfl
                      refine done_ (done_of HT_.out (by kernel_rfl)) ?_
                      have p198 : 0 ≤ (x11_3 : Int) := of_decide_eq_true (by assumption)
                      have q198 : x11_3 < (t193.length : Int) := of_decide_eq_true (by assumption)
                      obtain ⟨ad198, e198, hx198_0⟩ := zAi (zRr HO_10.out).2.2 x11_3 p198 q198
                      obtain rfl : ad197 = ad198 := (by injection e198)
                      replace p198 := eq_true p198
                      replace q198 := eq_true q198
                      have p199 : 0 ≤ (x11_3 : Int) := of_decide_eq_true (by assumption)
                      have q199 : x11_3 < (l3.length : Int) := of_decide_eq_true (by assumption)
                      obtain ⟨ad199, e199, hx199_0⟩ := zAi HR3.out x11_3 p199 q199
                      cases e199
                      replace hx199_0 := (HB.out.cell (World.block_lt_of_cell? w _ hx199_0)).trans hx199_0
                      replace p199 := eq_true p199
                      replace q199 := eq_true q199
                      try go_wp2
                      go_ret
                      exact ⟨by first | rfl | (simp [errW_none, errW_some] <;> rfl) | (simp [*, errW_none, errW_some] <;> rfl), by exact uT HB.out⟩
                  · rw [if_neg c35] at H
                    have c35b0 : decide ((rd t193 x11_3) < 0) = false := decide_eq_false c35
                    clear c35
                    have HC44 := zMk H
                    clear H
                    have hcz45_0 : wr.cell? ⟨gb190, 0, none⟩ = some (.int .i64 a0_0) := (zKc BK190.out 0).trans rfl
                    have hcz45_1 : wr.cell? ⟨gb190, 1, none⟩ = some (.slice A0_1 l0_1.length c0_1) := (zKc BK190.out 1).trans rfl
                    have hfz45_0 := zKf BK190.out 0
                    have hfz45_1 := zKf BK190.out 1
                    try go_wp2
                    replace HO_10 := zMk (zRd HO_10.out)
                    replace BK190 := zMk (zKd BK190.out)
                    replace HB := zMk (zBd HB.out)
                    have p196 : 0 ≤ (x11_3 : Int) := of_decide_eq_true (by assumption)
                    have q196 : x11_3 < (l2.length : Int) := of_decide_eq_true (by assumption)
                    obtain ⟨ad196, e196, hx196_0⟩ := zAi HR2.out x11_3 p196 q196
                    have hw196_0 := hx196_0
                    cases e196
                    replace hx196_0 := (HB.out.cell (World.block_lt_of_cell? w _ hx196_0)).trans hx196_0
                    replace p196 := eq_true p196
                    replace q196 := eq_true q196
                    obtain ⟨Ao47, co47, eo47⟩ := zRs HO_10.out
                    (first |  subst eo47|  (injection eo47 with f1_ f2_ f3_; have f4_ := f1_.symm; have f5_ := f3_.symm; clear f1_ f2_ f3_; subst f4_; subst f5_))
                    have p197 : 0 ≤ (x11_3 : Int) := of_decide_eq_true (by assumption)
                    have q197 : x11_3 < (t193.length : Int) := of_decide_eq_true (by assumption)
                    obtain ⟨ad197, e197, hx197_0⟩ := zAi (zRr HO_10.out).2.2 x11_3 p197 q197
                    cases e197
                    replace p197 := eq_true p197
                    replace q197 := eq_true q197
                    refine start_ (n := 9) (S := fun w' => w'.cell? (ad196.add (x11_3).toNat) = some (.int .i64 (rd l2 x11_3)) ∧ w'.cell? (ad197.add (x11_3).toNat) = some (.int .i64 (rd t193 x11_3))) (ds := []) #[false, false, false, false, false, false, false, false, false] (by kernel_rfl) rfl rfl ⟨((HB.out.cell (World.block_lt_of_cell? w _ hw196_0)).trans hw196_0), hx197_0⟩ (fun hHeld => ?_); refine with_tabW filigreeref12_Check.tab12 filigreeref12_Check.bits12 (fun HT_ HW_ => ?_)
                    generalize wr.drew = w46 at HO_10 BK190 HB hx196_0 hx197_0 hHeld ⊢
                    refine pure_ (i := 0) (N := some 57) (v := ?_) (a' := ?_) #[true, false, false, false, false, false, false, false, false] rfl rfl (any_of HT_.out (by kernel_rfl)) (fun _ _ _ h => h) (Or.inl ⟨by rfl, ?_⟩) ?_ ?_
                    rotate_left
                    · intro w'
                      go_simp
                      with_reducible rfl
                    rotate_left
                    · simp only [Act.put, zSa, zSb, zSc, i64_w, i32_w]
                      rfl
                    refine pure_ (i := 1) (N := some 58) (v := ?_) (a' := ?_) #[true, true, false, false, false, false, false, false, false] rfl rfl (any_of HT_.out (by kernel_rfl)) (fun _ _ _ h => h) (Or.inl ⟨by rfl, ?_⟩) ?_ ?_
                    rotate_left
                    · intro w'
                      go_simp
                      with_reducible rfl
                    rotate_left
                    · simp only [Act.put, zSa, zSb, zSc, i64_w, i32_w]
                      rfl
                    refine pure_ (i := 2) (N := some 59) (v := ?_) (a' := ?_) #[true, true, true, false, false, false, false, false, false] rfl rfl (any_of HT_.out (by kernel_rfl)) (fun _ _ _ h => h) (Or.inl ⟨by rfl, ?_⟩) ?_ ?_
                    rotate_left
                    · intro w'
                      go_simp
                      with_reducible rfl
                    rotate_left
                    · simp only [Act.put, zSa, zSb, zSc, i64_w, i32_w]
                      rfl
                    refine pure_ (i := 4) (N := some 61) (v := ?_) (a' := ?_) #[true, true, true, false, true, false, false, false, false] rfl rfl (any_of HT_.out (by kernel_rfl)) (fun _ _ _ h => h) (Or.inl ⟨by rfl, ?_⟩) ?_ ?_
                    rotate_left
                    · intro w'
                      go_simp
                      with_reducible rfl
                    rotate_left
                    · simp only [Act.put, zSa, zSb, zSc, i64_w, i32_w]
                      rfl
                    refine pure_ (i := 5) (N := some 62) (v := ?_) (a' := ?_) #[true, true, true, false, true, true, false, false, false] rfl rfl (any_of HT_.out (by kernel_rfl)) (fun _ _ _ h => h) (Or.inl ⟨by rfl, ?_⟩) ?_ ?_
                    rotate_left
                    · intro w'
                      go_simp
                      with_reducible rfl
                    rotate_left
                    · simp only [Act.put, zSa, zSb, zSc, i64_w, i32_w]
                      rfl
                    refine pure_ (i := 6) (N := some 63) (v := ?_) (a' := ?_) #[true, true, true, false, true, true, true, false, false] rfl rfl (any_of HT_.out (by kernel_rfl)) (fun _ _ _ h => h) (Or.inl ⟨by rfl, ?_⟩) ?_ ?_
                    rotate_left
                    · intro w'
                      go_simp
                      with_reducible rfl
                    rotate_left
                    · simp only [Act.put, zSa, zSb, zSc, i64_w, i32_w]
                      rfl
                    refine take_ (i := 3) (N := some 60) (v := ?_) (a' := ?_) #[true, true, true, true, true, true, true, false, false] rfl rfl (take_ofW HT_.out HW_.out (by kernel_rfl)) (fun _ _ _ h => h) (Or.inl ⟨by rfl, ?_⟩) hHeld ?_ ?_
                    rotate_left
                    · rintro w' ⟨s0, s1⟩
                      go_simp
                      with_reducible rfl
                    rotate_left
                    · simp only [Act.put, zSa, zSb, zSc, i64_w, i32_w]
                      rfl
                    refine take_ (i := 7) (N := some 64) (v := ?_) (a' := ?_) #[true, true, true, true, true, true, true, true, false] rfl rfl (take_ofW HT_.out HW_.out (by kernel_rfl)) (fun _ _ _ h => h) (Or.inl ⟨by rfl, ?_⟩) hHeld ?_ ?_
                    rotate_left
                    · rintro w' ⟨s0, s1⟩
                      go_simp
                      with_reducible rfl
                    rotate_left
                    · simp only [Act.put, zSa, zSb, zSc, i64_w, i32_w]
                      rfl
                    refine pure_ (i := 8) (N := some 65) (v := ?_) (a' := ?_) #[true, true, true, true, true, true, true, true, true] rfl rfl (any_of HT_.out (by kernel_rfl)) (fun _ _ _ h => h) (Or.inl ⟨by rfl, ?_⟩) ?_ ?_
                    rotate_left
                    · intro w'
                      go_simp
                      with_reducible rfl
                    rotate_left
                    · simp only [Act.put, zSa, zSb, zSc, i64_w, i32_w]
                      rfl
                    refine done_ (done_of HT_.out (by kernel_rfl)) ?_
                    have p198 : 0 ≤ (x11_3 : Int) := of_decide_eq_true (by assumption)
                    have q198 : x11_3 < (t193.length : Int) := of_decide_eq_true (by assumption)
                    obtain ⟨ad198, e198, hx198_0⟩ := zAi (zRr HO_10.out).2.2 x11_3 p198 q198
                    obtain rfl : ad197 = ad198 := (by injection e198)
                    replace p198 := eq_true p198
                    replace q198 := eq_true q198
                    go_upto_region 18 with (fail)
                    go_cut [93] (fun v93 wc => ∃ (kq : Nat) (x93_43 : Bool), v93 = .bool x93_43 ∧ Aside0 (filigreeref12_Check.j3 kq a1 l2 l3 t193 x11_3 x93_43 a0_0 l0_1 = some r) ∧ Aside0 (kq ≤ k3) ∧ Aside0 (Kd.R (Kd.int .i64) 2 wc w.heap.size (fun _ => True) (.slice (some ad197) t193.length co47) t193) ∧ Aside0 (wc.heap[gb190]? = some (.cells #[.int .i64 a0_0, (.slice A0_1 l0_1.length c0_1)] 24 (0, 0))) ∧ Aside0 (Below w.heap.size w wc))
                    case first =>
                      have H := HC44.out
                      clear HC44
                      by_cases c48 : x11_3 < (l3.length : Int)
                      rotate_left
                      · rw [if_neg c48] at H; exact absurd H (by simp)
                      rw [if_pos c48] at H
                      have c48b0 : decide (x11_3 < (l3.length : Int)) = true := decide_eq_true c48
                      clear c48
                      (first | rw [c48b0] | (simp only [i64_w, i32_w]; rw [c48b0]) | rw [c48b1] | skip)
                      by_cases c49 : (rd l3 x11_3) < 0
                      · rw [if_pos c49] at H
                        have c49b0 : decide ((rd l3 x11_3) < 0) = true := decide_eq_true c49
                        clear c49
                        have H' := zMk H
                        clear H
                        try go_wp2
                        replace HO_10 := zMk (zRd HO_10.out)
                        replace BK190 := zMk (zKd BK190.out)
                        replace HB := zMk (zBd HB.out)
                        have p200 : 0 ≤ (x11_3 : Int) := of_decide_eq_true (by assumption)
                        have q200 : x11_3 < (l3.length : Int) := of_decide_eq_true (by assumption)
                        obtain ⟨ad200, e200, hx200_0⟩ := zAi HR3.out x11_3 p200 q200
                        have hw200_0 := hx200_0
                        cases e200
                        replace hx200_0 := (HB.out.cell (World.block_lt_of_cell? w _ hx200_0)).trans hx200_0
                        replace p200 := eq_true p200
                        replace q200 := eq_true q200
                        refine start_ (n := 15) (S := fun w' => w'.cell? (ad200.add (x11_3).toNat) = some (.int .i64 (rd l3 x11_3))) (ds := []) #[false, false, false, false, false, false, false, false, false, false, false, false, false, false, false] (by kernel_rfl) rfl rfl (((HB.out.cell (World.block_lt_of_cell? w _ hw200_0)).trans hw200_0)) (fun hHeld => ?_); refine with_tabW filigreeref12_Check.tab18 filigreeref12_Check.bits18 (fun HT_ HW_ => ?_)
                        generalize w46.drew = w50 at HO_10 BK190 HB hx200_0 hHeld ⊢
                        refine pure_ (i := 0) (N := some 79) (v := ?_) (a' := ?_) #[true, false, false, false, false, false, false, false, false, false, false, false, false, false, false] rfl rfl (any_of HT_.out (by kernel_rfl)) (fun _ _ _ h => h) (Or.inl ⟨by rfl, ?_⟩) ?_ ?_
                        rotate_left
                        · intro w'
                          go_simp
                          with_reducible rfl
                        rotate_left
                        · simp only [Act.put, zSa, zSb, zSc, i64_w, i32_w]
                          rfl
                        refine pure_ (i := 1) (N := some 80) (v := ?_) (a' := ?_) #[true, true, false, false, false, false, false, false, false, false, false, false, false, false, false] rfl rfl (any_of HT_.out (by kernel_rfl)) (fun _ _ _ h => h) (Or.inl ⟨by rfl, ?_⟩) ?_ ?_
                        rotate_left
                        · intro w'
                          go_simp
                          with_reducible rfl
                        rotate_left
                        · simp only [Act.put, zSa, zSb, zSc, i64_w, i32_w]
                          rfl
                        refine pure_ (i := 2) (N := some 81) (v := ?_) (a' := ?_) #[true, true, true, false, false, false, false, false, false, false, false, false, false, false, false] rfl rfl (any_of HT_.out (by kernel_rfl)) (fun _ _ _ h => h) (Or.inl ⟨by rfl, ?_⟩) ?_ ?_
                        rotate_left
                        · intro w'
                          go_simp
                          with_reducible rfl
                        rotate_left
                        · simp only [Act.put, zSa, zSb, zSc, i64_w, i32_w]
                          rfl
                        refine take_ (i := 3) (N := some 82) (v := ?_) (a' := ?_) #[true, true, true, true, false, false, false, false, false, false, false, false, false, false, false] rfl rfl (take_ofW HT_.out HW_.out (by kernel_rfl)) (fun _ _ _ h => h) (Or.inl ⟨by rfl, ?_⟩) hHeld ?_ ?_
                        rotate_left
                        · intro w' s0
                          go_simp
                          with_reducible rfl
                        rotate_left
                        · simp only [Act.put, zSa, zSb, zSc, i64_w, i32_w]
                          rfl
                        refine pure_ (i := 4) (N := some 83) (v := ?_) (a' := ?_) #[true, true, true, true, true, false, false, false, false, false, false, false, false, false, false] rfl rfl (any_of HT_.out (by kernel_rfl)) (fun _ _ _ h => h) (Or.inl ⟨by rfl, ?_⟩) ?_ ?_
                        rotate_left
                        · intro w'
                          go_simp
                          with_reducible rfl
                        rotate_left
                        · simp only [Act.put, zSa, zSb, zSc, i64_w, i32_w]
                          rfl
                        refine pure_ (i := 5) (N := some 84) (v := ?_) (a' := ?_) #[true, true, true, true, true, true, false, false, false, false, false, false, false, false, false] rfl rfl (any_of HT_.out (by kernel_rfl)) (fun _ _ _ h => h) (Or.inl ⟨by rfl, ?_⟩) ?_ ?_
                        rotate_left
                        · intro w'
                          go_simp
                          with_reducible rfl
                        rotate_left
                        · simp only [Act.put, zSa, zSb, zSc, i64_w, i32_w]
                          rfl
                        refine pure_ (i := 6) (N := some 85) (v := undef) (a' := ?_) #[true, true, true, true, true, true, true, false, false, false, false, false, false, false, false] rfl rfl (any_of HT_.out (by kernel_rfl)) (fun _ _ _ h => h) (Or.inr ⟨by rfl, rfl⟩) ?_ ?_
                        rotate_left
                        · simp only [Act.put, zSa, zSb, zSc, i64_w, i32_w]
                          rfl
                        refine pure_ (i := 7) (N := some 86) (v := undef) (a' := ?_) #[true, true, true, true, true, true, true, true, false, false, false, false, false, false, false] rfl rfl (any_of HT_.out (by kernel_rfl)) (fun _ _ _ h => h) (Or.inr ⟨by rfl, rfl⟩) ?_ ?_
                        rotate_left
                        · simp only [Act.put, zSa, zSb, zSc, i64_w, i32_w]
                          rfl
                        refine pure_ (i := 8) (N := some 87) (v := undef) (a' := ?_) #[true, true, true, true, true, true, true, true, true, false, false, false, false, false, false] rfl rfl (any_of HT_.out (by kernel_rfl)) (fun _ _ _ h => h) (Or.inr ⟨by rfl, rfl⟩) ?_ ?_
                        rotate_left
                        · simp only [Act.put, zSa, zSb, zSc, i64_w, i32_w]
                          rfl
                        refine pure_ (i := 9) (N := some 88) (v := undef) (a' := ?_) #[true, true, true, true, true, true, true, true, true, true, false, false, false, false, false] rfl rfl (any_of HT_.out (by kernel_rfl)) (fun _ _ _ h => h) (Or.inr ⟨by rfl, rfl⟩) ?_ ?_
                        rotate_left
                        · simp only [Act.put, zSa, zSb, zSc, i64_w, i32_w]
                          rfl
                        refine pure_ (i := 10) (N := some 89) (v := undef) (a' := ?_) #[true, true, true, true, true, true, true, true, true, true, true, false, false, false, false] rfl rfl (any_of HT_.out (by kernel_rfl)) (fun _ _ _ h => h) (Or.inr ⟨by rfl, rfl⟩) ?_ ?_
                        rotate_left
                        · simp only [Act.put, zSa, zSb, zSc, i64_w, i32_w]
                          rfl
                        refine pure_ (i := 11) (N := some 90) (v := undef) (a' := ?_) #[true, true, true, true, true, true, true, true, true, true, true, true, false, false, false] rfl rfl (any_of HT_.out (by kernel_rfl)) (fun _ _ _ h => h) (Or.inr ⟨by rfl, rfl⟩) ?_ ?_
                        rotate_left
                        · simp only [Act.put, zSa, zSb, zSc, i64_w, i32_w]
                          rfl
                        refine pure_ (i := 12) (N := some 91) (v := undef) (a' := ?_) #[true, true, true, true, true, true, true, true, true, true, true, true, true, false, false] rfl rfl (any_of HT_.out (by kernel_rfl)) (fun _ _ _ h => h) (Or.inr ⟨by rfl, rfl⟩) ?_ ?_
                        rotate_left
                        · simp only [Act.put, zSa, zSb, zSc, i64_w, i32_w]
                          rfl
                        refine pure_ (i := 13) (N := some 92) (v := undef) (a' := ?_) #[true, true, true, true, true, true, true, true, true, true, true, true, true, true, false] rfl rfl (any_of HT_.out (by kernel_rfl)) (fun _ _ _ h => h) (Or.inr ⟨by rfl, rfl⟩) ?_ ?_
                        rotate_left
                        · simp only [Act.put, zSa, zSb, zSc, i64_w, i32_w]
                          rfl
                        refine pure_ (i := 14) (N := some 93) (v := ?_) (a' := ?_) #[true, true, true, true, true, true, true, true, true, true, true, true, true, true, true] rfl rfl (any_of HT_.out (by kernel_rfl)) (fun _ _ _ h => h) (Or.inl ⟨by rfl, ?_⟩) ?_ ?_
                        rotate_left
                        · intro w'
                          go_simp
                          with_reducible rfl
                        rotate_left
                        · simp only [Act.put, zSa, zSb, zSc, i64_w, i32_w]
                          rfl
                        refine done_ (done_of HT_.out (by kernel_rfl)) ?_
                        try go_wp2
                        go_meet
                        case rel => exact ⟨_, (true), (by first | rfl | (simp; done) | (simp [*]; done)), H', ⟨by have := HJ6.out; have := HJ13.out; have := HK3.out; first | omega | exact Nat.le_refl _⟩, ⟨by exact uR HO_10.out⟩, ⟨by (with_reducible repeat (first | refine zKn ?_ _ | refine zKd ?_ | refine zKa ?_ _)); exact BK190.out⟩, ⟨by exact uT HB.out⟩⟩
                      · rw [if_neg c49] at H
                        have c49b0 : decide ((rd l3 x11_3) < 0) = false := decide_eq_false c49
                        clear c49
                        have H' := zMk H
                        clear H
                        try go_wp2
                        replace HO_10 := zMk (zRd HO_10.out)
                        replace BK190 := zMk (zKd BK190.out)
                        replace HB := zMk (zBd HB.out)
                        have p200 : 0 ≤ (x11_3 : Int) := of_decide_eq_true (by assumption)
                        have q200 : x11_3 < (l3.length : Int) := of_decide_eq_true (by assumption)
                        obtain ⟨ad200, e200, hx200_0⟩ := zAi HR3.out x11_3 p200 q200
                        have hw200_0 := hx200_0
                        cases e200
                        replace hx200_0 := (HB.out.cell (World.block_lt_of_cell? w _ hx200_0)).trans hx200_0
                        replace p200 := eq_true p200
                        replace q200 := eq_true q200
                        have p201 : 0 ≤ (x11_3 : Int) := of_decide_eq_true (by assumption)
                        have q201 : x11_3 < (l3.length : Int) := of_decide_eq_true (by assumption)
                        obtain ⟨ad201, e201, hx201_0⟩ := zAi HR3.out x11_3 p201 q201
                        have hw201_0 := hx201_0
                        obtain rfl : ad200 = ad201 := (by injection e201)
                        replace hx201_0 := (HB.out.cell (World.block_lt_of_cell? w _ hx201_0)).trans hx201_0
                        replace p201 := eq_true p201
                        replace q201 := eq_true q201
                        refine start_ (n := 15) (S := fun w' => w'.cell? ⟨gb190, 0, none⟩ = some (.int .i64 a0_0) ∧ w'.cell? ⟨gb190, 1, none⟩ = some (.slice A0_1 l0_1.length c0_1) ∧ w'.cell? (ad200.add (x11_3).toNat) = some (.int .i64 (rd l3 x11_3)) ∧ w'.cell? (ad200.add (x11_3).toNat) = some (.int .i64 (rd l3 x11_3))) (ds := []) #[false, false, false, false, false, false, false, false, false, false, false, false, false, false, false] (by kernel_rfl) rfl rfl ⟨(zKc BK190.out 0).trans rfl, (zKc BK190.out 1).trans rfl, ((HB.out.cell (World.block_lt_of_cell? w _ hw200_0)).trans hw200_0), ((HB.out.cell (World.block_lt_of_cell? w _ hw201_0)).trans hw201_0)⟩ (fun hHeld => ?_); refine with_tabW filigreeref12_Check.tab18 filigreeref12_Check.bits18 (fun HT_ HW_ => ?_)
                        generalize w46.drew = w51 at HO_10 BK190 HB hx200_0 hx201_0 hHeld ⊢
                        refine pure_ (i := 0) (N := some 79) (v := ?_) (a' := ?_) #[true, false, false, false, false, false, false, false, false, false, false, false, false, false, false] rfl rfl (any_of HT_.out (by kernel_rfl)) (fun _ _ _ h => h) (Or.inl ⟨by rfl, ?_⟩) ?_ ?_
                        rotate_left
                        · intro w'
                          go_simp
                          with_reducible rfl
                        rotate_left
                        · simp only [Act.put, zSa, zSb, zSc, i64_w, i32_w]
                          rfl
                        refine pure_ (i := 1) (N := some 80) (v := ?_) (a' := ?_) #[true, true, false, false, false, false, false, false, false, false, false, false, false, false, false] rfl rfl (any_of HT_.out (by kernel_rfl)) (fun _ _ _ h => h) (Or.inl ⟨by rfl, ?_⟩) ?_ ?_
                        rotate_left
                        · intro w'
                          go_simp
                          with_reducible rfl
                        rotate_left
                        · simp only [Act.put, zSa, zSb, zSc, i64_w, i32_w]
                          rfl
                        refine pure_ (i := 2) (N := some 81) (v := ?_) (a' := ?_) #[true, true, true, false, false, false, false, false, false, false, false, false, false, false, false] rfl rfl (any_of HT_.out (by kernel_rfl)) (fun _ _ _ h => h) (Or.inl ⟨by rfl, ?_⟩) ?_ ?_
                        rotate_left
                        · intro w'
                          go_simp
                          with_reducible rfl
                        rotate_left
                        · simp only [Act.put, zSa, zSb, zSc, i64_w, i32_w]
                          rfl
                        refine take_ (i := 3) (N := some 82) (v := ?_) (a' := ?_) #[true, true, true, true, false, false, false, false, false, false, false, false, false, false, false] rfl rfl (take_ofW HT_.out HW_.out (by kernel_rfl)) (fun _ _ _ h => h) (Or.inl ⟨by rfl, ?_⟩) hHeld ?_ ?_
                        rotate_left
                        · rintro w' ⟨s0, s1, s2, s3⟩
                          go_simp
                          with_reducible rfl
                        rotate_left
                        · simp only [Act.put, zSa, zSb, zSc, i64_w, i32_w]
                          rfl
                        refine pure_ (i := 4) (N := some 83) (v := ?_) (a' := ?_) #[true, true, true, true, true, false, false, false, false, false, false, false, false, false, false] rfl rfl (any_of HT_.out (by kernel_rfl)) (fun _ _ _ h => h) (Or.inl ⟨by rfl, ?_⟩) ?_ ?_
                        rotate_left
                        · intro w'
                          go_simp
                          with_reducible rfl
                        rotate_left
                        · simp only [Act.put, zSa, zSb, zSc, i64_w, i32_w]
                          rfl
                        refine pure_ (i := 5) (N := some 84) (v := ?_) (a' := ?_) #[true, true, true, true, true, true, false, false, false, false, false, false, false, false, false] rfl rfl (any_of HT_.out (by kernel_rfl)) (fun _ _ _ h => h) (Or.inl ⟨by rfl, ?_⟩) ?_ ?_
                        rotate_left
                        · intro w'
                          go_simp
                          with_reducible rfl
                        rotate_left
                        · simp only [Act.put, zSa, zSb, zSc, i64_w, i32_w]
                          rfl
                        refine pure_ (i := 6) (N := some 85) (v := ?_) (a' := ?_) #[true, true, true, true, true, true, true, false, false, false, false, false, false, false, false] rfl rfl (any_of HT_.out (by kernel_rfl)) (fun _ _ _ h => h) (Or.inl ⟨by rfl, ?_⟩) ?_ ?_
                        rotate_left
                        · intro w'
                          go_simp
                          with_reducible rfl
                        rotate_left
                        · simp only [Act.put, zSa, zSb, zSc, i64_w, i32_w]
                          rfl
                        refine pure_ (i := 7) (N := some 86) (v := ?_) (a' := ?_) #[true, true, true, true, true, true, true, true, false, false, false, false, false, false, false] rfl rfl (any_of HT_.out (by kernel_rfl)) (fun _ _ _ h => h) (Or.inl ⟨by rfl, ?_⟩) ?_ ?_
                        rotate_left
                        · intro w'
                          go_simp
                          with_reducible rfl
                        rotate_left
                        · simp only [Act.put, zSa, zSb, zSc, i64_w, i32_w]
                          rfl
                        refine pure_ (i := 8) (N := some 87) (v := ?_) (a' := ?_) #[true, true, true, true, true, true, true, true, true, false, false, false, false, false, false] rfl rfl (any_of HT_.out (by kernel_rfl)) (fun _ _ _ h => h) (Or.inl ⟨by rfl, ?_⟩) ?_ ?_
                        rotate_left
                        · intro w'
                          go_simp
                          with_reducible rfl
                        rotate_left
                        · simp only [Act.put, zSa, zSb, zSc, i64_w, i32_w]
                          rfl
                        refine pure_ (i := 10) (N := some 89) (v := ?_) (a' := ?_) #[true, true, true, true, true, true, true, true, true, false, true, false, false, false, false] rfl rfl (any_of HT_.out (by kernel_rfl)) (fun _ _ _ h => h) (Or.inl ⟨by rfl, ?_⟩) ?_ ?_
                        rotate_left
                        · intro w'
                          go_simp
                          with_reducible rfl
                        rotate_left
                        · simp only [Act.put, zSa, zSb, zSc, i64_w, i32_w]
                          rfl
                        refine take_ (i := 9) (N := some 88) (v := ?_) (a' := ?_) #[true, true, true, true, true, true, true, true, true, true, true, false, false, false, false] rfl rfl (take_ofW HT_.out HW_.out (by kernel_rfl)) (fun _ _ _ h => h) (Or.inl ⟨by rfl, ?_⟩) hHeld ?_ ?_
                        rotate_left
                        · rintro w' ⟨s0, s1, s2, s3⟩
                          go_simp
                          with_reducible rfl
                        rotate_left
                        · simp only [Act.put, zSa, zSb, zSc, i64_w, i32_w]
                          rfl
                        refine take_ (i := 11) (N := some 90) (v := ?_) (a' := ?_) #[true, true, true, true, true, true, true, true, true, true, true, true, false, false, false] rfl rfl (take_ofW HT_.out HW_.out (by kernel_rfl)) (fun _ _ _ h => h) (Or.inl ⟨by rfl, ?_⟩) hHeld ?_ ?_
                        rotate_left
                        · rintro w' ⟨s0, s1, s2, s3⟩
                          go_simp
                          with_reducible rfl
                        rotate_left
                        · simp only [Act.put, zSa, zSb, zSc, i64_w, i32_w]
                          rfl
                        refine pure_ (i := 12) (N := some 91) (v := ?_) (a' := ?_) #[true, true, true, true, true, true, true, true, true, true, true, true, true, false, false] rfl rfl (any_of HT_.out (by kernel_rfl)) (fun _ _ _ h => h) (Or.inl ⟨by rfl, ?_⟩) ?_ ?_
                        rotate_left
                        · intro w'
                          go_simp
                          with_reducible rfl
                        rotate_left
                        · simp only [Act.put, zSa, zSb, zSc, i64_w, i32_w]
                          rfl
                        refine pure_ (i := 13) (N := some 92) (v := ?_) (a' := ?_) #[true, true, true, true, true, true, true, true, true, true, true, true, true, true, false] rfl rfl (any_of HT_.out (by kernel_rfl)) (fun _ _ _ h => h) (Or.inl ⟨by rfl, ?_⟩) ?_ ?_
                        rotate_left
                        · intro w'
                          go_simp
                          with_reducible rfl
                        rotate_left
                        · simp only [Act.put, zSa, zSb, zSc, i64_w, i32_w]
                          rfl
                        refine pure_ (i := 14) (N := some 93) (v := ?_) (a' := ?_) #[true, true, true, true, true, true, true, true, true, true, true, true, true, true, true] rfl rfl (any_of HT_.out (by kernel_rfl)) (fun _ _ _ h => h) (Or.inl ⟨by rfl, ?_⟩) ?_ ?_
                        rotate_left
                        · intro w'
                          go_simp
                          with_reducible rfl
                        rotate_left
                        · simp only [Act.put, zSa, zSb, zSc, i64_w, i32_w]
                          rfl
                        refine done_ (done_of HT_.out (by kernel_rfl)) ?_
                        try go_wp2
                        go_meet
                        case rel => exact ⟨_, (decide ((rd l3 x11_3) ≥ (l0_1.length : Int))), (by first | rfl | (simp; done) | (simp [*]; done)), H', ⟨by have := HJ6.out; have := HJ13.out; have := HK3.out; first | omega | exact Nat.le_refl _⟩, ⟨by exact uR HO_10.out⟩, ⟨by (with_reducible repeat (first | refine zKn ?_ _ | refine zKd ?_ | refine zKa ?_ _)); exact BK190.out⟩, ⟨by exact uT HB.out⟩⟩
                    case rest =>
                      clear HC44
                      obtain ⟨kq, x93_43, rfl, HA, HJ43, HO_10, BK190, HB⟩ := hcut
                      rcases kq with _ | kj43
                      · exact absurd HA.out (by simp [filigreeref12_Check.j3])
                      have H := HA.out
                      clear HA
                      simp only [filigreeref12_Check.j3] at H
                      by_cases c52 : x93_43 = true
                      · subst c52
                        replace H : (some 13) = some r := by rw [if_pos rfl] at H; exact H
                        obtain rfl := zOi H
                        go_wp2
                        go_ret
                        exact ⟨by first | rfl | (simp [errW_none, errW_some] <;> rfl) | (simp [*, errW_none, errW_some] <;> rfl), by exact uT HB.out⟩
                      · replace c52 := Bool.eq_false_iff.mpr c52
                        subst c52
                        replace H : (if 0 ≤ x11_3 then (if x11_3 < (l3.length : Int) then (if 0 ≤ (rd l3 x11_3) then (if (rd l3 x11_3) < (l0_1.length : Int) then ((filigreeref12_other.f ((rd_T39 l0_1 (rd l3 x11_3)).f0) ((rd_T39 l0_1 (rd l3 x11_3)).f1) ((rd_T39 l0_1 (rd l3 x11_3)).f2) x11_3).bind fun t204 => (if t204 < 0 then (some 13) else (if 0 ≤ t204 then (if t204 < (t193.length : Int) then (if (rd t193 t204) < 0 then (some 13) else (if x11_3 < (t193.length : Int) then (if (rd t193 t204) = (wrap64 ((rd t193 x11_3) - ((rd_T39 l0_1 (rd l3 x11_3)).f2))) then (filigreeref12_Check.l0 kj43 a1 l2 l3 t193 (wrap64 (x11_3 + 1)) a0_0 l0_1) else (some 13)) else (none))) else (none)) else (none)))) else (none)) else (none)) else (none)) else (none)) = some r := by rw [if_neg (show ¬ (false = true) by decide)] at H; exact H
                        by_cases c53 : 0 ≤ x11_3
                        rotate_left
                        · rw [if_neg c53] at H; exact absurd H (by simp)
                        rw [if_pos c53] at H
                        have c53b0 : decide (0 ≤ x11_3) = true := decide_eq_true c53
                        clear c53
                        by_cases c54 : x11_3 < (l3.length : Int)
                        rotate_left
                        · rw [if_neg c54] at H; exact absurd H (by simp)
                        rw [if_pos c54] at H
                        have c54b0 : decide (x11_3 < (l3.length : Int)) = true := decide_eq_true c54
                        clear c54
                        by_cases c55 : 0 ≤ (rd l3 x11_3)
                        rotate_left
                        · rw [if_neg c55] at H; exact absurd H (by simp)
                        rw [if_pos c55] at H
                        have c55b0 : decide (0 ≤ (rd l3 x11_3)) = true := decide_eq_true c55
                        clear c55
                        by_cases c56 : (rd l3 x11_3) < (l0_1.length : Int)
                        rotate_left
                        · rw [if_neg c56] at H; exact absurd H (by simp)
                        rw [if_pos c56] at H
                        have c56b0 : decide ((rd l3 x11_3) < (l0_1.length : Int)) = true := decide_eq_true c56
                        clear c56
                        replace H := bnd H
                        obtain ⟨t204, A570, H⟩ := H
                        have A57 := zMk A570
                        clear A570
                        by_cases c58 : t204 < 0
                        · rw [if_pos c58] at H
                          have c58b0 : decide (t204 < 0) = true := decide_eq_true c58
                          clear c58
                          obtain rfl := zOi H
                          try go_wp2
                          replace HO_10 := zMk (zRd HO_10.out)
                          replace BK190 := zMk (zKd BK190.out)
                          replace HB := zMk (zBd HB.out)
                          have p202 : 0 ≤ (x11_3 : Int) := of_decide_eq_true (by assumption)
                          have q202 : x11_3 < (l3.length : Int) := of_decide_eq_true (by assumption)
                          obtain ⟨ad202, e202, hx202_0⟩ := zAi HR3.out x11_3 p202 q202
                          have hw202_0 := hx202_0
                          cases e202
                          replace hx202_0 := (HB.out.cell (World.block_lt_of_cell? w _ hx202_0)).trans hx202_0
                          replace p202 := eq_true p202
                          replace q202 := eq_true q202
                          have p203 : 0 ≤ ((rd l3 x11_3) : Int) := of_decide_eq_true (by assumption)
                          have q203 : (rd l3 x11_3) < (l0_1.length : Int) := of_decide_eq_true (by assumption)
                          obtain ⟨ad203, e203, hx203_0, hx203_1, hx203_2⟩ := at_T39 HR0_1.out (rd l3 x11_3) p203 q203
                          have hw203_2 := hx203_2
                          have hw203_1 := hx203_1
                          have hw203_0 := hx203_0
                          cases e203
                          replace hx203_0 := (HB.out.cell (World.block_lt_of_cell? w _ hx203_0)).trans hx203_0
                          replace hx203_1 := (HB.out.cell (World.block_lt_of_cell? w _ hx203_1)).trans hx203_1
                          replace hx203_2 := (HB.out.cell (World.block_lt_of_cell? w _ hx203_2)).trans hx203_2
                          replace p203 := eq_true p203
                          replace q203 := eq_true q203
                          refine start_ (n := 11) (S := fun w' => w'.cell? ⟨gb190, 0, none⟩ = some (.int .i64 a0_0) ∧ w'.cell? ⟨gb190, 1, none⟩ = some (.slice (some ad203) l0_1.length c0_1) ∧ w'.cell? (ad202.add (x11_3).toNat) = some (.int .i64 (rd l3 x11_3)) ∧ w'.cell? (ad203.add (((rd l3 x11_3)).toNat * 3)) = some (.int .i64 ((rd_T39 l0_1 (rd l3 x11_3)).f0)) ∧ w'.cell? ⟨(ad203.add (((rd l3 x11_3)).toNat * 3)).block, (ad203.add (((rd l3 x11_3)).toNat * 3)).off + 1, none⟩ = some (.int .i64 ((rd_T39 l0_1 (rd l3 x11_3)).f1)) ∧ w'.cell? ⟨(ad203.add (((rd l3 x11_3)).toNat * 3)).block, (ad203.add (((rd l3 x11_3)).toNat * 3)).off + 2, none⟩ = some (.int .i64 ((rd_T39 l0_1 (rd l3 x11_3)).f2))) (ds := []) #[false, false, false, false, false, false, false, false, false, false, false] (by kernel_rfl) rfl rfl ⟨(zKc BK190.out 0).trans rfl, (zKc BK190.out 1).trans rfl, ((HB.out.cell (World.block_lt_of_cell? w _ hw202_0)).trans hw202_0), ((HB.out.cell (World.block_lt_of_cell? w _ hw203_0)).trans hw203_0), ((HB.out.cell (World.block_lt_of_cell? w _ hw203_1)).trans hw203_1), ((HB.out.cell (World.block_lt_of_cell? w _ hw203_2)).trans hw203_2)⟩ (fun hHeld => ?_); refine with_tabW filigreeref12_Check.tab20 filigreeref12_Check.bits20 (fun HT_ HW_ => ?_)
                          generalize wc.drew = w59 at HO_10 BK190 HB hx202_0 hx203_0 hx203_1 hx203_2 hHeld ⊢
                          refine pure_ (i := 0) (N := some 94) (v := ?_) (a' := ?_) #[true, false, false, false, false, false, false, false, false, false, false] rfl rfl (any_of HT_.out (by kernel_rfl)) (fun _ _ _ h => h) (Or.inl ⟨by rfl, ?_⟩) ?_ ?_
                          rotate_left
                          · intro w'
                            go_simp
                            with_reducible rfl
                          rotate_left
                          · simp only [Act.put, zSa, zSb, zSc, i64_w, i32_w]
                            rfl
                          refine pure_ (i := 2) (N := some 96) (v := ?_) (a' := ?_) #[true, false, true, false, false, false, false, false, false, false, false] rfl rfl (any_of HT_.out (by kernel_rfl)) (fun _ _ _ h => h) (Or.inl ⟨by rfl, ?_⟩) ?_ ?_
                          rotate_left
                          · intro w'
                            go_simp
                            with_reducible rfl
                          rotate_left
                          · simp only [Act.put, zSa, zSb, zSc, i64_w, i32_w]
                            rfl
                          refine pure_ (i := 3) (N := some 97) (v := ?_) (a' := ?_) #[true, false, true, true, false, false, false, false, false, false, false] rfl rfl (any_of HT_.out (by kernel_rfl)) (fun _ _ _ h => h) (Or.inl ⟨by rfl, ?_⟩) ?_ ?_
                          rotate_left
                          · intro w'
                            go_simp
                            with_reducible rfl
                          rotate_left
                          · simp only [Act.put, zSa, zSb, zSc, i64_w, i32_w]
                            rfl
                          refine pure_ (i := 4) (N := some 98) (v := ?_) (a' := ?_) #[true, false, true, true, true, false, false, false, false, false, false] rfl rfl (any_of HT_.out (by kernel_rfl)) (fun _ _ _ h => h) (Or.inl ⟨by rfl, ?_⟩) ?_ ?_
                          rotate_left
                          · intro w'
                            go_simp
                            with_reducible rfl
                          rotate_left
                          · simp only [Act.put, zSa, zSb, zSc, i64_w, i32_w]
                            rfl
                          refine pure_ (i := 8) (N := some 102) (v := ?_) (a' := ?_) #[true, false, true, true, true, false, false, false, true, false, false] rfl rfl (any_of HT_.out (by kernel_rfl)) (fun _ _ _ h => h) (Or.inl ⟨by rfl, ?_⟩) ?_ ?_
                          rotate_left
                          · intro w'
                            go_simp
                            with_reducible rfl
                          rotate_left
                          · simp only [Act.put, zSa, zSb, zSc, i64_w, i32_w]
                            rfl
                          refine take_ (i := 1) (N := some 95) (v := ?_) (a' := ?_) #[true, true, true, true, true, false, false, false, true, false, false] rfl rfl (take_ofW HT_.out HW_.out (by kernel_rfl)) (fun _ _ _ h => h) (Or.inl ⟨by rfl, ?_⟩) hHeld ?_ ?_
                          rotate_left
                          · rintro w' ⟨s0, s1, s2, s3, s4, s5⟩
                            go_simp
                            with_reducible rfl
                          rotate_left
                          · simp only [Act.put, zSa, zSb, zSc, i64_w, i32_w]
                            rfl
                          refine take_ (i := 5) (N := some 99) (v := ?_) (a' := ?_) #[true, true, true, true, true, true, false, false, true, false, false] rfl rfl (take_ofW HT_.out HW_.out (by kernel_rfl)) (fun _ _ _ h => h) (Or.inl ⟨by rfl, ?_⟩) hHeld ?_ ?_
                          rotate_left
                          · rintro w' ⟨s0, s1, s2, s3, s4, s5⟩
                            go_simp
                            with_reducible rfl
                          rotate_left
                          · simp only [Act.put, zSa, zSb, zSc, i64_w, i32_w]
                            rfl
                          refine pure_ (i := 6) (N := some 100) (v := ?_) (a' := ?_) #[true, true, true, true, true, true, true, false, true, false, false] rfl rfl (any_of HT_.out (by kernel_rfl)) (fun _ _ _ h => h) (Or.inl ⟨by rfl, ?_⟩) ?_ ?_
                          rotate_left
                          · intro w'
                            go_simp
                            with_reducible rfl
                          rotate_left
                          · simp only [Act.put, zSa, zSb, zSc, i64_w, i32_w]
                            rfl
                          refine take_ (i := 7) (N := some 101) (v := ?_) (a' := ?_) #[true, true, true, true, true, true, true, true, true, false, false] rfl rfl (take_ofW HT_.out HW_.out (by kernel_rfl)) (fun _ _ _ h => h) (Or.inl ⟨by rfl, ?_⟩) hHeld ?_ ?_
                          rotate_left
                          · rintro w' ⟨s0, s1, s2, s3, s4, s5⟩
                            go_simp
                            with_reducible rfl
                          rotate_left
                          · simp only [Act.put, zSa, zSb, zSc, i64_w, i32_w]
                            rfl
                          refine one_ (i := 9) (N := some 103) #[true, true, true, true, true, true, true, true, true, true, false] rfl rfl (one_of HT_.out (by kernel_rfl)) (by decide) (fun K hK => ?_)
                          refine goes_ Try.func23 (by kernel_rfl) rfl #[.agg #[.int .i64 ((rd_T39 l0_1 (rd l3 x11_3)).f0), .int .i64 ((rd_T39 l0_1 (rd l3 x11_3)).f1), .int .i64 ((rd_T39 l0_1 (rd l3 x11_3)).f2)], .int .i64 x11_3] (by rfl) rfl rfl (by (try simp only [zMa, zMc, zMn]); first | done | rfl | (simp only [zLd, zLt]; rfl)) ?_
                          with_reducible refine (filigreeref12_other.calls ((rd_T39 l0_1 (rd l3 x11_3)).f0) ((rd_T39 l0_1 (rd l3 x11_3)).f1) ((rd_T39 l0_1 (rd l3 x11_3)).f2) x11_3 t204 _ A57.out).mono ?_
                          rintro e w60 ⟨rfl, hb⟩
                          refine ⟨_, rfl, ?_⟩
                          replace HO_10 := zMk (zRb (by exact uR HO_10.out) hb)
                          replace BK190 := zMk (zKb (g := gb190) (o := .cells #[.int .i64 a0_0, .slice (some ad203) l0_1.length c0_1] 24 (0, 0)) (by (with_reducible repeat (first | refine zKn ?_ _ | refine zKd ?_ | refine zKa ?_ _)); exact BK190.out) hb)
                          replace HB := zMk (zBt (by exact uT HB.out) hb)
                          refine hK.out _ _ ⟨(zKc BK190.out 0).trans rfl, (zKc BK190.out 1).trans rfl, ((HB.out.cell (World.block_lt_of_cell? w _ hw202_0)).trans hw202_0), ((HB.out.cell (World.block_lt_of_cell? w _ hw203_0)).trans hw203_0), ((HB.out.cell (World.block_lt_of_cell? w _ hw203_1)).trans hw203_1), ((HB.out.cell (World.block_lt_of_cell? w _ hw203_2)).trans hw203_2)⟩ (fun hHeld => ?_)
                          clear hK K
                          refine norm_ (a' := ?_) ?_ ?_
                          rotate_left
                          · show Act.put _ (some 103) _ = _
                            simp only [Act.put, zSa, zSb, zSc, i64_w, i32_w]
                            rfl
                          refine pure_ (i := 10) (N := some 12) (v := ?_) (a' := ?_) #[true, true, true, true, true, true, true, true, true, true, true] rfl rfl (any_of HT_.out (by kernel_rfl)) (fun _ _ _ h => h) (Or.inl ⟨by rfl, ?_⟩) ?_ ?_
                          rotate_left
                          · intro w'
                            go_simp
                            with_reducible rfl
                          rotate_left
                          · simp only [Act.put, zSa, zSb, zSc, i64_w, i32_w]
                            rfl
                          refine done_ (done_of HT_.out (by kernel_rfl)) ?_
                          try go_wp2
                          replace HO_10 := zMk (zRd HO_10.out)
                          replace BK190 := zMk (zKd BK190.out)
                          replace HB := zMk (zBd HB.out)
                          refine start_ (n := 30) (S := fun w' => True) (ds := []) #[false, false, false, false, false, false, false, false, false, false, false, false, false, false, false, false, false, false, false, false, false, false, false, false, false, false, false, false, false, false] (by kernel_rfl) rfl rfl trivial (fun hHeld => ?_); refine with_tabW filigreeref12_Check.tab21 filigreeref12_Check.bits21 (fun HT_ HW_ => ?_)
                          generalize w60.drew = w61 at HO_10 BK190 HB hHeld ⊢
                          refine pure_ (i := 0) (N := some 104) (v := ?_) (a' := ?_) #[true, false, false, false, false, false, false, false, false, false, false, false, false, false, false, false, false, false, false, false, false, false, false, false, false, false, false, false, false, false] rfl rfl (any_of HT_.out (by kernel_rfl)) (fun _ _ _ h => h) (Or.inl ⟨by rfl, ?_⟩) ?_ ?_
                          rotate_left
                          · intro w'
                            go_simp
                            with_reducible rfl
                          rotate_left
                          · simp only [Act.put, zSa, zSb, zSc, i64_w, i32_w]
                            rfl
                          refine pure_ (i := 1) (N := some 105) (v := ?_) (a' := ?_) #[true, true, false, false, false, false, false, false, false, false, false, false, false, false, false, false, false, false, false, false, false, false, false, false, false, false, false, false, false, false] rfl rfl (any_of HT_.out (by kernel_rfl)) (fun _ _ _ h => h) (Or.inl ⟨by rfl, ?_⟩) ?_ ?_
                          rotate_left
                          · intro w'
                            go_simp
                            with_reducible rfl
                          rotate_left
                          · simp only [Act.put, zSa, zSb, zSc, i64_w, i32_w]
                            rfl
                          refine pure_ (i := 2) (N := some 106) (v := ?_) (a' := ?_) #[true, true, true, false, false, false, false, false, false, false, false, false, false, false, false, false, false, false, false, false, false, false, false, false, false, false, false, false, false, false] rfl rfl (any_of HT_.out (by kernel_rfl)) (fun _ _ _ h => h) (Or.inl ⟨by rfl, ?_⟩) ?_ ?_
                          rotate_left
                          · intro w'
                            go_simp
                            with_reducible rfl
                          rotate_left
                          · simp only [Act.put, zSa, zSb, zSc, i64_w, i32_w]
                            rfl
                          refine pure_ (i := 3) (N := some 107) (v := undef) (a' := ?_) #[true, true, true, true, false, false, false, false, false, false, false, false, false, false, false, false, false, false, false, false, false, false, false, false, false, false, false, false, false, false] rfl rfl (any_of HT_.out (by kernel_rfl)) (fun _ _ _ h => h) (Or.inr ⟨by rfl, rfl⟩) ?_ ?_
                          rotate_left
                          · simp only [Act.put, zSa, zSb, zSc, i64_w, i32_w]
                            rfl
                          refine pure_ (i := 4) (N := some 108) (v := undef) (a' := ?_) #[true, true, true, true, true, false, false, false, false, false, false, false, false, false, false, false, false, false, false, false, false, false, false, false, false, false, false, false, false, false] rfl rfl (any_of HT_.out (by kernel_rfl)) (fun _ _ _ h => h) (Or.inr ⟨by rfl, rfl⟩) ?_ ?_
                          rotate_left
                          · simp only [Act.put, zSa, zSb, zSc, i64_w, i32_w]
                            rfl
                          refine pure_ (i := 5) (N := some 109) (v := undef) (a' := ?_) #[true, true, true, true, true, true, false, false, false, false, false, false, false, false, false, false, false, false, false, false, false, false, false, false, false, false, false, false, false, false] rfl rfl (any_of HT_.out (by kernel_rfl)) (fun _ _ _ h => h) (Or.inr ⟨by rfl, rfl⟩) ?_ ?_
                          rotate_left
                          · simp only [Act.put, zSa, zSb, zSc, i64_w, i32_w]
                            rfl
                          refine pure_ (i := 6) (N := some 110) (v := undef) (a' := ?_) #[true, true, true, true, true, true, true, false, false, false, false, false, false, false, false, false, false, false, false, false, false, false, false, false, false, false, false, false, false, false] rfl rfl (any_of HT_.out (by kernel_rfl)) (fun _ _ _ h => h) (Or.inr ⟨by rfl, rfl⟩) ?_ ?_
                          rotate_left
                          · simp only [Act.put, zSa, zSb, zSc, i64_w, i32_w]
                            rfl
                          refine pure_ (i := 7) (N := some 111) (v := undef) (a' := ?_) #[true, true, true, true, true, true, true, true, false, false, false, false, false, false, false, false, false, false, false, false, false, false, false, false, false, false, false, false, false, false] rfl rfl (any_of HT_.out (by kernel_rfl)) (fun _ _ _ h => h) (Or.inr ⟨by rfl, rfl⟩) ?_ ?_
                          rotate_left
                          · simp only [Act.put, zSa, zSb, zSc, i64_w, i32_w]
                            rfl
                          refine pure_ (i := 8) (N := some 112) (v := ?_) (a' := ?_) #[true, true, true, true, true, true, true, true, true, false, false, false, false, false, false, false, false, false, false, false, false, false, false, false, false, false, false, false, false, false] rfl rfl (any_of HT_.out (by kernel_rfl)) (fun _ _ _ h => h) (Or.inl ⟨by rfl, ?_⟩) ?_ ?_
                          rotate_left
                          · intro w'
                            go_simp
                            with_reducible rfl
                          rotate_left
                          · simp only [Act.put, zSa, zSb, zSc, i64_w, i32_w]
                            rfl
                          refine pure_ (i := 9) (N := some 113) (v := ?_) (a' := ?_) #[true, true, true, true, true, true, true, true, true, true, false, false, false, false, false, false, false, false, false, false, false, false, false, false, false, false, false, false, false, false] rfl rfl (any_of HT_.out (by kernel_rfl)) (fun _ _ _ h => h) (Or.inl ⟨by rfl, ?_⟩) ?_ ?_
                          rotate_left
                          · intro w'
                            go_simp
                            with_reducible rfl
                          rotate_left
                          · simp only [Act.put, zSa, zSb, zSc, i64_w, i32_w]
                            rfl
                          refine pure_ (i := 10) (N := some 114) (v := undef) (a' := ?_) #[true, true, true, true, true, true, true, true, true, true, true, false, false, false, false, false, false, false, false, false, false, false, false, false, false, false, false, false, false, false] rfl rfl (any_of HT_.out (by kernel_rfl)) (fun _ _ _ h => h) (Or.inr ⟨by rfl, rfl⟩) ?_ ?_
                          rotate_left
                          · simp only [Act.put, zSa, zSb, zSc, i64_w, i32_w]
                            rfl
                          refine pure_ (i := 11) (N := some 115) (v := undef) (a' := ?_) #[true, true, true, true, true, true, true, true, true, true, true, true, false, false, false, false, false, false, false, false, false, false, false, false, false, false, false, false, false, false] rfl rfl (any_of HT_.out (by kernel_rfl)) (fun _ _ _ h => h) (Or.inr ⟨by rfl, rfl⟩) ?_ ?_
                          rotate_left
                          · simp only [Act.put, zSa, zSb, zSc, i64_w, i32_w]
                            rfl
                          refine pure_ (i := 12) (N := some 116) (v := undef) (a' := ?_) #[true, true, true, true, true, true, true, true, true, true, true, true, true, false, false, false, false, false, false, false, false, false, false, false, false, false, false, false, false, false] rfl rfl (any_of HT_.out (by kernel_rfl)) (fun _ _ _ h => h) (Or.inr ⟨by rfl, rfl⟩) ?_ ?_
                          rotate_left
                          · simp only [Act.put, zSa, zSb, zSc, i64_w, i32_w]
                            rfl
                          refine pure_ (i := 13) (N := some 117) (v := undef) (a' := ?_) #[true, true, true, true, true, true, true, true, true, true, true, true, true, true, false, false, false, false, false, false, false, false, false, false, false, false, false, false, false, false] rfl rfl (any_of HT_.out (by kernel_rfl)) (fun _ _ _ h => h) (Or.inr ⟨by rfl, rfl⟩) ?_ ?_
                          rotate_left
                          · simp only [Act.put, zSa, zSb, zSc, i64_w, i32_w]
                            rfl
                          refine pure_ (i := 14) (N := some 118) (v := undef) (a' := ?_) #[true, true, true, true, true, true, true, true, true, true, true, true, true, true, true, false, false, false, false, false, false, false, false, false, false, false, false, false, false, false] rfl rfl (any_of HT_.out (by kernel_rfl)) (fun _ _ _ h => h) (Or.inr ⟨by rfl, rfl⟩) ?_ ?_
                          rotate_left
                          · simp only [Act.put, zSa, zSb, zSc, i64_w, i32_w]
                            rfl
                          refine pure_ (i := 15) (N := some 119) (v := undef) (a' := ?_) #[true, true, true, true, true, true, true, true, true, true, true, true, true, true, true, true, false, false, false, false, false, false, false, false, false, false, false, false, false, false] rfl rfl (any_of HT_.out (by kernel_rfl)) (fun _ _ _ h => h) (Or.inr ⟨by rfl, rfl⟩) ?_ ?_
                          rotate_left
                          · simp only [Act.put, zSa, zSb, zSc, i64_w, i32_w]
                            rfl
                          refine pure_ (i := 16) (N := some 120) (v := undef) (a' := ?_) #[true, true, true, true, true, true, true, true, true, true, true, true, true, true, true, true, true, false, false, false, false, false, false, false, false, false, false, false, false, false] rfl rfl (any_of HT_.out (by kernel_rfl)) (fun _ _ _ h => h) (Or.inr ⟨by rfl, rfl⟩) ?_ ?_
                          rotate_left
                          · simp only [Act.put, zSa, zSb, zSc, i64_w, i32_w]
                            rfl
                          refine pure_ (i := 17) (N := some 121) (v := undef) (a' := ?_) #[true, true, true, true, true, true, true, true, true, true, true, true, true, true, true, true, true, true, false, false, false, false, false, false, false, false, false, false, false, false] rfl rfl (any_of HT_.out (by kernel_rfl)) (fun _ _ _ h => h) (Or.inr ⟨by rfl, rfl⟩) ?_ ?_
                          rotate_left
                          · simp only [Act.put, zSa, zSb, zSc, i64_w, i32_w]
                            rfl
                          refine pure_ (i := 18) (N := some 122) (v := undef) (a' := ?_) #[true, true, true, true, true, true, true, true, true, true, true, true, true, true, true, true, true, true, true, false, false, false, false, false, false, false, false, false, false, false] rfl rfl (any_of HT_.out (by kernel_rfl)) (fun _ _ _ h => h) (Or.inr ⟨by rfl, rfl⟩) ?_ ?_
                          rotate_left
                          · simp only [Act.put, zSa, zSb, zSc, i64_w, i32_w]
                            rfl
                          refine pure_ (i := 19) (N := some 123) (v := undef) (a' := ?_) #[true, true, true, true, true, true, true, true, true, true, true, true, true, true, true, true, true, true, true, true, false, false, false, false, false, false, false, false, false, false] rfl rfl (any_of HT_.out (by kernel_rfl)) (fun _ _ _ h => h) (Or.inr ⟨by rfl, rfl⟩) ?_ ?_
                          rotate_left
                          · simp only [Act.put, zSa, zSb, zSc, i64_w, i32_w]
                            rfl
                          refine pure_ (i := 20) (N := some 124) (v := undef) (a' := ?_) #[true, true, true, true, true, true, true, true, true, true, true, true, true, true, true, true, true, true, true, true, true, false, false, false, false, false, false, false, false, false] rfl rfl (any_of HT_.out (by kernel_rfl)) (fun _ _ _ h => h) (Or.inr ⟨by rfl, rfl⟩) ?_ ?_
                          rotate_left
                          · simp only [Act.put, zSa, zSb, zSc, i64_w, i32_w]
                            rfl
                          refine pure_ (i := 21) (N := some 125) (v := undef) (a' := ?_) #[true, true, true, true, true, true, true, true, true, true, true, true, true, true, true, true, true, true, true, true, true, true, false, false, false, false, false, false, false, false] rfl rfl (any_of HT_.out (by kernel_rfl)) (fun _ _ _ h => h) (Or.inr ⟨by rfl, rfl⟩) ?_ ?_
                          rotate_left
                          · simp only [Act.put, zSa, zSb, zSc, i64_w, i32_w]
                            rfl
                          refine pure_ (i := 22) (N := some 126) (v := undef) (a' := ?_) #[true, true, true, true, true, true, true, true, true, true, true, true, true, true, true, true, true, true, true, true, true, true, true, false, false, false, false, false, false, false] rfl rfl (any_of HT_.out (by kernel_rfl)) (fun _ _ _ h => h) (Or.inr ⟨by rfl, rfl⟩) ?_ ?_
                          rotate_left
                          · simp only [Act.put, zSa, zSb, zSc, i64_w, i32_w]
                            rfl
                          refine pure_ (i := 23) (N := some 127) (v := undef) (a' := ?_) #[true, true, true, true, true, true, true, true, true, true, true, true, true, true, true, true, true, true, true, true, true, true, true, true, false, false, false, false, false, false] rfl rfl (any_of HT_.out (by kernel_rfl)) (fun _ _ _ h => h) (Or.inr ⟨by rfl, rfl⟩) ?_ ?_
                          rotate_left
                          · simp only [Act.put, zSa, zSb, zSc, i64_w, i32_w]
                            rfl
                          refine pure_ (i := 24) (N := some 128) (v := undef) (a' := ?_) #[true, true, true, true, true, true, true, true, true, true, true, true, true, true, true, true, true, true, true, true, true, true, true, true, true, false, false, false, false, false] rfl rfl (any_of HT_.out (by kernel_rfl)) (fun _ _ _ h => h) (Or.inr ⟨by rfl, rfl⟩) ?_ ?_
                          rotate_left
                          · simp only [Act.put, zSa, zSb, zSc, i64_w, i32_w]
                            rfl
                          refine pure_ (i := 25) (N := some 129) (v := undef) (a' := ?_) #[true, true, true, true, true, true, true, true, true, true, true, true, true, true, true, true, true, true, true, true, true, true, true, true, true, true, false, false, false, false] rfl rfl (any_of HT_.out (by kernel_rfl)) (fun _ _ _ h => h) (Or.inr ⟨by rfl, rfl⟩) ?_ ?_
                          rotate_left
                          · simp only [Act.put, zSa, zSb, zSc, i64_w, i32_w]
                            rfl
                          refine pure_ (i := 26) (N := some 130) (v := undef) (a' := ?_) #[true, true, true, true, true, true, true, true, true, true, true, true, true, true, true, true, true, true, true, true, true, true, true, true, true, true, true, false, false, false] rfl rfl (any_of HT_.out (by kernel_rfl)) (fun _ _ _ h => h) (Or.inr ⟨by rfl, rfl⟩) ?_ ?_
                          rotate_left
                          · simp only [Act.put, zSa, zSb, zSc, i64_w, i32_w]
                            rfl
                          refine pure_ (i := 27) (N := some 131) (v := undef) (a' := ?_) #[true, true, true, true, true, true, true, true, true, true, true, true, true, true, true, true, true, true, true, true, true, true, true, true, true, true, true, true, false, false] rfl rfl (any_of HT_.out (by kernel_rfl)) (fun _ _ _ h => h) (Or.inr ⟨by rfl, rfl⟩) ?_ ?_
                          rotate_left
                          · simp only [Act.put, zSa, zSb, zSc, i64_w, i32_w]
                            rfl
                          refine pure_ (i := 28) (N := some 132) (v := undef) (a' := ?_) #[true, true, true, true, true, true, true, true, true, true, true, true, true, true, true, true, true, true, true, true, true, true, true, true, true, true, true, true, true, false] rfl rfl (any_of HT_.out (by kernel_rfl)) (fun _ _ _ h => h) (Or.inr ⟨by rfl, rfl⟩) ?_ ?_
                          rotate_left
                          · simp only [Act.put, zSa, zSb, zSc, i64_w, i32_w]
                            rfl
                          refine pure_ (i := 29) (N := some 133) (v := ?_) (a' := ?_) #[true, true, true, true, true, true, true, true, true, true, true, true, true, true, true, true, true, true, true, true, true, true, true, true, true, true, true, true, true, true] rfl rfl (any_of HT_.out (by kernel_rfl)) (fun _ _ _ h => h) (Or.inl ⟨by rfl, ?_⟩) ?_ ?_
                          rotate_left
                          · intro w'
                            go_simp
                            with_reducible rfl
                          rotate_left
                          · simp only [Act.put, zSa, zSb, zSc, i64_w, i32_w]
                            rfl
                          refine done_ (done_of HT_.out (by kernel_rfl)) ?_
                          try go_wp2
                          go_ret
                          exact ⟨by first | rfl | (simp [errW_none, errW_some] <;> rfl) | (simp [*, errW_none, errW_some] <;> rfl), by exact uT HB.out⟩
                        · rw [if_neg c58] at H
                          have c58b0 : decide (t204 < 0) = false := decide_eq_false c58
                          clear c58
                          by_cases c62 : 0 ≤ t204
                          rotate_left
                          · rw [if_neg c62] at H; exact absurd H (by simp)
                          rw [if_pos c62] at H
                          have c62b0 : decide (0 ≤ t204) = true := decide_eq_true c62
                          clear c62
                          by_cases c63 : t204 < (t193.length : Int)
                          rotate_left
                          · rw [if_neg c63] at H; exact absurd H (by simp)
                          rw [if_pos c63] at H
                          have c63b0 : decide (t204 < (t193.length : Int)) = true := decide_eq_true c63
                          clear c63
                          by_cases c64 : (rd t193 t204) < 0
                          · rw [if_pos c64] at H
                            have c64b0 : decide ((rd t193 t204) < 0) = true := decide_eq_true c64
                            clear c64
                            obtain rfl := zOi H
                            try go_wp2
                            replace HO_10 := zMk (zRd HO_10.out)
                            replace BK190 := zMk (zKd BK190.out)
                            replace HB := zMk (zBd HB.out)
                            have p202 : 0 ≤ (x11_3 : Int) := of_decide_eq_true (by assumption)
                            have q202 : x11_3 < (l3.length : Int) := of_decide_eq_true (by assumption)
                            obtain ⟨ad202, e202, hx202_0⟩ := zAi HR3.out x11_3 p202 q202
                            have hw202_0 := hx202_0
                            cases e202
                            replace hx202_0 := (HB.out.cell (World.block_lt_of_cell? w _ hx202_0)).trans hx202_0
                            replace p202 := eq_true p202
                            replace q202 := eq_true q202
                            have p203 : 0 ≤ ((rd l3 x11_3) : Int) := of_decide_eq_true (by assumption)
                            have q203 : (rd l3 x11_3) < (l0_1.length : Int) := of_decide_eq_true (by assumption)
                            obtain ⟨ad203, e203, hx203_0, hx203_1, hx203_2⟩ := at_T39 HR0_1.out (rd l3 x11_3) p203 q203
                            have hw203_2 := hx203_2
                            have hw203_1 := hx203_1
                            have hw203_0 := hx203_0
                            cases e203
                            replace hx203_0 := (HB.out.cell (World.block_lt_of_cell? w _ hx203_0)).trans hx203_0
                            replace hx203_1 := (HB.out.cell (World.block_lt_of_cell? w _ hx203_1)).trans hx203_1
                            replace hx203_2 := (HB.out.cell (World.block_lt_of_cell? w _ hx203_2)).trans hx203_2
                            replace p203 := eq_true p203
                            replace q203 := eq_true q203
                            refine start_ (n := 11) (S := fun w' => w'.cell? ⟨gb190, 0, none⟩ = some (.int .i64 a0_0) ∧ w'.cell? ⟨gb190, 1, none⟩ = some (.slice (some ad203) l0_1.length c0_1) ∧ w'.cell? (ad202.add (x11_3).toNat) = some (.int .i64 (rd l3 x11_3)) ∧ w'.cell? (ad203.add (((rd l3 x11_3)).toNat * 3)) = some (.int .i64 ((rd_T39 l0_1 (rd l3 x11_3)).f0)) ∧ w'.cell? ⟨(ad203.add (((rd l3 x11_3)).toNat * 3)).block, (ad203.add (((rd l3 x11_3)).toNat * 3)).off + 1, none⟩ = some (.int .i64 ((rd_T39 l0_1 (rd l3 x11_3)).f1)) ∧ w'.cell? ⟨(ad203.add (((rd l3 x11_3)).toNat * 3)).block, (ad203.add (((rd l3 x11_3)).toNat * 3)).off + 2, none⟩ = some (.int .i64 ((rd_T39 l0_1 (rd l3 x11_3)).f2))) (ds := []) #[false, false, false, false, false, false, false, false, false, false, false] (by kernel_rfl) rfl rfl ⟨(zKc BK190.out 0).trans rfl, (zKc BK190.out 1).trans rfl, ((HB.out.cell (World.block_lt_of_cell? w _ hw202_0)).trans hw202_0), ((HB.out.cell (World.block_lt_of_cell? w _ hw203_0)).trans hw203_0), ((HB.out.cell (World.block_lt_of_cell? w _ hw203_1)).trans hw203_1), ((HB.out.cell (World.block_lt_of_cell? w _ hw203_2)).trans hw203_2)⟩ (fun hHeld => ?_); refine with_tabW filigreeref12_Check.tab20 filigreeref12_Check.bits20 (fun HT_ HW_ => ?_)
                            generalize wc.drew = w65 at HO_10 BK190 HB hx202_0 hx203_0 hx203_1 hx203_2 hHeld ⊢
                            refine pure_ (i := 0) (N := some 94) (v := ?_) (a' := ?_) #[true, false, false, false, false, false, false, false, false, false, false] rfl rfl (any_of HT_.out (by kernel_rfl)) (fun _ _ _ h => h) (Or.inl ⟨by rfl, ?_⟩) ?_ ?_
                            rotate_left
                            · intro w'
                              go_simp
                              with_reducible rfl
                            rotate_left
                            · simp only [Act.put, zSa, zSb, zSc, i64_w, i32_w]
                              rfl
                            refine pure_ (i := 2) (N := some 96) (v := ?_) (a' := ?_) #[true, false, true, false, false, false, false, false, false, false, false] rfl rfl (any_of HT_.out (by kernel_rfl)) (fun _ _ _ h => h) (Or.inl ⟨by rfl, ?_⟩) ?_ ?_
                            rotate_left
                            · intro w'
                              go_simp
                              with_reducible rfl
                            rotate_left
                            · simp only [Act.put, zSa, zSb, zSc, i64_w, i32_w]
                              rfl
                            refine pure_ (i := 3) (N := some 97) (v := ?_) (a' := ?_) #[true, false, true, true, false, false, false, false, false, false, false] rfl rfl (any_of HT_.out (by kernel_rfl)) (fun _ _ _ h => h) (Or.inl ⟨by rfl, ?_⟩) ?_ ?_
                            rotate_left
                            · intro w'
                              go_simp
                              with_reducible rfl
                            rotate_left
                            · simp only [Act.put, zSa, zSb, zSc, i64_w, i32_w]
                              rfl
                            refine pure_ (i := 4) (N := some 98) (v := ?_) (a' := ?_) #[true, false, true, true, true, false, false, false, false, false, false] rfl rfl (any_of HT_.out (by kernel_rfl)) (fun _ _ _ h => h) (Or.inl ⟨by rfl, ?_⟩) ?_ ?_
                            rotate_left
                            · intro w'
                              go_simp
                              with_reducible rfl
                            rotate_left
                            · simp only [Act.put, zSa, zSb, zSc, i64_w, i32_w]
                              rfl
                            refine pure_ (i := 8) (N := some 102) (v := ?_) (a' := ?_) #[true, false, true, true, true, false, false, false, true, false, false] rfl rfl (any_of HT_.out (by kernel_rfl)) (fun _ _ _ h => h) (Or.inl ⟨by rfl, ?_⟩) ?_ ?_
                            rotate_left
                            · intro w'
                              go_simp
                              with_reducible rfl
                            rotate_left
                            · simp only [Act.put, zSa, zSb, zSc, i64_w, i32_w]
                              rfl
                            refine take_ (i := 1) (N := some 95) (v := ?_) (a' := ?_) #[true, true, true, true, true, false, false, false, true, false, false] rfl rfl (take_ofW HT_.out HW_.out (by kernel_rfl)) (fun _ _ _ h => h) (Or.inl ⟨by rfl, ?_⟩) hHeld ?_ ?_
                            rotate_left
                            · rintro w' ⟨s0, s1, s2, s3, s4, s5⟩
                              go_simp
                              with_reducible rfl
                            rotate_left
                            · simp only [Act.put, zSa, zSb, zSc, i64_w, i32_w]
                              rfl
                            refine take_ (i := 5) (N := some 99) (v := ?_) (a' := ?_) #[true, true, true, true, true, true, false, false, true, false, false] rfl rfl (take_ofW HT_.out HW_.out (by kernel_rfl)) (fun _ _ _ h => h) (Or.inl ⟨by rfl, ?_⟩) hHeld ?_ ?_
                            rotate_left
                            · rintro w' ⟨s0, s1, s2, s3, s4, s5⟩
                              go_simp
                              with_reducible rfl
                            rotate_left
                            · simp only [Act.put, zSa, zSb, zSc, i64_w, i32_w]
                              rfl
                            refine pure_ (i := 6) (N := some 100) (v := ?_) (a' := ?_) #[true, true, true, true, true, true, true, false, true, false, false] rfl rfl (any_of HT_.out (by kernel_rfl)) (fun _ _ _ h => h) (Or.inl ⟨by rfl, ?_⟩) ?_ ?_
                            rotate_left
                            · intro w'
                              go_simp
                              with_reducible rfl
                            rotate_left
                            · simp only [Act.put, zSa, zSb, zSc, i64_w, i32_w]
                              rfl
                            refine take_ (i := 7) (N := some 101) (v := ?_) (a' := ?_) #[true, true, true, true, true, true, true, true, true, false, false] rfl rfl (take_ofW HT_.out HW_.out (by kernel_rfl)) (fun _ _ _ h => h) (Or.inl ⟨by rfl, ?_⟩) hHeld ?_ ?_
                            rotate_left
                            · rintro w' ⟨s0, s1, s2, s3, s4, s5⟩
                              go_simp
                              with_reducible rfl
                            rotate_left
                            · simp only [Act.put, zSa, zSb, zSc, i64_w, i32_w]
                              rfl
                            refine one_ (i := 9) (N := some 103) #[true, true, true, true, true, true, true, true, true, true, false] rfl rfl (one_of HT_.out (by kernel_rfl)) (by decide) (fun K hK => ?_)
                            refine goes_ Try.func23 (by kernel_rfl) rfl #[.agg #[.int .i64 ((rd_T39 l0_1 (rd l3 x11_3)).f0), .int .i64 ((rd_T39 l0_1 (rd l3 x11_3)).f1), .int .i64 ((rd_T39 l0_1 (rd l3 x11_3)).f2)], .int .i64 x11_3] (by rfl) rfl rfl (by (try simp only [zMa, zMc, zMn]); first | done | rfl | (simp only [zLd, zLt]; rfl)) ?_
                            with_reducible refine (filigreeref12_other.calls ((rd_T39 l0_1 (rd l3 x11_3)).f0) ((rd_T39 l0_1 (rd l3 x11_3)).f1) ((rd_T39 l0_1 (rd l3 x11_3)).f2) x11_3 t204 _ A57.out).mono ?_
                            rintro e w66 ⟨rfl, hb⟩
                            refine ⟨_, rfl, ?_⟩
                            replace HO_10 := zMk (zRb (by exact uR HO_10.out) hb)
                            replace BK190 := zMk (zKb (g := gb190) (o := .cells #[.int .i64 a0_0, .slice (some ad203) l0_1.length c0_1] 24 (0, 0)) (by (with_reducible repeat (first | refine zKn ?_ _ | refine zKd ?_ | refine zKa ?_ _)); exact BK190.out) hb)
                            replace HB := zMk (zBt (by exact uT HB.out) hb)
                            refine hK.out _ _ ⟨(zKc BK190.out 0).trans rfl, (zKc BK190.out 1).trans rfl, ((HB.out.cell (World.block_lt_of_cell? w _ hw202_0)).trans hw202_0), ((HB.out.cell (World.block_lt_of_cell? w _ hw203_0)).trans hw203_0), ((HB.out.cell (World.block_lt_of_cell? w _ hw203_1)).trans hw203_1), ((HB.out.cell (World.block_lt_of_cell? w _ hw203_2)).trans hw203_2)⟩ (fun hHeld => ?_)
                            clear hK K
                            refine norm_ (a' := ?_) ?_ ?_
                            rotate_left
                            · show Act.put _ (some 103) _ = _
                              simp only [Act.put, zSa, zSb, zSc, i64_w, i32_w]
                              rfl
                            refine pure_ (i := 10) (N := some 12) (v := ?_) (a' := ?_) #[true, true, true, true, true, true, true, true, true, true, true] rfl rfl (any_of HT_.out (by kernel_rfl)) (fun _ _ _ h => h) (Or.inl ⟨by rfl, ?_⟩) ?_ ?_
                            rotate_left
                            · intro w'
                              go_simp
                              with_reducible rfl
                            rotate_left
                            · simp only [Act.put, zSa, zSb, zSc, i64_w, i32_w]
                              rfl
                            refine done_ (done_of HT_.out (by kernel_rfl)) ?_
                            try go_wp2
                            replace HO_10 := zMk (zRd HO_10.out)
                            replace BK190 := zMk (zKd BK190.out)
                            replace HB := zMk (zBd HB.out)
                            have p205 : 0 ≤ (t204 : Int) := of_decide_eq_true (by assumption)
                            have q205 : t204 < (t193.length : Int) := of_decide_eq_true (by assumption)
                            obtain ⟨ad205, e205, hx205_0⟩ := zAi (zRr HO_10.out).2.2 t204 p205 q205
                            obtain rfl : ad197 = ad205 := (by injection e205)
                            replace p205 := eq_true p205
                            replace q205 := eq_true q205
                            refine start_ (n := 30) (S := fun w' => w'.cell? (ad197.add (t204).toNat) = some (.int .i64 (rd t193 t204))) (ds := []) #[false, false, false, false, false, false, false, false, false, false, false, false, false, false, false, false, false, false, false, false, false, false, false, false, false, false, false, false, false, false] (by kernel_rfl) rfl rfl (hx205_0) (fun hHeld => ?_); refine with_tabW filigreeref12_Check.tab21 filigreeref12_Check.bits21 (fun HT_ HW_ => ?_)
                            generalize w66.drew = w67 at HO_10 BK190 HB hx205_0 hHeld ⊢
                            refine pure_ (i := 0) (N := some 104) (v := ?_) (a' := ?_) #[true, false, false, false, false, false, false, false, false, false, false, false, false, false, false, false, false, false, false, false, false, false, false, false, false, false, false, false, false, false] rfl rfl (any_of HT_.out (by kernel_rfl)) (fun _ _ _ h => h) (Or.inl ⟨by rfl, ?_⟩) ?_ ?_
                            rotate_left
                            · intro w'
                              go_simp
                              with_reducible rfl
                            rotate_left
                            · simp only [Act.put, zSa, zSb, zSc, i64_w, i32_w]
                              rfl
                            refine pure_ (i := 1) (N := some 105) (v := ?_) (a' := ?_) #[true, true, false, false, false, false, false, false, false, false, false, false, false, false, false, false, false, false, false, false, false, false, false, false, false, false, false, false, false, false] rfl rfl (any_of HT_.out (by kernel_rfl)) (fun _ _ _ h => h) (Or.inl ⟨by rfl, ?_⟩) ?_ ?_
                            rotate_left
                            · intro w'
                              go_simp
                              with_reducible rfl
                            rotate_left
                            · simp only [Act.put, zSa, zSb, zSc, i64_w, i32_w]
                              rfl
                            refine pure_ (i := 2) (N := some 106) (v := ?_) (a' := ?_) #[true, true, true, false, false, false, false, false, false, false, false, false, false, false, false, false, false, false, false, false, false, false, false, false, false, false, false, false, false, false] rfl rfl (any_of HT_.out (by kernel_rfl)) (fun _ _ _ h => h) (Or.inl ⟨by rfl, ?_⟩) ?_ ?_
                            rotate_left
                            · intro w'
                              go_simp
                              with_reducible rfl
                            rotate_left
                            · simp only [Act.put, zSa, zSb, zSc, i64_w, i32_w]
                              rfl
                            refine pure_ (i := 3) (N := some 107) (v := ?_) (a' := ?_) #[true, true, true, true, false, false, false, false, false, false, false, false, false, false, false, false, false, false, false, false, false, false, false, false, false, false, false, false, false, false] rfl rfl (any_of HT_.out (by kernel_rfl)) (fun _ _ _ h => h) (Or.inl ⟨by rfl, ?_⟩) ?_ ?_
                            rotate_left
                            · intro w'
                              go_simp
                              with_reducible rfl
                            rotate_left
                            · simp only [Act.put, zSa, zSb, zSc, i64_w, i32_w]
                              rfl
                            refine pure_ (i := 4) (N := some 108) (v := ?_) (a' := ?_) #[true, true, true, true, true, false, false, false, false, false, false, false, false, false, false, false, false, false, false, false, false, false, false, false, false, false, false, false, false, false] rfl rfl (any_of HT_.out (by kernel_rfl)) (fun _ _ _ h => h) (Or.inl ⟨by rfl, ?_⟩) ?_ ?_
                            rotate_left
                            · intro w'
                              go_simp
                              with_reducible rfl
                            rotate_left
                            · simp only [Act.put, zSa, zSb, zSc, i64_w, i32_w]
                              rfl
                            refine pure_ (i := 5) (N := some 109) (v := ?_) (a' := ?_) #[true, true, true, true, true, true, false, false, false, false, false, false, false, false, false, false, false, false, false, false, false, false, false, false, false, false, false, false, false, false] rfl rfl (any_of HT_.out (by kernel_rfl)) (fun _ _ _ h => h) (Or.inl ⟨by rfl, ?_⟩) ?_ ?_
                            rotate_left
                            · intro w'
                              go_simp
                              with_reducible rfl
                            rotate_left
                            · simp only [Act.put, zSa, zSb, zSc, i64_w, i32_w]
                              rfl
                            refine take_ (i := 6) (N := some 110) (v := ?_) (a' := ?_) #[true, true, true, true, true, true, true, false, false, false, false, false, false, false, false, false, false, false, false, false, false, false, false, false, false, false, false, false, false, false] rfl rfl (take_ofW HT_.out HW_.out (by kernel_rfl)) (fun _ _ _ h => h) (Or.inl ⟨by rfl, ?_⟩) hHeld ?_ ?_
                            rotate_left
                            · intro w' s0
                              go_simp
                              with_reducible rfl
                            rotate_left
                            · simp only [Act.put, zSa, zSb, zSc, i64_w, i32_w]
                              rfl
                            refine pure_ (i := 7) (N := some 111) (v := ?_) (a' := ?_) #[true, true, true, true, true, true, true, true, false, false, false, false, false, false, false, false, false, false, false, false, false, false, false, false, false, false, false, false, false, false] rfl rfl (any_of HT_.out (by kernel_rfl)) (fun _ _ _ h => h) (Or.inl ⟨by rfl, ?_⟩) ?_ ?_
                            rotate_left
                            · intro w'
                              go_simp
                              with_reducible rfl
                            rotate_left
                            · simp only [Act.put, zSa, zSb, zSc, i64_w, i32_w]
                              rfl
                            refine pure_ (i := 8) (N := some 112) (v := ?_) (a' := ?_) #[true, true, true, true, true, true, true, true, true, false, false, false, false, false, false, false, false, false, false, false, false, false, false, false, false, false, false, false, false, false] rfl rfl (any_of HT_.out (by kernel_rfl)) (fun _ _ _ h => h) (Or.inl ⟨by rfl, ?_⟩) ?_ ?_
                            rotate_left
                            · intro w'
                              go_simp
                              with_reducible rfl
                            rotate_left
                            · simp only [Act.put, zSa, zSb, zSc, i64_w, i32_w]
                              rfl
                            refine pure_ (i := 9) (N := some 113) (v := ?_) (a' := ?_) #[true, true, true, true, true, true, true, true, true, true, false, false, false, false, false, false, false, false, false, false, false, false, false, false, false, false, false, false, false, false] rfl rfl (any_of HT_.out (by kernel_rfl)) (fun _ _ _ h => h) (Or.inl ⟨by rfl, ?_⟩) ?_ ?_
                            rotate_left
                            · intro w'
                              go_simp
                              with_reducible rfl
                            rotate_left
                            · simp only [Act.put, zSa, zSb, zSc, i64_w, i32_w]
                              rfl
                            refine pure_ (i := 10) (N := some 114) (v := undef) (a' := ?_) #[true, true, true, true, true, true, true, true, true, true, true, false, false, false, false, false, false, false, false, false, false, false, false, false, false, false, false, false, false, false] rfl rfl (any_of HT_.out (by kernel_rfl)) (fun _ _ _ h => h) (Or.inr ⟨by rfl, rfl⟩) ?_ ?_
                            rotate_left
                            · simp only [Act.put, zSa, zSb, zSc, i64_w, i32_w]
                              rfl
                            refine pure_ (i := 11) (N := some 115) (v := undef) (a' := ?_) #[true, true, true, true, true, true, true, true, true, true, true, true, false, false, false, false, false, false, false, false, false, false, false, false, false, false, false, false, false, false] rfl rfl (any_of HT_.out (by kernel_rfl)) (fun _ _ _ h => h) (Or.inr ⟨by rfl, rfl⟩) ?_ ?_
                            rotate_left
                            · simp only [Act.put, zSa, zSb, zSc, i64_w, i32_w]
                              rfl
                            refine pure_ (i := 12) (N := some 116) (v := undef) (a' := ?_) #[true, true, true, true, true, true, true, true, true, true, true, true, true, false, false, false, false, false, false, false, false, false, false, false, false, false, false, false, false, false] rfl rfl (any_of HT_.out (by kernel_rfl)) (fun _ _ _ h => h) (Or.inr ⟨by rfl, rfl⟩) ?_ ?_
                            rotate_left
                            · simp only [Act.put, zSa, zSb, zSc, i64_w, i32_w]
                              rfl
                            refine pure_ (i := 13) (N := some 117) (v := undef) (a' := ?_) #[true, true, true, true, true, true, true, true, true, true, true, true, true, true, false, false, false, false, false, false, false, false, false, false, false, false, false, false, false, false] rfl rfl (any_of HT_.out (by kernel_rfl)) (fun _ _ _ h => h) (Or.inr ⟨by rfl, rfl⟩) ?_ ?_
                            rotate_left
                            · simp only [Act.put, zSa, zSb, zSc, i64_w, i32_w]
                              rfl
                            refine pure_ (i := 14) (N := some 118) (v := undef) (a' := ?_) #[true, true, true, true, true, true, true, true, true, true, true, true, true, true, true, false, false, false, false, false, false, false, false, false, false, false, false, false, false, false] rfl rfl (any_of HT_.out (by kernel_rfl)) (fun _ _ _ h => h) (Or.inr ⟨by rfl, rfl⟩) ?_ ?_
                            rotate_left
                            · simp only [Act.put, zSa, zSb, zSc, i64_w, i32_w]
                              rfl
                            refine pure_ (i := 15) (N := some 119) (v := undef) (a' := ?_) #[true, true, true, true, true, true, true, true, true, true, true, true, true, true, true, true, false, false, false, false, false, false, false, false, false, false, false, false, false, false] rfl rfl (any_of HT_.out (by kernel_rfl)) (fun _ _ _ h => h) (Or.inr ⟨by rfl, rfl⟩) ?_ ?_
                            rotate_left
                            · simp only [Act.put, zSa, zSb, zSc, i64_w, i32_w]
                              rfl
                            refine pure_ (i := 16) (N := some 120) (v := undef) (a' := ?_) #[true, true, true, true, true, true, true, true, true, true, true, true, true, true, true, true, true, false, false, false, false, false, false, false, false, false, false, false, false, false] rfl rfl (any_of HT_.out (by kernel_rfl)) (fun _ _ _ h => h) (Or.inr ⟨by rfl, rfl⟩) ?_ ?_
                            rotate_left
                            · simp only [Act.put, zSa, zSb, zSc, i64_w, i32_w]
                              rfl
                            refine pure_ (i := 17) (N := some 121) (v := undef) (a' := ?_) #[true, true, true, true, true, true, true, true, true, true, true, true, true, true, true, true, true, true, false, false, false, false, false, false, false, false, false, false, false, false] rfl rfl (any_of HT_.out (by kernel_rfl)) (fun _ _ _ h => h) (Or.inr ⟨by rfl, rfl⟩) ?_ ?_
                            rotate_left
                            · simp only [Act.put, zSa, zSb, zSc, i64_w, i32_w]
                              rfl
                            refine pure_ (i := 18) (N := some 122) (v := undef) (a' := ?_) #[true, true, true, true, true, true, true, true, true, true, true, true, true, true, true, true, true, true, true, false, false, false, false, false, false, false, false, false, false, false] rfl rfl (any_of HT_.out (by kernel_rfl)) (fun _ _ _ h => h) (Or.inr ⟨by rfl, rfl⟩) ?_ ?_
                            rotate_left
                            · simp only [Act.put, zSa, zSb, zSc, i64_w, i32_w]
                              rfl
                            refine pure_ (i := 19) (N := some 123) (v := undef) (a' := ?_) #[true, true, true, true, true, true, true, true, true, true, true, true, true, true, true, true, true, true, true, true, false, false, false, false, false, false, false, false, false, false] rfl rfl (any_of HT_.out (by kernel_rfl)) (fun _ _ _ h => h) (Or.inr ⟨by rfl, rfl⟩) ?_ ?_
                            rotate_left
                            · simp only [Act.put, zSa, zSb, zSc, i64_w, i32_w]
                              rfl
                            refine pure_ (i := 20) (N := some 124) (v := undef) (a' := ?_) #[true, true, true, true, true, true, true, true, true, true, true, true, true, true, true, true, true, true, true, true, true, false, false, false, false, false, false, false, false, false] rfl rfl (any_of HT_.out (by kernel_rfl)) (fun _ _ _ h => h) (Or.inr ⟨by rfl, rfl⟩) ?_ ?_
                            rotate_left
                            · simp only [Act.put, zSa, zSb, zSc, i64_w, i32_w]
                              rfl
                            refine pure_ (i := 21) (N := some 125) (v := undef) (a' := ?_) #[true, true, true, true, true, true, true, true, true, true, true, true, true, true, true, true, true, true, true, true, true, true, false, false, false, false, false, false, false, false] rfl rfl (any_of HT_.out (by kernel_rfl)) (fun _ _ _ h => h) (Or.inr ⟨by rfl, rfl⟩) ?_ ?_
                            rotate_left
                            · simp only [Act.put, zSa, zSb, zSc, i64_w, i32_w]
                              rfl
                            refine pure_ (i := 22) (N := some 126) (v := undef) (a' := ?_) #[true, true, true, true, true, true, true, true, true, true, true, true, true, true, true, true, true, true, true, true, true, true, true, false, false, false, false, false, false, false] rfl rfl (any_of HT_.out (by kernel_rfl)) (fun _ _ _ h => h) (Or.inr ⟨by rfl, rfl⟩) ?_ ?_
                            rotate_left
                            · simp only [Act.put, zSa, zSb, zSc, i64_w, i32_w]
                              rfl
                            refine pure_ (i := 23) (N := some 127) (v := undef) (a' := ?_) #[true, true, true, true, true, true, true, true, true, true, true, true, true, true, true, true, true, true, true, true, true, true, true, true, false, false, false, false, false, false] rfl rfl (any_of HT_.out (by kernel_rfl)) (fun _ _ _ h => h) (Or.inr ⟨by rfl, rfl⟩) ?_ ?_
                            rotate_left
                            · simp only [Act.put, zSa, zSb, zSc, i64_w, i32_w]
                              rfl
                            refine pure_ (i := 24) (N := some 128) (v := undef) (a' := ?_) #[true, true, true, true, true, true, true, true, true, true, true, true, true, true, true, true, true, true, true, true, true, true, true, true, true, false, false, false, false, false] rfl rfl (any_of HT_.out (by kernel_rfl)) (fun _ _ _ h => h) (Or.inr ⟨by rfl, rfl⟩) ?_ ?_
                            rotate_left
                            · simp only [Act.put, zSa, zSb, zSc, i64_w, i32_w]
                              rfl
                            refine pure_ (i := 25) (N := some 129) (v := undef) (a' := ?_) #[true, true, true, true, true, true, true, true, true, true, true, true, true, true, true, true, true, true, true, true, true, true, true, true, true, true, false, false, false, false] rfl rfl (any_of HT_.out (by kernel_rfl)) (fun _ _ _ h => h) (Or.inr ⟨by rfl, rfl⟩) ?_ ?_
                            rotate_left
                            · simp only [Act.put, zSa, zSb, zSc, i64_w, i32_w]
                              rfl
                            refine pure_ (i := 26) (N := some 130) (v := undef) (a' := ?_) #[true, true, true, true, true, true, true, true, true, true, true, true, true, true, true, true, true, true, true, true, true, true, true, true, true, true, true, false, false, false] rfl rfl (any_of HT_.out (by kernel_rfl)) (fun _ _ _ h => h) (Or.inr ⟨by rfl, rfl⟩) ?_ ?_
                            rotate_left
                            · simp only [Act.put, zSa, zSb, zSc, i64_w, i32_w]
                              rfl
                            refine pure_ (i := 27) (N := some 131) (v := undef) (a' := ?_) #[true, true, true, true, true, true, true, true, true, true, true, true, true, true, true, true, true, true, true, true, true, true, true, true, true, true, true, true, false, false] rfl rfl (any_of HT_.out (by kernel_rfl)) (fun _ _ _ h => h) (Or.inr ⟨by rfl, rfl⟩) ?_ ?_
                            rotate_left
                            · simp only [Act.put, zSa, zSb, zSc, i64_w, i32_w]
                              rfl
                            refine pure_ (i := 28) (N := some 132) (v := undef) (a' := ?_) #[true, true, true, true, true, true, true, true, true, true, true, true, true, true, true, true, true, true, true, true, true, true, true, true, true, true, true, true, true, false] rfl rfl (any_of HT_.out (by kernel_rfl)) (fun _ _ _ h => h) (Or.inr ⟨by rfl, rfl⟩) ?_ ?_
                            rotate_left
                            · simp only [Act.put, zSa, zSb, zSc, i64_w, i32_w]
                              rfl
                            refine pure_ (i := 29) (N := some 133) (v := ?_) (a' := ?_) #[true, true, true, true, true, true, true, true, true, true, true, true, true, true, true, true, true, true, true, true, true, true, true, true, true, true, true, true, true, true] rfl rfl (any_of HT_.out (by kernel_rfl)) (fun _ _ _ h => h) (Or.inl ⟨by rfl, ?_⟩) ?_ ?_
                            rotate_left
                            · intro w'
                              go_simp
                              with_reducible rfl
                            rotate_left
                            · simp only [Act.put, zSa, zSb, zSc, i64_w, i32_w]
                              rfl
                            refine done_ (done_of HT_.out (by kernel_rfl)) ?_
                            try go_wp2
                            go_ret
                            exact ⟨by first | rfl | (simp [errW_none, errW_some] <;> rfl) | (simp [*, errW_none, errW_some] <;> rfl), by exact uT HB.out⟩
                          · rw [if_neg c64] at H
                            have c64b0 : decide ((rd t193 t204) < 0) = false := decide_eq_false c64
                            clear c64
                            by_cases c68 : x11_3 < (t193.length : Int)
                            rotate_left
                            · rw [if_neg c68] at H; exact absurd H (by simp)
                            rw [if_pos c68] at H
                            have c68b0 : decide (x11_3 < (t193.length : Int)) = true := decide_eq_true c68
                            clear c68
                            by_cases c69 : (rd t193 t204) = (wrap64 ((rd t193 x11_3) - ((rd_T39 l0_1 (rd l3 x11_3)).f2)))
                            · rw [if_pos c69] at H
                              have c69b0 : ((rd t193 t204) == (wrap64 ((rd t193 x11_3) - ((rd_T39 l0_1 (rd l3 x11_3)).f2)))) = true := beq_iff_eq.mpr c69
                              have c69b1 : ((rd t193 t204) != (wrap64 ((rd t193 x11_3) - ((rd_T39 l0_1 (rd l3 x11_3)).f2)))) = false := bne_eq_false_iff_eq.mpr c69
                              clear c69
                              have H' := zMk H
                              clear H
                              try go_wp2
                              replace HO_10 := zMk (zRd HO_10.out)
                              replace BK190 := zMk (zKd BK190.out)
                              replace HB := zMk (zBd HB.out)
                              have p202 : 0 ≤ (x11_3 : Int) := of_decide_eq_true (by assumption)
                              have q202 : x11_3 < (l3.length : Int) := of_decide_eq_true (by assumption)
                              obtain ⟨ad202, e202, hx202_0⟩ := zAi HR3.out x11_3 p202 q202
                              have hw202_0 := hx202_0
                              cases e202
                              replace hx202_0 := (HB.out.cell (World.block_lt_of_cell? w _ hx202_0)).trans hx202_0
                              replace p202 := eq_true p202
                              replace q202 := eq_true q202
                              have p203 : 0 ≤ ((rd l3 x11_3) : Int) := of_decide_eq_true (by assumption)
                              have q203 : (rd l3 x11_3) < (l0_1.length : Int) := of_decide_eq_true (by assumption)
                              obtain ⟨ad203, e203, hx203_0, hx203_1, hx203_2⟩ := at_T39 HR0_1.out (rd l3 x11_3) p203 q203
                              have hw203_2 := hx203_2
                              have hw203_1 := hx203_1
                              have hw203_0 := hx203_0
                              cases e203
                              replace hx203_0 := (HB.out.cell (World.block_lt_of_cell? w _ hx203_0)).trans hx203_0
                              replace hx203_1 := (HB.out.cell (World.block_lt_of_cell? w _ hx203_1)).trans hx203_1
                              replace hx203_2 := (HB.out.cell (World.block_lt_of_cell? w _ hx203_2)).trans hx203_2
                              replace p203 := eq_true p203
                              replace q203 := eq_true q203
                              refine start_ (n := 11) (S := fun w' => w'.cell? ⟨gb190, 0, none⟩ = some (.int .i64 a0_0) ∧ w'.cell? ⟨gb190, 1, none⟩ = some (.slice (some ad203) l0_1.length c0_1) ∧ w'.cell? (ad202.add (x11_3).toNat) = some (.int .i64 (rd l3 x11_3)) ∧ w'.cell? (ad203.add (((rd l3 x11_3)).toNat * 3)) = some (.int .i64 ((rd_T39 l0_1 (rd l3 x11_3)).f0)) ∧ w'.cell? ⟨(ad203.add (((rd l3 x11_3)).toNat * 3)).block, (ad203.add (((rd l3 x11_3)).toNat * 3)).off + 1, none⟩ = some (.int .i64 ((rd_T39 l0_1 (rd l3 x11_3)).f1)) ∧ w'.cell? ⟨(ad203.add (((rd l3 x11_3)).toNat * 3)).block, (ad203.add (((rd l3 x11_3)).toNat * 3)).off + 2, none⟩ = some (.int .i64 ((rd_T39 l0_1 (rd l3 x11_3)).f2))) (ds := []) #[false, false, false, false, false, false, false, false, false, false, false] (by kernel_rfl) rfl rfl ⟨(zKc BK190.out 0).trans rfl, (zKc BK190.out 1).trans rfl, ((HB.out.cell (World.block_lt_of_cell? w _ hw202_0)).trans hw202_0), ((HB.out.cell (World.block_lt_of_cell? w _ hw203_0)).trans hw203_0), ((HB.out.cell (World.block_lt_of_cell? w _ hw203_1)).trans hw203_1), ((HB.out.cell (World.block_lt_of_cell? w _ hw203_2)).trans hw203_2)⟩ (fun hHeld => ?_); refine with_tabW filigreeref12_Check.tab20 filigreeref12_Check.bits20 (fun HT_ HW_ => ?_)
                              generalize wc.drew = w70 at HO_10 BK190 HB hx202_0 hx203_0 hx203_1 hx203_2 hHeld ⊢
                              refine pure_ (i := 0) (N := some 94) (v := ?_) (a' := ?_) #[true, false, false, false, false, false, false, false, false, false, false] rfl rfl (any_of HT_.out (by kernel_rfl)) (fun _ _ _ h => h) (Or.inl ⟨by rfl, ?_⟩) ?_ ?_
                              rotate_left
                              · intro w'
                                go_simp
                                with_reducible rfl
                              rotate_left
                              · simp only [Act.put, zSa, zSb, zSc, i64_w, i32_w]
                                rfl
                              refine pure_ (i := 2) (N := some 96) (v := ?_) (a' := ?_) #[true, false, true, false, false, false, false, false, false, false, false] rfl rfl (any_of HT_.out (by kernel_rfl)) (fun _ _ _ h => h) (Or.inl ⟨by rfl, ?_⟩) ?_ ?_
                              rotate_left
                              · intro w'
                                go_simp
                                with_reducible rfl
                              rotate_left
                              · simp only [Act.put, zSa, zSb, zSc, i64_w, i32_w]
                                rfl
                              refine pure_ (i := 3) (N := some 97) (v := ?_) (a' := ?_) #[true, false, true, true, false, false, false, false, false, false, false] rfl rfl (any_of HT_.out (by kernel_rfl)) (fun _ _ _ h => h) (Or.inl ⟨by rfl, ?_⟩) ?_ ?_
                              rotate_left
                              · intro w'
                                go_simp
                                with_reducible rfl
                              rotate_left
                              · simp only [Act.put, zSa, zSb, zSc, i64_w, i32_w]
                                rfl
                              refine pure_ (i := 4) (N := some 98) (v := ?_) (a' := ?_) #[true, false, true, true, true, false, false, false, false, false, false] rfl rfl (any_of HT_.out (by kernel_rfl)) (fun _ _ _ h => h) (Or.inl ⟨by rfl, ?_⟩) ?_ ?_
                              rotate_left
                              · intro w'
                                go_simp
                                with_reducible rfl
                              rotate_left
                              · simp only [Act.put, zSa, zSb, zSc, i64_w, i32_w]
                                rfl
                              refine pure_ (i := 8) (N := some 102) (v := ?_) (a' := ?_) #[true, false, true, true, true, false, false, false, true, false, false] rfl rfl (any_of HT_.out (by kernel_rfl)) (fun _ _ _ h => h) (Or.inl ⟨by rfl, ?_⟩) ?_ ?_
                              rotate_left
                              · intro w'
                                go_simp
                                with_reducible rfl
                              rotate_left
                              · simp only [Act.put, zSa, zSb, zSc, i64_w, i32_w]
                                rfl
                              refine take_ (i := 1) (N := some 95) (v := ?_) (a' := ?_) #[true, true, true, true, true, false, false, false, true, false, false] rfl rfl (take_ofW HT_.out HW_.out (by kernel_rfl)) (fun _ _ _ h => h) (Or.inl ⟨by rfl, ?_⟩) hHeld ?_ ?_
                              rotate_left
                              · rintro w' ⟨s0, s1, s2, s3, s4, s5⟩
                                go_simp
                                with_reducible rfl
                              rotate_left
                              · simp only [Act.put, zSa, zSb, zSc, i64_w, i32_w]
                                rfl
                              refine take_ (i := 5) (N := some 99) (v := ?_) (a' := ?_) #[true, true, true, true, true, true, false, false, true, false, false] rfl rfl (take_ofW HT_.out HW_.out (by kernel_rfl)) (fun _ _ _ h => h) (Or.inl ⟨by rfl, ?_⟩) hHeld ?_ ?_
                              rotate_left
                              · rintro w' ⟨s0, s1, s2, s3, s4, s5⟩
                                go_simp
                                with_reducible rfl
                              rotate_left
                              · simp only [Act.put, zSa, zSb, zSc, i64_w, i32_w]
                                rfl
                              refine pure_ (i := 6) (N := some 100) (v := ?_) (a' := ?_) #[true, true, true, true, true, true, true, false, true, false, false] rfl rfl (any_of HT_.out (by kernel_rfl)) (fun _ _ _ h => h) (Or.inl ⟨by rfl, ?_⟩) ?_ ?_
                              rotate_left
                              · intro w'
                                go_simp
                                with_reducible rfl
                              rotate_left
                              · simp only [Act.put, zSa, zSb, zSc, i64_w, i32_w]
                                rfl
                              refine take_ (i := 7) (N := some 101) (v := ?_) (a' := ?_) #[true, true, true, true, true, true, true, true, true, false, false] rfl rfl (take_ofW HT_.out HW_.out (by kernel_rfl)) (fun _ _ _ h => h) (Or.inl ⟨by rfl, ?_⟩) hHeld ?_ ?_
                              rotate_left
                              · rintro w' ⟨s0, s1, s2, s3, s4, s5⟩
                                go_simp
                                with_reducible rfl
                              rotate_left
                              · simp only [Act.put, zSa, zSb, zSc, i64_w, i32_w]
                                rfl
                              refine one_ (i := 9) (N := some 103) #[true, true, true, true, true, true, true, true, true, true, false] rfl rfl (one_of HT_.out (by kernel_rfl)) (by decide) (fun K hK => ?_)
                              refine goes_ Try.func23 (by kernel_rfl) rfl #[.agg #[.int .i64 ((rd_T39 l0_1 (rd l3 x11_3)).f0), .int .i64 ((rd_T39 l0_1 (rd l3 x11_3)).f1), .int .i64 ((rd_T39 l0_1 (rd l3 x11_3)).f2)], .int .i64 x11_3] (by rfl) rfl rfl (by (try simp only [zMa, zMc, zMn]); first | done | rfl | (simp only [zLd, zLt]; rfl)) ?_
                              with_reducible refine (filigreeref12_other.calls ((rd_T39 l0_1 (rd l3 x11_3)).f0) ((rd_T39 l0_1 (rd l3 x11_3)).f1) ((rd_T39 l0_1 (rd l3 x11_3)).f2) x11_3 t204 _ A57.out).mono ?_
                              rintro e w71 ⟨rfl, hb⟩
                              refine ⟨_, rfl, ?_⟩
                              replace HO_10 := zMk (zRb (by exact uR HO_10.out) hb)
                              replace BK190 := zMk (zKb (g := gb190) (o := .cells #[.int .i64 a0_0, .slice (some ad203) l0_1.length c0_1] 24 (0, 0)) (by (with_reducible repeat (first | refine zKn ?_ _ | refine zKd ?_ | refine zKa ?_ _)); exact BK190.out) hb)
                              replace HB := zMk (zBt (by exact uT HB.out) hb)
                              refine hK.out _ _ ⟨(zKc BK190.out 0).trans rfl, (zKc BK190.out 1).trans rfl, ((HB.out.cell (World.block_lt_of_cell? w _ hw202_0)).trans hw202_0), ((HB.out.cell (World.block_lt_of_cell? w _ hw203_0)).trans hw203_0), ((HB.out.cell (World.block_lt_of_cell? w _ hw203_1)).trans hw203_1), ((HB.out.cell (World.block_lt_of_cell? w _ hw203_2)).trans hw203_2)⟩ (fun hHeld => ?_)
                              clear hK K
                              refine norm_ (a' := ?_) ?_ ?_
                              rotate_left
                              · show Act.put _ (some 103) _ = _
                                simp only [Act.put, zSa, zSb, zSc, i64_w, i32_w]
                                rfl
                              refine pure_ (i := 10) (N := some 12) (v := ?_) (a' := ?_) #[true, true, true, true, true, true, true, true, true, true, true] rfl rfl (any_of HT_.out (by kernel_rfl)) (fun _ _ _ h => h) (Or.inl ⟨by rfl, ?_⟩) ?_ ?_
                              rotate_left
                              · intro w'
                                go_simp
                                with_reducible rfl
                              rotate_left
                              · simp only [Act.put, zSa, zSb, zSc, i64_w, i32_w]
                                rfl
                              refine done_ (done_of HT_.out (by kernel_rfl)) ?_
                              try go_wp2
                              replace HO_10 := zMk (zRd HO_10.out)
                              replace BK190 := zMk (zKd BK190.out)
                              replace HB := zMk (zBd HB.out)
                              have p205 : 0 ≤ (t204 : Int) := of_decide_eq_true (by assumption)
                              have q205 : t204 < (t193.length : Int) := of_decide_eq_true (by assumption)
                              obtain ⟨ad205, e205, hx205_0⟩ := zAi (zRr HO_10.out).2.2 t204 p205 q205
                              obtain rfl : ad197 = ad205 := (by injection e205)
                              replace p205 := eq_true p205
                              replace q205 := eq_true q205
                              have p206 : 0 ≤ (t204 : Int) := of_decide_eq_true (by assumption)
                              have q206 : t204 < (t193.length : Int) := of_decide_eq_true (by assumption)
                              obtain ⟨ad206, e206, hx206_0⟩ := zAi (zRr HO_10.out).2.2 t204 p206 q206
                              obtain rfl : ad197 = ad206 := (by injection e206)
                              replace p206 := eq_true p206
                              replace q206 := eq_true q206
                              have p207 : 0 ≤ (x11_3 : Int) := of_decide_eq_true (by assumption)
                              have q207 : x11_3 < (t193.length : Int) := of_decide_eq_true (by assumption)
                              obtain ⟨ad207, e207, hx207_0⟩ := zAi (zRr HO_10.out).2.2 x11_3 p207 q207
                              obtain rfl : ad197 = ad207 := (by injection e207)
                              replace p207 := eq_true p207
                              replace q207 := eq_true q207
                              have p208 : 0 ≤ (x11_3 : Int) := of_decide_eq_true (by assumption)
                              have q208 : x11_3 < (l3.length : Int) := of_decide_eq_true (by assumption)
                              obtain ⟨ad208, e208, hx208_0⟩ := zAi HR3.out x11_3 p208 q208
                              have hw208_0 := hx208_0
                              obtain rfl : ad202 = ad208 := (by injection e208)
                              replace hx208_0 := (HB.out.cell (World.block_lt_of_cell? w _ hx208_0)).trans hx208_0
                              replace p208 := eq_true p208
                              replace q208 := eq_true q208
                              have p209 : 0 ≤ ((rd l3 x11_3) : Int) := of_decide_eq_true (by assumption)
                              have q209 : (rd l3 x11_3) < (l0_1.length : Int) := of_decide_eq_true (by assumption)
                              obtain ⟨ad209, e209, hx209_0, hx209_1, hx209_2⟩ := at_T39 HR0_1.out (rd l3 x11_3) p209 q209
                              have hw209_2 := hx209_2
                              have hw209_1 := hx209_1
                              have hw209_0 := hx209_0
                              obtain rfl : ad203 = ad209 := (by injection e209)
                              replace hx209_0 := (HB.out.cell (World.block_lt_of_cell? w _ hx209_0)).trans hx209_0
                              replace hx209_1 := (HB.out.cell (World.block_lt_of_cell? w _ hx209_1)).trans hx209_1
                              replace hx209_2 := (HB.out.cell (World.block_lt_of_cell? w _ hx209_2)).trans hx209_2
                              replace p209 := eq_true p209
                              replace q209 := eq_true q209
                              refine start_ (n := 30) (S := fun w' => w'.cell? ⟨gb190, 0, none⟩ = some (.int .i64 a0_0) ∧ w'.cell? ⟨gb190, 1, none⟩ = some (.slice (some ad203) l0_1.length c0_1) ∧ w'.cell? (ad197.add (t204).toNat) = some (.int .i64 (rd t193 t204)) ∧ w'.cell? (ad197.add (t204).toNat) = some (.int .i64 (rd t193 t204)) ∧ w'.cell? (ad197.add (x11_3).toNat) = some (.int .i64 (rd t193 x11_3)) ∧ w'.cell? (ad202.add (x11_3).toNat) = some (.int .i64 (rd l3 x11_3)) ∧ w'.cell? (ad203.add (((rd l3 x11_3)).toNat * 3)) = some (.int .i64 ((rd_T39 l0_1 (rd l3 x11_3)).f0)) ∧ w'.cell? ⟨(ad203.add (((rd l3 x11_3)).toNat * 3)).block, (ad203.add (((rd l3 x11_3)).toNat * 3)).off + 1, none⟩ = some (.int .i64 ((rd_T39 l0_1 (rd l3 x11_3)).f1)) ∧ w'.cell? ⟨(ad203.add (((rd l3 x11_3)).toNat * 3)).block, (ad203.add (((rd l3 x11_3)).toNat * 3)).off + 2, none⟩ = some (.int .i64 ((rd_T39 l0_1 (rd l3 x11_3)).f2))) (ds := []) #[false, false, false, false, false, false, false, false, false, false, false, false, false, false, false, false, false, false, false, false, false, false, false, false, false, false, false, false, false, false] (by kernel_rfl) rfl rfl ⟨(zKc BK190.out 0).trans rfl, (zKc BK190.out 1).trans rfl, hx205_0, hx206_0, hx207_0, ((HB.out.cell (World.block_lt_of_cell? w _ hw208_0)).trans hw208_0), ((HB.out.cell (World.block_lt_of_cell? w _ hw209_0)).trans hw209_0), ((HB.out.cell (World.block_lt_of_cell? w _ hw209_1)).trans hw209_1), ((HB.out.cell (World.block_lt_of_cell? w _ hw209_2)).trans hw209_2)⟩ (fun hHeld => ?_); refine with_tabW filigreeref12_Check.tab21 filigreeref12_Check.bits21 (fun HT_ HW_ => ?_)
                              generalize w71.drew = w72 at HO_10 BK190 HB hx205_0 hx206_0 hx207_0 hx208_0 hx209_0 hx209_1 hx209_2 hHeld ⊢
                              refine pure_ (i := 0) (N := some 104) (v := ?_) (a' := ?_) #[true, false, false, false, false, false, false, false, false, false, false, false, false, false, false, false, false, false, false, false, false, false, false, false, false, false, false, false, false, false] rfl rfl (any_of HT_.out (by kernel_rfl)) (fun _ _ _ h => h) (Or.inl ⟨by rfl, ?_⟩) ?_ ?_
                              rotate_left
                              · intro w'
                                go_simp
                                with_reducible rfl
                              rotate_left
                              · simp only [Act.put, zSa, zSb, zSc, i64_w, i32_w]
                                rfl
                              refine pure_ (i := 1) (N := some 105) (v := ?_) (a' := ?_) #[true, true, false, false, false, false, false, false, false, false, false, false, false, false, false, false, false, false, false, false, false, false, false, false, false, false, false, false, false, false] rfl rfl (any_of HT_.out (by kernel_rfl)) (fun _ _ _ h => h) (Or.inl ⟨by rfl, ?_⟩) ?_ ?_
                              rotate_left
                              · intro w'
                                go_simp
                                with_reducible rfl
                              rotate_left
                              · simp only [Act.put, zSa, zSb, zSc, i64_w, i32_w]
                                rfl
                              refine pure_ (i := 2) (N := some 106) (v := ?_) (a' := ?_) #[true, true, true, false, false, false, false, false, false, false, false, false, false, false, false, false, false, false, false, false, false, false, false, false, false, false, false, false, false, false] rfl rfl (any_of HT_.out (by kernel_rfl)) (fun _ _ _ h => h) (Or.inl ⟨by rfl, ?_⟩) ?_ ?_
                              rotate_left
                              · intro w'
                                go_simp
                                with_reducible rfl
                              rotate_left
                              · simp only [Act.put, zSa, zSb, zSc, i64_w, i32_w]
                                rfl
                              refine pure_ (i := 3) (N := some 107) (v := ?_) (a' := ?_) #[true, true, true, true, false, false, false, false, false, false, false, false, false, false, false, false, false, false, false, false, false, false, false, false, false, false, false, false, false, false] rfl rfl (any_of HT_.out (by kernel_rfl)) (fun _ _ _ h => h) (Or.inl ⟨by rfl, ?_⟩) ?_ ?_
                              rotate_left
                              · intro w'
                                go_simp
                                with_reducible rfl
                              rotate_left
                              · simp only [Act.put, zSa, zSb, zSc, i64_w, i32_w]
                                rfl
                              refine pure_ (i := 4) (N := some 108) (v := ?_) (a' := ?_) #[true, true, true, true, true, false, false, false, false, false, false, false, false, false, false, false, false, false, false, false, false, false, false, false, false, false, false, false, false, false] rfl rfl (any_of HT_.out (by kernel_rfl)) (fun _ _ _ h => h) (Or.inl ⟨by rfl, ?_⟩) ?_ ?_
                              rotate_left
                              · intro w'
                                go_simp
                                with_reducible rfl
                              rotate_left
                              · simp only [Act.put, zSa, zSb, zSc, i64_w, i32_w]
                                rfl
                              refine pure_ (i := 5) (N := some 109) (v := ?_) (a' := ?_) #[true, true, true, true, true, true, false, false, false, false, false, false, false, false, false, false, false, false, false, false, false, false, false, false, false, false, false, false, false, false] rfl rfl (any_of HT_.out (by kernel_rfl)) (fun _ _ _ h => h) (Or.inl ⟨by rfl, ?_⟩) ?_ ?_
                              rotate_left
                              · intro w'
                                go_simp
                                with_reducible rfl
                              rotate_left
                              · simp only [Act.put, zSa, zSb, zSc, i64_w, i32_w]
                                rfl
                              refine take_ (i := 6) (N := some 110) (v := ?_) (a' := ?_) #[true, true, true, true, true, true, true, false, false, false, false, false, false, false, false, false, false, false, false, false, false, false, false, false, false, false, false, false, false, false] rfl rfl (take_ofW HT_.out HW_.out (by kernel_rfl)) (fun _ _ _ h => h) (Or.inl ⟨by rfl, ?_⟩) hHeld ?_ ?_
                              rotate_left
                              · rintro w' ⟨s0, s1, s2, s3, s4, s5, s6, s7, s8⟩
                                go_simp
                                with_reducible rfl
                              rotate_left
                              · simp only [Act.put, zSa, zSb, zSc, i64_w, i32_w]
                                rfl
                              refine pure_ (i := 7) (N := some 111) (v := ?_) (a' := ?_) #[true, true, true, true, true, true, true, true, false, false, false, false, false, false, false, false, false, false, false, false, false, false, false, false, false, false, false, false, false, false] rfl rfl (any_of HT_.out (by kernel_rfl)) (fun _ _ _ h => h) (Or.inl ⟨by rfl, ?_⟩) ?_ ?_
                              rotate_left
                              · intro w'
                                go_simp
                                with_reducible rfl
                              rotate_left
                              · simp only [Act.put, zSa, zSb, zSc, i64_w, i32_w]
                                rfl
                              refine pure_ (i := 8) (N := some 112) (v := ?_) (a' := ?_) #[true, true, true, true, true, true, true, true, true, false, false, false, false, false, false, false, false, false, false, false, false, false, false, false, false, false, false, false, false, false] rfl rfl (any_of HT_.out (by kernel_rfl)) (fun _ _ _ h => h) (Or.inl ⟨by rfl, ?_⟩) ?_ ?_
                              rotate_left
                              · intro w'
                                go_simp
                                with_reducible rfl
                              rotate_left
                              · simp only [Act.put, zSa, zSb, zSc, i64_w, i32_w]
                                rfl
                              refine pure_ (i := 9) (N := some 113) (v := ?_) (a' := ?_) #[true, true, true, true, true, true, true, true, true, true, false, false, false, false, false, false, false, false, false, false, false, false, false, false, false, false, false, false, false, false] rfl rfl (any_of HT_.out (by kernel_rfl)) (fun _ _ _ h => h) (Or.inl ⟨by rfl, ?_⟩) ?_ ?_
                              rotate_left
                              · intro w'
                                go_simp
                                with_reducible rfl
                              rotate_left
                              · simp only [Act.put, zSa, zSb, zSc, i64_w, i32_w]
                                rfl
                              refine pure_ (i := 10) (N := some 114) (v := ?_) (a' := ?_) #[true, true, true, true, true, true, true, true, true, true, true, false, false, false, false, false, false, false, false, false, false, false, false, false, false, false, false, false, false, false] rfl rfl (any_of HT_.out (by kernel_rfl)) (fun _ _ _ h => h) (Or.inl ⟨by rfl, ?_⟩) ?_ ?_
                              rotate_left
                              · intro w'
                                go_simp
                                with_reducible rfl
                              rotate_left
                              · simp only [Act.put, zSa, zSb, zSc, i64_w, i32_w]
                                rfl
                              refine pure_ (i := 11) (N := some 115) (v := ?_) (a' := ?_) #[true, true, true, true, true, true, true, true, true, true, true, true, false, false, false, false, false, false, false, false, false, false, false, false, false, false, false, false, false, false] rfl rfl (any_of HT_.out (by kernel_rfl)) (fun _ _ _ h => h) (Or.inl ⟨by rfl, ?_⟩) ?_ ?_
                              rotate_left
                              · intro w'
                                go_simp
                                with_reducible rfl
                              rotate_left
                              · simp only [Act.put, zSa, zSb, zSc, i64_w, i32_w]
                                rfl
                              refine pure_ (i := 12) (N := some 116) (v := ?_) (a' := ?_) #[true, true, true, true, true, true, true, true, true, true, true, true, true, false, false, false, false, false, false, false, false, false, false, false, false, false, false, false, false, false] rfl rfl (any_of HT_.out (by kernel_rfl)) (fun _ _ _ h => h) (Or.inl ⟨by rfl, ?_⟩) ?_ ?_
                              rotate_left
                              · intro w'
                                go_simp
                                with_reducible rfl
                              rotate_left
                              · simp only [Act.put, zSa, zSb, zSc, i64_w, i32_w]
                                rfl
                              refine pure_ (i := 14) (N := some 118) (v := ?_) (a' := ?_) #[true, true, true, true, true, true, true, true, true, true, true, true, true, false, true, false, false, false, false, false, false, false, false, false, false, false, false, false, false, false] rfl rfl (any_of HT_.out (by kernel_rfl)) (fun _ _ _ h => h) (Or.inl ⟨by rfl, ?_⟩) ?_ ?_
                              rotate_left
                              · intro w'
                                go_simp
                                with_reducible rfl
                              rotate_left
                              · simp only [Act.put, zSa, zSb, zSc, i64_w, i32_w]
                                rfl
                              refine pure_ (i := 15) (N := some 119) (v := ?_) (a' := ?_) #[true, true, true, true, true, true, true, true, true, true, true, true, true, false, true, true, false, false, false, false, false, false, false, false, false, false, false, false, false, false] rfl rfl (any_of HT_.out (by kernel_rfl)) (fun _ _ _ h => h) (Or.inl ⟨by rfl, ?_⟩) ?_ ?_
                              rotate_left
                              · intro w'
                                go_simp
                                with_reducible rfl
                              rotate_left
                              · simp only [Act.put, zSa, zSb, zSc, i64_w, i32_w]
                                rfl
                              refine pure_ (i := 16) (N := some 120) (v := ?_) (a' := ?_) #[true, true, true, true, true, true, true, true, true, true, true, true, true, false, true, true, true, false, false, false, false, false, false, false, false, false, false, false, false, false] rfl rfl (any_of HT_.out (by kernel_rfl)) (fun _ _ _ h => h) (Or.inl ⟨by rfl, ?_⟩) ?_ ?_
                              rotate_left
                              · intro w'
                                go_simp
                                with_reducible rfl
                              rotate_left
                              · simp only [Act.put, zSa, zSb, zSc, i64_w, i32_w]
                                rfl
                              refine pure_ (i := 18) (N := some 122) (v := ?_) (a' := ?_) #[true, true, true, true, true, true, true, true, true, true, true, true, true, false, true, true, true, false, true, false, false, false, false, false, false, false, false, false, false, false] rfl rfl (any_of HT_.out (by kernel_rfl)) (fun _ _ _ h => h) (Or.inl ⟨by rfl, ?_⟩) ?_ ?_
                              rotate_left
                              · intro w'
                                go_simp
                                with_reducible rfl
                              rotate_left
                              · simp only [Act.put, zSa, zSb, zSc, i64_w, i32_w]
                                rfl
                              refine pure_ (i := 20) (N := some 124) (v := ?_) (a' := ?_) #[true, true, true, true, true, true, true, true, true, true, true, true, true, false, true, true, true, false, true, false, true, false, false, false, false, false, false, false, false, false] rfl rfl (any_of HT_.out (by kernel_rfl)) (fun _ _ _ h => h) (Or.inl ⟨by rfl, ?_⟩) ?_ ?_
                              rotate_left
                              · intro w'
                                go_simp
                                with_reducible rfl
                              rotate_left
                              · simp only [Act.put, zSa, zSb, zSc, i64_w, i32_w]
                                rfl
                              refine pure_ (i := 21) (N := some 125) (v := ?_) (a' := ?_) #[true, true, true, true, true, true, true, true, true, true, true, true, true, false, true, true, true, false, true, false, true, true, false, false, false, false, false, false, false, false] rfl rfl (any_of HT_.out (by kernel_rfl)) (fun _ _ _ h => h) (Or.inl ⟨by rfl, ?_⟩) ?_ ?_
                              rotate_left
                              · intro w'
                                go_simp
                                with_reducible rfl
                              rotate_left
                              · simp only [Act.put, zSa, zSb, zSc, i64_w, i32_w]
                                rfl
                              refine pure_ (i := 22) (N := some 126) (v := ?_) (a' := ?_) #[true, true, true, true, true, true, true, true, true, true, true, true, true, false, true, true, true, false, true, false, true, true, true, false, false, false, false, false, false, false] rfl rfl (any_of HT_.out (by kernel_rfl)) (fun _ _ _ h => h) (Or.inl ⟨by rfl, ?_⟩) ?_ ?_
                              rotate_left
                              · intro w'
                                go_simp
                                with_reducible rfl
                              rotate_left
                              · simp only [Act.put, zSa, zSb, zSc, i64_w, i32_w]
                                rfl
                              refine take_ (i := 13) (N := some 117) (v := ?_) (a' := ?_) #[true, true, true, true, true, true, true, true, true, true, true, true, true, true, true, true, true, false, true, false, true, true, true, false, false, false, false, false, false, false] rfl rfl (take_ofW HT_.out HW_.out (by kernel_rfl)) (fun _ _ _ h => h) (Or.inl ⟨by rfl, ?_⟩) hHeld ?_ ?_
                              rotate_left
                              · rintro w' ⟨s0, s1, s2, s3, s4, s5, s6, s7, s8⟩
                                go_simp
                                with_reducible rfl
                              rotate_left
                              · simp only [Act.put, zSa, zSb, zSc, i64_w, i32_w]
                                rfl
                              refine take_ (i := 17) (N := some 121) (v := ?_) (a' := ?_) #[true, true, true, true, true, true, true, true, true, true, true, true, true, true, true, true, true, true, true, false, true, true, true, false, false, false, false, false, false, false] rfl rfl (take_ofW HT_.out HW_.out (by kernel_rfl)) (fun _ _ _ h => h) (Or.inl ⟨by rfl, ?_⟩) hHeld ?_ ?_
                              rotate_left
                              · rintro w' ⟨s0, s1, s2, s3, s4, s5, s6, s7, s8⟩
                                go_simp
                                with_reducible rfl
                              rotate_left
                              · simp only [Act.put, zSa, zSb, zSc, i64_w, i32_w]
                                rfl
                              refine take_ (i := 19) (N := some 123) (v := ?_) (a' := ?_) #[true, true, true, true, true, true, true, true, true, true, true, true, true, true, true, true, true, true, true, true, true, true, true, false, false, false, false, false, false, false] rfl rfl (take_ofW HT_.out HW_.out (by kernel_rfl)) (fun _ _ _ h => h) (Or.inl ⟨by rfl, ?_⟩) hHeld ?_ ?_
                              rotate_left
                              · rintro w' ⟨s0, s1, s2, s3, s4, s5, s6, s7, s8⟩
                                go_simp
                                with_reducible rfl
                              rotate_left
                              · simp only [Act.put, zSa, zSb, zSc, i64_w, i32_w]
                                rfl
                              refine take_ (i := 23) (N := some 127) (v := ?_) (a' := ?_) #[true, true, true, true, true, true, true, true, true, true, true, true, true, true, true, true, true, true, true, true, true, true, true, true, false, false, false, false, false, false] rfl rfl (take_ofW HT_.out HW_.out (by kernel_rfl)) (fun _ _ _ h => h) (Or.inl ⟨by rfl, ?_⟩) hHeld ?_ ?_
                              rotate_left
                              · rintro w' ⟨s0, s1, s2, s3, s4, s5, s6, s7, s8⟩
                                go_simp
                                with_reducible rfl
                              rotate_left
                              · simp only [Act.put, zSa, zSb, zSc, i64_w, i32_w]
                                rfl
                              refine pure_ (i := 24) (N := some 128) (v := ?_) (a' := ?_) #[true, true, true, true, true, true, true, true, true, true, true, true, true, true, true, true, true, true, true, true, true, true, true, true, true, false, false, false, false, false] rfl rfl (any_of HT_.out (by kernel_rfl)) (fun _ _ _ h => h) (Or.inl ⟨by rfl, ?_⟩) ?_ ?_
                              rotate_left
                              · intro w'
                                go_simp
                                with_reducible rfl
                              rotate_left
                              · simp only [Act.put, zSa, zSb, zSc, i64_w, i32_w]
                                rfl
                              refine pure_ (i := 25) (N := some 129) (v := ?_) (a' := ?_) #[true, true, true, true, true, true, true, true, true, true, true, true, true, true, true, true, true, true, true, true, true, true, true, true, true, true, false, false, false, false] rfl rfl (any_of HT_.out (by kernel_rfl)) (fun _ _ _ h => h) (Or.inl ⟨by rfl, ?_⟩) ?_ ?_
                              rotate_left
                              · intro w'
                                go_simp
                                with_reducible rfl
                              rotate_left
                              · simp only [Act.put, zSa, zSb, zSc, i64_w, i32_w]
                                rfl
                              refine take_ (i := 26) (N := some 130) (v := ?_) (a' := ?_) #[true, true, true, true, true, true, true, true, true, true, true, true, true, true, true, true, true, true, true, true, true, true, true, true, true, true, true, false, false, false] rfl rfl (take_ofW HT_.out HW_.out (by kernel_rfl)) (fun _ _ _ h => h) (Or.inl ⟨by rfl, ?_⟩) hHeld ?_ ?_
                              rotate_left
                              · rintro w' ⟨s0, s1, s2, s3, s4, s5, s6, s7, s8⟩
                                go_simp
                                with_reducible rfl
                              rotate_left
                              · simp only [Act.put, zSa, zSb, zSc, i64_w, i32_w]
                                rfl
                              refine pure_ (i := 27) (N := some 131) (v := ?_) (a' := ?_) #[true, true, true, true, true, true, true, true, true, true, true, true, true, true, true, true, true, true, true, true, true, true, true, true, true, true, true, true, false, false] rfl rfl (any_of HT_.out (by kernel_rfl)) (fun _ _ _ h => h) (Or.inl ⟨by rfl, ?_⟩) ?_ ?_
                              rotate_left
                              · intro w'
                                go_simp
                                with_reducible rfl
                              rotate_left
                              · simp only [Act.put, zSa, zSb, zSc, i64_w, i32_w]
                                rfl
                              refine pure_ (i := 28) (N := some 132) (v := ?_) (a' := ?_) #[true, true, true, true, true, true, true, true, true, true, true, true, true, true, true, true, true, true, true, true, true, true, true, true, true, true, true, true, true, false] rfl rfl (any_of HT_.out (by kernel_rfl)) (fun _ _ _ h => h) (Or.inl ⟨by rfl, ?_⟩) ?_ ?_
                              rotate_left
                              · intro w'
                                go_simp
                                with_reducible rfl
                              rotate_left
                              · simp only [Act.put, zSa, zSb, zSc, i64_w, i32_w]
                                rfl
                              refine pure_ (i := 29) (N := some 133) (v := ?_) (a' := ?_) #[true, true, true, true, true, true, true, true, true, true, true, true, true, true, true, true, true, true, true, true, true, true, true, true, true, true, true, true, true, true] rfl rfl (any_of HT_.out (by kernel_rfl)) (fun _ _ _ h => h) (Or.inl ⟨by rfl, ?_⟩) ?_ ?_
                              rotate_left
                              · intro w'
                                go_simp
                                with_reducible rfl
                              rotate_left
                              · simp only [Act.put, zSa, zSb, zSc, i64_w, i32_w]
                                rfl
                              refine done_ (done_of HT_.out (by kernel_rfl)) ?_
                              try go_wp2
                              go_roundg kj43
                              case measure => have := HJ6.out; have := HJ13.out; have := HK3.out; have := HJ43.out; omega
                              case rel => exact ⟨(wrap64 (x11_3 + 1)), (by first | rfl | (simp; done) | (simp [*]; done)), H', ⟨by have := HJ6.out; have := HJ13.out; have := HK3.out; have := HJ43.out; omega⟩, ⟨by exact uR HO_10.out⟩, ⟨by (with_reducible repeat (first | refine zKn ?_ _ | refine zKd ?_ | refine zKa ?_ _)); exact BK190.out⟩, ⟨by exact uT HB.out⟩⟩
                            · rw [if_neg c69] at H
                              have c69b0 : ((rd t193 t204) == (wrap64 ((rd t193 x11_3) - ((rd_T39 l0_1 (rd l3 x11_3)).f2)))) = false := beq_eq_false_iff_ne.mpr c69
                              have c69b1 : ((rd t193 t204) != (wrap64 ((rd t193 x11_3) - ((rd_T39 l0_1 (rd l3 x11_3)).f2)))) = true := bne_iff_ne.mpr c69
                              obtain rfl := zOi H
                              try go_wp2
                              replace HO_10 := zMk (zRd HO_10.out)
                              replace BK190 := zMk (zKd BK190.out)
                              replace HB := zMk (zBd HB.out)
                              have p202 : 0 ≤ (x11_3 : Int) := of_decide_eq_true (by assumption)
                              have q202 : x11_3 < (l3.length : Int) := of_decide_eq_true (by assumption)
                              obtain ⟨ad202, e202, hx202_0⟩ := zAi HR3.out x11_3 p202 q202
                              have hw202_0 := hx202_0
                              cases e202
                              replace hx202_0 := (HB.out.cell (World.block_lt_of_cell? w _ hx202_0)).trans hx202_0
                              replace p202 := eq_true p202
                              replace q202 := eq_true q202
                              have p203 : 0 ≤ ((rd l3 x11_3) : Int) := of_decide_eq_true (by assumption)
                              have q203 : (rd l3 x11_3) < (l0_1.length : Int) := of_decide_eq_true (by assumption)
                              obtain ⟨ad203, e203, hx203_0, hx203_1, hx203_2⟩ := at_T39 HR0_1.out (rd l3 x11_3) p203 q203
                              have hw203_2 := hx203_2
                              have hw203_1 := hx203_1
                              have hw203_0 := hx203_0
                              cases e203
                              replace hx203_0 := (HB.out.cell (World.block_lt_of_cell? w _ hx203_0)).trans hx203_0
                              replace hx203_1 := (HB.out.cell (World.block_lt_of_cell? w _ hx203_1)).trans hx203_1
                              replace hx203_2 := (HB.out.cell (World.block_lt_of_cell? w _ hx203_2)).trans hx203_2
                              replace p203 := eq_true p203
                              replace q203 := eq_true q203
                              refine start_ (n := 11) (S := fun w' => w'.cell? ⟨gb190, 0, none⟩ = some (.int .i64 a0_0) ∧ w'.cell? ⟨gb190, 1, none⟩ = some (.slice (some ad203) l0_1.length c0_1) ∧ w'.cell? (ad202.add (x11_3).toNat) = some (.int .i64 (rd l3 x11_3)) ∧ w'.cell? (ad203.add (((rd l3 x11_3)).toNat * 3)) = some (.int .i64 ((rd_T39 l0_1 (rd l3 x11_3)).f0)) ∧ w'.cell? ⟨(ad203.add (((rd l3 x11_3)).toNat * 3)).block, (ad203.add (((rd l3 x11_3)).toNat * 3)).off + 1, none⟩ = some (.int .i64 ((rd_T39 l0_1 (rd l3 x11_3)).f1)) ∧ w'.cell? ⟨(ad203.add (((rd l3 x11_3)).toNat * 3)).block, (ad203.add (((rd l3 x11_3)).toNat * 3)).off + 2, none⟩ = some (.int .i64 ((rd_T39 l0_1 (rd l3 x11_3)).f2))) (ds := []) #[false, false, false, false, false, false, false, false, false, false, false] (by kernel_rfl) rfl rfl ⟨(zKc BK190.out 0).trans rfl, (zKc BK190.out 1).trans rfl, ((HB.out.cell (World.block_lt_of_cell? w _ hw202_0)).trans hw202_0), ((HB.out.cell (World.block_lt_of_cell? w _ hw203_0)).trans hw203_0), ((HB.out.cell (World.block_lt_of_cell? w _ hw203_1)).trans hw203_1), ((HB.out.cell (World.block_lt_of_cell? w _ hw203_2)).trans hw203_2)⟩ (fun hHeld => ?_); refine with_tabW filigreeref12_Check.tab20 filigreeref12_Check.bits20 (fun HT_ HW_ => ?_)
                              generalize wc.drew = w73 at HO_10 BK190 HB hx202_0 hx203_0 hx203_1 hx203_2 hHeld ⊢
                              refine pure_ (i := 0) (N := some 94) (v := ?_) (a' := ?_) #[true, false, false, false, false, false, false, false, false, false, false] rfl rfl (any_of HT_.out (by kernel_rfl)) (fun _ _ _ h => h) (Or.inl ⟨by rfl, ?_⟩) ?_ ?_
                              rotate_left
                              · intro w'
                                go_simp
                                with_reducible rfl
                              rotate_left
                              · simp only [Act.put, zSa, zSb, zSc, i64_w, i32_w]
                                rfl
                              refine pure_ (i := 2) (N := some 96) (v := ?_) (a' := ?_) #[true, false, true, false, false, false, false, false, false, false, false] rfl rfl (any_of HT_.out (by kernel_rfl)) (fun _ _ _ h => h) (Or.inl ⟨by rfl, ?_⟩) ?_ ?_
                              rotate_left
                              · intro w'
                                go_simp
                                with_reducible rfl
                              rotate_left
                              · simp only [Act.put, zSa, zSb, zSc, i64_w, i32_w]
                                rfl
                              refine pure_ (i := 3) (N := some 97) (v := ?_) (a' := ?_) #[true, false, true, true, false, false, false, false, false, false, false] rfl rfl (any_of HT_.out (by kernel_rfl)) (fun _ _ _ h => h) (Or.inl ⟨by rfl, ?_⟩) ?_ ?_
                              rotate_left
                              · intro w'
                                go_simp
                                with_reducible rfl
                              rotate_left
                              · simp only [Act.put, zSa, zSb, zSc, i64_w, i32_w]
                                rfl
                              refine pure_ (i := 4) (N := some 98) (v := ?_) (a' := ?_) #[true, false, true, true, true, false, false, false, false, false, false] rfl rfl (any_of HT_.out (by kernel_rfl)) (fun _ _ _ h => h) (Or.inl ⟨by rfl, ?_⟩) ?_ ?_
                              rotate_left
                              · intro w'
                                go_simp
                                with_reducible rfl
                              rotate_left
                              · simp only [Act.put, zSa, zSb, zSc, i64_w, i32_w]
                                rfl
                              refine pure_ (i := 8) (N := some 102) (v := ?_) (a' := ?_) #[true, false, true, true, true, false, false, false, true, false, false] rfl rfl (any_of HT_.out (by kernel_rfl)) (fun _ _ _ h => h) (Or.inl ⟨by rfl, ?_⟩) ?_ ?_
                              rotate_left
                              · intro w'
                                go_simp
                                with_reducible rfl
                              rotate_left
                              · simp only [Act.put, zSa, zSb, zSc, i64_w, i32_w]
                                rfl
                              refine take_ (i := 1) (N := some 95) (v := ?_) (a' := ?_) #[true, true, true, true, true, false, false, false, true, false, false] rfl rfl (take_ofW HT_.out HW_.out (by kernel_rfl)) (fun _ _ _ h => h) (Or.inl ⟨by rfl, ?_⟩) hHeld ?_ ?_
                              rotate_left
                              · rintro w' ⟨s0, s1, s2, s3, s4, s5⟩
                                go_simp
                                with_reducible rfl
                              rotate_left
                              · simp only [Act.put, zSa, zSb, zSc, i64_w, i32_w]
                                rfl
                              refine take_ (i := 5) (N := some 99) (v := ?_) (a' := ?_) #[true, true, true, true, true, true, false, false, true, false, false] rfl rfl (take_ofW HT_.out HW_.out (by kernel_rfl)) (fun _ _ _ h => h) (Or.inl ⟨by rfl, ?_⟩) hHeld ?_ ?_
                              rotate_left
                              · rintro w' ⟨s0, s1, s2, s3, s4, s5⟩
                                go_simp
                                with_reducible rfl
                              rotate_left
                              · simp only [Act.put, zSa, zSb, zSc, i64_w, i32_w]
                                rfl
                              refine pure_ (i := 6) (N := some 100) (v := ?_) (a' := ?_) #[true, true, true, true, true, true, true, false, true, false, false] rfl rfl (any_of HT_.out (by kernel_rfl)) (fun _ _ _ h => h) (Or.inl ⟨by rfl, ?_⟩) ?_ ?_
                              rotate_left
                              · intro w'
                                go_simp
                                with_reducible rfl
                              rotate_left
                              · simp only [Act.put, zSa, zSb, zSc, i64_w, i32_w]
                                rfl
                              refine take_ (i := 7) (N := some 101) (v := ?_) (a' := ?_) #[true, true, true, true, true, true, true, true, true, false, false] rfl rfl (take_ofW HT_.out HW_.out (by kernel_rfl)) (fun _ _ _ h => h) (Or.inl ⟨by rfl, ?_⟩) hHeld ?_ ?_
                              rotate_left
                              · rintro w' ⟨s0, s1, s2, s3, s4, s5⟩
                                go_simp
                                with_reducible rfl
                              rotate_left
                              · simp only [Act.put, zSa, zSb, zSc, i64_w, i32_w]
                                rfl
                              refine one_ (i := 9) (N := some 103) #[true, true, true, true, true, true, true, true, true, true, false] rfl rfl (one_of HT_.out (by kernel_rfl)) (by decide) (fun K hK => ?_)
                              refine goes_ Try.func23 (by kernel_rfl) rfl #[.agg #[.int .i64 ((rd_T39 l0_1 (rd l3 x11_3)).f0), .int .i64 ((rd_T39 l0_1 (rd l3 x11_3)).f1), .int .i64 ((rd_T39 l0_1 (rd l3 x11_3)).f2)], .int .i64 x11_3] (by rfl) rfl rfl (by (try simp only [zMa, zMc, zMn]); first | done | rfl | (simp only [zLd, zLt]; rfl)) ?_
                              with_reducible refine (filigreeref12_other.calls ((rd_T39 l0_1 (rd l3 x11_3)).f0) ((rd_T39 l0_1 (rd l3 x11_3)).f1) ((rd_T39 l0_1 (rd l3 x11_3)).f2) x11_3 t204 _ A57.out).mono ?_
                              rintro e w74 ⟨rfl, hb⟩
                              refine ⟨_, rfl, ?_⟩
                              replace HO_10 := zMk (zRb (by exact uR HO_10.out) hb)
                              replace BK190 := zMk (zKb (g := gb190) (o := .cells #[.int .i64 a0_0, .slice (some ad203) l0_1.length c0_1] 24 (0, 0)) (by (with_reducible repeat (first | refine zKn ?_ _ | refine zKd ?_ | refine zKa ?_ _)); exact BK190.out) hb)
                              replace HB := zMk (zBt (by exact uT HB.out) hb)
                              refine hK.out _ _ ⟨(zKc BK190.out 0).trans rfl, (zKc BK190.out 1).trans rfl, ((HB.out.cell (World.block_lt_of_cell? w _ hw202_0)).trans hw202_0), ((HB.out.cell (World.block_lt_of_cell? w _ hw203_0)).trans hw203_0), ((HB.out.cell (World.block_lt_of_cell? w _ hw203_1)).trans hw203_1), ((HB.out.cell (World.block_lt_of_cell? w _ hw203_2)).trans hw203_2)⟩ (fun hHeld => ?_)
                              clear hK K
                              refine norm_ (a' := ?_) ?_ ?_
                              rotate_left
                              · show Act.put _ (some 103) _ = _
                                simp only [Act.put, zSa, zSb, zSc, i64_w, i32_w]
                                rfl
                              refine pure_ (i := 10) (N := some 12) (v := ?_) (a' := ?_) #[true, true, true, true, true, true, true, true, true, true, true] rfl rfl (any_of HT_.out (by kernel_rfl)) (fun _ _ _ h => h) (Or.inl ⟨by rfl, ?_⟩) ?_ ?_
                              rotate_left
                              · intro w'
                                go_simp
                                with_reducible rfl
                              rotate_left
                              · simp only [Act.put, zSa, zSb, zSc, i64_w, i32_w]
                                rfl
                              refine done_ (done_of HT_.out (by kernel_rfl)) ?_
                              try go_wp2
                              replace HO_10 := zMk (zRd HO_10.out)
                              replace BK190 := zMk (zKd BK190.out)
                              replace HB := zMk (zBd HB.out)
                              have p205 : 0 ≤ (t204 : Int) := of_decide_eq_true (by assumption)
                              have q205 : t204 < (t193.length : Int) := of_decide_eq_true (by assumption)
                              obtain ⟨ad205, e205, hx205_0⟩ := zAi (zRr HO_10.out).2.2 t204 p205 q205
                              obtain rfl : ad197 = ad205 := (by injection e205)
                              replace p205 := eq_true p205
                              replace q205 := eq_true q205
                              have p206 : 0 ≤ (t204 : Int) := of_decide_eq_true (by assumption)
                              have q206 : t204 < (t193.length : Int) := of_decide_eq_true (by assumption)
                              obtain ⟨ad206, e206, hx206_0⟩ := zAi (zRr HO_10.out).2.2 t204 p206 q206
                              obtain rfl : ad197 = ad206 := (by injection e206)
                              replace p206 := eq_true p206
                              replace q206 := eq_true q206
                              have p207 : 0 ≤ (x11_3 : Int) := of_decide_eq_true (by assumption)
                              have q207 : x11_3 < (t193.length : Int) := of_decide_eq_true (by assumption)
                              obtain ⟨ad207, e207, hx207_0⟩ := zAi (zRr HO_10.out).2.2 x11_3 p207 q207
                              obtain rfl : ad197 = ad207 := (by injection e207)
                              replace p207 := eq_true p207
                              replace q207 := eq_true q207
                              have p208 : 0 ≤ (x11_3 : Int) := of_decide_eq_true (by assumption)
                              have q208 : x11_3 < (l3.length : Int) := of_decide_eq_true (by assumption)
                              obtain ⟨ad208, e208, hx208_0⟩ := zAi HR3.out x11_3 p208 q208
                              have hw208_0 := hx208_0
                              obtain rfl : ad202 = ad208 := (by injection e208)
                              replace hx208_0 := (HB.out.cell (World.block_lt_of_cell? w _ hx208_0)).trans hx208_0
                              replace p208 := eq_true p208
                              replace q208 := eq_true q208
                              have p209 : 0 ≤ ((rd l3 x11_3) : Int) := of_decide_eq_true (by assumption)
                              have q209 : (rd l3 x11_3) < (l0_1.length : Int) := of_decide_eq_true (by assumption)
                              obtain ⟨ad209, e209, hx209_0, hx209_1, hx209_2⟩ := at_T39 HR0_1.out (rd l3 x11_3) p209 q209
                              have hw209_2 := hx209_2
                              have hw209_1 := hx209_1
                              have hw209_0 := hx209_0
                              obtain rfl : ad203 = ad209 := (by injection e209)
                              replace hx209_0 := (HB.out.cell (World.block_lt_of_cell? w _ hx209_0)).trans hx209_0
                              replace hx209_1 := (HB.out.cell (World.block_lt_of_cell? w _ hx209_1)).trans hx209_1
                              replace hx209_2 := (HB.out.cell (World.block_lt_of_cell? w _ hx209_2)).trans hx209_2
                              replace p209 := eq_true p209
                              replace q209 := eq_true q209
                              refine start_ (n := 30) (S := fun w' => w'.cell? ⟨gb190, 0, none⟩ = some (.int .i64 a0_0) ∧ w'.cell? ⟨gb190, 1, none⟩ = some (.slice (some ad203) l0_1.length c0_1) ∧ w'.cell? (ad197.add (t204).toNat) = some (.int .i64 (rd t193 t204)) ∧ w'.cell? (ad197.add (t204).toNat) = some (.int .i64 (rd t193 t204)) ∧ w'.cell? (ad197.add (x11_3).toNat) = some (.int .i64 (rd t193 x11_3)) ∧ w'.cell? (ad202.add (x11_3).toNat) = some (.int .i64 (rd l3 x11_3)) ∧ w'.cell? (ad203.add (((rd l3 x11_3)).toNat * 3)) = some (.int .i64 ((rd_T39 l0_1 (rd l3 x11_3)).f0)) ∧ w'.cell? ⟨(ad203.add (((rd l3 x11_3)).toNat * 3)).block, (ad203.add (((rd l3 x11_3)).toNat * 3)).off + 1, none⟩ = some (.int .i64 ((rd_T39 l0_1 (rd l3 x11_3)).f1)) ∧ w'.cell? ⟨(ad203.add (((rd l3 x11_3)).toNat * 3)).block, (ad203.add (((rd l3 x11_3)).toNat * 3)).off + 2, none⟩ = some (.int .i64 ((rd_T39 l0_1 (rd l3 x11_3)).f2))) (ds := []) #[false, false, false, false, false, false, false, false, false, false, false, false, false, false, false, false, false, false, false, false, false, false, false, false, false, false, false, false, false, false] (by kernel_rfl) rfl rfl ⟨(zKc BK190.out 0).trans rfl, (zKc BK190.out 1).trans rfl, hx205_0, hx206_0, hx207_0, ((HB.out.cell (World.block_lt_of_cell? w _ hw208_0)).trans hw208_0), ((HB.out.cell (World.block_lt_of_cell? w _ hw209_0)).trans hw209_0), ((HB.out.cell (World.block_lt_of_cell? w _ hw209_1)).trans hw209_1), ((HB.out.cell (World.block_lt_of_cell? w _ hw209_2)).trans hw209_2)⟩ (fun hHeld => ?_); refine with_tabW filigreeref12_Check.tab21 filigreeref12_Check.bits21 (fun HT_ HW_ => ?_)
                              generalize w74.drew = w75 at HO_10 BK190 HB hx205_0 hx206_0 hx207_0 hx208_0 hx209_0 hx209_1 hx209_2 hHeld ⊢
                              refine pure_ (i := 0) (N := some 104) (v := ?_) (a' := ?_) #[true, false, false, false, false, false, false, false, false, false, false, false, false, false, false, false, false, false, false, false, false, false, false, false, false, false, false, false, false, false] rfl rfl (any_of HT_.out (by kernel_rfl)) (fun _ _ _ h => h) (Or.inl ⟨by rfl, ?_⟩) ?_ ?_
                              rotate_left
                              · intro w'
                                go_simp
                                with_reducible rfl
                              rotate_left
                              · simp only [Act.put, zSa, zSb, zSc, i64_w, i32_w]
                                rfl
                              refine pure_ (i := 1) (N := some 105) (v := ?_) (a' := ?_) #[true, true, false, false, false, false, false, false, false, false, false, false, false, false, false, false, false, false, false, false, false, false, false, false, false, false, false, false, false, false] rfl rfl (any_of HT_.out (by kernel_rfl)) (fun _ _ _ h => h) (Or.inl ⟨by rfl, ?_⟩) ?_ ?_
                              rotate_left
                              · intro w'
                                go_simp
                                with_reducible rfl
                              rotate_left
                              · simp only [Act.put, zSa, zSb, zSc, i64_w, i32_w]
                                rfl
                              refine pure_ (i := 2) (N := some 106) (v := ?_) (a' := ?_) #[true, true, true, false, false, false, false, false, false, false, false, false, false, false, false, false, false, false, false, false, false, false, false, false, false, false, false, false, false, false] rfl rfl (any_of HT_.out (by kernel_rfl)) (fun _ _ _ h => h) (Or.inl ⟨by rfl, ?_⟩) ?_ ?_
                              rotate_left
                              · intro w'
                                go_simp
                                with_reducible rfl
                              rotate_left
                              · simp only [Act.put, zSa, zSb, zSc, i64_w, i32_w]
                                rfl
                              refine pure_ (i := 3) (N := some 107) (v := ?_) (a' := ?_) #[true, true, true, true, false, false, false, false, false, false, false, false, false, false, false, false, false, false, false, false, false, false, false, false, false, false, false, false, false, false] rfl rfl (any_of HT_.out (by kernel_rfl)) (fun _ _ _ h => h) (Or.inl ⟨by rfl, ?_⟩) ?_ ?_
                              rotate_left
                              · intro w'
                                go_simp
                                with_reducible rfl
                              rotate_left
                              · simp only [Act.put, zSa, zSb, zSc, i64_w, i32_w]
                                rfl
                              refine pure_ (i := 4) (N := some 108) (v := ?_) (a' := ?_) #[true, true, true, true, true, false, false, false, false, false, false, false, false, false, false, false, false, false, false, false, false, false, false, false, false, false, false, false, false, false] rfl rfl (any_of HT_.out (by kernel_rfl)) (fun _ _ _ h => h) (Or.inl ⟨by rfl, ?_⟩) ?_ ?_
                              rotate_left
                              · intro w'
                                go_simp
                                with_reducible rfl
                              rotate_left
                              · simp only [Act.put, zSa, zSb, zSc, i64_w, i32_w]
                                rfl
                              refine pure_ (i := 5) (N := some 109) (v := ?_) (a' := ?_) #[true, true, true, true, true, true, false, false, false, false, false, false, false, false, false, false, false, false, false, false, false, false, false, false, false, false, false, false, false, false] rfl rfl (any_of HT_.out (by kernel_rfl)) (fun _ _ _ h => h) (Or.inl ⟨by rfl, ?_⟩) ?_ ?_
                              rotate_left
                              · intro w'
                                go_simp
                                with_reducible rfl
                              rotate_left
                              · simp only [Act.put, zSa, zSb, zSc, i64_w, i32_w]
                                rfl
                              refine take_ (i := 6) (N := some 110) (v := ?_) (a' := ?_) #[true, true, true, true, true, true, true, false, false, false, false, false, false, false, false, false, false, false, false, false, false, false, false, false, false, false, false, false, false, false] rfl rfl (take_ofW HT_.out HW_.out (by kernel_rfl)) (fun _ _ _ h => h) (Or.inl ⟨by rfl, ?_⟩) hHeld ?_ ?_
                              rotate_left
                              · rintro w' ⟨s0, s1, s2, s3, s4, s5, s6, s7, s8⟩
                                go_simp
                                with_reducible rfl
                              rotate_left
                              · simp only [Act.put, zSa, zSb, zSc, i64_w, i32_w]
                                rfl
                              refine pure_ (i := 7) (N := some 111) (v := ?_) (a' := ?_) #[true, true, true, true, true, true, true, true, false, false, false, false, false, false, false, false, false, false, false, false, false, false, false, false, false, false, false, false, false, false] rfl rfl (any_of HT_.out (by kernel_rfl)) (fun _ _ _ h => h) (Or.inl ⟨by rfl, ?_⟩) ?_ ?_
                              rotate_left
                              · intro w'
                                go_simp
                                with_reducible rfl
                              rotate_left
                              · simp only [Act.put, zSa, zSb, zSc, i64_w, i32_w]
                                rfl
                              refine pure_ (i := 8) (N := some 112) (v := ?_) (a' := ?_) #[true, true, true, true, true, true, true, true, true, false, false, false, false, false, false, false, false, false, false, false, false, false, false, false, false, false, false, false, false, false] rfl rfl (any_of HT_.out (by kernel_rfl)) (fun _ _ _ h => h) (Or.inl ⟨by rfl, ?_⟩) ?_ ?_
                              rotate_left
                              · intro w'
                                go_simp
                                with_reducible rfl
                              rotate_left
                              · simp only [Act.put, zSa, zSb, zSc, i64_w, i32_w]
                                rfl
                              refine pure_ (i := 9) (N := some 113) (v := ?_) (a' := ?_) #[true, true, true, true, true, true, true, true, true, true, false, false, false, false, false, false, false, false, false, false, false, false, false, false, false, false, false, false, false, false] rfl rfl (any_of HT_.out (by kernel_rfl)) (fun _ _ _ h => h) (Or.inl ⟨by rfl, ?_⟩) ?_ ?_
                              rotate_left
                              · intro w'
                                go_simp
                                with_reducible rfl
                              rotate_left
                              · simp only [Act.put, zSa, zSb, zSc, i64_w, i32_w]
                                rfl
                              refine pure_ (i := 10) (N := some 114) (v := ?_) (a' := ?_) #[true, true, true, true, true, true, true, true, true, true, true, false, false, false, false, false, false, false, false, false, false, false, false, false, false, false, false, false, false, false] rfl rfl (any_of HT_.out (by kernel_rfl)) (fun _ _ _ h => h) (Or.inl ⟨by rfl, ?_⟩) ?_ ?_
                              rotate_left
                              · intro w'
                                go_simp
                                with_reducible rfl
                              rotate_left
                              · simp only [Act.put, zSa, zSb, zSc, i64_w, i32_w]
                                rfl
                              refine pure_ (i := 11) (N := some 115) (v := ?_) (a' := ?_) #[true, true, true, true, true, true, true, true, true, true, true, true, false, false, false, false, false, false, false, false, false, false, false, false, false, false, false, false, false, false] rfl rfl (any_of HT_.out (by kernel_rfl)) (fun _ _ _ h => h) (Or.inl ⟨by rfl, ?_⟩) ?_ ?_
                              rotate_left
                              · intro w'
                                go_simp
                                with_reducible rfl
                              rotate_left
                              · simp only [Act.put, zSa, zSb, zSc, i64_w, i32_w]
                                rfl
                              refine pure_ (i := 12) (N := some 116) (v := ?_) (a' := ?_) #[true, true, true, true, true, true, true, true, true, true, true, true, true, false, false, false, false, false, false, false, false, false, false, false, false, false, false, false, false, false] rfl rfl (any_of HT_.out (by kernel_rfl)) (fun _ _ _ h => h) (Or.inl ⟨by rfl, ?_⟩) ?_ ?_
                              rotate_left
                              · intro w'
                                go_simp
                                with_reducible rfl
                              rotate_left
                              · simp only [Act.put, zSa, zSb, zSc, i64_w, i32_w]
                                rfl
                              refine pure_ (i := 14) (N := some 118) (v := ?_) (a' := ?_) #[true, true, true, true, true, true, true, true, true, true, true, true, true, false, true, false, false, false, false, false, false, false, false, false, false, false, false, false, false, false] rfl rfl (any_of HT_.out (by kernel_rfl)) (fun _ _ _ h => h) (Or.inl ⟨by rfl, ?_⟩) ?_ ?_
                              rotate_left
                              · intro w'
                                go_simp
                                with_reducible rfl
                              rotate_left
                              · simp only [Act.put, zSa, zSb, zSc, i64_w, i32_w]
                                rfl
                              refine pure_ (i := 15) (N := some 119) (v := ?_) (a' := ?_) #[true, true, true, true, true, true, true, true, true, true, true, true, true, false, true, true, false, false, false, false, false, false, false, false, false, false, false, false, false, false] rfl rfl (any_of HT_.out (by kernel_rfl)) (fun _ _ _ h => h) (Or.inl ⟨by rfl, ?_⟩) ?_ ?_
                              rotate_left
                              · intro w'
                                go_simp
                                with_reducible rfl
                              rotate_left
                              · simp only [Act.put, zSa, zSb, zSc, i64_w, i32_w]
                                rfl
                              refine pure_ (i := 16) (N := some 120) (v := ?_) (a' := ?_) #[true, true, true, true, true, true, true, true, true, true, true, true, true, false, true, true, true, false, false, false, false, false, false, false, false, false, false, false, false, false] rfl rfl (any_of HT_.out (by kernel_rfl)) (fun _ _ _ h => h) (Or.inl ⟨by rfl, ?_⟩) ?_ ?_
                              rotate_left
                              · intro w'
                                go_simp
                                with_reducible rfl
                              rotate_left
                              · simp only [Act.put, zSa, zSb, zSc, i64_w, i32_w]
                                rfl
                              refine pure_ (i := 18) (N := some 122) (v := ?_) (a' := ?_) #[true, true, true, true, true, true, true, true, true, true, true, true, true, false, true, true, true, false, true, false, false, false, false, false, false, false, false, false, false, false] rfl rfl (any_of HT_.out (by kernel_rfl)) (fun _ _ _ h => h) (Or.inl ⟨by rfl, ?_⟩) ?_ ?_
                              rotate_left
                              · intro w'
                                go_simp
                                with_reducible rfl
                              rotate_left
                              · simp only [Act.put, zSa, zSb, zSc, i64_w, i32_w]
                                rfl
                              refine pure_ (i := 20) (N := some 124) (v := ?_) (a' := ?_) #[true, true, true, true, true, true, true, true, true, true, true, true, true, false, true, true, true, false, true, false, true, false, false, false, false, false, false, false, false, false] rfl rfl (any_of HT_.out (by kernel_rfl)) (fun _ _ _ h => h) (Or.inl ⟨by rfl, ?_⟩) ?_ ?_
                              rotate_left
                              · intro w'
                                go_simp
                                with_reducible rfl
                              rotate_left
                              · simp only [Act.put, zSa, zSb, zSc, i64_w, i32_w]
                                rfl
                              refine pure_ (i := 21) (N := some 125) (v := ?_) (a' := ?_) #[true, true, true, true, true, true, true, true, true, true, true, true, true, false, true, true, true, false, true, false, true, true, false, false, false, false, false, false, false, false] rfl rfl (any_of HT_.out (by kernel_rfl)) (fun _ _ _ h => h) (Or.inl ⟨by rfl, ?_⟩) ?_ ?_
                              rotate_left
                              · intro w'
                                go_simp
                                with_reducible rfl
                              rotate_left
                              · simp only [Act.put, zSa, zSb, zSc, i64_w, i32_w]
                                rfl
                              refine pure_ (i := 22) (N := some 126) (v := ?_) (a' := ?_) #[true, true, true, true, true, true, true, true, true, true, true, true, true, false, true, true, true, false, true, false, true, true, true, false, false, false, false, false, false, false] rfl rfl (any_of HT_.out (by kernel_rfl)) (fun _ _ _ h => h) (Or.inl ⟨by rfl, ?_⟩) ?_ ?_
                              rotate_left
                              · intro w'
                                go_simp
                                with_reducible rfl
                              rotate_left
                              · simp only [Act.put, zSa, zSb, zSc, i64_w, i32_w]
                                rfl
                              refine take_ (i := 13) (N := some 117) (v := ?_) (a' := ?_) #[true, true, true, true, true, true, true, true, true, true, true, true, true, true, true, true, true, false, true, false, true, true, true, false, false, false, false, false, false, false] rfl rfl (take_ofW HT_.out HW_.out (by kernel_rfl)) (fun _ _ _ h => h) (Or.inl ⟨by rfl, ?_⟩) hHeld ?_ ?_
                              rotate_left
                              · rintro w' ⟨s0, s1, s2, s3, s4, s5, s6, s7, s8⟩
                                go_simp
                                with_reducible rfl
                              rotate_left
                              · simp only [Act.put, zSa, zSb, zSc, i64_w, i32_w]
                                rfl
                              refine take_ (i := 17) (N := some 121) (v := ?_) (a' := ?_) #[true, true, true, true, true, true, true, true, true, true, true, true, true, true, true, true, true, true, true, false, true, true, true, false, false, false, false, false, false, false] rfl rfl (take_ofW HT_.out HW_.out (by kernel_rfl)) (fun _ _ _ h => h) (Or.inl ⟨by rfl, ?_⟩) hHeld ?_ ?_
                              rotate_left
                              · rintro w' ⟨s0, s1, s2, s3, s4, s5, s6, s7, s8⟩
                                go_simp
                                with_reducible rfl
                              rotate_left
                              · simp only [Act.put, zSa, zSb, zSc, i64_w, i32_w]
                                rfl
                              refine take_ (i := 19) (N := some 123) (v := ?_) (a' := ?_) #[true, true, true, true, true, true, true, true, true, true, true, true, true, true, true, true, true, true, true, true, true, true, true, false, false, false, false, false, false, false] rfl rfl (take_ofW HT_.out HW_.out (by kernel_rfl)) (fun _ _ _ h => h) (Or.inl ⟨by rfl, ?_⟩) hHeld ?_ ?_
                              rotate_left
                              · rintro w' ⟨s0, s1, s2, s3, s4, s5, s6, s7, s8⟩
                                go_simp
                                with_reducible rfl
                              rotate_left
                              · simp only [Act.put, zSa, zSb, zSc, i64_w, i32_w]
                                rfl
                              refine take_ (i := 23) (N := some 127) (v := ?_) (a' := ?_) #[true, true, true, true, true, true, true, true, true, true, true, true, true, true, true, true, true, true, true, true, true, true, true, true, false, false, false, false, false, false] rfl rfl (take_ofW HT_.out HW_.out (by kernel_rfl)) (fun _ _ _ h => h) (Or.inl ⟨by rfl, ?_⟩) hHeld ?_ ?_
                              rotate_left
                              · rintro w' ⟨s0, s1, s2, s3, s4, s5, s6, s7, s8⟩
                                go_simp
                                with_reducible rfl
                              rotate_left
                              · simp only [Act.put, zSa, zSb, zSc, i64_w, i32_w]
                                rfl
                              refine pure_ (i := 24) (N := some 128) (v := ?_) (a' := ?_) #[true, true, true, true, true, true, true, true, true, true, true, true, true, true, true, true, true, true, true, true, true, true, true, true, true, false, false, false, false, false] rfl rfl (any_of HT_.out (by kernel_rfl)) (fun _ _ _ h => h) (Or.inl ⟨by rfl, ?_⟩) ?_ ?_
                              rotate_left
                              · intro w'
                                go_simp
                                with_reducible rfl
                              rotate_left
                              · simp only [Act.put, zSa, zSb, zSc, i64_w, i32_w]
                                rfl
                              refine pure_ (i := 25) (N := some 129) (v := ?_) (a' := ?_) #[true, true, true, true, true, true, true, true, true, true, true, true, true, true, true, true, true, true, true, true, true, true, true, true, true, true, false, false, false, false] rfl rfl (any_of HT_.out (by kernel_rfl)) (fun _ _ _ h => h) (Or.inl ⟨by rfl, ?_⟩) ?_ ?_
                              rotate_left
                              · intro w'
                                go_simp
                                with_reducible rfl
                              rotate_left
                              · simp only [Act.put, zSa, zSb, zSc, i64_w, i32_w]
                                rfl
                              refine take_ (i := 26) (N := some 130) (v := ?_) (a' := ?_) #[true, true, true, true, true, true, true, true, true, true, true, true, true, true, true, true, true, true, true, true, true, true, true, true, true, true, true, false, false, false] rfl rfl (take_ofW HT_.out HW_.out (by kernel_rfl)) (fun _ _ _ h => h) (Or.inl ⟨by rfl, ?_⟩) hHeld ?_ ?_
                              rotate_left
                              · rintro w' ⟨s0, s1, s2, s3, s4, s5, s6, s7, s8⟩
                                go_simp
                                with_reducible rfl
                              rotate_left
                              · simp only [Act.put, zSa, zSb, zSc, i64_w, i32_w]
                                rfl
                              refine pure_ (i := 27) (N := some 131) (v := ?_) (a' := ?_) #[true, true, true, true, true, true, true, true, true, true, true, true, true, true, true, true, true, true, true, true, true, true, true, true, true, true, true, true, false, false] rfl rfl (any_of HT_.out (by kernel_rfl)) (fun _ _ _ h => h) (Or.inl ⟨by rfl, ?_⟩) ?_ ?_
                              rotate_left
                              · intro w'
                                go_simp
                                with_reducible rfl
                              rotate_left
                              · simp only [Act.put, zSa, zSb, zSc, i64_w, i32_w]
                                rfl
                              refine pure_ (i := 28) (N := some 132) (v := ?_) (a' := ?_) #[true, true, true, true, true, true, true, true, true, true, true, true, true, true, true, true, true, true, true, true, true, true, true, true, true, true, true, true, true, false] rfl rfl (any_of HT_.out (by kernel_rfl)) (fun _ _ _ h => h) (Or.inl ⟨by rfl, ?_⟩) ?_ ?_
                              rotate_left
                              · intro w'
                                go_simp
                                with_reducible rfl
                              rotate_left
                              · simp only [Act.put, zSa, zSb, zSc, i64_w, i32_w]
                                rfl
                              refine pure_ (i := 29) (N := some 133) (v := ?_) (a' := ?_) #[true, true, true, true, true, true, true, true, true, true, true, true, true, true, true, true, true, true, true, true, true, true, true, true, true, true, true, true, true, true] rfl rfl (any_of HT_.out (by kernel_rfl)) (fun _ _ _ h => h) (Or.inl ⟨by rfl, ?_⟩) ?_ ?_
                              rotate_left
                              · intro w'
                                go_simp
                                with_reducible rfl
                              rotate_left
                              · simp only [Act.put, zSa, zSb, zSc, i64_w, i32_w]
                                rfl
                              refine done_ (done_of HT_.out (by kernel_rfl)) ?_
                              try go_wp2
                              go_ret
                              exact ⟨by first | rfl | (simp [errW_none, errW_some] <;> rfl) | (simp [*, errW_none, errW_some] <;> rfl), by exact uT HB.out⟩
              · rw [if_neg c30] at H
                have c30b0 : ((rd l2 x11_3) == (rd t193 x11_3)) = false := beq_eq_false_iff_ne.mpr c30
                have c30b1 : ((rd l2 x11_3) != (rd t193 x11_3)) = true := bne_iff_ne.mpr c30
                obtain rfl := zOi H
                have hcz76_0 : wr.cell? ⟨gb190, 0, none⟩ = some (.int .i64 a0_0) := (zKc BK190.out 0).trans rfl
                have hcz76_1 : wr.cell? ⟨gb190, 1, none⟩ = some (.slice A0_1 l0_1.length c0_1) := (zKc BK190.out 1).trans rfl
                have hfz76_0 := zKf BK190.out 0
                have hfz76_1 := zKf BK190.out 1
                try go_wp2
                replace HO_10 := zMk (zRd HO_10.out)
                replace BK190 := zMk (zKd BK190.out)
                replace HB := zMk (zBd HB.out)
                have p196 : 0 ≤ (x11_3 : Int) := of_decide_eq_true (by assumption)
                have q196 : x11_3 < (l2.length : Int) := of_decide_eq_true (by assumption)
                obtain ⟨ad196, e196, hx196_0⟩ := zAi HR2.out x11_3 p196 q196
                have hw196_0 := hx196_0
                cases e196
                replace hx196_0 := (HB.out.cell (World.block_lt_of_cell? w _ hx196_0)).trans hx196_0
                replace p196 := eq_true p196
                replace q196 := eq_true q196
                obtain ⟨Ao78, co78, eo78⟩ := zRs HO_10.out
                (first |  subst eo78|  (injection eo78 with f1_ f2_ f3_; have f4_ := f1_.symm; have f5_ := f3_.symm; clear f1_ f2_ f3_; subst f4_; subst f5_))
                have p197 : 0 ≤ (x11_3 : Int) := of_decide_eq_true (by assumption)
                have q197 : x11_3 < (t193.length : Int) := of_decide_eq_true (by assumption)
                obtain ⟨ad197, e197, hx197_0⟩ := zAi (zRr HO_10.out).2.2 x11_3 p197 q197
                cases e197
                replace p197 := eq_true p197
                replace q197 := eq_true q197
                refine start_ (n := 9) (S := fun w' => w'.cell? (ad196.add (x11_3).toNat) = some (.int .i64 (rd l2 x11_3)) ∧ w'.cell? (ad197.add (x11_3).toNat) = some (.int .i64 (rd t193 x11_3))) (ds := []) #[false, false, false, false, false, false, false, false, false] (by kernel_rfl) rfl rfl ⟨((HB.out.cell (World.block_lt_of_cell? w _ hw196_0)).trans hw196_0), hx197_0⟩ (fun hHeld => ?_); refine with_tabW filigreeref12_Check.tab12 filigreeref12_Check.bits12 (fun HT_ HW_ => ?_)
                generalize wr.drew = w77 at HO_10 BK190 HB hx196_0 hx197_0 hHeld ⊢
                refine pure_ (i := 0) (N := some 57) (v := ?_) (a' := ?_) #[true, false, false, false, false, false, false, false, false] rfl rfl (any_of HT_.out (by kernel_rfl)) (fun _ _ _ h => h) (Or.inl ⟨by rfl, ?_⟩) ?_ ?_
                rotate_left
                · intro w'
                  go_simp
                  with_reducible rfl
                rotate_left
                · simp only [Act.put, zSa, zSb, zSc, i64_w, i32_w]
                  rfl
                refine pure_ (i := 1) (N := some 58) (v := ?_) (a' := ?_) #[true, true, false, false, false, false, false, false, false] rfl rfl (any_of HT_.out (by kernel_rfl)) (fun _ _ _ h => h) (Or.inl ⟨by rfl, ?_⟩) ?_ ?_
                rotate_left
                · intro w'
                  go_simp
                  with_reducible rfl
                rotate_left
                · simp only [Act.put, zSa, zSb, zSc, i64_w, i32_w]
                  rfl
                refine pure_ (i := 2) (N := some 59) (v := ?_) (a' := ?_) #[true, true, true, false, false, false, false, false, false] rfl rfl (any_of HT_.out (by kernel_rfl)) (fun _ _ _ h => h) (Or.inl ⟨by rfl, ?_⟩) ?_ ?_
                rotate_left
                · intro w'
                  go_simp
                  with_reducible rfl
                rotate_left
                · simp only [Act.put, zSa, zSb, zSc, i64_w, i32_w]
                  rfl
                refine pure_ (i := 4) (N := some 61) (v := ?_) (a' := ?_) #[true, true, true, false, true, false, false, false, false] rfl rfl (any_of HT_.out (by kernel_rfl)) (fun _ _ _ h => h) (Or.inl ⟨by rfl, ?_⟩) ?_ ?_
                rotate_left
                · intro w'
                  go_simp
                  with_reducible rfl
                rotate_left
                · simp only [Act.put, zSa, zSb, zSc, i64_w, i32_w]
                  rfl
                refine pure_ (i := 5) (N := some 62) (v := ?_) (a' := ?_) #[true, true, true, false, true, true, false, false, false] rfl rfl (any_of HT_.out (by kernel_rfl)) (fun _ _ _ h => h) (Or.inl ⟨by rfl, ?_⟩) ?_ ?_
                rotate_left
                · intro w'
                  go_simp
                  with_reducible rfl
                rotate_left
                · simp only [Act.put, zSa, zSb, zSc, i64_w, i32_w]
                  rfl
                refine pure_ (i := 6) (N := some 63) (v := ?_) (a' := ?_) #[true, true, true, false, true, true, true, false, false] rfl rfl (any_of HT_.out (by kernel_rfl)) (fun _ _ _ h => h) (Or.inl ⟨by rfl, ?_⟩) ?_ ?_
                rotate_left
                · intro w'
                  go_simp
                  with_reducible rfl
                rotate_left
                · simp only [Act.put, zSa, zSb, zSc, i64_w, i32_w]
                  rfl
                refine take_ (i := 3) (N := some 60) (v := ?_) (a' := ?_) #[true, true, true, true, true, true, true, false, false] rfl rfl (take_ofW HT_.out HW_.out (by kernel_rfl)) (fun _ _ _ h => h) (Or.inl ⟨by rfl, ?_⟩) hHeld ?_ ?_
                rotate_left
                · rintro w' ⟨s0, s1⟩
                  go_simp
                  with_reducible rfl
                rotate_left
                · simp only [Act.put, zSa, zSb, zSc, i64_w, i32_w]
                  rfl
                refine take_ (i := 7) (N := some 64) (v := ?_) (a' := ?_) #[true, true, true, true, true, true, true, true, false] rfl rfl (take_ofW HT_.out HW_.out (by kernel_rfl)) (fun _ _ _ h => h) (Or.inl ⟨by rfl, ?_⟩) hHeld ?_ ?_
                rotate_left
                · rintro w' ⟨s0, s1⟩
                  go_simp
                  with_reducible rfl
                rotate_left
                · simp only [Act.put, zSa, zSb, zSc, i64_w, i32_w]
                  rfl
                refine pure_ (i := 8) (N := some 65) (v := ?_) (a' := ?_) #[true, true, true, true, true, true, true, true, true] rfl rfl (any_of HT_.out (by kernel_rfl)) (fun _ _ _ h => h) (Or.inl ⟨by rfl, ?_⟩) ?_ ?_
                rotate_left
                · intro w'
                  go_simp
                  with_reducible rfl
                rotate_left
                · simp only [Act.put, zSa, zSb, zSc, i64_w, i32_w]
                  rfl
                refine done_ (done_of HT_.out (by kernel_rfl)) ?_
                try go_wp2
                go_ret
                exact ⟨by first | rfl | (simp [errW_none, errW_some] <;> rfl) | (simp [*, errW_none, errW_some] <;> rfl), by exact uT HB.out⟩
            · rw [if_neg c26] at H
              have c26b0 : decide (x11_3 < a0_0) = false := decide_eq_false c26
              clear c26
              have H' := zMk H
              clear H
              have hcz79_0 : wr.cell? ⟨gb190, 0, none⟩ = some (.int .i64 a0_0) := (zKc BK190.out 0).trans rfl
              have hcz79_1 : wr.cell? ⟨gb190, 1, none⟩ = some (.slice A0_1 l0_1.length c0_1) := (zKc BK190.out 1).trans rfl
              have hfz79_0 := zKf BK190.out 0
              have hfz79_1 := zKf BK190.out 1
              go_wp2
              go_loopg [13] k3 (fun kq v13 w' => ∃ (x13_4 : Int), v13 = .int .i64 x13_4 ∧ Aside0 (filigreeref12_Check.l1 kq a1 l3 t193 x13_4 a0_0 l0_1 = some r) ∧ Aside0 (kq ≤ k3) ∧ Aside0 (Kd.R (Kd.int .i64) 2 w' w.heap.size (fun _ => True) v194 t193) ∧ Aside0 (w'.heap[gb190]? = some (.cells #[.int .i64 a0_0, (.slice A0_1 l0_1.length c0_1)] 24 (0, 0))) ∧ Aside0 (Below w.heap.size w w'))
              case atStart => exact ⟨(0), (by first | rfl | (simp; done) | (simp [*]; done)), H', ⟨Nat.le_refl _⟩, ⟨by exact uR HO_10.out⟩, ⟨by (with_reducible repeat (first | refine zKn ?_ _ | refine zKd ?_ | refine zKa ?_ _)); exact BK190.out⟩, ⟨by exact uT HB.out⟩⟩
              clear H'
              obtain ⟨x13_4, rfl, HA, HK4, HO_10, BK190, HB⟩ := hrel
              rcases gk with _ | k4
              · exact absurd HA.out (by simp [filigreeref12_Check.l1])
              have H := HA.out
              clear HA
              simp only [filigreeref12_Check.l1] at H
              by_cases c80 : x13_4 < a0_0
              · rw [if_pos c80] at H
                have c80b0 : decide (x13_4 < a0_0) = true := decide_eq_true c80
                clear c80
                by_cases c81 : 0 ≤ x13_4
                rotate_left
                · rw [if_neg c81] at H; exact absurd H (by simp)
                rw [if_pos c81] at H
                have c81b0 : decide (0 ≤ x13_4) = true := decide_eq_true c81
                clear c81
                by_cases c82 : x13_4 < (t193.length : Int)
                rotate_left
                · rw [if_neg c82] at H; exact absurd H (by simp)
                rw [if_pos c82] at H
                have c82b0 : decide (x13_4 < (t193.length : Int)) = true := decide_eq_true c82
                clear c82
                by_cases c83 : (rd t193 x13_4) < 0
                · rw [if_pos c83] at H
                  have c83b0 : decide ((rd t193 x13_4) < 0) = true := decide_eq_true c83
                  clear c83
                  have H' := zMk H
                  clear H
                  have hcz84_0 : wr.cell? ⟨gb190, 0, none⟩ = some (.int .i64 a0_0) := (zKc BK190.out 0).trans rfl
                  have hcz84_1 : wr.cell? ⟨gb190, 1, none⟩ = some (.slice A0_1 l0_1.length c0_1) := (zKc BK190.out 1).trans rfl
                  have hfz84_0 := zKf BK190.out 0
                  have hfz84_1 := zKf BK190.out 1
                  obtain ⟨Ao85, co85, eo85⟩ := zRs HO_10.out
                  subst eo85
                  have p210 : 0 ≤ (x13_4 : Int) := of_decide_eq_true (by assumption)
                  have q210 : x13_4 < (t193.length : Int) := of_decide_eq_true (by assumption)
                  obtain ⟨ad210, e210, hx210_0⟩ := zAi (zRr HO_10.out).2.2 x13_4 p210 q210
                  cases e210
                  replace p210 := eq_true p210
                  replace q210 := eq_true q210
                  go_wp2
                  go_roundg k4
                  case measure => have := HJ6.out; have := HJ13.out; have := HK3.out; have := HK4.out; omega
                  case rel => exact ⟨(wrap64 (x13_4 + 1)), (by first | rfl | (simp; done) | (simp [*]; done)), H', ⟨by have := HJ6.out; have := HJ13.out; have := HK3.out; have := HK4.out; omega⟩, ⟨by exact uR HO_10.out⟩, ⟨by (with_reducible repeat (first | refine zKn ?_ _ | refine zKd ?_ | refine zKa ?_ _)); exact BK190.out⟩, ⟨by exact uT HB.out⟩⟩
                · rw [if_neg c83] at H
                  have c83b0 : decide ((rd t193 x13_4) < 0) = false := decide_eq_false c83
                  clear c83
                  have H' := zMk H
                  clear H
                  have hcz86_0 : wr.cell? ⟨gb190, 0, none⟩ = some (.int .i64 a0_0) := (zKc BK190.out 0).trans rfl
                  have hcz86_1 : wr.cell? ⟨gb190, 1, none⟩ = some (.slice A0_1 l0_1.length c0_1) := (zKc BK190.out 1).trans rfl
                  have hfz86_0 := zKf BK190.out 0
                  have hfz86_1 := zKf BK190.out 1
                  obtain ⟨Ao87, co87, eo87⟩ := zRs HO_10.out
                  subst eo87
                  have p210 : 0 ≤ (x13_4 : Int) := of_decide_eq_true (by assumption)
                  have q210 : x13_4 < (t193.length : Int) := of_decide_eq_true (by assumption)
                  obtain ⟨ad210, e210, hx210_0⟩ := zAi (zRr HO_10.out).2.2 x13_4 p210 q210
                  cases e210
                  replace p210 := eq_true p210
                  replace q210 := eq_true q210
                  go_wp2
                  go_loopg [14, 15] k4 (fun kq v14 v15 w' => ∃ (x14_5 : Int) (x15_5 : Int), v14 = .int .i64 x14_5 ∧ v15 = .int .i64 x15_5 ∧ Aside0 (filigreeref12_Check.l2 kq a1 l3 t193 x13_4 x14_5 x15_5 a0_0 l0_1 = some r) ∧ Aside0 (kq ≤ k4) ∧ Aside0 (Kd.R (Kd.int .i64) 2 w' w.heap.size (fun _ => True) (.slice (some ad210) t193.length co87) t193) ∧ Aside0 (w'.heap[gb190]? = some (.cells #[.int .i64 a0_0, (.slice A0_1 l0_1.length c0_1)] 24 (0, 0))) ∧ Aside0 (Below w.heap.size w w'))
                  case atStart => exact ⟨(x13_4), (0), (by first | rfl | (simp; done) | (simp [*]; done)), (by first | rfl | (simp; done) | (simp [*]; done)), H', ⟨Nat.le_refl _⟩, ⟨by exact uR HO_10.out⟩, ⟨by (with_reducible repeat (first | refine zKn ?_ _ | refine zKd ?_ | refine zKa ?_ _)); exact BK190.out⟩, ⟨by exact uT HB.out⟩⟩
                  clear H'
                  obtain ⟨x14_5, x15_5, rfl, rfl, HA, HK5, HO_10, BK190, HB⟩ := hrel
                  rcases gk with _ | k5
                  · exact absurd HA.out (by simp [filigreeref12_Check.l2])
                  have H := HA.out
                  clear HA
                  simp only [filigreeref12_Check.l2] at H
                  by_cases c88 : x15_5 < a0_0
                  · rw [if_pos c88] at H
                    have c88b0 : decide (x15_5 < a0_0) = true := decide_eq_true c88
                    clear c88
                    by_cases c89 : x14_5 = a1
                    · rw [if_pos c89] at H
                      have c89b0 : (x14_5 == a1) = true := beq_iff_eq.mpr c89
                      have c89b1 : (x14_5 != a1) = false := bne_eq_false_iff_eq.mpr c89
                      clear c89
                      have H' := zMk H
                      clear H
                      have hcz90_0 : wr.cell? ⟨gb190, 0, none⟩ = some (.int .i64 a0_0) := (zKc BK190.out 0).trans rfl
                      have hcz90_1 : wr.cell? ⟨gb190, 1, none⟩ = some (.slice A0_1 l0_1.length c0_1) := (zKc BK190.out 1).trans rfl
                      have hfz90_0 := zKf BK190.out 0
                      have hfz90_1 := zKf BK190.out 1
                      go_wp2
                      go_roundg k5
                      case measure => have := HJ6.out; have := HJ13.out; have := HK3.out; have := HK4.out; have := HK5.out; omega
                      case rel => exact ⟨(wrap64 (x13_4 + 1)), (by first | rfl | (simp; done) | (simp [*]; done)), H', ⟨by have := HJ6.out; have := HJ13.out; have := HK3.out; have := HK4.out; have := HK5.out; omega⟩, ⟨by exact uR HO_10.out⟩, ⟨by (with_reducible repeat (first | refine zKn ?_ _ | refine zKd ?_ | refine zKa ?_ _)); exact BK190.out⟩, ⟨by exact uT HB.out⟩⟩
                    · rw [if_neg c89] at H
                      have c89b0 : (x14_5 == a1) = false := beq_eq_false_iff_ne.mpr c89
                      have c89b1 : (x14_5 != a1) = true := bne_iff_ne.mpr c89
                      by_cases c91 : 0 ≤ x14_5
                      rotate_left
                      · rw [if_neg c91] at H; exact absurd H (by simp)
                      rw [if_pos c91] at H
                      have c91b0 : decide (0 ≤ x14_5) = true := decide_eq_true c91
                      clear c91
                      by_cases c92 : x14_5 < (l3.length : Int)
                      rotate_left
                      · rw [if_neg c92] at H; exact absurd H (by simp)
                      rw [if_pos c92] at H
                      have c92b0 : decide (x14_5 < (l3.length : Int)) = true := decide_eq_true c92
                      clear c92
                      by_cases c93 : 0 ≤ (rd l3 x14_5)
                      rotate_left
                      · rw [if_neg c93] at H; exact absurd H (by simp)
                      rw [if_pos c93] at H
                      have c93b0 : decide (0 ≤ (rd l3 x14_5)) = true := decide_eq_true c93
                      clear c93
                      by_cases c94 : (rd l3 x14_5) < (l0_1.length : Int)
                      rotate_left
                      · rw [if_neg c94] at H; exact absurd H (by simp)
                      rw [if_pos c94] at H
                      have c94b0 : decide ((rd l3 x14_5) < (l0_1.length : Int)) = true := decide_eq_true c94
                      clear c94
                      replace H := bnd H
                      obtain ⟨t213, A950, H⟩ := H
                      have A95 := zMk A950
                      clear A950
                      have H' := zMk H
                      clear H
                      have hcz96_0 : wr.cell? ⟨gb190, 0, none⟩ = some (.int .i64 a0_0) := (zKc BK190.out 0).trans rfl
                      have hcz96_1 : wr.cell? ⟨gb190, 1, none⟩ = some (.slice A0_1 l0_1.length c0_1) := (zKc BK190.out 1).trans rfl
                      have hfz96_0 := zKf BK190.out 0
                      have hfz96_1 := zKf BK190.out 1
                      try go_wp2
                      replace HO_10 := zMk (zRd HO_10.out)
                      replace BK190 := zMk (zKd BK190.out)
                      replace HB := zMk (zBd HB.out)
                      have p211 : 0 ≤ (x14_5 : Int) := of_decide_eq_true (by assumption)
                      have q211 : x14_5 < (l3.length : Int) := of_decide_eq_true (by assumption)
                      obtain ⟨ad211, e211, hx211_0⟩ := zAi HR3.out x14_5 p211 q211
                      have hw211_0 := hx211_0
                      cases e211
                      replace hx211_0 := (HB.out.cell (World.block_lt_of_cell? w _ hx211_0)).trans hx211_0
                      replace p211 := eq_true p211
                      replace q211 := eq_true q211
                      have p212 : 0 ≤ ((rd l3 x14_5) : Int) := of_decide_eq_true (by assumption)
                      have q212 : (rd l3 x14_5) < (l0_1.length : Int) := of_decide_eq_true (by assumption)
                      obtain ⟨ad212, e212, hx212_0, hx212_1, hx212_2⟩ := at_T39 HR0_1.out (rd l3 x14_5) p212 q212
                      have hw212_2 := hx212_2
                      have hw212_1 := hx212_1
                      have hw212_0 := hx212_0
                      cases e212
                      replace hx212_0 := (HB.out.cell (World.block_lt_of_cell? w _ hx212_0)).trans hx212_0
                      replace hx212_1 := (HB.out.cell (World.block_lt_of_cell? w _ hx212_1)).trans hx212_1
                      replace hx212_2 := (HB.out.cell (World.block_lt_of_cell? w _ hx212_2)).trans hx212_2
                      replace p212 := eq_true p212
                      replace q212 := eq_true q212
                      refine start_ (n := 11) (S := fun w' => w'.cell? ⟨gb190, 0, none⟩ = some (.int .i64 a0_0) ∧ w'.cell? ⟨gb190, 1, none⟩ = some (.slice (some ad212) l0_1.length c0_1) ∧ w'.cell? (ad211.add (x14_5).toNat) = some (.int .i64 (rd l3 x14_5)) ∧ w'.cell? (ad212.add (((rd l3 x14_5)).toNat * 3)) = some (.int .i64 ((rd_T39 l0_1 (rd l3 x14_5)).f0)) ∧ w'.cell? ⟨(ad212.add (((rd l3 x14_5)).toNat * 3)).block, (ad212.add (((rd l3 x14_5)).toNat * 3)).off + 1, none⟩ = some (.int .i64 ((rd_T39 l0_1 (rd l3 x14_5)).f1)) ∧ w'.cell? ⟨(ad212.add (((rd l3 x14_5)).toNat * 3)).block, (ad212.add (((rd l3 x14_5)).toNat * 3)).off + 2, none⟩ = some (.int .i64 ((rd_T39 l0_1 (rd l3 x14_5)).f2))) (ds := []) #[false, false, false, false, false, false, false, false, false, false, false] (by kernel_rfl) rfl rfl ⟨(zKc BK190.out 0).trans rfl, (zKc BK190.out 1).trans rfl, ((HB.out.cell (World.block_lt_of_cell? w _ hw211_0)).trans hw211_0), ((HB.out.cell (World.block_lt_of_cell? w _ hw212_0)).trans hw212_0), ((HB.out.cell (World.block_lt_of_cell? w _ hw212_1)).trans hw212_1), ((HB.out.cell (World.block_lt_of_cell? w _ hw212_2)).trans hw212_2)⟩ (fun hHeld => ?_); refine with_tabW filigreeref12_Check.tab31 filigreeref12_Check.bits31 (fun HT_ HW_ => ?_)
                      generalize wr.drew = w97 at HO_10 BK190 HB hx211_0 hx212_0 hx212_1 hx212_2 hHeld ⊢
                      refine pure_ (i := 0) (N := some 157) (v := ?_) (a' := ?_) #[true, false, false, false, false, false, false, false, false, false, false] rfl rfl (any_of HT_.out (by kernel_rfl)) (fun _ _ _ h => h) (Or.inl ⟨by rfl, ?_⟩) ?_ ?_
                      rotate_left
                      · intro w'
                        go_simp
                        with_reducible rfl
                      rotate_left
                      · simp only [Act.put, zSa, zSb, zSc, i64_w, i32_w]
                        rfl
                      refine pure_ (i := 2) (N := some 159) (v := ?_) (a' := ?_) #[true, false, true, false, false, false, false, false, false, false, false] rfl rfl (any_of HT_.out (by kernel_rfl)) (fun _ _ _ h => h) (Or.inl ⟨by rfl, ?_⟩) ?_ ?_
                      rotate_left
                      · intro w'
                        go_simp
                        with_reducible rfl
                      rotate_left
                      · simp only [Act.put, zSa, zSb, zSc, i64_w, i32_w]
                        rfl
                      refine pure_ (i := 3) (N := some 160) (v := ?_) (a' := ?_) #[true, false, true, true, false, false, false, false, false, false, false] rfl rfl (any_of HT_.out (by kernel_rfl)) (fun _ _ _ h => h) (Or.inl ⟨by rfl, ?_⟩) ?_ ?_
                      rotate_left
                      · intro w'
                        go_simp
                        with_reducible rfl
                      rotate_left
                      · simp only [Act.put, zSa, zSb, zSc, i64_w, i32_w]
                        rfl
                      refine pure_ (i := 4) (N := some 161) (v := ?_) (a' := ?_) #[true, false, true, true, true, false, false, false, false, false, false] rfl rfl (any_of HT_.out (by kernel_rfl)) (fun _ _ _ h => h) (Or.inl ⟨by rfl, ?_⟩) ?_ ?_
                      rotate_left
                      · intro w'
                        go_simp
                        with_reducible rfl
                      rotate_left
                      · simp only [Act.put, zSa, zSb, zSc, i64_w, i32_w]
                        rfl
                      refine pure_ (i := 8) (N := some 165) (v := ?_) (a' := ?_) #[true, false, true, true, true, false, false, false, true, false, false] rfl rfl (any_of HT_.out (by kernel_rfl)) (fun _ _ _ h => h) (Or.inl ⟨by rfl, ?_⟩) ?_ ?_
                      rotate_left
                      · intro w'
                        go_simp
                        with_reducible rfl
                      rotate_left
                      · simp only [Act.put, zSa, zSb, zSc, i64_w, i32_w]
                        rfl
                      refine take_ (i := 1) (N := some 158) (v := ?_) (a' := ?_) #[true, true, true, true, true, false, false, false, true, false, false] rfl rfl (take_ofW HT_.out HW_.out (by kernel_rfl)) (fun _ _ _ h => h) (Or.inl ⟨by rfl, ?_⟩) hHeld ?_ ?_
                      rotate_left
                      · rintro w' ⟨s0, s1, s2, s3, s4, s5⟩
                        go_simp
                        with_reducible rfl
                      rotate_left
                      · simp only [Act.put, zSa, zSb, zSc, i64_w, i32_w]
                        rfl
                      refine take_ (i := 5) (N := some 162) (v := ?_) (a' := ?_) #[true, true, true, true, true, true, false, false, true, false, false] rfl rfl (take_ofW HT_.out HW_.out (by kernel_rfl)) (fun _ _ _ h => h) (Or.inl ⟨by rfl, ?_⟩) hHeld ?_ ?_
                      rotate_left
                      · rintro w' ⟨s0, s1, s2, s3, s4, s5⟩
                        go_simp
                        with_reducible rfl
                      rotate_left
                      · simp only [Act.put, zSa, zSb, zSc, i64_w, i32_w]
                        rfl
                      refine pure_ (i := 6) (N := some 163) (v := ?_) (a' := ?_) #[true, true, true, true, true, true, true, false, true, false, false] rfl rfl (any_of HT_.out (by kernel_rfl)) (fun _ _ _ h => h) (Or.inl ⟨by rfl, ?_⟩) ?_ ?_
                      rotate_left
                      · intro w'
                        go_simp
                        with_reducible rfl
                      rotate_left
                      · simp only [Act.put, zSa, zSb, zSc, i64_w, i32_w]
                        rfl
                      refine take_ (i := 7) (N := some 164) (v := ?_) (a' := ?_) #[true, true, true, true, true, true, true, true, true, false, false] rfl rfl (take_ofW HT_.out HW_.out (by kernel_rfl)) (fun _ _ _ h => h) (Or.inl ⟨by rfl, ?_⟩) hHeld ?_ ?_
                      rotate_left
                      · rintro w' ⟨s0, s1, s2, s3, s4, s5⟩
                        go_simp
                        with_reducible rfl
                      rotate_left
                      · simp only [Act.put, zSa, zSb, zSc, i64_w, i32_w]
                        rfl
                      refine one_ (i := 9) (N := some 166) #[true, true, true, true, true, true, true, true, true, true, false] rfl rfl (one_of HT_.out (by kernel_rfl)) (by decide) (fun K hK => ?_)
                      refine goes_ Try.func23 (by kernel_rfl) rfl #[.agg #[.int .i64 ((rd_T39 l0_1 (rd l3 x14_5)).f0), .int .i64 ((rd_T39 l0_1 (rd l3 x14_5)).f1), .int .i64 ((rd_T39 l0_1 (rd l3 x14_5)).f2)], .int .i64 x14_5] (by rfl) rfl rfl (by (try simp only [zMa, zMc, zMn]); first | done | rfl | (simp only [zLd, zLt]; rfl)) ?_
                      with_reducible refine (filigreeref12_other.calls ((rd_T39 l0_1 (rd l3 x14_5)).f0) ((rd_T39 l0_1 (rd l3 x14_5)).f1) ((rd_T39 l0_1 (rd l3 x14_5)).f2) x14_5 t213 _ A95.out).mono ?_
                      rintro e w98 ⟨rfl, hb⟩
                      refine ⟨_, rfl, ?_⟩
                      replace HO_10 := zMk (zRb (by exact uR HO_10.out) hb)
                      replace BK190 := zMk (zKb (g := gb190) (o := .cells #[.int .i64 a0_0, .slice (some ad212) l0_1.length c0_1] 24 (0, 0)) (by (with_reducible repeat (first | refine zKn ?_ _ | refine zKd ?_ | refine zKa ?_ _)); exact BK190.out) hb)
                      replace HB := zMk (zBt (by exact uT HB.out) hb)
                      refine hK.out _ _ ⟨(zKc BK190.out 0).trans rfl, (zKc BK190.out 1).trans rfl, ((HB.out.cell (World.block_lt_of_cell? w _ hw211_0)).trans hw211_0), ((HB.out.cell (World.block_lt_of_cell? w _ hw212_0)).trans hw212_0), ((HB.out.cell (World.block_lt_of_cell? w _ hw212_1)).trans hw212_1), ((HB.out.cell (World.block_lt_of_cell? w _ hw212_2)).trans hw212_2)⟩ (fun hHeld => ?_)
                      clear hK K
                      refine norm_ (a' := ?_) ?_ ?_
                      rotate_left
                      · show Act.put _ (some 166) _ = _
                        simp only [Act.put, zSa, zSb, zSc, i64_w, i32_w]
                        rfl
                      refine pure_ (i := 10) (N := some 14) (v := ?_) (a' := ?_) #[true, true, true, true, true, true, true, true, true, true, true] rfl rfl (any_of HT_.out (by kernel_rfl)) (fun _ _ _ h => h) (Or.inl ⟨by rfl, ?_⟩) ?_ ?_
                      rotate_left
                      · intro w'
                        go_simp
                        with_reducible rfl
                      rotate_left
                      · simp only [Act.put, zSa, zSb, zSc, i64_w, i32_w]
                        rfl
                      refine done_ (done_of HT_.out (by kernel_rfl)) ?_
                      try go_wp2
                      go_roundg k5
                      case measure => have := HJ6.out; have := HJ13.out; have := HK3.out; have := HK4.out; have := HK5.out; omega
                      case rel => exact ⟨(t213), (wrap64 (x15_5 + 1)), (by first | rfl | (simp; done) | (simp [*]; done)), (by first | rfl | (simp; done) | (simp [*]; done)), H', ⟨by have := HJ6.out; have := HJ13.out; have := HK3.out; have := HK4.out; have := HK5.out; omega⟩, ⟨by exact uR HO_10.out⟩, ⟨by (with_reducible repeat (first | refine zKn ?_ _ | refine zKd ?_ | refine zKa ?_ _)); exact BK190.out⟩, ⟨by exact uT HB.out⟩⟩
                  · rw [if_neg c88] at H
                    have c88b0 : decide (x15_5 < a0_0) = false := decide_eq_false c88
                    clear c88
                    by_cases c99 : x14_5 = a1
                    · rw [if_pos c99] at H
                      have c99b0 : (x14_5 == a1) = true := beq_iff_eq.mpr c99
                      have c99b1 : (x14_5 != a1) = false := bne_eq_false_iff_eq.mpr c99
                      clear c99
                      have H' := zMk H
                      clear H
                      have hcz100_0 : wr.cell? ⟨gb190, 0, none⟩ = some (.int .i64 a0_0) := (zKc BK190.out 0).trans rfl
                      have hcz100_1 : wr.cell? ⟨gb190, 1, none⟩ = some (.slice A0_1 l0_1.length c0_1) := (zKc BK190.out 1).trans rfl
                      have hfz100_0 := zKf BK190.out 0
                      have hfz100_1 := zKf BK190.out 1
                      go_wp2
                      go_roundg k5
                      case measure => have := HJ6.out; have := HJ13.out; have := HK3.out; have := HK4.out; have := HK5.out; omega
                      case rel => exact ⟨(wrap64 (x13_4 + 1)), (by first | rfl | (simp; done) | (simp [*]; done)), H', ⟨by have := HJ6.out; have := HJ13.out; have := HK3.out; have := HK4.out; have := HK5.out; omega⟩, ⟨by exact uR HO_10.out⟩, ⟨by (with_reducible repeat (first | refine zKn ?_ _ | refine zKd ?_ | refine zKa ?_ _)); exact BK190.out⟩, ⟨by exact uT HB.out⟩⟩
                    · rw [if_neg c99] at H
                      have c99b0 : (x14_5 == a1) = false := beq_eq_false_iff_ne.mpr c99
                      have c99b1 : (x14_5 != a1) = true := bne_iff_ne.mpr c99
                      obtain rfl := zOi H
                      have hcz101_0 : wr.cell? ⟨gb190, 0, none⟩ = some (.int .i64 a0_0) := (zKc BK190.out 0).trans rfl
                      have hcz101_1 : wr.cell? ⟨gb190, 1, none⟩ = some (.slice A0_1 l0_1.length c0_1) := (zKc BK190.out 1).trans rfl
                      have hfz101_0 := zKf BK190.out 0
                      have hfz101_1 := zKf BK190.out 1
                      go_wp2
                      go_ret
                      exact ⟨by first | rfl | (simp [errW_none, errW_some] <;> rfl) | (simp [*, errW_none, errW_some] <;> rfl), by exact uT HB.out⟩
              · rw [if_neg c80] at H
                have c80b0 : decide (x13_4 < a0_0) = false := decide_eq_false c80
                clear c80
                obtain rfl := zOi H
                have hcz102_0 : wr.cell? ⟨gb190, 0, none⟩ = some (.int .i64 a0_0) := (zKc BK190.out 0).trans rfl
                have hcz102_1 : wr.cell? ⟨gb190, 1, none⟩ = some (.slice A0_1 l0_1.length c0_1) := (zKc BK190.out 1).trans rfl
                have hfz102_0 := zKf BK190.out 0
                have hfz102_1 := zKf BK190.out 1
                go_wp2
                go_ret
                exact ⟨by first | rfl | (simp [errW_none, errW_some] <;> rfl) | (simp [*, errW_none, errW_some] <;> rfl), by exact uT HB.out⟩
  · rw [if_neg c6] at H
    have c6b0 : (t191 == 0) = false := beq_eq_false_iff_ne.mpr c6
    have c6b1 : (t191 != 0) = true := bne_iff_ne.mpr c6
    obtain rfl := zOi H
    go_enter Try.func14, Try.ntmps14
    go_wp2_with (first | ((with_reducible refine gate_dst (N := 4) rfl ?_); (try (refine gate_guard (by rfl) ?_; dsimp only)); refine box_event ?hg (N := 4) ?hd (cs := #[.int .i64 a0_0, .slice A0_1 l0_1.length c0_1]) (t := 24) ?hr ?_; (case hd => rfl); (case hg => rfl); (case hr => first | (go_simp; done)|(go_simp; rfl)|(go_simp; rw [show ∀ x : Int, IntKind.u32.wrap (IntKind.u8.wrap x) = x % 256 from fun x => (by show (x % 256) % 4294967296 = x % 256; omega)])); intro gb190 hg w103 hbox hb; have BK190 := zMk (hbox); have GW190 := zMk ((by rw [hg]; exact (zBs (by exact uT HB.out)) : w.heap.size ≤ gb190)); have GE190 := zMk ((by rw [hg]; exact (zBs (by exact uT HB.out)) : w.heap.size ≤ gb190)); have IGE190 := ownGe GE190.out; replace HB := zMk (zBt (by exact uT HB.out) hb); clear hb hbox hg; have hcz104_0 : w103.cell? ⟨gb190, 0, none⟩ = some (.int .i64 a0_0) := (zKc BK190.out 0).trans rfl; have hcz104_1 : w103.cell? ⟨gb190, 1, none⟩ = some (.slice A0_1 l0_1.length c0_1) := (zKc BK190.out 1).trans rfl; have hfz104_0 := zKf BK190.out 0; have hfz104_1 := zKf BK190.out 1)|((with_reducible refine gate_callee (f := 8) rfl ?_); refine goesL_ (some 17) rfl rfl Try.func8 (by kernel_rfl) rfl #[.agg #[.int .i64 a0_0, .slice A0_1 l0_1.length c0_1]] rfl (by (try simp only [zMa, zMc, zMn]); first |  done|  rfl|  (simp only [zLd, zLt]; rfl)) ?_; (with_reducible refine (filigreeref12_Right.calls k a0_0 _ _ l0_1 t191 _ ?side1 ?side2 A5.out).mono ?_); (case side1 => repeat (first |  exact (Kd.C_below HR0_1.out HB.out)|(with_reducible refine zCa ?_ _)|(with_reducible refine zCn ?_ _)|(with_reducible refine zCd ?_))); (case side2 => exact HC0_1.out); rintro e w105 ⟨rfl, hb⟩; refine ⟨_, rfl, ?_⟩; replace BK190 := zMk (zKb (g := gb190) (o := .cells #[.int .i64 a0_0, .slice A0_1 l0_1.length c0_1] 24 (0, 0)) (by (with_reducible repeat (first |  refine zKn ?_ _|  refine zKd ?_|  refine zKa ?_ _)); exact BK190.out) hb); replace HB := zMk (zBt (by exact uT HB.out) hb)))
    go_ret
    exact ⟨by first | rfl | (simp [errW_none, errW_some] <;> rfl) | (simp [*, errW_none, errW_some] <;> rfl), by exact uT HB.out⟩

end Go.Proofs.Ytnigaojboililaa.A
