/- Lemmas for the statement: the walks of the functions that it reaches, and plain laws. -/
import Derived.Test.YteicpdkembmilaaG1
import Derived.Test.YteicpdkembmilaaG2
import Derived.Test.YteicpdkembmilaaG3
set_option linter.unusedVariables false
set_option linter.unusedSimpArgs false
namespace Go.Proofs.Yteicpdkembmilaa.A
open Go Go.RowKit Go.Proofs.YteicpdkembmilaaW.PrintWords Go.Proofs.YteicpdkembmilaaW.PrintLast Go.Proofs.YteicpdkembmilaaW.PrintMore
attribute [local go_sem] max2_int min2_int max_two min_two max_three min_three max_four min_four
open Go.Proofs.YteicpdkembmilaaW.PrintWords.Kd renaming R_alloc → zRa, R_drewN → zRn, R_drew → zRd, V_alloc → zVa, V_drewN → zVn, V_drew → zVd, V_below → zVb, C_alloc → zCa, C_drewN → zCn, C_drew → zCd, R_mono → zRm, V_mono → zVm, at_int → zAi, R_elder' → zRe, R_lower → zRl, R_new' → zRw, R_lt → zRt, R_below → zRb, R_base → zRz, R_reads' → zRr, R_slice → zRs, V_elder' → zVe, V_lower → zVl, V_slice → zVs, V_reads' → zVr
open Go.Proofs.YteicpdkembmilaaW.PrintWords renaming pw_below_drewN → zBn, below_alloc → zBa, below_drew1 → zBd, below_size → zBs, below_step → zBt, blk_drewN → zKn, blk_drew → zKd, blk_alloc → zKa, blk_below → zKb, blk_cell → zKc, blk_frozen → zKf
open List renaming setIfInBounds_toArray → zSa, set_cons_zero → zSb, set_cons_succ → zSc, length_drop → zLd, length_take → zLt, map_toArray → zMa, map_cons → zMc, map_nil → zMn, length_cons → zLc, length_nil → zLn
open Go.Proofs.YteicpdkembmilaaW.PrintWords.Aside0 renaming mk → zMk
open Option renaming bind_eq_some_iff → zBi, bind_some → zOb
open Option.some renaming inj → zOi
open Int renaming toNat_natCast → zTn

/-! ### filigreelaw04_GraphAgain: function 5 -/
mutual
def filigreelaw04_GraphAgain.j0 : Nat → List Int → List Int → Bool → Int → List (S36) → Option (Bool)
  | 0, _, _, _, _, _ => none
  | k + 1, x1, x2, x30, x150000, x150001 => if x30 = true then ((filigreelaw04_alive.f k).bind fun t151 => (some t151)) else ((graph_Right.f k x150000 x150001).bind fun t152 => (if t152 = 0 then ((some (([] : List (S36)) : List (S36))).bind fun y168 => (if y168.length + x150001.length < 5864062014805 then (filigreelaw04_GraphAgain.l0 k x1 x2 (y168 ++ x150001) 0 x150000 x150001) else (none))) else ((graph_Make.f k x150000 x150001).bind fun bt153 => ((graph_Make.f k x150000 x150001).bind fun bt159 => (if bt153.2.2 = 0 then ((graph_Right.f k bt159.1 bt159.2.1).bind fun t165 => (if t165 = 0 then ((filigreelaw04_alive.f k).bind fun t166 => (some t166)) else (some false))) else ((filigreelaw04_alive.f k).bind fun t167 => (some t167)))))))
def filigreelaw04_GraphAgain.l0 : Nat → List Int → List Int → List (S36) → Int → Int → List (S36) → Option (Bool)
  | 0, _, _, _, _, _, _ => none
  | k + 1, x1, x2, x11, x12, x150000, x150001 => if x12 < (x1.length : Int) then (filigreelaw04_GraphAgain.j2 k x1 x2 x11 x12 (decide (x12 < (x2.length : Int))) x150000 x150001) else (filigreelaw04_GraphAgain.j2 k x1 x2 x11 x12 false x150000 x150001)
def filigreelaw04_GraphAgain.j2 : Nat → List Int → List Int → List (S36) → Int → Bool → Int → List (S36) → Option (Bool)
  | 0, _, _, _, _, _, _, _ => none
  | k + 1, x1, x2, x11, x12, x74, x150000, x150001 => if x74 = true then (if 0 ≤ x12 then (if x12 < (x1.length : Int) then (if (x11.length : Int) = 0 then (none) else (if x12 < (x2.length : Int) then (if (Int.tmod (rd x1 x12) (x11.length : Int)) < 0 then (filigreelaw04_GraphAgain.l0 k x1 x2 x11 (wrap64 (x12 + 1)) x150000 x150001) else (if (Int.tmod (rd x2 x12) (x11.length : Int)) < 0 then (filigreelaw04_GraphAgain.l0 k x1 x2 x11 (wrap64 (x12 + 1)) x150000 x150001) else (if 0 ≤ (Int.tmod (rd x2 x12) (x11.length : Int)) then (if (Int.tmod (rd x2 x12) (x11.length : Int)) < (x11.length : Int) then (if 0 ≤ (Int.tmod (rd x1 x12) (x11.length : Int)) then (if (Int.tmod (rd x1 x12) (x11.length : Int)) < (x11.length : Int) then ((some ((x11.set ((Int.tmod (rd x1 x12) (x11.length : Int)) : Int).toNat (⟨(rd_T36 x11 (Int.tmod (rd x2 x12) (x11.length : Int))).f0, (rd_T36 x11 (Int.tmod (rd x2 x12) (x11.length : Int))).f1, (rd_T36 x11 (Int.tmod (rd x2 x12) (x11.length : Int))).f2⟩ : S36)).set ((Int.tmod (rd x2 x12) (x11.length : Int)) : Int).toNat (⟨(rd_T36 x11 (Int.tmod (rd x1 x12) (x11.length : Int))).f0, (rd_T36 x11 (Int.tmod (rd x1 x12) (x11.length : Int))).f1, (rd_T36 x11 (Int.tmod (rd x1 x12) (x11.length : Int))).f2⟩ : S36) : List (S36))).bind fun y179 => (filigreelaw04_GraphAgain.l0 k x1 x2 (y179.set ((Int.tmod (rd x1 x12) (x11.length : Int)) : Int).toNat (⟨(rd_T36 y179 (Int.tmod (rd x1 x12) (x11.length : Int))).f1, (rd_T36 y179 (Int.tmod (rd x1 x12) (x11.length : Int))).f0, (rd_T36 y179 (Int.tmod (rd x1 x12) (x11.length : Int))).f2⟩ : S36)) (wrap64 (x12 + 1)) x150000 x150001)) else (none)) else (none)) else (none)) else (none)))) else (none))) else (none)) else (none)) else ((graph_Make.f k x150000 x11).bind fun bt184 => (if bt184.2.2 = 0 then ((filigreeref04_Same.f k x150000 x150001 bt184.1 bt184.2.1).bind fun t190 => (if t190 = true then ((graph_Same.f k x150000 x150001 bt184.1 bt184.2.1).bind fun t191 => (if t191 = true then ((filigreelaw04_alive.f k).bind fun t192 => (some t192)) else (some false))) else (some false))) else (some false)))
end
def filigreelaw04_GraphAgain.f (k : Nat) (a0_0 : Int) (l0_1 : List (S36)) (l1 : List Int) (l2 : List Int) : Option (Bool) := (filigreelaw04_Light.f a0_0 l0_1 100).bind fun t150 => (if t150 = true then (if (l1.length : Int) > 100 then (filigreelaw04_GraphAgain.j0 k l1 l2 true a0_0 l0_1) else (filigreelaw04_GraphAgain.j0 k l1 l2 ((l0_1.length : Int) == 0) a0_0 l0_1)) else (filigreelaw04_GraphAgain.j0 k l1 l2 true a0_0 l0_1))
def filigreelaw04_GraphAgain.T11 : Bool × List (List Nat × List Nat) := (true, [([], []), ([], []), ([0, 1], [0, 1]), ([2], [2]), ([], []), ([4], [4]), ([3, 5], [3, 5]), ([], []), ([], []), ([7, 8], [7, 8]), ([9], [9]), ([], []), ([11], [11]), ([10, 12], [10, 12]), ([6, 0, 1, 2, 3, 4, 5, 6], [6]), ([13, 14, 0, 1, 2, 3, 4, 5, 6, 7, 8, 9, 10, 11, 12, 13, 14], [13])])
def filigreelaw04_GraphAgain.B11 : List Nat := [0, 0, 3, 7, 0, 16, 63, 0, 0, 384, 896, 0, 2048, 8064, 127, 32767]
theorem filigreelaw04_GraphAgain.tab11 : rtab .any (opsOf Try.f5 11) = filigreelaw04_GraphAgain.T11 := by kernel_rfl
theorem filigreelaw04_GraphAgain.bits11 : waitsOk filigreelaw04_GraphAgain.T11.2 filigreelaw04_GraphAgain.B11 = true := by kernel_rfl
def filigreelaw04_GraphAgain.T13 : Bool × List (List Nat × List Nat) := (true, [([], []), ([], []), ([], []), ([], []), ([], []), ([], []), ([4, 5], [4, 5]), ([6], [6]), ([], []), ([], []), ([8, 9], [8, 9]), ([10], [10]), ([0, 1, 0, 1, 4, 5, 6, 7, 11], [0, 1]), ([12, 7, 0, 1, 4, 5, 6, 7, 11], [7, 12]), ([2, 3, 0, 1, 2, 3, 4, 5, 6, 7, 8, 9, 10, 11, 12, 13], [2, 3]), ([14, 11, 13, 0, 1, 2, 3, 4, 5, 6, 7, 8, 9, 10, 11, 12, 13], [11, 14])])
def filigreelaw04_GraphAgain.B13 : List Nat := [0, 0, 0, 0, 0, 0, 48, 112, 0, 0, 768, 1792, 4083, 8179, 16383, 32767]
theorem filigreelaw04_GraphAgain.tab13 : rtab .any (opsOf Try.f5 13) = filigreelaw04_GraphAgain.T13 := by kernel_rfl
theorem filigreelaw04_GraphAgain.bits13 : waitsOk filigreelaw04_GraphAgain.T13.2 filigreelaw04_GraphAgain.B13 = true := by kernel_rfl
def filigreelaw04_GraphAgain.T14 : Bool × List (List Nat × List Nat) := (true, [([], []), ([], []), ([], []), ([], []), ([2, 3], [2, 3]), ([4], [4]), ([5], [5]), ([], []), ([], []), ([7, 8], [7, 8]), ([9], [9]), ([10], [10]), ([], []), ([], []), ([12, 13], [12, 13]), ([14], [14]), ([15], [15]), ([6, 11, 16], [6, 11, 16]), ([0, 1, 0, 1, 2, 3, 4, 5, 6, 7, 8, 9, 10, 11, 12, 13, 14, 15, 16, 17], [0, 1]), ([18, 17, 0, 1, 2, 3, 4, 5, 6, 7, 8, 9, 10, 11, 12, 13, 14, 15, 16, 17], [17, 18])])
def filigreelaw04_GraphAgain.B14 : List Nat := [0, 0, 0, 0, 12, 28, 60, 0, 0, 384, 896, 1920, 0, 0, 12288, 28672, 61440, 131068, 262143, 524287]
theorem filigreelaw04_GraphAgain.tab14 : rtab .any (opsOf Try.f5 14) = filigreelaw04_GraphAgain.T14 := by kernel_rfl
theorem filigreelaw04_GraphAgain.bits14 : waitsOk filigreelaw04_GraphAgain.T14.2 filigreelaw04_GraphAgain.B14 = true := by kernel_rfl
set_option maxHeartbeats 8000000 in
set_option maxRecDepth 100000 in
theorem filigreelaw04_GraphAgain.calls (k : Nat) (a0_0 : Int) (A0_1 : Option Addr) (c0_1 : Nat) (l0_1 : List (S36)) (A1 : Option Addr) (c1 : Nat) (l1 : List Int) (A2 : Option Addr) (c2 : Nat) (l2 : List Int) (r : Bool) (w : World) (hr0_1 : Kd.C k36 w A0_1 l0_1.length l0_1) (hc0_1 : l0_1.length ≤ c0_1) (hr1 : Kd.C (Kd.int .i64) w A1 l1.length l1) (hc1 : l1.length ≤ c1) (hr2 : Kd.C (Kd.int .i64) w A2 l2.length l2) (hc2 : l2.length ≤ c2) (h : filigreelaw04_GraphAgain.f k a0_0 l0_1 l1 l2 = some r) (hr_ : r = true) :
    Calls Try.prog 5 #[.agg #[.int .i64 a0_0, .slice A0_1 l0_1.length c0_1], .slice A1 l1.length c1, .slice A2 l2.length c2] w fun e w' => e = .returned (.bool r) ∧ Below w.heap.size w w' := by
  have HRT := zMk hr_
  clear hr_
  have hu24 := Try.underlying24
  have hu36 := Try.underlying36
  have HR0_1 := zMk hr0_1
  have HC0_1 := zMk hc0_1
  clear hr0_1 hc0_1
  have HR1 := zMk hr1
  have HC1 := zMk hc1
  clear hr1 hc1
  have HR2 := zMk hr2
  have HC2 := zMk hc2
  clear hr2 hc2
  have HB := zMk (Below.refl w.heap.size w)
  have H : ((filigreelaw04_Light.f a0_0 l0_1 100).bind fun t150 => (if t150 = true then (if (l1.length : Int) > 100 then (filigreelaw04_GraphAgain.j0 k l1 l2 true a0_0 l0_1) else (filigreelaw04_GraphAgain.j0 k l1 l2 ((l0_1.length : Int) == 0) a0_0 l0_1)) else (filigreelaw04_GraphAgain.j0 k l1 l2 true a0_0 l0_1))) = some r := h
  clear h
  have HC4 := zMk H
  clear H
  go_enter Try.func5, Try.ntmps5
  go_upto_region 1 with (first |  ((with_reducible refine gate_dst (N := 3) rfl ?_); (try (refine gate_guard (by rfl) ?_; dsimp only)); refine box_event ?hg (N := 3) ?hd (cs := #[.int .i64 a0_0, .slice A0_1 l0_1.length c0_1]) (t := 24) ?hr ?_; (case hd => rfl); (case hg => rfl); (case hr => first |  (go_simp; done)|  (go_simp; rfl)|  (go_simp; rw [show ∀ x : Int, IntKind.u32.wrap (IntKind.u8.wrap x) = x % 256 from fun x => (by show (x % 256) % 4294967296 = x % 256; omega)])); intro gb149 hg w5 hbox hb; have BK149 := zMk (hbox); have GW149 := zMk ((by rw [hg]; exact (zBs (by exact uT HB.out)) : w.heap.size ≤ gb149)); have GE149 := zMk ((by rw [hg]; exact (zBs (by exact uT HB.out)) : w.heap.size ≤ gb149)); have IGE149 := ownGe GE149.out; replace HB := zMk (zBt (by exact uT HB.out) hb); clear hb hbox hg))
  (try simp only [Act.put, zSa, zSb, zSc])
  go_cut [30] (fun v30 wc => ∃ (kq : Nat) (x30_3 : Bool), v30 = .bool x30_3 ∧ Aside0 (filigreelaw04_GraphAgain.j0 kq l1 l2 x30_3 a0_0 l0_1 = some r) ∧ Aside0 (kq ≤ k) ∧ Aside0 (wc.heap[gb149]? = some (.cells #[.int .i64 a0_0, (.slice A0_1 l0_1.length c0_1)] 24 (0, 0))) ∧ Aside0 (Below w.heap.size w wc))
  case first =>
    have H := HC4.out
    clear HC4
    replace H := bnd H
    obtain ⟨t150, A60, H⟩ := H
    have A6 := zMk A60
    clear A60
    by_cases c7 : t150 = true
    · subst c7
      replace H : (if (l1.length : Int) > 100 then (filigreelaw04_GraphAgain.j0 k l1 l2 true a0_0 l0_1) else (filigreelaw04_GraphAgain.j0 k l1 l2 ((l0_1.length : Int) == 0) a0_0 l0_1)) = some r := by rw [if_pos rfl] at H; exact H
      by_cases c8 : (l1.length : Int) > 100
      · rw [if_pos c8] at H
        have c8b0 : decide (100 < (l1.length : Int)) = true := decide_eq_true c8
        have c8b1 : decide (100 < l1.length) = true := decide_eq_true (by omega)
        clear c8
        (first | rw [c8b0] | (simp only [i64_w, i32_w]; rw [c8b0]) | rw [c8b1] | skip)
        have H' := zMk H
        clear H
        have hcz9_0 : w5.cell? ⟨gb149, 0, none⟩ = some (.int .i64 a0_0) := (zKc BK149.out 0).trans rfl
        have hcz9_1 : w5.cell? ⟨gb149, 1, none⟩ = some (.slice A0_1 l0_1.length c0_1) := (zKc BK149.out 1).trans rfl
        have hfz9_0 := zKf BK149.out 0
        have hfz9_1 := zKf BK149.out 1
        go_wp2_with (first |  ((with_reducible refine gate_callee (f := 17) rfl ?_); refine goesL_ (some 18) rfl rfl Try.func17 (by kernel_rfl) rfl #[.agg #[.int .i64 a0_0, .slice A0_1 l0_1.length c0_1], .int .i64 100] rfl (by (try simp only [zMa, zMc, zMn]); first |  done|  rfl|  (simp only [zLd, zLt]; rfl)) ?_; (with_reducible refine (filigreelaw04_Light.calls a0_0 _ _ l0_1 100 true _ ?side1 ?side2 A6.out).mono ?_); (case side1 => repeat (first |  exact (Kd.C_below HR0_1.out HB.out)|  (with_reducible refine zCa ?_ _)|  (with_reducible refine zCn ?_ _)|  (with_reducible refine zCd ?_))); (case side2 => exact HC0_1.out); rintro e w10 ⟨rfl, hb⟩; refine ⟨_, rfl, ?_⟩; replace BK149 := zMk (zKb (g := gb149) (o := .cells #[.int .i64 a0_0, .slice A0_1 l0_1.length c0_1] 24 (0, 0)) (by (with_reducible repeat (first |  refine zKn ?_ _|  refine zKd ?_|  refine zKa ?_ _)); exact BK149.out) hb); replace HB := zMk (zBt (by exact uT HB.out) hb); (try clear hb); (try clear hb2); (try clear hk); (try clear hi)))
        go_meet
        case rel => exact ⟨_, (true), (by first | rfl | (simp; done) | (simp [*]; done)), H', ⟨by first | omega | exact Nat.le_refl _⟩, ⟨by (with_reducible repeat (first | refine zKn ?_ _ | refine zKd ?_ | refine zKa ?_ _)); exact BK149.out⟩, ⟨by exact uT HB.out⟩⟩
      · rw [if_neg c8] at H
        have c8b0 : decide (100 < (l1.length : Int)) = false := decide_eq_false c8
        have c8b1 : decide (100 < l1.length) = false := decide_eq_false (by omega)
        clear c8
        (first | rw [c8b0] | (simp only [i64_w, i32_w]; rw [c8b0]) | rw [c8b1] | skip)
        have H' := zMk H
        clear H
        have hcz11_0 : w5.cell? ⟨gb149, 0, none⟩ = some (.int .i64 a0_0) := (zKc BK149.out 0).trans rfl
        have hcz11_1 : w5.cell? ⟨gb149, 1, none⟩ = some (.slice A0_1 l0_1.length c0_1) := (zKc BK149.out 1).trans rfl
        have hfz11_0 := zKf BK149.out 0
        have hfz11_1 := zKf BK149.out 1
        go_wp2_with (first |  ((with_reducible refine gate_callee (f := 17) rfl ?_); refine goesL_ (some 18) rfl rfl Try.func17 (by kernel_rfl) rfl #[.agg #[.int .i64 a0_0, .slice A0_1 l0_1.length c0_1], .int .i64 100] rfl (by (try simp only [zMa, zMc, zMn]); first |  done|  rfl|  (simp only [zLd, zLt]; rfl)) ?_; (with_reducible refine (filigreelaw04_Light.calls a0_0 _ _ l0_1 100 true _ ?side1 ?side2 A6.out).mono ?_); (case side1 => repeat (first |  exact (Kd.C_below HR0_1.out HB.out)|  (with_reducible refine zCa ?_ _)|  (with_reducible refine zCn ?_ _)|  (with_reducible refine zCd ?_))); (case side2 => exact HC0_1.out); rintro e w12 ⟨rfl, hb⟩; refine ⟨_, rfl, ?_⟩; replace BK149 := zMk (zKb (g := gb149) (o := .cells #[.int .i64 a0_0, .slice A0_1 l0_1.length c0_1] 24 (0, 0)) (by (with_reducible repeat (first |  refine zKn ?_ _|  refine zKd ?_|  refine zKa ?_ _)); exact BK149.out) hb); replace HB := zMk (zBt (by exact uT HB.out) hb); (try clear hb); (try clear hb2); (try clear hk); (try clear hi); have hcz13_0 : w12.cell? ⟨gb149, 0, none⟩ = some (.int .i64 a0_0) := (zKc BK149.out 0).trans rfl; have hcz13_1 : w12.cell? ⟨gb149, 1, none⟩ = some (.slice A0_1 l0_1.length c0_1) := (zKc BK149.out 1).trans rfl; have hfz13_0 := zKf BK149.out 0; have hfz13_1 := zKf BK149.out 1))
        go_meet
        case rel => exact ⟨_, (((l0_1.length : Int) == 0)), (by first | rfl | (simp; done) | (simp [*]; done)), H', ⟨by first | omega | exact Nat.le_refl _⟩, ⟨by (with_reducible repeat (first | refine zKn ?_ _ | refine zKd ?_ | refine zKa ?_ _)); exact BK149.out⟩, ⟨by exact uT HB.out⟩⟩
    · replace c7 := Bool.eq_false_iff.mpr c7
      subst c7
      replace H : (filigreelaw04_GraphAgain.j0 k l1 l2 true a0_0 l0_1) = some r := by rw [if_neg (show ¬ (false = true) by decide)] at H; exact H
      have H' := zMk H
      clear H
      have hcz14_0 : w5.cell? ⟨gb149, 0, none⟩ = some (.int .i64 a0_0) := (zKc BK149.out 0).trans rfl
      have hcz14_1 : w5.cell? ⟨gb149, 1, none⟩ = some (.slice A0_1 l0_1.length c0_1) := (zKc BK149.out 1).trans rfl
      have hfz14_0 := zKf BK149.out 0
      have hfz14_1 := zKf BK149.out 1
      go_wp2_with (first |  ((with_reducible refine gate_callee (f := 17) rfl ?_); refine goesL_ (some 18) rfl rfl Try.func17 (by kernel_rfl) rfl #[.agg #[.int .i64 a0_0, .slice A0_1 l0_1.length c0_1], .int .i64 100] rfl (by (try simp only [zMa, zMc, zMn]); first |  done|  rfl|  (simp only [zLd, zLt]; rfl)) ?_; (with_reducible refine (filigreelaw04_Light.calls a0_0 _ _ l0_1 100 false _ ?side1 ?side2 A6.out).mono ?_); (case side1 => repeat (first |  exact (Kd.C_below HR0_1.out HB.out)|  (with_reducible refine zCa ?_ _)|  (with_reducible refine zCn ?_ _)|  (with_reducible refine zCd ?_))); (case side2 => exact HC0_1.out); rintro e w15 ⟨rfl, hb⟩; refine ⟨_, rfl, ?_⟩; replace BK149 := zMk (zKb (g := gb149) (o := .cells #[.int .i64 a0_0, .slice A0_1 l0_1.length c0_1] 24 (0, 0)) (by (with_reducible repeat (first |  refine zKn ?_ _|  refine zKd ?_|  refine zKa ?_ _)); exact BK149.out) hb); replace HB := zMk (zBt (by exact uT HB.out) hb); (try clear hb); (try clear hb2); (try clear hk); (try clear hi)))
      go_meet
      case rel => exact ⟨_, (true), (by first | rfl | (simp; done) | (simp [*]; done)), H', ⟨by first | omega | exact Nat.le_refl _⟩, ⟨by (with_reducible repeat (first | refine zKn ?_ _ | refine zKd ?_ | refine zKa ?_ _)); exact BK149.out⟩, ⟨by exact uT HB.out⟩⟩
  case rest =>
    clear HC4
    obtain ⟨kq, x30_3, rfl, HA, HJ3, BK149, HB⟩ := hcut
    rcases kq with _ | kj3
    · exact absurd HA.out (by simp [filigreelaw04_GraphAgain.j0])
    have H := HA.out
    clear HA
    simp only [filigreelaw04_GraphAgain.j0] at H
    by_cases c16 : x30_3 = true
    · subst c16
      replace H : ((filigreelaw04_alive.f kj3).bind fun t151 => (some t151)) = some r := by rw [if_pos rfl] at H; exact H
      replace H := bnd H
      obtain ⟨t151, A170, H⟩ := H
      have A17 := zMk A170
      clear A170
      obtain rfl := zOi H
      go_wp2_with (first |  ((with_reducible refine gate_callee (f := 13) rfl ?_); refine goesL_ (some 31) rfl rfl Try.func13 (by kernel_rfl) rfl #[] rfl (by (try simp only [zMa, zMc, zMn]); first |  done|  rfl|  (simp only [zLd, zLt]; rfl)) ?_; (with_reducible refine (filigreelaw04_alive.calls kj3  t151 _ A17.out).mono ?_); rintro e w18 ⟨rfl, hb⟩; refine ⟨_, rfl, ?_⟩; replace BK149 := zMk (zKb (g := gb149) (o := .cells #[.int .i64 a0_0, .slice A0_1 l0_1.length c0_1] 24 (0, 0)) (by (with_reducible repeat (first |  refine zKn ?_ _|  refine zKd ?_|  refine zKa ?_ _)); exact BK149.out) hb); replace HB := zMk (zBt (by exact uT HB.out) hb); (try clear hb); (try clear hb2); (try clear hk); (try clear hi)))
      go_ret
      exact ⟨by first | rfl | (simp [errW_none, errW_some] <;> rfl) | (simp [*, errW_none, errW_some] <;> rfl), by exact uT HB.out⟩
    · replace c16 := Bool.eq_false_iff.mpr c16
      subst c16
      replace H : ((graph_Right.f kj3 a0_0 l0_1).bind fun t152 => (if t152 = 0 then ((some (([] : List (S36)) : List (S36))).bind fun y168 => (if y168.length + l0_1.length < 5864062014805 then (filigreelaw04_GraphAgain.l0 kj3 l1 l2 (y168 ++ l0_1) 0 a0_0 l0_1) else (none))) else ((graph_Make.f kj3 a0_0 l0_1).bind fun bt153 => ((graph_Make.f kj3 a0_0 l0_1).bind fun bt159 => (if bt153.2.2 = 0 then ((graph_Right.f kj3 bt159.1 bt159.2.1).bind fun t165 => (if t165 = 0 then ((filigreelaw04_alive.f kj3).bind fun t166 => (some t166)) else (some false))) else ((filigreelaw04_alive.f kj3).bind fun t167 => (some t167))))))) = some r := by rw [if_neg (show ¬ (false = true) by decide)] at H; exact H
      replace H := bnd H
      obtain ⟨t152, A190, H⟩ := H
      have A19 := zMk A190
      clear A190
      by_cases c20 : t152 = 0
      · rw [if_pos c20] at H
        have c20b0 : (t152 == 0) = true := beq_iff_eq.mpr c20
        have c20b1 : (t152 != 0) = false := bne_eq_false_iff_eq.mpr c20
        clear c20
        obtain ⟨y168, hy168⟩ : ∃ y_ : List (S36), y_ = (([] : List (S36))) := ⟨_, rfl⟩
        replace H : (if y168.length + l0_1.length < 5864062014805 then (filigreelaw04_GraphAgain.l0 kj3 l1 l2 (y168 ++ l0_1) 0 a0_0 l0_1) else (none)) = some r := by first | (rw [hy168]; with_reducible exact H) | (have H2_ := bsm H; first | (rw [hy168]; with_reducible exact H2_) | with_reducible exact H2_) | with_reducible exact H | (rw [hy168]; exact H) | exact H
        have Ny168 := zMk hy168
        clear hy168
        by_cases c21 : y168.length + l0_1.length < 5864062014805
        rotate_left
        · rw [if_neg c21] at H; exact absurd H (by simp)
        rw [if_pos c21] at H
        have LMc21 := zMk c21
        clear c21
        obtain ⟨y171, hy171⟩ : ∃ y_ : List (S36), y_ = (y168 ++ l0_1) := ⟨_, rfl⟩
        replace H : (filigreelaw04_GraphAgain.l0 kj3 l1 l2 y171 0 a0_0 l0_1) = some r := by first | (rw [hy171]; with_reducible exact H) | (have H2_ := bsm H; first | (rw [hy171]; with_reducible exact H2_) | with_reducible exact H2_) | with_reducible exact H | (rw [hy171]; exact H) | exact H
        have Ny171 := zMk hy171
        clear hy171
        have H' := zMk H
        clear H
        have hcz22_0 : wc.cell? ⟨gb149, 0, none⟩ = some (.int .i64 a0_0) := (zKc BK149.out 0).trans rfl
        have hcz22_1 : wc.cell? ⟨gb149, 1, none⟩ = some (.slice A0_1 l0_1.length c0_1) := (zKc BK149.out 1).trans rfl
        have hfz22_0 := zKf BK149.out 0
        have hfz22_1 := zKf BK149.out 1
        go_wp2_with (first |  ((with_reducible refine gate_callee (f := 11) rfl ?_); refine goesL_ (some 33) rfl rfl Try.func11 (by kernel_rfl) rfl #[.agg #[.int .i64 a0_0, .slice A0_1 l0_1.length c0_1]] rfl (by (try simp only [zMa, zMc, zMn]); first |  done|  rfl|  (simp only [zLd, zLt]; rfl)) ?_; (with_reducible refine (graph_Right.calls kj3 a0_0 _ _ l0_1 t152 _ ?side1 ?side2 A19.out).mono ?_); (case side1 => repeat (first |  exact (Kd.C_below HR0_1.out HB.out)|  (with_reducible refine zCa ?_ _)|  (with_reducible refine zCn ?_ _)|  (with_reducible refine zCd ?_))); (case side2 => exact HC0_1.out); rintro e w23 ⟨rfl, hb⟩; refine ⟨_, rfl, ?_⟩; replace BK149 := zMk (zKb (g := gb149) (o := .cells #[.int .i64 a0_0, .slice A0_1 l0_1.length c0_1] 24 (0, 0)) (by (with_reducible repeat (first |  refine zKn ?_ _|  refine zKd ?_|  refine zKa ?_ _)); exact BK149.out) hb); replace HB := zMk (zBt (by exact uT HB.out) hb); (try clear hb); (try clear hb2); (try clear hk); (try clear hi))|  ((with_reducible refine gate_dst (N := 61) rfl ?_); (try (refine gate_guard (by rfl) ?_; dsimp only)); refine Kd.R_lit k36 _ 36 ?hg (N := 61) ?hd (xs := ([] : List (S36))) (inner := []) (ok := fun _ => True) (okp := fun _ => True) ?hr ?hp (fun _ hk => hk) trivial (Below.refl _ _) (Nat.le_refl _) (by simp) ?_; (case hd => rfl); (case hg => rfl); (case hr => first |  (go_simp; done)|  (go_simp; rfl)|  (go_simp; rw [show ∀ x : Int, IntKind.u32.wrap (IntKind.u8.wrap x) = x % 256 from fun x => (by show (x % 256) % 4294967296 = x % 256; omega)])); (case hp => exact (Reps.none _ _)); intro v169 w24 ho25 hb hg_ hnew_; clear hg_ hnew_; (first |  rw [← Ny168.out] at ho25|  (simp only [Int.reduceToNat] at ho25; rw [← Ny168.out] at ho25)); have HO170 := zMk (zRl ho25 (zBs (by exact uT HB.out))); replace BK149 := zMk (zKb (g := gb149) (o := .cells #[.int .i64 a0_0, .slice A0_1 l0_1.length c0_1] 24 (0, 0)) (by (with_reducible repeat (first |  refine zKn ?_ _|  refine zKd ?_|  refine zKa ?_ _)); exact BK149.out) hb); replace HB := zMk (zBt (by exact uT HB.out) hb); clear hb ho25; have hcz26_0 : w24.cell? ⟨gb149, 0, none⟩ = some (.int .i64 a0_0) := (zKc BK149.out 0).trans rfl; have hcz26_1 : w24.cell? ⟨gb149, 1, none⟩ = some (.slice A0_1 l0_1.length c0_1) := (zKc BK149.out 1).trans rfl; have hfz26_0 := zKf BK149.out 0; have hfz26_1 := zKf BK149.out 1)|  ((with_reducible refine gate_builtin (b := .append) (xs := #[.tmp 61, .tmp 63]) rfl ?_); (try (refine gate_guard (by rfl) ?_; dsimp only)); at_builtin; refine Kd.R_append_rows k36 (w0 := w) w.heap.size rfl (.tmp 61) (.tmp 63) 22 36 (.agg #[(.int .i64 0), (.int .i64 0), (.int .i64 0)]) 24 rfl Try.underlying22 info36 rfl (by decide) (by omega) v169 y168 l0_1 _ _ _ (fun _ => True) (fun _ => False) rfl rfl ?aO ?aR (fun _ _ h => h) (fun _ h => h.elim) ?aF ?aB ?aS ?aL ?_; (case aR => repeat (first |  exact (Kd.C_below HR0_1.out HB.out)|  (with_reducible refine zCa ?_ _)|  (with_reducible refine zCn ?_ _)|  (with_reducible refine zCd ?_))); (case aB => exact (by exact uT HB.out)); (case aF => exact (fun _ _ => trivial)); (case aO => exact (by exact uR HO170.out)); (case aS => exact (zBs (by exact uT HB.out))); (case aL => have := LMc21.out; omega); intro v172 w27 ho hb hg hat; rw [← Ny171.out] at ho; replace BK149 := zMk (blk_grown (g := gb149) (o := .cells #[.int .i64 a0_0, .slice A0_1 l0_1.length c0_1] 24 (0, 0)) (by (with_reducible repeat (first |  refine zKn ?_ _|  refine zKd ?_|  refine zKa ?_ _)); exact BK149.out) hg (Kd.R_ne HO170.out BK149.out (by decide))); replace HB := zMk (hb); have HO173 := zMk (ho); clear HO170 ho hb hg hat))
        go_loopg [12] kj3 (fun kq v12 w' => ∃ (x11_2 : List (S36)) (x12_2 : Int), v12 = .int .i64 x12_2 ∧ Aside0 (filigreelaw04_GraphAgain.l0 kq l1 l2 x11_2 x12_2 a0_0 l0_1 = some r) ∧ Aside0 (kq ≤ kj3) ∧ Aside0 (Kd.R k36 36 w' w.heap.size (fun _ => True) v172 x11_2) ∧ Aside0 (w'.heap[gb149]? = some (.cells #[.int .i64 a0_0, (.slice A0_1 l0_1.length c0_1)] 24 (0, 0))) ∧ Aside0 (Below w.heap.size w w'))
        case atStart => exact ⟨(y171), (0), (by first | rfl | (simp; done) | (simp [*]; done)), H', ⟨Nat.le_refl _⟩, ⟨by exact uR HO173.out⟩, ⟨by (with_reducible repeat (first | refine zKn ?_ _ | refine zKd ?_ | refine zKa ?_ _)); exact BK149.out⟩, ⟨by exact uT HB.out⟩⟩
        clear H'
        obtain ⟨x11_2, x12_2, rfl, HA, HK2, HO_11, BK149, HB⟩ := hrel
        rcases gk with _ | k2
        · exact absurd HA.out (by simp [filigreelaw04_GraphAgain.l0])
        have H := HA.out
        clear HA
        simp only [filigreelaw04_GraphAgain.l0] at H
        have HC28 := zMk H
        clear H
        go_upto_region 9 with (fail)
        go_cut [74] (fun v74 wc => ∃ (kq : Nat) (x74_27 : Bool), v74 = .bool x74_27 ∧ Aside0 (filigreelaw04_GraphAgain.j2 kq l1 l2 x11_2 x12_2 x74_27 a0_0 l0_1 = some r) ∧ Aside0 (kq ≤ k2) ∧ Aside0 (Kd.R k36 36 wc w.heap.size (fun _ => True) v172 x11_2) ∧ Aside0 (wc.heap[gb149]? = some (.cells #[.int .i64 a0_0, (.slice A0_1 l0_1.length c0_1)] 24 (0, 0))) ∧ Aside0 (Below w.heap.size w wc))
        case first =>
          have H := HC28.out
          clear HC28
          by_cases c29 : x12_2 < (l1.length : Int)
          · rw [if_pos c29] at H
            have c29b0 : decide (x12_2 < (l1.length : Int)) = true := decide_eq_true c29
            clear c29
            (first | rw [c29b0] | (simp only [i64_w, i32_w]; rw [c29b0]) | rw [c29b1] | skip)
            have H' := zMk H
            clear H
            go_wp2
            go_meet
            case rel => exact ⟨_, (decide (x12_2 < (l2.length : Int))), (by first | rfl | (simp; done) | (simp [*]; done)), H', ⟨by have := HJ3.out; have := HK2.out; first | omega | exact Nat.le_refl _⟩, ⟨by exact uR HO_11.out⟩, ⟨by (with_reducible repeat (first | refine zKn ?_ _ | refine zKd ?_ | refine zKa ?_ _)); exact BK149.out⟩, ⟨by exact uT HB.out⟩⟩
          · rw [if_neg c29] at H
            have c29b0 : decide (x12_2 < (l1.length : Int)) = false := decide_eq_false c29
            clear c29
            (first | rw [c29b0] | (simp only [i64_w, i32_w]; rw [c29b0]) | rw [c29b1] | skip)
            have H' := zMk H
            clear H
            go_wp2
            go_meet
            case rel => exact ⟨_, (false), (by first | rfl | (simp; done) | (simp [*]; done)), H', ⟨by have := HJ3.out; have := HK2.out; first | omega | exact Nat.le_refl _⟩, ⟨by exact uR HO_11.out⟩, ⟨by (with_reducible repeat (first | refine zKn ?_ _ | refine zKd ?_ | refine zKa ?_ _)); exact BK149.out⟩, ⟨by exact uT HB.out⟩⟩
        case rest =>
          clear HC28
          obtain ⟨kq, x74_27, rfl, HA, HJ27, HO_11, BK149, HB⟩ := hcut
          rcases kq with _ | kj27
          · exact absurd HA.out (by simp [filigreelaw04_GraphAgain.j2])
          have H := HA.out
          clear HA
          simp only [filigreelaw04_GraphAgain.j2] at H
          by_cases c30 : x74_27 = true
          · subst c30
            replace H : (if 0 ≤ x12_2 then (if x12_2 < (l1.length : Int) then (if (x11_2.length : Int) = 0 then (none) else (if x12_2 < (l2.length : Int) then (if (Int.tmod (rd l1 x12_2) (x11_2.length : Int)) < 0 then (filigreelaw04_GraphAgain.l0 kj27 l1 l2 x11_2 (wrap64 (x12_2 + 1)) a0_0 l0_1) else (if (Int.tmod (rd l2 x12_2) (x11_2.length : Int)) < 0 then (filigreelaw04_GraphAgain.l0 kj27 l1 l2 x11_2 (wrap64 (x12_2 + 1)) a0_0 l0_1) else (if 0 ≤ (Int.tmod (rd l2 x12_2) (x11_2.length : Int)) then (if (Int.tmod (rd l2 x12_2) (x11_2.length : Int)) < (x11_2.length : Int) then (if 0 ≤ (Int.tmod (rd l1 x12_2) (x11_2.length : Int)) then (if (Int.tmod (rd l1 x12_2) (x11_2.length : Int)) < (x11_2.length : Int) then ((some ((x11_2.set ((Int.tmod (rd l1 x12_2) (x11_2.length : Int)) : Int).toNat (⟨(rd_T36 x11_2 (Int.tmod (rd l2 x12_2) (x11_2.length : Int))).f0, (rd_T36 x11_2 (Int.tmod (rd l2 x12_2) (x11_2.length : Int))).f1, (rd_T36 x11_2 (Int.tmod (rd l2 x12_2) (x11_2.length : Int))).f2⟩ : S36)).set ((Int.tmod (rd l2 x12_2) (x11_2.length : Int)) : Int).toNat (⟨(rd_T36 x11_2 (Int.tmod (rd l1 x12_2) (x11_2.length : Int))).f0, (rd_T36 x11_2 (Int.tmod (rd l1 x12_2) (x11_2.length : Int))).f1, (rd_T36 x11_2 (Int.tmod (rd l1 x12_2) (x11_2.length : Int))).f2⟩ : S36) : List (S36))).bind fun y179 => (filigreelaw04_GraphAgain.l0 kj27 l1 l2 (y179.set ((Int.tmod (rd l1 x12_2) (x11_2.length : Int)) : Int).toNat (⟨(rd_T36 y179 (Int.tmod (rd l1 x12_2) (x11_2.length : Int))).f1, (rd_T36 y179 (Int.tmod (rd l1 x12_2) (x11_2.length : Int))).f0, (rd_T36 y179 (Int.tmod (rd l1 x12_2) (x11_2.length : Int))).f2⟩ : S36)) (wrap64 (x12_2 + 1)) a0_0 l0_1)) else (none)) else (none)) else (none)) else (none)))) else (none))) else (none)) else (none)) = some r := by rw [if_pos rfl] at H; exact H
            by_cases c31 : 0 ≤ x12_2
            rotate_left
            · rw [if_neg c31] at H; exact absurd H (by simp)
            rw [if_pos c31] at H
            have c31b0 : decide (0 ≤ x12_2) = true := decide_eq_true c31
            clear c31
            by_cases c32 : x12_2 < (l1.length : Int)
            rotate_left
            · rw [if_neg c32] at H; exact absurd H (by simp)
            rw [if_pos c32] at H
            have c32b0 : decide (x12_2 < (l1.length : Int)) = true := decide_eq_true c32
            clear c32
            by_cases c33 : (x11_2.length : Int) = 0
            · rw [if_pos c33] at H
              exact absurd H (by simp)
            · rw [if_neg c33] at H
              have c33b0 : ((x11_2.length : Int) == 0) = false := beq_eq_false_iff_ne.mpr c33
              have c33b1 : ((x11_2.length : Int) != 0) = true := bne_iff_ne.mpr c33
              have c33b2 : ¬ (x11_2 = []) := fun h_ => c33 (by rw [h_]; rfl)
              by_cases c34 : x12_2 < (l2.length : Int)
              rotate_left
              · rw [if_neg c34] at H; exact absurd H (by simp)
              rw [if_pos c34] at H
              have c34b0 : decide (x12_2 < (l2.length : Int)) = true := decide_eq_true c34
              clear c34
              by_cases c35 : (Int.tmod (rd l1 x12_2) (x11_2.length : Int)) < 0
              · rw [if_pos c35] at H
                have c35b0 : decide ((Int.tmod (rd l1 x12_2) (x11_2.length : Int)) < 0) = true := decide_eq_true c35
                clear c35
                have H' := zMk H
                clear H
                try go_wp2
                replace HO_11 := zMk (zRd HO_11.out)
                replace BK149 := zMk (zKd BK149.out)
                replace HB := zMk (zBd HB.out)
                have p174 : 0 ≤ (x12_2 : Int) := of_decide_eq_true (by first | (with_reducible assumption) | assumption)
                have q174 : x12_2 < (l1.length : Int) := of_decide_eq_true (by first | (with_reducible assumption) | assumption)
                obtain ⟨ad174, e174, hx174_0⟩ := zAi HR1.out x12_2 p174 q174
                have hw174_0 := hx174_0
                cases e174
                replace hx174_0 := (HB.out.cell (World.block_lt_of_cell? w _ hx174_0)).trans hx174_0
                replace p174 := eq_true p174
                replace q174 := eq_true q174
                obtain ⟨Ao37, co37, eo37⟩ := zRs HO_11.out
                (first |  subst eo37|  (injection eo37 with f1_ f2_ f3_; have f4_ := f1_.symm; have f5_ := f3_.symm; clear f1_ f2_ f3_; subst f4_; subst f5_))
                have p175 : 0 ≤ (x12_2 : Int) := of_decide_eq_true (by first | (with_reducible assumption) | assumption)
                have q175 : x12_2 < (l2.length : Int) := of_decide_eq_true (by first | (with_reducible assumption) | assumption)
                obtain ⟨ad175, e175, hx175_0⟩ := zAi HR2.out x12_2 p175 q175
                have hw175_0 := hx175_0
                cases e175
                replace hx175_0 := (HB.out.cell (World.block_lt_of_cell? w _ hx175_0)).trans hx175_0
                replace p175 := eq_true p175
                replace q175 := eq_true q175
                refine start_ (n := 16) (S := fun w' => w'.cell? (ad174.add (x12_2).toNat) = some (.int .i64 (rd l1 x12_2)) ∧ w'.cell? (ad175.add (x12_2).toNat) = some (.int .i64 (rd l2 x12_2))) (ds := []) #[false, false, false, false, false, false, false, false, false, false, false, false, false, false, false, false] (by kernel_rfl) rfl rfl ⟨((HB.out.cell (World.block_lt_of_cell? w _ hw174_0)).trans hw174_0), ((HB.out.cell (World.block_lt_of_cell? w _ hw175_0)).trans hw175_0)⟩ (fun hHeld => ?_); refine with_tabW filigreelaw04_GraphAgain.tab11 filigreelaw04_GraphAgain.bits11 (fun HT_ HW_ => ?_)
                generalize wc.drew = w36 at HO_11 BK149 HB hx174_0 hx175_0 hHeld ⊢
                refine pure_ (i := 0) (N := some 77) (v := ?_) (a' := ?_) #[true, false, false, false, false, false, false, false, false, false, false, false, false, false, false, false] rfl rfl (any_of HT_.out (by kernel_rfl)) (fun _ _ _ h => h) (Or.inl ⟨by rfl, ?_⟩) ?_ ?_
                rotate_left
                · intro w'
                  go_simp
                  with_reducible rfl
                rotate_left
                · simp only [Act.put, zSa, zSb, zSc, i64_w, i32_w]
                  rfl
                refine pure_ (i := 1) (N := some 78) (v := ?_) (a' := ?_) #[true, true, false, false, false, false, false, false, false, false, false, false, false, false, false, false] rfl rfl (any_of HT_.out (by kernel_rfl)) (fun _ _ _ h => h) (Or.inl ⟨by rfl, ?_⟩) ?_ ?_
                rotate_left
                · intro w'
                  go_simp
                  with_reducible rfl
                rotate_left
                · simp only [Act.put, zSa, zSb, zSc, i64_w, i32_w]
                  rfl
                refine pure_ (i := 2) (N := some 79) (v := ?_) (a' := ?_) #[true, true, true, false, false, false, false, false, false, false, false, false, false, false, false, false] rfl rfl (any_of HT_.out (by kernel_rfl)) (fun _ _ _ h => h) (Or.inl ⟨by rfl, ?_⟩) ?_ ?_
                rotate_left
                · intro w'
                  go_simp
                  with_reducible rfl
                rotate_left
                · simp only [Act.put, zSa, zSb, zSc, i64_w, i32_w]
                  rfl
                refine pure_ (i := 4) (N := some 81) (v := ?_) (a' := ?_) #[true, true, true, false, true, false, false, false, false, false, false, false, false, false, false, false] rfl rfl (any_of HT_.out (by kernel_rfl)) (fun _ _ _ h => h) (Or.inl ⟨by rfl, ?_⟩) ?_ ?_
                rotate_left
                · intro w'
                  go_simp
                  with_reducible rfl
                rotate_left
                · simp only [Act.put, zSa, zSb, zSc, i64_w, i32_w]
                  rfl
                refine pure_ (i := 5) (N := some 82) (v := ?_) (a' := ?_) #[true, true, true, false, true, true, false, false, false, false, false, false, false, false, false, false] rfl rfl (any_of HT_.out (by kernel_rfl)) (fun _ _ _ h => h) (Or.inl ⟨by rfl, ?_⟩) ?_ ?_
                rotate_left
                · intro w'
                  go_simp
                  with_reducible rfl
                rotate_left
                · simp only [Act.put, zSa, zSb, zSc, i64_w, i32_w]
                  rfl
                refine pure_ (i := 7) (N := some 84) (v := ?_) (a' := ?_) #[true, true, true, false, true, true, false, true, false, false, false, false, false, false, false, false] rfl rfl (any_of HT_.out (by kernel_rfl)) (fun _ _ _ h => h) (Or.inl ⟨by rfl, ?_⟩) ?_ ?_
                rotate_left
                · intro w'
                  go_simp
                  with_reducible rfl
                rotate_left
                · simp only [Act.put, zSa, zSb, zSc, i64_w, i32_w]
                  rfl
                refine pure_ (i := 8) (N := some 85) (v := ?_) (a' := ?_) #[true, true, true, false, true, true, false, true, true, false, false, false, false, false, false, false] rfl rfl (any_of HT_.out (by kernel_rfl)) (fun _ _ _ h => h) (Or.inl ⟨by rfl, ?_⟩) ?_ ?_
                rotate_left
                · intro w'
                  go_simp
                  with_reducible rfl
                rotate_left
                · simp only [Act.put, zSa, zSb, zSc, i64_w, i32_w]
                  rfl
                refine pure_ (i := 9) (N := some 86) (v := ?_) (a' := ?_) #[true, true, true, false, true, true, false, true, true, true, false, false, false, false, false, false] rfl rfl (any_of HT_.out (by kernel_rfl)) (fun _ _ _ h => h) (Or.inl ⟨by rfl, ?_⟩) ?_ ?_
                rotate_left
                · intro w'
                  go_simp
                  with_reducible rfl
                rotate_left
                · simp only [Act.put, zSa, zSb, zSc, i64_w, i32_w]
                  rfl
                refine pure_ (i := 11) (N := some 88) (v := ?_) (a' := ?_) #[true, true, true, false, true, true, false, true, true, true, false, true, false, false, false, false] rfl rfl (any_of HT_.out (by kernel_rfl)) (fun _ _ _ h => h) (Or.inl ⟨by rfl, ?_⟩) ?_ ?_
                rotate_left
                · intro w'
                  go_simp
                  with_reducible rfl
                rotate_left
                · simp only [Act.put, zSa, zSb, zSc, i64_w, i32_w]
                  rfl
                refine pure_ (i := 12) (N := some 89) (v := ?_) (a' := ?_) #[true, true, true, false, true, true, false, true, true, true, false, true, true, false, false, false] rfl rfl (any_of HT_.out (by kernel_rfl)) (fun _ _ _ h => h) (Or.inl ⟨by rfl, ?_⟩) ?_ ?_
                rotate_left
                · intro w'
                  go_simp
                  with_reducible rfl
                rotate_left
                · simp only [Act.put, zSa, zSb, zSc, i64_w, i32_w]
                  rfl
                refine take_ (i := 3) (N := some 80) (v := ?_) (a' := ?_) #[true, true, true, true, true, true, false, true, true, true, false, true, true, false, false, false] rfl rfl (take_ofW HT_.out HW_.out (by kernel_rfl)) (fun _ _ _ h => h) (Or.inl ⟨by rfl, ?_⟩) hHeld ?_ ?_
                rotate_left
                · rintro w' ⟨s0, s1⟩
                  go_simp
                  with_reducible rfl
                rotate_left
                · simp only [Act.put, zSa, zSb, zSc, i64_w, i32_w]
                  rfl
                refine pure_ (i := 6) (N := some 83) (v := ?_) (a' := ?_) #[true, true, true, true, true, true, true, true, true, true, false, true, true, false, false, false] rfl rfl (any_of HT_.out (by kernel_rfl)) (fun _ _ _ h => h) (Or.inl ⟨by rfl, ?_⟩) ?_ ?_
                rotate_left
                · intro w'
                  go_simp
                  with_reducible rfl
                rotate_left
                · simp only [Act.put, zSa, zSb, zSc, i64_w, i32_w]
                  rfl
                refine pure_ (i := 14) (N := some 13) (v := ?_) (a' := ?_) #[true, true, true, true, true, true, true, true, true, true, false, true, true, false, true, false] rfl rfl (any_of HT_.out (by kernel_rfl)) (fun _ _ _ h => h) (Or.inl ⟨by rfl, ?_⟩) ?_ ?_
                rotate_left
                · intro w'
                  go_simp
                  with_reducible rfl
                rotate_left
                · simp only [Act.put, zSa, zSb, zSc, i64_w, i32_w]
                  rfl
                refine take_ (i := 10) (N := some 87) (v := ?_) (a' := ?_) #[true, true, true, true, true, true, true, true, true, true, true, true, true, false, true, false] rfl rfl (take_ofW HT_.out HW_.out (by kernel_rfl)) (fun _ _ _ h => h) (Or.inl ⟨by rfl, ?_⟩) hHeld ?_ ?_
                rotate_left
                · rintro w' ⟨s0, s1⟩
                  go_simp
                  with_reducible rfl
                rotate_left
                · simp only [Act.put, zSa, zSb, zSc, i64_w, i32_w]
                  rfl
                refine pure_ (i := 13) (N := some 90) (v := ?_) (a' := ?_) #[true, true, true, true, true, true, true, true, true, true, true, true, true, true, true, false] rfl rfl (any_of HT_.out (by kernel_rfl)) (fun _ _ _ h => h) (Or.inl ⟨by rfl, ?_⟩) ?_ ?_
                rotate_left
                · intro w'
                  go_simp
                  with_reducible rfl
                rotate_left
                · simp only [Act.put, zSa, zSb, zSc, i64_w, i32_w]
                  rfl
                refine pure_ (i := 15) (N := some 14) (v := ?_) (a' := ?_) #[true, true, true, true, true, true, true, true, true, true, true, true, true, true, true, true] rfl rfl (any_of HT_.out (by kernel_rfl)) (fun _ _ _ h => h) (Or.inl ⟨by rfl, ?_⟩) ?_ ?_
                rotate_left
                · intro w'
                  go_simp
                  with_reducible rfl
                rotate_left
                · simp only [Act.put, zSa, zSb, zSc, i64_w, i32_w]
                  rfl
                refine done_ (done_of HT_.out (by kernel_rfl)) ?_
                try go_wp2
                go_roundg kj27
                case measure => have := HJ3.out; have := HK2.out; have := HJ27.out; omega
                case rel => exact ⟨(x11_2), (wrap64 (x12_2 + 1)), (by first | rfl | (simp; done) | (simp [*]; done)), H', ⟨by have := HJ3.out; have := HK2.out; have := HJ27.out; omega⟩, ⟨by exact uR HO_11.out⟩, ⟨by (with_reducible repeat (first | refine zKn ?_ _ | refine zKd ?_ | refine zKa ?_ _)); exact BK149.out⟩, ⟨by exact uT HB.out⟩⟩
              · rw [if_neg c35] at H
                have c35b0 : decide ((Int.tmod (rd l1 x12_2) (x11_2.length : Int)) < 0) = false := decide_eq_false c35
                clear c35
                by_cases c38 : (Int.tmod (rd l2 x12_2) (x11_2.length : Int)) < 0
                · rw [if_pos c38] at H
                  have c38b0 : decide ((Int.tmod (rd l2 x12_2) (x11_2.length : Int)) < 0) = true := decide_eq_true c38
                  clear c38
                  have H' := zMk H
                  clear H
                  try go_wp2
                  replace HO_11 := zMk (zRd HO_11.out)
                  replace BK149 := zMk (zKd BK149.out)
                  replace HB := zMk (zBd HB.out)
                  have p174 : 0 ≤ (x12_2 : Int) := of_decide_eq_true (by first | (with_reducible assumption) | assumption)
                  have q174 : x12_2 < (l1.length : Int) := of_decide_eq_true (by first | (with_reducible assumption) | assumption)
                  obtain ⟨ad174, e174, hx174_0⟩ := zAi HR1.out x12_2 p174 q174
                  have hw174_0 := hx174_0
                  cases e174
                  replace hx174_0 := (HB.out.cell (World.block_lt_of_cell? w _ hx174_0)).trans hx174_0
                  replace p174 := eq_true p174
                  replace q174 := eq_true q174
                  obtain ⟨Ao40, co40, eo40⟩ := zRs HO_11.out
                  (first |  subst eo40|  (injection eo40 with f1_ f2_ f3_; have f4_ := f1_.symm; have f5_ := f3_.symm; clear f1_ f2_ f3_; subst f4_; subst f5_))
                  have p175 : 0 ≤ (x12_2 : Int) := of_decide_eq_true (by first | (with_reducible assumption) | assumption)
                  have q175 : x12_2 < (l2.length : Int) := of_decide_eq_true (by first | (with_reducible assumption) | assumption)
                  obtain ⟨ad175, e175, hx175_0⟩ := zAi HR2.out x12_2 p175 q175
                  have hw175_0 := hx175_0
                  cases e175
                  replace hx175_0 := (HB.out.cell (World.block_lt_of_cell? w _ hx175_0)).trans hx175_0
                  replace p175 := eq_true p175
                  replace q175 := eq_true q175
                  refine start_ (n := 16) (S := fun w' => w'.cell? (ad174.add (x12_2).toNat) = some (.int .i64 (rd l1 x12_2)) ∧ w'.cell? (ad175.add (x12_2).toNat) = some (.int .i64 (rd l2 x12_2))) (ds := []) #[false, false, false, false, false, false, false, false, false, false, false, false, false, false, false, false] (by kernel_rfl) rfl rfl ⟨((HB.out.cell (World.block_lt_of_cell? w _ hw174_0)).trans hw174_0), ((HB.out.cell (World.block_lt_of_cell? w _ hw175_0)).trans hw175_0)⟩ (fun hHeld => ?_); refine with_tabW filigreelaw04_GraphAgain.tab11 filigreelaw04_GraphAgain.bits11 (fun HT_ HW_ => ?_)
                  generalize wc.drew = w39 at HO_11 BK149 HB hx174_0 hx175_0 hHeld ⊢
                  refine pure_ (i := 0) (N := some 77) (v := ?_) (a' := ?_) #[true, false, false, false, false, false, false, false, false, false, false, false, false, false, false, false] rfl rfl (any_of HT_.out (by kernel_rfl)) (fun _ _ _ h => h) (Or.inl ⟨by rfl, ?_⟩) ?_ ?_
                  rotate_left
                  · intro w'
                    go_simp
                    with_reducible rfl
                  rotate_left
                  · simp only [Act.put, zSa, zSb, zSc, i64_w, i32_w]
                    rfl
                  refine pure_ (i := 1) (N := some 78) (v := ?_) (a' := ?_) #[true, true, false, false, false, false, false, false, false, false, false, false, false, false, false, false] rfl rfl (any_of HT_.out (by kernel_rfl)) (fun _ _ _ h => h) (Or.inl ⟨by rfl, ?_⟩) ?_ ?_
                  rotate_left
                  · intro w'
                    go_simp
                    with_reducible rfl
                  rotate_left
                  · simp only [Act.put, zSa, zSb, zSc, i64_w, i32_w]
                    rfl
                  refine pure_ (i := 2) (N := some 79) (v := ?_) (a' := ?_) #[true, true, true, false, false, false, false, false, false, false, false, false, false, false, false, false] rfl rfl (any_of HT_.out (by kernel_rfl)) (fun _ _ _ h => h) (Or.inl ⟨by rfl, ?_⟩) ?_ ?_
                  rotate_left
                  · intro w'
                    go_simp
                    with_reducible rfl
                  rotate_left
                  · simp only [Act.put, zSa, zSb, zSc, i64_w, i32_w]
                    rfl
                  refine pure_ (i := 4) (N := some 81) (v := ?_) (a' := ?_) #[true, true, true, false, true, false, false, false, false, false, false, false, false, false, false, false] rfl rfl (any_of HT_.out (by kernel_rfl)) (fun _ _ _ h => h) (Or.inl ⟨by rfl, ?_⟩) ?_ ?_
                  rotate_left
                  · intro w'
                    go_simp
                    with_reducible rfl
                  rotate_left
                  · simp only [Act.put, zSa, zSb, zSc, i64_w, i32_w]
                    rfl
                  refine pure_ (i := 5) (N := some 82) (v := ?_) (a' := ?_) #[true, true, true, false, true, true, false, false, false, false, false, false, false, false, false, false] rfl rfl (any_of HT_.out (by kernel_rfl)) (fun _ _ _ h => h) (Or.inl ⟨by rfl, ?_⟩) ?_ ?_
                  rotate_left
                  · intro w'
                    go_simp
                    with_reducible rfl
                  rotate_left
                  · simp only [Act.put, zSa, zSb, zSc, i64_w, i32_w]
                    rfl
                  refine pure_ (i := 7) (N := some 84) (v := ?_) (a' := ?_) #[true, true, true, false, true, true, false, true, false, false, false, false, false, false, false, false] rfl rfl (any_of HT_.out (by kernel_rfl)) (fun _ _ _ h => h) (Or.inl ⟨by rfl, ?_⟩) ?_ ?_
                  rotate_left
                  · intro w'
                    go_simp
                    with_reducible rfl
                  rotate_left
                  · simp only [Act.put, zSa, zSb, zSc, i64_w, i32_w]
                    rfl
                  refine pure_ (i := 8) (N := some 85) (v := ?_) (a' := ?_) #[true, true, true, false, true, true, false, true, true, false, false, false, false, false, false, false] rfl rfl (any_of HT_.out (by kernel_rfl)) (fun _ _ _ h => h) (Or.inl ⟨by rfl, ?_⟩) ?_ ?_
                  rotate_left
                  · intro w'
                    go_simp
                    with_reducible rfl
                  rotate_left
                  · simp only [Act.put, zSa, zSb, zSc, i64_w, i32_w]
                    rfl
                  refine pure_ (i := 9) (N := some 86) (v := ?_) (a' := ?_) #[true, true, true, false, true, true, false, true, true, true, false, false, false, false, false, false] rfl rfl (any_of HT_.out (by kernel_rfl)) (fun _ _ _ h => h) (Or.inl ⟨by rfl, ?_⟩) ?_ ?_
                  rotate_left
                  · intro w'
                    go_simp
                    with_reducible rfl
                  rotate_left
                  · simp only [Act.put, zSa, zSb, zSc, i64_w, i32_w]
                    rfl
                  refine pure_ (i := 11) (N := some 88) (v := ?_) (a' := ?_) #[true, true, true, false, true, true, false, true, true, true, false, true, false, false, false, false] rfl rfl (any_of HT_.out (by kernel_rfl)) (fun _ _ _ h => h) (Or.inl ⟨by rfl, ?_⟩) ?_ ?_
                  rotate_left
                  · intro w'
                    go_simp
                    with_reducible rfl
                  rotate_left
                  · simp only [Act.put, zSa, zSb, zSc, i64_w, i32_w]
                    rfl
                  refine pure_ (i := 12) (N := some 89) (v := ?_) (a' := ?_) #[true, true, true, false, true, true, false, true, true, true, false, true, true, false, false, false] rfl rfl (any_of HT_.out (by kernel_rfl)) (fun _ _ _ h => h) (Or.inl ⟨by rfl, ?_⟩) ?_ ?_
                  rotate_left
                  · intro w'
                    go_simp
                    with_reducible rfl
                  rotate_left
                  · simp only [Act.put, zSa, zSb, zSc, i64_w, i32_w]
                    rfl
                  refine take_ (i := 3) (N := some 80) (v := ?_) (a' := ?_) #[true, true, true, true, true, true, false, true, true, true, false, true, true, false, false, false] rfl rfl (take_ofW HT_.out HW_.out (by kernel_rfl)) (fun _ _ _ h => h) (Or.inl ⟨by rfl, ?_⟩) hHeld ?_ ?_
                  rotate_left
                  · rintro w' ⟨s0, s1⟩
                    go_simp
                    with_reducible rfl
                  rotate_left
                  · simp only [Act.put, zSa, zSb, zSc, i64_w, i32_w]
                    rfl
                  refine pure_ (i := 6) (N := some 83) (v := ?_) (a' := ?_) #[true, true, true, true, true, true, true, true, true, true, false, true, true, false, false, false] rfl rfl (any_of HT_.out (by kernel_rfl)) (fun _ _ _ h => h) (Or.inl ⟨by rfl, ?_⟩) ?_ ?_
                  rotate_left
                  · intro w'
                    go_simp
                    with_reducible rfl
                  rotate_left
                  · simp only [Act.put, zSa, zSb, zSc, i64_w, i32_w]
                    rfl
                  refine pure_ (i := 14) (N := some 13) (v := ?_) (a' := ?_) #[true, true, true, true, true, true, true, true, true, true, false, true, true, false, true, false] rfl rfl (any_of HT_.out (by kernel_rfl)) (fun _ _ _ h => h) (Or.inl ⟨by rfl, ?_⟩) ?_ ?_
                  rotate_left
                  · intro w'
                    go_simp
                    with_reducible rfl
                  rotate_left
                  · simp only [Act.put, zSa, zSb, zSc, i64_w, i32_w]
                    rfl
                  refine take_ (i := 10) (N := some 87) (v := ?_) (a' := ?_) #[true, true, true, true, true, true, true, true, true, true, true, true, true, false, true, false] rfl rfl (take_ofW HT_.out HW_.out (by kernel_rfl)) (fun _ _ _ h => h) (Or.inl ⟨by rfl, ?_⟩) hHeld ?_ ?_
                  rotate_left
                  · rintro w' ⟨s0, s1⟩
                    go_simp
                    with_reducible rfl
                  rotate_left
                  · simp only [Act.put, zSa, zSb, zSc, i64_w, i32_w]
                    rfl
                  refine pure_ (i := 13) (N := some 90) (v := ?_) (a' := ?_) #[true, true, true, true, true, true, true, true, true, true, true, true, true, true, true, false] rfl rfl (any_of HT_.out (by kernel_rfl)) (fun _ _ _ h => h) (Or.inl ⟨by rfl, ?_⟩) ?_ ?_
                  rotate_left
                  · intro w'
                    go_simp
                    with_reducible rfl
                  rotate_left
                  · simp only [Act.put, zSa, zSb, zSc, i64_w, i32_w]
                    rfl
                  refine pure_ (i := 15) (N := some 14) (v := ?_) (a' := ?_) #[true, true, true, true, true, true, true, true, true, true, true, true, true, true, true, true] rfl rfl (any_of HT_.out (by kernel_rfl)) (fun _ _ _ h => h) (Or.inl ⟨by rfl, ?_⟩) ?_ ?_
                  rotate_left
                  · intro w'
                    go_simp
                    with_reducible rfl
                  rotate_left
                  · simp only [Act.put, zSa, zSb, zSc, i64_w, i32_w]
                    rfl
                  refine done_ (done_of HT_.out (by kernel_rfl)) ?_
                  try go_wp2
                  go_roundg kj27
                  case measure => have := HJ3.out; have := HK2.out; have := HJ27.out; omega
                  case rel => exact ⟨(x11_2), (wrap64 (x12_2 + 1)), (by first | rfl | (simp; done) | (simp [*]; done)), H', ⟨by have := HJ3.out; have := HK2.out; have := HJ27.out; omega⟩, ⟨by exact uR HO_11.out⟩, ⟨by (with_reducible repeat (first | refine zKn ?_ _ | refine zKd ?_ | refine zKa ?_ _)); exact BK149.out⟩, ⟨by exact uT HB.out⟩⟩
                · rw [if_neg c38] at H
                  have c38b0 : decide ((Int.tmod (rd l2 x12_2) (x11_2.length : Int)) < 0) = false := decide_eq_false c38
                  clear c38
                  obtain ⟨ji41, hji41⟩ : ∃ j_ : Int, (Int.tmod (rd l2 x12_2) (x11_2.length : Int)) = j_ := ⟨_, rfl⟩
                  replace H : (if 0 ≤ (ji41) then (if (ji41) < (x11_2.length : Int) then (if 0 ≤ (Int.tmod (rd l1 x12_2) (x11_2.length : Int)) then (if (Int.tmod (rd l1 x12_2) (x11_2.length : Int)) < (x11_2.length : Int) then ((some ((x11_2.set ((Int.tmod (rd l1 x12_2) (x11_2.length : Int)) : Int).toNat (⟨(rd_T36 x11_2 (ji41)).f0, (rd_T36 x11_2 (ji41)).f1, (rd_T36 x11_2 (ji41)).f2⟩ : S36)).set ((ji41) : Int).toNat (⟨(rd_T36 x11_2 (Int.tmod (rd l1 x12_2) (x11_2.length : Int))).f0, (rd_T36 x11_2 (Int.tmod (rd l1 x12_2) (x11_2.length : Int))).f1, (rd_T36 x11_2 (Int.tmod (rd l1 x12_2) (x11_2.length : Int))).f2⟩ : S36) : List (S36))).bind fun y179 => (filigreelaw04_GraphAgain.l0 kj27 l1 l2 (y179.set ((Int.tmod (rd l1 x12_2) (x11_2.length : Int)) : Int).toNat (⟨(rd_T36 y179 (Int.tmod (rd l1 x12_2) (x11_2.length : Int))).f1, (rd_T36 y179 (Int.tmod (rd l1 x12_2) (x11_2.length : Int))).f0, (rd_T36 y179 (Int.tmod (rd l1 x12_2) (x11_2.length : Int))).f2⟩ : S36)) (wrap64 (x12_2 + 1)) a0_0 l0_1)) else (none)) else (none)) else (none)) else (none)) = some r := by first | (rw [hji41] at H; exact H) | (simp only [hji41] at H ⊢; exact H)
                  (try rw [hji41] at c38b0)
                  by_cases c42 : 0 ≤ (ji41)
                  rotate_left
                  · rw [if_neg c42] at H; exact absurd H (by simp)
                  rw [if_pos c42] at H
                  have c42b0 : decide (0 ≤ (ji41)) = true := decide_eq_true c42
                  clear c42
                  by_cases c43 : (ji41) < (x11_2.length : Int)
                  rotate_left
                  · rw [if_neg c43] at H; exact absurd H (by simp)
                  rw [if_pos c43] at H
                  have c43b0 : decide ((ji41) < (x11_2.length : Int)) = true := decide_eq_true c43
                  clear c43
                  obtain ⟨ji44, hji44⟩ : ∃ j_ : Int, (Int.tmod (rd l1 x12_2) (x11_2.length : Int)) = j_ := ⟨_, rfl⟩
                  replace H : (if 0 ≤ (ji44) then (if (ji44) < (x11_2.length : Int) then ((some ((x11_2.set ((ji44) : Int).toNat (⟨(rd_T36 x11_2 (ji41)).f0, (rd_T36 x11_2 (ji41)).f1, (rd_T36 x11_2 (ji41)).f2⟩ : S36)).set ((ji41) : Int).toNat (⟨(rd_T36 x11_2 (ji44)).f0, (rd_T36 x11_2 (ji44)).f1, (rd_T36 x11_2 (ji44)).f2⟩ : S36) : List (S36))).bind fun y179 => (filigreelaw04_GraphAgain.l0 kj27 l1 l2 (y179.set ((ji44) : Int).toNat (⟨(rd_T36 y179 (ji44)).f1, (rd_T36 y179 (ji44)).f0, (rd_T36 y179 (ji44)).f2⟩ : S36)) (wrap64 (x12_2 + 1)) a0_0 l0_1)) else (none)) else (none)) = some r := by first | (rw [hji44] at H; exact H) | (simp only [hji44] at H ⊢; exact H)
                  (try rw [hji44] at c35b0)
                  by_cases c45 : 0 ≤ (ji44)
                  rotate_left
                  · rw [if_neg c45] at H; exact absurd H (by simp)
                  rw [if_pos c45] at H
                  have c45b0 : decide (0 ≤ (ji44)) = true := decide_eq_true c45
                  clear c45
                  by_cases c46 : (ji44) < (x11_2.length : Int)
                  rotate_left
                  · rw [if_neg c46] at H; exact absurd H (by simp)
                  rw [if_pos c46] at H
                  have c46b0 : decide ((ji44) < (x11_2.length : Int)) = true := decide_eq_true c46
                  clear c46
                  obtain ⟨y178, hy178⟩ : ∃ y_ : List (S36), y_ = (x11_2.set ((ji44) : Int).toNat (⟨(rd_T36 x11_2 (ji41)).f0, (rd_T36 x11_2 (ji41)).f1, (rd_T36 x11_2 (ji41)).f2⟩ : S36)) := ⟨_, rfl⟩
                  replace H : ((some (y178.set ((ji41) : Int).toNat (⟨(rd_T36 x11_2 (ji44)).f0, (rd_T36 x11_2 (ji44)).f1, (rd_T36 x11_2 (ji44)).f2⟩ : S36) : List (S36))).bind fun y179 => (filigreelaw04_GraphAgain.l0 kj27 l1 l2 (y179.set ((ji44) : Int).toNat (⟨(rd_T36 y179 (ji44)).f1, (rd_T36 y179 (ji44)).f0, (rd_T36 y179 (ji44)).f2⟩ : S36)) (wrap64 (x12_2 + 1)) a0_0 l0_1)) = some r := by first | (rw [hy178]; with_reducible exact H) | (have H2_ := bsm H; first | (rw [hy178]; with_reducible exact H2_) | with_reducible exact H2_) | with_reducible exact H | (rw [hy178]; exact H) | exact H
                  have Ny178 := zMk hy178
                  clear hy178
                  obtain ⟨y179, hy179⟩ : ∃ y_ : List (S36), y_ = (y178.set ((ji41) : Int).toNat (⟨(rd_T36 x11_2 (ji44)).f0, (rd_T36 x11_2 (ji44)).f1, (rd_T36 x11_2 (ji44)).f2⟩ : S36)) := ⟨_, rfl⟩
                  replace H : (filigreelaw04_GraphAgain.l0 kj27 l1 l2 (y179.set ((ji44) : Int).toNat (⟨(rd_T36 y179 (ji44)).f1, (rd_T36 y179 (ji44)).f0, (rd_T36 y179 (ji44)).f2⟩ : S36)) (wrap64 (x12_2 + 1)) a0_0 l0_1) = some r := by first | (rw [hy179]; with_reducible exact H) | (have H2_ := bsm H; first | (rw [hy179]; with_reducible exact H2_) | with_reducible exact H2_) | with_reducible exact H | (rw [hy179]; exact H) | exact H
                  have Ny179 := zMk hy179
                  clear hy179
                  obtain ⟨y183, hy183⟩ : ∃ y_ : List (S36), y_ = (y179.set ((ji44) : Int).toNat (⟨(rd_T36 y179 (ji44)).f1, (rd_T36 y179 (ji44)).f0, (rd_T36 y179 (ji44)).f2⟩ : S36)) := ⟨_, rfl⟩
                  replace H : (filigreelaw04_GraphAgain.l0 kj27 l1 l2 y183 (wrap64 (x12_2 + 1)) a0_0 l0_1) = some r := by first | (rw [hy183]; with_reducible exact H) | (have H2_ := bsm H; first | (rw [hy183]; with_reducible exact H2_) | with_reducible exact H2_) | with_reducible exact H | (rw [hy183]; exact H) | exact H
                  have Ny183 := zMk hy183
                  clear hy183
                  have H' := zMk H
                  clear H
                  try go_wp2
                  replace HO_11 := zMk (zRd HO_11.out)
                  replace BK149 := zMk (zKd BK149.out)
                  replace HB := zMk (zBd HB.out)
                  have p174 : 0 ≤ (x12_2 : Int) := of_decide_eq_true (by first | (with_reducible assumption) | assumption)
                  have q174 : x12_2 < (l1.length : Int) := of_decide_eq_true (by first | (with_reducible assumption) | assumption)
                  obtain ⟨ad174, e174, hx174_0⟩ := zAi HR1.out x12_2 p174 q174
                  have hw174_0 := hx174_0
                  cases e174
                  replace hx174_0 := (HB.out.cell (World.block_lt_of_cell? w _ hx174_0)).trans hx174_0
                  replace p174 := eq_true p174
                  replace q174 := eq_true q174
                  obtain ⟨Ao51, co51, eo51⟩ := zRs HO_11.out
                  (first |  subst eo51|  (injection eo51 with f1_ f2_ f3_; have f4_ := f1_.symm; have f5_ := f3_.symm; clear f1_ f2_ f3_; subst f4_; subst f5_))
                  have p175 : 0 ≤ (x12_2 : Int) := of_decide_eq_true (by first | (with_reducible assumption) | assumption)
                  have q175 : x12_2 < (l2.length : Int) := of_decide_eq_true (by first | (with_reducible assumption) | assumption)
                  obtain ⟨ad175, e175, hx175_0⟩ := zAi HR2.out x12_2 p175 q175
                  have hw175_0 := hx175_0
                  cases e175
                  replace hx175_0 := (HB.out.cell (World.block_lt_of_cell? w _ hx175_0)).trans hx175_0
                  replace p175 := eq_true p175
                  replace q175 := eq_true q175
                  refine start_ (n := 16) (S := fun w' => w'.cell? (ad174.add (x12_2).toNat) = some (.int .i64 (rd l1 x12_2)) ∧ w'.cell? (ad175.add (x12_2).toNat) = some (.int .i64 (rd l2 x12_2))) (ds := []) #[false, false, false, false, false, false, false, false, false, false, false, false, false, false, false, false] (by kernel_rfl) rfl rfl ⟨((HB.out.cell (World.block_lt_of_cell? w _ hw174_0)).trans hw174_0), ((HB.out.cell (World.block_lt_of_cell? w _ hw175_0)).trans hw175_0)⟩ (fun hHeld => ?_); refine with_tabW filigreelaw04_GraphAgain.tab11 filigreelaw04_GraphAgain.bits11 (fun HT_ HW_ => ?_)
                  generalize wc.drew = w50 at HO_11 BK149 HB hx174_0 hx175_0 hHeld ⊢
                  refine pure_ (i := 0) (N := some 77) (v := ?_) (a' := ?_) #[true, false, false, false, false, false, false, false, false, false, false, false, false, false, false, false] rfl rfl (any_of HT_.out (by kernel_rfl)) (fun _ _ _ h => h) (Or.inl ⟨by rfl, ?_⟩) ?_ ?_
                  rotate_left
                  · intro w'
                    go_simp
                    with_reducible rfl
                  rotate_left
                  · simp only [Act.put, zSa, zSb, zSc, i64_w, i32_w]
                    rfl
                  refine pure_ (i := 1) (N := some 78) (v := ?_) (a' := ?_) #[true, true, false, false, false, false, false, false, false, false, false, false, false, false, false, false] rfl rfl (any_of HT_.out (by kernel_rfl)) (fun _ _ _ h => h) (Or.inl ⟨by rfl, ?_⟩) ?_ ?_
                  rotate_left
                  · intro w'
                    go_simp
                    with_reducible rfl
                  rotate_left
                  · simp only [Act.put, zSa, zSb, zSc, i64_w, i32_w]
                    rfl
                  refine pure_ (i := 2) (N := some 79) (v := ?_) (a' := ?_) #[true, true, true, false, false, false, false, false, false, false, false, false, false, false, false, false] rfl rfl (any_of HT_.out (by kernel_rfl)) (fun _ _ _ h => h) (Or.inl ⟨by rfl, ?_⟩) ?_ ?_
                  rotate_left
                  · intro w'
                    go_simp
                    with_reducible rfl
                  rotate_left
                  · simp only [Act.put, zSa, zSb, zSc, i64_w, i32_w]
                    rfl
                  refine pure_ (i := 4) (N := some 81) (v := ?_) (a' := ?_) #[true, true, true, false, true, false, false, false, false, false, false, false, false, false, false, false] rfl rfl (any_of HT_.out (by kernel_rfl)) (fun _ _ _ h => h) (Or.inl ⟨by rfl, ?_⟩) ?_ ?_
                  rotate_left
                  · intro w'
                    go_simp
                    with_reducible rfl
                  rotate_left
                  · simp only [Act.put, zSa, zSb, zSc, i64_w, i32_w]
                    rfl
                  refine pure_ (i := 5) (N := some 82) (v := ?_) (a' := ?_) #[true, true, true, false, true, true, false, false, false, false, false, false, false, false, false, false] rfl rfl (any_of HT_.out (by kernel_rfl)) (fun _ _ _ h => h) (Or.inl ⟨by rfl, ?_⟩) ?_ ?_
                  rotate_left
                  · intro w'
                    go_simp
                    with_reducible rfl
                  rotate_left
                  · simp only [Act.put, zSa, zSb, zSc, i64_w, i32_w]
                    rfl
                  refine pure_ (i := 7) (N := some 84) (v := ?_) (a' := ?_) #[true, true, true, false, true, true, false, true, false, false, false, false, false, false, false, false] rfl rfl (any_of HT_.out (by kernel_rfl)) (fun _ _ _ h => h) (Or.inl ⟨by rfl, ?_⟩) ?_ ?_
                  rotate_left
                  · intro w'
                    go_simp
                    with_reducible rfl
                  rotate_left
                  · simp only [Act.put, zSa, zSb, zSc, i64_w, i32_w]
                    rfl
                  refine pure_ (i := 8) (N := some 85) (v := ?_) (a' := ?_) #[true, true, true, false, true, true, false, true, true, false, false, false, false, false, false, false] rfl rfl (any_of HT_.out (by kernel_rfl)) (fun _ _ _ h => h) (Or.inl ⟨by rfl, ?_⟩) ?_ ?_
                  rotate_left
                  · intro w'
                    go_simp
                    with_reducible rfl
                  rotate_left
                  · simp only [Act.put, zSa, zSb, zSc, i64_w, i32_w]
                    rfl
                  refine pure_ (i := 9) (N := some 86) (v := ?_) (a' := ?_) #[true, true, true, false, true, true, false, true, true, true, false, false, false, false, false, false] rfl rfl (any_of HT_.out (by kernel_rfl)) (fun _ _ _ h => h) (Or.inl ⟨by rfl, ?_⟩) ?_ ?_
                  rotate_left
                  · intro w'
                    go_simp
                    with_reducible rfl
                  rotate_left
                  · simp only [Act.put, zSa, zSb, zSc, i64_w, i32_w]
                    rfl
                  refine pure_ (i := 11) (N := some 88) (v := ?_) (a' := ?_) #[true, true, true, false, true, true, false, true, true, true, false, true, false, false, false, false] rfl rfl (any_of HT_.out (by kernel_rfl)) (fun _ _ _ h => h) (Or.inl ⟨by rfl, ?_⟩) ?_ ?_
                  rotate_left
                  · intro w'
                    go_simp
                    with_reducible rfl
                  rotate_left
                  · simp only [Act.put, zSa, zSb, zSc, i64_w, i32_w]
                    rfl
                  refine pure_ (i := 12) (N := some 89) (v := ?_) (a' := ?_) #[true, true, true, false, true, true, false, true, true, true, false, true, true, false, false, false] rfl rfl (any_of HT_.out (by kernel_rfl)) (fun _ _ _ h => h) (Or.inl ⟨by rfl, ?_⟩) ?_ ?_
                  rotate_left
                  · intro w'
                    go_simp
                    with_reducible rfl
                  rotate_left
                  · simp only [Act.put, zSa, zSb, zSc, i64_w, i32_w]
                    rfl
                  refine take_ (i := 3) (N := some 80) (v := ?_) (a' := ?_) #[true, true, true, true, true, true, false, true, true, true, false, true, true, false, false, false] rfl rfl (take_ofW HT_.out HW_.out (by kernel_rfl)) (fun _ _ _ h => h) (Or.inl ⟨by rfl, ?_⟩) hHeld ?_ ?_
                  rotate_left
                  · rintro w' ⟨s0, s1⟩
                    go_simp
                    with_reducible rfl
                  rotate_left
                  · simp only [Act.put, zSa, zSb, zSc, i64_w, i32_w]
                    rfl
                  refine pure_ (i := 6) (N := some 83) (v := ?_) (a' := ?_) #[true, true, true, true, true, true, true, true, true, true, false, true, true, false, false, false] rfl rfl (any_of HT_.out (by kernel_rfl)) (fun _ _ _ h => h) (Or.inl ⟨by rfl, ?_⟩) ?_ ?_
                  rotate_left
                  · intro w'
                    go_simp
                    with_reducible rfl
                  rotate_left
                  · simp only [Act.put, zSa, zSb, zSc, i64_w, i32_w]
                    rfl
                  refine pure_ (i := 14) (N := some 13) (v := ?_) (a' := ?_) #[true, true, true, true, true, true, true, true, true, true, false, true, true, false, true, false] rfl rfl (any_of HT_.out (by kernel_rfl)) (fun _ _ _ h => h) (Or.inl ⟨by rfl, ?_⟩) ?_ ?_
                  rotate_left
                  · intro w'
                    go_simp
                    with_reducible rfl
                  rotate_left
                  · simp only [Act.put, zSa, zSb, zSc, i64_w, i32_w]
                    rfl
                  refine take_ (i := 10) (N := some 87) (v := ?_) (a' := ?_) #[true, true, true, true, true, true, true, true, true, true, true, true, true, false, true, false] rfl rfl (take_ofW HT_.out HW_.out (by kernel_rfl)) (fun _ _ _ h => h) (Or.inl ⟨by rfl, ?_⟩) hHeld ?_ ?_
                  rotate_left
                  · rintro w' ⟨s0, s1⟩
                    go_simp
                    with_reducible rfl
                  rotate_left
                  · simp only [Act.put, zSa, zSb, zSc, i64_w, i32_w]
                    rfl
                  refine pure_ (i := 13) (N := some 90) (v := ?_) (a' := ?_) #[true, true, true, true, true, true, true, true, true, true, true, true, true, true, true, false] rfl rfl (any_of HT_.out (by kernel_rfl)) (fun _ _ _ h => h) (Or.inl ⟨by rfl, ?_⟩) ?_ ?_
                  rotate_left
                  · intro w'
                    go_simp
                    with_reducible rfl
                  rotate_left
                  · simp only [Act.put, zSa, zSb, zSc, i64_w, i32_w]
                    rfl
                  refine pure_ (i := 15) (N := some 14) (v := ?_) (a' := ?_) #[true, true, true, true, true, true, true, true, true, true, true, true, true, true, true, true] rfl rfl (any_of HT_.out (by kernel_rfl)) (fun _ _ _ h => h) (Or.inl ⟨by rfl, ?_⟩) ?_ ?_
                  rotate_left
                  · intro w'
                    go_simp
                    with_reducible rfl
                  rotate_left
                  · simp only [Act.put, zSa, zSb, zSc, i64_w, i32_w]
                    rfl
                  refine done_ (done_of HT_.out (by kernel_rfl)) ?_
                  try go_wp2
                  replace HO_11 := zMk (zRd HO_11.out)
                  replace BK149 := zMk (zKd BK149.out)
                  replace HB := zMk (zBd HB.out)
                  have p176 : 0 ≤ ((ji41) : Int) := of_decide_eq_true (by first | (with_reducible assumption) | assumption)
                  have q176 : (ji41) < (x11_2.length : Int) := of_decide_eq_true (by first | (with_reducible assumption) | assumption)
                  obtain ⟨ad176, e176, hx176_0, hx176_1, hx176_2⟩ := at_T36 (zRr HO_11.out).2.2 (ji41) p176 q176
                  cases e176
                  replace p176 := eq_true p176
                  replace q176 := eq_true q176
                  have p177 : 0 ≤ ((ji44) : Int) := of_decide_eq_true (by first | (with_reducible assumption) | assumption)
                  have q177 : (ji44) < (x11_2.length : Int) := of_decide_eq_true (by first | (with_reducible assumption) | assumption)
                  obtain ⟨ad177, e177, hx177_0, hx177_1, hx177_2⟩ := at_T36 (zRr HO_11.out).2.2 (ji44) p177 q177
                  obtain rfl : ad176 = ad177 := (by injection e177)
                  replace p177 := eq_true p177
                  replace q177 := eq_true q177
                  have p47 : 0 ≤ ((ji44) : Int) := of_decide_eq_true (by first | (with_reducible assumption) | assumption)
                  have q47 : ((ji44) : Int) < ((x11_2.length : Int) : Int) := of_decide_eq_true (by first | (with_reducible assumption) | assumption)
                  obtain ⟨go47, co47, eo47, gb47, gl47, cl47, HG47⟩ := Kd.R_form HO_11.out (by omega)
                  (first |  cases eo47|  (injection eo47 with ea_ en_ ec_; (first |  subst ea_|  (injection ea_ with ea_; subst ea_)); subst ec_; clear en_))
                  have GB47 := zMk gb47
                  have IGB47 := ownGe GB47.out
                  have GG47 := zMk HG47
                  clear gb47 gl47 HG47
                  (first | simp only [add_plain] at hx176_0 | skip)
                  (first | simp only [add_plain] at hx176_1 | skip)
                  (first | simp only [add_plain] at hx176_2 | skip)
                  (first | simp only [add_plain] at hx177_0 | skip)
                  (first | simp only [add_plain] at hx177_1 | skip)
                  (first | simp only [add_plain] at hx177_2 | skip)
                  obtain ⟨ce47, hcl47, hM47, hcc47, hfr47⟩ := Kd.R_elem HO_11.out z36 ((ji44) : Int) p47 q47
                  obtain rfl := k36_openM hM47
                  have hx47_0 : World.cell? _ ⟨go47, ((ji44) : Int).toNat * 3, none⟩ = some (.int .i64 ((rd_T36 x11_2 (ji44)).f0)) := hcc47 0 _ rfl
                  have hx47_1 : World.cell? _ ⟨go47, ((ji44) : Int).toNat * 3 + 1, none⟩ = some (.int .i64 ((rd_T36 x11_2 (ji44)).f1)) := hcc47 1 _ rfl
                  have hx47_2 : World.cell? _ ⟨go47, ((ji44) : Int).toNat * 3 + 2, none⟩ = some (.int .i64 ((rd_T36 x11_2 (ji44)).f2)) := hcc47 2 _ rfl
                  have hf47_0 : World.frozen? _ ⟨go47, ((ji44) : Int).toNat * 3, none⟩ = false := hfr47 0
                  have hf47_1 : World.frozen? _ ⟨go47, ((ji44) : Int).toNat * 3 + 1, none⟩ = false := hfr47 1
                  have hf47_2 : World.frozen? _ ⟨go47, ((ji44) : Int).toNat * 3 + 2, none⟩ = false := hfr47 2
                  clear hcl47 hcc47 hfr47 hM47
                  replace p47 := eq_true p47
                  replace q47 := eq_true q47
                  obtain ⟨ce53, hcl53, hM53, hcc53, hfr53⟩ := Kd.R_elem HO_11.out z36 ((ji44) : Int) (of_decide_eq_true (by first | (with_reducible assumption) | assumption)) (by have h_ : ((ji44) : Int) < ((x11_2.length : Int) : Int) := of_decide_eq_true (by first | (with_reducible assumption) | assumption); first | exact h_ | (have e_ := (zRr HO_11.out).1; omega) | simpa using h_)
                  obtain rfl := k36_openM hM53
                  have HP53 := (Kd.R_seg HO_11.out ((ji44) : Int) (of_decide_eq_true (by first | (with_reducible assumption) | assumption)) (by have h_ : ((ji44) : Int) < ((x11_2.length : Int) : Int) := of_decide_eq_true (by first | (with_reducible assumption) | assumption); first | exact h_ | (have e_ := (zRr HO_11.out).1; omega) | simpa using h_) (seg := [.int .i64 ((rd_T36 x11_2 (ji41)).f0), .int .i64 ((rd_T36 x11_2 (ji41)).f1), .int .i64 ((rd_T36 x11_2 (ji41)).f2)]) (j := 0) hcl53 hcc53 (show 3 ≤ 3 from by decide) (x' := (⟨(rd_T36 x11_2 (ji41)).f0, (rd_T36 x11_2 (ji41)).f1, (rd_T36 x11_2 (ji41)).f2⟩ : S36)) (k36_mkM _ _ _ (⟨(rd_T36 x11_2 (ji41)).f0, (rd_T36 x11_2 (ji41)).f1, (rd_T36 x11_2 (ji41)).f2⟩ : S36) ) (fun _ hk => hk)).1
                  rw [← Ny178.out] at HP53
                  have HQ53 := zMk HP53
                  clear hcl53 hcc53 hfr53 hM53 HP53
                  have p48 : 0 ≤ ((ji41) : Int) := of_decide_eq_true (by first | (with_reducible assumption) | assumption)
                  have q48 : ((ji41) : Int) < ((x11_2.length : Int) : Int) := of_decide_eq_true (by first | (with_reducible assumption) | assumption)
                  obtain ⟨ce48, hcl48, hM48, hcc48, hfr48⟩ := Kd.R_elem HQ53.out z36 ((ji41) : Int) p48 q48
                  obtain rfl := k36_openM hM48
                  have hx48_0 : World.cell? _ ⟨go47, ((ji41) : Int).toNat * 3, none⟩ = some (.int .i64 ((rd_T36 y178 (ji41)).f0)) := hcc48 0 _ rfl
                  have hx48_1 : World.cell? _ ⟨go47, ((ji41) : Int).toNat * 3 + 1, none⟩ = some (.int .i64 ((rd_T36 y178 (ji41)).f1)) := hcc48 1 _ rfl
                  have hx48_2 : World.cell? _ ⟨go47, ((ji41) : Int).toNat * 3 + 2, none⟩ = some (.int .i64 ((rd_T36 y178 (ji41)).f2)) := hcc48 2 _ rfl
                  have hf48_0 : World.frozen? _ ⟨go47, ((ji41) : Int).toNat * 3, none⟩ = false := hfr48 0
                  have hf48_1 : World.frozen? _ ⟨go47, ((ji41) : Int).toNat * 3 + 1, none⟩ = false := hfr48 1
                  have hf48_2 : World.frozen? _ ⟨go47, ((ji41) : Int).toNat * 3 + 2, none⟩ = false := hfr48 2
                  clear hcl48 hcc48 hfr48 hM48
                  replace p48 := eq_true p48
                  replace q48 := eq_true q48
                  obtain ⟨ce54, hcl54, hM54, hcc54, hfr54⟩ := Kd.R_elem HQ53.out z36 ((ji41) : Int) (of_decide_eq_true (by first | (with_reducible assumption) | assumption)) (by have h_ : ((ji41) : Int) < ((x11_2.length : Int) : Int) := of_decide_eq_true (by first | (with_reducible assumption) | assumption); first | exact h_ | (have e_ := (zRr HO_11.out).1; omega) | simpa using h_)
                  obtain rfl := k36_openM hM54
                  have HP54 := (Kd.R_seg HQ53.out ((ji41) : Int) (of_decide_eq_true (by first | (with_reducible assumption) | assumption)) (by have h_ : ((ji41) : Int) < ((x11_2.length : Int) : Int) := of_decide_eq_true (by first | (with_reducible assumption) | assumption); first | exact h_ | (have e_ := (zRr HO_11.out).1; omega) | simpa using h_) (seg := [.int .i64 ((rd_T36 x11_2 (ji44)).f0), .int .i64 ((rd_T36 x11_2 (ji44)).f1), .int .i64 ((rd_T36 x11_2 (ji44)).f2)]) (j := 0) hcl54 hcc54 (show 3 ≤ 3 from by decide) (x' := (⟨(rd_T36 x11_2 (ji44)).f0, (rd_T36 x11_2 (ji44)).f1, (rd_T36 x11_2 (ji44)).f2⟩ : S36)) (k36_mkM _ _ _ (⟨(rd_T36 x11_2 (ji44)).f0, (rd_T36 x11_2 (ji44)).f1, (rd_T36 x11_2 (ji44)).f2⟩ : S36) ) (fun _ hk => hk)).1
                  rw [← Ny179.out] at HP54
                  have HQ54 := zMk HP54
                  clear hcl54 hcc54 hfr54 hM54 HP54
                  refine start_ (n := 16) (S := fun w' => w'.cell? ⟨go47, ((ji41) : Int).toNat * 3, none⟩ = some (.int .i64 ((rd_T36 x11_2 (ji41)).f0)) ∧ w'.cell? ⟨go47, ((ji41) : Int).toNat * 3 + 1, none⟩ = some (.int .i64 ((rd_T36 x11_2 (ji41)).f1)) ∧ w'.cell? ⟨go47, ((ji41) : Int).toNat * 3 + 2, none⟩ = some (.int .i64 ((rd_T36 x11_2 (ji41)).f2)) ∧ w'.cell? ⟨go47, ((ji44) : Int).toNat * 3, none⟩ = some (.int .i64 ((rd_T36 x11_2 (ji44)).f0)) ∧ w'.cell? ⟨go47, ((ji44) : Int).toNat * 3 + 1, none⟩ = some (.int .i64 ((rd_T36 x11_2 (ji44)).f1)) ∧ w'.cell? ⟨go47, ((ji44) : Int).toNat * 3 + 2, none⟩ = some (.int .i64 ((rd_T36 x11_2 (ji44)).f2))) (ds := [13, 15]) #[false, false, false, false, false, false, false, false, false, false, false, false, false, false, false, false] (by kernel_rfl) rfl rfl ⟨hx176_0, hx176_1, hx176_2, hx177_0, hx177_1, hx177_2⟩ (fun hHeld => ?_); refine with_tabW filigreelaw04_GraphAgain.tab13 filigreelaw04_GraphAgain.bits13 (fun HT_ HW_ => ?_)
                  generalize w50.drew = w52 at HO_11 BK149 HB GG47 HQ53 HQ54 hf47_0 hf47_1 hf47_2 hf48_0 hf48_1 hf48_2 hx176_0 hx176_1 hx176_2 hx177_0 hx177_1 hx177_2 hx47_0 hx47_1 hx47_2 hx48_0 hx48_1 hx48_2 hHeld ⊢
                  obtain ⟨sw0_, hsw0_⟩ := cell?_setCell_some (w := w52) (p := ⟨go47, ((ji44) : Int).toNat * 3, none⟩) (x := .int .i64 ((rd_T36 x11_2 (ji41)).f0)) (q := ⟨go47, ((ji41) : Int).toNat * 3, none⟩) (v := .int .i64 ((rd_T36 x11_2 (ji41)).f0)) (by first | assumption | (go_simp; done))
                  obtain ⟨sw1_, hsw1_⟩ := cell?_setCell_some (w := (w52.setCell ⟨go47, ((ji44) : Int).toNat * 3, none⟩ (.int .i64 ((rd_T36 x11_2 (ji41)).f0)))) (p := ⟨go47, ((ji44) : Int).toNat * 3 + 1, none⟩) (x := .int .i64 ((rd_T36 x11_2 (ji41)).f1)) (q := ⟨go47, ((ji41) : Int).toNat * 3 + 1, none⟩) (v := .int .i64 ((rd_T36 x11_2 (ji41)).f1)) (by first | assumption | (go_simp; done))
                  obtain ⟨sw2_, hsw2_⟩ := cell?_setCell_some (w := ((w52.setCell ⟨go47, ((ji44) : Int).toNat * 3, none⟩ (.int .i64 ((rd_T36 x11_2 (ji41)).f0))).setCell ⟨go47, ((ji44) : Int).toNat * 3 + 1, none⟩ (.int .i64 ((rd_T36 x11_2 (ji41)).f1)))) (p := ⟨go47, ((ji44) : Int).toNat * 3 + 2, none⟩) (x := .int .i64 ((rd_T36 x11_2 (ji41)).f2)) (q := ⟨go47, ((ji41) : Int).toNat * 3 + 2, none⟩) (v := .int .i64 ((rd_T36 x11_2 (ji41)).f2)) (by first | assumption | (go_simp; done))
                  obtain ⟨swc_, swl_, swm_, swv_, swf_⟩ := Kd.R_elem HO_11.out z36 ((ji41) : Int) (of_eq_true p176) (of_eq_true q176)
                  clear swl_ swm_ swv_
                  have swf0_ : w52.frozen? ⟨go47, ((ji41) : Int).toNat * 3, none⟩ = false := swf_ 0
                  have swf1_ : w52.frozen? ⟨go47, ((ji41) : Int).toNat * 3 + 1, none⟩ = false := swf_ 1
                  have swf2_ : w52.frozen? ⟨go47, ((ji41) : Int).toNat * 3 + 2, none⟩ = false := swf_ 2
                  clear swf_
                  refine pure_ (i := 0) (N := some 97) (v := ?_) (a' := ?_) #[true, false, false, false, false, false, false, false, false, false, false, false, false, false, false, false] rfl rfl (any_of HT_.out (by kernel_rfl)) (fun _ _ _ h => h) (Or.inl ⟨by rfl, ?_⟩) ?_ ?_
                  rotate_left
                  · intro w'
                    go_simp
                    with_reducible rfl
                  rotate_left
                  · simp only [Act.put, zSa, zSb, zSc, i64_w, i32_w]
                    rfl
                  refine pure_ (i := 1) (N := some 98) (v := ?_) (a' := ?_) #[true, true, false, false, false, false, false, false, false, false, false, false, false, false, false, false] rfl rfl (any_of HT_.out (by kernel_rfl)) (fun _ _ _ h => h) (Or.inl ⟨by rfl, ?_⟩) ?_ ?_
                  rotate_left
                  · intro w'
                    go_simp
                    with_reducible rfl
                  rotate_left
                  · simp only [Act.put, zSa, zSb, zSc, i64_w, i32_w]
                    rfl
                  refine pure_ (i := 2) (N := some 99) (v := ?_) (a' := ?_) #[true, true, true, false, false, false, false, false, false, false, false, false, false, false, false, false] rfl rfl (any_of HT_.out (by kernel_rfl)) (fun _ _ _ h => h) (Or.inl ⟨by rfl, ?_⟩) ?_ ?_
                  rotate_left
                  · intro w'
                    go_simp
                    with_reducible rfl
                  rotate_left
                  · simp only [Act.put, zSa, zSb, zSc, i64_w, i32_w]
                    rfl
                  refine pure_ (i := 3) (N := some 100) (v := ?_) (a' := ?_) #[true, true, true, true, false, false, false, false, false, false, false, false, false, false, false, false] rfl rfl (any_of HT_.out (by kernel_rfl)) (fun _ _ _ h => h) (Or.inl ⟨by rfl, ?_⟩) ?_ ?_
                  rotate_left
                  · intro w'
                    go_simp
                    with_reducible rfl
                  rotate_left
                  · simp only [Act.put, zSa, zSb, zSc, i64_w, i32_w]
                    rfl
                  refine pure_ (i := 4) (N := some 101) (v := ?_) (a' := ?_) #[true, true, true, true, true, false, false, false, false, false, false, false, false, false, false, false] rfl rfl (any_of HT_.out (by kernel_rfl)) (fun _ _ _ h => h) (Or.inl ⟨by rfl, ?_⟩) ?_ ?_
                  rotate_left
                  · intro w'
                    go_simp
                    with_reducible rfl
                  rotate_left
                  · simp only [Act.put, zSa, zSb, zSc, i64_w, i32_w]
                    rfl
                  refine pure_ (i := 5) (N := some 102) (v := ?_) (a' := ?_) #[true, true, true, true, true, true, false, false, false, false, false, false, false, false, false, false] rfl rfl (any_of HT_.out (by kernel_rfl)) (fun _ _ _ h => h) (Or.inl ⟨by rfl, ?_⟩) ?_ ?_
                  rotate_left
                  · intro w'
                    go_simp
                    with_reducible rfl
                  rotate_left
                  · simp only [Act.put, zSa, zSb, zSc, i64_w, i32_w]
                    rfl
                  refine pure_ (i := 6) (N := some 103) (v := ?_) (a' := ?_) #[true, true, true, true, true, true, true, false, false, false, false, false, false, false, false, false] rfl rfl (any_of HT_.out (by kernel_rfl)) (fun _ _ _ h => h) (Or.inl ⟨by rfl, ?_⟩) ?_ ?_
                  rotate_left
                  · intro w'
                    go_simp
                    with_reducible rfl
                  rotate_left
                  · simp only [Act.put, zSa, zSb, zSc, i64_w, i32_w]
                    rfl
                  refine pure_ (i := 8) (N := some 105) (v := ?_) (a' := ?_) #[true, true, true, true, true, true, true, false, true, false, false, false, false, false, false, false] rfl rfl (any_of HT_.out (by kernel_rfl)) (fun _ _ _ h => h) (Or.inl ⟨by rfl, ?_⟩) ?_ ?_
                  rotate_left
                  · intro w'
                    go_simp
                    with_reducible rfl
                  rotate_left
                  · simp only [Act.put, zSa, zSb, zSc, i64_w, i32_w]
                    rfl
                  refine pure_ (i := 9) (N := some 106) (v := ?_) (a' := ?_) #[true, true, true, true, true, true, true, false, true, true, false, false, false, false, false, false] rfl rfl (any_of HT_.out (by kernel_rfl)) (fun _ _ _ h => h) (Or.inl ⟨by rfl, ?_⟩) ?_ ?_
                  rotate_left
                  · intro w'
                    go_simp
                    with_reducible rfl
                  rotate_left
                  · simp only [Act.put, zSa, zSb, zSc, i64_w, i32_w]
                    rfl
                  refine pure_ (i := 10) (N := some 107) (v := ?_) (a' := ?_) #[true, true, true, true, true, true, true, false, true, true, true, false, false, false, false, false] rfl rfl (any_of HT_.out (by kernel_rfl)) (fun _ _ _ h => h) (Or.inl ⟨by rfl, ?_⟩) ?_ ?_
                  rotate_left
                  · intro w'
                    go_simp
                    with_reducible rfl
                  rotate_left
                  · simp only [Act.put, zSa, zSb, zSc, i64_w, i32_w]
                    rfl
                  refine take_ (i := 7) (N := some 104) (v := ?_) (a' := ?_) #[true, true, true, true, true, true, true, true, true, true, true, false, false, false, false, false] rfl rfl (take_ofW HT_.out HW_.out (by kernel_rfl)) (fun _ _ _ h => h) (Or.inl ⟨by rfl, ?_⟩) hHeld ?_ ?_
                  rotate_left
                  · rintro w' ⟨s0, s1, s2, s3, s4, s5⟩
                    go_simp
                    with_reducible rfl
                  rotate_left
                  · simp only [Act.put, zSa, zSb, zSc, i64_w, i32_w]
                    rfl
                  refine take_ (i := 11) (N := some 108) (v := ?_) (a' := ?_) #[true, true, true, true, true, true, true, true, true, true, true, true, false, false, false, false] rfl rfl (take_ofW HT_.out HW_.out (by kernel_rfl)) (fun _ _ _ h => h) (Or.inl ⟨by rfl, ?_⟩) hHeld ?_ ?_
                  rotate_left
                  · rintro w' ⟨s0, s1, s2, s3, s4, s5⟩
                    go_simp
                    with_reducible rfl
                  rotate_left
                  · simp only [Act.put, zSa, zSb, zSc, i64_w, i32_w]
                    rfl
                  refine pure_ (i := 12) (N := some 109) (v := ?_) (a' := ?_) #[true, true, true, true, true, true, true, true, true, true, true, true, true, false, false, false] rfl rfl (any_of HT_.out (by kernel_rfl)) (fun _ _ _ h => h) (Or.inl ⟨by rfl, ?_⟩) ?_ ?_
                  rotate_left
                  · intro w'
                    go_simp
                    with_reducible rfl
                  rotate_left
                  · simp only [Act.put, zSa, zSb, zSc, i64_w, i32_w]
                    rfl
                  refine last_ (i := 13) (N := none) #[true, true, true, true, true, true, true, true, true, true, true, true, true, true, false, false] rfl rfl (one_of HT_.out (by kernel_rfl)) (by decide) (fun K hK => ?_)
                  refine skip_ (w1 := ?_) (by rfl) rfl ?_ ?_
                  rotate_left
                  · go_simp
                    rfl
                  refine hK.out _ _ ?_
                  clear hK K
                  refine pure_ (i := 14) (N := some 110) (v := ?_) (a' := ?_) #[true, true, true, true, true, true, true, true, true, true, true, true, true, true, true, false] rfl rfl (any_of HT_.out (by kernel_rfl)) (fun _ _ _ h => h) (Or.inl ⟨by rfl, ?_⟩) ?_ ?_
                  rotate_left
                  · intro w'
                    go_simp
                    with_reducible rfl
                  rotate_left
                  · simp only [Act.put, zSa, zSb, zSc, i64_w, i32_w]
                    rfl
                  refine last_ (i := 15) (N := none) #[true, true, true, true, true, true, true, true, true, true, true, true, true, true, true, true] rfl rfl (one_of HT_.out (by kernel_rfl)) (by decide) (fun K hK => ?_)
                  refine skip_ (w1 := ?_) (by rfl) rfl ?_ ?_
                  rotate_left
                  · go_simp
                    rfl
                  refine hK.out _ _ ?_
                  clear hK K
                  refine done_ (done_of HT_.out (by kernel_rfl)) ?_
                  try go_wp2
                  have n0_ : Aside0 (Kd.R k36 36 ((((((w52.setCell ⟨go47, ((ji44) : Int).toNat * 3, none⟩ (.int .i64 ((rd_T36 x11_2 (ji41)).f0))).setCell ⟨go47, ((ji44) : Int).toNat * 3 + 1, none⟩ (.int .i64 ((rd_T36 x11_2 (ji41)).f1))).setCell ⟨go47, ((ji44) : Int).toNat * 3 + 2, none⟩ (.int .i64 ((rd_T36 x11_2 (ji41)).f2))).setCell ⟨go47, ((ji41) : Int).toNat * 3, none⟩ (.int .i64 ((rd_T36 x11_2 (ji44)).f0))).setCell ⟨go47, ((ji41) : Int).toNat * 3 + 1, none⟩ (.int .i64 ((rd_T36 x11_2 (ji44)).f1))).setCell ⟨go47, ((ji41) : Int).toNat * 3 + 2, none⟩ (.int .i64 ((rd_T36 x11_2 (ji44)).f2))) w.heap.size (fun _ => True) (.slice (some ⟨go47, 0, none⟩) x11_2.length co51) y179) := ⟨by first | exact HQ54.out | exact uR HQ54.out⟩
                  have n1_ : Aside0 (((((((w52.setCell ⟨go47, ((ji44) : Int).toNat * 3, none⟩ (.int .i64 ((rd_T36 x11_2 (ji41)).f0))).setCell ⟨go47, ((ji44) : Int).toNat * 3 + 1, none⟩ (.int .i64 ((rd_T36 x11_2 (ji41)).f1))).setCell ⟨go47, ((ji44) : Int).toNat * 3 + 2, none⟩ (.int .i64 ((rd_T36 x11_2 (ji41)).f2))).setCell ⟨go47, ((ji41) : Int).toNat * 3, none⟩ (.int .i64 ((rd_T36 x11_2 (ji44)).f0))).setCell ⟨go47, ((ji41) : Int).toNat * 3 + 1, none⟩ (.int .i64 ((rd_T36 x11_2 (ji44)).f1))).setCell ⟨go47, ((ji41) : Int).toNat * 3 + 2, none⟩ (.int .i64 ((rd_T36 x11_2 (ji44)).f2))).heap[gb149]? = some (.cells #[.int .i64 a0_0, .slice A0_1 l0_1.length c0_1] 24 (0, 0))) := ⟨by (with_reducible repeat (first | refine zKn ?_ _ | refine zKd ?_ | refine zKa ?_ _)); refine blk_far ?_ (by have h_ := Kd.R_ne HO_11.out BK149.out (by decide); intro e_; exact h_ (by rw [e_]; rfl)) _; (with_reducible repeat (first | refine zKn ?_ _ | refine zKd ?_ | refine zKa ?_ _)); refine blk_far ?_ (by have h_ := Kd.R_ne HO_11.out BK149.out (by decide); intro e_; exact h_ (by rw [e_]; rfl)) _; (with_reducible repeat (first | refine zKn ?_ _ | refine zKd ?_ | refine zKa ?_ _)); refine blk_far ?_ (by have h_ := Kd.R_ne HO_11.out BK149.out (by decide); intro e_; exact h_ (by rw [e_]; rfl)) _; (with_reducible repeat (first | refine zKn ?_ _ | refine zKd ?_ | refine zKa ?_ _)); refine blk_far ?_ (by have h_ := Kd.R_ne HO_11.out BK149.out (by decide); intro e_; exact h_ (by rw [e_]; rfl)) _; (with_reducible repeat (first | refine zKn ?_ _ | refine zKd ?_ | refine zKa ?_ _)); refine blk_far ?_ (by have h_ := Kd.R_ne HO_11.out BK149.out (by decide); intro e_; exact h_ (by rw [e_]; rfl)) _; (with_reducible repeat (first | refine zKn ?_ _ | refine zKd ?_ | refine zKa ?_ _)); refine blk_far ?_ (by have h_ := Kd.R_ne HO_11.out BK149.out (by decide); intro e_; exact h_ (by rw [e_]; rfl)) _; (with_reducible repeat (first | refine zKn ?_ _ | refine zKd ?_ | refine zKa ?_ _)); exact BK149.out⟩
                  have n2_ : Aside0 (Below w.heap.size w ((((((w52.setCell ⟨go47, ((ji44) : Int).toNat * 3, none⟩ (.int .i64 ((rd_T36 x11_2 (ji41)).f0))).setCell ⟨go47, ((ji44) : Int).toNat * 3 + 1, none⟩ (.int .i64 ((rd_T36 x11_2 (ji41)).f1))).setCell ⟨go47, ((ji44) : Int).toNat * 3 + 2, none⟩ (.int .i64 ((rd_T36 x11_2 (ji41)).f2))).setCell ⟨go47, ((ji41) : Int).toNat * 3, none⟩ (.int .i64 ((rd_T36 x11_2 (ji44)).f0))).setCell ⟨go47, ((ji41) : Int).toNat * 3 + 1, none⟩ (.int .i64 ((rd_T36 x11_2 (ji44)).f1))).setCell ⟨go47, ((ji41) : Int).toNat * 3 + 2, none⟩ (.int .i64 ((rd_T36 x11_2 (ji44)).f2)))) := ⟨by exact uT HB.out⟩
                  (try clear HO_11)
                  (try clear BK149)
                  (try clear HB)
                  generalize ((((((w52.setCell ⟨go47, ((ji44) : Int).toNat * 3, none⟩ (.int .i64 ((rd_T36 x11_2 (ji41)).f0))).setCell ⟨go47, ((ji44) : Int).toNat * 3 + 1, none⟩ (.int .i64 ((rd_T36 x11_2 (ji41)).f1))).setCell ⟨go47, ((ji44) : Int).toNat * 3 + 2, none⟩ (.int .i64 ((rd_T36 x11_2 (ji41)).f2))).setCell ⟨go47, ((ji41) : Int).toNat * 3, none⟩ (.int .i64 ((rd_T36 x11_2 (ji44)).f0))).setCell ⟨go47, ((ji41) : Int).toNat * 3 + 1, none⟩ (.int .i64 ((rd_T36 x11_2 (ji44)).f1))).setCell ⟨go47, ((ji41) : Int).toNat * 3 + 2, none⟩ (.int .i64 ((rd_T36 x11_2 (ji44)).f2))) = w55 at n0_ n1_ n2_ ⊢
                  have HO_11 := n0_
                  have BK149 := n1_
                  have HB := n2_
                  clear n0_ n1_ n2_
                  replace HO_11 := zMk (zRd HO_11.out)
                  replace BK149 := zMk (zKd BK149.out)
                  replace HB := zMk (zBd HB.out)
                  have p180 : 0 ≤ ((ji44) : Int) := of_decide_eq_true (by first | (with_reducible assumption) | assumption)
                  have q180 : (ji44) < (y179.length : Int) := (by have h_ : ((ji44) : Int) < ((x11_2.length : Int) : Int) := of_decide_eq_true (by first | (with_reducible assumption) | assumption); first | (have e_ := (zRr HO_11.out).1; omega) | simpa only [Ny178.out, Ny179.out, List.length_set] using h_)
                  have ql180 : (((ji44) : Int) < ((x11_2.length : Int) : Int)) = True := eq_true (of_decide_eq_true (by first | (with_reducible assumption) | assumption))
                  obtain ⟨ad180, e180, hx180_0, hx180_1, hx180_2⟩ := at_T36 (zRr HO_11.out).2.2 (ji44) p180 q180
                  obtain rfl : (⟨go47, 0, none⟩ : Addr) = ad180 := (by injection e180)
                  (first | simp only [add_plain] at hx180_0 | simp only [add_at] at hx180_0 | simp only [Addr.add, Nat.zero_add] at hx180_0 | skip)
                  (first | simp only [add_plain] at hx180_1 | simp only [add_at] at hx180_1 | simp only [Addr.add, Nat.zero_add] at hx180_1 | skip)
                  (first | simp only [add_plain] at hx180_2 | simp only [add_at] at hx180_2 | simp only [Addr.add, Nat.zero_add] at hx180_2 | skip)
                  replace p180 := eq_true p180
                  replace q180 := eq_true q180
                  have p181 : 0 ≤ ((ji44) : Int) := of_decide_eq_true (by first | (with_reducible assumption) | assumption)
                  have q181 : (ji44) < (y179.length : Int) := (by have h_ : ((ji44) : Int) < ((x11_2.length : Int) : Int) := of_decide_eq_true (by first | (with_reducible assumption) | assumption); first | (have e_ := (zRr HO_11.out).1; omega) | simpa only [Ny178.out, Ny179.out, List.length_set] using h_)
                  have ql181 : (((ji44) : Int) < ((x11_2.length : Int) : Int)) = True := eq_true (of_decide_eq_true (by first | (with_reducible assumption) | assumption))
                  obtain ⟨ad181, e181, hx181_0, hx181_1, hx181_2⟩ := at_T36 (zRr HO_11.out).2.2 (ji44) p181 q181
                  obtain rfl : (⟨go47, 0, none⟩ : Addr) = ad181 := (by injection e181)
                  (first | simp only [add_plain] at hx181_0 | simp only [add_at] at hx181_0 | simp only [Addr.add, Nat.zero_add] at hx181_0 | skip)
                  (first | simp only [add_plain] at hx181_1 | simp only [add_at] at hx181_1 | simp only [Addr.add, Nat.zero_add] at hx181_1 | skip)
                  (first | simp only [add_plain] at hx181_2 | simp only [add_at] at hx181_2 | simp only [Addr.add, Nat.zero_add] at hx181_2 | skip)
                  replace p181 := eq_true p181
                  replace q181 := eq_true q181
                  have p182 : 0 ≤ ((ji44) : Int) := of_decide_eq_true (by first | (with_reducible assumption) | assumption)
                  have q182 : (ji44) < (y179.length : Int) := (by have h_ : ((ji44) : Int) < ((x11_2.length : Int) : Int) := of_decide_eq_true (by first | (with_reducible assumption) | assumption); first | (have e_ := (zRr HO_11.out).1; omega) | simpa only [Ny178.out, Ny179.out, List.length_set] using h_)
                  have ql182 : (((ji44) : Int) < ((x11_2.length : Int) : Int)) = True := eq_true (of_decide_eq_true (by first | (with_reducible assumption) | assumption))
                  obtain ⟨ad182, e182, hx182_0, hx182_1, hx182_2⟩ := at_T36 (zRr HO_11.out).2.2 (ji44) p182 q182
                  obtain rfl : (⟨go47, 0, none⟩ : Addr) = ad182 := (by injection e182)
                  (first | simp only [add_plain] at hx182_0 | simp only [add_at] at hx182_0 | simp only [Addr.add, Nat.zero_add] at hx182_0 | skip)
                  (first | simp only [add_plain] at hx182_1 | simp only [add_at] at hx182_1 | simp only [Addr.add, Nat.zero_add] at hx182_1 | skip)
                  (first | simp only [add_plain] at hx182_2 | simp only [add_at] at hx182_2 | simp only [Addr.add, Nat.zero_add] at hx182_2 | skip)
                  replace p182 := eq_true p182
                  replace q182 := eq_true q182
                  have p49 : 0 ≤ ((ji44) : Int) := of_decide_eq_true (by first | (with_reducible assumption) | assumption)
                  have q49 : ((ji44) : Int) < ((x11_2.length : Int) : Int) := of_decide_eq_true (by first | (with_reducible assumption) | assumption)
                  obtain ⟨ce49, hcl49, hM49, hcc49, hfr49⟩ := Kd.R_elem HO_11.out z36 ((ji44) : Int) p49 q49
                  obtain rfl := k36_openM hM49
                  have hx49_0 : World.cell? _ ⟨go47, ((ji44) : Int).toNat * 3, none⟩ = some (.int .i64 ((rd_T36 y179 (ji44)).f0)) := hcc49 0 _ rfl
                  have hx49_1 : World.cell? _ ⟨go47, ((ji44) : Int).toNat * 3 + 1, none⟩ = some (.int .i64 ((rd_T36 y179 (ji44)).f1)) := hcc49 1 _ rfl
                  have hx49_2 : World.cell? _ ⟨go47, ((ji44) : Int).toNat * 3 + 2, none⟩ = some (.int .i64 ((rd_T36 y179 (ji44)).f2)) := hcc49 2 _ rfl
                  have hf49_0 : World.frozen? _ ⟨go47, ((ji44) : Int).toNat * 3, none⟩ = false := hfr49 0
                  have hf49_1 : World.frozen? _ ⟨go47, ((ji44) : Int).toNat * 3 + 1, none⟩ = false := hfr49 1
                  have hf49_2 : World.frozen? _ ⟨go47, ((ji44) : Int).toNat * 3 + 2, none⟩ = false := hfr49 2
                  clear hcl49 hcc49 hfr49 hM49
                  replace p49 := eq_true p49
                  replace q49 := eq_true q49
                  obtain ⟨ce57, hcl57, hM57, hcc57, hfr57⟩ := Kd.R_elem HO_11.out z36 ((ji44) : Int) (of_decide_eq_true (by first | (with_reducible assumption) | assumption)) (by have h_ : ((ji44) : Int) < ((x11_2.length : Int) : Int) := of_decide_eq_true (by first | (with_reducible assumption) | assumption); first | exact h_ | (have e_ := (zRr HO_11.out).1; omega) | simpa using h_)
                  obtain rfl := k36_openM hM57
                  have HP57 := (Kd.R_seg HO_11.out ((ji44) : Int) (of_decide_eq_true (by first | (with_reducible assumption) | assumption)) (by have h_ : ((ji44) : Int) < ((x11_2.length : Int) : Int) := of_decide_eq_true (by first | (with_reducible assumption) | assumption); first | exact h_ | (have e_ := (zRr HO_11.out).1; omega) | simpa using h_) (seg := [.int .i64 ((rd_T36 y179 (ji44)).f1), .int .i64 ((rd_T36 y179 (ji44)).f0), .int .i64 ((rd_T36 y179 (ji44)).f2)]) (j := 0) hcl57 hcc57 (show 3 ≤ 3 from by decide) (x' := (⟨(rd_T36 y179 (ji44)).f1, (rd_T36 y179 (ji44)).f0, (rd_T36 y179 (ji44)).f2⟩ : S36)) (k36_mkM _ _ _ (⟨(rd_T36 y179 (ji44)).f1, (rd_T36 y179 (ji44)).f0, (rd_T36 y179 (ji44)).f2⟩ : S36) ) (fun _ hk => hk)).1
                  rw [← Ny183.out] at HP57
                  have HQ57 := zMk HP57
                  clear hcl57 hcc57 hfr57 hM57 HP57
                  refine start_ (n := 20) (S := fun w' => w'.cell? ⟨go47, ((ji44)).toNat * 3, none⟩ = some (.int .i64 ((rd_T36 y179 (ji44)).f0)) ∧ w'.cell? ⟨go47, ((ji44)).toNat * 3 + 1, none⟩ = some (.int .i64 ((rd_T36 y179 (ji44)).f1)) ∧ w'.cell? ⟨go47, ((ji44)).toNat * 3 + 2, none⟩ = some (.int .i64 ((rd_T36 y179 (ji44)).f2)) ∧ w'.cell? ⟨go47, ((ji44)).toNat * 3, none⟩ = some (.int .i64 ((rd_T36 y179 (ji44)).f0)) ∧ w'.cell? ⟨go47, ((ji44)).toNat * 3 + 1, none⟩ = some (.int .i64 ((rd_T36 y179 (ji44)).f1)) ∧ w'.cell? ⟨go47, ((ji44)).toNat * 3 + 2, none⟩ = some (.int .i64 ((rd_T36 y179 (ji44)).f2)) ∧ w'.cell? ⟨go47, ((ji44)).toNat * 3, none⟩ = some (.int .i64 ((rd_T36 y179 (ji44)).f0)) ∧ w'.cell? ⟨go47, ((ji44)).toNat * 3 + 1, none⟩ = some (.int .i64 ((rd_T36 y179 (ji44)).f1)) ∧ w'.cell? ⟨go47, ((ji44)).toNat * 3 + 2, none⟩ = some (.int .i64 ((rd_T36 y179 (ji44)).f2))) (ds := [19]) #[false, false, false, false, false, false, false, false, false, false, false, false, false, false, false, false, false, false, false, false] (by kernel_rfl) rfl rfl ⟨hx180_0, hx180_1, hx180_2, hx181_0, hx181_1, hx181_2, hx182_0, hx182_1, hx182_2⟩ (fun hHeld => ?_); refine with_tabW filigreelaw04_GraphAgain.tab14 filigreelaw04_GraphAgain.bits14 (fun HT_ HW_ => ?_)
                  generalize w55.drew = w56 at HO_11 BK149 HB HQ54 HQ57 hf49_0 hf49_1 hf49_2 hx180_0 hx180_1 hx180_2 hx181_0 hx181_1 hx181_2 hx182_0 hx182_1 hx182_2 hx49_0 hx49_1 hx49_2 hHeld ⊢
                  refine pure_ (i := 0) (N := some 111) (v := ?_) (a' := ?_) #[true, false, false, false, false, false, false, false, false, false, false, false, false, false, false, false, false, false, false, false] rfl rfl (any_of HT_.out (by kernel_rfl)) (fun _ _ _ h => h) (Or.inl ⟨by rfl, ?_⟩) ?_ ?_
                  rotate_left
                  · intro w'
                    go_simp
                    with_reducible rfl
                  rotate_left
                  · simp only [Act.put, zSa, zSb, zSc, i64_w, i32_w]
                    rfl
                  refine pure_ (i := 1) (N := some 112) (v := ?_) (a' := ?_) #[true, true, false, false, false, false, false, false, false, false, false, false, false, false, false, false, false, false, false, false] rfl rfl (any_of HT_.out (by kernel_rfl)) (fun _ _ _ h => h) (Or.inl ⟨by rfl, ?_⟩) ?_ ?_
                  rotate_left
                  · intro w'
                    go_simp
                    with_reducible rfl
                  rotate_left
                  · simp only [Act.put, zSa, zSb, zSc, i64_w, i32_w]
                    rfl
                  refine pure_ (i := 2) (N := some 113) (v := ?_) (a' := ?_) #[true, true, true, false, false, false, false, false, false, false, false, false, false, false, false, false, false, false, false, false] rfl rfl (any_of HT_.out (by kernel_rfl)) (fun _ _ _ h => h) (Or.inl ⟨by rfl, ?_⟩) ?_ ?_
                  rotate_left
                  · intro w'
                    go_simp
                    with_reducible rfl
                  rotate_left
                  · simp only [Act.put, zSa, zSb, zSc, i64_w, i32_w]
                    rfl
                  refine pure_ (i := 3) (N := some 114) (v := ?_) (a' := ?_) #[true, true, true, true, false, false, false, false, false, false, false, false, false, false, false, false, false, false, false, false] rfl rfl (any_of HT_.out (by kernel_rfl)) (fun _ _ _ h => h) (Or.inl ⟨by rfl, ?_⟩) ?_ ?_
                  rotate_left
                  · intro w'
                    go_simp
                    with_reducible rfl
                  rotate_left
                  · simp only [Act.put, zSa, zSb, zSc, i64_w, i32_w]
                    rfl
                  refine pure_ (i := 4) (N := some 115) (v := ?_) (a' := ?_) #[true, true, true, true, true, false, false, false, false, false, false, false, false, false, false, false, false, false, false, false] rfl rfl (any_of HT_.out (by kernel_rfl)) (fun _ _ _ h => h) (Or.inl ⟨by rfl, ?_⟩) ?_ ?_
                  rotate_left
                  · intro w'
                    go_simp
                    with_reducible rfl
                  rotate_left
                  · simp only [Act.put, zSa, zSb, zSc, i64_w, i32_w]
                    rfl
                  refine pure_ (i := 5) (N := some 116) (v := ?_) (a' := ?_) #[true, true, true, true, true, true, false, false, false, false, false, false, false, false, false, false, false, false, false, false] rfl rfl (any_of HT_.out (by kernel_rfl)) (fun _ _ _ h => h) (Or.inl ⟨by rfl, ?_⟩) ?_ ?_
                  rotate_left
                  · intro w'
                    go_simp
                    with_reducible rfl
                  rotate_left
                  · simp only [Act.put, zSa, zSb, zSc, i64_w, i32_w]
                    rfl
                  refine pure_ (i := 7) (N := some 118) (v := ?_) (a' := ?_) #[true, true, true, true, true, true, false, true, false, false, false, false, false, false, false, false, false, false, false, false] rfl rfl (any_of HT_.out (by kernel_rfl)) (fun _ _ _ h => h) (Or.inl ⟨by rfl, ?_⟩) ?_ ?_
                  rotate_left
                  · intro w'
                    go_simp
                    with_reducible rfl
                  rotate_left
                  · simp only [Act.put, zSa, zSb, zSc, i64_w, i32_w]
                    rfl
                  refine pure_ (i := 8) (N := some 119) (v := ?_) (a' := ?_) #[true, true, true, true, true, true, false, true, true, false, false, false, false, false, false, false, false, false, false, false] rfl rfl (any_of HT_.out (by kernel_rfl)) (fun _ _ _ h => h) (Or.inl ⟨by rfl, ?_⟩) ?_ ?_
                  rotate_left
                  · intro w'
                    go_simp
                    with_reducible rfl
                  rotate_left
                  · simp only [Act.put, zSa, zSb, zSc, i64_w, i32_w]
                    rfl
                  refine pure_ (i := 9) (N := some 120) (v := ?_) (a' := ?_) #[true, true, true, true, true, true, false, true, true, true, false, false, false, false, false, false, false, false, false, false] rfl rfl (any_of HT_.out (by kernel_rfl)) (fun _ _ _ h => h) (Or.inl ⟨by rfl, ?_⟩) ?_ ?_
                  rotate_left
                  · intro w'
                    go_simp
                    with_reducible rfl
                  rotate_left
                  · simp only [Act.put, zSa, zSb, zSc, i64_w, i32_w]
                    rfl
                  refine pure_ (i := 10) (N := some 121) (v := ?_) (a' := ?_) #[true, true, true, true, true, true, false, true, true, true, true, false, false, false, false, false, false, false, false, false] rfl rfl (any_of HT_.out (by kernel_rfl)) (fun _ _ _ h => h) (Or.inl ⟨by rfl, ?_⟩) ?_ ?_
                  rotate_left
                  · intro w'
                    go_simp
                    with_reducible rfl
                  rotate_left
                  · simp only [Act.put, zSa, zSb, zSc, i64_w, i32_w]
                    rfl
                  refine pure_ (i := 12) (N := some 123) (v := ?_) (a' := ?_) #[true, true, true, true, true, true, false, true, true, true, true, false, true, false, false, false, false, false, false, false] rfl rfl (any_of HT_.out (by kernel_rfl)) (fun _ _ _ h => h) (Or.inl ⟨by rfl, ?_⟩) ?_ ?_
                  rotate_left
                  · intro w'
                    go_simp
                    with_reducible rfl
                  rotate_left
                  · simp only [Act.put, zSa, zSb, zSc, i64_w, i32_w]
                    rfl
                  refine pure_ (i := 13) (N := some 124) (v := ?_) (a' := ?_) #[true, true, true, true, true, true, false, true, true, true, true, false, true, true, false, false, false, false, false, false] rfl rfl (any_of HT_.out (by kernel_rfl)) (fun _ _ _ h => h) (Or.inl ⟨by rfl, ?_⟩) ?_ ?_
                  rotate_left
                  · intro w'
                    go_simp
                    with_reducible rfl
                  rotate_left
                  · simp only [Act.put, zSa, zSb, zSc, i64_w, i32_w]
                    rfl
                  refine pure_ (i := 14) (N := some 125) (v := ?_) (a' := ?_) #[true, true, true, true, true, true, false, true, true, true, true, false, true, true, true, false, false, false, false, false] rfl rfl (any_of HT_.out (by kernel_rfl)) (fun _ _ _ h => h) (Or.inl ⟨by rfl, ?_⟩) ?_ ?_
                  rotate_left
                  · intro w'
                    go_simp
                    with_reducible rfl
                  rotate_left
                  · simp only [Act.put, zSa, zSb, zSc, i64_w, i32_w]
                    rfl
                  refine pure_ (i := 15) (N := some 126) (v := ?_) (a' := ?_) #[true, true, true, true, true, true, false, true, true, true, true, false, true, true, true, true, false, false, false, false] rfl rfl (any_of HT_.out (by kernel_rfl)) (fun _ _ _ h => h) (Or.inl ⟨by rfl, ?_⟩) ?_ ?_
                  rotate_left
                  · intro w'
                    go_simp
                    with_reducible rfl
                  rotate_left
                  · simp only [Act.put, zSa, zSb, zSc, i64_w, i32_w]
                    rfl
                  refine take_ (i := 6) (N := some 117) (v := ?_) (a' := ?_) #[true, true, true, true, true, true, true, true, true, true, true, false, true, true, true, true, false, false, false, false] rfl rfl (take_ofW HT_.out HW_.out (by kernel_rfl)) (fun _ _ _ h => h) (Or.inl ⟨by rfl, ?_⟩) hHeld ?_ ?_
                  rotate_left
                  · rintro w' ⟨s0, s1, s2, s3, s4, s5, s6, s7, s8⟩
                    go_simp
                    with_reducible rfl
                  rotate_left
                  · simp only [Act.put, zSa, zSb, zSc, i64_w, i32_w]
                    rfl
                  refine take_ (i := 11) (N := some 122) (v := ?_) (a' := ?_) #[true, true, true, true, true, true, true, true, true, true, true, true, true, true, true, true, false, false, false, false] rfl rfl (take_ofW HT_.out HW_.out (by kernel_rfl)) (fun _ _ _ h => h) (Or.inl ⟨by rfl, ?_⟩) hHeld ?_ ?_
                  rotate_left
                  · rintro w' ⟨s0, s1, s2, s3, s4, s5, s6, s7, s8⟩
                    go_simp
                    with_reducible rfl
                  rotate_left
                  · simp only [Act.put, zSa, zSb, zSc, i64_w, i32_w]
                    rfl
                  refine take_ (i := 16) (N := some 127) (v := ?_) (a' := ?_) #[true, true, true, true, true, true, true, true, true, true, true, true, true, true, true, true, true, false, false, false] rfl rfl (take_ofW HT_.out HW_.out (by kernel_rfl)) (fun _ _ _ h => h) (Or.inl ⟨by rfl, ?_⟩) hHeld ?_ ?_
                  rotate_left
                  · rintro w' ⟨s0, s1, s2, s3, s4, s5, s6, s7, s8⟩
                    go_simp
                    with_reducible rfl
                  rotate_left
                  · simp only [Act.put, zSa, zSb, zSc, i64_w, i32_w]
                    rfl
                  refine pure_ (i := 17) (N := some 128) (v := ?_) (a' := ?_) #[true, true, true, true, true, true, true, true, true, true, true, true, true, true, true, true, true, true, false, false] rfl rfl (any_of HT_.out (by kernel_rfl)) (fun _ _ _ h => h) (Or.inl ⟨by rfl, ?_⟩) ?_ ?_
                  rotate_left
                  · intro w'
                    go_simp
                    with_reducible rfl
                  rotate_left
                  · simp only [Act.put, zSa, zSb, zSc, i64_w, i32_w]
                    rfl
                  refine pure_ (i := 18) (N := some 129) (v := ?_) (a' := ?_) #[true, true, true, true, true, true, true, true, true, true, true, true, true, true, true, true, true, true, true, false] rfl rfl (any_of HT_.out (by kernel_rfl)) (fun _ _ _ h => h) (Or.inl ⟨by rfl, ?_⟩) ?_ ?_
                  rotate_left
                  · intro w'
                    go_simp
                    with_reducible rfl
                  rotate_left
                  · simp only [Act.put, zSa, zSb, zSc, i64_w, i32_w]
                    rfl
                  refine last_ (i := 19) (N := none) #[true, true, true, true, true, true, true, true, true, true, true, true, true, true, true, true, true, true, true, true] rfl rfl (one_of HT_.out (by kernel_rfl)) (by decide) (fun K hK => ?_)
                  refine skip_ (w1 := ?_) (by rfl) rfl ?_ ?_
                  rotate_left
                  · go_simp
                    rfl
                  refine hK.out _ _ ?_
                  clear hK K
                  refine done_ (done_of HT_.out (by kernel_rfl)) ?_
                  try go_wp2
                  go_roundg kj27
                  case measure => have := HJ3.out; have := HK2.out; have := HJ27.out; omega
                  case rel => exact ⟨(y183), (wrap64 (x12_2 + 1)), (by first | rfl | (simp; done) | (simp [*]; done)), H', ⟨by have := HJ3.out; have := HK2.out; have := HJ27.out; omega⟩, ⟨by first | exact HQ57.out | exact uR HQ57.out⟩, ⟨by (with_reducible repeat (first | refine zKn ?_ _ | refine zKd ?_ | refine zKa ?_ _)); refine blk_far ?_ (by have h_ := Kd.R_ne HO_11.out BK149.out (by decide); intro e_; exact h_ (by rw [e_]; rfl)) _; (with_reducible repeat (first | refine zKn ?_ _ | refine zKd ?_ | refine zKa ?_ _)); refine blk_far ?_ (by have h_ := Kd.R_ne HO_11.out BK149.out (by decide); intro e_; exact h_ (by rw [e_]; rfl)) _; (with_reducible repeat (first | refine zKn ?_ _ | refine zKd ?_ | refine zKa ?_ _)); refine blk_far ?_ (by have h_ := Kd.R_ne HO_11.out BK149.out (by decide); intro e_; exact h_ (by rw [e_]; rfl)) _; (with_reducible repeat (first | refine zKn ?_ _ | refine zKd ?_ | refine zKa ?_ _)); exact BK149.out⟩, ⟨by exact uT HB.out⟩⟩
          · replace c30 := Bool.eq_false_iff.mpr c30
            subst c30
            replace H : ((graph_Make.f kj27 a0_0 x11_2).bind fun bt184 => (if bt184.2.2 = 0 then ((filigreeref04_Same.f kj27 a0_0 l0_1 bt184.1 bt184.2.1).bind fun t190 => (if t190 = true then ((graph_Same.f kj27 a0_0 l0_1 bt184.1 bt184.2.1).bind fun t191 => (if t191 = true then ((filigreelaw04_alive.f kj27).bind fun t192 => (some t192)) else (some false))) else (some false))) else (some false))) = some r := by rw [if_neg (show ¬ (false = true) by decide)] at H; exact H
            replace H := bnd H
            obtain ⟨⟨t184, t185, t188⟩, A580, H⟩ := H
            replace H : (if t188 = 0 then ((filigreeref04_Same.f kj27 a0_0 l0_1 t184 t185).bind fun t190 => (if t190 = true then ((graph_Same.f kj27 a0_0 l0_1 t184 t185).bind fun t191 => (if t191 = true then ((filigreelaw04_alive.f kj27).bind fun t192 => (some t192)) else (some false))) else (some false))) else (some false)) = some r := H
            have A58 := zMk A580
            clear A580
            by_cases c59 : t188 = 0
            · rw [if_pos c59] at H
              have c59b0 : (t188 == 0) = true := beq_iff_eq.mpr c59
              have c59b1 : (t188 != 0) = false := bne_eq_false_iff_eq.mpr c59
              clear c59
              replace H := bnd H
              obtain ⟨t190, A600, H⟩ := H
              have A60 := zMk A600
              clear A600
              by_cases c61 : t190 = true
              · subst c61
                replace H : ((graph_Same.f kj27 a0_0 l0_1 t184 t185).bind fun t191 => (if t191 = true then ((filigreelaw04_alive.f kj27).bind fun t192 => (some t192)) else (some false))) = some r := by rw [if_pos rfl] at H; exact H
                replace H := bnd H
                obtain ⟨t191, A620, H⟩ := H
                have A62 := zMk A620
                clear A620
                by_cases c63 : t191 = true
                · subst c63
                  replace H : ((filigreelaw04_alive.f kj27).bind fun t192 => (some t192)) = some r := by rw [if_pos rfl] at H; exact H
                  replace H := bnd H
                  obtain ⟨t192, A640, H⟩ := H
                  have A64 := zMk A640
                  clear A640
                  obtain rfl := zOi H
                  have hcz65_0 : wc.cell? ⟨gb149, 0, none⟩ = some (.int .i64 a0_0) := (zKc BK149.out 0).trans rfl
                  have hcz65_1 : wc.cell? ⟨gb149, 1, none⟩ = some (.slice A0_1 l0_1.length c0_1) := (zKc BK149.out 1).trans rfl
                  have hfz65_0 := zKf BK149.out 0
                  have hfz65_1 := zKf BK149.out 1
                  obtain ⟨Ao66, co66, eo66⟩ := zRs HO_11.out
                  subst eo66
                  go_wp2_with (first |  ((with_reducible refine gate_callee (f := 14) rfl ?_); refine goesL_ (some 134) rfl rfl Try.func14 (by kernel_rfl) rfl #[.int .i64 a0_0, .slice Ao66 x11_2.length co66] rfl (by (try simp only [zMa, zMc, zMn]); first |  done|  rfl|  (simp only [zLd, zLt]; rfl)) ?_; (with_reducible refine (graph_Make.calls kj27 a0_0 _ _ x11_2 t184 t185 t188 _ ?side1 ?side2 A58.out).mono ?_); (case side1 => exact uC (zRr HO_11.out).2.2); (case side2 => exact (zRr HO_11.out).2.1); rintro e w67 ⟨v186, rfl, ho0, hb⟩; refine ⟨_, rfl, ?_⟩; have HO187 := zMk (zRl (zRw ho0 (zRt (by exact uR HO_11.out))) (zBs (by exact uT HB.out))); replace HO_11 := zMk (zRe (by exact uR HO_11.out) (zRz ho0) hb); replace BK149 := zMk (zKb (g := gb149) (o := .cells #[.int .i64 a0_0, .slice A0_1 l0_1.length c0_1] 24 (0, 0)) (by (with_reducible repeat (first |  refine zKn ?_ _|  refine zKd ?_|  refine zKa ?_ _)); exact BK149.out) hb); replace HB := zMk (zBt (by exact uT HB.out) hb); (try clear hb); (try clear hb2); (try clear hk); (try clear hi); (try clear ho0))|  ((with_reducible refine gate_dst (N := 15) rfl ?_); (try (refine gate_guard (by rfl) ?_; dsimp only)); refine box_event ?hg (N := 15) ?hd (cs := #[.int .i64 0, .slice none 0 0]) (t := 24) ?hr ?_; (case hd => rfl); (case hg => rfl); (case hr => first |  (go_simp; done)|  (go_simp; rfl)|  (go_simp; rw [show ∀ x : Int, IntKind.u32.wrap (IntKind.u8.wrap x) = x % 256 from fun x => (by show (x % 256) % 4294967296 = x % 256; omega)])); intro gb189 hg w68 hbox hb; replace HO_11 := zMk (zRb (by exact uR HO_11.out) hb); replace HO187 := zMk (zRb (by exact uR HO187.out) hb); have BK189 := zMk (hbox); have GW189 := zMk ((by rw [hg]; exact (zBs (by exact uT HB.out)) : w.heap.size ≤ gb189)); have GE189 := zMk ((by rw [hg]; exact (zBs (by exact uT HB.out)) : w.heap.size ≤ gb189)); have IGE189 := ownGe GE189.out; replace HB := zMk (zBt (by exact uT HB.out) hb); have NB149_189 := zMk ((by rw [hg]; exact Nat.ne_of_lt (blk_lt (g := gb149) (o := .cells #[.int .i64 a0_0, .slice A0_1 l0_1.length c0_1] 24 (0, 0)) (by (with_reducible repeat (first |  refine zKn ?_ _|  refine zKd ?_|  refine zKa ?_ _)); exact BK149.out)) : gb149 ≠ gb189)); have NB189_149 := zMk ((by rw [hg]; exact Nat.ne_of_gt (blk_lt (g := gb149) (o := .cells #[.int .i64 a0_0, .slice A0_1 l0_1.length c0_1] 24 (0, 0)) (by (with_reducible repeat (first |  refine zKn ?_ _|  refine zKd ?_|  refine zKa ?_ _)); exact BK149.out)) : gb189 ≠ gb149)); replace BK149 := zMk (zKb (g := gb149) (o := .cells #[.int .i64 a0_0, .slice A0_1 l0_1.length c0_1] 24 (0, 0)) (by (with_reducible repeat (first |  refine zKn ?_ _|  refine zKd ?_|  refine zKa ?_ _)); exact BK149.out) hb); clear hb hbox hg; have hnb69 := NB189_149.out; have hnc69 := NB149_189.out; have hcz70_0 : w68.cell? ⟨gb189, 0, none⟩ = some (.int .i64 0) := (zKc BK189.out 0).trans rfl; have hcz70_1 : w68.cell? ⟨gb189, 1, none⟩ = some (.slice none 0 0) := (zKc BK189.out 1).trans rfl; have hfz70_0 := zKf BK189.out 0; have hfz70_1 := zKf BK189.out 1; obtain ⟨Ao71, co71, eo71⟩ := zRs HO187.out; subst eo71; have hcz72_0 : w68.cell? ⟨gb149, 0, none⟩ = some (.int .i64 a0_0) := (zKc BK149.out 0).trans rfl; have hcz72_1 : w68.cell? ⟨gb149, 1, none⟩ = some (.slice A0_1 l0_1.length c0_1) := (zKc BK149.out 1).trans rfl; have hfz72_0 := zKf BK149.out 0; have hfz72_1 := zKf BK149.out 1)|  (go_at_call 16; (with_reducible refine (filigreeref04_Same.calls kj27 a0_0 _ _ l0_1 t184 _ _ t185 true _ ?side1 ?side2 ?side3 ?side4 A60.out).mono ?_); (case side1 => exact Kd.C_below HR0_1.out (by exact uT HB.out)); (case side2 => exact HC0_1.out); (case side3 => refine (zRr (e := 36) (base := w.heap.size) (ok := fun k_ => (True ∧ some k_ ≠ (.slice Ao66 x11_2.length co66 : Value).ownBlock)) (n := t185.length) (c := co71) ?_).2.2; exact (by (with_reducible repeat (first |  apply zRa|  apply zRn|  apply zRd)); exact (zRm (Kd.R_far (p := ⟨gb189, 1, none⟩) (Kd.R_far (p := ⟨gb189, 0, none⟩) (Kd.R_types HO187.out BK189.out (by decide)) (fun _ hk => hk.2) (.int .i64 t184)) (fun _ hk => hk.2) (.slice Ao71 t185.length co71)) (fun _ h_ => h_.1)))); (case side4 => exact (zRr HO187.out).2.1); rintro e w73 ⟨rfl, hb⟩; replace HO_11 := zMk (zRb (by (with_reducible repeat (first |  apply zRa|  apply zRn|  apply zRd)); exact (zRm (Kd.R_far (p := ⟨gb189, 1, none⟩) (Kd.R_far (p := ⟨gb189, 0, none⟩) (Kd.R_types HO_11.out BK189.out (by decide)) (fun _ hk => hk.2) (.int .i64 t184)) (fun _ hk => hk.2) (.slice Ao71 t185.length co71)) (fun _ h_ => h_.1))) hb); replace HO187 := zMk (zRb (by (with_reducible repeat (first |  apply zRa|  apply zRn|  apply zRd)); exact (zRm (Kd.R_far (p := ⟨gb189, 1, none⟩) (Kd.R_far (p := ⟨gb189, 0, none⟩) (Kd.R_types HO187.out BK189.out (by decide)) (fun _ hk => hk.2) (.int .i64 t184)) (fun _ hk => hk.2) (.slice Ao71 t185.length co71)) (fun _ h_ => h_.1))) hb); replace BK149 := zMk (zKb (g := gb149) (o := .cells #[.int .i64 a0_0, .slice A0_1 l0_1.length c0_1] 24 (0, 0)) (by (with_reducible repeat (first |  refine zKn ?_ _|  refine zKd ?_|  refine zKa ?_ _)); refine blk_far ?_ NB149_189.out _; (with_reducible repeat (first |  refine zKn ?_ _|  refine zKd ?_|  refine zKa ?_ _)); refine blk_far ?_ NB149_189.out _; (with_reducible repeat (first |  refine zKn ?_ _|  refine zKd ?_|  refine zKa ?_ _)); exact BK149.out) hb); replace BK189 := zMk (zKb (g := gb189) (o := .cells #[.int .i64 t184, .slice Ao71 t185.length co71] 24 (0, 0)) (by (with_reducible repeat (first |  refine zKn ?_ _|  refine zKd ?_|  refine zKa ?_ _)); refine blk_put (cs := #[.int .i64 t184, .slice none 0 0]) ?_ 1 _ rfl; (with_reducible repeat (first |  refine zKn ?_ _|  refine zKd ?_|  refine zKa ?_ _)); refine blk_put (cs := #[.int .i64 0, .slice none 0 0]) ?_ 0 _ rfl; (with_reducible repeat (first |  refine zKn ?_ _|  refine zKd ?_|  refine zKa ?_ _)); exact BK189.out) hb); replace HB := zMk (zBt (by exact uT HB.out) hb); (try clear hb); (try clear hb2); (try clear hk); (try clear hi); have hcz74_0 : w73.cell? ⟨gb149, 0, none⟩ = some (.int .i64 a0_0) := (zKc BK149.out 0).trans rfl; have hcz74_1 : w73.cell? ⟨gb149, 1, none⟩ = some (.slice A0_1 l0_1.length c0_1) := (zKc BK149.out 1).trans rfl; have hfz74_0 := zKf BK149.out 0; have hfz74_1 := zKf BK149.out 1; have hcz75_0 : w73.cell? ⟨gb189, 0, none⟩ = some (.int .i64 t184) := (zKc BK189.out 0).trans rfl; have hcz75_1 : w73.cell? ⟨gb189, 1, none⟩ = some (.slice Ao71 t185.length co71) := (zKc BK189.out 1).trans rfl; have hfz75_0 := zKf BK189.out 0; have hfz75_1 := zKf BK189.out 1)|  (go_at_call 18; (with_reducible refine (graph_Same.calls kj27 a0_0 _ _ l0_1 t184 _ _ t185 true _ ?side1 ?side2 ?side3 ?side4 A62.out).mono ?_); (case side1 => repeat (first |  exact (Kd.C_below HR0_1.out HB.out)|  (with_reducible refine zCa ?_ _)|  (with_reducible refine zCn ?_ _)|  (with_reducible refine zCd ?_))); (case side2 => exact HC0_1.out); (case side3 => exact uC (zRr HO187.out).2.2); (case side4 => exact (zRr HO187.out).2.1); rintro e w76 ⟨rfl, hb⟩; replace HO_11 := zMk (zRb (by exact uR HO_11.out) hb); replace HO187 := zMk (zRb (by exact uR HO187.out) hb); replace BK149 := zMk (zKb (g := gb149) (o := .cells #[.int .i64 a0_0, .slice A0_1 l0_1.length c0_1] 24 (0, 0)) (by (with_reducible repeat (first |  refine zKn ?_ _|  refine zKd ?_|  refine zKa ?_ _)); exact BK149.out) hb); replace BK189 := zMk (zKb (g := gb189) (o := .cells #[.int .i64 t184, .slice Ao71 t185.length co71] 24 (0, 0)) (by (with_reducible repeat (first |  refine zKn ?_ _|  refine zKd ?_|  refine zKa ?_ _)); exact BK189.out) hb); replace HB := zMk (zBt (by exact uT HB.out) hb); (try clear hb); (try clear hb2); (try clear hk); (try clear hi))|  (go_at_call 13; (with_reducible refine (filigreelaw04_alive.calls kj27  t192 _ A64.out).mono ?_); rintro e w77 ⟨rfl, hb⟩; replace HO_11 := zMk (zRb (by exact uR HO_11.out) hb); replace HO187 := zMk (zRb (by exact uR HO187.out) hb); replace BK149 := zMk (zKb (g := gb149) (o := .cells #[.int .i64 a0_0, .slice A0_1 l0_1.length c0_1] 24 (0, 0)) (by (with_reducible repeat (first |  refine zKn ?_ _|  refine zKd ?_|  refine zKa ?_ _)); exact BK149.out) hb); replace BK189 := zMk (zKb (g := gb189) (o := .cells #[.int .i64 t184, .slice Ao71 t185.length co71] 24 (0, 0)) (by (with_reducible repeat (first |  refine zKn ?_ _|  refine zKd ?_|  refine zKa ?_ _)); exact BK189.out) hb); replace HB := zMk (zBt (by exact uT HB.out) hb); (try clear hb); (try clear hb2); (try clear hk); (try clear hi)))
                  go_ret
                  exact ⟨by first | rfl | (simp [errW_none, errW_some] <;> rfl) | (simp [*, errW_none, errW_some] <;> rfl), by exact uT HB.out⟩
                · replace c63 := Bool.eq_false_iff.mpr c63
                  subst c63
                  replace H : (some false) = some r := by rw [if_neg (show ¬ (false = true) by decide)] at H; exact H
                  exact absurd ((zOi H).trans HRT.out) (by decide)
              · replace c61 := Bool.eq_false_iff.mpr c61
                subst c61
                replace H : (some false) = some r := by rw [if_neg (show ¬ (false = true) by decide)] at H; exact H
                exact absurd ((zOi H).trans HRT.out) (by decide)
            · rw [if_neg c59] at H
              have c59b0 : (t188 == 0) = false := beq_eq_false_iff_ne.mpr c59
              have c59b1 : (t188 != 0) = true := bne_iff_ne.mpr c59
              exact absurd ((zOi H).trans HRT.out) (by decide)
      · rw [if_neg c20] at H
        have c20b0 : (t152 == 0) = false := beq_eq_false_iff_ne.mpr c20
        have c20b1 : (t152 != 0) = true := bne_iff_ne.mpr c20
        replace H := bnd H
        obtain ⟨⟨t153, t154, t157⟩, A1060, H⟩ := H
        replace H : ((graph_Make.f kj3 a0_0 l0_1).bind fun bt159 => (if t157 = 0 then ((graph_Right.f kj3 bt159.1 bt159.2.1).bind fun t165 => (if t165 = 0 then ((filigreelaw04_alive.f kj3).bind fun t166 => (some t166)) else (some false))) else ((filigreelaw04_alive.f kj3).bind fun t167 => (some t167)))) = some r := H
        have A106 := zMk A1060
        clear A1060
        replace H := bnd H
        obtain ⟨⟨t159, t160, t163⟩, A1070, H⟩ := H
        replace H : (if t157 = 0 then ((graph_Right.f kj3 t159 t160).bind fun t165 => (if t165 = 0 then ((filigreelaw04_alive.f kj3).bind fun t166 => (some t166)) else (some false))) else ((filigreelaw04_alive.f kj3).bind fun t167 => (some t167))) = some r := H
        have A107 := zMk A1070
        clear A1070
        by_cases c108 : t157 = 0
        · rw [if_pos c108] at H
          have c108b0 : (t157 == 0) = true := beq_iff_eq.mpr c108
          have c108b1 : (t157 != 0) = false := bne_eq_false_iff_eq.mpr c108
          clear c108
          replace H := bnd H
          obtain ⟨t165, A1090, H⟩ := H
          have A109 := zMk A1090
          clear A1090
          by_cases c110 : t165 = 0
          · rw [if_pos c110] at H
            have c110b0 : (t165 == 0) = true := beq_iff_eq.mpr c110
            have c110b1 : (t165 != 0) = false := bne_eq_false_iff_eq.mpr c110
            clear c110
            replace H := bnd H
            obtain ⟨t166, A1110, H⟩ := H
            have A111 := zMk A1110
            clear A1110
            obtain rfl := zOi H
            have hcz112_0 : wc.cell? ⟨gb149, 0, none⟩ = some (.int .i64 a0_0) := (zKc BK149.out 0).trans rfl
            have hcz112_1 : wc.cell? ⟨gb149, 1, none⟩ = some (.slice A0_1 l0_1.length c0_1) := (zKc BK149.out 1).trans rfl
            have hfz112_0 := zKf BK149.out 0
            have hfz112_1 := zKf BK149.out 1
            go_wp2_with (first |  ((with_reducible refine gate_callee (f := 11) rfl ?_); refine goesL_ (some 33) rfl rfl Try.func11 (by kernel_rfl) rfl #[.agg #[.int .i64 a0_0, .slice A0_1 l0_1.length c0_1]] rfl (by (try simp only [zMa, zMc, zMn]); first |  done|  rfl|  (simp only [zLd, zLt]; rfl)) ?_; (with_reducible refine (graph_Right.calls kj3 a0_0 _ _ l0_1 t152 _ ?side1 ?side2 A19.out).mono ?_); (case side1 => repeat (first |  exact (Kd.C_below HR0_1.out HB.out)|  (with_reducible refine zCa ?_ _)|  (with_reducible refine zCn ?_ _)|  (with_reducible refine zCd ?_))); (case side2 => exact HC0_1.out); rintro e w113 ⟨rfl, hb⟩; refine ⟨_, rfl, ?_⟩; replace BK149 := zMk (zKb (g := gb149) (o := .cells #[.int .i64 a0_0, .slice A0_1 l0_1.length c0_1] 24 (0, 0)) (by (with_reducible repeat (first |  refine zKn ?_ _|  refine zKd ?_|  refine zKa ?_ _)); exact BK149.out) hb); replace HB := zMk (zBt (by exact uT HB.out) hb); (try clear hb); (try clear hb2); (try clear hk); (try clear hi); have hcz114_0 : w113.cell? ⟨gb149, 0, none⟩ = some (.int .i64 a0_0) := (zKc BK149.out 0).trans rfl; have hcz114_1 : w113.cell? ⟨gb149, 1, none⟩ = some (.slice A0_1 l0_1.length c0_1) := (zKc BK149.out 1).trans rfl; have hfz114_0 := zKf BK149.out 0; have hfz114_1 := zKf BK149.out 1)|  ((with_reducible refine gate_callee (f := 14) rfl ?_); refine goesL_ (some 40) rfl rfl Try.func14 (by kernel_rfl) rfl #[.int .i64 a0_0, .slice A0_1 l0_1.length c0_1] rfl (by (try simp only [zMa, zMc, zMn]); first |  done|  rfl|  (simp only [zLd, zLt]; rfl)) ?_; (with_reducible refine (graph_Make.calls kj3 a0_0 _ _ l0_1 t153 t154 t157 _ ?side1 ?side2 A106.out).mono ?_); (case side1 => repeat (first |  exact (Kd.C_below HR0_1.out HB.out)|  (with_reducible refine zCa ?_ _)|  (with_reducible refine zCn ?_ _)|  (with_reducible refine zCd ?_))); (case side2 => exact HC0_1.out); rintro e w115 ⟨v155, rfl, ho0, hb⟩; refine ⟨_, rfl, ?_⟩; have HO156 := zMk (zRl ho0 (zBs (by exact uT HB.out))); replace BK149 := zMk (zKb (g := gb149) (o := .cells #[.int .i64 a0_0, .slice A0_1 l0_1.length c0_1] 24 (0, 0)) (by (with_reducible repeat (first |  refine zKn ?_ _|  refine zKd ?_|  refine zKa ?_ _)); exact BK149.out) hb); replace HB := zMk (zBt (by exact uT HB.out) hb); (try clear hb); (try clear hb2); (try clear hk); (try clear hi); (try clear ho0))|  ((with_reducible refine gate_dst (N := 7) rfl ?_); (try (refine gate_guard (by rfl) ?_; dsimp only)); refine box_event ?hg (N := 7) ?hd (cs := #[.int .i64 0, .slice none 0 0]) (t := 24) ?hr ?_; (case hd => rfl); (case hg => rfl); (case hr => first |  (go_simp; done)|  (go_simp; rfl)|  (go_simp; rw [show ∀ x : Int, IntKind.u32.wrap (IntKind.u8.wrap x) = x % 256 from fun x => (by show (x % 256) % 4294967296 = x % 256; omega)])); intro gb158 hg w116 hbox hb; replace HO156 := zMk (zRb (by exact uR HO156.out) hb); have BK158 := zMk (hbox); have GW158 := zMk ((by rw [hg]; exact (zBs (by exact uT HB.out)) : w.heap.size ≤ gb158)); have GE158 := zMk ((by rw [hg]; exact (zBs (by exact uT HB.out)) : w.heap.size ≤ gb158)); have IGE158 := ownGe GE158.out; replace HB := zMk (zBt (by exact uT HB.out) hb); have NB149_158 := zMk ((by rw [hg]; exact Nat.ne_of_lt (blk_lt (g := gb149) (o := .cells #[.int .i64 a0_0, .slice A0_1 l0_1.length c0_1] 24 (0, 0)) (by (with_reducible repeat (first |  refine zKn ?_ _|  refine zKd ?_|  refine zKa ?_ _)); exact BK149.out)) : gb149 ≠ gb158)); have NB158_149 := zMk ((by rw [hg]; exact Nat.ne_of_gt (blk_lt (g := gb149) (o := .cells #[.int .i64 a0_0, .slice A0_1 l0_1.length c0_1] 24 (0, 0)) (by (with_reducible repeat (first |  refine zKn ?_ _|  refine zKd ?_|  refine zKa ?_ _)); exact BK149.out)) : gb158 ≠ gb149)); replace BK149 := zMk (zKb (g := gb149) (o := .cells #[.int .i64 a0_0, .slice A0_1 l0_1.length c0_1] 24 (0, 0)) (by (with_reducible repeat (first |  refine zKn ?_ _|  refine zKd ?_|  refine zKa ?_ _)); exact BK149.out) hb); clear hb hbox hg; have hnb117 := NB158_149.out; have hnc117 := NB149_158.out; have hcz118_0 : w116.cell? ⟨gb158, 0, none⟩ = some (.int .i64 0) := (zKc BK158.out 0).trans rfl; have hcz118_1 : w116.cell? ⟨gb158, 1, none⟩ = some (.slice none 0 0) := (zKc BK158.out 1).trans rfl; have hfz118_0 := zKf BK158.out 0; have hfz118_1 := zKf BK158.out 1; obtain ⟨Ao119, co119, eo119⟩ := zRs HO156.out; subst eo119; have hcz120_0 : w116.cell? ⟨gb149, 0, none⟩ = some (.int .i64 a0_0) := (zKc BK149.out 0).trans rfl; have hcz120_1 : w116.cell? ⟨gb149, 1, none⟩ = some (.slice A0_1 l0_1.length c0_1) := (zKc BK149.out 1).trans rfl; have hfz120_0 := zKf BK149.out 0; have hfz120_1 := zKf BK149.out 1)|  ((with_reducible refine gate_callee (f := 14) rfl ?_); refine goesL_ (some 48) rfl rfl Try.func14 (by kernel_rfl) rfl #[.int .i64 a0_0, .slice A0_1 l0_1.length c0_1] rfl (by (try simp only [zMa, zMc, zMn]); first |  done|  rfl|  (simp only [zLd, zLt]; rfl)) ?_; (with_reducible refine (graph_Make.calls kj3 a0_0 _ _ l0_1 t159 t160 t163 _ ?side1 ?side2 A107.out).mono ?_); (case side1 => exact Kd.C_below HR0_1.out (by exact uT HB.out)); (case side2 => exact HC0_1.out); rintro e w121 ⟨v161, rfl, ho0, hb⟩; refine ⟨_, rfl, ?_⟩; have HO162 := zMk (zRl (zRw ho0 (zRt (by (with_reducible repeat (first |  apply zRa|  apply zRn|  apply zRd)); exact (zRm (Kd.R_far (p := ⟨gb158, 1, none⟩) (Kd.R_far (p := ⟨gb158, 0, none⟩) (Kd.R_types HO156.out BK158.out (by decide)) (fun _ hk => hk.2) (.int .i64 t153)) (fun _ hk => hk.2) (.slice Ao119 t154.length co119)) (fun _ h_ => h_.1))))) (zBs (by exact uT HB.out))); replace HO156 := zMk (zRe (by (with_reducible repeat (first |  apply zRa|  apply zRn|  apply zRd)); exact (zRm (Kd.R_far (p := ⟨gb158, 1, none⟩) (Kd.R_far (p := ⟨gb158, 0, none⟩) (Kd.R_types HO156.out BK158.out (by decide)) (fun _ hk => hk.2) (.int .i64 t153)) (fun _ hk => hk.2) (.slice Ao119 t154.length co119)) (fun _ h_ => h_.1))) (zRz ho0) hb); replace BK149 := zMk (zKb (g := gb149) (o := .cells #[.int .i64 a0_0, .slice A0_1 l0_1.length c0_1] 24 (0, 0)) (by (with_reducible repeat (first |  refine zKn ?_ _|  refine zKd ?_|  refine zKa ?_ _)); refine blk_far ?_ NB149_158.out _; (with_reducible repeat (first |  refine zKn ?_ _|  refine zKd ?_|  refine zKa ?_ _)); refine blk_far ?_ NB149_158.out _; (with_reducible repeat (first |  refine zKn ?_ _|  refine zKd ?_|  refine zKa ?_ _)); exact BK149.out) hb); replace BK158 := zMk (zKb (g := gb158) (o := .cells #[.int .i64 t153, .slice Ao119 t154.length co119] 24 (0, 0)) (by (with_reducible repeat (first |  refine zKn ?_ _|  refine zKd ?_|  refine zKa ?_ _)); refine blk_put (cs := #[.int .i64 t153, .slice none 0 0]) ?_ 1 _ rfl; (with_reducible repeat (first |  refine zKn ?_ _|  refine zKd ?_|  refine zKa ?_ _)); refine blk_put (cs := #[.int .i64 0, .slice none 0 0]) ?_ 0 _ rfl; (with_reducible repeat (first |  refine zKn ?_ _|  refine zKd ?_|  refine zKa ?_ _)); exact BK158.out) hb); replace HB := zMk (zBt (by exact uT HB.out) hb); (try clear hb); (try clear hb2); (try clear hk); (try clear hi); (try clear ho0))|  ((with_reducible refine gate_dst (N := 9) rfl ?_); (try (refine gate_guard (by rfl) ?_; dsimp only)); refine box_event ?hg (N := 9) ?hd (cs := #[.int .i64 0, .slice none 0 0]) (t := 24) ?hr ?_; (case hd => rfl); (case hg => rfl); (case hr => first |  (go_simp; done)|  (go_simp; rfl)|  (go_simp; rw [show ∀ x : Int, IntKind.u32.wrap (IntKind.u8.wrap x) = x % 256 from fun x => (by show (x % 256) % 4294967296 = x % 256; omega)])); intro gb164 hg w122 hbox hb; replace HO156 := zMk (zRb (by exact uR HO156.out) hb); replace HO162 := zMk (zRb (by exact uR HO162.out) hb); have BK164 := zMk (hbox); have GW164 := zMk ((by rw [hg]; exact (zBs (by exact uT HB.out)) : w.heap.size ≤ gb164)); have GE164 := zMk ((by rw [hg]; exact (zBs (by exact uT HB.out)) : w.heap.size ≤ gb164)); have IGE164 := ownGe GE164.out; replace HB := zMk (zBt (by exact uT HB.out) hb); have NB149_164 := zMk ((by rw [hg]; exact Nat.ne_of_lt (blk_lt (g := gb149) (o := .cells #[.int .i64 a0_0, .slice A0_1 l0_1.length c0_1] 24 (0, 0)) (by (with_reducible repeat (first |  refine zKn ?_ _|  refine zKd ?_|  refine zKa ?_ _)); exact BK149.out)) : gb149 ≠ gb164)); have NB164_149 := zMk ((by rw [hg]; exact Nat.ne_of_gt (blk_lt (g := gb149) (o := .cells #[.int .i64 a0_0, .slice A0_1 l0_1.length c0_1] 24 (0, 0)) (by (with_reducible repeat (first |  refine zKn ?_ _|  refine zKd ?_|  refine zKa ?_ _)); exact BK149.out)) : gb164 ≠ gb149)); replace BK149 := zMk (zKb (g := gb149) (o := .cells #[.int .i64 a0_0, .slice A0_1 l0_1.length c0_1] 24 (0, 0)) (by (with_reducible repeat (first |  refine zKn ?_ _|  refine zKd ?_|  refine zKa ?_ _)); exact BK149.out) hb); have NB158_164 := zMk ((by rw [hg]; exact Nat.ne_of_lt (blk_lt (g := gb158) (o := .cells #[.int .i64 t153, .slice Ao119 t154.length co119] 24 (0, 0)) (by (with_reducible repeat (first |  refine zKn ?_ _|  refine zKd ?_|  refine zKa ?_ _)); exact BK158.out)) : gb158 ≠ gb164)); have NB164_158 := zMk ((by rw [hg]; exact Nat.ne_of_gt (blk_lt (g := gb158) (o := .cells #[.int .i64 t153, .slice Ao119 t154.length co119] 24 (0, 0)) (by (with_reducible repeat (first |  refine zKn ?_ _|  refine zKd ?_|  refine zKa ?_ _)); exact BK158.out)) : gb164 ≠ gb158)); replace BK158 := zMk (zKb (g := gb158) (o := .cells #[.int .i64 t153, .slice Ao119 t154.length co119] 24 (0, 0)) (by (with_reducible repeat (first |  refine zKn ?_ _|  refine zKd ?_|  refine zKa ?_ _)); exact BK158.out) hb); clear hb hbox hg; have hnb123 := NB164_149.out; have hnc123 := NB149_164.out; have hnb124 := NB164_158.out; have hnc124 := NB158_164.out; have hcz125_0 : w122.cell? ⟨gb164, 0, none⟩ = some (.int .i64 0) := (zKc BK164.out 0).trans rfl; have hcz125_1 : w122.cell? ⟨gb164, 1, none⟩ = some (.slice none 0 0) := (zKc BK164.out 1).trans rfl; have hfz125_0 := zKf BK164.out 0; have hfz125_1 := zKf BK164.out 1; obtain ⟨Ao126, co126, eo126⟩ := zRs HO162.out; subst eo126)|  (go_at_call 11; (with_reducible refine (graph_Right.calls kj3 t159 _ _ t160 t165 _ ?side1 ?side2 A109.out).mono ?_); (case side1 => refine (zRr (e := 36) (base := w.heap.size) (ok := fun k_ => (True ∧ some k_ ≠ (.slice Ao119 t154.length co119 : Value).ownBlock)) (n := t160.length) (c := co126) ?_).2.2; exact (by (with_reducible repeat (first |  apply zRa|  apply zRn|  apply zRd)); exact (zRm (Kd.R_far (p := ⟨gb164, 1, none⟩) (Kd.R_far (p := ⟨gb164, 0, none⟩) (Kd.R_types HO162.out BK164.out (by decide)) (fun _ hk => hk.2) (.int .i64 t159)) (fun _ hk => hk.2) (.slice Ao126 t160.length co126)) (fun _ h_ => h_.1)))); (case side2 => exact (zRr HO162.out).2.1); rintro e w127 ⟨rfl, hb⟩; replace HO156 := zMk (zRb (by (with_reducible repeat (first |  apply zRa|  apply zRn|  apply zRd)); exact (zRm (Kd.R_far (p := ⟨gb164, 1, none⟩) (Kd.R_far (p := ⟨gb164, 0, none⟩) (Kd.R_types HO156.out BK164.out (by decide)) (fun _ hk => hk.2) (.int .i64 t159)) (fun _ hk => hk.2) (.slice Ao126 t160.length co126)) (fun _ h_ => h_.1))) hb); replace HO162 := zMk (zRb (by (with_reducible repeat (first |  apply zRa|  apply zRn|  apply zRd)); exact (zRm (Kd.R_far (p := ⟨gb164, 1, none⟩) (Kd.R_far (p := ⟨gb164, 0, none⟩) (Kd.R_types HO162.out BK164.out (by decide)) (fun _ hk => hk.2) (.int .i64 t159)) (fun _ hk => hk.2) (.slice Ao126 t160.length co126)) (fun _ h_ => h_.1))) hb); replace BK149 := zMk (zKb (g := gb149) (o := .cells #[.int .i64 a0_0, .slice A0_1 l0_1.length c0_1] 24 (0, 0)) (by (with_reducible repeat (first |  refine zKn ?_ _|  refine zKd ?_|  refine zKa ?_ _)); refine blk_far ?_ NB149_164.out _; (with_reducible repeat (first |  refine zKn ?_ _|  refine zKd ?_|  refine zKa ?_ _)); refine blk_far ?_ NB149_164.out _; (with_reducible repeat (first |  refine zKn ?_ _|  refine zKd ?_|  refine zKa ?_ _)); exact BK149.out) hb); replace BK158 := zMk (zKb (g := gb158) (o := .cells #[.int .i64 t153, .slice Ao119 t154.length co119] 24 (0, 0)) (by (with_reducible repeat (first |  refine zKn ?_ _|  refine zKd ?_|  refine zKa ?_ _)); refine blk_far ?_ NB158_164.out _; (with_reducible repeat (first |  refine zKn ?_ _|  refine zKd ?_|  refine zKa ?_ _)); refine blk_far ?_ NB158_164.out _; (with_reducible repeat (first |  refine zKn ?_ _|  refine zKd ?_|  refine zKa ?_ _)); exact BK158.out) hb); replace BK164 := zMk (zKb (g := gb164) (o := .cells #[.int .i64 t159, .slice Ao126 t160.length co126] 24 (0, 0)) (by (with_reducible repeat (first |  refine zKn ?_ _|  refine zKd ?_|  refine zKa ?_ _)); refine blk_put (cs := #[.int .i64 t159, .slice none 0 0]) ?_ 1 _ rfl; (with_reducible repeat (first |  refine zKn ?_ _|  refine zKd ?_|  refine zKa ?_ _)); refine blk_put (cs := #[.int .i64 0, .slice none 0 0]) ?_ 0 _ rfl; (with_reducible repeat (first |  refine zKn ?_ _|  refine zKd ?_|  refine zKa ?_ _)); exact BK164.out) hb); replace HB := zMk (zBt (by exact uT HB.out) hb); (try clear hb); (try clear hb2); (try clear hk); (try clear hi))|  (go_at_call 13; (with_reducible refine (filigreelaw04_alive.calls kj3  t166 _ A111.out).mono ?_); rintro e w128 ⟨rfl, hb⟩; replace HO156 := zMk (zRb (by exact uR HO156.out) hb); replace HO162 := zMk (zRb (by exact uR HO162.out) hb); replace BK149 := zMk (zKb (g := gb149) (o := .cells #[.int .i64 a0_0, .slice A0_1 l0_1.length c0_1] 24 (0, 0)) (by (with_reducible repeat (first |  refine zKn ?_ _|  refine zKd ?_|  refine zKa ?_ _)); exact BK149.out) hb); replace BK158 := zMk (zKb (g := gb158) (o := .cells #[.int .i64 t153, .slice Ao119 t154.length co119] 24 (0, 0)) (by (with_reducible repeat (first |  refine zKn ?_ _|  refine zKd ?_|  refine zKa ?_ _)); exact BK158.out) hb); replace BK164 := zMk (zKb (g := gb164) (o := .cells #[.int .i64 t159, .slice Ao126 t160.length co126] 24 (0, 0)) (by (with_reducible repeat (first |  refine zKn ?_ _|  refine zKd ?_|  refine zKa ?_ _)); exact BK164.out) hb); replace HB := zMk (zBt (by exact uT HB.out) hb); (try clear hb); (try clear hb2); (try clear hk); (try clear hi)))
            go_ret
            exact ⟨by first | rfl | (simp [errW_none, errW_some] <;> rfl) | (simp [*, errW_none, errW_some] <;> rfl), by exact uT HB.out⟩
          · rw [if_neg c110] at H
            have c110b0 : (t165 == 0) = false := beq_eq_false_iff_ne.mpr c110
            have c110b1 : (t165 != 0) = true := bne_iff_ne.mpr c110
            obtain rfl := zOi H
            have hcz129_0 : wc.cell? ⟨gb149, 0, none⟩ = some (.int .i64 a0_0) := (zKc BK149.out 0).trans rfl
            have hcz129_1 : wc.cell? ⟨gb149, 1, none⟩ = some (.slice A0_1 l0_1.length c0_1) := (zKc BK149.out 1).trans rfl
            have hfz129_0 := zKf BK149.out 0
            have hfz129_1 := zKf BK149.out 1
            go_wp2_with (first |  ((with_reducible refine gate_callee (f := 11) rfl ?_); refine goesL_ (some 33) rfl rfl Try.func11 (by kernel_rfl) rfl #[.agg #[.int .i64 a0_0, .slice A0_1 l0_1.length c0_1]] rfl (by (try simp only [zMa, zMc, zMn]); first |  done|  rfl|  (simp only [zLd, zLt]; rfl)) ?_; (with_reducible refine (graph_Right.calls kj3 a0_0 _ _ l0_1 t152 _ ?side1 ?side2 A19.out).mono ?_); (case side1 => repeat (first |  exact (Kd.C_below HR0_1.out HB.out)|  (with_reducible refine zCa ?_ _)|  (with_reducible refine zCn ?_ _)|  (with_reducible refine zCd ?_))); (case side2 => exact HC0_1.out); rintro e w130 ⟨rfl, hb⟩; refine ⟨_, rfl, ?_⟩; replace BK149 := zMk (zKb (g := gb149) (o := .cells #[.int .i64 a0_0, .slice A0_1 l0_1.length c0_1] 24 (0, 0)) (by (with_reducible repeat (first |  refine zKn ?_ _|  refine zKd ?_|  refine zKa ?_ _)); exact BK149.out) hb); replace HB := zMk (zBt (by exact uT HB.out) hb); (try clear hb); (try clear hb2); (try clear hk); (try clear hi); have hcz131_0 : w130.cell? ⟨gb149, 0, none⟩ = some (.int .i64 a0_0) := (zKc BK149.out 0).trans rfl; have hcz131_1 : w130.cell? ⟨gb149, 1, none⟩ = some (.slice A0_1 l0_1.length c0_1) := (zKc BK149.out 1).trans rfl; have hfz131_0 := zKf BK149.out 0; have hfz131_1 := zKf BK149.out 1)|  ((with_reducible refine gate_callee (f := 14) rfl ?_); refine goesL_ (some 40) rfl rfl Try.func14 (by kernel_rfl) rfl #[.int .i64 a0_0, .slice A0_1 l0_1.length c0_1] rfl (by (try simp only [zMa, zMc, zMn]); first |  done|  rfl|  (simp only [zLd, zLt]; rfl)) ?_; (with_reducible refine (graph_Make.calls kj3 a0_0 _ _ l0_1 t153 t154 t157 _ ?side1 ?side2 A106.out).mono ?_); (case side1 => repeat (first |  exact (Kd.C_below HR0_1.out HB.out)|  (with_reducible refine zCa ?_ _)|  (with_reducible refine zCn ?_ _)|  (with_reducible refine zCd ?_))); (case side2 => exact HC0_1.out); rintro e w132 ⟨v155, rfl, ho0, hb⟩; refine ⟨_, rfl, ?_⟩; have HO156 := zMk (zRl ho0 (zBs (by exact uT HB.out))); replace BK149 := zMk (zKb (g := gb149) (o := .cells #[.int .i64 a0_0, .slice A0_1 l0_1.length c0_1] 24 (0, 0)) (by (with_reducible repeat (first |  refine zKn ?_ _|  refine zKd ?_|  refine zKa ?_ _)); exact BK149.out) hb); replace HB := zMk (zBt (by exact uT HB.out) hb); (try clear hb); (try clear hb2); (try clear hk); (try clear hi); (try clear ho0))|  ((with_reducible refine gate_dst (N := 7) rfl ?_); (try (refine gate_guard (by rfl) ?_; dsimp only)); refine box_event ?hg (N := 7) ?hd (cs := #[.int .i64 0, .slice none 0 0]) (t := 24) ?hr ?_; (case hd => rfl); (case hg => rfl); (case hr => first |  (go_simp; done)|  (go_simp; rfl)|  (go_simp; rw [show ∀ x : Int, IntKind.u32.wrap (IntKind.u8.wrap x) = x % 256 from fun x => (by show (x % 256) % 4294967296 = x % 256; omega)])); intro gb158 hg w133 hbox hb; replace HO156 := zMk (zRb (by exact uR HO156.out) hb); have BK158 := zMk (hbox); have GW158 := zMk ((by rw [hg]; exact (zBs (by exact uT HB.out)) : w.heap.size ≤ gb158)); have GE158 := zMk ((by rw [hg]; exact (zBs (by exact uT HB.out)) : w.heap.size ≤ gb158)); have IGE158 := ownGe GE158.out; replace HB := zMk (zBt (by exact uT HB.out) hb); have NB149_158 := zMk ((by rw [hg]; exact Nat.ne_of_lt (blk_lt (g := gb149) (o := .cells #[.int .i64 a0_0, .slice A0_1 l0_1.length c0_1] 24 (0, 0)) (by (with_reducible repeat (first |  refine zKn ?_ _|  refine zKd ?_|  refine zKa ?_ _)); exact BK149.out)) : gb149 ≠ gb158)); have NB158_149 := zMk ((by rw [hg]; exact Nat.ne_of_gt (blk_lt (g := gb149) (o := .cells #[.int .i64 a0_0, .slice A0_1 l0_1.length c0_1] 24 (0, 0)) (by (with_reducible repeat (first |  refine zKn ?_ _|  refine zKd ?_|  refine zKa ?_ _)); exact BK149.out)) : gb158 ≠ gb149)); replace BK149 := zMk (zKb (g := gb149) (o := .cells #[.int .i64 a0_0, .slice A0_1 l0_1.length c0_1] 24 (0, 0)) (by (with_reducible repeat (first |  refine zKn ?_ _|  refine zKd ?_|  refine zKa ?_ _)); exact BK149.out) hb); clear hb hbox hg; have hnb134 := NB158_149.out; have hnc134 := NB149_158.out; have hcz135_0 : w133.cell? ⟨gb158, 0, none⟩ = some (.int .i64 0) := (zKc BK158.out 0).trans rfl; have hcz135_1 : w133.cell? ⟨gb158, 1, none⟩ = some (.slice none 0 0) := (zKc BK158.out 1).trans rfl; have hfz135_0 := zKf BK158.out 0; have hfz135_1 := zKf BK158.out 1; obtain ⟨Ao136, co136, eo136⟩ := zRs HO156.out; subst eo136; have hcz137_0 : w133.cell? ⟨gb149, 0, none⟩ = some (.int .i64 a0_0) := (zKc BK149.out 0).trans rfl; have hcz137_1 : w133.cell? ⟨gb149, 1, none⟩ = some (.slice A0_1 l0_1.length c0_1) := (zKc BK149.out 1).trans rfl; have hfz137_0 := zKf BK149.out 0; have hfz137_1 := zKf BK149.out 1)|  ((with_reducible refine gate_callee (f := 14) rfl ?_); refine goesL_ (some 48) rfl rfl Try.func14 (by kernel_rfl) rfl #[.int .i64 a0_0, .slice A0_1 l0_1.length c0_1] rfl (by (try simp only [zMa, zMc, zMn]); first |  done|  rfl|  (simp only [zLd, zLt]; rfl)) ?_; (with_reducible refine (graph_Make.calls kj3 a0_0 _ _ l0_1 t159 t160 t163 _ ?side1 ?side2 A107.out).mono ?_); (case side1 => exact Kd.C_below HR0_1.out (by exact uT HB.out)); (case side2 => exact HC0_1.out); rintro e w138 ⟨v161, rfl, ho0, hb⟩; refine ⟨_, rfl, ?_⟩; have HO162 := zMk (zRl (zRw ho0 (zRt (by (with_reducible repeat (first |  apply zRa|  apply zRn|  apply zRd)); exact (zRm (Kd.R_far (p := ⟨gb158, 1, none⟩) (Kd.R_far (p := ⟨gb158, 0, none⟩) (Kd.R_types HO156.out BK158.out (by decide)) (fun _ hk => hk.2) (.int .i64 t153)) (fun _ hk => hk.2) (.slice Ao136 t154.length co136)) (fun _ h_ => h_.1))))) (zBs (by exact uT HB.out))); replace HO156 := zMk (zRe (by (with_reducible repeat (first |  apply zRa|  apply zRn|  apply zRd)); exact (zRm (Kd.R_far (p := ⟨gb158, 1, none⟩) (Kd.R_far (p := ⟨gb158, 0, none⟩) (Kd.R_types HO156.out BK158.out (by decide)) (fun _ hk => hk.2) (.int .i64 t153)) (fun _ hk => hk.2) (.slice Ao136 t154.length co136)) (fun _ h_ => h_.1))) (zRz ho0) hb); replace BK149 := zMk (zKb (g := gb149) (o := .cells #[.int .i64 a0_0, .slice A0_1 l0_1.length c0_1] 24 (0, 0)) (by (with_reducible repeat (first |  refine zKn ?_ _|  refine zKd ?_|  refine zKa ?_ _)); refine blk_far ?_ NB149_158.out _; (with_reducible repeat (first |  refine zKn ?_ _|  refine zKd ?_|  refine zKa ?_ _)); refine blk_far ?_ NB149_158.out _; (with_reducible repeat (first |  refine zKn ?_ _|  refine zKd ?_|  refine zKa ?_ _)); exact BK149.out) hb); replace BK158 := zMk (zKb (g := gb158) (o := .cells #[.int .i64 t153, .slice Ao136 t154.length co136] 24 (0, 0)) (by (with_reducible repeat (first |  refine zKn ?_ _|  refine zKd ?_|  refine zKa ?_ _)); refine blk_put (cs := #[.int .i64 t153, .slice none 0 0]) ?_ 1 _ rfl; (with_reducible repeat (first |  refine zKn ?_ _|  refine zKd ?_|  refine zKa ?_ _)); refine blk_put (cs := #[.int .i64 0, .slice none 0 0]) ?_ 0 _ rfl; (with_reducible repeat (first |  refine zKn ?_ _|  refine zKd ?_|  refine zKa ?_ _)); exact BK158.out) hb); replace HB := zMk (zBt (by exact uT HB.out) hb); (try clear hb); (try clear hb2); (try clear hk); (try clear hi); (try clear ho0))|  ((with_reducible refine gate_dst (N := 9) rfl ?_); (try (refine gate_guard (by rfl) ?_; dsimp only)); refine box_event ?hg (N := 9) ?hd (cs := #[.int .i64 0, .slice none 0 0]) (t := 24) ?hr ?_; (case hd => rfl); (case hg => rfl); (case hr => first |  (go_simp; done)|  (go_simp; rfl)|  (go_simp; rw [show ∀ x : Int, IntKind.u32.wrap (IntKind.u8.wrap x) = x % 256 from fun x => (by show (x % 256) % 4294967296 = x % 256; omega)])); intro gb164 hg w139 hbox hb; replace HO156 := zMk (zRb (by exact uR HO156.out) hb); replace HO162 := zMk (zRb (by exact uR HO162.out) hb); have BK164 := zMk (hbox); have GW164 := zMk ((by rw [hg]; exact (zBs (by exact uT HB.out)) : w.heap.size ≤ gb164)); have GE164 := zMk ((by rw [hg]; exact (zBs (by exact uT HB.out)) : w.heap.size ≤ gb164)); have IGE164 := ownGe GE164.out; replace HB := zMk (zBt (by exact uT HB.out) hb); have NB149_164 := zMk ((by rw [hg]; exact Nat.ne_of_lt (blk_lt (g := gb149) (o := .cells #[.int .i64 a0_0, .slice A0_1 l0_1.length c0_1] 24 (0, 0)) (by (with_reducible repeat (first |  refine zKn ?_ _|  refine zKd ?_|  refine zKa ?_ _)); exact BK149.out)) : gb149 ≠ gb164)); have NB164_149 := zMk ((by rw [hg]; exact Nat.ne_of_gt (blk_lt (g := gb149) (o := .cells #[.int .i64 a0_0, .slice A0_1 l0_1.length c0_1] 24 (0, 0)) (by (with_reducible repeat (first |  refine zKn ?_ _|  refine zKd ?_|  refine zKa ?_ _)); exact BK149.out)) : gb164 ≠ gb149)); replace BK149 := zMk (zKb (g := gb149) (o := .cells #[.int .i64 a0_0, .slice A0_1 l0_1.length c0_1] 24 (0, 0)) (by (with_reducible repeat (first |  refine zKn ?_ _|  refine zKd ?_|  refine zKa ?_ _)); exact BK149.out) hb); have NB158_164 := zMk ((by rw [hg]; exact Nat.ne_of_lt (blk_lt (g := gb158) (o := .cells #[.int .i64 t153, .slice Ao136 t154.length co136] 24 (0, 0)) (by (with_reducible repeat (first |  refine zKn ?_ _|  refine zKd ?_|  refine zKa ?_ _)); exact BK158.out)) : gb158 ≠ gb164)); have NB164_158 := zMk ((by rw [hg]; exact Nat.ne_of_gt (blk_lt (g := gb158) (o := .cells #[.int .i64 t153, .slice Ao136 t154.length co136] 24 (0, 0)) (by (with_reducible repeat (first |  refine zKn ?_ _|  refine zKd ?_|  refine zKa ?_ _)); exact BK158.out)) : gb164 ≠ gb158)); replace BK158 := zMk (zKb (g := gb158) (o := .cells #[.int .i64 t153, .slice Ao136 t154.length co136] 24 (0, 0)) (by (with_reducible repeat (first |  refine zKn ?_ _|  refine zKd ?_|  refine zKa ?_ _)); exact BK158.out) hb); clear hb hbox hg; have hnb140 := NB164_149.out; have hnc140 := NB149_164.out; have hnb141 := NB164_158.out; have hnc141 := NB158_164.out; have hcz142_0 : w139.cell? ⟨gb164, 0, none⟩ = some (.int .i64 0) := (zKc BK164.out 0).trans rfl; have hcz142_1 : w139.cell? ⟨gb164, 1, none⟩ = some (.slice none 0 0) := (zKc BK164.out 1).trans rfl; have hfz142_0 := zKf BK164.out 0; have hfz142_1 := zKf BK164.out 1; obtain ⟨Ao143, co143, eo143⟩ := zRs HO162.out; subst eo143)|  (go_at_call 11; (with_reducible refine (graph_Right.calls kj3 t159 _ _ t160 t165 _ ?side1 ?side2 A109.out).mono ?_); (case side1 => refine (zRr (e := 36) (base := w.heap.size) (ok := fun k_ => (True ∧ some k_ ≠ (.slice Ao136 t154.length co136 : Value).ownBlock)) (n := t160.length) (c := co143) ?_).2.2; exact (by (with_reducible repeat (first |  apply zRa|  apply zRn|  apply zRd)); exact (zRm (Kd.R_far (p := ⟨gb164, 1, none⟩) (Kd.R_far (p := ⟨gb164, 0, none⟩) (Kd.R_types HO162.out BK164.out (by decide)) (fun _ hk => hk.2) (.int .i64 t159)) (fun _ hk => hk.2) (.slice Ao143 t160.length co143)) (fun _ h_ => h_.1)))); (case side2 => exact (zRr HO162.out).2.1); rintro e w144 ⟨rfl, hb⟩; replace HO156 := zMk (zRb (by (with_reducible repeat (first |  apply zRa|  apply zRn|  apply zRd)); exact (zRm (Kd.R_far (p := ⟨gb164, 1, none⟩) (Kd.R_far (p := ⟨gb164, 0, none⟩) (Kd.R_types HO156.out BK164.out (by decide)) (fun _ hk => hk.2) (.int .i64 t159)) (fun _ hk => hk.2) (.slice Ao143 t160.length co143)) (fun _ h_ => h_.1))) hb); replace HO162 := zMk (zRb (by (with_reducible repeat (first |  apply zRa|  apply zRn|  apply zRd)); exact (zRm (Kd.R_far (p := ⟨gb164, 1, none⟩) (Kd.R_far (p := ⟨gb164, 0, none⟩) (Kd.R_types HO162.out BK164.out (by decide)) (fun _ hk => hk.2) (.int .i64 t159)) (fun _ hk => hk.2) (.slice Ao143 t160.length co143)) (fun _ h_ => h_.1))) hb); replace BK149 := zMk (zKb (g := gb149) (o := .cells #[.int .i64 a0_0, .slice A0_1 l0_1.length c0_1] 24 (0, 0)) (by (with_reducible repeat (first |  refine zKn ?_ _|  refine zKd ?_|  refine zKa ?_ _)); refine blk_far ?_ NB149_164.out _; (with_reducible repeat (first |  refine zKn ?_ _|  refine zKd ?_|  refine zKa ?_ _)); refine blk_far ?_ NB149_164.out _; (with_reducible repeat (first |  refine zKn ?_ _|  refine zKd ?_|  refine zKa ?_ _)); exact BK149.out) hb); replace BK158 := zMk (zKb (g := gb158) (o := .cells #[.int .i64 t153, .slice Ao136 t154.length co136] 24 (0, 0)) (by (with_reducible repeat (first |  refine zKn ?_ _|  refine zKd ?_|  refine zKa ?_ _)); refine blk_far ?_ NB158_164.out _; (with_reducible repeat (first |  refine zKn ?_ _|  refine zKd ?_|  refine zKa ?_ _)); refine blk_far ?_ NB158_164.out _; (with_reducible repeat (first |  refine zKn ?_ _|  refine zKd ?_|  refine zKa ?_ _)); exact BK158.out) hb); replace BK164 := zMk (zKb (g := gb164) (o := .cells #[.int .i64 t159, .slice Ao143 t160.length co143] 24 (0, 0)) (by (with_reducible repeat (first |  refine zKn ?_ _|  refine zKd ?_|  refine zKa ?_ _)); refine blk_put (cs := #[.int .i64 t159, .slice none 0 0]) ?_ 1 _ rfl; (with_reducible repeat (first |  refine zKn ?_ _|  refine zKd ?_|  refine zKa ?_ _)); refine blk_put (cs := #[.int .i64 0, .slice none 0 0]) ?_ 0 _ rfl; (with_reducible repeat (first |  refine zKn ?_ _|  refine zKd ?_|  refine zKa ?_ _)); exact BK164.out) hb); replace HB := zMk (zBt (by exact uT HB.out) hb); (try clear hb); (try clear hb2); (try clear hk); (try clear hi)))
            go_ret
            exact ⟨by first | rfl | (simp [errW_none, errW_some] <;> rfl) | (simp [*, errW_none, errW_some] <;> rfl), by exact uT HB.out⟩
        · rw [if_neg c108] at H
          have c108b0 : (t157 == 0) = false := beq_eq_false_iff_ne.mpr c108
          have c108b1 : (t157 != 0) = true := bne_iff_ne.mpr c108
          replace H := bnd H
          obtain ⟨t167, A1450, H⟩ := H
          have A145 := zMk A1450
          clear A1450
          obtain rfl := zOi H
          have hcz146_0 : wc.cell? ⟨gb149, 0, none⟩ = some (.int .i64 a0_0) := (zKc BK149.out 0).trans rfl
          have hcz146_1 : wc.cell? ⟨gb149, 1, none⟩ = some (.slice A0_1 l0_1.length c0_1) := (zKc BK149.out 1).trans rfl
          have hfz146_0 := zKf BK149.out 0
          have hfz146_1 := zKf BK149.out 1
          go_wp2_with (first |  ((with_reducible refine gate_callee (f := 11) rfl ?_); refine goesL_ (some 33) rfl rfl Try.func11 (by kernel_rfl) rfl #[.agg #[.int .i64 a0_0, .slice A0_1 l0_1.length c0_1]] rfl (by (try simp only [zMa, zMc, zMn]); first |  done|  rfl|  (simp only [zLd, zLt]; rfl)) ?_; (with_reducible refine (graph_Right.calls kj3 a0_0 _ _ l0_1 t152 _ ?side1 ?side2 A19.out).mono ?_); (case side1 => repeat (first |  exact (Kd.C_below HR0_1.out HB.out)|  (with_reducible refine zCa ?_ _)|  (with_reducible refine zCn ?_ _)|  (with_reducible refine zCd ?_))); (case side2 => exact HC0_1.out); rintro e w147 ⟨rfl, hb⟩; refine ⟨_, rfl, ?_⟩; replace BK149 := zMk (zKb (g := gb149) (o := .cells #[.int .i64 a0_0, .slice A0_1 l0_1.length c0_1] 24 (0, 0)) (by (with_reducible repeat (first |  refine zKn ?_ _|  refine zKd ?_|  refine zKa ?_ _)); exact BK149.out) hb); replace HB := zMk (zBt (by exact uT HB.out) hb); (try clear hb); (try clear hb2); (try clear hk); (try clear hi); have hcz148_0 : w147.cell? ⟨gb149, 0, none⟩ = some (.int .i64 a0_0) := (zKc BK149.out 0).trans rfl; have hcz148_1 : w147.cell? ⟨gb149, 1, none⟩ = some (.slice A0_1 l0_1.length c0_1) := (zKc BK149.out 1).trans rfl; have hfz148_0 := zKf BK149.out 0; have hfz148_1 := zKf BK149.out 1)|  ((with_reducible refine gate_callee (f := 14) rfl ?_); refine goesL_ (some 40) rfl rfl Try.func14 (by kernel_rfl) rfl #[.int .i64 a0_0, .slice A0_1 l0_1.length c0_1] rfl (by (try simp only [zMa, zMc, zMn]); first |  done|  rfl|  (simp only [zLd, zLt]; rfl)) ?_; (with_reducible refine (graph_Make.calls kj3 a0_0 _ _ l0_1 t153 t154 t157 _ ?side1 ?side2 A106.out).mono ?_); (case side1 => repeat (first |  exact (Kd.C_below HR0_1.out HB.out)|  (with_reducible refine zCa ?_ _)|  (with_reducible refine zCn ?_ _)|  (with_reducible refine zCd ?_))); (case side2 => exact HC0_1.out); rintro e w149 ⟨v155, rfl, ho0, hb⟩; refine ⟨_, rfl, ?_⟩; have HO156 := zMk (zRl ho0 (zBs (by exact uT HB.out))); replace BK149 := zMk (zKb (g := gb149) (o := .cells #[.int .i64 a0_0, .slice A0_1 l0_1.length c0_1] 24 (0, 0)) (by (with_reducible repeat (first |  refine zKn ?_ _|  refine zKd ?_|  refine zKa ?_ _)); exact BK149.out) hb); replace HB := zMk (zBt (by exact uT HB.out) hb); (try clear hb); (try clear hb2); (try clear hk); (try clear hi); (try clear ho0))|  ((with_reducible refine gate_dst (N := 7) rfl ?_); (try (refine gate_guard (by rfl) ?_; dsimp only)); refine box_event ?hg (N := 7) ?hd (cs := #[.int .i64 0, .slice none 0 0]) (t := 24) ?hr ?_; (case hd => rfl); (case hg => rfl); (case hr => first |  (go_simp; done)|  (go_simp; rfl)|  (go_simp; rw [show ∀ x : Int, IntKind.u32.wrap (IntKind.u8.wrap x) = x % 256 from fun x => (by show (x % 256) % 4294967296 = x % 256; omega)])); intro gb158 hg w150 hbox hb; replace HO156 := zMk (zRb (by exact uR HO156.out) hb); have BK158 := zMk (hbox); have GW158 := zMk ((by rw [hg]; exact (zBs (by exact uT HB.out)) : w.heap.size ≤ gb158)); have GE158 := zMk ((by rw [hg]; exact (zBs (by exact uT HB.out)) : w.heap.size ≤ gb158)); have IGE158 := ownGe GE158.out; replace HB := zMk (zBt (by exact uT HB.out) hb); have NB149_158 := zMk ((by rw [hg]; exact Nat.ne_of_lt (blk_lt (g := gb149) (o := .cells #[.int .i64 a0_0, .slice A0_1 l0_1.length c0_1] 24 (0, 0)) (by (with_reducible repeat (first |  refine zKn ?_ _|  refine zKd ?_|  refine zKa ?_ _)); exact BK149.out)) : gb149 ≠ gb158)); have NB158_149 := zMk ((by rw [hg]; exact Nat.ne_of_gt (blk_lt (g := gb149) (o := .cells #[.int .i64 a0_0, .slice A0_1 l0_1.length c0_1] 24 (0, 0)) (by (with_reducible repeat (first |  refine zKn ?_ _|  refine zKd ?_|  refine zKa ?_ _)); exact BK149.out)) : gb158 ≠ gb149)); replace BK149 := zMk (zKb (g := gb149) (o := .cells #[.int .i64 a0_0, .slice A0_1 l0_1.length c0_1] 24 (0, 0)) (by (with_reducible repeat (first |  refine zKn ?_ _|  refine zKd ?_|  refine zKa ?_ _)); exact BK149.out) hb); clear hb hbox hg; have hnb151 := NB158_149.out; have hnc151 := NB149_158.out; have hcz152_0 : w150.cell? ⟨gb158, 0, none⟩ = some (.int .i64 0) := (zKc BK158.out 0).trans rfl; have hcz152_1 : w150.cell? ⟨gb158, 1, none⟩ = some (.slice none 0 0) := (zKc BK158.out 1).trans rfl; have hfz152_0 := zKf BK158.out 0; have hfz152_1 := zKf BK158.out 1; obtain ⟨Ao153, co153, eo153⟩ := zRs HO156.out; subst eo153; have hcz154_0 : w150.cell? ⟨gb149, 0, none⟩ = some (.int .i64 a0_0) := (zKc BK149.out 0).trans rfl; have hcz154_1 : w150.cell? ⟨gb149, 1, none⟩ = some (.slice A0_1 l0_1.length c0_1) := (zKc BK149.out 1).trans rfl; have hfz154_0 := zKf BK149.out 0; have hfz154_1 := zKf BK149.out 1)|  ((with_reducible refine gate_callee (f := 14) rfl ?_); refine goesL_ (some 48) rfl rfl Try.func14 (by kernel_rfl) rfl #[.int .i64 a0_0, .slice A0_1 l0_1.length c0_1] rfl (by (try simp only [zMa, zMc, zMn]); first |  done|  rfl|  (simp only [zLd, zLt]; rfl)) ?_; (with_reducible refine (graph_Make.calls kj3 a0_0 _ _ l0_1 t159 t160 t163 _ ?side1 ?side2 A107.out).mono ?_); (case side1 => exact Kd.C_below HR0_1.out (by exact uT HB.out)); (case side2 => exact HC0_1.out); rintro e w155 ⟨v161, rfl, ho0, hb⟩; refine ⟨_, rfl, ?_⟩; have HO162 := zMk (zRl (zRw ho0 (zRt (by (with_reducible repeat (first |  apply zRa|  apply zRn|  apply zRd)); exact (zRm (Kd.R_far (p := ⟨gb158, 1, none⟩) (Kd.R_far (p := ⟨gb158, 0, none⟩) (Kd.R_types HO156.out BK158.out (by decide)) (fun _ hk => hk.2) (.int .i64 t153)) (fun _ hk => hk.2) (.slice Ao153 t154.length co153)) (fun _ h_ => h_.1))))) (zBs (by exact uT HB.out))); replace HO156 := zMk (zRe (by (with_reducible repeat (first |  apply zRa|  apply zRn|  apply zRd)); exact (zRm (Kd.R_far (p := ⟨gb158, 1, none⟩) (Kd.R_far (p := ⟨gb158, 0, none⟩) (Kd.R_types HO156.out BK158.out (by decide)) (fun _ hk => hk.2) (.int .i64 t153)) (fun _ hk => hk.2) (.slice Ao153 t154.length co153)) (fun _ h_ => h_.1))) (zRz ho0) hb); replace BK149 := zMk (zKb (g := gb149) (o := .cells #[.int .i64 a0_0, .slice A0_1 l0_1.length c0_1] 24 (0, 0)) (by (with_reducible repeat (first |  refine zKn ?_ _|  refine zKd ?_|  refine zKa ?_ _)); refine blk_far ?_ NB149_158.out _; (with_reducible repeat (first |  refine zKn ?_ _|  refine zKd ?_|  refine zKa ?_ _)); refine blk_far ?_ NB149_158.out _; (with_reducible repeat (first |  refine zKn ?_ _|  refine zKd ?_|  refine zKa ?_ _)); exact BK149.out) hb); replace BK158 := zMk (zKb (g := gb158) (o := .cells #[.int .i64 t153, .slice Ao153 t154.length co153] 24 (0, 0)) (by (with_reducible repeat (first |  refine zKn ?_ _|  refine zKd ?_|  refine zKa ?_ _)); refine blk_put (cs := #[.int .i64 t153, .slice none 0 0]) ?_ 1 _ rfl; (with_reducible repeat (first |  refine zKn ?_ _|  refine zKd ?_|  refine zKa ?_ _)); refine blk_put (cs := #[.int .i64 0, .slice none 0 0]) ?_ 0 _ rfl; (with_reducible repeat (first |  refine zKn ?_ _|  refine zKd ?_|  refine zKa ?_ _)); exact BK158.out) hb); replace HB := zMk (zBt (by exact uT HB.out) hb); (try clear hb); (try clear hb2); (try clear hk); (try clear hi); (try clear ho0))|  ((with_reducible refine gate_dst (N := 9) rfl ?_); (try (refine gate_guard (by rfl) ?_; dsimp only)); refine box_event ?hg (N := 9) ?hd (cs := #[.int .i64 0, .slice none 0 0]) (t := 24) ?hr ?_; (case hd => rfl); (case hg => rfl); (case hr => first |  (go_simp; done)|  (go_simp; rfl)|  (go_simp; rw [show ∀ x : Int, IntKind.u32.wrap (IntKind.u8.wrap x) = x % 256 from fun x => (by show (x % 256) % 4294967296 = x % 256; omega)])); intro gb164 hg w156 hbox hb; replace HO156 := zMk (zRb (by exact uR HO156.out) hb); replace HO162 := zMk (zRb (by exact uR HO162.out) hb); have BK164 := zMk (hbox); have GW164 := zMk ((by rw [hg]; exact (zBs (by exact uT HB.out)) : w.heap.size ≤ gb164)); have GE164 := zMk ((by rw [hg]; exact (zBs (by exact uT HB.out)) : w.heap.size ≤ gb164)); have IGE164 := ownGe GE164.out; replace HB := zMk (zBt (by exact uT HB.out) hb); have NB149_164 := zMk ((by rw [hg]; exact Nat.ne_of_lt (blk_lt (g := gb149) (o := .cells #[.int .i64 a0_0, .slice A0_1 l0_1.length c0_1] 24 (0, 0)) (by (with_reducible repeat (first |  refine zKn ?_ _|  refine zKd ?_|  refine zKa ?_ _)); exact BK149.out)) : gb149 ≠ gb164)); have NB164_149 := zMk ((by rw [hg]; exact Nat.ne_of_gt (blk_lt (g := gb149) (o := .cells #[.int .i64 a0_0, .slice A0_1 l0_1.length c0_1] 24 (0, 0)) (by (with_reducible repeat (first |  refine zKn ?_ _|  refine zKd ?_|  refine zKa ?_ _)); exact BK149.out)) : gb164 ≠ gb149)); replace BK149 := zMk (zKb (g := gb149) (o := .cells #[.int .i64 a0_0, .slice A0_1 l0_1.length c0_1] 24 (0, 0)) (by (with_reducible repeat (first |  refine zKn ?_ _|  refine zKd ?_|  refine zKa ?_ _)); exact BK149.out) hb); have NB158_164 := zMk ((by rw [hg]; exact Nat.ne_of_lt (blk_lt (g := gb158) (o := .cells #[.int .i64 t153, .slice Ao153 t154.length co153] 24 (0, 0)) (by (with_reducible repeat (first |  refine zKn ?_ _|  refine zKd ?_|  refine zKa ?_ _)); exact BK158.out)) : gb158 ≠ gb164)); have NB164_158 := zMk ((by rw [hg]; exact Nat.ne_of_gt (blk_lt (g := gb158) (o := .cells #[.int .i64 t153, .slice Ao153 t154.length co153] 24 (0, 0)) (by (with_reducible repeat (first |  refine zKn ?_ _|  refine zKd ?_|  refine zKa ?_ _)); exact BK158.out)) : gb164 ≠ gb158)); replace BK158 := zMk (zKb (g := gb158) (o := .cells #[.int .i64 t153, .slice Ao153 t154.length co153] 24 (0, 0)) (by (with_reducible repeat (first |  refine zKn ?_ _|  refine zKd ?_|  refine zKa ?_ _)); exact BK158.out) hb); clear hb hbox hg; have hnb157 := NB164_149.out; have hnc157 := NB149_164.out; have hnb158 := NB164_158.out; have hnc158 := NB158_164.out; have hcz159_0 : w156.cell? ⟨gb164, 0, none⟩ = some (.int .i64 0) := (zKc BK164.out 0).trans rfl; have hcz159_1 : w156.cell? ⟨gb164, 1, none⟩ = some (.slice none 0 0) := (zKc BK164.out 1).trans rfl; have hfz159_0 := zKf BK164.out 0; have hfz159_1 := zKf BK164.out 1; obtain ⟨Ao160, co160, eo160⟩ := zRs HO162.out; subst eo160)|  (go_at_call 13; (with_reducible refine (filigreelaw04_alive.calls kj3  t167 _ A145.out).mono ?_); rintro e w161 ⟨rfl, hb⟩; replace HO156 := zMk (zRb (by (with_reducible repeat (first |  apply zRa|  apply zRn|  apply zRd)); exact (zRm (Kd.R_far (p := ⟨gb164, 1, none⟩) (Kd.R_far (p := ⟨gb164, 0, none⟩) (Kd.R_types HO156.out BK164.out (by decide)) (fun _ hk => hk.2) (.int .i64 t159)) (fun _ hk => hk.2) (.slice Ao160 t160.length co160)) (fun _ h_ => h_.1))) hb); replace HO162 := zMk (zRb (by (with_reducible repeat (first |  apply zRa|  apply zRn|  apply zRd)); exact (zRm (Kd.R_far (p := ⟨gb164, 1, none⟩) (Kd.R_far (p := ⟨gb164, 0, none⟩) (Kd.R_types HO162.out BK164.out (by decide)) (fun _ hk => hk.2) (.int .i64 t159)) (fun _ hk => hk.2) (.slice Ao160 t160.length co160)) (fun _ h_ => h_.1))) hb); replace BK149 := zMk (zKb (g := gb149) (o := .cells #[.int .i64 a0_0, .slice A0_1 l0_1.length c0_1] 24 (0, 0)) (by (with_reducible repeat (first |  refine zKn ?_ _|  refine zKd ?_|  refine zKa ?_ _)); refine blk_far ?_ NB149_164.out _; (with_reducible repeat (first |  refine zKn ?_ _|  refine zKd ?_|  refine zKa ?_ _)); refine blk_far ?_ NB149_164.out _; (with_reducible repeat (first |  refine zKn ?_ _|  refine zKd ?_|  refine zKa ?_ _)); exact BK149.out) hb); replace BK158 := zMk (zKb (g := gb158) (o := .cells #[.int .i64 t153, .slice Ao153 t154.length co153] 24 (0, 0)) (by (with_reducible repeat (first |  refine zKn ?_ _|  refine zKd ?_|  refine zKa ?_ _)); refine blk_far ?_ NB158_164.out _; (with_reducible repeat (first |  refine zKn ?_ _|  refine zKd ?_|  refine zKa ?_ _)); refine blk_far ?_ NB158_164.out _; (with_reducible repeat (first |  refine zKn ?_ _|  refine zKd ?_|  refine zKa ?_ _)); exact BK158.out) hb); replace BK164 := zMk (zKb (g := gb164) (o := .cells #[.int .i64 t159, .slice Ao160 t160.length co160] 24 (0, 0)) (by (with_reducible repeat (first |  refine zKn ?_ _|  refine zKd ?_|  refine zKa ?_ _)); refine blk_put (cs := #[.int .i64 t159, .slice none 0 0]) ?_ 1 _ rfl; (with_reducible repeat (first |  refine zKn ?_ _|  refine zKd ?_|  refine zKa ?_ _)); refine blk_put (cs := #[.int .i64 0, .slice none 0 0]) ?_ 0 _ rfl; (with_reducible repeat (first |  refine zKn ?_ _|  refine zKd ?_|  refine zKa ?_ _)); exact BK164.out) hb); replace HB := zMk (zBt (by exact uT HB.out) hb); (try clear hb); (try clear hb2); (try clear hk); (try clear hi)))
          go_ret
          exact ⟨by first | rfl | (simp [errW_none, errW_some] <;> rfl) | (simp [*, errW_none, errW_some] <;> rfl), by exact uT HB.out⟩

/-- What the walk leaves: a statement of plain lists and numbers. -/
def filigreelaw04_GraphAgain.Pure : Prop := ∀ (a0_0 : Int) (l0_1 : List A.S36) (l1 : List Int) (l2 : List Int), (Lit.int .i64 a0_0).wf = true → l0_1.length ≤ maxLen → (∀ x ∈ l0_1, (Lit.int .i64 x.f0).wf = true ∧ (Lit.int .i64 x.f1).wf = true ∧ (Lit.int .i64 x.f2).wf = true) → l1.length ≤ maxLen → l1.length * 8 ≤ 140737488351232 → (∀ x ∈ l1, (Lit.int .i64 x).wf = true) → l2.length ≤ maxLen → l2.length * 8 ≤ 140737488351232 → (∀ x ∈ l2, (Lit.int .i64 x).wf = true) → ∃ k, filigreelaw04_GraphAgain.f k a0_0 l0_1 l1 l2 = some true
/- The plain law of GraphAgain. -/
theorem refSame_l0 (n : Int) (E : List S36) (hm : E.length ≤ 1000000) (d : Nat) : ∀ (k i : Nat), E.length - i = d → i ≤ E.length → d + 1 ≤ k → filigreeref04_Same.l0 k i n E n E = some true := by
  induction d with
  | zero =>
    intro k i hd hi hk
    obtain ⟨k, rfl⟩ : ∃ m, k = m + 1 := ⟨k - 1, by omega⟩
    simp only [filigreeref04_Same.l0]
    rw [if_neg (by omega)]
  | succ d ih =>
    intro k i hd hi hk
    obtain ⟨k, rfl⟩ : ∃ m, k = m + 1 := ⟨k - 1, by omega⟩
    have hwn : wrap64 ((i : Int) + 1) = ((i + 1 : Nat) : Int) := by rw [w64 (by omega) (by omega)]; omega
    simp only [filigreeref04_Same.l0]
    rw [if_pos (by omega), if_pos (by omega), if_pos (by omega), if_neg (by simp), hwn]
    exact ih k (i + 1) (by omega) (by omega) (by omega)
theorem refSame_refl (k : Nat) (n : Int) (E : List S36) (hm : E.length ≤ 1000000) (hk : E.length + 2 ≤ k) : filigreeref04_Same.f k n E n E = some true := by
  obtain ⟨k, rfl⟩ : ∃ m, k = m + 1 := ⟨k - 1, by omega⟩
  unfold filigreeref04_Same.f
  rw [if_pos rfl]
  simp only [filigreeref04_Same.j0]
  rw [if_neg (by simp)]
  exact refSame_l0 n E hm E.length k 0 (by omega) (by omega) (by omega)
theorem edges_l0 (E : List S36) (hm : E.length ≤ 1000000) (d : Nat) : ∀ (k i : Nat), E.length - i = d → i ≤ E.length → d + 1 ≤ k → api_Edge_40.l0 k E E (E.length : Int) i = some true := by
  induction d with
  | zero =>
    intro k i hd hi hk
    obtain ⟨k, rfl⟩ : ∃ m, k = m + 1 := ⟨k - 1, by omega⟩
    simp only [api_Edge_40.l0]
    rw [if_neg (by omega)]
  | succ d ih =>
    intro k i hd hi hk
    obtain ⟨k, rfl⟩ : ∃ m, k = m + 1 := ⟨k - 1, by omega⟩
    have hwn : wrap64 ((i : Int) + 1) = ((i + 1 : Nat) : Int) := by rw [w64 (by omega) (by omega)]; omega
    simp only [api_Edge_40.l0]
    rw [if_pos (by omega), if_pos (by omega), if_pos (by omega), if_pos (by omega), if_neg (by simp), hwn]
    exact ih k (i + 1) (by omega) (by omega) (by omega)
theorem Same_refl (k : Nat) (n : Int) (E : List S36) (hm : E.length ≤ 1000000) (hk : E.length + 2 ≤ k) : graph_Same.f k n E n E = some true := by
  unfold graph_Same.f api_Edge_40.f
  rw [if_pos rfl, if_pos rfl]
  have := edges_l0 E hm E.length k 0 (by omega) (by omega) (by omega)
  have h2 : api_Edge_40.l0 k E E (E.length : Int) 0 = some true := this
  rw [h2]
  rfl
theorem set_perm {α : Type} (l : List α) (x y : Nat) (hx : x < l.length) (hy : y < l.length) : ((l.set x l[y]).set y l[x]).Perm l := by
  classical
  rw [List.perm_iff_count]
  intro a
  have h1 : y < (l.set x l[y]).length := by rw [List.length_set]; exact hy
  rw [List.count_set h1, List.count_set hx]
  have hcx : (if (l[x] == a) = true then 1 else 0) ≤ List.count a l := by
    split
    · rename_i h
      have : l[x] = a := by simpa using h
      exact List.one_le_count_iff.2 (this ▸ List.getElem_mem hx)
    · omega
  by_cases hxy : x = y
  · subst hxy
    simp only [List.getElem_set_self]
    omega
  · rw [List.getElem_set_ne hxy]
    by_cases h2 : l[x] == a <;> by_cases h3 : l[y] == a <;> simp only [h2, h3, if_true, if_false, Bool.false_eq_true] at hcx ⊢ <;> omega
theorem edge_eta (e : S36) : (⟨e.f0, e.f1, e.f2⟩ : S36) = e := rfl
theorem nrm_set (l : List S36) (x : Nat) (hx : x < l.length) : (l.set x ⟨l[x].f1, l[x].f0, l[x].f2⟩).map nrmE = l.map nrmE := by
  rw [List.map_set, nrm_swap, ← List.getElem_map nrmE (h := by simpa using hx)]
  exact List.set_getElem_self _
theorem Again_l0 (n : Int) (E : List S36) (a b : List Int) (hr : rightI n E = 0) (hE : 0 < E.length) (hE2 : E.length ≤ 1000) (ha : a.length ≤ 1000000) (d : Nat) : ∀ (k i : Nat) (l : List S36),
    a.length - i = d → i ≤ a.length → 2 * d + 2000 ≤ k → (l.map nrmE).Perm E → filigreelaw04_GraphAgain.l0 k a b l i n E = some true := by
  induction d with
  | zero =>
    intro k i l hd hi hk hp
    obtain ⟨k, rfl⟩ : ∃ m, k = m + 2 := ⟨k - 2, by omega⟩
    have hlen : l.length = E.length := by rw [← hp.length_eq, List.length_map]
    simp only [filigreelaw04_GraphAgain.l0]
    rw [if_neg (by omega)]
    simp only [filigreelaw04_GraphAgain.j2]
    rw [if_neg (by simp), Make_eq k n l (by omega) (by omega), make_again n E l hr hp, zOb, if_pos rfl, refSame_refl k n E (by omega) (by omega), zOb, if_pos rfl, Same_refl k n E (by omega) (by omega), zOb, if_pos rfl, alive_eq k (by omega)]
    rfl
  | succ d ih =>
    intro k i l hd hi hk hp
    obtain ⟨k, rfl⟩ : ∃ m, k = m + 2 := ⟨k - 2, by omega⟩
    have hlen : l.length = E.length := by rw [← hp.length_eq, List.length_map]
    have hwn : wrap64 ((i : Int) + 1) = ((i + 1 : Nat) : Int) := by rw [w64 (by omega) (by omega)]; omega
    simp only [filigreelaw04_GraphAgain.l0]
    rw [if_pos (by omega)]
    simp only [filigreelaw04_GraphAgain.j2]
    by_cases hb : (i : Int) < (b.length : Int)
    · rw [if_pos (decide_eq_true hb), if_pos (by omega), if_pos (by omega), if_neg (by omega), if_pos hb]
      have hx2 := Int.tmod_lt_of_pos (rd a (i : Int)) (by omega : (0 : Int) < (l.length : Int))
      have hy2 := Int.tmod_lt_of_pos (rd b (i : Int)) (by omega : (0 : Int) < (l.length : Int))
      generalize Int.tmod (rd a (i : Int)) (l.length : Int) = x at *
      generalize Int.tmod (rd b (i : Int)) (l.length : Int) = y at *
      by_cases hx : x < 0
      · rw [if_pos hx, hwn]
        exact ih k (i + 1) l (by omega) (by omega) (by omega) hp
      rw [if_neg hx]
      by_cases hy : y < 0
      · rw [if_pos hy, hwn]
        exact ih k (i + 1) l (by omega) (by omega) (by omega) hp
      obtain ⟨x, rfl⟩ : ∃ m : Nat, x = m := ⟨x.toNat, by omega⟩
      obtain ⟨y, rfl⟩ : ∃ m : Nat, y = m := ⟨y.toNat, by omega⟩
      have hxl : x < l.length := by omega
      have hyl : y < l.length := by omega
      rw [if_neg hy, if_pos (by omega), if_pos (by omega), if_pos (by omega), if_pos (by omega), zOb, hwn, zTn, zTn, edge_eta, edge_eta, rdE_get l x hxl, rdE_get l y hyl]
      have hp2 := (set_perm l x y hxl hyl)
      generalize hm : (l.set x l[y]).set y l[x] = m at hp2
      have hml : x < m.length := by rw [hp2.length_eq]; exact hxl
      rw [rdE_get m x hml]
      refine ih k (i + 1) _ (by omega) (by omega) (by omega) ?_
      rw [nrm_set m x hml]
      exact (hp2.map nrmE).trans hp
    · rw [if_neg (by simpa using hb), Make_eq k n l (by omega) (by omega), make_again n E l hr hp, zOb, if_pos rfl, refSame_refl k n E (by omega) (by omega), zOb, if_pos rfl, Same_refl k n E (by omega) (by omega), zOb, if_pos rfl, alive_eq k (by omega)]
      rfl
theorem pure_GraphAgain : filigreelaw04_GraphAgain.Pure := by
  intro n E a b _ _ _ _ _ _ _ _ _
  obtain ⟨k, hk⟩ : ∃ k : Nat, k = 10000 := ⟨_, rfl⟩
  refine ⟨k + 1, ?_⟩
  have al := alive_eq k (by omega)
  unfold filigreelaw04_GraphAgain.f filigreelaw04_Light.f
  have h4 : wrap64 (4 * 100) = 400 := w64 (by omega) (by omega)
  rw [h4]
  have yes : filigreelaw04_GraphAgain.j0 (k + 1) a b true n E = some true := by
    simp only [filigreelaw04_GraphAgain.j0, al, zOb, if_true]
  by_cases h1 : n ≤ 100
  · rw [if_pos h1, zOb]
    by_cases h2 : (E.length : Int) ≤ 400
    · rw [if_pos (decide_eq_true h2)]
      by_cases h3 : (a.length : Int) > 100
      · rw [if_pos h3]; exact yes
      rw [if_neg h3]
      by_cases h5 : E.length = 0
      · rw [show ((E.length : Int) == 0) = true by simp [h5]]; exact yes
      rw [show ((E.length : Int) == 0) = false by rw [beq_eq_false_iff_ne]; omega]
      simp only [filigreelaw04_GraphAgain.j0]
      rw [if_neg (by simp), Right_eq k n E (by omega), zOb]
      by_cases hr : rightI n E = 0
      · rw [if_pos hr, zOb, if_pos (by simp; omega), List.nil_append]
        refine Again_l0 n E a b hr (by omega) (by omega) (by omega) a.length k 0 E (by omega) (by omega) (by omega) ?_
        have : E.map nrmE = E := by
          have h6 := ((right_iff n E).1 hr).2.1
          have h7 : E.map nrmE = E.map id := List.map_congr_left fun e he => nrm_of_le (h6 e he).2
          rw [h7, List.map_id]
        rw [this]
      · rw [if_neg hr, Make_eq k n E (by omega) (by omega), zOb, zOb]
        by_cases hm : (makeI n E).2.2 = 0
        · have hmr := make_right n E hm
          have hlen : (makeI n E).2.1.length = E.length := by rw [hmr.2]; simp [sortE_length]
          rw [if_pos hm, Right_eq k _ _ (by omega), hmr.1, zOb, if_pos rfl, al]
          rfl
        · rw [if_neg hm, al]
          rfl
    · rw [if_neg (by simpa using h2)]
      exact yes
  · rw [if_neg h1, zOb, if_neg (by simp)]
    exact yes
end Go.Proofs.Yteicpdkembmilaa.A
