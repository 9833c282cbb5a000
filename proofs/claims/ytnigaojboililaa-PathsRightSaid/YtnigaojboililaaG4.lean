/- Lemmas for the statement: the walks of the functions that it reaches, and plain laws. -/
import Derived.Test.YtnigaojboililaaG1
import Derived.Test.YtnigaojboililaaG2
import Derived.Test.YtnigaojboililaaG3
set_option linter.unusedVariables false
set_option linter.unusedSimpArgs false
set_option maxHeartbeats 8000000
set_option maxRecDepth 100000
namespace Go.Proofs.Ytnigaojboililaa.A
open Go Go.RowKit Go.Proofs.YtnigaojboililaaW.PrintWords Go.Proofs.YtnigaojboililaaW.PrintLast Go.Proofs.YtnigaojboililaaW.PrintMore
attribute [local go_sem] max2_int min2_int max_two min_two max_three min_three max_four min_four
open Go.Proofs.YtnigaojboililaaW.PrintWords.Kd renaming R_alloc → zRa, R_drewN → zRn, R_drew → zRd, C_alloc → zCa, C_drewN → zCn, C_drew → zCd, R_mono → zRm, at_int → zAi, R_elder' → zRe, R_lower → zRl, R_new' → zRw, R_lt → zRt, R_below → zRb, R_base → zRz, R_reads' → zRr, R_slice → zRs
open Go.Proofs.YtnigaojboililaaW.PrintWords renaming pw_below_drewN → zBn, below_alloc → zBa, below_drew1 → zBd, below_size → zBs, below_step → zBt, blk_drewN → zKn, blk_drew → zKd, blk_alloc → zKa, blk_below → zKb, blk_cell → zKc, blk_frozen → zKf
open List renaming setIfInBounds_toArray → zSa, set_cons_zero → zSb, set_cons_succ → zSc, length_drop → zLd, length_take → zLt, map_toArray → zMa, map_cons → zMc, map_nil → zMn
open Go.Proofs.YtnigaojboililaaW.PrintWords.Aside0 renaming mk → zMk
open Option renaming bind_eq_some_iff → zBi, bind_some → zOb
open Option.some renaming inj → zOi
open Int renaming toNat_natCast → zTn

mutual
def paths_Way.l0 : Nat → List Int → Int → List Int → Int → Int → Int → List (S39) → Option (List Int)
  | 0, _, _, _, _, _, _, _ => none
  | k + 1, x1, x2, x6, x13, x14, x152000, x152001 => if x14 < x13 then (if x2 < 0 then (paths_Way.j1 k x1 x2 x6 x13 x14 true x152000 x152001) else (paths_Way.j1 k x1 x2 x6 x13 x14 (decide (x2 ≥ (mn (x1.length : Int) x152000))) x152000 x152001)) else ((slices_Reverse_int_int.f k x6).bind fun t153 => (some t153))
def paths_Way.j1 : Nat → List Int → Int → List Int → Int → Int → Bool → Int → List (S39) → Option (List Int)
  | 0, _, _, _, _, _, _, _, _ => none
  | k + 1, x1, x2, x6, x13, x14, x26, x152000, x152001 => if x26 = true then (some ([] : List Int)) else (if 0 ≤ x2 then (if x2 < (x1.length : Int) then (if (rd x1 x2) = (-1) then ((slices_Reverse_int_int.f k x6).bind fun t155 => (some t155)) else ((paths_other.f k x152000 x152001 (rd x1 x2) x2).bind fun bt157 => (if bt157.2 = true then (if x6.length < 17592186044416 then (paths_Way.l0 k x1 bt157.1 (x6 ++ [rd x1 x2]) x13 (wrap64 (x14 + 1)) x152000 x152001) else (none)) else (some ([] : List Int))))) else (none)) else (none))
end
def paths_Way.f (k : Nat) (a0_0 : Int) (l0_1 : List (S39)) (l1 : List Int) (a2 : Int) : Option (List Int) := (paths_Right.f k a0_0 l0_1).bind fun t152 => (if t152 = 0 then (paths_Way.l0 k l1 a2 ([] : List Int) a0_0 0 a0_0 l0_1) else (some ([] : List Int)))
def paths_Way.T8 : Bool × List (List Nat × List Nat) := (true, [([], []), ([], []), ([], []), ([1, 2], [1, 2]), ([3], [3]), ([], []), ([0, 4, 5], [0, 4, 5]), ([6], [6]), ([7], [7]), ([7], [7]), ([8, 6, 0, 1, 2, 3, 4, 5, 6, 7, 8], [8]), ([9, 10, 0, 1, 2, 3, 4, 5, 6, 7, 8, 9, 10], [9])])
def paths_Way.B8 : List Nat := [0, 0, 0, 6, 14, 0, 63, 127, 255, 255, 511, 2047]
theorem paths_Way.tab8 : rtab .any (opsOf Try.f16 8) = paths_Way.T8 := by kernel_rfl
theorem paths_Way.bits8 : waitsOk paths_Way.T8.2 paths_Way.B8 = true := by kernel_rfl
theorem paths_Way.calls (k : Nat) (a0_0 : Int) (A0_1 : Option Addr) (c0_1 : Nat) (l0_1 : List (S39)) (A1 : Option Addr) (c1 : Nat) (l1 : List Int) (a2 : Int) (r : List Int) (w : World) (hr0_1 : Kd.C k39 w A0_1 l0_1.length l0_1) (hc0_1 : l0_1.length ≤ c0_1) (hr1 : Kd.C (Kd.int .i64) w A1 l1.length l1) (hc1 : l1.length ≤ c1) (h : paths_Way.f k a0_0 l0_1 l1 a2 = some r) :
    Calls Try.prog 16 #[.agg #[.int .i64 a0_0, .slice A0_1 l0_1.length c0_1], .slice A1 l1.length c1, .int .i64 a2] w fun e w' => ∃ v0_ : Value, e = .returned (v0_) ∧ Kd.R (Kd.int .i64) 3 w' w.heap.size (fun _ => True) v0_ r ∧ Below w.heap.size w w' := by
  have hu24 := Try.underlying24
  have HR0_1 := zMk hr0_1
  have HC0_1 := zMk hc0_1
  clear hr0_1 hc0_1
  have HR1 := zMk hr1
  have HC1 := zMk hc1
  clear hr1 hc1
  have HB := zMk (Below.refl w.heap.size w)
  have H : ((paths_Right.f k a0_0 l0_1).bind fun t152 => (if t152 = 0 then (paths_Way.l0 k l1 a2 ([] : List Int) a0_0 0 a0_0 l0_1) else (some ([] : List Int)))) = some r := h
  clear h
  replace H := bnd H
  obtain ⟨t152, A40, H⟩ := H
  have A4 := zMk A40
  clear A40
  by_cases c5 : t152 = 0
  · rw [if_pos c5] at H
    have c5b0 : (t152 == 0) = true := beq_iff_eq.mpr c5
    have c5b1 : (t152 != 0) = false := bne_eq_false_iff_eq.mpr c5
    clear c5
    have H' := zMk H
    clear H
    go_enter Try.func16, Try.ntmps16
    go_wp2_with (first | ((with_reducible refine gate_dst (N := 3) rfl ?_); (try (refine gate_guard (by rfl) ?_; dsimp only)); refine box_event ?hg (N := 3) ?hd (cs := #[.int .i64 a0_0, .slice A0_1 l0_1.length c0_1]) (t := 24) ?hr ?_; (case hd => rfl); (case hg => rfl); (case hr => first | (go_simp; done)|(go_simp; rfl)|(go_simp; rw [show ∀ x : Int, IntKind.u32.wrap (IntKind.u8.wrap x) = x % 256 from fun x => (by show (x % 256) % 4294967296 = x % 256; omega)])); intro gb151 hg w6 hbox hb; have BK151 := zMk (hbox); have GW151 := zMk ((by rw [hg]; exact (zBs (by exact uT HB.out)) : w.heap.size ≤ gb151)); have GE151 := zMk ((by rw [hg]; exact (zBs (by exact uT HB.out)) : w.heap.size ≤ gb151)); have IGE151 := ownGe GE151.out; replace HB := zMk (zBt (by exact uT HB.out) hb); clear hb hbox hg; have hcz7_0 : w6.cell? ⟨gb151, 0, none⟩ = some (.int .i64 a0_0) := (zKc BK151.out 0).trans rfl; have hcz7_1 : w6.cell? ⟨gb151, 1, none⟩ = some (.slice A0_1 l0_1.length c0_1) := (zKc BK151.out 1).trans rfl; have hfz7_0 := zKf BK151.out 0; have hfz7_1 := zKf BK151.out 1)|((with_reducible refine gate_callee (f := 7) rfl ?_); refine goesL_ (some 10) rfl rfl Try.func7 (by kernel_rfl) rfl #[.agg #[.int .i64 a0_0, .slice A0_1 l0_1.length c0_1]] rfl (by (try simp only [zMa, zMc, zMn]); first |  done|  rfl|  (simp only [zLd, zLt]; rfl)) ?_; (with_reducible refine (paths_Right.calls k a0_0 _ _ l0_1 t152 _ ?side1 ?side2 A4.out).mono ?_); (case side1 => repeat (first |  exact (Kd.C_below HR0_1.out HB.out)|(with_reducible refine zCa ?_ _)|(with_reducible refine zCn ?_ _)|(with_reducible refine zCd ?_))); (case side2 => exact HC0_1.out); rintro e w8 ⟨rfl, hb⟩; refine ⟨_, rfl, ?_⟩; replace BK151 := zMk (zKb (g := gb151) (o := .cells #[.int .i64 a0_0, .slice A0_1 l0_1.length c0_1] 24 (0, 0)) (by (with_reducible repeat (first |  refine zKn ?_ _|  refine zKd ?_|  refine zKa ?_ _)); exact BK151.out) hb); replace HB := zMk (zBt (by exact uT HB.out) hb); have hcz9_0 : w8.cell? ⟨gb151, 0, none⟩ = some (.int .i64 a0_0) := (zKc BK151.out 0).trans rfl; have hcz9_1 : w8.cell? ⟨gb151, 1, none⟩ = some (.slice A0_1 l0_1.length c0_1) := (zKc BK151.out 1).trans rfl; have hfz9_0 := zKf BK151.out 0; have hfz9_1 := zKf BK151.out 1))
    go_loopg [2, 6, 14] k (fun kq v2 v6 v14 w' => ∃ (x2_1 : Int) (x6_1 : List Int) (x14_1 : Int), v2 = .int .i64 x2_1 ∧ v14 = .int .i64 x14_1 ∧ Aside0 (paths_Way.l0 kq l1 x2_1 x6_1 a0_0 x14_1 a0_0 l0_1 = some r) ∧ Aside0 (kq ≤ k) ∧ Aside0 (Kd.R (Kd.int .i64) 3 w' w.heap.size (fun _ => True) v6 x6_1) ∧ Aside0 (w'.heap[gb151]? = some (.cells #[.int .i64 a0_0, (.slice A0_1 l0_1.length c0_1)] 24 (0, 0))) ∧ Aside0 (Below w.heap.size w w'))
    case atStart => exact ⟨(a2), (([] : List Int)), (0), (by first | rfl | (simp; done) | (simp [*]; done)), (by first | rfl | (simp; done) | (simp [*]; done)), H', ⟨Nat.le_refl _⟩, ⟨by first | exact Kd.R_nil _ _ _ _ _ | exact Kd.N_nil _ _ _ _ _ | exact Kd.V_nil _ _ _ _ _ | exact Kd.Q_nil _ _ _ _ _ | exact Kd.S_nil _ _ _ _ _⟩, ⟨by (with_reducible repeat (first | refine zKn ?_ _ | refine zKd ?_ | refine zKa ?_ _)); exact BK151.out⟩, ⟨by exact uT HB.out⟩⟩
    clear H'
    obtain ⟨x2_1, x6_1, x14_1, rfl, rfl, HA, HK1, HO_6, BK151, HB⟩ := hrel
    rcases gk with _ | k1
    · exact absurd HA.out (by simp [paths_Way.l0])
    have H := HA.out
    clear HA
    simp only [paths_Way.l0] at H
    by_cases c10 : x14_1 < a0_0
    · rw [if_pos c10] at H
      have c10b0 : decide (x14_1 < a0_0) = true := decide_eq_true c10
      clear c10
      have HC11 := zMk H
      clear H
      go_upto_region 5 with (fail)
      go_cut [26] (fun v26 wc => ∃ (kq : Nat) (x26_10 : Bool), v26 = .bool x26_10 ∧ Aside0 (paths_Way.j1 kq l1 x2_1 x6_1 a0_0 x14_1 x26_10 a0_0 l0_1 = some r) ∧ Aside0 (kq ≤ k1) ∧ Aside0 (Kd.R (Kd.int .i64) 3 wc w.heap.size (fun _ => True) u6 x6_1) ∧ Aside0 (wc.heap[gb151]? = some (.cells #[.int .i64 a0_0, (.slice A0_1 l0_1.length c0_1)] 24 (0, 0))) ∧ Aside0 (Below w.heap.size w wc))
      case first =>
        have H := HC11.out
        clear HC11
        by_cases c12 : x2_1 < 0
        · rw [if_pos c12] at H
          have c12b0 : decide (x2_1 < 0) = true := decide_eq_true c12
          clear c12
          (first | rw [c12b0] | (simp only [i64_w, i32_w]; rw [c12b0]) | rw [c12b1] | skip)
          have H' := zMk H
          clear H
          go_wp2
          go_meet
          case rel => exact ⟨_, (true), (by first | rfl | (simp; done) | (simp [*]; done)), H', ⟨by have := HK1.out; first | omega | exact Nat.le_refl _⟩, ⟨by exact uR HO_6.out⟩, ⟨by (with_reducible repeat (first | refine zKn ?_ _ | refine zKd ?_ | refine zKa ?_ _)); exact BK151.out⟩, ⟨by exact uT HB.out⟩⟩
        · rw [if_neg c12] at H
          have c12b0 : decide (x2_1 < 0) = false := decide_eq_false c12
          clear c12
          (first | rw [c12b0] | (simp only [i64_w, i32_w]; rw [c12b0]) | rw [c12b1] | skip)
          obtain ⟨ji13, hji13⟩ : ∃ j_ : Int, (mn (l1.length : Int) a0_0) = j_ := ⟨_, rfl⟩
          replace H : (paths_Way.j1 k1 l1 x2_1 x6_1 a0_0 x14_1 (decide (x2_1 ≥ (ji13))) a0_0 l0_1) = some r := by first | (rw [hji13] at H; exact H) | (simp only [hji13] at H ⊢; exact H)
          have hji13_ : (if a0_0 < (l1.length : Int) then a0_0 else (l1.length : Int)) = ji13 := hji13
          have H' := zMk H
          clear H
          have hcz14_0 : wr.cell? ⟨gb151, 0, none⟩ = some (.int .i64 a0_0) := (zKc BK151.out 0).trans rfl
          have hcz14_1 : wr.cell? ⟨gb151, 1, none⟩ = some (.slice A0_1 l0_1.length c0_1) := (zKc BK151.out 1).trans rfl
          have hfz14_0 := zKf BK151.out 0
          have hfz14_1 := zKf BK151.out 1
          go_wp2
          go_meet
          case rel => exact ⟨_, (decide (x2_1 ≥ (ji13))), (by first | rfl | (simp; done) | (simp only [← hji13] <;> (first | rfl | (simp; done))) | (refine congrArg Value.bool ?_; first | (symm; assumption) | (rw [eq_comm]; assumption)) | (simp [*]; done)), H', ⟨by have := HK1.out; first | omega | exact Nat.le_refl _⟩, ⟨by exact uR HO_6.out⟩, ⟨by (with_reducible repeat (first | refine zKn ?_ _ | refine zKd ?_ | refine zKa ?_ _)); exact BK151.out⟩, ⟨by exact uT HB.out⟩⟩
      case rest =>
        clear HC11
        obtain ⟨kq, x26_10, rfl, HA, HJ10, HO_6, BK151, HB⟩ := hcut
        rcases kq with _ | kj10
        · exact absurd HA.out (by simp [paths_Way.j1])
        have H := HA.out
        clear HA
        simp only [paths_Way.j1] at H
        by_cases c15 : x26_10 = true
        · subst c15
          replace H : (some ([] : List Int)) = some r := by rw [if_pos rfl] at H; exact H
          obtain rfl := zOi H
          go_wp2
          go_ret
          exact ⟨_, by first | rfl | (simp [errW_none, errW_some] <;> rfl) | (simp [*, errW_none, errW_some] <;> rfl), by first | exact Kd.R_nil _ _ _ _ _ | exact Kd.N_nil _ _ _ _ _ | exact Kd.V_nil _ _ _ _ _ | exact Kd.Q_nil _ _ _ _ _ | exact Kd.S_nil _ _ _ _ _, by exact uT HB.out⟩
        · replace c15 := Bool.eq_false_iff.mpr c15
          subst c15
          replace H : (if 0 ≤ x2_1 then (if x2_1 < (l1.length : Int) then (if (rd l1 x2_1) = (-1) then ((slices_Reverse_int_int.f kj10 x6_1).bind fun t155 => (some t155)) else ((paths_other.f kj10 a0_0 l0_1 (rd l1 x2_1) x2_1).bind fun bt157 => (if bt157.2 = true then (if x6_1.length < 17592186044416 then (paths_Way.l0 kj10 l1 bt157.1 (x6_1 ++ [rd l1 x2_1]) a0_0 (wrap64 (x14_1 + 1)) a0_0 l0_1) else (none)) else (some ([] : List Int))))) else (none)) else (none)) = some r := by rw [if_neg (show ¬ (false = true) by decide)] at H; exact H
          by_cases c16 : 0 ≤ x2_1
          rotate_left
          · rw [if_neg c16] at H; exact absurd H (by simp)
          rw [if_pos c16] at H
          have c16b0 : decide (0 ≤ x2_1) = true := decide_eq_true c16
          clear c16
          by_cases c17 : x2_1 < (l1.length : Int)
          rotate_left
          · rw [if_neg c17] at H; exact absurd H (by simp)
          rw [if_pos c17] at H
          have c17b0 : decide (x2_1 < (l1.length : Int)) = true := decide_eq_true c17
          clear c17
          by_cases c18 : (rd l1 x2_1) = (-1)
          · rw [if_pos c18] at H
            have c18b0 : ((rd l1 x2_1) == (-1)) = true := beq_iff_eq.mpr c18
            have c18b1 : ((rd l1 x2_1) != (-1)) = false := bne_eq_false_iff_eq.mpr c18
            clear c18
            replace H := bnd H
            obtain ⟨t155, A190, H⟩ := H
            have A19 := zMk A190
            clear A190
            obtain rfl := zOi H
            have p154 : 0 ≤ (x2_1 : Int) := of_decide_eq_true (by assumption)
            have q154 : x2_1 < (l1.length : Int) := of_decide_eq_true (by assumption)
            obtain ⟨ad154, e154, hx154_0⟩ := zAi HR1.out x2_1 p154 q154
            cases e154
            replace hx154_0 := (HB.out.cell (World.block_lt_of_cell? w _ hx154_0)).trans hx154_0
            replace p154 := eq_true p154
            replace q154 := eq_true q154
            obtain ⟨Ao20, co20, eo20⟩ := zRs HO_6.out
            subst eo20
            go_wp2_with (first | ((with_reducible refine gate_callee (f := 27) rfl ?_); refine goesL_ (some 54) rfl rfl Try.func27 (by kernel_rfl) rfl #[.slice Ao20 x6_1.length co20] rfl (by (try simp only [zMa, zMc, zMn]); first |  done|  rfl|  (simp only [zLd, zLt]; rfl)) ?_; (with_reducible refine (slices_Reverse_int_int.calls kj10 (fun k_ => some k_ = (.slice Ao20 x6_1.length co20 : Value).ownBlock) (.slice Ao20 x6_1.length co20) x6_1 t155 w _ ?side1 ?side2 A19.out).mono ?_); (case side1 => exact uT HB.out); (case side2 => exact Kd.R_tight rfl HO_6.out); rintro e w21 ⟨rfl, hy0, hb, hkp⟩; refine ⟨_, rfl, ?_⟩; replace BK151 := zMk (blk_kept (by (with_reducible repeat (first |  refine zKn ?_ _|  refine zKd ?_|  refine zKa ?_ _)); exact BK151.out) hkp (fun hs_ => (fun e_ => (Kd.R_ne HO_6.out BK151.out (by decide)) e_) hs_)); replace HO_6 := zMk (Kd.R_reok rfl hy0 (fun k_ e_ => HO_6.out.1 k_ e_)); replace HB := zMk (hb)))
            go_ret
            exact ⟨_, by first | rfl | (simp [errW_none, errW_some] <;> rfl) | (simp [*, errW_none, errW_some] <;> rfl), by exact uR HO_6.out, by exact uT HB.out⟩
          · rw [if_neg c18] at H
            have c18b0 : ((rd l1 x2_1) == (-1)) = false := beq_eq_false_iff_ne.mpr c18
            have c18b1 : ((rd l1 x2_1) != (-1)) = true := bne_iff_ne.mpr c18
            replace H := bnd H
            obtain ⟨⟨t157, t158⟩, A220, H⟩ := H
            replace H : (if t158 = true then (if x6_1.length < 17592186044416 then (paths_Way.l0 kj10 l1 t157 (x6_1 ++ [rd l1 x2_1]) a0_0 (wrap64 (x14_1 + 1)) a0_0 l0_1) else (none)) else (some ([] : List Int))) = some r := H
            have A22 := zMk A220
            clear A220
            by_cases c23 : t158 = true
            · subst c23
              replace H : (if x6_1.length < 17592186044416 then (paths_Way.l0 kj10 l1 t157 (x6_1 ++ [rd l1 x2_1]) a0_0 (wrap64 (x14_1 + 1)) a0_0 l0_1) else (none)) = some r := by rw [if_pos rfl] at H; exact H
              by_cases c24 : x6_1.length < 17592186044416
              rotate_left
              · rw [if_neg c24] at H; exact absurd H (by simp)
              rw [if_pos c24] at H
              have LMc24 := zMk c24
              clear c24
              obtain ⟨y160, hy160⟩ : ∃ y_ : List Int, y_ = (x6_1 ++ [rd l1 x2_1]) := ⟨_, rfl⟩
              replace H : (paths_Way.l0 kj10 l1 t157 y160 a0_0 (wrap64 (x14_1 + 1)) a0_0 l0_1) = some r := by first | (rw [hy160]; with_reducible exact H) | (have H2_ := bsm H; first | (rw [hy160]; with_reducible exact H2_) | with_reducible exact H2_) | with_reducible exact H | (rw [hy160]; exact H) | exact H
              have Ny160 := zMk hy160
              clear hy160
              have H' := zMk H
              clear H
              have p154 : 0 ≤ (x2_1 : Int) := of_decide_eq_true (by assumption)
              have q154 : x2_1 < (l1.length : Int) := of_decide_eq_true (by assumption)
              obtain ⟨ad154, e154, hx154_0⟩ := zAi HR1.out x2_1 p154 q154
              cases e154
              replace hx154_0 := (HB.out.cell (World.block_lt_of_cell? w _ hx154_0)).trans hx154_0
              replace p154 := eq_true p154
              replace q154 := eq_true q154
              try go_wp2
              replace HO_6 := zMk (zRd HO_6.out)
              replace BK151 := zMk (zKd BK151.out)
              replace HB := zMk (zBd HB.out)
              have p156 : 0 ≤ (x2_1 : Int) := of_decide_eq_true (by assumption)
              have q156 : x2_1 < (l1.length : Int) := of_decide_eq_true (by assumption)
              obtain ⟨ad156, e156, hx156_0⟩ := zAi HR1.out x2_1 p156 q156
              have hw156_0 := hx156_0
              obtain rfl : ad154 = ad156 := (by injection e156)
              replace hx156_0 := (HB.out.cell (World.block_lt_of_cell? w _ hx156_0)).trans hx156_0
              replace p156 := eq_true p156
              replace q156 := eq_true q156
              refine start_ (n := 12) (S := fun w' => w'.cell? ⟨gb151, 0, none⟩ = some (.int .i64 a0_0) ∧ w'.cell? ⟨gb151, 1, none⟩ = some (.slice A0_1 l0_1.length c0_1) ∧ w'.cell? (ad154.add (x2_1).toNat) = some (.int .i64 (rd l1 x2_1))) (ds := []) #[false, false, false, false, false, false, false, false, false, false, false, false] (by kernel_rfl) rfl rfl ⟨(zKc BK151.out 0).trans rfl, (zKc BK151.out 1).trans rfl, ((HB.out.cell (World.block_lt_of_cell? w _ hw156_0)).trans hw156_0)⟩ (fun hHeld => ?_); refine with_tabW paths_Way.tab8 paths_Way.bits8 (fun HT_ HW_ => ?_)
              generalize wc.drew = w25 at HO_6 BK151 HB hx156_0 hHeld ⊢
              refine pure_ (i := 1) (N := some 34) (v := ?_) (a' := ?_) #[false, true, false, false, false, false, false, false, false, false, false, false] rfl rfl (any_of HT_.out (by kernel_rfl)) (fun _ _ _ h => h) (Or.inl ⟨by rfl, ?_⟩) ?_ ?_
              rotate_left
              · intro w'
                go_simp
                with_reducible rfl
              rotate_left
              · simp only [Act.put, zSa, zSb, zSc, i64_w, i32_w]
                rfl
              refine pure_ (i := 2) (N := some 35) (v := ?_) (a' := ?_) #[false, true, true, false, false, false, false, false, false, false, false, false] rfl rfl (any_of HT_.out (by kernel_rfl)) (fun _ _ _ h => h) (Or.inl ⟨by rfl, ?_⟩) ?_ ?_
              rotate_left
              · intro w'
                go_simp
                with_reducible rfl
              rotate_left
              · simp only [Act.put, zSa, zSb, zSc, i64_w, i32_w]
                rfl
              refine pure_ (i := 3) (N := some 36) (v := ?_) (a' := ?_) #[false, true, true, true, false, false, false, false, false, false, false, false] rfl rfl (any_of HT_.out (by kernel_rfl)) (fun _ _ _ h => h) (Or.inl ⟨by rfl, ?_⟩) ?_ ?_
              rotate_left
              · intro w'
                go_simp
                with_reducible rfl
              rotate_left
              · simp only [Act.put, zSa, zSb, zSc, i64_w, i32_w]
                rfl
              refine pure_ (i := 5) (N := some 38) (v := ?_) (a' := ?_) #[false, true, true, true, false, true, false, false, false, false, false, false] rfl rfl (any_of HT_.out (by kernel_rfl)) (fun _ _ _ h => h) (Or.inl ⟨by rfl, ?_⟩) ?_ ?_
              rotate_left
              · intro w'
                go_simp
                with_reducible rfl
              rotate_left
              · simp only [Act.put, zSa, zSb, zSc, i64_w, i32_w]
                rfl
              refine take_ (i := 0) (N := some 33) (v := ?_) (a' := ?_) #[true, true, true, true, false, true, false, false, false, false, false, false] rfl rfl (take_ofW HT_.out HW_.out (by kernel_rfl)) (fun _ _ _ h => h) (Or.inl ⟨by rfl, ?_⟩) hHeld ?_ ?_
              rotate_left
              · rintro w' ⟨s0, s1, s2⟩
                go_simp
                with_reducible rfl
              rotate_left
              · simp only [Act.put, zSa, zSb, zSc, i64_w, i32_w]
                rfl
              refine take_ (i := 4) (N := some 37) (v := ?_) (a' := ?_) #[true, true, true, true, true, true, false, false, false, false, false, false] rfl rfl (take_ofW HT_.out HW_.out (by kernel_rfl)) (fun _ _ _ h => h) (Or.inl ⟨by rfl, ?_⟩) hHeld ?_ ?_
              rotate_left
              · rintro w' ⟨s0, s1, s2⟩
                go_simp
                with_reducible rfl
              rotate_left
              · simp only [Act.put, zSa, zSb, zSc, i64_w, i32_w]
                rfl
              refine one_ (i := 6) (N := some 39) #[true, true, true, true, true, true, true, false, false, false, false, false] rfl rfl (one_of HT_.out (by kernel_rfl)) (by decide) (fun K hK => ?_)
              refine goes_ Try.func25 (by kernel_rfl) rfl #[.agg #[.int .i64 a0_0, .slice A0_1 l0_1.length c0_1], .int .i64 (rd l1 x2_1), .int .i64 x2_1] (by rfl) rfl rfl (by (try simp only [zMa, zMc, zMn]); first | done | rfl | (simp only [zLd, zLt]; rfl)) ?_
              with_reducible refine (paths_other.calls kj10 a0_0 _ _ l0_1 (rd l1 x2_1) x2_1 t157 true _ ?side1 ?side2 A22.out).mono ?_
              (case side1 => repeat (first | exact (Kd.C_below HR0_1.out HB.out) | (with_reducible refine zCa ?_ _) | (with_reducible refine zCn ?_ _) | (with_reducible refine zCd ?_)))
              (case side2 => exact HC0_1.out)
              rintro e w26 ⟨rfl, hb⟩
              refine ⟨_, rfl, ?_⟩
              replace HO_6 := zMk (zRb (by exact uR HO_6.out) hb)
              replace BK151 := zMk (zKb (g := gb151) (o := .cells #[.int .i64 a0_0, .slice A0_1 l0_1.length c0_1] 24 (0, 0)) (by (with_reducible repeat (first | refine zKn ?_ _ | refine zKd ?_ | refine zKa ?_ _)); exact BK151.out) hb)
              replace HB := zMk (zBt (by exact uT HB.out) hb)
              refine hK.out _ _ ⟨(zKc BK151.out 0).trans rfl, (zKc BK151.out 1).trans rfl, ((HB.out.cell (World.block_lt_of_cell? w _ hw156_0)).trans hw156_0)⟩ (fun hHeld => ?_)
              clear hK K
              refine norm_ (a' := ?_) ?_ ?_
              rotate_left
              · show Act.put _ (some 39) _ = _
                simp only [Act.put, zSa, zSb, zSc, i64_w, i32_w]
                rfl
              refine pure_ (i := 7) (N := some 32) (v := ?_) (a' := ?_) #[true, true, true, true, true, true, true, true, false, false, false, false] rfl rfl (any_of HT_.out (by kernel_rfl)) (fun _ _ _ h => h) (Or.inl ⟨by rfl, ?_⟩) ?_ ?_
              rotate_left
              · intro w'
                go_simp
                with_reducible rfl
              rotate_left
              · simp only [Act.put, zSa, zSb, zSc, i64_w, i32_w]
                rfl
              refine pure_ (i := 8) (N := some 40) (v := ?_) (a' := ?_) #[true, true, true, true, true, true, true, true, true, false, false, false] rfl rfl (any_of HT_.out (by kernel_rfl)) (fun _ _ _ h => h) (Or.inl ⟨by rfl, ?_⟩) ?_ ?_
              rotate_left
              · intro w'
                go_simp
                with_reducible rfl
              rotate_left
              · simp only [Act.put, zSa, zSb, zSc, i64_w, i32_w]
                rfl
              refine pure_ (i := 9) (N := some 41) (v := ?_) (a' := ?_) #[true, true, true, true, true, true, true, true, true, true, false, false] rfl rfl (any_of HT_.out (by kernel_rfl)) (fun _ _ _ h => h) (Or.inl ⟨by rfl, ?_⟩) ?_ ?_
              rotate_left
              · intro w'
                go_simp
                with_reducible rfl
              rotate_left
              · simp only [Act.put, zSa, zSb, zSc, i64_w, i32_w]
                rfl
              refine pure_ (i := 10) (N := some 7) (v := ?_) (a' := ?_) #[true, true, true, true, true, true, true, true, true, true, true, false] rfl rfl (any_of HT_.out (by kernel_rfl)) (fun _ _ _ h => h) (Or.inl ⟨by rfl, ?_⟩) ?_ ?_
              rotate_left
              · intro w'
                go_simp
                with_reducible rfl
              rotate_left
              · simp only [Act.put, zSa, zSb, zSc, i64_w, i32_w]
                rfl
              refine pure_ (i := 11) (N := some 8) (v := ?_) (a' := ?_) #[true, true, true, true, true, true, true, true, true, true, true, true] rfl rfl (any_of HT_.out (by kernel_rfl)) (fun _ _ _ h => h) (Or.inl ⟨by rfl, ?_⟩) ?_ ?_
              rotate_left
              · intro w'
                go_simp
                with_reducible rfl
              rotate_left
              · simp only [Act.put, zSa, zSb, zSc, i64_w, i32_w]
                rfl
              refine done_ (done_of HT_.out (by kernel_rfl)) ?_
              have p159 : 0 ≤ (x2_1 : Int) := of_decide_eq_true (by assumption)
              have q159 : x2_1 < (l1.length : Int) := of_decide_eq_true (by assumption)
              obtain ⟨ad159, e159, hx159_0⟩ := zAi HR1.out x2_1 p159 q159
              obtain rfl : ad154 = ad159 := (by injection e159)
              replace hx159_0 := (HB.out.cell (World.block_lt_of_cell? w _ hx159_0)).trans hx159_0
              replace p159 := eq_true p159
              replace q159 := eq_true q159
              try go_wp2_with (first | ((with_reducible refine gate_builtin (b := .append) (xs := #[.tmp 44, .tmp 49]) rfl ?_); (try (refine gate_guard (by rfl) ?_; dsimp only)); at_builtin; refine Kd.R_append (Kd.int .i64) (w0 := w) w.heap.size rfl (.tmp 44) (.tmp 49) 31 3 (.int .i64 0) 8 rfl Try.underlying31 info3 rfl (by decide) (by omega) u6 x6_1 (rd l1 x2_1) [.int .i64 (rd l1 x2_1)] (fun _ => True) (fun _ => False) rfl rfl ?aP (fun _ hk => hk.elim) ?aF ?aO ?aB ?aS ?aL ?_; (case aP => exact rfl); (case aB => exact (by exact uT HB.out)); (case aF => exact (fun _ _ => trivial)); (case aO => exact (by exact uR HO_6.out)); (case aS => exact (zBs (by exact uT HB.out))); (case aL => have := LMc24.out; omega); intro v161 w27 ho hb hg hat; rw [← Ny160.out] at ho; replace BK151 := zMk (blk_grown (g := gb151) (o := .cells #[.int .i64 a0_0, .slice A0_1 l0_1.length c0_1] 24 (0, 0)) (by (with_reducible repeat (first |  refine zKn ?_ _|  refine zKd ?_|  refine zKa ?_ _)); exact BK151.out) hg (Kd.R_ne HO_6.out BK151.out (by decide))); replace HB := zMk (hb); have HO162 := zMk (ho); clear HO_6 ho hb hg hat))
              go_roundg kj10
              case measure => have := HK1.out; have := HJ10.out; omega
              case rel => exact ⟨(t157), (y160), (wrap64 (x14_1 + 1)), (by first | rfl | (simp; done) | (simp [*]; done)), (by first | rfl | (simp; done) | (simp [*]; done)), H', ⟨by have := HK1.out; have := HJ10.out; omega⟩, ⟨by exact uR HO162.out⟩, ⟨by (with_reducible repeat (first | refine zKn ?_ _ | refine zKd ?_ | refine zKa ?_ _)); exact BK151.out⟩, ⟨by exact uT HB.out⟩⟩
            · replace c23 := Bool.eq_false_iff.mpr c23
              subst c23
              replace H : (some ([] : List Int)) = some r := by rw [if_neg (show ¬ (false = true) by decide)] at H; exact H
              obtain rfl := zOi H
              have p154 : 0 ≤ (x2_1 : Int) := of_decide_eq_true (by assumption)
              have q154 : x2_1 < (l1.length : Int) := of_decide_eq_true (by assumption)
              obtain ⟨ad154, e154, hx154_0⟩ := zAi HR1.out x2_1 p154 q154
              cases e154
              replace hx154_0 := (HB.out.cell (World.block_lt_of_cell? w _ hx154_0)).trans hx154_0
              replace p154 := eq_true p154
              replace q154 := eq_true q154
              try go_wp2
              replace HO_6 := zMk (zRd HO_6.out)
              replace BK151 := zMk (zKd BK151.out)
              replace HB := zMk (zBd HB.out)
              have p156 : 0 ≤ (x2_1 : Int) := of_decide_eq_true (by assumption)
              have q156 : x2_1 < (l1.length : Int) := of_decide_eq_true (by assumption)
              obtain ⟨ad156, e156, hx156_0⟩ := zAi HR1.out x2_1 p156 q156
              have hw156_0 := hx156_0
              obtain rfl : ad154 = ad156 := (by injection e156)
              replace hx156_0 := (HB.out.cell (World.block_lt_of_cell? w _ hx156_0)).trans hx156_0
              replace p156 := eq_true p156
              replace q156 := eq_true q156
              refine start_ (n := 12) (S := fun w' => w'.cell? ⟨gb151, 0, none⟩ = some (.int .i64 a0_0) ∧ w'.cell? ⟨gb151, 1, none⟩ = some (.slice A0_1 l0_1.length c0_1) ∧ w'.cell? (ad154.add (x2_1).toNat) = some (.int .i64 (rd l1 x2_1))) (ds := []) #[false, false, false, false, false, false, false, false, false, false, false, false] (by kernel_rfl) rfl rfl ⟨(zKc BK151.out 0).trans rfl, (zKc BK151.out 1).trans rfl, ((HB.out.cell (World.block_lt_of_cell? w _ hw156_0)).trans hw156_0)⟩ (fun hHeld => ?_); refine with_tabW paths_Way.tab8 paths_Way.bits8 (fun HT_ HW_ => ?_)
              generalize wc.drew = w28 at HO_6 BK151 HB hx156_0 hHeld ⊢
              refine pure_ (i := 1) (N := some 34) (v := ?_) (a' := ?_) #[false, true, false, false, false, false, false, false, false, false, false, false] rfl rfl (any_of HT_.out (by kernel_rfl)) (fun _ _ _ h => h) (Or.inl ⟨by rfl, ?_⟩) ?_ ?_
              rotate_left
              · intro w'
                go_simp
                with_reducible rfl
              rotate_left
              · simp only [Act.put, zSa, zSb, zSc, i64_w, i32_w]
                rfl
              refine pure_ (i := 2) (N := some 35) (v := ?_) (a' := ?_) #[false, true, true, false, false, false, false, false, false, false, false, false] rfl rfl (any_of HT_.out (by kernel_rfl)) (fun _ _ _ h => h) (Or.inl ⟨by rfl, ?_⟩) ?_ ?_
              rotate_left
              · intro w'
                go_simp
                with_reducible rfl
              rotate_left
              · simp only [Act.put, zSa, zSb, zSc, i64_w, i32_w]
                rfl
              refine pure_ (i := 3) (N := some 36) (v := ?_) (a' := ?_) #[false, true, true, true, false, false, false, false, false, false, false, false] rfl rfl (any_of HT_.out (by kernel_rfl)) (fun _ _ _ h => h) (Or.inl ⟨by rfl, ?_⟩) ?_ ?_
              rotate_left
              · intro w'
                go_simp
                with_reducible rfl
              rotate_left
              · simp only [Act.put, zSa, zSb, zSc, i64_w, i32_w]
                rfl
              refine pure_ (i := 5) (N := some 38) (v := ?_) (a' := ?_) #[false, true, true, true, false, true, false, false, false, false, false, false] rfl rfl (any_of HT_.out (by kernel_rfl)) (fun _ _ _ h => h) (Or.inl ⟨by rfl, ?_⟩) ?_ ?_
              rotate_left
              · intro w'
                go_simp
                with_reducible rfl
              rotate_left
              · simp only [Act.put, zSa, zSb, zSc, i64_w, i32_w]
                rfl
              refine take_ (i := 0) (N := some 33) (v := ?_) (a' := ?_) #[true, true, true, true, false, true, false, false, false, false, false, false] rfl rfl (take_ofW HT_.out HW_.out (by kernel_rfl)) (fun _ _ _ h => h) (Or.inl ⟨by rfl, ?_⟩) hHeld ?_ ?_
              rotate_left
              · rintro w' ⟨s0, s1, s2⟩
                go_simp
                with_reducible rfl
              rotate_left
              · simp only [Act.put, zSa, zSb, zSc, i64_w, i32_w]
                rfl
              refine take_ (i := 4) (N := some 37) (v := ?_) (a' := ?_) #[true, true, true, true, true, true, false, false, false, false, false, false] rfl rfl (take_ofW HT_.out HW_.out (by kernel_rfl)) (fun _ _ _ h => h) (Or.inl ⟨by rfl, ?_⟩) hHeld ?_ ?_
              rotate_left
              · rintro w' ⟨s0, s1, s2⟩
                go_simp
                with_reducible rfl
              rotate_left
              · simp only [Act.put, zSa, zSb, zSc, i64_w, i32_w]
                rfl
              refine one_ (i := 6) (N := some 39) #[true, true, true, true, true, true, true, false, false, false, false, false] rfl rfl (one_of HT_.out (by kernel_rfl)) (by decide) (fun K hK => ?_)
              refine goes_ Try.func25 (by kernel_rfl) rfl #[.agg #[.int .i64 a0_0, .slice A0_1 l0_1.length c0_1], .int .i64 (rd l1 x2_1), .int .i64 x2_1] (by rfl) rfl rfl (by (try simp only [zMa, zMc, zMn]); first | done | rfl | (simp only [zLd, zLt]; rfl)) ?_
              with_reducible refine (paths_other.calls kj10 a0_0 _ _ l0_1 (rd l1 x2_1) x2_1 t157 false _ ?side1 ?side2 A22.out).mono ?_
              (case side1 => repeat (first | exact (Kd.C_below HR0_1.out HB.out) | (with_reducible refine zCa ?_ _) | (with_reducible refine zCn ?_ _) | (with_reducible refine zCd ?_)))
              (case side2 => exact HC0_1.out)
              rintro e w29 ⟨rfl, hb⟩
              refine ⟨_, rfl, ?_⟩
              replace HO_6 := zMk (zRb (by exact uR HO_6.out) hb)
              replace BK151 := zMk (zKb (g := gb151) (o := .cells #[.int .i64 a0_0, .slice A0_1 l0_1.length c0_1] 24 (0, 0)) (by (with_reducible repeat (first | refine zKn ?_ _ | refine zKd ?_ | refine zKa ?_ _)); exact BK151.out) hb)
              replace HB := zMk (zBt (by exact uT HB.out) hb)
              refine hK.out _ _ ⟨(zKc BK151.out 0).trans rfl, (zKc BK151.out 1).trans rfl, ((HB.out.cell (World.block_lt_of_cell? w _ hw156_0)).trans hw156_0)⟩ (fun hHeld => ?_)
              clear hK K
              refine norm_ (a' := ?_) ?_ ?_
              rotate_left
              · show Act.put _ (some 39) _ = _
                simp only [Act.put, zSa, zSb, zSc, i64_w, i32_w]
                rfl
              refine pure_ (i := 7) (N := some 32) (v := ?_) (a' := ?_) #[true, true, true, true, true, true, true, true, false, false, false, false] rfl rfl (any_of HT_.out (by kernel_rfl)) (fun _ _ _ h => h) (Or.inl ⟨by rfl, ?_⟩) ?_ ?_
              rotate_left
              · intro w'
                go_simp
                with_reducible rfl
              rotate_left
              · simp only [Act.put, zSa, zSb, zSc, i64_w, i32_w]
                rfl
              refine pure_ (i := 8) (N := some 40) (v := ?_) (a' := ?_) #[true, true, true, true, true, true, true, true, true, false, false, false] rfl rfl (any_of HT_.out (by kernel_rfl)) (fun _ _ _ h => h) (Or.inl ⟨by rfl, ?_⟩) ?_ ?_
              rotate_left
              · intro w'
                go_simp
                with_reducible rfl
              rotate_left
              · simp only [Act.put, zSa, zSb, zSc, i64_w, i32_w]
                rfl
              refine pure_ (i := 9) (N := some 41) (v := ?_) (a' := ?_) #[true, true, true, true, true, true, true, true, true, true, false, false] rfl rfl (any_of HT_.out (by kernel_rfl)) (fun _ _ _ h => h) (Or.inl ⟨by rfl, ?_⟩) ?_ ?_
              rotate_left
              · intro w'
                go_simp
                with_reducible rfl
              rotate_left
              · simp only [Act.put, zSa, zSb, zSc, i64_w, i32_w]
                rfl
              refine pure_ (i := 10) (N := some 7) (v := ?_) (a' := ?_) #[true, true, true, true, true, true, true, true, true, true, true, false] rfl rfl (any_of HT_.out (by kernel_rfl)) (fun _ _ _ h => h) (Or.inl ⟨by rfl, ?_⟩) ?_ ?_
              rotate_left
              · intro w'
                go_simp
                with_reducible rfl
              rotate_left
              · simp only [Act.put, zSa, zSb, zSc, i64_w, i32_w]
                rfl
              refine pure_ (i := 11) (N := some 8) (v := ?_) (a' := ?_) #[true, true, true, true, true, true, true, true, true, true, true, true] rfl rfl (any_of HT_.out (by kernel_rfl)) (fun _ _ _ h => h) (Or.inl ⟨by rfl, ?_⟩) ?_ ?_
              rotate_left
              · intro w'
                go_simp
                with_reducible rfl
              rotate_left
              · simp only [Act.put, zSa, zSb, zSc, i64_w, i32_w]
                rfl
              refine done_ (done_of HT_.out (by kernel_rfl)) ?_
              try go_wp2
              go_ret
              exact ⟨_, by first | rfl | (simp [errW_none, errW_some] <;> rfl) | (simp [*, errW_none, errW_some] <;> rfl), by first | exact Kd.R_nil _ _ _ _ _ | exact Kd.N_nil _ _ _ _ _ | exact Kd.V_nil _ _ _ _ _ | exact Kd.Q_nil _ _ _ _ _ | exact Kd.S_nil _ _ _ _ _, by exact uT HB.out⟩
    · rw [if_neg c10] at H
      have c10b0 : decide (x14_1 < a0_0) = false := decide_eq_false c10
      clear c10
      replace H := bnd H
      obtain ⟨t153, A300, H⟩ := H
      have A30 := zMk A300
      clear A300
      obtain rfl := zOi H
      obtain ⟨Ao31, co31, eo31⟩ := zRs HO_6.out
      subst eo31
      go_wp2_with (first | ((with_reducible refine gate_callee (f := 27) rfl ?_); refine goesL_ (some 54) rfl rfl Try.func27 (by kernel_rfl) rfl #[.slice Ao31 x6_1.length co31] rfl (by (try simp only [zMa, zMc, zMn]); first |  done|  rfl|  (simp only [zLd, zLt]; rfl)) ?_; (with_reducible refine (slices_Reverse_int_int.calls k1 (fun k_ => some k_ = (.slice Ao31 x6_1.length co31 : Value).ownBlock) (.slice Ao31 x6_1.length co31) x6_1 t153 w _ ?side1 ?side2 A30.out).mono ?_); (case side1 => exact uT HB.out); (case side2 => exact Kd.R_tight rfl HO_6.out); rintro e w32 ⟨rfl, hy0, hb, hkp⟩; refine ⟨_, rfl, ?_⟩; replace BK151 := zMk (blk_kept (by (with_reducible repeat (first |  refine zKn ?_ _|  refine zKd ?_|  refine zKa ?_ _)); exact BK151.out) hkp (fun hs_ => (fun e_ => (Kd.R_ne HO_6.out BK151.out (by decide)) e_) hs_)); replace HO_6 := zMk (Kd.R_reok rfl hy0 (fun k_ e_ => HO_6.out.1 k_ e_)); replace HB := zMk (hb)))
      go_ret
      exact ⟨_, by first | rfl | (simp [errW_none, errW_some] <;> rfl) | (simp [*, errW_none, errW_some] <;> rfl), by exact uR HO_6.out, by exact uT HB.out⟩
  · rw [if_neg c5] at H
    have c5b0 : (t152 == 0) = false := beq_eq_false_iff_ne.mpr c5
    have c5b1 : (t152 != 0) = true := bne_iff_ne.mpr c5
    obtain rfl := zOi H
    go_enter Try.func16, Try.ntmps16
    go_wp2_with (first | ((with_reducible refine gate_dst (N := 3) rfl ?_); (try (refine gate_guard (by rfl) ?_; dsimp only)); refine box_event ?hg (N := 3) ?hd (cs := #[.int .i64 a0_0, .slice A0_1 l0_1.length c0_1]) (t := 24) ?hr ?_; (case hd => rfl); (case hg => rfl); (case hr => first | (go_simp; done)|(go_simp; rfl)|(go_simp; rw [show ∀ x : Int, IntKind.u32.wrap (IntKind.u8.wrap x) = x % 256 from fun x => (by show (x % 256) % 4294967296 = x % 256; omega)])); intro gb151 hg w33 hbox hb; have BK151 := zMk (hbox); have GW151 := zMk ((by rw [hg]; exact (zBs (by exact uT HB.out)) : w.heap.size ≤ gb151)); have GE151 := zMk ((by rw [hg]; exact (zBs (by exact uT HB.out)) : w.heap.size ≤ gb151)); have IGE151 := ownGe GE151.out; replace HB := zMk (zBt (by exact uT HB.out) hb); clear hb hbox hg; have hcz34_0 : w33.cell? ⟨gb151, 0, none⟩ = some (.int .i64 a0_0) := (zKc BK151.out 0).trans rfl; have hcz34_1 : w33.cell? ⟨gb151, 1, none⟩ = some (.slice A0_1 l0_1.length c0_1) := (zKc BK151.out 1).trans rfl; have hfz34_0 := zKf BK151.out 0; have hfz34_1 := zKf BK151.out 1)|((with_reducible refine gate_callee (f := 7) rfl ?_); refine goesL_ (some 10) rfl rfl Try.func7 (by kernel_rfl) rfl #[.agg #[.int .i64 a0_0, .slice A0_1 l0_1.length c0_1]] rfl (by (try simp only [zMa, zMc, zMn]); first |  done|  rfl|  (simp only [zLd, zLt]; rfl)) ?_; (with_reducible refine (paths_Right.calls k a0_0 _ _ l0_1 t152 _ ?side1 ?side2 A4.out).mono ?_); (case side1 => repeat (first |  exact (Kd.C_below HR0_1.out HB.out)|(with_reducible refine zCa ?_ _)|(with_reducible refine zCn ?_ _)|(with_reducible refine zCd ?_))); (case side2 => exact HC0_1.out); rintro e w35 ⟨rfl, hb⟩; refine ⟨_, rfl, ?_⟩; replace BK151 := zMk (zKb (g := gb151) (o := .cells #[.int .i64 a0_0, .slice A0_1 l0_1.length c0_1] 24 (0, 0)) (by (with_reducible repeat (first |  refine zKn ?_ _|  refine zKd ?_|  refine zKa ?_ _)); exact BK151.out) hb); replace HB := zMk (zBt (by exact uT HB.out) hb)))
    go_ret
    exact ⟨_, by first | rfl | (simp [errW_none, errW_some] <;> rfl) | (simp [*, errW_none, errW_some] <;> rfl), by first | exact Kd.R_nil _ _ _ _ _ | exact Kd.N_nil _ _ _ _ _ | exact Kd.V_nil _ _ _ _ _ | exact Kd.Q_nil _ _ _ _ _ | exact Kd.S_nil _ _ _ _ _, by exact uT HB.out⟩


def filigreeref04_Ints.l0 : Nat → List Int → List Int → Int → Option (Bool)
  | 0, _, _, _ => none
  | k + 1, x0, x1, x5 => if x5 < (x0.length : Int) then (if 0 ≤ x5 then (if x5 < (x1.length : Int) then (if (rd x0 x5) = (rd x1 x5) then (filigreeref04_Ints.l0 k x0 x1 (wrap64 (x5 + 1))) else (some false)) else (none)) else (none)) else (some true)
def filigreeref04_Ints.f (k : Nat) (l0 : List Int) (l1 : List Int) : Option (Bool) := if (l0.length : Int) = (l1.length : Int) then (filigreeref04_Ints.l0 k l0 l1 0) else (some false)
theorem filigreeref04_Ints.calls (k : Nat) (A0 : Option Addr) (c0 : Nat) (l0 : List Int) (A1 : Option Addr) (c1 : Nat) (l1 : List Int) (r : Bool) (w : World) (hr0 : Kd.C (Kd.int .i64) w A0 l0.length l0) (hc0 : l0.length ≤ c0) (hr1 : Kd.C (Kd.int .i64) w A1 l1.length l1) (hc1 : l1.length ≤ c1) (h : filigreeref04_Ints.f k l0 l1 = some r) :
    Calls Try.prog 17 #[.slice A0 l0.length c0, .slice A1 l1.length c1] w fun e w' => e = .returned (.bool r) ∧ Drawn0 w w' := by
  have HR0 := zMk hr0
  have HC0 := zMk hc0
  clear hr0 hc0
  have HR1 := zMk hr1
  have HC1 := zMk hc1
  clear hr1 hc1
  have H : (if (l0.length : Int) = (l1.length : Int) then (filigreeref04_Ints.l0 k l0 l1 0) else (some false)) = some r := h
  clear h
  by_cases c3 : (l0.length : Int) = (l1.length : Int)
  · rw [if_pos c3] at H
    have c3b0 : ((l0.length : Int) == (l1.length : Int)) = true := beq_iff_eq.mpr c3
    have c3b1 : ((l0.length : Int) != (l1.length : Int)) = false := bne_eq_false_iff_eq.mpr c3
    have c3b2 : (l0.length == l1.length) = true := by first | simpa using c3 | (simp at c3 ⊢; omega)
    clear c3
    have H' := zMk H
    clear H
    go_enter Try.func17, Try.ntmps17
    go_wp2
    repeat (go_quiet (fail); try go_wp2)
    go_loopg [5] k (fun kq v5 w' => ∃ (x5_1 : Int), v5 = .int .i64 x5_1 ∧ Aside0 (filigreeref04_Ints.l0 kq l0 l1 x5_1 = some r) ∧ Aside0 (kq ≤ k) ∧ Drawn0 w w')
    case atStart => exact ⟨(0), (by first | rfl | (simp; done) | (simp [*]; done)), H', ⟨Nat.le_refl _⟩, by repeat (first | exact Drawn0.refl _ | apply Drawn0.step)⟩
    clear H'
    obtain ⟨x5_1, rfl, HA, HK1, ⟨m1, rfl⟩⟩ := hrel
    rcases gk with _ | k1
    · exact absurd HA.out (by simp [filigreeref04_Ints.l0])
    have H := HA.out
    clear HA
    simp only [filigreeref04_Ints.l0] at H
    by_cases c4 : x5_1 < (l0.length : Int)
    · rw [if_pos c4] at H
      have c4b0 : decide (x5_1 < (l0.length : Int)) = true := decide_eq_true c4
      clear c4
      by_cases c5 : 0 ≤ x5_1
      rotate_left
      · rw [if_neg c5] at H; exact absurd H (by simp)
      rw [if_pos c5] at H
      have c5b0 : decide (0 ≤ x5_1) = true := decide_eq_true c5
      clear c5
      by_cases c6 : x5_1 < (l1.length : Int)
      rotate_left
      · rw [if_neg c6] at H; exact absurd H (by simp)
      rw [if_pos c6] at H
      have c6b0 : decide (x5_1 < (l1.length : Int)) = true := decide_eq_true c6
      clear c6
      by_cases c7 : (rd l0 x5_1) = (rd l1 x5_1)
      · rw [if_pos c7] at H
        have c7b0 : ((rd l0 x5_1) == (rd l1 x5_1)) = true := beq_iff_eq.mpr c7
        have c7b1 : ((rd l0 x5_1) != (rd l1 x5_1)) = false := bne_eq_false_iff_eq.mpr c7
        clear c7
        have H' := zMk H
        clear H
        have p163 : 0 ≤ (x5_1 : Int) := of_decide_eq_true (by assumption)
        have q163 : x5_1 < (l0.length : Int) := of_decide_eq_true (by assumption)
        obtain ⟨ad163, e163, hx163_0⟩ := zAi HR0.out x5_1 p163 q163
        cases e163
        replace p163 := eq_true p163
        replace q163 := eq_true q163
        have p164 : 0 ≤ (x5_1 : Int) := of_decide_eq_true (by assumption)
        have q164 : x5_1 < (l1.length : Int) := of_decide_eq_true (by assumption)
        obtain ⟨ad164, e164, hx164_0⟩ := zAi HR1.out x5_1 p164 q164
        cases e164
        replace p164 := eq_true p164
        replace q164 := eq_true q164
        go_wp2
        repeat (go_quiet (fail); try go_wp2)
        go_roundg k1
        case measure => have := HK1.out; omega
        case rel => exact ⟨(wrap64 (x5_1 + 1)), (by first | rfl | (simp; done) | (simp [*]; done)), H', ⟨by have := HK1.out; omega⟩, by repeat (first | exact Drawn0.refl _ | apply Drawn0.step)⟩
      · rw [if_neg c7] at H
        have c7b0 : ((rd l0 x5_1) == (rd l1 x5_1)) = false := beq_eq_false_iff_ne.mpr c7
        have c7b1 : ((rd l0 x5_1) != (rd l1 x5_1)) = true := bne_iff_ne.mpr c7
        obtain rfl := zOi H
        have p163 : 0 ≤ (x5_1 : Int) := of_decide_eq_true (by assumption)
        have q163 : x5_1 < (l0.length : Int) := of_decide_eq_true (by assumption)
        obtain ⟨ad163, e163, hx163_0⟩ := zAi HR0.out x5_1 p163 q163
        cases e163
        replace p163 := eq_true p163
        replace q163 := eq_true q163
        have p164 : 0 ≤ (x5_1 : Int) := of_decide_eq_true (by assumption)
        have q164 : x5_1 < (l1.length : Int) := of_decide_eq_true (by assumption)
        obtain ⟨ad164, e164, hx164_0⟩ := zAi HR1.out x5_1 p164 q164
        cases e164
        replace p164 := eq_true p164
        replace q164 := eq_true q164
        go_wp2
        repeat (go_quiet (fail); try go_wp2)
        go_ret
        exact ⟨by first | rfl | (simp; done) | (simp [*]; done), by repeat (first | exact Drawn0.refl _ | apply Drawn0.step)⟩
    · rw [if_neg c4] at H
      have c4b0 : decide (x5_1 < (l0.length : Int)) = false := decide_eq_false c4
      clear c4
      obtain rfl := zOi H
      go_wp2
      repeat (go_quiet (fail); try go_wp2)
      go_ret
      exact ⟨by first | rfl | (simp; done) | (simp [*]; done), by repeat (first | exact Drawn0.refl _ | apply Drawn0.step)⟩
  · rw [if_neg c3] at H
    have c3b0 : ((l0.length : Int) == (l1.length : Int)) = false := beq_eq_false_iff_ne.mpr c3
    have c3b1 : ((l0.length : Int) != (l1.length : Int)) = true := bne_iff_ne.mpr c3
    have c3b2 : (l0.length == l1.length) = false := by first | simpa using c3 | (simp at c3 ⊢; omega)
    obtain rfl := zOi H
    go_enter Try.func17, Try.ntmps17
    go_wp2
    repeat (go_quiet (fail); try go_wp2)
    go_ret
    exact ⟨by first | rfl | (simp; done) | (simp [*]; done), by repeat (first | exact Drawn0.refl _ | apply Drawn0.step)⟩


def filigreelaw12_alive.f (k : Nat)  : Option (Bool) := (some (([(⟨0, 1, 5⟩ : S39), (⟨0, 2, 1⟩ : S39), (⟨2, 1, 2⟩ : S39)] : List (S39)) : List (S39))).bind fun y165 => ((paths_From.f k 3 y165 0).bind fun bt169 => (if bt169.2.2 = 0 then (if (bt169.1.length : Int) = 3 then (if 1 < (bt169.1.length : Int) then (if (rd bt169.1 1) = 3 then ((paths_Way.f k 3 y165 bt169.2.1 1).bind fun t177 => ((filigreeref04_Ints.f k t177 (([1, 2] : List Int))).bind fun t183 => (if t183 = true then ((paths_Check.f k 3 y165 0 bt169.1 bt169.2.1).bind fun t184 => (some (t184 == 0))) else (some false)))) else (some false)) else (none)) else (some false)) else (some false)))
theorem filigreelaw12_alive.calls (k : Nat)  (r : Bool) (w : World) (h : filigreelaw12_alive.f k  = some r) :
    Calls Try.prog 9 #[] w fun e w' => e = .returned (.bool r) ∧ Below w.heap.size w w' := by
  have hu39 := Try.underlying39
  have hu24 := Try.underlying24
  have HB := zMk (Below.refl w.heap.size w)
  have H : ((some (([(⟨0, 1, 5⟩ : S39), (⟨0, 2, 1⟩ : S39), (⟨2, 1, 2⟩ : S39)] : List (S39)) : List (S39))).bind fun y165 => ((paths_From.f k 3 y165 0).bind fun bt169 => (if bt169.2.2 = 0 then (if (bt169.1.length : Int) = 3 then (if 1 < (bt169.1.length : Int) then (if (rd bt169.1 1) = 3 then ((paths_Way.f k 3 y165 bt169.2.1 1).bind fun t177 => ((filigreeref04_Ints.f k t177 (([1, 2] : List Int))).bind fun t183 => (if t183 = true then ((paths_Check.f k 3 y165 0 bt169.1 bt169.2.1).bind fun t184 => (some (t184 == 0))) else (some false)))) else (some false)) else (none)) else (some false)) else (some false)))) = some r := h
  clear h
  obtain ⟨y165, hy165⟩ : ∃ y_ : List (S39), y_ = (([(⟨0, 1, 5⟩ : S39), (⟨0, 2, 1⟩ : S39), (⟨2, 1, 2⟩ : S39)] : List (S39))) := ⟨_, rfl⟩
  replace H : ((paths_From.f k 3 y165 0).bind fun bt169 => (if bt169.2.2 = 0 then (if (bt169.1.length : Int) = 3 then (if 1 < (bt169.1.length : Int) then (if (rd bt169.1 1) = 3 then ((paths_Way.f k 3 y165 bt169.2.1 1).bind fun t177 => ((filigreeref04_Ints.f k t177 (([1, 2] : List Int))).bind fun t183 => (if t183 = true then ((paths_Check.f k 3 y165 0 bt169.1 bt169.2.1).bind fun t184 => (some (t184 == 0))) else (some false)))) else (some false)) else (none)) else (some false)) else (some false))) = some r := by first | (rw [hy165]; with_reducible exact H) | (have H2_ := bsm H; first | (rw [hy165]; with_reducible exact H2_) | with_reducible exact H2_) | with_reducible exact H | (rw [hy165]; exact H) | exact H
  have Ny165 := zMk hy165
  clear hy165
  replace H := bnd H
  obtain ⟨⟨t169, t172, t175⟩, A10, H⟩ := H
  replace H : (if t175 = 0 then (if (t169.length : Int) = 3 then (if 1 < (t169.length : Int) then (if (rd t169 1) = 3 then ((paths_Way.f k 3 y165 t172 1).bind fun t177 => ((filigreeref04_Ints.f k t177 (([1, 2] : List Int))).bind fun t183 => (if t183 = true then ((paths_Check.f k 3 y165 0 t169 t172).bind fun t184 => (some (t184 == 0))) else (some false)))) else (some false)) else (none)) else (some false)) else (some false)) = some r := H
  have A1 := zMk A10
  clear A10
  by_cases c2 : t175 = 0
  · rw [if_pos c2] at H
    have c2b0 : (t175 == 0) = true := beq_iff_eq.mpr c2
    have c2b1 : (t175 != 0) = false := bne_eq_false_iff_eq.mpr c2
    clear c2
    by_cases c3 : (t169.length : Int) = 3
    · rw [if_pos c3] at H
      have c3b0 : ((t169.length : Int) == 3) = true := beq_iff_eq.mpr c3
      have c3b1 : ((t169.length : Int) != 3) = false := bne_eq_false_iff_eq.mpr c3
      clear c3
      by_cases c4 : 1 < (t169.length : Int)
      rotate_left
      · rw [if_neg c4] at H; exact absurd H (by simp)
      rw [if_pos c4] at H
      have c4b0 : decide (1 < (t169.length : Int)) = true := decide_eq_true c4
      have c4b1 : decide (1 < t169.length) = true := decide_eq_true (by omega)
      clear c4
      by_cases c5 : (rd t169 1) = 3
      · rw [if_pos c5] at H
        have c5b0 : ((rd t169 1) == 3) = true := beq_iff_eq.mpr c5
        have c5b1 : ((rd t169 1) != 3) = false := bne_eq_false_iff_eq.mpr c5
        clear c5
        replace H := bnd H
        obtain ⟨t177, A60, H⟩ := H
        have A6 := zMk A60
        clear A60
        obtain ⟨y180, hy180⟩ : ∃ y_ : List Int, y_ = (([1, 2] : List Int)) := ⟨_, rfl⟩
        replace H : ((filigreeref04_Ints.f k t177 y180).bind fun t183 => (if t183 = true then ((paths_Check.f k 3 y165 0 t169 t172).bind fun t184 => (some (t184 == 0))) else (some false))) = some r := by first | (rw [hy180]; with_reducible exact H) | (have H2_ := bsm H; first | (rw [hy180]; with_reducible exact H2_) | with_reducible exact H2_) | with_reducible exact H | (rw [hy180]; exact H) | exact H
        have Ny180 := zMk hy180
        clear hy180
        replace H := bnd H
        obtain ⟨t183, A70, H⟩ := H
        have A7 := zMk A70
        clear A70
        by_cases c8 : t183 = true
        · subst c8
          replace H : ((paths_Check.f k 3 y165 0 t169 t172).bind fun t184 => (some (t184 == 0))) = some r := by rw [if_pos rfl] at H; exact H
          replace H := bnd H
          obtain ⟨t184, A90, H⟩ := H
          have A9 := zMk A90
          clear A90
          obtain rfl := zOi H
          go_enter Try.func9, Try.ntmps9
          go_wp2_with (first | ((with_reducible refine gate_dst (N := 8) rfl ?_); (try (refine gate_guard (by rfl) ?_; dsimp only)); refine Kd.R_lit k39 _ 39 ?hg (N := 8) ?hd (xs := ([(⟨0, 1, 5⟩ : S39), (⟨0, 2, 1⟩ : S39), (⟨2, 1, 2⟩ : S39)] : List (S39))) (inner := [.int .i64 0, .int .i64 1, .int .i64 5, .int .i64 0, .int .i64 2, .int .i64 1, .int .i64 2, .int .i64 1, .int .i64 2]) (ok := fun _ => True) (okp := fun _ => True) ?hr ?hp (fun _ hk => hk) trivial (Below.refl _ _) (Nat.le_refl _) (by simp) ?_; (case hd => rfl); (case hg => rfl); (case hr => first | (go_simp; done)|(go_simp; rfl)|(go_simp; rw [show ∀ x : Int, IntKind.u32.wrap (IntKind.u8.wrap x) = x % 256 from fun x => (by show (x % 256) % 4294967296 = x % 256; omega)])); (case hp => exact (Reps.c3 (show Kd.M k39 _ _ _ (⟨0, 1, 5⟩ : S39) [.int .i64 0, .int .i64 1, .int .i64 5] from (k39_mkM _ _ _ (⟨0, 1, 5⟩ : S39) )) (Reps.c3 (show Kd.M k39 _ _ _ (⟨0, 2, 1⟩ : S39) [.int .i64 0, .int .i64 2, .int .i64 1] from (k39_mkM _ _ _ (⟨0, 2, 1⟩ : S39) )) (Reps.c3 (show Kd.M k39 _ _ _ (⟨2, 1, 2⟩ : S39) [.int .i64 2, .int .i64 1, .int .i64 2] from (k39_mkM _ _ _ (⟨2, 1, 2⟩ : S39) )) (Reps.none _ _))))); intro v166 w10 ho11 hb hg_ hnew_; clear hg_ hnew_; (first |  rw [← Ny165.out] at ho11|  (simp only [Int.reduceToNat] at ho11; rw [← Ny165.out] at ho11)); have HO167 := zMk (zRl ho11 (zBs (by exact uT HB.out))); replace HB := zMk (zBt (by exact uT HB.out) hb); clear hb ho11; obtain ⟨Ao12, co12, eo12⟩ := zRs HO167.out; subst eo12)|((with_reducible refine gate_dst (N := 1) rfl ?_); (try (refine gate_guard (by rfl) ?_; dsimp only)); refine box_event ?hg (N := 1) ?hd (cs := #[.int .i64 0, .slice none 0 0]) (t := 24) ?hr ?_; (case hd => rfl); (case hg => rfl); (case hr => first | (go_simp; done)|(go_simp; rfl)|(go_simp; rw [show ∀ x : Int, IntKind.u32.wrap (IntKind.u8.wrap x) = x % 256 from fun x => (by show (x % 256) % 4294967296 = x % 256; omega)])); intro gb168 hg w13 hbox hb; replace HO167 := zMk (zRb (by exact uR HO167.out) hb); have BK168 := zMk (hbox); have GW168 := zMk ((by rw [hg]; exact (zBs (by exact uT HB.out)) : w.heap.size ≤ gb168)); have GE168 := zMk ((by rw [hg]; exact (zBs (by exact uT HB.out)) : w.heap.size ≤ gb168)); have IGE168 := ownGe GE168.out; replace HB := zMk (zBt (by exact uT HB.out) hb); clear hb hbox hg; have hcz14_0 : w13.cell? ⟨gb168, 0, none⟩ = some (.int .i64 0) := (zKc BK168.out 0).trans rfl; have hcz14_1 : w13.cell? ⟨gb168, 1, none⟩ = some (.slice none 0 0) := (zKc BK168.out 1).trans rfl; have hfz14_0 := zKf BK168.out 0; have hfz14_1 := zKf BK168.out 1)|((with_reducible refine gate_callee (f := 11) rfl ?_); refine goesL_ (some 12) rfl rfl Try.func11 (by kernel_rfl) rfl #[.agg #[.int .i64 3, .slice Ao12 y165.length co12], .int .i64 0] rfl (by (try simp only [zMa, zMc, zMn]); first |  done|  rfl|  (simp only [zLd, zLt]; rfl)) ?_; (with_reducible refine (paths_From.calls k 3 _ _ y165 0 t169 t172 t175 _ ?side1 ?side2 A1.out).mono ?_); (case side1 => refine (zRr (e := 39) (base := w.heap.size) (ok := fun k_ => True) (n := y165.length) (c := co12) ?_).2.2; exact (by (with_reducible repeat (first |  apply zRa|  apply zRn|  apply zRd)); exact (zRm (Kd.R_far (p := ⟨gb168, 1, none⟩) (Kd.R_far (p := ⟨gb168, 0, none⟩) (Kd.R_types HO167.out BK168.out (by decide)) (fun _ hk => hk.2) (.int .i64 3)) (fun _ hk => hk.2) (.slice Ao12 y165.length co12)) (fun _ h_ => h_.1)))); (case side2 => exact (zRr HO167.out).2.1); rintro e w15 ⟨v170, v173, rfl, ho0, ho1, hb⟩; refine ⟨_, rfl, ?_⟩; replace HO167 := zMk (zRb (by (with_reducible repeat (first |  apply zRa|  apply zRn|  apply zRd)); exact (zRm (Kd.R_far (p := ⟨gb168, 1, none⟩) (Kd.R_far (p := ⟨gb168, 0, none⟩) (Kd.R_types HO167.out BK168.out (by decide)) (fun _ hk => hk.2) (.int .i64 3)) (fun _ hk => hk.2) (.slice Ao12 y165.length co12)) (fun _ h_ => h_.1))) hb); have HO171 := zMk (zRl ho0 (zBs (by exact uT HB.out))); have HO174 := zMk (zRl ho1 (zBs (by exact uT HB.out))); replace BK168 := zMk (zKb (g := gb168) (o := .cells #[.int .i64 3, .slice Ao12 y165.length co12] 24 (0, 0)) (by (with_reducible repeat (first |  refine zKn ?_ _|  refine zKd ?_|  refine zKa ?_ _)); refine blk_put (cs := #[.int .i64 3, .slice none 0 0]) ?_ 1 _ rfl; (with_reducible repeat (first |  refine zKn ?_ _|  refine zKd ?_|  refine zKa ?_ _)); refine blk_put (cs := #[.int .i64 0, .slice none 0 0]) ?_ 0 _ rfl; (with_reducible repeat (first |  refine zKn ?_ _|  refine zKd ?_|  refine zKa ?_ _)); exact BK168.out) hb); replace HB := zMk (zBt (by exact uT HB.out) hb); obtain ⟨Ao16, co16, eo16⟩ := zRs HO171.out; subst eo16; have p176 : 0 ≤ (1 : Int) := (by omega); have q176 : 1 < (t169.length : Int) := of_decide_eq_true (by first | (with_reducible assumption)|  assumption); obtain ⟨ad176, e176, hx176_0⟩ := zAi (zRr HO171.out).2.2 1 p176 q176; cases e176; (try simp only [show (1 : Int).toNat = 1 from rfl, Nat.reduceMul, Nat.reduceEqDiff, Go.Addr.add, ↓reduceIte] at hx176_0); have qi176 : (1 < t169.length) = True := eq_true (by omega); (try rw [show ((1 : Int)).toNat = 1 from rfl] at hx176_0); replace p176 := eq_true p176; replace q176 := eq_true q176; have hcz17_0 : w15.cell? ⟨gb168, 0, none⟩ = some (.int .i64 3) := (zKc BK168.out 0).trans rfl; have hcz17_1 : w15.cell? ⟨gb168, 1, none⟩ = some (.slice Ao12 y165.length co12) := (zKc BK168.out 1).trans rfl; have hfz17_0 := zKf BK168.out 0; have hfz17_1 := zKf BK168.out 1; obtain ⟨Ao18, co18, eo18⟩ := zRs HO174.out; subst eo18)|(go_at_call 16; (with_reducible refine (paths_Way.calls k 3 _ _ y165 _ _ t172 1 t177 _ ?side1 ?side2 ?side3 ?side4 A6.out).mono ?_); (case side1 => exact uC (zRr HO167.out).2.2); (case side2 => exact (zRr HO167.out).2.1); (case side3 => exact uC (zRr HO174.out).2.2); (case side4 => exact (zRr HO174.out).2.1); rintro e w19 ⟨v178, rfl, ho0, hb⟩; replace HO167 := zMk (zRb (by exact uR HO167.out) hb); replace HO171 := zMk (zRb (by exact uR HO171.out) hb); have HO179 := zMk (zRl (zRw ho0 (zRt (by exact uR HO174.out))) (zBs (by exact uT HB.out))); replace HO174 := zMk (zRe (by exact uR HO174.out) (zRz ho0) hb); replace BK168 := zMk (zKb (g := gb168) (o := .cells #[.int .i64 3, .slice Ao12 y165.length co12] 24 (0, 0)) (by (with_reducible repeat (first |  refine zKn ?_ _|  refine zKd ?_|  refine zKa ?_ _)); exact BK168.out) hb); replace HB := zMk (zBt (by exact uT HB.out) hb))|((with_reducible refine gate_dst (N := 33) rfl ?_); (try (refine gate_guard (by rfl) ?_; dsimp only)); refine Kd.R_lit (Kd.int .i64) _ 3 ?hg (N := 33) ?hd (xs := ([1, 2] : List Int)) (inner := [.int .i64 1, .int .i64 2]) (ok := fun _ => True) (okp := fun _ => True) ?hr ?hp (fun _ hk => hk) trivial (Below.refl _ _) (Nat.le_refl _) (by simp) ?_; (case hd => rfl); (case hg => rfl); (case hr => first | (go_simp; done)|(go_simp; rfl)|(go_simp; rw [show ∀ x : Int, IntKind.u32.wrap (IntKind.u8.wrap x) = x % 256 from fun x => (by show (x % 256) % 4294967296 = x % 256; omega)])); (case hp => exact (Reps.one (show Kd.M (Kd.int .i64) _ _ _ 1 [.int .i64 1] from rfl) (Reps.one (show Kd.M (Kd.int .i64) _ _ _ 2 [.int .i64 2] from rfl) (Reps.none _ _)))); intro v181 w20 ho21 hb hg_ hnew_; clear hg_ hnew_; (first |  rw [← Ny180.out] at ho21|  (simp only [Int.reduceToNat] at ho21; rw [← Ny180.out] at ho21)); replace HO167 := zMk (zRb (by exact uR HO167.out) hb); replace HO171 := zMk (zRb (by exact uR HO171.out) hb); have HO182 := zMk (zRl (zRw (zRw ho21 (zRt (by exact uR HO174.out))) (zRt (by exact uR HO179.out))) (zBs (by exact uT HB.out))); replace HO174 := zMk (zRe (by exact uR HO174.out) (zRz ho21) hb); replace HO179 := zMk (zRe (by exact uR HO179.out) (zRz ho21) hb); replace BK168 := zMk (zKb (g := gb168) (o := .cells #[.int .i64 3, .slice Ao12 y165.length co12] 24 (0, 0)) (by (with_reducible repeat (first |  refine zKn ?_ _|  refine zKd ?_|  refine zKa ?_ _)); exact BK168.out) hb); replace HB := zMk (zBt (by exact uT HB.out) hb); clear hb ho21; obtain ⟨Ao22, co22, eo22⟩ := zRs HO179.out; subst eo22; obtain ⟨Ao23, co23, eo23⟩ := zRs HO182.out; subst eo23)|(go_at_call 17; (with_reducible refine (filigreeref04_Ints.calls k _ _ t177 _ _ y180 true _ ?side1 ?side2 ?side3 ?side4 A7.out).mono ?_); (case side1 => exact uC (zRr HO179.out).2.2); (case side2 => exact (zRr HO179.out).2.1); (case side3 => exact uC (zRr HO182.out).2.2); (case side4 => exact (zRr HO182.out).2.1); rintro e w' ⟨rfl, ⟨nd, rfl⟩⟩; have hcz24_0 : w20.cell? ⟨gb168, 0, none⟩ = some (.int .i64 3) := (zKc BK168.out 0).trans rfl; have hcz24_1 : w20.cell? ⟨gb168, 1, none⟩ = some (.slice Ao12 y165.length co12) := (zKc BK168.out 1).trans rfl; have hfz24_0 := zKf BK168.out 0; have hfz24_1 := zKf BK168.out 1)|(go_at_call 15; (with_reducible refine (paths_Check.calls k 3 _ _ y165 0 _ _ t169 _ _ t172 t184 _ ?side1 ?side2 ?side3 ?side4 ?side5 ?side6 A9.out).mono ?_); (case side1 => exact uC (zRr HO167.out).2.2); (case side2 => exact (zRr HO167.out).2.1); (case side3 => exact uC (zRr HO171.out).2.2); (case side4 => exact (zRr HO171.out).2.1); (case side5 => exact uC (zRr HO174.out).2.2); (case side6 => exact (zRr HO174.out).2.1); rintro e w25 ⟨rfl, hb⟩; replace HO167 := zMk (zRb (by exact uR HO167.out) hb); replace HO171 := zMk (zRb (by exact uR HO171.out) hb); replace HO174 := zMk (zRb (by exact uR HO174.out) hb); replace HO179 := zMk (zRb (by exact uR HO179.out) hb); replace HO182 := zMk (zRb (by exact uR HO182.out) hb); replace BK168 := zMk (zKb (g := gb168) (o := .cells #[.int .i64 3, .slice Ao12 y165.length co12] 24 (0, 0)) (by (with_reducible repeat (first |  refine zKn ?_ _|  refine zKd ?_|  refine zKa ?_ _)); exact BK168.out) hb); replace HB := zMk (zBt (by exact uT HB.out) hb)))
          go_ret
          exact ⟨by first | rfl | (simp [errW_none, errW_some] <;> rfl) | (simp [*, errW_none, errW_some] <;> rfl), by exact uT HB.out⟩
        · replace c8 := Bool.eq_false_iff.mpr c8
          subst c8
          replace H : (some false) = some r := by rw [if_neg (show ¬ (false = true) by decide)] at H; exact H
          obtain rfl := zOi H
          go_enter Try.func9, Try.ntmps9
          go_wp2_with (first | ((with_reducible refine gate_dst (N := 8) rfl ?_); (try (refine gate_guard (by rfl) ?_; dsimp only)); refine Kd.R_lit k39 _ 39 ?hg (N := 8) ?hd (xs := ([(⟨0, 1, 5⟩ : S39), (⟨0, 2, 1⟩ : S39), (⟨2, 1, 2⟩ : S39)] : List (S39))) (inner := [.int .i64 0, .int .i64 1, .int .i64 5, .int .i64 0, .int .i64 2, .int .i64 1, .int .i64 2, .int .i64 1, .int .i64 2]) (ok := fun _ => True) (okp := fun _ => True) ?hr ?hp (fun _ hk => hk) trivial (Below.refl _ _) (Nat.le_refl _) (by simp) ?_; (case hd => rfl); (case hg => rfl); (case hr => first | (go_simp; done)|(go_simp; rfl)|(go_simp; rw [show ∀ x : Int, IntKind.u32.wrap (IntKind.u8.wrap x) = x % 256 from fun x => (by show (x % 256) % 4294967296 = x % 256; omega)])); (case hp => exact (Reps.c3 (show Kd.M k39 _ _ _ (⟨0, 1, 5⟩ : S39) [.int .i64 0, .int .i64 1, .int .i64 5] from (k39_mkM _ _ _ (⟨0, 1, 5⟩ : S39) )) (Reps.c3 (show Kd.M k39 _ _ _ (⟨0, 2, 1⟩ : S39) [.int .i64 0, .int .i64 2, .int .i64 1] from (k39_mkM _ _ _ (⟨0, 2, 1⟩ : S39) )) (Reps.c3 (show Kd.M k39 _ _ _ (⟨2, 1, 2⟩ : S39) [.int .i64 2, .int .i64 1, .int .i64 2] from (k39_mkM _ _ _ (⟨2, 1, 2⟩ : S39) )) (Reps.none _ _))))); intro v166 w26 ho27 hb hg_ hnew_; clear hg_ hnew_; (first |  rw [← Ny165.out] at ho27|  (simp only [Int.reduceToNat] at ho27; rw [← Ny165.out] at ho27)); have HO167 := zMk (zRl ho27 (zBs (by exact uT HB.out))); replace HB := zMk (zBt (by exact uT HB.out) hb); clear hb ho27; obtain ⟨Ao28, co28, eo28⟩ := zRs HO167.out; subst eo28)|((with_reducible refine gate_dst (N := 1) rfl ?_); (try (refine gate_guard (by rfl) ?_; dsimp only)); refine box_event ?hg (N := 1) ?hd (cs := #[.int .i64 0, .slice none 0 0]) (t := 24) ?hr ?_; (case hd => rfl); (case hg => rfl); (case hr => first | (go_simp; done)|(go_simp; rfl)|(go_simp; rw [show ∀ x : Int, IntKind.u32.wrap (IntKind.u8.wrap x) = x % 256 from fun x => (by show (x % 256) % 4294967296 = x % 256; omega)])); intro gb168 hg w29 hbox hb; replace HO167 := zMk (zRb (by exact uR HO167.out) hb); have BK168 := zMk (hbox); have GW168 := zMk ((by rw [hg]; exact (zBs (by exact uT HB.out)) : w.heap.size ≤ gb168)); have GE168 := zMk ((by rw [hg]; exact (zBs (by exact uT HB.out)) : w.heap.size ≤ gb168)); have IGE168 := ownGe GE168.out; replace HB := zMk (zBt (by exact uT HB.out) hb); clear hb hbox hg; have hcz30_0 : w29.cell? ⟨gb168, 0, none⟩ = some (.int .i64 0) := (zKc BK168.out 0).trans rfl; have hcz30_1 : w29.cell? ⟨gb168, 1, none⟩ = some (.slice none 0 0) := (zKc BK168.out 1).trans rfl; have hfz30_0 := zKf BK168.out 0; have hfz30_1 := zKf BK168.out 1)|((with_reducible refine gate_callee (f := 11) rfl ?_); refine goesL_ (some 12) rfl rfl Try.func11 (by kernel_rfl) rfl #[.agg #[.int .i64 3, .slice Ao28 y165.length co28], .int .i64 0] rfl (by (try simp only [zMa, zMc, zMn]); first |  done|  rfl|  (simp only [zLd, zLt]; rfl)) ?_; (with_reducible refine (paths_From.calls k 3 _ _ y165 0 t169 t172 t175 _ ?side1 ?side2 A1.out).mono ?_); (case side1 => refine (zRr (e := 39) (base := w.heap.size) (ok := fun k_ => True) (n := y165.length) (c := co28) ?_).2.2; exact (by (with_reducible repeat (first |  apply zRa|  apply zRn|  apply zRd)); exact (zRm (Kd.R_far (p := ⟨gb168, 1, none⟩) (Kd.R_far (p := ⟨gb168, 0, none⟩) (Kd.R_types HO167.out BK168.out (by decide)) (fun _ hk => hk.2) (.int .i64 3)) (fun _ hk => hk.2) (.slice Ao28 y165.length co28)) (fun _ h_ => h_.1)))); (case side2 => exact (zRr HO167.out).2.1); rintro e w31 ⟨v170, v173, rfl, ho0, ho1, hb⟩; refine ⟨_, rfl, ?_⟩; replace HO167 := zMk (zRb (by (with_reducible repeat (first |  apply zRa|  apply zRn|  apply zRd)); exact (zRm (Kd.R_far (p := ⟨gb168, 1, none⟩) (Kd.R_far (p := ⟨gb168, 0, none⟩) (Kd.R_types HO167.out BK168.out (by decide)) (fun _ hk => hk.2) (.int .i64 3)) (fun _ hk => hk.2) (.slice Ao28 y165.length co28)) (fun _ h_ => h_.1))) hb); have HO171 := zMk (zRl ho0 (zBs (by exact uT HB.out))); have HO174 := zMk (zRl ho1 (zBs (by exact uT HB.out))); replace BK168 := zMk (zKb (g := gb168) (o := .cells #[.int .i64 3, .slice Ao28 y165.length co28] 24 (0, 0)) (by (with_reducible repeat (first |  refine zKn ?_ _|  refine zKd ?_|  refine zKa ?_ _)); refine blk_put (cs := #[.int .i64 3, .slice none 0 0]) ?_ 1 _ rfl; (with_reducible repeat (first |  refine zKn ?_ _|  refine zKd ?_|  refine zKa ?_ _)); refine blk_put (cs := #[.int .i64 0, .slice none 0 0]) ?_ 0 _ rfl; (with_reducible repeat (first |  refine zKn ?_ _|  refine zKd ?_|  refine zKa ?_ _)); exact BK168.out) hb); replace HB := zMk (zBt (by exact uT HB.out) hb); obtain ⟨Ao32, co32, eo32⟩ := zRs HO171.out; subst eo32; have p176 : 0 ≤ (1 : Int) := (by omega); have q176 : 1 < (t169.length : Int) := of_decide_eq_true (by first | (with_reducible assumption)|  assumption); obtain ⟨ad176, e176, hx176_0⟩ := zAi (zRr HO171.out).2.2 1 p176 q176; cases e176; (try simp only [show (1 : Int).toNat = 1 from rfl, Nat.reduceMul, Nat.reduceEqDiff, Go.Addr.add, ↓reduceIte] at hx176_0); have qi176 : (1 < t169.length) = True := eq_true (by omega); (try rw [show ((1 : Int)).toNat = 1 from rfl] at hx176_0); replace p176 := eq_true p176; replace q176 := eq_true q176; have hcz33_0 : w31.cell? ⟨gb168, 0, none⟩ = some (.int .i64 3) := (zKc BK168.out 0).trans rfl; have hcz33_1 : w31.cell? ⟨gb168, 1, none⟩ = some (.slice Ao28 y165.length co28) := (zKc BK168.out 1).trans rfl; have hfz33_0 := zKf BK168.out 0; have hfz33_1 := zKf BK168.out 1; obtain ⟨Ao34, co34, eo34⟩ := zRs HO174.out; subst eo34)|(go_at_call 16; (with_reducible refine (paths_Way.calls k 3 _ _ y165 _ _ t172 1 t177 _ ?side1 ?side2 ?side3 ?side4 A6.out).mono ?_); (case side1 => exact uC (zRr HO167.out).2.2); (case side2 => exact (zRr HO167.out).2.1); (case side3 => exact uC (zRr HO174.out).2.2); (case side4 => exact (zRr HO174.out).2.1); rintro e w35 ⟨v178, rfl, ho0, hb⟩; replace HO167 := zMk (zRb (by exact uR HO167.out) hb); replace HO171 := zMk (zRb (by exact uR HO171.out) hb); have HO179 := zMk (zRl (zRw ho0 (zRt (by exact uR HO174.out))) (zBs (by exact uT HB.out))); replace HO174 := zMk (zRe (by exact uR HO174.out) (zRz ho0) hb); replace BK168 := zMk (zKb (g := gb168) (o := .cells #[.int .i64 3, .slice Ao28 y165.length co28] 24 (0, 0)) (by (with_reducible repeat (first |  refine zKn ?_ _|  refine zKd ?_|  refine zKa ?_ _)); exact BK168.out) hb); replace HB := zMk (zBt (by exact uT HB.out) hb))|((with_reducible refine gate_dst (N := 33) rfl ?_); (try (refine gate_guard (by rfl) ?_; dsimp only)); refine Kd.R_lit (Kd.int .i64) _ 3 ?hg (N := 33) ?hd (xs := ([1, 2] : List Int)) (inner := [.int .i64 1, .int .i64 2]) (ok := fun _ => True) (okp := fun _ => True) ?hr ?hp (fun _ hk => hk) trivial (Below.refl _ _) (Nat.le_refl _) (by simp) ?_; (case hd => rfl); (case hg => rfl); (case hr => first | (go_simp; done)|(go_simp; rfl)|(go_simp; rw [show ∀ x : Int, IntKind.u32.wrap (IntKind.u8.wrap x) = x % 256 from fun x => (by show (x % 256) % 4294967296 = x % 256; omega)])); (case hp => exact (Reps.one (show Kd.M (Kd.int .i64) _ _ _ 1 [.int .i64 1] from rfl) (Reps.one (show Kd.M (Kd.int .i64) _ _ _ 2 [.int .i64 2] from rfl) (Reps.none _ _)))); intro v181 w36 ho37 hb hg_ hnew_; clear hg_ hnew_; (first |  rw [← Ny180.out] at ho37|  (simp only [Int.reduceToNat] at ho37; rw [← Ny180.out] at ho37)); replace HO167 := zMk (zRb (by exact uR HO167.out) hb); replace HO171 := zMk (zRb (by exact uR HO171.out) hb); have HO182 := zMk (zRl (zRw (zRw ho37 (zRt (by exact uR HO174.out))) (zRt (by exact uR HO179.out))) (zBs (by exact uT HB.out))); replace HO174 := zMk (zRe (by exact uR HO174.out) (zRz ho37) hb); replace HO179 := zMk (zRe (by exact uR HO179.out) (zRz ho37) hb); replace BK168 := zMk (zKb (g := gb168) (o := .cells #[.int .i64 3, .slice Ao28 y165.length co28] 24 (0, 0)) (by (with_reducible repeat (first |  refine zKn ?_ _|  refine zKd ?_|  refine zKa ?_ _)); exact BK168.out) hb); replace HB := zMk (zBt (by exact uT HB.out) hb); clear hb ho37; obtain ⟨Ao38, co38, eo38⟩ := zRs HO179.out; subst eo38; obtain ⟨Ao39, co39, eo39⟩ := zRs HO182.out; subst eo39)|(go_at_call 17; (with_reducible refine (filigreeref04_Ints.calls k _ _ t177 _ _ y180 false _ ?side1 ?side2 ?side3 ?side4 A7.out).mono ?_); (case side1 => exact uC (zRr HO179.out).2.2); (case side2 => exact (zRr HO179.out).2.1); (case side3 => exact uC (zRr HO182.out).2.2); (case side4 => exact (zRr HO182.out).2.1); rintro e w' ⟨rfl, ⟨nd, rfl⟩⟩))
          go_ret
          exact ⟨by first | rfl | (simp [errW_none, errW_some] <;> rfl) | (simp [*, errW_none, errW_some] <;> rfl), by exact uT HB.out⟩
      · rw [if_neg c5] at H
        have c5b0 : ((rd t169 1) == 3) = false := beq_eq_false_iff_ne.mpr c5
        have c5b1 : ((rd t169 1) != 3) = true := bne_iff_ne.mpr c5
        obtain rfl := zOi H
        go_enter Try.func9, Try.ntmps9
        go_wp2_with (first | ((with_reducible refine gate_dst (N := 8) rfl ?_); (try (refine gate_guard (by rfl) ?_; dsimp only)); refine Kd.R_lit k39 _ 39 ?hg (N := 8) ?hd (xs := ([(⟨0, 1, 5⟩ : S39), (⟨0, 2, 1⟩ : S39), (⟨2, 1, 2⟩ : S39)] : List (S39))) (inner := [.int .i64 0, .int .i64 1, .int .i64 5, .int .i64 0, .int .i64 2, .int .i64 1, .int .i64 2, .int .i64 1, .int .i64 2]) (ok := fun _ => True) (okp := fun _ => True) ?hr ?hp (fun _ hk => hk) trivial (Below.refl _ _) (Nat.le_refl _) (by simp) ?_; (case hd => rfl); (case hg => rfl); (case hr => first | (go_simp; done)|(go_simp; rfl)|(go_simp; rw [show ∀ x : Int, IntKind.u32.wrap (IntKind.u8.wrap x) = x % 256 from fun x => (by show (x % 256) % 4294967296 = x % 256; omega)])); (case hp => exact (Reps.c3 (show Kd.M k39 _ _ _ (⟨0, 1, 5⟩ : S39) [.int .i64 0, .int .i64 1, .int .i64 5] from (k39_mkM _ _ _ (⟨0, 1, 5⟩ : S39) )) (Reps.c3 (show Kd.M k39 _ _ _ (⟨0, 2, 1⟩ : S39) [.int .i64 0, .int .i64 2, .int .i64 1] from (k39_mkM _ _ _ (⟨0, 2, 1⟩ : S39) )) (Reps.c3 (show Kd.M k39 _ _ _ (⟨2, 1, 2⟩ : S39) [.int .i64 2, .int .i64 1, .int .i64 2] from (k39_mkM _ _ _ (⟨2, 1, 2⟩ : S39) )) (Reps.none _ _))))); intro v166 w40 ho41 hb hg_ hnew_; clear hg_ hnew_; (first |  rw [← Ny165.out] at ho41|  (simp only [Int.reduceToNat] at ho41; rw [← Ny165.out] at ho41)); have HO167 := zMk (zRl ho41 (zBs (by exact uT HB.out))); replace HB := zMk (zBt (by exact uT HB.out) hb); clear hb ho41; obtain ⟨Ao42, co42, eo42⟩ := zRs HO167.out; subst eo42)|((with_reducible refine gate_dst (N := 1) rfl ?_); (try (refine gate_guard (by rfl) ?_; dsimp only)); refine box_event ?hg (N := 1) ?hd (cs := #[.int .i64 0, .slice none 0 0]) (t := 24) ?hr ?_; (case hd => rfl); (case hg => rfl); (case hr => first | (go_simp; done)|(go_simp; rfl)|(go_simp; rw [show ∀ x : Int, IntKind.u32.wrap (IntKind.u8.wrap x) = x % 256 from fun x => (by show (x % 256) % 4294967296 = x % 256; omega)])); intro gb168 hg w43 hbox hb; replace HO167 := zMk (zRb (by exact uR HO167.out) hb); have BK168 := zMk (hbox); have GW168 := zMk ((by rw [hg]; exact (zBs (by exact uT HB.out)) : w.heap.size ≤ gb168)); have GE168 := zMk ((by rw [hg]; exact (zBs (by exact uT HB.out)) : w.heap.size ≤ gb168)); have IGE168 := ownGe GE168.out; replace HB := zMk (zBt (by exact uT HB.out) hb); clear hb hbox hg; have hcz44_0 : w43.cell? ⟨gb168, 0, none⟩ = some (.int .i64 0) := (zKc BK168.out 0).trans rfl; have hcz44_1 : w43.cell? ⟨gb168, 1, none⟩ = some (.slice none 0 0) := (zKc BK168.out 1).trans rfl; have hfz44_0 := zKf BK168.out 0; have hfz44_1 := zKf BK168.out 1)|((with_reducible refine gate_callee (f := 11) rfl ?_); refine goesL_ (some 12) rfl rfl Try.func11 (by kernel_rfl) rfl #[.agg #[.int .i64 3, .slice Ao42 y165.length co42], .int .i64 0] rfl (by (try simp only [zMa, zMc, zMn]); first |  done|  rfl|  (simp only [zLd, zLt]; rfl)) ?_; (with_reducible refine (paths_From.calls k 3 _ _ y165 0 t169 t172 t175 _ ?side1 ?side2 A1.out).mono ?_); (case side1 => refine (zRr (e := 39) (base := w.heap.size) (ok := fun k_ => True) (n := y165.length) (c := co42) ?_).2.2; exact (by (with_reducible repeat (first |  apply zRa|  apply zRn|  apply zRd)); exact (zRm (Kd.R_far (p := ⟨gb168, 1, none⟩) (Kd.R_far (p := ⟨gb168, 0, none⟩) (Kd.R_types HO167.out BK168.out (by decide)) (fun _ hk => hk.2) (.int .i64 3)) (fun _ hk => hk.2) (.slice Ao42 y165.length co42)) (fun _ h_ => h_.1)))); (case side2 => exact (zRr HO167.out).2.1); rintro e w45 ⟨v170, v173, rfl, ho0, ho1, hb⟩; refine ⟨_, rfl, ?_⟩; replace HO167 := zMk (zRb (by (with_reducible repeat (first |  apply zRa|  apply zRn|  apply zRd)); exact (zRm (Kd.R_far (p := ⟨gb168, 1, none⟩) (Kd.R_far (p := ⟨gb168, 0, none⟩) (Kd.R_types HO167.out BK168.out (by decide)) (fun _ hk => hk.2) (.int .i64 3)) (fun _ hk => hk.2) (.slice Ao42 y165.length co42)) (fun _ h_ => h_.1))) hb); have HO171 := zMk (zRl ho0 (zBs (by exact uT HB.out))); have HO174 := zMk (zRl ho1 (zBs (by exact uT HB.out))); replace BK168 := zMk (zKb (g := gb168) (o := .cells #[.int .i64 3, .slice Ao42 y165.length co42] 24 (0, 0)) (by (with_reducible repeat (first |  refine zKn ?_ _|  refine zKd ?_|  refine zKa ?_ _)); refine blk_put (cs := #[.int .i64 3, .slice none 0 0]) ?_ 1 _ rfl; (with_reducible repeat (first |  refine zKn ?_ _|  refine zKd ?_|  refine zKa ?_ _)); refine blk_put (cs := #[.int .i64 0, .slice none 0 0]) ?_ 0 _ rfl; (with_reducible repeat (first |  refine zKn ?_ _|  refine zKd ?_|  refine zKa ?_ _)); exact BK168.out) hb); replace HB := zMk (zBt (by exact uT HB.out) hb); obtain ⟨Ao46, co46, eo46⟩ := zRs HO171.out; subst eo46; have p176 : 0 ≤ (1 : Int) := (by omega); have q176 : 1 < (t169.length : Int) := of_decide_eq_true (by first | (with_reducible assumption)|  assumption); obtain ⟨ad176, e176, hx176_0⟩ := zAi (zRr HO171.out).2.2 1 p176 q176; cases e176; (try simp only [show (1 : Int).toNat = 1 from rfl, Nat.reduceMul, Nat.reduceEqDiff, Go.Addr.add, ↓reduceIte] at hx176_0); have qi176 : (1 < t169.length) = True := eq_true (by omega); (try rw [show ((1 : Int)).toNat = 1 from rfl] at hx176_0); replace p176 := eq_true p176; replace q176 := eq_true q176))
        go_ret
        exact ⟨by first | rfl | (simp [errW_none, errW_some] <;> rfl) | (simp [*, errW_none, errW_some] <;> rfl), by exact uT HB.out⟩
    · rw [if_neg c3] at H
      have c3b0 : ((t169.length : Int) == 3) = false := beq_eq_false_iff_ne.mpr c3
      have c3b1 : ((t169.length : Int) != 3) = true := bne_iff_ne.mpr c3
      obtain rfl := zOi H
      go_enter Try.func9, Try.ntmps9
      go_wp2_with (first | ((with_reducible refine gate_dst (N := 8) rfl ?_); (try (refine gate_guard (by rfl) ?_; dsimp only)); refine Kd.R_lit k39 _ 39 ?hg (N := 8) ?hd (xs := ([(⟨0, 1, 5⟩ : S39), (⟨0, 2, 1⟩ : S39), (⟨2, 1, 2⟩ : S39)] : List (S39))) (inner := [.int .i64 0, .int .i64 1, .int .i64 5, .int .i64 0, .int .i64 2, .int .i64 1, .int .i64 2, .int .i64 1, .int .i64 2]) (ok := fun _ => True) (okp := fun _ => True) ?hr ?hp (fun _ hk => hk) trivial (Below.refl _ _) (Nat.le_refl _) (by simp) ?_; (case hd => rfl); (case hg => rfl); (case hr => first | (go_simp; done)|(go_simp; rfl)|(go_simp; rw [show ∀ x : Int, IntKind.u32.wrap (IntKind.u8.wrap x) = x % 256 from fun x => (by show (x % 256) % 4294967296 = x % 256; omega)])); (case hp => exact (Reps.c3 (show Kd.M k39 _ _ _ (⟨0, 1, 5⟩ : S39) [.int .i64 0, .int .i64 1, .int .i64 5] from (k39_mkM _ _ _ (⟨0, 1, 5⟩ : S39) )) (Reps.c3 (show Kd.M k39 _ _ _ (⟨0, 2, 1⟩ : S39) [.int .i64 0, .int .i64 2, .int .i64 1] from (k39_mkM _ _ _ (⟨0, 2, 1⟩ : S39) )) (Reps.c3 (show Kd.M k39 _ _ _ (⟨2, 1, 2⟩ : S39) [.int .i64 2, .int .i64 1, .int .i64 2] from (k39_mkM _ _ _ (⟨2, 1, 2⟩ : S39) )) (Reps.none _ _))))); intro v166 w47 ho48 hb hg_ hnew_; clear hg_ hnew_; (first |  rw [← Ny165.out] at ho48|  (simp only [Int.reduceToNat] at ho48; rw [← Ny165.out] at ho48)); have HO167 := zMk (zRl ho48 (zBs (by exact uT HB.out))); replace HB := zMk (zBt (by exact uT HB.out) hb); clear hb ho48; obtain ⟨Ao49, co49, eo49⟩ := zRs HO167.out; subst eo49)|((with_reducible refine gate_dst (N := 1) rfl ?_); (try (refine gate_guard (by rfl) ?_; dsimp only)); refine box_event ?hg (N := 1) ?hd (cs := #[.int .i64 0, .slice none 0 0]) (t := 24) ?hr ?_; (case hd => rfl); (case hg => rfl); (case hr => first | (go_simp; done)|(go_simp; rfl)|(go_simp; rw [show ∀ x : Int, IntKind.u32.wrap (IntKind.u8.wrap x) = x % 256 from fun x => (by show (x % 256) % 4294967296 = x % 256; omega)])); intro gb168 hg w50 hbox hb; replace HO167 := zMk (zRb (by exact uR HO167.out) hb); have BK168 := zMk (hbox); have GW168 := zMk ((by rw [hg]; exact (zBs (by exact uT HB.out)) : w.heap.size ≤ gb168)); have GE168 := zMk ((by rw [hg]; exact (zBs (by exact uT HB.out)) : w.heap.size ≤ gb168)); have IGE168 := ownGe GE168.out; replace HB := zMk (zBt (by exact uT HB.out) hb); clear hb hbox hg; have hcz51_0 : w50.cell? ⟨gb168, 0, none⟩ = some (.int .i64 0) := (zKc BK168.out 0).trans rfl; have hcz51_1 : w50.cell? ⟨gb168, 1, none⟩ = some (.slice none 0 0) := (zKc BK168.out 1).trans rfl; have hfz51_0 := zKf BK168.out 0; have hfz51_1 := zKf BK168.out 1)|((with_reducible refine gate_callee (f := 11) rfl ?_); refine goesL_ (some 12) rfl rfl Try.func11 (by kernel_rfl) rfl #[.agg #[.int .i64 3, .slice Ao49 y165.length co49], .int .i64 0] rfl (by (try simp only [zMa, zMc, zMn]); first |  done|  rfl|  (simp only [zLd, zLt]; rfl)) ?_; (with_reducible refine (paths_From.calls k 3 _ _ y165 0 t169 t172 t175 _ ?side1 ?side2 A1.out).mono ?_); (case side1 => refine (zRr (e := 39) (base := w.heap.size) (ok := fun k_ => True) (n := y165.length) (c := co49) ?_).2.2; exact (by (with_reducible repeat (first |  apply zRa|  apply zRn|  apply zRd)); exact (zRm (Kd.R_far (p := ⟨gb168, 1, none⟩) (Kd.R_far (p := ⟨gb168, 0, none⟩) (Kd.R_types HO167.out BK168.out (by decide)) (fun _ hk => hk.2) (.int .i64 3)) (fun _ hk => hk.2) (.slice Ao49 y165.length co49)) (fun _ h_ => h_.1)))); (case side2 => exact (zRr HO167.out).2.1); rintro e w52 ⟨v170, v173, rfl, ho0, ho1, hb⟩; refine ⟨_, rfl, ?_⟩; replace HO167 := zMk (zRb (by (with_reducible repeat (first |  apply zRa|  apply zRn|  apply zRd)); exact (zRm (Kd.R_far (p := ⟨gb168, 1, none⟩) (Kd.R_far (p := ⟨gb168, 0, none⟩) (Kd.R_types HO167.out BK168.out (by decide)) (fun _ hk => hk.2) (.int .i64 3)) (fun _ hk => hk.2) (.slice Ao49 y165.length co49)) (fun _ h_ => h_.1))) hb); have HO171 := zMk (zRl ho0 (zBs (by exact uT HB.out))); have HO174 := zMk (zRl ho1 (zBs (by exact uT HB.out))); replace BK168 := zMk (zKb (g := gb168) (o := .cells #[.int .i64 3, .slice Ao49 y165.length co49] 24 (0, 0)) (by (with_reducible repeat (first |  refine zKn ?_ _|  refine zKd ?_|  refine zKa ?_ _)); refine blk_put (cs := #[.int .i64 3, .slice none 0 0]) ?_ 1 _ rfl; (with_reducible repeat (first |  refine zKn ?_ _|  refine zKd ?_|  refine zKa ?_ _)); refine blk_put (cs := #[.int .i64 0, .slice none 0 0]) ?_ 0 _ rfl; (with_reducible repeat (first |  refine zKn ?_ _|  refine zKd ?_|  refine zKa ?_ _)); exact BK168.out) hb); replace HB := zMk (zBt (by exact uT HB.out) hb); obtain ⟨Ao53, co53, eo53⟩ := zRs HO171.out; subst eo53))
      go_ret
      exact ⟨by first | rfl | (simp [errW_none, errW_some] <;> rfl) | (simp [*, errW_none, errW_some] <;> rfl), by exact uT HB.out⟩
  · rw [if_neg c2] at H
    have c2b0 : (t175 == 0) = false := beq_eq_false_iff_ne.mpr c2
    have c2b1 : (t175 != 0) = true := bne_iff_ne.mpr c2
    obtain rfl := zOi H
    go_enter Try.func9, Try.ntmps9
    go_wp2_with (first | ((with_reducible refine gate_dst (N := 8) rfl ?_); (try (refine gate_guard (by rfl) ?_; dsimp only)); refine Kd.R_lit k39 _ 39 ?hg (N := 8) ?hd (xs := ([(⟨0, 1, 5⟩ : S39), (⟨0, 2, 1⟩ : S39), (⟨2, 1, 2⟩ : S39)] : List (S39))) (inner := [.int .i64 0, .int .i64 1, .int .i64 5, .int .i64 0, .int .i64 2, .int .i64 1, .int .i64 2, .int .i64 1, .int .i64 2]) (ok := fun _ => True) (okp := fun _ => True) ?hr ?hp (fun _ hk => hk) trivial (Below.refl _ _) (Nat.le_refl _) (by simp) ?_; (case hd => rfl); (case hg => rfl); (case hr => first | (go_simp; done)|(go_simp; rfl)|(go_simp; rw [show ∀ x : Int, IntKind.u32.wrap (IntKind.u8.wrap x) = x % 256 from fun x => (by show (x % 256) % 4294967296 = x % 256; omega)])); (case hp => exact (Reps.c3 (show Kd.M k39 _ _ _ (⟨0, 1, 5⟩ : S39) [.int .i64 0, .int .i64 1, .int .i64 5] from (k39_mkM _ _ _ (⟨0, 1, 5⟩ : S39) )) (Reps.c3 (show Kd.M k39 _ _ _ (⟨0, 2, 1⟩ : S39) [.int .i64 0, .int .i64 2, .int .i64 1] from (k39_mkM _ _ _ (⟨0, 2, 1⟩ : S39) )) (Reps.c3 (show Kd.M k39 _ _ _ (⟨2, 1, 2⟩ : S39) [.int .i64 2, .int .i64 1, .int .i64 2] from (k39_mkM _ _ _ (⟨2, 1, 2⟩ : S39) )) (Reps.none _ _))))); intro v166 w54 ho55 hb hg_ hnew_; clear hg_ hnew_; (first |  rw [← Ny165.out] at ho55|  (simp only [Int.reduceToNat] at ho55; rw [← Ny165.out] at ho55)); have HO167 := zMk (zRl ho55 (zBs (by exact uT HB.out))); replace HB := zMk (zBt (by exact uT HB.out) hb); clear hb ho55; obtain ⟨Ao56, co56, eo56⟩ := zRs HO167.out; subst eo56)|((with_reducible refine gate_dst (N := 1) rfl ?_); (try (refine gate_guard (by rfl) ?_; dsimp only)); refine box_event ?hg (N := 1) ?hd (cs := #[.int .i64 0, .slice none 0 0]) (t := 24) ?hr ?_; (case hd => rfl); (case hg => rfl); (case hr => first | (go_simp; done)|(go_simp; rfl)|(go_simp; rw [show ∀ x : Int, IntKind.u32.wrap (IntKind.u8.wrap x) = x % 256 from fun x => (by show (x % 256) % 4294967296 = x % 256; omega)])); intro gb168 hg w57 hbox hb; replace HO167 := zMk (zRb (by exact uR HO167.out) hb); have BK168 := zMk (hbox); have GW168 := zMk ((by rw [hg]; exact (zBs (by exact uT HB.out)) : w.heap.size ≤ gb168)); have GE168 := zMk ((by rw [hg]; exact (zBs (by exact uT HB.out)) : w.heap.size ≤ gb168)); have IGE168 := ownGe GE168.out; replace HB := zMk (zBt (by exact uT HB.out) hb); clear hb hbox hg; have hcz58_0 : w57.cell? ⟨gb168, 0, none⟩ = some (.int .i64 0) := (zKc BK168.out 0).trans rfl; have hcz58_1 : w57.cell? ⟨gb168, 1, none⟩ = some (.slice none 0 0) := (zKc BK168.out 1).trans rfl; have hfz58_0 := zKf BK168.out 0; have hfz58_1 := zKf BK168.out 1)|((with_reducible refine gate_callee (f := 11) rfl ?_); refine goesL_ (some 12) rfl rfl Try.func11 (by kernel_rfl) rfl #[.agg #[.int .i64 3, .slice Ao56 y165.length co56], .int .i64 0] rfl (by (try simp only [zMa, zMc, zMn]); first |  done|  rfl|  (simp only [zLd, zLt]; rfl)) ?_; (with_reducible refine (paths_From.calls k 3 _ _ y165 0 t169 t172 t175 _ ?side1 ?side2 A1.out).mono ?_); (case side1 => refine (zRr (e := 39) (base := w.heap.size) (ok := fun k_ => True) (n := y165.length) (c := co56) ?_).2.2; exact (by (with_reducible repeat (first |  apply zRa|  apply zRn|  apply zRd)); exact (zRm (Kd.R_far (p := ⟨gb168, 1, none⟩) (Kd.R_far (p := ⟨gb168, 0, none⟩) (Kd.R_types HO167.out BK168.out (by decide)) (fun _ hk => hk.2) (.int .i64 3)) (fun _ hk => hk.2) (.slice Ao56 y165.length co56)) (fun _ h_ => h_.1)))); (case side2 => exact (zRr HO167.out).2.1); rintro e w59 ⟨v170, v173, rfl, ho0, ho1, hb⟩; refine ⟨_, rfl, ?_⟩; replace HO167 := zMk (zRb (by (with_reducible repeat (first |  apply zRa|  apply zRn|  apply zRd)); exact (zRm (Kd.R_far (p := ⟨gb168, 1, none⟩) (Kd.R_far (p := ⟨gb168, 0, none⟩) (Kd.R_types HO167.out BK168.out (by decide)) (fun _ hk => hk.2) (.int .i64 3)) (fun _ hk => hk.2) (.slice Ao56 y165.length co56)) (fun _ h_ => h_.1))) hb); have HO171 := zMk (zRl ho0 (zBs (by exact uT HB.out))); have HO174 := zMk (zRl ho1 (zBs (by exact uT HB.out))); replace BK168 := zMk (zKb (g := gb168) (o := .cells #[.int .i64 3, .slice Ao56 y165.length co56] 24 (0, 0)) (by (with_reducible repeat (first |  refine zKn ?_ _|  refine zKd ?_|  refine zKa ?_ _)); refine blk_put (cs := #[.int .i64 3, .slice none 0 0]) ?_ 1 _ rfl; (with_reducible repeat (first |  refine zKn ?_ _|  refine zKd ?_|  refine zKa ?_ _)); refine blk_put (cs := #[.int .i64 0, .slice none 0 0]) ?_ 0 _ rfl; (with_reducible repeat (first |  refine zKn ?_ _|  refine zKd ?_|  refine zKa ?_ _)); exact BK168.out) hb); replace HB := zMk (zBt (by exact uT HB.out) hb)))
    go_ret
    exact ⟨by first | rfl | (simp [errW_none, errW_some] <;> rfl) | (simp [*, errW_none, errW_some] <;> rfl), by exact uT HB.out⟩

theorem w64 {x : Int} (h0 : -9223372036854775808 ≤ x) (h1 : x ≤ 9223372036854775807) : wrap64 x = x := by unfold wrap64; omega
def badE (n : Int) (e : S39) : Int :=
  if e.f0 < 0 ∨ e.f0 ≥ n ∨ e.f1 < 0 ∨ e.f1 ≥ n then 5 else if e.f2 < 0 then 10 else if e.f2 ≥ 2147483648 then 8 else 0
def rgtL (n : Int) : List S39 → Int
  | [] => 0
  | e :: l => if badE n e ≠ 0 then badE n e else rgtL n l
def rightP (n : Int) (l : List S39) : Int := if n < 0 then 1 else if n > 1048576 then 4 else if (l.length : Int) > 4194304 then 4 else rgtL n l
theorem rdE_get (l : List S39) (i : Nat) (h : i < l.length) : rd_T39 l (i : Int) = l[i] := by
  unfold rd_T39
  rw [zTn]
  simp [h]
theorem dropE (l : List S39) (i : Nat) (h : i < l.length) : l.drop i = rd_T39 l (i : Int) :: l.drop (i + 1) := by
  rw [List.drop_eq_getElem_cons h, rdE_get l i h]
theorem Right_l0 (n : Int) (l : List S39) (hm : l.length ≤ 4194304) (d : Nat) : ∀ (k i : Nat), l.length - i = d → i ≤ l.length → 2 * d + 2 ≤ k →
    paths_Right.l0 k l (l.length : Int) i n l = some (rgtL n (l.drop i)) := by
  induction d with
  | zero =>
    intro k i hd hi hk
    obtain ⟨k, rfl⟩ : ∃ m, k = m + 1 := ⟨k - 1, by omega⟩
    simp only [paths_Right.l0]
    rw [if_neg (by omega), List.drop_of_length_le (by omega)]
    rfl
  | succ d ih =>
    intro k i hd hi hk
    obtain ⟨k, rfl⟩ : ∃ m, k = m + 2 := ⟨k - 2, by omega⟩
    have hlt : i < l.length := by omega
    simp only [paths_Right.l0]
    rw [if_pos (by omega), if_pos (by omega), if_pos (by omega), dropE l i hlt]
    generalize rd_T39 l (i : Int) = e
    have hj : ∀ b : Bool, (b = true ↔ (e.f0 < 0 ∨ e.f0 ≥ n ∨ e.f1 < 0 ∨ e.f1 ≥ n)) → paths_Right.j1 (k + 1) l (l.length : Int) i b n l e.f0 e.f1 e.f2 = some (rgtL n (e :: l.drop (i + 1))) := by
      intro b hb
      simp only [paths_Right.j1, rgtL]
      by_cases h1 : b = true
      · have hv : badE n e = 5 := by unfold badE; rw [if_pos (hb.1 h1)]
        rw [if_pos h1, hv]; rfl
      · have hc := fun h => h1 (hb.2 h)
        rw [if_neg h1]
        by_cases h2 : e.f2 < 0
        · have hv : badE n e = 10 := by unfold badE; rw [if_neg hc, if_pos h2]
          rw [if_pos h2, hv]; rfl
        · rw [if_neg h2]
          by_cases h3 : e.f2 ≥ 2147483648
          · have hv : badE n e = 8 := by unfold badE; rw [if_neg hc, if_neg h2, if_pos h3]
            rw [if_pos h3, hv]; rfl
          · have hv : badE n e = 0 := by unfold badE; rw [if_neg hc, if_neg h2, if_neg h3]
            rw [if_neg h3, hv, w64 (by omega) (by omega)]
            simp only [ne_eq, not_true_eq_false, if_false]
            exact ih k (i + 1) (by omega) (by omega) (by omega)
    by_cases h1 : mn e.f0 e.f1 < 0
    · rw [if_pos h1]
      refine hj _ ?_
      simp only [decide_eq_true_eq]
      unfold mn at h1 ⊢
      constructor
      · intro h; split at h <;> omega
      · intro _; exact h1
    · rw [if_neg h1]
      refine hj _ ?_
      simp only [decide_eq_true_eq]
      unfold mn at h1
      unfold mx
      constructor
      · intro h; split at h <;> omega
      · intro h; split at h1 <;> split <;> omega
theorem Right_eq (k : Nat) (n : Int) (l : List S39) (hk : 2 * l.length + 2 ≤ k) : paths_Right.f k n l = some (rightP n l) := by
  unfold paths_Right.f rightP
  by_cases h1 : n < 0
  · rw [if_pos h1, if_pos h1]
  · rw [if_neg h1, if_neg h1]
    by_cases h2 : n > 1048576
    · rw [if_pos h2, if_pos h2]
    · rw [if_neg h2, if_neg h2]
      by_cases h3 : (l.length : Int) > 4194304
      · rw [if_pos h3, if_pos h3]
      · rw [if_neg h3, if_neg h3]
        have := Right_l0 n l (by omega) l.length k 0 (by omega) (by omega) (by omega)
        simpa using this
theorem refRight_l0 (n : Int) (l : List S39) (hm : l.length ≤ 4194304) (d : Nat) : ∀ (k i : Nat), l.length - i = d → i ≤ l.length → 2 * d + 2 ≤ k →
    filigreeref12_Right.l0 k i n l = some (rgtL n (l.drop i)) := by
  induction d with
  | zero =>
    intro k i hd hi hk
    obtain ⟨k, rfl⟩ : ∃ m, k = m + 1 := ⟨k - 1, by omega⟩
    simp only [filigreeref12_Right.l0]
    rw [if_neg (by omega), List.drop_of_length_le (by omega)]
    rfl
  | succ d ih =>
    intro k i hd hi hk
    obtain ⟨k, rfl⟩ : ∃ m, k = m + 2 := ⟨k - 2, by omega⟩
    have hlt : i < l.length := by omega
    simp only [filigreeref12_Right.l0]
    rw [if_pos (by omega), if_pos (by omega), dropE l i hlt]
    generalize rd_T39 l (i : Int) = e
    have hj : ∀ b : Bool, (b = true ↔ (e.f0 < 0 ∨ e.f0 ≥ n ∨ e.f1 < 0 ∨ e.f1 ≥ n)) → filigreeref12_Right.j2 (k + 1) i b n l e.f0 e.f1 e.f2 = some (rgtL n (e :: l.drop (i + 1))) := by
      intro b hb
      simp only [filigreeref12_Right.j2, rgtL]
      by_cases h1 : b = true
      · have hv : badE n e = 5 := by unfold badE; rw [if_pos (hb.1 h1)]
        rw [if_pos h1, hv]; rfl
      · have hc := fun h => h1 (hb.2 h)
        rw [if_neg h1]
        by_cases h2 : e.f2 < 0
        · have hv : badE n e = 10 := by unfold badE; rw [if_neg hc, if_pos h2]
          rw [if_pos h2, hv]; rfl
        · rw [if_neg h2]
          by_cases h3 : e.f2 ≥ 2147483648
          · have hv : badE n e = 8 := by unfold badE; rw [if_neg hc, if_neg h2, if_pos h3]
            rw [if_pos h3, hv]; rfl
          · have hv : badE n e = 0 := by unfold badE; rw [if_neg hc, if_neg h2, if_neg h3]
            rw [if_neg h3, hv, w64 (by omega) (by omega)]
            simp only [ne_eq, not_true_eq_false, if_false]
            exact ih k (i + 1) (by omega) (by omega) (by omega)
    repeat' split
    all_goals (refine hj _ ?_; simp only [decide_eq_true_eq, true_iff]; omega)
theorem refRight_eq (k : Nat) (n : Int) (l : List S39) (hk : 2 * l.length + 3 ≤ k) : filigreeref12_Right.f k n l = some (rightP n l) := by
  unfold filigreeref12_Right.f rightP
  obtain ⟨k, rfl⟩ : ∃ m, k = m + 1 := ⟨k - 1, by omega⟩
  by_cases h1 : n < 0
  · rw [if_pos h1, if_pos h1]
  · rw [if_neg h1, if_neg h1]
    by_cases h2 : n > 1048576
    · rw [if_pos h2, if_pos h2]; simp only [filigreeref12_Right.j0]; rfl
    · rw [if_neg h2, if_neg h2]
      simp only [filigreeref12_Right.j0, decide_eq_true_eq]
      by_cases h3 : (l.length : Int) > 4194304
      · rw [if_pos h3, if_pos h3]
      · rw [if_neg h3, if_neg h3]
        have := refRight_l0 n l (by omega) l.length k 0 (by omega) (by omega) (by omega)
        simpa using this
theorem alive_at0 : filigreelaw12_alive.f 1000000 = some true := by decide +kernel

def filigreelaw12_PathsRight.f (k : Nat) (a0_0 : Int) (l0_1 : List (S39)) : Option (Bool) := if (l0_1.length : Int) > 1000 then (some true) else ((paths_Right.f k a0_0 l0_1).bind fun t279 => ((filigreeref12_Right.f k a0_0 l0_1).bind fun t280 => (if t279 = t280 then ((filigreelaw12_alive.f k).bind fun t281 => (some t281)) else (some false))))
def filigreelaw12_PathsRight.T1 : Bool × List (List Nat × List Nat) := (true, [([], []), ([0], [0]), ([1], [1]), ([2], [2]), ([3], [3]), ([4], [4]), ([5, 4, 4], [4, 5]), ([4], [4]), ([7, 6, 4], [4, 7]), ([6, 8, 4], [4, 6, 8]), ([9, 8, 4], [4, 9]), ([10, 10], [10]), ([10, 11, 4], [4, 10, 11]), ([4, 12], [4, 12]), ([13, 11, 0, 1, 2, 3, 4, 5, 6, 7, 8, 9, 10, 11, 12, 13], [13])])
def filigreelaw12_PathsRight.B1 : List Nat := [0, 1, 3, 7, 15, 31, 63, 31, 255, 511, 1023, 2047, 4095, 8191, 16383]
theorem filigreelaw12_PathsRight.tab1 : rtab .any (opsOf Try.f3 1) = filigreelaw12_PathsRight.T1 := by kernel_rfl
theorem filigreelaw12_PathsRight.bits1 : waitsOk filigreelaw12_PathsRight.T1.2 filigreelaw12_PathsRight.B1 = true := by kernel_rfl
theorem filigreelaw12_PathsRight.calls (k : Nat) (a0_0 : Int) (A0_1 : Option Addr) (c0_1 : Nat) (l0_1 : List (S39)) (r : Bool) (w : World) (hr0_1 : Kd.C k39 w A0_1 l0_1.length l0_1) (hc0_1 : l0_1.length ≤ c0_1) (h : filigreelaw12_PathsRight.f k a0_0 l0_1 = some r) (hr_ : r = true) :
    Calls Try.prog 3 #[.agg #[.int .i64 a0_0, .slice A0_1 l0_1.length c0_1]] w fun e w' => e = .returned (.bool r) ∧ Below w.heap.size w w' := by
  have HRT := zMk hr_
  clear hr_
  have hu24 := Try.underlying24
  have HR0_1 := zMk hr0_1
  have HC0_1 := zMk hc0_1
  clear hr0_1 hc0_1
  have HB := zMk (Below.refl w.heap.size w)
  have H : (if (l0_1.length : Int) > 1000 then (some true) else ((paths_Right.f k a0_0 l0_1).bind fun t279 => ((filigreeref12_Right.f k a0_0 l0_1).bind fun t280 => (if t279 = t280 then ((filigreelaw12_alive.f k).bind fun t281 => (some t281)) else (some false))))) = some r := h
  clear h
  by_cases c2 : (l0_1.length : Int) > 1000
  · rw [if_pos c2] at H
    have c2b0 : decide (1000 < (l0_1.length : Int)) = true := decide_eq_true c2
    have c2b1 : decide (1000 < l0_1.length) = true := decide_eq_true (by omega)
    clear c2
    obtain rfl := zOi H
    go_enter Try.func3, Try.ntmps3
    try go_wp2_with (first | ((with_reducible refine gate_dst (N := 1) rfl ?_); refine box_event ?hg (N := 1) ?hd (cs := #[.int .i64 a0_0, .slice A0_1 l0_1.length c0_1]) (t := 24) ?hr ?_; (case hd => rfl); (case hg => rfl); (case hr => first | (go_simp; done)|(go_simp; rfl)|(go_simp; rw [show ∀ x : Int, IntKind.u32.wrap (IntKind.u8.wrap x) = x % 256 from fun x => (by show (x % 256) % 4294967296 = x % 256; omega)])); intro gb278 hg w3 hbox hb; have BK278 := zMk (hbox); have GW278 := zMk ((by rw [hg]; exact (zBs (by exact uT HB.out)) : w.heap.size ≤ gb278)); have GE278 := zMk ((by rw [hg]; exact (zBs (by exact uT HB.out)) : w.heap.size ≤ gb278)); have IGE278 := ownGe GE278.out; replace HB := zMk (zBt (by exact uT HB.out) hb); clear hb hbox hg))
    replace BK278 := zMk (zKd BK278.out)
    replace HB := zMk (zBd HB.out)
    refine start_ (n := 15) (S := fun w' => w'.cell? ⟨gb278, 0, none⟩ = some (.int .i64 a0_0) ∧ w'.cell? ⟨gb278, 1, none⟩ = some (.slice A0_1 l0_1.length c0_1)) (ds := []) #[false, false, false, false, false, false, false, false, false, false, false, false, false, false, false] (by kernel_rfl) rfl rfl ⟨(zKc BK278.out 0).trans rfl, (zKc BK278.out 1).trans rfl⟩ (fun hHeld => ?_); refine with_tabW filigreelaw12_PathsRight.tab1 filigreelaw12_PathsRight.bits1 (fun HT_ HW_ => ?_)
    generalize w3.drew = w4 at BK278 HB hHeld ⊢
    refine pure_ (i := 0) (N := some 3) (v := ?_) (a' := ?_) #[true, false, false, false, false, false, false, false, false, false, false, false, false, false, false] rfl rfl (any_of HT_.out (by kernel_rfl)) (fun _ _ _ h => h) (Or.inl ⟨by rfl, ?_⟩) ?_ ?_
    rotate_left
    · intro w'
      go_simp
      with_reducible rfl
    rotate_left
    · simp only [Act.put, zSa, zSb, zSc, i64_w, i32_w]
      rfl
    refine take_ (i := 1) (N := some 4) (v := ?_) (a' := ?_) #[true, true, false, false, false, false, false, false, false, false, false, false, false, false, false] rfl rfl (take_ofW HT_.out HW_.out (by kernel_rfl)) (fun _ _ _ h => h) (Or.inl ⟨by rfl, ?_⟩) hHeld ?_ ?_
    rotate_left
    · rintro w' ⟨s0, s1⟩
      go_simp
      with_reducible rfl
    rotate_left
    · simp only [Act.put, zSa, zSb, zSc, i64_w, i32_w]
      rfl
    refine pure_ (i := 2) (N := some 5) (v := ?_) (a' := ?_) #[true, true, true, false, false, false, false, false, false, false, false, false, false, false, false] rfl rfl (any_of HT_.out (by kernel_rfl)) (fun _ _ _ h => h) (Or.inl ⟨by rfl, ?_⟩) ?_ ?_
    rotate_left
    · intro w'
      go_simp
      with_reducible rfl
    rotate_left
    · simp only [Act.put, zSa, zSb, zSc, i64_w, i32_w]
      rfl
    refine pure_ (i := 3) (N := some 6) (v := ?_) (a' := ?_) #[true, true, true, true, false, false, false, false, false, false, false, false, false, false, false] rfl rfl (any_of HT_.out (by kernel_rfl)) (fun _ _ _ h => h) (Or.inl ⟨by rfl, ?_⟩) ?_ ?_
    rotate_left
    · intro w'
      go_simp
      with_reducible rfl
    rotate_left
    · simp only [Act.put, zSa, zSb, zSc, i64_w, i32_w]
      rfl
    refine pure_ (i := 4) (N := some 7) (v := ?_) (a' := ?_) #[true, true, true, true, true, false, false, false, false, false, false, false, false, false, false] rfl rfl (any_of HT_.out (by kernel_rfl)) (fun _ _ _ h => h) (Or.inl ⟨by rfl, ?_⟩) ?_ ?_
    rotate_left
    · intro w'
      go_simp
      with_reducible rfl
    rotate_left
    · simp only [Act.put, zSa, zSb, zSc, i64_w, i32_w]
      rfl
    refine pure_ (i := 5) (N := some 8) (v := undef) (a' := ?_) #[true, true, true, true, true, true, false, false, false, false, false, false, false, false, false] rfl rfl (any_of HT_.out (by kernel_rfl)) (fun _ _ _ h => h) (Or.inr ⟨by rfl, rfl⟩) ?_ ?_
    rotate_left
    · simp only [Act.put, zSa, zSb, zSc, i64_w, i32_w]
      rfl
    refine pure_ (i := 6) (N := some 9) (v := undef) (a' := ?_) #[true, true, true, true, true, true, true, false, false, false, false, false, false, false, false] rfl rfl (any_of HT_.out (by kernel_rfl)) (fun _ _ _ h => h) (Or.inr ⟨by rfl, rfl⟩) ?_ ?_
    rotate_left
    · simp only [Act.put, zSa, zSb, zSc, i64_w, i32_w]
      rfl
    refine pure_ (i := 7) (N := some 10) (v := undef) (a' := ?_) #[true, true, true, true, true, true, true, true, false, false, false, false, false, false, false] rfl rfl (any_of HT_.out (by kernel_rfl)) (fun _ _ _ h => h) (Or.inr ⟨by rfl, rfl⟩) ?_ ?_
    rotate_left
    · simp only [Act.put, zSa, zSb, zSc, i64_w, i32_w]
      rfl
    refine pure_ (i := 8) (N := some 11) (v := undef) (a' := ?_) #[true, true, true, true, true, true, true, true, true, false, false, false, false, false, false] rfl rfl (any_of HT_.out (by kernel_rfl)) (fun _ _ _ h => h) (Or.inr ⟨by rfl, rfl⟩) ?_ ?_
    rotate_left
    · simp only [Act.put, zSa, zSb, zSc, i64_w, i32_w]
      rfl
    refine pure_ (i := 9) (N := some 12) (v := undef) (a' := ?_) #[true, true, true, true, true, true, true, true, true, true, false, false, false, false, false] rfl rfl (any_of HT_.out (by kernel_rfl)) (fun _ _ _ h => h) (Or.inr ⟨by rfl, rfl⟩) ?_ ?_
    rotate_left
    · simp only [Act.put, zSa, zSb, zSc, i64_w, i32_w]
      rfl
    refine pure_ (i := 10) (N := some 13) (v := undef) (a' := ?_) #[true, true, true, true, true, true, true, true, true, true, true, false, false, false, false] rfl rfl (any_of HT_.out (by kernel_rfl)) (fun _ _ _ h => h) (Or.inr ⟨by rfl, rfl⟩) ?_ ?_
    rotate_left
    · simp only [Act.put, zSa, zSb, zSc, i64_w, i32_w]
      rfl
    refine pure_ (i := 11) (N := some 14) (v := undef) (a' := ?_) #[true, true, true, true, true, true, true, true, true, true, true, true, false, false, false] rfl rfl (any_of HT_.out (by kernel_rfl)) (fun _ _ _ h => h) (Or.inr ⟨by rfl, rfl⟩) ?_ ?_
    rotate_left
    · simp only [Act.put, zSa, zSb, zSc, i64_w, i32_w]
      rfl
    refine pure_ (i := 12) (N := some 15) (v := undef) (a' := ?_) #[true, true, true, true, true, true, true, true, true, true, true, true, true, false, false] rfl rfl (any_of HT_.out (by kernel_rfl)) (fun _ _ _ h => h) (Or.inr ⟨by rfl, rfl⟩) ?_ ?_
    rotate_left
    · simp only [Act.put, zSa, zSb, zSc, i64_w, i32_w]
      rfl
    refine pure_ (i := 13) (N := some 16) (v := ?_) (a' := ?_) #[true, true, true, true, true, true, true, true, true, true, true, true, true, true, false] rfl rfl (any_of HT_.out (by kernel_rfl)) (fun _ _ _ h => h) (Or.inl ⟨by rfl, ?_⟩) ?_ ?_
    rotate_left
    · intro w'
      go_simp
      with_reducible rfl
    rotate_left
    · simp only [Act.put, zSa, zSb, zSc, i64_w, i32_w]
      rfl
    refine pure_ (i := 14) (N := some 2) (v := ?_) (a' := ?_) #[true, true, true, true, true, true, true, true, true, true, true, true, true, true, true] rfl rfl (any_of HT_.out (by kernel_rfl)) (fun _ _ _ h => h) (Or.inl ⟨by rfl, ?_⟩) ?_ ?_
    rotate_left
    · intro w'
      go_simp
      with_reducible rfl
    rotate_left
    · simp only [Act.put, zSa, zSb, zSc, i64_w, i32_w]
      rfl
    refine done_ (done_of HT_.out (by kernel_rfl)) ?_
    try go_wp2
    go_ret
    exact ⟨by first | rfl | (simp [errW_none, errW_some] <;> rfl) | (simp [*, errW_none, errW_some] <;> rfl), by exact uT HB.out⟩
  · rw [if_neg c2] at H
    have c2b0 : decide (1000 < (l0_1.length : Int)) = false := decide_eq_false c2
    have c2b1 : decide (1000 < l0_1.length) = false := decide_eq_false (by omega)
    clear c2
    replace H := bnd H
    obtain ⟨t279, A50, H⟩ := H
    have A5 := zMk A50
    clear A50
    replace H := bnd H
    obtain ⟨t280, A60, H⟩ := H
    have A6 := zMk A60
    clear A60
    by_cases c7 : t279 = t280
    · rw [if_pos c7] at H
      have c7b0 : (t279 == t280) = true := beq_iff_eq.mpr c7
      have c7b1 : (t279 != t280) = false := bne_eq_false_iff_eq.mpr c7
      clear c7
      replace H := bnd H
      obtain ⟨t281, A80, H⟩ := H
      have A8 := zMk A80
      clear A80
      obtain rfl := zOi H
      go_enter Try.func3, Try.ntmps3
      try go_wp2_with (first | ((with_reducible refine gate_dst (N := 1) rfl ?_); refine box_event ?hg (N := 1) ?hd (cs := #[.int .i64 a0_0, .slice A0_1 l0_1.length c0_1]) (t := 24) ?hr ?_; (case hd => rfl); (case hg => rfl); (case hr => first | (go_simp; done)|(go_simp; rfl)|(go_simp; rw [show ∀ x : Int, IntKind.u32.wrap (IntKind.u8.wrap x) = x % 256 from fun x => (by show (x % 256) % 4294967296 = x % 256; omega)])); intro gb278 hg w9 hbox hb; have BK278 := zMk (hbox); have GW278 := zMk ((by rw [hg]; exact (zBs (by exact uT HB.out)) : w.heap.size ≤ gb278)); have GE278 := zMk ((by rw [hg]; exact (zBs (by exact uT HB.out)) : w.heap.size ≤ gb278)); have IGE278 := ownGe GE278.out; replace HB := zMk (zBt (by exact uT HB.out) hb); clear hb hbox hg))
      replace BK278 := zMk (zKd BK278.out)
      replace HB := zMk (zBd HB.out)
      refine start_ (n := 15) (S := fun w' => w'.cell? ⟨gb278, 0, none⟩ = some (.int .i64 a0_0) ∧ w'.cell? ⟨gb278, 1, none⟩ = some (.slice A0_1 l0_1.length c0_1)) (ds := []) #[false, false, false, false, false, false, false, false, false, false, false, false, false, false, false] (by kernel_rfl) rfl rfl ⟨(zKc BK278.out 0).trans rfl, (zKc BK278.out 1).trans rfl⟩ (fun hHeld => ?_); refine with_tabW filigreelaw12_PathsRight.tab1 filigreelaw12_PathsRight.bits1 (fun HT_ HW_ => ?_)
      generalize w9.drew = w10 at BK278 HB hHeld ⊢
      refine pure_ (i := 0) (N := some 3) (v := ?_) (a' := ?_) #[true, false, false, false, false, false, false, false, false, false, false, false, false, false, false] rfl rfl (any_of HT_.out (by kernel_rfl)) (fun _ _ _ h => h) (Or.inl ⟨by rfl, ?_⟩) ?_ ?_
      rotate_left
      · intro w'
        go_simp
        with_reducible rfl
      rotate_left
      · simp only [Act.put, zSa, zSb, zSc, i64_w, i32_w]
        rfl
      refine take_ (i := 1) (N := some 4) (v := ?_) (a' := ?_) #[true, true, false, false, false, false, false, false, false, false, false, false, false, false, false] rfl rfl (take_ofW HT_.out HW_.out (by kernel_rfl)) (fun _ _ _ h => h) (Or.inl ⟨by rfl, ?_⟩) hHeld ?_ ?_
      rotate_left
      · rintro w' ⟨s0, s1⟩
        go_simp
        with_reducible rfl
      rotate_left
      · simp only [Act.put, zSa, zSb, zSc, i64_w, i32_w]
        rfl
      refine pure_ (i := 2) (N := some 5) (v := ?_) (a' := ?_) #[true, true, true, false, false, false, false, false, false, false, false, false, false, false, false] rfl rfl (any_of HT_.out (by kernel_rfl)) (fun _ _ _ h => h) (Or.inl ⟨by rfl, ?_⟩) ?_ ?_
      rotate_left
      · intro w'
        go_simp
        with_reducible rfl
      rotate_left
      · simp only [Act.put, zSa, zSb, zSc, i64_w, i32_w]
        rfl
      refine pure_ (i := 3) (N := some 6) (v := ?_) (a' := ?_) #[true, true, true, true, false, false, false, false, false, false, false, false, false, false, false] rfl rfl (any_of HT_.out (by kernel_rfl)) (fun _ _ _ h => h) (Or.inl ⟨by rfl, ?_⟩) ?_ ?_
      rotate_left
      · intro w'
        go_simp
        with_reducible rfl
      rotate_left
      · simp only [Act.put, zSa, zSb, zSc, i64_w, i32_w]
        rfl
      refine pure_ (i := 4) (N := some 7) (v := ?_) (a' := ?_) #[true, true, true, true, true, false, false, false, false, false, false, false, false, false, false] rfl rfl (any_of HT_.out (by kernel_rfl)) (fun _ _ _ h => h) (Or.inl ⟨by rfl, ?_⟩) ?_ ?_
      rotate_left
      · intro w'
        go_simp
        with_reducible rfl
      rotate_left
      · simp only [Act.put, zSa, zSb, zSc, i64_w, i32_w]
        rfl
      refine take_ (i := 5) (N := some 8) (v := ?_) (a' := ?_) #[true, true, true, true, true, true, false, false, false, false, false, false, false, false, false] rfl rfl (take_ofW HT_.out HW_.out (by kernel_rfl)) (fun _ _ _ h => h) (Or.inl ⟨by rfl, ?_⟩) hHeld ?_ ?_
      rotate_left
      · rintro w' ⟨s0, s1⟩
        go_simp
        with_reducible rfl
      rotate_left
      · simp only [Act.put, zSa, zSb, zSc, i64_w, i32_w]
        rfl
      refine take_ (i := 7) (N := some 10) (v := ?_) (a' := ?_) #[true, true, true, true, true, true, false, true, false, false, false, false, false, false, false] rfl rfl (take_ofW HT_.out HW_.out (by kernel_rfl)) (fun _ _ _ h => h) (Or.inl ⟨by rfl, ?_⟩) hHeld ?_ ?_
      rotate_left
      · rintro w' ⟨s0, s1⟩
        go_simp
        with_reducible rfl
      rotate_left
      · simp only [Act.put, zSa, zSb, zSc, i64_w, i32_w]
        rfl
      refine one_ (i := 6) (N := some 9) #[true, true, true, true, true, true, true, true, false, false, false, false, false, false, false] rfl rfl (one_of HT_.out (by kernel_rfl)) (by decide) (fun K hK => ?_)
      refine goes_ Try.func7 (by kernel_rfl) rfl #[.agg #[.int .i64 a0_0, .slice A0_1 l0_1.length c0_1]] (by rfl) rfl rfl (by (try simp only [zMa, zMc, zMn]); first | done | rfl | (simp only [zLd, zLt]; rfl)) ?_
      with_reducible refine (paths_Right.calls k a0_0 _ _ l0_1 t279 _ ?side1 ?side2 A5.out).mono ?_
      (case side1 => repeat (first | exact (Kd.C_below HR0_1.out HB.out) | (with_reducible refine zCa ?_ _) | (with_reducible refine zCn ?_ _) | (with_reducible refine zCd ?_)))
      (case side2 => exact HC0_1.out)
      rintro e w11 ⟨rfl, hb⟩
      refine ⟨_, rfl, ?_⟩
      replace BK278 := zMk (zKb (g := gb278) (o := .cells #[.int .i64 a0_0, .slice A0_1 l0_1.length c0_1] 24 (0, 0)) (by (with_reducible repeat (first | refine zKn ?_ _ | refine zKd ?_ | refine zKa ?_ _)); exact BK278.out) hb)
      replace HB := zMk (zBt (by exact uT HB.out) hb)
      refine hK.out _ _ ⟨(zKc BK278.out 0).trans rfl, (zKc BK278.out 1).trans rfl⟩ (fun hHeld => ?_)
      clear hK K
      refine norm_ (a' := ?_) ?_ ?_
      rotate_left
      · show Act.put _ (some 9) _ = _
        simp only [Act.put, zSa, zSb, zSc, i64_w, i32_w]
        rfl
      refine one_ (i := 8) (N := some 11) #[true, true, true, true, true, true, true, true, true, false, false, false, false, false, false] rfl rfl (one_of HT_.out (by kernel_rfl)) (by decide) (fun K hK => ?_)
      refine goes_ Try.func8 (by kernel_rfl) rfl #[.agg #[.int .i64 a0_0, .slice A0_1 l0_1.length c0_1]] (by rfl) rfl rfl (by (try simp only [zMa, zMc, zMn]); first | done | rfl | (simp only [zLd, zLt]; rfl)) ?_
      with_reducible refine (filigreeref12_Right.calls k a0_0 _ _ l0_1 t280 _ ?side1 ?side2 A6.out).mono ?_
      (case side1 => repeat (first | exact (Kd.C_below HR0_1.out HB.out) | (with_reducible refine zCa ?_ _) | (with_reducible refine zCn ?_ _) | (with_reducible refine zCd ?_)))
      (case side2 => exact HC0_1.out)
      rintro e w12 ⟨rfl, hb⟩
      refine ⟨_, rfl, ?_⟩
      replace BK278 := zMk (zKb (g := gb278) (o := .cells #[.int .i64 a0_0, .slice A0_1 l0_1.length c0_1] 24 (0, 0)) (by (with_reducible repeat (first | refine zKn ?_ _ | refine zKd ?_ | refine zKa ?_ _)); exact BK278.out) hb)
      replace HB := zMk (zBt (by exact uT HB.out) hb)
      refine hK.out _ _ ⟨(zKc BK278.out 0).trans rfl, (zKc BK278.out 1).trans rfl⟩ (fun hHeld => ?_)
      clear hK K
      refine norm_ (a' := ?_) ?_ ?_
      rotate_left
      · show Act.put _ (some 11) _ = _
        simp only [Act.put, zSa, zSb, zSc, i64_w, i32_w]
        rfl
      refine pure_ (i := 9) (N := some 12) (v := ?_) (a' := ?_) #[true, true, true, true, true, true, true, true, true, true, false, false, false, false, false] rfl rfl (any_of HT_.out (by kernel_rfl)) (fun _ _ _ h => h) (Or.inl ⟨by rfl, ?_⟩) ?_ ?_
      rotate_left
      · intro w'
        go_simp
        with_reducible rfl
      rotate_left
      · simp only [Act.put, zSa, zSb, zSc, i64_w, i32_w]
        rfl
      refine pure_ (i := 10) (N := some 13) (v := ?_) (a' := ?_) #[true, true, true, true, true, true, true, true, true, true, true, false, false, false, false] rfl rfl (any_of HT_.out (by kernel_rfl)) (fun _ _ _ h => h) (Or.inl ⟨by rfl, ?_⟩) ?_ ?_
      rotate_left
      · intro w'
        go_simp
        with_reducible rfl
      rotate_left
      · simp only [Act.put, zSa, zSb, zSc, i64_w, i32_w]
        rfl
      refine one_ (i := 11) (N := some 14) #[true, true, true, true, true, true, true, true, true, true, true, true, false, false, false] rfl rfl (one_of HT_.out (by kernel_rfl)) (by decide) (fun K hK => ?_)
      refine goes_ Try.func9 (by kernel_rfl) rfl #[] (by rfl) rfl rfl (by (try simp only [zMa, zMc, zMn]); first | done | rfl | (simp only [zLd, zLt]; rfl)) ?_
      with_reducible refine (filigreelaw12_alive.calls k  t281 _ A8.out).mono ?_
      rintro e w13 ⟨rfl, hb⟩
      refine ⟨_, rfl, ?_⟩
      replace BK278 := zMk (zKb (g := gb278) (o := .cells #[.int .i64 a0_0, .slice A0_1 l0_1.length c0_1] 24 (0, 0)) (by (with_reducible repeat (first | refine zKn ?_ _ | refine zKd ?_ | refine zKa ?_ _)); exact BK278.out) hb)
      replace HB := zMk (zBt (by exact uT HB.out) hb)
      refine hK.out _ _ ⟨(zKc BK278.out 0).trans rfl, (zKc BK278.out 1).trans rfl⟩ (fun hHeld => ?_)
      clear hK K
      refine norm_ (a' := ?_) ?_ ?_
      rotate_left
      · show Act.put _ (some 14) _ = _
        simp only [Act.put, zSa, zSb, zSc, i64_w, i32_w]
        rfl
      refine pure_ (i := 12) (N := some 15) (v := ?_) (a' := ?_) #[true, true, true, true, true, true, true, true, true, true, true, true, true, false, false] rfl rfl (any_of HT_.out (by kernel_rfl)) (fun _ _ _ h => h) (Or.inl ⟨by rfl, ?_⟩) ?_ ?_
      rotate_left
      · intro w'
        go_simp
        with_reducible rfl
      rotate_left
      · simp only [Act.put, zSa, zSb, zSc, i64_w, i32_w]
        rfl
      refine pure_ (i := 13) (N := some 16) (v := ?_) (a' := ?_) #[true, true, true, true, true, true, true, true, true, true, true, true, true, true, false] rfl rfl (any_of HT_.out (by kernel_rfl)) (fun _ _ _ h => h) (Or.inl ⟨by rfl, ?_⟩) ?_ ?_
      rotate_left
      · intro w'
        go_simp
        with_reducible rfl
      rotate_left
      · simp only [Act.put, zSa, zSb, zSc, i64_w, i32_w]
        rfl
      refine pure_ (i := 14) (N := some 2) (v := ?_) (a' := ?_) #[true, true, true, true, true, true, true, true, true, true, true, true, true, true, true] rfl rfl (any_of HT_.out (by kernel_rfl)) (fun _ _ _ h => h) (Or.inl ⟨by rfl, ?_⟩) ?_ ?_
      rotate_left
      · intro w'
        go_simp
        with_reducible rfl
      rotate_left
      · simp only [Act.put, zSa, zSb, zSc, i64_w, i32_w]
        rfl
      refine done_ (done_of HT_.out (by kernel_rfl)) ?_
      try go_wp2
      go_ret
      exact ⟨by first | rfl | (simp [errW_none, errW_some] <;> rfl) | (simp [*, errW_none, errW_some] <;> rfl), by exact uT HB.out⟩
    · rw [if_neg c7] at H
      have c7b0 : (t279 == t280) = false := beq_eq_false_iff_ne.mpr c7
      have c7b1 : (t279 != t280) = true := bne_iff_ne.mpr c7
      obtain rfl := zOi H
      go_enter Try.func3, Try.ntmps3
      try go_wp2_with (first | ((with_reducible refine gate_dst (N := 1) rfl ?_); refine box_event ?hg (N := 1) ?hd (cs := #[.int .i64 a0_0, .slice A0_1 l0_1.length c0_1]) (t := 24) ?hr ?_; (case hd => rfl); (case hg => rfl); (case hr => first | (go_simp; done)|(go_simp; rfl)|(go_simp; rw [show ∀ x : Int, IntKind.u32.wrap (IntKind.u8.wrap x) = x % 256 from fun x => (by show (x % 256) % 4294967296 = x % 256; omega)])); intro gb278 hg w14 hbox hb; have BK278 := zMk (hbox); have GW278 := zMk ((by rw [hg]; exact (zBs (by exact uT HB.out)) : w.heap.size ≤ gb278)); have GE278 := zMk ((by rw [hg]; exact (zBs (by exact uT HB.out)) : w.heap.size ≤ gb278)); have IGE278 := ownGe GE278.out; replace HB := zMk (zBt (by exact uT HB.out) hb); clear hb hbox hg))
      replace BK278 := zMk (zKd BK278.out)
      replace HB := zMk (zBd HB.out)
      refine start_ (n := 15) (S := fun w' => w'.cell? ⟨gb278, 0, none⟩ = some (.int .i64 a0_0) ∧ w'.cell? ⟨gb278, 1, none⟩ = some (.slice A0_1 l0_1.length c0_1)) (ds := []) #[false, false, false, false, false, false, false, false, false, false, false, false, false, false, false] (by kernel_rfl) rfl rfl ⟨(zKc BK278.out 0).trans rfl, (zKc BK278.out 1).trans rfl⟩ (fun hHeld => ?_); refine with_tabW filigreelaw12_PathsRight.tab1 filigreelaw12_PathsRight.bits1 (fun HT_ HW_ => ?_)
      generalize w14.drew = w15 at BK278 HB hHeld ⊢
      refine pure_ (i := 0) (N := some 3) (v := ?_) (a' := ?_) #[true, false, false, false, false, false, false, false, false, false, false, false, false, false, false] rfl rfl (any_of HT_.out (by kernel_rfl)) (fun _ _ _ h => h) (Or.inl ⟨by rfl, ?_⟩) ?_ ?_
      rotate_left
      · intro w'
        go_simp
        with_reducible rfl
      rotate_left
      · simp only [Act.put, zSa, zSb, zSc, i64_w, i32_w]
        rfl
      refine take_ (i := 1) (N := some 4) (v := ?_) (a' := ?_) #[true, true, false, false, false, false, false, false, false, false, false, false, false, false, false] rfl rfl (take_ofW HT_.out HW_.out (by kernel_rfl)) (fun _ _ _ h => h) (Or.inl ⟨by rfl, ?_⟩) hHeld ?_ ?_
      rotate_left
      · rintro w' ⟨s0, s1⟩
        go_simp
        with_reducible rfl
      rotate_left
      · simp only [Act.put, zSa, zSb, zSc, i64_w, i32_w]
        rfl
      refine pure_ (i := 2) (N := some 5) (v := ?_) (a' := ?_) #[true, true, true, false, false, false, false, false, false, false, false, false, false, false, false] rfl rfl (any_of HT_.out (by kernel_rfl)) (fun _ _ _ h => h) (Or.inl ⟨by rfl, ?_⟩) ?_ ?_
      rotate_left
      · intro w'
        go_simp
        with_reducible rfl
      rotate_left
      · simp only [Act.put, zSa, zSb, zSc, i64_w, i32_w]
        rfl
      refine pure_ (i := 3) (N := some 6) (v := ?_) (a' := ?_) #[true, true, true, true, false, false, false, false, false, false, false, false, false, false, false] rfl rfl (any_of HT_.out (by kernel_rfl)) (fun _ _ _ h => h) (Or.inl ⟨by rfl, ?_⟩) ?_ ?_
      rotate_left
      · intro w'
        go_simp
        with_reducible rfl
      rotate_left
      · simp only [Act.put, zSa, zSb, zSc, i64_w, i32_w]
        rfl
      refine pure_ (i := 4) (N := some 7) (v := ?_) (a' := ?_) #[true, true, true, true, true, false, false, false, false, false, false, false, false, false, false] rfl rfl (any_of HT_.out (by kernel_rfl)) (fun _ _ _ h => h) (Or.inl ⟨by rfl, ?_⟩) ?_ ?_
      rotate_left
      · intro w'
        go_simp
        with_reducible rfl
      rotate_left
      · simp only [Act.put, zSa, zSb, zSc, i64_w, i32_w]
        rfl
      refine take_ (i := 5) (N := some 8) (v := ?_) (a' := ?_) #[true, true, true, true, true, true, false, false, false, false, false, false, false, false, false] rfl rfl (take_ofW HT_.out HW_.out (by kernel_rfl)) (fun _ _ _ h => h) (Or.inl ⟨by rfl, ?_⟩) hHeld ?_ ?_
      rotate_left
      · rintro w' ⟨s0, s1⟩
        go_simp
        with_reducible rfl
      rotate_left
      · simp only [Act.put, zSa, zSb, zSc, i64_w, i32_w]
        rfl
      refine take_ (i := 7) (N := some 10) (v := ?_) (a' := ?_) #[true, true, true, true, true, true, false, true, false, false, false, false, false, false, false] rfl rfl (take_ofW HT_.out HW_.out (by kernel_rfl)) (fun _ _ _ h => h) (Or.inl ⟨by rfl, ?_⟩) hHeld ?_ ?_
      rotate_left
      · rintro w' ⟨s0, s1⟩
        go_simp
        with_reducible rfl
      rotate_left
      · simp only [Act.put, zSa, zSb, zSc, i64_w, i32_w]
        rfl
      refine one_ (i := 6) (N := some 9) #[true, true, true, true, true, true, true, true, false, false, false, false, false, false, false] rfl rfl (one_of HT_.out (by kernel_rfl)) (by decide) (fun K hK => ?_)
      refine goes_ Try.func7 (by kernel_rfl) rfl #[.agg #[.int .i64 a0_0, .slice A0_1 l0_1.length c0_1]] (by rfl) rfl rfl (by (try simp only [zMa, zMc, zMn]); first | done | rfl | (simp only [zLd, zLt]; rfl)) ?_
      with_reducible refine (paths_Right.calls k a0_0 _ _ l0_1 t279 _ ?side1 ?side2 A5.out).mono ?_
      (case side1 => repeat (first | exact (Kd.C_below HR0_1.out HB.out) | (with_reducible refine zCa ?_ _) | (with_reducible refine zCn ?_ _) | (with_reducible refine zCd ?_)))
      (case side2 => exact HC0_1.out)
      rintro e w16 ⟨rfl, hb⟩
      refine ⟨_, rfl, ?_⟩
      replace BK278 := zMk (zKb (g := gb278) (o := .cells #[.int .i64 a0_0, .slice A0_1 l0_1.length c0_1] 24 (0, 0)) (by (with_reducible repeat (first | refine zKn ?_ _ | refine zKd ?_ | refine zKa ?_ _)); exact BK278.out) hb)
      replace HB := zMk (zBt (by exact uT HB.out) hb)
      refine hK.out _ _ ⟨(zKc BK278.out 0).trans rfl, (zKc BK278.out 1).trans rfl⟩ (fun hHeld => ?_)
      clear hK K
      refine norm_ (a' := ?_) ?_ ?_
      rotate_left
      · show Act.put _ (some 9) _ = _
        simp only [Act.put, zSa, zSb, zSc, i64_w, i32_w]
        rfl
      refine one_ (i := 8) (N := some 11) #[true, true, true, true, true, true, true, true, true, false, false, false, false, false, false] rfl rfl (one_of HT_.out (by kernel_rfl)) (by decide) (fun K hK => ?_)
      refine goes_ Try.func8 (by kernel_rfl) rfl #[.agg #[.int .i64 a0_0, .slice A0_1 l0_1.length c0_1]] (by rfl) rfl rfl (by (try simp only [zMa, zMc, zMn]); first | done | rfl | (simp only [zLd, zLt]; rfl)) ?_
      with_reducible refine (filigreeref12_Right.calls k a0_0 _ _ l0_1 t280 _ ?side1 ?side2 A6.out).mono ?_
      (case side1 => repeat (first | exact (Kd.C_below HR0_1.out HB.out) | (with_reducible refine zCa ?_ _) | (with_reducible refine zCn ?_ _) | (with_reducible refine zCd ?_)))
      (case side2 => exact HC0_1.out)
      rintro e w17 ⟨rfl, hb⟩
      refine ⟨_, rfl, ?_⟩
      replace BK278 := zMk (zKb (g := gb278) (o := .cells #[.int .i64 a0_0, .slice A0_1 l0_1.length c0_1] 24 (0, 0)) (by (with_reducible repeat (first | refine zKn ?_ _ | refine zKd ?_ | refine zKa ?_ _)); exact BK278.out) hb)
      replace HB := zMk (zBt (by exact uT HB.out) hb)
      refine hK.out _ _ ⟨(zKc BK278.out 0).trans rfl, (zKc BK278.out 1).trans rfl⟩ (fun hHeld => ?_)
      clear hK K
      refine norm_ (a' := ?_) ?_ ?_
      rotate_left
      · show Act.put _ (some 11) _ = _
        simp only [Act.put, zSa, zSb, zSc, i64_w, i32_w]
        rfl
      refine pure_ (i := 9) (N := some 12) (v := ?_) (a' := ?_) #[true, true, true, true, true, true, true, true, true, true, false, false, false, false, false] rfl rfl (any_of HT_.out (by kernel_rfl)) (fun _ _ _ h => h) (Or.inl ⟨by rfl, ?_⟩) ?_ ?_
      rotate_left
      · intro w'
        go_simp
        with_reducible rfl
      rotate_left
      · simp only [Act.put, zSa, zSb, zSc, i64_w, i32_w]
        rfl
      refine pure_ (i := 10) (N := some 13) (v := ?_) (a' := ?_) #[true, true, true, true, true, true, true, true, true, true, true, false, false, false, false] rfl rfl (any_of HT_.out (by kernel_rfl)) (fun _ _ _ h => h) (Or.inl ⟨by rfl, ?_⟩) ?_ ?_
      rotate_left
      · intro w'
        go_simp
        with_reducible rfl
      rotate_left
      · simp only [Act.put, zSa, zSb, zSc, i64_w, i32_w]
        rfl
      refine pure_ (i := 11) (N := some 14) (v := undef) (a' := ?_) #[true, true, true, true, true, true, true, true, true, true, true, true, false, false, false] rfl rfl (any_of HT_.out (by kernel_rfl)) (fun _ _ _ h => h) (Or.inr ⟨by rfl, rfl⟩) ?_ ?_
      rotate_left
      · simp only [Act.put, zSa, zSb, zSc, i64_w, i32_w]
        rfl
      refine pure_ (i := 12) (N := some 15) (v := ?_) (a' := ?_) #[true, true, true, true, true, true, true, true, true, true, true, true, true, false, false] rfl rfl (any_of HT_.out (by kernel_rfl)) (fun _ _ _ h => h) (Or.inl ⟨by rfl, ?_⟩) ?_ ?_
      rotate_left
      · intro w'
        go_simp
        with_reducible rfl
      rotate_left
      · simp only [Act.put, zSa, zSb, zSc, i64_w, i32_w]
        rfl
      refine pure_ (i := 13) (N := some 16) (v := ?_) (a' := ?_) #[true, true, true, true, true, true, true, true, true, true, true, true, true, true, false] rfl rfl (any_of HT_.out (by kernel_rfl)) (fun _ _ _ h => h) (Or.inl ⟨by rfl, ?_⟩) ?_ ?_
      rotate_left
      · intro w'
        go_simp
        with_reducible rfl
      rotate_left
      · simp only [Act.put, zSa, zSb, zSc, i64_w, i32_w]
        rfl
      refine pure_ (i := 14) (N := some 2) (v := ?_) (a' := ?_) #[true, true, true, true, true, true, true, true, true, true, true, true, true, true, true] rfl rfl (any_of HT_.out (by kernel_rfl)) (fun _ _ _ h => h) (Or.inl ⟨by rfl, ?_⟩) ?_ ?_
      rotate_left
      · intro w'
        go_simp
        with_reducible rfl
      rotate_left
      · simp only [Act.put, zSa, zSb, zSc, i64_w, i32_w]
        rfl
      refine done_ (done_of HT_.out (by kernel_rfl)) ?_
      try go_wp2
      go_ret
      exact ⟨by first | rfl | (simp [errW_none, errW_some] <;> rfl) | (simp [*, errW_none, errW_some] <;> rfl), by exact uT HB.out⟩

def filigreelaw12_PathsRight.Pure : Prop := ∀ (a0_0 : Int) (l0_1 : List A.S39), (Lit.int .i64 a0_0).wf = true → l0_1.length ≤ maxLen → (∀ x ∈ l0_1, (Lit.int .i64 x.f0).wf = true ∧ (Lit.int .i64 x.f1).wf = true ∧ (Lit.int .i64 x.f2).wf = true) → ∃ k, filigreelaw12_PathsRight.f k a0_0 l0_1 = some true
theorem pure_PathsRight : filigreelaw12_PathsRight.Pure := by
  intro n l _ _ _
  obtain ⟨k, hk⟩ : ∃ k : Nat, k = 1000000 := ⟨_, rfl⟩
  refine ⟨k, ?_⟩
  unfold filigreelaw12_PathsRight.f
  by_cases h : (l.length : Int) > 1000
  · rw [if_pos h]
  · rw [if_neg h, Right_eq k n l (by omega), zOb, refRight_eq k n l (by omega), zOb, if_pos rfl, hk, alive_at0]
    rfl
end Go.Proofs.Ytnigaojboililaa.A
