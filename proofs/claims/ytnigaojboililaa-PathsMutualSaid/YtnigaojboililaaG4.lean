/- Lemmas for the statement: the walks of the functions that it reaches, and plain laws. -/
import Derived.Test.YtnigaojboililaaG1
import Derived.Test.YtnigaojboililaaG2
import Derived.Test.YtnigaojboililaaG3
set_option linter.unusedVariables false
set_option linter.unusedSimpArgs false
set_option maxHeartbeats 8000000
set_option maxRecDepth 100000
namespace Go.Proofs.Ytnigaojboililaa.A
open Go Go.RowKit Go.Proofs.YtnigaojboililaaW.PrintWords Go.Proofs.YtnigaojboililaaW.PrintLast Go.Proofs.YtnigaojboililaaW.PrintMore
attribute [local go_sem] max2_int min2_int max_two min_two max_three min_three max_four min_four
open Go.Proofs.YtnigaojboililaaW.PrintWords.Kd renaming R_alloc → zRa, R_drewN → zRn, R_drew → zRd, C_alloc → zCa, C_drewN → zCn, C_drew → zCd, R_mono → zRm, at_int → zAi, R_elder' → zRe, R_lower → zRl, R_new' → zRw, R_lt → zRt, R_below → zRb, R_base → zRz, R_reads' → zRr, R_slice → zRs
open Go.Proofs.YtnigaojboililaaW.PrintWords renaming pw_below_drewN → zBn, below_alloc → zBa, below_drew1 → zBd, below_size → zBs, below_step → zBt, blk_drewN → zKn, blk_drew → zKd, blk_alloc → zKa, blk_below → zKb, blk_cell → zKc, blk_frozen → zKf
open List renaming setIfInBounds_toArray → zSa, set_cons_zero → zSb, set_cons_succ → zSc, length_drop → zLd, length_take → zLt, map_toArray → zMa, map_cons → zMc, map_nil → zMn, length_cons → zLc
open Go.Proofs.YtnigaojboililaaW.PrintWords.Aside0 renaming mk → zMk
open Option renaming bind_eq_some_iff → zBi, bind_some → zOb
open Option.some renaming inj → zOi
open Int renaming toNat_natCast → zTn

mutual
def paths_Way.l0 : Nat → List Int → Int → List Int → Int → Int → Int → List (S39) → Option (List Int)
  | 0, _, _, _, _, _, _, _ => none
  | k + 1, x1, x2, x6, x13, x14, x152000, x152001 => if x14 < x13 then (if x2 < 0 then (paths_Way.j1 k x1 x2 x6 x13 x14 true x152000 x152001) else (paths_Way.j1 k x1 x2 x6 x13 x14 (decide (x2 ≥ (mn (x1.length : Int) x152000))) x152000 x152001)) else ((slices_Reverse_int_int.f k x6).bind fun t153 => (some t153))
def paths_Way.j1 : Nat → List Int → Int → List Int → Int → Int → Bool → Int → List (S39) → Option (List Int)
  | 0, _, _, _, _, _, _, _, _ => none
  | k + 1, x1, x2, x6, x13, x14, x26, x152000, x152001 => if x26 = true then (some ([] : List Int)) else (if 0 ≤ x2 then (if x2 < (x1.length : Int) then (if (rd x1 x2) = (-1) then ((slices_Reverse_int_int.f k x6).bind fun t155 => (some t155)) else ((paths_other.f k x152000 x152001 (rd x1 x2) x2).bind fun bt157 => (if bt157.2 = true then (if x6.length < 17592186044416 then (paths_Way.l0 k x1 bt157.1 (x6 ++ [rd x1 x2]) x13 (wrap64 (x14 + 1)) x152000 x152001) else (none)) else (some ([] : List Int))))) else (none)) else (none))
end
def paths_Way.f (k : Nat) (a0_0 : Int) (l0_1 : List (S39)) (l1 : List Int) (a2 : Int) : Option (List Int) := (paths_Right.f k a0_0 l0_1).bind fun t152 => (if t152 = 0 then (paths_Way.l0 k l1 a2 ([] : List Int) a0_0 0 a0_0 l0_1) else (some ([] : List Int)))
def paths_Way.T8 : Bool × List (List Nat × List Nat) := (true, [([], []), ([], []), ([], []), ([1, 2], [1, 2]), ([3], [3]), ([], []), ([0, 4, 5], [0, 4, 5]), ([6], [6]), ([7], [7]), ([7], [7]), ([8, 6, 0, 1, 2, 3, 4, 5, 6, 7, 8], [8]), ([9, 10, 0, 1, 2, 3, 4, 5, 6, 7, 8, 9, 10], [9])])
def paths_Way.B8 : List Nat := [0, 0, 0, 6, 14, 0, 63, 127, 255, 255, 511, 2047]
theorem paths_Way.tab8 : rtab .any (opsOf Try.f16 8) = paths_Way.T8 := by kernel_rfl
theorem paths_Way.bits8 : waitsOk paths_Way.T8.2 paths_Way.B8 = true := by kernel_rfl
theorem paths_Way.calls (k : Nat) (a0_0 : Int) (A0_1 : Option Addr) (c0_1 : Nat) (l0_1 : List (S39)) (A1 : Option Addr) (c1 : Nat) (l1 : List Int) (a2 : Int) (r : List Int) (w : World) (hr0_1 : Kd.C k39 w A0_1 l0_1.length l0_1) (hc0_1 : l0_1.length ≤ c0_1) (hr1 : Kd.C (Kd.int .i64) w A1 l1.length l1) (hc1 : l1.length ≤ c1) (h : paths_Way.f k a0_0 l0_1 l1 a2 = some r) :
    Calls Try.prog 16 #[.agg #[.int .i64 a0_0, .slice A0_1 l0_1.length c0_1], .slice A1 l1.length c1, .int .i64 a2] w fun e w' => ∃ v0_ : Value, e = .returned (v0_) ∧ Kd.R (Kd.int .i64) 3 w' w.heap.size (fun _ => True) v0_ r ∧ Below w.heap.size w w' := by
  have hu24 := Try.underlying24
  have HR0_1 := zMk hr0_1
  have HC0_1 := zMk hc0_1
  clear hr0_1 hc0_1
  have HR1 := zMk hr1
  have HC1 := zMk hc1
  clear hr1 hc1
  have HB := zMk (Below.refl w.heap.size w)
  have H : ((paths_Right.f k a0_0 l0_1).bind fun t152 => (if t152 = 0 then (paths_Way.l0 k l1 a2 ([] : List Int) a0_0 0 a0_0 l0_1) else (some ([] : List Int)))) = some r := h
  clear h
  replace H := bnd H
  obtain ⟨t152, A40, H⟩ := H
  have A4 := zMk A40
  clear A40
  by_cases c5 : t152 = 0
  · rw [if_pos c5] at H
    have c5b0 : (t152 == 0) = true := beq_iff_eq.mpr c5
    have c5b1 : (t152 != 0) = false := bne_eq_false_iff_eq.mpr c5
    clear c5
    have H' := zMk H
    clear H
    go_enter Try.func16, Try.ntmps16
    go_wp2_with (first | ((with_reducible refine gate_dst (N := 3) rfl ?_); (try (refine gate_guard (by rfl) ?_; dsimp only)); refine box_event ?hg (N := 3) ?hd (cs := #[.int .i64 a0_0, .slice A0_1 l0_1.length c0_1]) (t := 24) ?hr ?_; (case hd => rfl); (case hg => rfl); (case hr => first | (go_simp; done)|(go_simp; rfl)|(go_simp; rw [show ∀ x : Int, IntKind.u32.wrap (IntKind.u8.wrap x) = x % 256 from fun x => (by show (x % 256) % 4294967296 = x % 256; omega)])); intro gb151 hg w6 hbox hb; have BK151 := zMk (hbox); have GW151 := zMk ((by rw [hg]; exact (zBs (by exact uT HB.out)) : w.heap.size ≤ gb151)); have GE151 := zMk ((by rw [hg]; exact (zBs (by exact uT HB.out)) : w.heap.size ≤ gb151)); have IGE151 := ownGe GE151.out; replace HB := zMk (zBt (by exact uT HB.out) hb); clear hb hbox hg; have hcz7_0 : w6.cell? ⟨gb151, 0, none⟩ = some (.int .i64 a0_0) := (zKc BK151.out 0).trans rfl; have hcz7_1 : w6.cell? ⟨gb151, 1, none⟩ = some (.slice A0_1 l0_1.length c0_1) := (zKc BK151.out 1).trans rfl; have hfz7_0 := zKf BK151.out 0; have hfz7_1 := zKf BK151.out 1)|((with_reducible refine gate_callee (f := 7) rfl ?_); refine goesL_ (some 10) rfl rfl Try.func7 (by kernel_rfl) rfl #[.agg #[.int .i64 a0_0, .slice A0_1 l0_1.length c0_1]] rfl (by (try simp only [zMa, zMc, zMn]); first |  done|  rfl|  (simp only [zLd, zLt]; rfl)) ?_; (with_reducible refine (paths_Right.calls k a0_0 _ _ l0_1 t152 _ ?side1 ?side2 A4.out).mono ?_); (case side1 => repeat (first |  exact (Kd.C_below HR0_1.out HB.out)|(with_reducible refine zCa ?_ _)|(with_reducible refine zCn ?_ _)|(with_reducible refine zCd ?_))); (case side2 => exact HC0_1.out); rintro e w8 ⟨rfl, hb⟩; refine ⟨_, rfl, ?_⟩; replace BK151 := zMk (zKb (g := gb151) (o := .cells #[.int .i64 a0_0, .slice A0_1 l0_1.length c0_1] 24 (0, 0)) (by (with_reducible repeat (first |  refine zKn ?_ _|  refine zKd ?_|  refine zKa ?_ _)); exact BK151.out) hb); replace HB := zMk (zBt (by exact uT HB.out) hb); have hcz9_0 : w8.cell? ⟨gb151, 0, none⟩ = some (.int .i64 a0_0) := (zKc BK151.out 0).trans rfl; have hcz9_1 : w8.cell? ⟨gb151, 1, none⟩ = some (.slice A0_1 l0_1.length c0_1) := (zKc BK151.out 1).trans rfl; have hfz9_0 := zKf BK151.out 0; have hfz9_1 := zKf BK151.out 1))
    go_loopg [2, 6, 14] k (fun kq v2 v6 v14 w' => ∃ (x2_1 : Int) (x6_1 : List Int) (x14_1 : Int), v2 = .int .i64 x2_1 ∧ v14 = .int .i64 x14_1 ∧ Aside0 (paths_Way.l0 kq l1 x2_1 x6_1 a0_0 x14_1 a0_0 l0_1 = some r) ∧ Aside0 (kq ≤ k) ∧ Aside0 (Kd.R (Kd.int .i64) 3 w' w.heap.size (fun _ => True) v6 x6_1) ∧ Aside0 (w'.heap[gb151]? = some (.cells #[.int .i64 a0_0, (.slice A0_1 l0_1.length c0_1)] 24 (0, 0))) ∧ Aside0 (Below w.heap.size w w'))
    case atStart => exact ⟨(a2), (([] : List Int)), (0), (by first | rfl | (simp; done) | (simp [*]; done)), (by first | rfl | (simp; done) | (simp [*]; done)), H', ⟨Nat.le_refl _⟩, ⟨by first | exact Kd.R_nil _ _ _ _ _ | exact Kd.N_nil _ _ _ _ _ | exact Kd.V_nil _ _ _ _ _ | exact Kd.Q_nil _ _ _ _ _ | exact Kd.S_nil _ _ _ _ _⟩, ⟨by (with_reducible repeat (first | refine zKn ?_ _ | refine zKd ?_ | refine zKa ?_ _)); exact BK151.out⟩, ⟨by exact uT HB.out⟩⟩
    clear H'
    obtain ⟨x2_1, x6_1, x14_1, rfl, rfl, HA, HK1, HO_6, BK151, HB⟩ := hrel
    rcases gk with _ | k1
    · exact absurd HA.out (by simp [paths_Way.l0])
    have H := HA.out
    clear HA
    simp only [paths_Way.l0] at H
    by_cases c10 : x14_1 < a0_0
    · rw [if_pos c10] at H
      have c10b0 : decide (x14_1 < a0_0) = true := decide_eq_true c10
      clear c10
      have HC11 := zMk H
      clear H
      go_upto_region 5 with (fail)
      go_cut [26] (fun v26 wc => ∃ (kq : Nat) (x26_10 : Bool), v26 = .bool x26_10 ∧ Aside0 (paths_Way.j1 kq l1 x2_1 x6_1 a0_0 x14_1 x26_10 a0_0 l0_1 = some r) ∧ Aside0 (kq ≤ k1) ∧ Aside0 (Kd.R (Kd.int .i64) 3 wc w.heap.size (fun _ => True) u6 x6_1) ∧ Aside0 (wc.heap[gb151]? = some (.cells #[.int .i64 a0_0, (.slice A0_1 l0_1.length c0_1)] 24 (0, 0))) ∧ Aside0 (Below w.heap.size w wc))
      case first =>
        have H := HC11.out
        clear HC11
        by_cases c12 : x2_1 < 0
        · rw [if_pos c12] at H
          have c12b0 : decide (x2_1 < 0) = true := decide_eq_true c12
          clear c12
          (first | rw [c12b0] | (simp only [i64_w, i32_w]; rw [c12b0]) | rw [c12b1] | skip)
          have H' := zMk H
          clear H
          go_wp2
          go_meet
          case rel => exact ⟨_, (true), (by first | rfl | (simp; done) | (simp [*]; done)), H', ⟨by have := HK1.out; first | omega | exact Nat.le_refl _⟩, ⟨by exact uR HO_6.out⟩, ⟨by (with_reducible repeat (first | refine zKn ?_ _ | refine zKd ?_ | refine zKa ?_ _)); exact BK151.out⟩, ⟨by exact uT HB.out⟩⟩
        · rw [if_neg c12] at H
          have c12b0 : decide (x2_1 < 0) = false := decide_eq_false c12
          clear c12
          (first | rw [c12b0] | (simp only [i64_w, i32_w]; rw [c12b0]) | rw [c12b1] | skip)
          obtain ⟨ji13, hji13⟩ : ∃ j_ : Int, (mn (l1.length : Int) a0_0) = j_ := ⟨_, rfl⟩
          replace H : (paths_Way.j1 k1 l1 x2_1 x6_1 a0_0 x14_1 (decide (x2_1 ≥ (ji13))) a0_0 l0_1) = some r := by first | (rw [hji13] at H; exact H) | (simp only [hji13] at H ⊢; exact H)
          have hji13_ : (if a0_0 < (l1.length : Int) then a0_0 else (l1.length : Int)) = ji13 := hji13
          have H' := zMk H
          clear H
          have hcz14_0 : wr.cell? ⟨gb151, 0, none⟩ = some (.int .i64 a0_0) := (zKc BK151.out 0).trans rfl
          have hcz14_1 : wr.cell? ⟨gb151, 1, none⟩ = some (.slice A0_1 l0_1.length c0_1) := (zKc BK151.out 1).trans rfl
          have hfz14_0 := zKf BK151.out 0
          have hfz14_1 := zKf BK151.out 1
          go_wp2
          go_meet
          case rel => exact ⟨_, (decide (x2_1 ≥ (ji13))), (by first | rfl | (simp; done) | (simp only [← hji13] <;> (first | rfl | (simp; done))) | (refine congrArg Value.bool ?_; first | (symm; assumption) | (rw [eq_comm]; assumption)) | (simp [*]; done)), H', ⟨by have := HK1.out; first | omega | exact Nat.le_refl _⟩, ⟨by exact uR HO_6.out⟩, ⟨by (with_reducible repeat (first | refine zKn ?_ _ | refine zKd ?_ | refine zKa ?_ _)); exact BK151.out⟩, ⟨by exact uT HB.out⟩⟩
      case rest =>
        clear HC11
        obtain ⟨kq, x26_10, rfl, HA, HJ10, HO_6, BK151, HB⟩ := hcut
        rcases kq with _ | kj10
        · exact absurd HA.out (by simp [paths_Way.j1])
        have H := HA.out
        clear HA
        simp only [paths_Way.j1] at H
        by_cases c15 : x26_10 = true
        · subst c15
          replace H : (some ([] : List Int)) = some r := by rw [if_pos rfl] at H; exact H
          obtain rfl := zOi H
          go_wp2
          go_ret
          exact ⟨_, by first | rfl | (simp [errW_none, errW_some] <;> rfl) | (simp [*, errW_none, errW_some] <;> rfl), by first | exact Kd.R_nil _ _ _ _ _ | exact Kd.N_nil _ _ _ _ _ | exact Kd.V_nil _ _ _ _ _ | exact Kd.Q_nil _ _ _ _ _ | exact Kd.S_nil _ _ _ _ _, by exact uT HB.out⟩
        · replace c15 := Bool.eq_false_iff.mpr c15
          subst c15
          replace H : (if 0 ≤ x2_1 then (if x2_1 < (l1.length : Int) then (if (rd l1 x2_1) = (-1) then ((slices_Reverse_int_int.f kj10 x6_1).bind fun t155 => (some t155)) else ((paths_other.f kj10 a0_0 l0_1 (rd l1 x2_1) x2_1).bind fun bt157 => (if bt157.2 = true then (if x6_1.length < 17592186044416 then (paths_Way.l0 kj10 l1 bt157.1 (x6_1 ++ [rd l1 x2_1]) a0_0 (wrap64 (x14_1 + 1)) a0_0 l0_1) else (none)) else (some ([] : List Int))))) else (none)) else (none)) = some r := by rw [if_neg (show ¬ (false = true) by decide)] at H; exact H
          by_cases c16 : 0 ≤ x2_1
          rotate_left
          · rw [if_neg c16] at H; exact absurd H (by simp)
          rw [if_pos c16] at H
          have c16b0 : decide (0 ≤ x2_1) = true := decide_eq_true c16
          clear c16
          by_cases c17 : x2_1 < (l1.length : Int)
          rotate_left
          · rw [if_neg c17] at H; exact absurd H (by simp)
          rw [if_pos c17] at H
          have c17b0 : decide (x2_1 < (l1.length : Int)) = true := decide_eq_true c17
          clear c17
          by_cases c18 : (rd l1 x2_1) = (-1)
          · rw [if_pos c18] at H
            have c18b0 : ((rd l1 x2_1) == (-1)) = true := beq_iff_eq.mpr c18
            have c18b1 : ((rd l1 x2_1) != (-1)) = false := bne_eq_false_iff_eq.mpr c18
            clear c18
            replace H := bnd H
            obtain ⟨t155, A190, H⟩ := H
            have A19 := zMk A190
            clear A190
            obtain rfl := zOi H
            have p154 : 0 ≤ (x2_1 : Int) := of_decide_eq_true (by assumption)
            have q154 : x2_1 < (l1.length : Int) := of_decide_eq_true (by assumption)
            obtain ⟨ad154, e154, hx154_0⟩ := zAi HR1.out x2_1 p154 q154
            cases e154
            replace hx154_0 := (HB.out.cell (World.block_lt_of_cell? w _ hx154_0)).trans hx154_0
            replace p154 := eq_true p154
            replace q154 := eq_true q154
            obtain ⟨Ao20, co20, eo20⟩ := zRs HO_6.out
            subst eo20
            go_wp2_with (first | ((with_reducible refine gate_callee (f := 27) rfl ?_); refine goesL_ (some 54) rfl rfl Try.func27 (by kernel_rfl) rfl #[.slice Ao20 x6_1.length co20] rfl (by (try simp only [zMa, zMc, zMn]); first |  done|  rfl|  (simp only [zLd, zLt]; rfl)) ?_; (with_reducible refine (slices_Reverse_int_int.calls kj10 (fun k_ => some k_ = (.slice Ao20 x6_1.length co20 : Value).ownBlock) (.slice Ao20 x6_1.length co20) x6_1 t155 w _ ?side1 ?side2 A19.out).mono ?_); (case side1 => exact uT HB.out); (case side2 => exact Kd.R_tight rfl HO_6.out); rintro e w21 ⟨rfl, hy0, hb, hkp⟩; refine ⟨_, rfl, ?_⟩; replace BK151 := zMk (blk_kept (by (with_reducible repeat (first |  refine zKn ?_ _|  refine zKd ?_|  refine zKa ?_ _)); exact BK151.out) hkp (fun hs_ => (fun e_ => (Kd.R_ne HO_6.out BK151.out (by decide)) e_) hs_)); replace HO_6 := zMk (Kd.R_reok rfl hy0 (fun k_ e_ => HO_6.out.1 k_ e_)); replace HB := zMk (hb)))
            go_ret
            exact ⟨_, by first | rfl | (simp [errW_none, errW_some] <;> rfl) | (simp [*, errW_none, errW_some] <;> rfl), by exact uR HO_6.out, by exact uT HB.out⟩
          · rw [if_neg c18] at H
            have c18b0 : ((rd l1 x2_1) == (-1)) = false := beq_eq_false_iff_ne.mpr c18
            have c18b1 : ((rd l1 x2_1) != (-1)) = true := bne_iff_ne.mpr c18
            replace H := bnd H
            obtain ⟨⟨t157, t158⟩, A220, H⟩ := H
            replace H : (if t158 = true then (if x6_1.length < 17592186044416 then (paths_Way.l0 kj10 l1 t157 (x6_1 ++ [rd l1 x2_1]) a0_0 (wrap64 (x14_1 + 1)) a0_0 l0_1) else (none)) else (some ([] : List Int))) = some r := H
            have A22 := zMk A220
            clear A220
            by_cases c23 : t158 = true
            · subst c23
              replace H : (if x6_1.length < 17592186044416 then (paths_Way.l0 kj10 l1 t157 (x6_1 ++ [rd l1 x2_1]) a0_0 (wrap64 (x14_1 + 1)) a0_0 l0_1) else (none)) = some r := by rw [if_pos rfl] at H; exact H
              by_cases c24 : x6_1.length < 17592186044416
              rotate_left
              · rw [if_neg c24] at H; exact absurd H (by simp)
              rw [if_pos c24] at H
              have LMc24 := zMk c24
              clear c24
              obtain ⟨y160, hy160⟩ : ∃ y_ : List Int, y_ = (x6_1 ++ [rd l1 x2_1]) := ⟨_, rfl⟩
              replace H : (paths_Way.l0 kj10 l1 t157 y160 a0_0 (wrap64 (x14_1 + 1)) a0_0 l0_1) = some r := by first | (rw [hy160]; with_reducible exact H) | (have H2_ := bsm H; first | (rw [hy160]; with_reducible exact H2_) | with_reducible exact H2_) | with_reducible exact H | (rw [hy160]; exact H) | exact H
              have Ny160 := zMk hy160
              clear hy160
              have H' := zMk H
              clear H
              have p154 : 0 ≤ (x2_1 : Int) := of_decide_eq_true (by assumption)
              have q154 : x2_1 < (l1.length : Int) := of_decide_eq_true (by assumption)
              obtain ⟨ad154, e154, hx154_0⟩ := zAi HR1.out x2_1 p154 q154
              cases e154
              replace hx154_0 := (HB.out.cell (World.block_lt_of_cell? w _ hx154_0)).trans hx154_0
              replace p154 := eq_true p154
              replace q154 := eq_true q154
              try go_wp2
              replace HO_6 := zMk (zRd HO_6.out)
              replace BK151 := zMk (zKd BK151.out)
              replace HB := zMk (zBd HB.out)
              have p156 : 0 ≤ (x2_1 : Int) := of_decide_eq_true (by assumption)
              have q156 : x2_1 < (l1.length : Int) := of_decide_eq_true (by assumption)
              obtain ⟨ad156, e156, hx156_0⟩ := zAi HR1.out x2_1 p156 q156
              have hw156_0 := hx156_0
              obtain rfl : ad154 = ad156 := (by injection e156)
              replace hx156_0 := (HB.out.cell (World.block_lt_of_cell? w _ hx156_0)).trans hx156_0
              replace p156 := eq_true p156
              replace q156 := eq_true q156
              refine start_ (n := 12) (S := fun w' => w'.cell? ⟨gb151, 0, none⟩ = some (.int .i64 a0_0) ∧ w'.cell? ⟨gb151, 1, none⟩ = some (.slice A0_1 l0_1.length c0_1) ∧ w'.cell? (ad154.add (x2_1).toNat) = some (.int .i64 (rd l1 x2_1))) (ds := []) #[false, false, false, false, false, false, false, false, false, false, false, false] (by kernel_rfl) rfl rfl ⟨(zKc BK151.out 0).trans rfl, (zKc BK151.out 1).trans rfl, ((HB.out.cell (World.block_lt_of_cell? w _ hw156_0)).trans hw156_0)⟩ (fun hHeld => ?_); refine with_tabW paths_Way.tab8 paths_Way.bits8 (fun HT_ HW_ => ?_)
              generalize wc.drew = w25 at HO_6 BK151 HB hx156_0 hHeld ⊢
              refine pure_ (i := 1) (N := some 34) (v := ?_) (a' := ?_) #[false, true, false, false, false, false, false, false, false, false, false, false] rfl rfl (any_of HT_.out (by kernel_rfl)) (fun _ _ _ h => h) (Or.inl ⟨by rfl, ?_⟩) ?_ ?_
              rotate_left
              · intro w'
                go_simp
                with_reducible rfl
              rotate_left
              · simp only [Act.put, zSa, zSb, zSc, i64_w, i32_w]
                rfl
              refine pure_ (i := 2) (N := some 35) (v := ?_) (a' := ?_) #[false, true, true, false, false, false, false, false, false, false, false, false] rfl rfl (any_of HT_.out (by kernel_rfl)) (fun _ _ _ h => h) (Or.inl ⟨by rfl, ?_⟩) ?_ ?_
              rotate_left
              · intro w'
                go_simp
                with_reducible rfl
              rotate_left
              · simp only [Act.put, zSa, zSb, zSc, i64_w, i32_w]
                rfl
              refine pure_ (i := 3) (N := some 36) (v := ?_) (a' := ?_) #[false, true, true, true, false, false, false, false, false, false, false, false] rfl rfl (any_of HT_.out (by kernel_rfl)) (fun _ _ _ h => h) (Or.inl ⟨by rfl, ?_⟩) ?_ ?_
              rotate_left
              · intro w'
                go_simp
                with_reducible rfl
              rotate_left
              · simp only [Act.put, zSa, zSb, zSc, i64_w, i32_w]
                rfl
              refine pure_ (i := 5) (N := some 38) (v := ?_) (a' := ?_) #[false, true, true, true, false, true, false, false, false, false, false, false] rfl rfl (any_of HT_.out (by kernel_rfl)) (fun _ _ _ h => h) (Or.inl ⟨by rfl, ?_⟩) ?_ ?_
              rotate_left
              · intro w'
                go_simp
                with_reducible rfl
              rotate_left
              · simp only [Act.put, zSa, zSb, zSc, i64_w, i32_w]
                rfl
              refine take_ (i := 0) (N := some 33) (v := ?_) (a' := ?_) #[true, true, true, true, false, true, false, false, false, false, false, false] rfl rfl (take_ofW HT_.out HW_.out (by kernel_rfl)) (fun _ _ _ h => h) (Or.inl ⟨by rfl, ?_⟩) hHeld ?_ ?_
              rotate_left
              · rintro w' ⟨s0, s1, s2⟩
                go_simp
                with_reducible rfl
              rotate_left
              · simp only [Act.put, zSa, zSb, zSc, i64_w, i32_w]
                rfl
              refine take_ (i := 4) (N := some 37) (v := ?_) (a' := ?_) #[true, true, true, true, true, true, false, false, false, false, false, false] rfl rfl (take_ofW HT_.out HW_.out (by kernel_rfl)) (fun _ _ _ h => h) (Or.inl ⟨by rfl, ?_⟩) hHeld ?_ ?_
              rotate_left
              · rintro w' ⟨s0, s1, s2⟩
                go_simp
                with_reducible rfl
              rotate_left
              · simp only [Act.put, zSa, zSb, zSc, i64_w, i32_w]
                rfl
              refine one_ (i := 6) (N := some 39) #[true, true, true, true, true, true, true, false, false, false, false, false] rfl rfl (one_of HT_.out (by kernel_rfl)) (by decide) (fun K hK => ?_)
              refine goes_ Try.func25 (by kernel_rfl) rfl #[.agg #[.int .i64 a0_0, .slice A0_1 l0_1.length c0_1], .int .i64 (rd l1 x2_1), .int .i64 x2_1] (by rfl) rfl rfl (by (try simp only [zMa, zMc, zMn]); first | done | rfl | (simp only [zLd, zLt]; rfl)) ?_
              with_reducible refine (paths_other.calls kj10 a0_0 _ _ l0_1 (rd l1 x2_1) x2_1 t157 true _ ?side1 ?side2 A22.out).mono ?_
              (case side1 => repeat (first | exact (Kd.C_below HR0_1.out HB.out) | (with_reducible refine zCa ?_ _) | (with_reducible refine zCn ?_ _) | (with_reducible refine zCd ?_)))
              (case side2 => exact HC0_1.out)
              rintro e w26 ⟨rfl, hb⟩
              refine ⟨_, rfl, ?_⟩
              replace HO_6 := zMk (zRb (by exact uR HO_6.out) hb)
              replace BK151 := zMk (zKb (g := gb151) (o := .cells #[.int .i64 a0_0, .slice A0_1 l0_1.length c0_1] 24 (0, 0)) (by (with_reducible repeat (first | refine zKn ?_ _ | refine zKd ?_ | refine zKa ?_ _)); exact BK151.out) hb)
              replace HB := zMk (zBt (by exact uT HB.out) hb)
              refine hK.out _ _ ⟨(zKc BK151.out 0).trans rfl, (zKc BK151.out 1).trans rfl, ((HB.out.cell (World.block_lt_of_cell? w _ hw156_0)).trans hw156_0)⟩ (fun hHeld => ?_)
              clear hK K
              refine norm_ (a' := ?_) ?_ ?_
              rotate_left
              · show Act.put _ (some 39) _ = _
                simp only [Act.put, zSa, zSb, zSc, i64_w, i32_w]
                rfl
              refine pure_ (i := 7) (N := some 32) (v := ?_) (a' := ?_) #[true, true, true, true, true, true, true, true, false, false, false, false] rfl rfl (any_of HT_.out (by kernel_rfl)) (fun _ _ _ h => h) (Or.inl ⟨by rfl, ?_⟩) ?_ ?_
              rotate_left
              · intro w'
                go_simp
                with_reducible rfl
              rotate_left
              · simp only [Act.put, zSa, zSb, zSc, i64_w, i32_w]
                rfl
              refine pure_ (i := 8) (N := some 40) (v := ?_) (a' := ?_) #[true, true, true, true, true, true, true, true, true, false, false, false] rfl rfl (any_of HT_.out (by kernel_rfl)) (fun _ _ _ h => h) (Or.inl ⟨by rfl, ?_⟩) ?_ ?_
              rotate_left
              · intro w'
                go_simp
                with_reducible rfl
              rotate_left
              · simp only [Act.put, zSa, zSb, zSc, i64_w, i32_w]
                rfl
              refine pure_ (i := 9) (N := some 41) (v := ?_) (a' := ?_) #[true, true, true, true, true, true, true, true, true, true, false, false] rfl rfl (any_of HT_.out (by kernel_rfl)) (fun _ _ _ h => h) (Or.inl ⟨by rfl, ?_⟩) ?_ ?_
              rotate_left
              · intro w'
                go_simp
                with_reducible rfl
              rotate_left
              · simp only [Act.put, zSa, zSb, zSc, i64_w, i32_w]
                rfl
              refine pure_ (i := 10) (N := some 7) (v := ?_) (a' := ?_) #[true, true, true, true, true, true, true, true, true, true, true, false] rfl rfl (any_of HT_.out (by kernel_rfl)) (fun _ _ _ h => h) (Or.inl ⟨by rfl, ?_⟩) ?_ ?_
              rotate_left
              · intro w'
                go_simp
                with_reducible rfl
              rotate_left
              · simp only [Act.put, zSa, zSb, zSc, i64_w, i32_w]
                rfl
              refine pure_ (i := 11) (N := some 8) (v := ?_) (a' := ?_) #[true, true, true, true, true, true, true, true, true, true, true, true] rfl rfl (any_of HT_.out (by kernel_rfl)) (fun _ _ _ h => h) (Or.inl ⟨by rfl, ?_⟩) ?_ ?_
              rotate_left
              · intro w'
                go_simp
                with_reducible rfl
              rotate_left
              · simp only [Act.put, zSa, zSb, zSc, i64_w, i32_w]
                rfl
              refine done_ (done_of HT_.out (by kernel_rfl)) ?_
              have p159 : 0 ≤ (x2_1 : Int) := of_decide_eq_true (by assumption)
              have q159 : x2_1 < (l1.length : Int) := of_decide_eq_true (by assumption)
              obtain ⟨ad159, e159, hx159_0⟩ := zAi HR1.out x2_1 p159 q159
              obtain rfl : ad154 = ad159 := (by injection e159)
              replace hx159_0 := (HB.out.cell (World.block_lt_of_cell? w _ hx159_0)).trans hx159_0
              replace p159 := eq_true p159
              replace q159 := eq_true q159
              try go_wp2_with (first | ((with_reducible refine gate_builtin (b := .append) (xs := #[.tmp 44, .tmp 49]) rfl ?_); (try (refine gate_guard (by rfl) ?_; dsimp only)); at_builtin; refine Kd.R_append (Kd.int .i64) (w0 := w) w.heap.size rfl (.tmp 44) (.tmp 49) 31 3 (.int .i64 0) 8 rfl Try.underlying31 info3 rfl (by decide) (by omega) u6 x6_1 (rd l1 x2_1) [.int .i64 (rd l1 x2_1)] (fun _ => True) (fun _ => False) rfl rfl ?aP (fun _ hk => hk.elim) ?aF ?aO ?aB ?aS ?aL ?_; (case aP => exact rfl); (case aB => exact (by exact uT HB.out)); (case aF => exact (fun _ _ => trivial)); (case aO => exact (by exact uR HO_6.out)); (case aS => exact (zBs (by exact uT HB.out))); (case aL => have := LMc24.out; omega); intro v161 w27 ho hb hg hat; rw [← Ny160.out] at ho; replace BK151 := zMk (blk_grown (g := gb151) (o := .cells #[.int .i64 a0_0, .slice A0_1 l0_1.length c0_1] 24 (0, 0)) (by (with_reducible repeat (first |  refine zKn ?_ _|  refine zKd ?_|  refine zKa ?_ _)); exact BK151.out) hg (Kd.R_ne HO_6.out BK151.out (by decide))); replace HB := zMk (hb); have HO162 := zMk (ho); clear HO_6 ho hb hg hat))
              go_roundg kj10
              case measure => have := HK1.out; have := HJ10.out; omega
              case rel => exact ⟨(t157), (y160), (wrap64 (x14_1 + 1)), (by first | rfl | (simp; done) | (simp [*]; done)), (by first | rfl | (simp; done) | (simp [*]; done)), H', ⟨by have := HK1.out; have := HJ10.out; omega⟩, ⟨by exact uR HO162.out⟩, ⟨by (with_reducible repeat (first | refine zKn ?_ _ | refine zKd ?_ | refine zKa ?_ _)); exact BK151.out⟩, ⟨by exact uT HB.out⟩⟩
            · replace c23 := Bool.eq_false_iff.mpr c23
              subst c23
              replace H : (some ([] : List Int)) = some r := by rw [if_neg (show ¬ (false = true) by decide)] at H; exact H
              obtain rfl := zOi H
              have p154 : 0 ≤ (x2_1 : Int) := of_decide_eq_true (by assumption)
              have q154 : x2_1 < (l1.length : Int) := of_decide_eq_true (by assumption)
              obtain ⟨ad154, e154, hx154_0⟩ := zAi HR1.out x2_1 p154 q154
              cases e154
              replace hx154_0 := (HB.out.cell (World.block_lt_of_cell? w _ hx154_0)).trans hx154_0
              replace p154 := eq_true p154
              replace q154 := eq_true q154
              try go_wp2
              replace HO_6 := zMk (zRd HO_6.out)
              replace BK151 := zMk (zKd BK151.out)
              replace HB := zMk (zBd HB.out)
              have p156 : 0 ≤ (x2_1 : Int) := of_decide_eq_true (by assumption)
              have q156 : x2_1 < (l1.length : Int) := of_decide_eq_true (by assumption)
              obtain ⟨ad156, e156, hx156_0⟩ := zAi HR1.out x2_1 p156 q156
              have hw156_0 := hx156_0
              obtain rfl : ad154 = ad156 := (by injection e156)
              replace hx156_0 := (HB.out.cell (World.block_lt_of_cell? w _ hx156_0)).trans hx156_0
              replace p156 := eq_true p156
              replace q156 := eq_true q156
              refine start_ (n := 12) (S := fun w' => w'.cell? ⟨gb151, 0, none⟩ = some (.int .i64 a0_0) ∧ w'.cell? ⟨gb151, 1, none⟩ = some (.slice A0_1 l0_1.length c0_1) ∧ w'.cell? (ad154.add (x2_1).toNat) = some (.int .i64 (rd l1 x2_1))) (ds := []) #[false, false, false, false, false, false, false, false, false, false, false, false] (by kernel_rfl) rfl rfl ⟨(zKc BK151.out 0).trans rfl, (zKc BK151.out 1).trans rfl, ((HB.out.cell (World.block_lt_of_cell? w _ hw156_0)).trans hw156_0)⟩ (fun hHeld => ?_); refine with_tabW paths_Way.tab8 paths_Way.bits8 (fun HT_ HW_ => ?_)
              generalize wc.drew = w28 at HO_6 BK151 HB hx156_0 hHeld ⊢
              refine pure_ (i := 1) (N := some 34) (v := ?_) (a' := ?_) #[false, true, false, false, false, false, false, false, false, false, false, false] rfl rfl (any_of HT_.out (by kernel_rfl)) (fun _ _ _ h => h) (Or.inl ⟨by rfl, ?_⟩) ?_ ?_
              rotate_left
              · intro w'
                go_simp
                with_reducible rfl
              rotate_left
              · simp only [Act.put, zSa, zSb, zSc, i64_w, i32_w]
                rfl
              refine pure_ (i := 2) (N := some 35) (v := ?_) (a' := ?_) #[false, true, true, false, false, false, false, false, false, false, false, false] rfl rfl (any_of HT_.out (by kernel_rfl)) (fun _ _ _ h => h) (Or.inl ⟨by rfl, ?_⟩) ?_ ?_
              rotate_left
              · intro w'
                go_simp
                with_reducible rfl
              rotate_left
              · simp only [Act.put, zSa, zSb, zSc, i64_w, i32_w]
                rfl
              refine pure_ (i := 3) (N := some 36) (v := ?_) (a' := ?_) #[false, true, true, true, false, false, false, false, false, false, false, false] rfl rfl (any_of HT_.out (by kernel_rfl)) (fun _ _ _ h => h) (Or.inl ⟨by rfl, ?_⟩) ?_ ?_
              rotate_left
              · intro w'
                go_simp
                with_reducible rfl
              rotate_left
              · simp only [Act.put, zSa, zSb, zSc, i64_w, i32_w]
                rfl
              refine pure_ (i := 5) (N := some 38) (v := ?_) (a' := ?_) #[false, true, true, true, false, true, false, false, false, false, false, false] rfl rfl (any_of HT_.out (by kernel_rfl)) (fun _ _ _ h => h) (Or.inl ⟨by rfl, ?_⟩) ?_ ?_
              rotate_left
              · intro w'
                go_simp
                with_reducible rfl
              rotate_left
              · simp only [Act.put, zSa, zSb, zSc, i64_w, i32_w]
                rfl
              refine take_ (i := 0) (N := some 33) (v := ?_) (a' := ?_) #[true, true, true, true, false, true, false, false, false, false, false, false] rfl rfl (take_ofW HT_.out HW_.out (by kernel_rfl)) (fun _ _ _ h => h) (Or.inl ⟨by rfl, ?_⟩) hHeld ?_ ?_
              rotate_left
              · rintro w' ⟨s0, s1, s2⟩
                go_simp
                with_reducible rfl
              rotate_left
              · simp only [Act.put, zSa, zSb, zSc, i64_w, i32_w]
                rfl
              refine take_ (i := 4) (N := some 37) (v := ?_) (a' := ?_) #[true, true, true, true, true, true, false, false, false, false, false, false] rfl rfl (take_ofW HT_.out HW_.out (by kernel_rfl)) (fun _ _ _ h => h) (Or.inl ⟨by rfl, ?_⟩) hHeld ?_ ?_
              rotate_left
              · rintro w' ⟨s0, s1, s2⟩
                go_simp
                with_reducible rfl
              rotate_left
              · simp only [Act.put, zSa, zSb, zSc, i64_w, i32_w]
                rfl
              refine one_ (i := 6) (N := some 39) #[true, true, true, true, true, true, true, false, false, false, false, false] rfl rfl (one_of HT_.out (by kernel_rfl)) (by decide) (fun K hK => ?_)
              refine goes_ Try.func25 (by kernel_rfl) rfl #[.agg #[.int .i64 a0_0, .slice A0_1 l0_1.length c0_1], .int .i64 (rd l1 x2_1), .int .i64 x2_1] (by rfl) rfl rfl (by (try simp only [zMa, zMc, zMn]); first | done | rfl | (simp only [zLd, zLt]; rfl)) ?_
              with_reducible refine (paths_other.calls kj10 a0_0 _ _ l0_1 (rd l1 x2_1) x2_1 t157 false _ ?side1 ?side2 A22.out).mono ?_
              (case side1 => repeat (first | exact (Kd.C_below HR0_1.out HB.out) | (with_reducible refine zCa ?_ _) | (with_reducible refine zCn ?_ _) | (with_reducible refine zCd ?_)))
              (case side2 => exact HC0_1.out)
              rintro e w29 ⟨rfl, hb⟩
              refine ⟨_, rfl, ?_⟩
              replace HO_6 := zMk (zRb (by exact uR HO_6.out) hb)
              replace BK151 := zMk (zKb (g := gb151) (o := .cells #[.int .i64 a0_0, .slice A0_1 l0_1.length c0_1] 24 (0, 0)) (by (with_reducible repeat (first | refine zKn ?_ _ | refine zKd ?_ | refine zKa ?_ _)); exact BK151.out) hb)
              replace HB := zMk (zBt (by exact uT HB.out) hb)
              refine hK.out _ _ ⟨(zKc BK151.out 0).trans rfl, (zKc BK151.out 1).trans rfl, ((HB.out.cell (World.block_lt_of_cell? w _ hw156_0)).trans hw156_0)⟩ (fun hHeld => ?_)
              clear hK K
              refine norm_ (a' := ?_) ?_ ?_
              rotate_left
              · show Act.put _ (some 39) _ = _
                simp only [Act.put, zSa, zSb, zSc, i64_w, i32_w]
                rfl
              refine pure_ (i := 7) (N := some 32) (v := ?_) (a' := ?_) #[true, true, true, true, true, true, true, true, false, false, false, false] rfl rfl (any_of HT_.out (by kernel_rfl)) (fun _ _ _ h => h) (Or.inl ⟨by rfl, ?_⟩) ?_ ?_
              rotate_left
              · intro w'
                go_simp
                with_reducible rfl
              rotate_left
              · simp only [Act.put, zSa, zSb, zSc, i64_w, i32_w]
                rfl
              refine pure_ (i := 8) (N := some 40) (v := ?_) (a' := ?_) #[true, true, true, true, true, true, true, true, true, false, false, false] rfl rfl (any_of HT_.out (by kernel_rfl)) (fun _ _ _ h => h) (Or.inl ⟨by rfl, ?_⟩) ?_ ?_
              rotate_left
              · intro w'
                go_simp
                with_reducible rfl
              rotate_left
              · simp only [Act.put, zSa, zSb, zSc, i64_w, i32_w]
                rfl
              refine pure_ (i := 9) (N := some 41) (v := ?_) (a' := ?_) #[true, true, true, true, true, true, true, true, true, true, false, false] rfl rfl (any_of HT_.out (by kernel_rfl)) (fun _ _ _ h => h) (Or.inl ⟨by rfl, ?_⟩) ?_ ?_
              rotate_left
              · intro w'
                go_simp
                with_reducible rfl
              rotate_left
              · simp only [Act.put, zSa, zSb, zSc, i64_w, i32_w]
                rfl
              refine pure_ (i := 10) (N := some 7) (v := ?_) (a' := ?_) #[true, true, true, true, true, true, true, true, true, true, true, false] rfl rfl (any_of HT_.out (by kernel_rfl)) (fun _ _ _ h => h) (Or.inl ⟨by rfl, ?_⟩) ?_ ?_
              rotate_left
              · intro w'
                go_simp
                with_reducible rfl
              rotate_left
              · simp only [Act.put, zSa, zSb, zSc, i64_w, i32_w]
                rfl
              refine pure_ (i := 11) (N := some 8) (v := ?_) (a' := ?_) #[true, true, true, true, true, true, true, true, true, true, true, true] rfl rfl (any_of HT_.out (by kernel_rfl)) (fun _ _ _ h => h) (Or.inl ⟨by rfl, ?_⟩) ?_ ?_
              rotate_left
              · intro w'
                go_simp
                with_reducible rfl
              rotate_left
              · simp only [Act.put, zSa, zSb, zSc, i64_w, i32_w]
                rfl
              refine done_ (done_of HT_.out (by kernel_rfl)) ?_
              try go_wp2
              go_ret
              exact ⟨_, by first | rfl | (simp [errW_none, errW_some] <;> rfl) | (simp [*, errW_none, errW_some] <;> rfl), by first | exact Kd.R_nil _ _ _ _ _ | exact Kd.N_nil _ _ _ _ _ | exact Kd.V_nil _ _ _ _ _ | exact Kd.Q_nil _ _ _ _ _ | exact Kd.S_nil _ _ _ _ _, by exact uT HB.out⟩
    · rw [if_neg c10] at H
      have c10b0 : decide (x14_1 < a0_0) = false := decide_eq_false c10
      clear c10
      replace H := bnd H
      obtain ⟨t153, A300, H⟩ := H
      have A30 := zMk A300
      clear A300
      obtain rfl := zOi H
      obtain ⟨Ao31, co31, eo31⟩ := zRs HO_6.out
      subst eo31
      go_wp2_with (first | ((with_reducible refine gate_callee (f := 27) rfl ?_); refine goesL_ (some 54) rfl rfl Try.func27 (by kernel_rfl) rfl #[.slice Ao31 x6_1.length co31] rfl (by (try simp only [zMa, zMc, zMn]); first |  done|  rfl|  (simp only [zLd, zLt]; rfl)) ?_; (with_reducible refine (slices_Reverse_int_int.calls k1 (fun k_ => some k_ = (.slice Ao31 x6_1.length co31 : Value).ownBlock) (.slice Ao31 x6_1.length co31) x6_1 t153 w _ ?side1 ?side2 A30.out).mono ?_); (case side1 => exact uT HB.out); (case side2 => exact Kd.R_tight rfl HO_6.out); rintro e w32 ⟨rfl, hy0, hb, hkp⟩; refine ⟨_, rfl, ?_⟩; replace BK151 := zMk (blk_kept (by (with_reducible repeat (first |  refine zKn ?_ _|  refine zKd ?_|  refine zKa ?_ _)); exact BK151.out) hkp (fun hs_ => (fun e_ => (Kd.R_ne HO_6.out BK151.out (by decide)) e_) hs_)); replace HO_6 := zMk (Kd.R_reok rfl hy0 (fun k_ e_ => HO_6.out.1 k_ e_)); replace HB := zMk (hb)))
      go_ret
      exact ⟨_, by first | rfl | (simp [errW_none, errW_some] <;> rfl) | (simp [*, errW_none, errW_some] <;> rfl), by exact uR HO_6.out, by exact uT HB.out⟩
  · rw [if_neg c5] at H
    have c5b0 : (t152 == 0) = false := beq_eq_false_iff_ne.mpr c5
    have c5b1 : (t152 != 0) = true := bne_iff_ne.mpr c5
    obtain rfl := zOi H
    go_enter Try.func16, Try.ntmps16
    go_wp2_with (first | ((with_reducible refine gate_dst (N := 3) rfl ?_); (try (refine gate_guard (by rfl) ?_; dsimp only)); refine box_event ?hg (N := 3) ?hd (cs := #[.int .i64 a0_0, .slice A0_1 l0_1.length c0_1]) (t := 24) ?hr ?_; (case hd => rfl); (case hg => rfl); (case hr => first | (go_simp; done)|(go_simp; rfl)|(go_simp; rw [show ∀ x : Int, IntKind.u32.wrap (IntKind.u8.wrap x) = x % 256 from fun x => (by show (x % 256) % 4294967296 = x % 256; omega)])); intro gb151 hg w33 hbox hb; have BK151 := zMk (hbox); have GW151 := zMk ((by rw [hg]; exact (zBs (by exact uT HB.out)) : w.heap.size ≤ gb151)); have GE151 := zMk ((by rw [hg]; exact (zBs (by exact uT HB.out)) : w.heap.size ≤ gb151)); have IGE151 := ownGe GE151.out; replace HB := zMk (zBt (by exact uT HB.out) hb); clear hb hbox hg; have hcz34_0 : w33.cell? ⟨gb151, 0, none⟩ = some (.int .i64 a0_0) := (zKc BK151.out 0).trans rfl; have hcz34_1 : w33.cell? ⟨gb151, 1, none⟩ = some (.slice A0_1 l0_1.length c0_1) := (zKc BK151.out 1).trans rfl; have hfz34_0 := zKf BK151.out 0; have hfz34_1 := zKf BK151.out 1)|((with_reducible refine gate_callee (f := 7) rfl ?_); refine goesL_ (some 10) rfl rfl Try.func7 (by kernel_rfl) rfl #[.agg #[.int .i64 a0_0, .slice A0_1 l0_1.length c0_1]] rfl (by (try simp only [zMa, zMc, zMn]); first |  done|  rfl|  (simp only [zLd, zLt]; rfl)) ?_; (with_reducible refine (paths_Right.calls k a0_0 _ _ l0_1 t152 _ ?side1 ?side2 A4.out).mono ?_); (case side1 => repeat (first |  exact (Kd.C_below HR0_1.out HB.out)|(with_reducible refine zCa ?_ _)|(with_reducible refine zCn ?_ _)|(with_reducible refine zCd ?_))); (case side2 => exact HC0_1.out); rintro e w35 ⟨rfl, hb⟩; refine ⟨_, rfl, ?_⟩; replace BK151 := zMk (zKb (g := gb151) (o := .cells #[.int .i64 a0_0, .slice A0_1 l0_1.length c0_1] 24 (0, 0)) (by (with_reducible repeat (first |  refine zKn ?_ _|  refine zKd ?_|  refine zKa ?_ _)); exact BK151.out) hb); replace HB := zMk (zBt (by exact uT HB.out) hb)))
    go_ret
    exact ⟨_, by first | rfl | (simp [errW_none, errW_some] <;> rfl) | (simp [*, errW_none, errW_some] <;> rfl), by first | exact Kd.R_nil _ _ _ _ _ | exact Kd.N_nil _ _ _ _ _ | exact Kd.V_nil _ _ _ _ _ | exact Kd.Q_nil _ _ _ _ _ | exact Kd.S_nil _ _ _ _ _, by exact uT HB.out⟩


def filigreeref04_Ints.l0 : Nat → List Int → List Int → Int → Option (Bool)
  | 0, _, _, _ => none
  | k + 1, x0, x1, x5 => if x5 < (x0.length : Int) then (if 0 ≤ x5 then (if x5 < (x1.length : Int) then (if (rd x0 x5) = (rd x1 x5) then (filigreeref04_Ints.l0 k x0 x1 (wrap64 (x5 + 1))) else (some false)) else (none)) else (none)) else (some true)
def filigreeref04_Ints.f (k : Nat) (l0 : List Int) (l1 : List Int) : Option (Bool) := if (l0.length : Int) = (l1.length : Int) then (filigreeref04_Ints.l0 k l0 l1 0) else (some false)
theorem filigreeref04_Ints.calls (k : Nat) (A0 : Option Addr) (c0 : Nat) (l0 : List Int) (A1 : Option Addr) (c1 : Nat) (l1 : List Int) (r : Bool) (w : World) (hr0 : Kd.C (Kd.int .i64) w A0 l0.length l0) (hc0 : l0.length ≤ c0) (hr1 : Kd.C (Kd.int .i64) w A1 l1.length l1) (hc1 : l1.length ≤ c1) (h : filigreeref04_Ints.f k l0 l1 = some r) :
    Calls Try.prog 17 #[.slice A0 l0.length c0, .slice A1 l1.length c1] w fun e w' => e = .returned (.bool r) ∧ Drawn0 w w' := by
  have HR0 := zMk hr0
  have HC0 := zMk hc0
  clear hr0 hc0
  have HR1 := zMk hr1
  have HC1 := zMk hc1
  clear hr1 hc1
  have H : (if (l0.length : Int) = (l1.length : Int) then (filigreeref04_Ints.l0 k l0 l1 0) else (some false)) = some r := h
  clear h
  by_cases c3 : (l0.length : Int) = (l1.length : Int)
  · rw [if_pos c3] at H
    have c3b0 : ((l0.length : Int) == (l1.length : Int)) = true := beq_iff_eq.mpr c3
    have c3b1 : ((l0.length : Int) != (l1.length : Int)) = false := bne_eq_false_iff_eq.mpr c3
    have c3b2 : (l0.length == l1.length) = true := by first | simpa using c3 | (simp at c3 ⊢; omega)
    clear c3
    have H' := zMk H
    clear H
    go_enter Try.func17, Try.ntmps17
    go_wp2
    repeat (go_quiet (fail); try go_wp2)
    go_loopg [5] k (fun kq v5 w' => ∃ (x5_1 : Int), v5 = .int .i64 x5_1 ∧ Aside0 (filigreeref04_Ints.l0 kq l0 l1 x5_1 = some r) ∧ Aside0 (kq ≤ k) ∧ Drawn0 w w')
    case atStart => exact ⟨(0), (by first | rfl | (simp; done) | (simp [*]; done)), H', ⟨Nat.le_refl _⟩, by repeat (first | exact Drawn0.refl _ | apply Drawn0.step)⟩
    clear H'
    obtain ⟨x5_1, rfl, HA, HK1, ⟨m1, rfl⟩⟩ := hrel
    rcases gk with _ | k1
    · exact absurd HA.out (by simp [filigreeref04_Ints.l0])
    have H := HA.out
    clear HA
    simp only [filigreeref04_Ints.l0] at H
    by_cases c4 : x5_1 < (l0.length : Int)
    · rw [if_pos c4] at H
      have c4b0 : decide (x5_1 < (l0.length : Int)) = true := decide_eq_true c4
      clear c4
      by_cases c5 : 0 ≤ x5_1
      rotate_left
      · rw [if_neg c5] at H; exact absurd H (by simp)
      rw [if_pos c5] at H
      have c5b0 : decide (0 ≤ x5_1) = true := decide_eq_true c5
      clear c5
      by_cases c6 : x5_1 < (l1.length : Int)
      rotate_left
      · rw [if_neg c6] at H; exact absurd H (by simp)
      rw [if_pos c6] at H
      have c6b0 : decide (x5_1 < (l1.length : Int)) = true := decide_eq_true c6
      clear c6
      by_cases c7 : (rd l0 x5_1) = (rd l1 x5_1)
      · rw [if_pos c7] at H
        have c7b0 : ((rd l0 x5_1) == (rd l1 x5_1)) = true := beq_iff_eq.mpr c7
        have c7b1 : ((rd l0 x5_1) != (rd l1 x5_1)) = false := bne_eq_false_iff_eq.mpr c7
        clear c7
        have H' := zMk H
        clear H
        have p163 : 0 ≤ (x5_1 : Int) := of_decide_eq_true (by assumption)
        have q163 : x5_1 < (l0.length : Int) := of_decide_eq_true (by assumption)
        obtain ⟨ad163, e163, hx163_0⟩ := zAi HR0.out x5_1 p163 q163
        cases e163
        replace p163 := eq_true p163
        replace q163 := eq_true q163
        have p164 : 0 ≤ (x5_1 : Int) := of_decide_eq_true (by assumption)
        have q164 : x5_1 < (l1.length : Int) := of_decide_eq_true (by assumption)
        obtain ⟨ad164, e164, hx164_0⟩ := zAi HR1.out x5_1 p164 q164
        cases e164
        replace p164 := eq_true p164
        replace q164 := eq_true q164
        go_wp2
        repeat (go_quiet (fail); try go_wp2)
        go_roundg k1
        case measure => have := HK1.out; omega
        case rel => exact ⟨(wrap64 (x5_1 + 1)), (by first | rfl | (simp; done) | (simp [*]; done)), H', ⟨by have := HK1.out; omega⟩, by repeat (first | exact Drawn0.refl _ | apply Drawn0.step)⟩
      · rw [if_neg c7] at H
        have c7b0 : ((rd l0 x5_1) == (rd l1 x5_1)) = false := beq_eq_false_iff_ne.mpr c7
        have c7b1 : ((rd l0 x5_1) != (rd l1 x5_1)) = true := bne_iff_ne.mpr c7
        obtain rfl := zOi H
        have p163 : 0 ≤ (x5_1 : Int) := of_decide_eq_true (by assumption)
        have q163 : x5_1 < (l0.length : Int) := of_decide_eq_true (by assumption)
        obtain ⟨ad163, e163, hx163_0⟩ := zAi HR0.out x5_1 p163 q163
        cases e163
        replace p163 := eq_true p163
        replace q163 := eq_true q163
        have p164 : 0 ≤ (x5_1 : Int) := of_decide_eq_true (by assumption)
        have q164 : x5_1 < (l1.length : Int) := of_decide_eq_true (by assumption)
        obtain ⟨ad164, e164, hx164_0⟩ := zAi HR1.out x5_1 p164 q164
        cases e164
        replace p164 := eq_true p164
        replace q164 := eq_true q164
        go_wp2
        repeat (go_quiet (fail); try go_wp2)
        go_ret
        exact ⟨by first | rfl | (simp; done) | (simp [*]; done), by repeat (first | exact Drawn0.refl _ | apply Drawn0.step)⟩
    · rw [if_neg c4] at H
      have c4b0 : decide (x5_1 < (l0.length : Int)) = false := decide_eq_false c4
      clear c4
      obtain rfl := zOi H
      go_wp2
      repeat (go_quiet (fail); try go_wp2)
      go_ret
      exact ⟨by first | rfl | (simp; done) | (simp [*]; done), by repeat (first | exact Drawn0.refl _ | apply Drawn0.step)⟩
  · rw [if_neg c3] at H
    have c3b0 : ((l0.length : Int) == (l1.length : Int)) = false := beq_eq_false_iff_ne.mpr c3
    have c3b1 : ((l0.length : Int) != (l1.length : Int)) = true := bne_iff_ne.mpr c3
    have c3b2 : (l0.length == l1.length) = false := by first | simpa using c3 | (simp at c3 ⊢; omega)
    obtain rfl := zOi H
    go_enter Try.func17, Try.ntmps17
    go_wp2
    repeat (go_quiet (fail); try go_wp2)
    go_ret
    exact ⟨by first | rfl | (simp; done) | (simp [*]; done), by repeat (first | exact Drawn0.refl _ | apply Drawn0.step)⟩


def filigreelaw12_alive.f (k : Nat)  : Option (Bool) := (some (([(⟨0, 1, 5⟩ : S39), (⟨0, 2, 1⟩ : S39), (⟨2, 1, 2⟩ : S39)] : List (S39)) : List (S39))).bind fun y165 => ((paths_From.f k 3 y165 0).bind fun bt169 => (if bt169.2.2 = 0 then (if (bt169.1.length : Int) = 3 then (if 1 < (bt169.1.length : Int) then (if (rd bt169.1 1) = 3 then ((paths_Way.f k 3 y165 bt169.2.1 1).bind fun t177 => ((filigreeref04_Ints.f k t177 (([1, 2] : List Int))).bind fun t183 => (if t183 = true then ((paths_Check.f k 3 y165 0 bt169.1 bt169.2.1).bind fun t184 => (some (t184 == 0))) else (some false)))) else (some false)) else (none)) else (some false)) else (some false)))
theorem filigreelaw12_alive.calls (k : Nat)  (r : Bool) (w : World) (h : filigreelaw12_alive.f k  = some r) :
    Calls Try.prog 9 #[] w fun e w' => e = .returned (.bool r) ∧ Below w.heap.size w w' := by
  have hu39 := Try.underlying39
  have hu24 := Try.underlying24
  have HB := zMk (Below.refl w.heap.size w)
  have H : ((some (([(⟨0, 1, 5⟩ : S39), (⟨0, 2, 1⟩ : S39), (⟨2, 1, 2⟩ : S39)] : List (S39)) : List (S39))).bind fun y165 => ((paths_From.f k 3 y165 0).bind fun bt169 => (if bt169.2.2 = 0 then (if (bt169.1.length : Int) = 3 then (if 1 < (bt169.1.length : Int) then (if (rd bt169.1 1) = 3 then ((paths_Way.f k 3 y165 bt169.2.1 1).bind fun t177 => ((filigreeref04_Ints.f k t177 (([1, 2] : List Int))).bind fun t183 => (if t183 = true then ((paths_Check.f k 3 y165 0 bt169.1 bt169.2.1).bind fun t184 => (some (t184 == 0))) else (some false)))) else (some false)) else (none)) else (some false)) else (some false)))) = some r := h
  clear h
  obtain ⟨y165, hy165⟩ : ∃ y_ : List (S39), y_ = (([(⟨0, 1, 5⟩ : S39), (⟨0, 2, 1⟩ : S39), (⟨2, 1, 2⟩ : S39)] : List (S39))) := ⟨_, rfl⟩
  replace H : ((paths_From.f k 3 y165 0).bind fun bt169 => (if bt169.2.2 = 0 then (if (bt169.1.length : Int) = 3 then (if 1 < (bt169.1.length : Int) then (if (rd bt169.1 1) = 3 then ((paths_Way.f k 3 y165 bt169.2.1 1).bind fun t177 => ((filigreeref04_Ints.f k t177 (([1, 2] : List Int))).bind fun t183 => (if t183 = true then ((paths_Check.f k 3 y165 0 bt169.1 bt169.2.1).bind fun t184 => (some (t184 == 0))) else (some false)))) else (some false)) else (none)) else (some false)) else (some false))) = some r := by first | (rw [hy165]; with_reducible exact H) | (have H2_ := bsm H; first | (rw [hy165]; with_reducible exact H2_) | with_reducible exact H2_) | with_reducible exact H | (rw [hy165]; exact H) | exact H
  have Ny165 := zMk hy165
  clear hy165
  replace H := bnd H
  obtain ⟨⟨t169, t172, t175⟩, A10, H⟩ := H
  replace H : (if t175 = 0 then (if (t169.length : Int) = 3 then (if 1 < (t169.length : Int) then (if (rd t169 1) = 3 then ((paths_Way.f k 3 y165 t172 1).bind fun t177 => ((filigreeref04_Ints.f k t177 (([1, 2] : List Int))).bind fun t183 => (if t183 = true then ((paths_Check.f k 3 y165 0 t169 t172).bind fun t184 => (some (t184 == 0))) else (some false)))) else (some false)) else (none)) else (some false)) else (some false)) = some r := H
  have A1 := zMk A10
  clear A10
  by_cases c2 : t175 = 0
  · rw [if_pos c2] at H
    have c2b0 : (t175 == 0) = true := beq_iff_eq.mpr c2
    have c2b1 : (t175 != 0) = false := bne_eq_false_iff_eq.mpr c2
    clear c2
    by_cases c3 : (t169.length : Int) = 3
    · rw [if_pos c3] at H
      have c3b0 : ((t169.length : Int) == 3) = true := beq_iff_eq.mpr c3
      have c3b1 : ((t169.length : Int) != 3) = false := bne_eq_false_iff_eq.mpr c3
      clear c3
      by_cases c4 : 1 < (t169.length : Int)
      rotate_left
      · rw [if_neg c4] at H; exact absurd H (by simp)
      rw [if_pos c4] at H
      have c4b0 : decide (1 < (t169.length : Int)) = true := decide_eq_true c4
      have c4b1 : decide (1 < t169.length) = true := decide_eq_true (by omega)
      clear c4
      by_cases c5 : (rd t169 1) = 3
      · rw [if_pos c5] at H
        have c5b0 : ((rd t169 1) == 3) = true := beq_iff_eq.mpr c5
        have c5b1 : ((rd t169 1) != 3) = false := bne_eq_false_iff_eq.mpr c5
        clear c5
        replace H := bnd H
        obtain ⟨t177, A60, H⟩ := H
        have A6 := zMk A60
        clear A60
        obtain ⟨y180, hy180⟩ : ∃ y_ : List Int, y_ = (([1, 2] : List Int)) := ⟨_, rfl⟩
        replace H : ((filigreeref04_Ints.f k t177 y180).bind fun t183 => (if t183 = true then ((paths_Check.f k 3 y165 0 t169 t172).bind fun t184 => (some (t184 == 0))) else (some false))) = some r := by first | (rw [hy180]; with_reducible exact H) | (have H2_ := bsm H; first | (rw [hy180]; with_reducible exact H2_) | with_reducible exact H2_) | with_reducible exact H | (rw [hy180]; exact H) | exact H
        have Ny180 := zMk hy180
        clear hy180
        replace H := bnd H
        obtain ⟨t183, A70, H⟩ := H
        have A7 := zMk A70
        clear A70
        by_cases c8 : t183 = true
        · subst c8
          replace H : ((paths_Check.f k 3 y165 0 t169 t172).bind fun t184 => (some (t184 == 0))) = some r := by rw [if_pos rfl] at H; exact H
          replace H := bnd H
          obtain ⟨t184, A90, H⟩ := H
          have A9 := zMk A90
          clear A90
          obtain rfl := zOi H
          go_enter Try.func9, Try.ntmps9
          go_wp2_with (first | ((with_reducible refine gate_dst (N := 8) rfl ?_); (try (refine gate_guard (by rfl) ?_; dsimp only)); refine Kd.R_lit k39 _ 39 ?hg (N := 8) ?hd (xs := ([(⟨0, 1, 5⟩ : S39), (⟨0, 2, 1⟩ : S39), (⟨2, 1, 2⟩ : S39)] : List (S39))) (inner := [.int .i64 0, .int .i64 1, .int .i64 5, .int .i64 0, .int .i64 2, .int .i64 1, .int .i64 2, .int .i64 1, .int .i64 2]) (ok := fun _ => True) (okp := fun _ => True) ?hr ?hp (fun _ hk => hk) trivial (Below.refl _ _) (Nat.le_refl _) (by simp) ?_; (case hd => rfl); (case hg => rfl); (case hr => first | (go_simp; done)|(go_simp; rfl)|(go_simp; rw [show ∀ x : Int, IntKind.u32.wrap (IntKind.u8.wrap x) = x % 256 from fun x => (by show (x % 256) % 4294967296 = x % 256; omega)])); (case hp => exact (Reps.c3 (show Kd.M k39 _ _ _ (⟨0, 1, 5⟩ : S39) [.int .i64 0, .int .i64 1, .int .i64 5] from (k39_mkM _ _ _ (⟨0, 1, 5⟩ : S39) )) (Reps.c3 (show Kd.M k39 _ _ _ (⟨0, 2, 1⟩ : S39) [.int .i64 0, .int .i64 2, .int .i64 1] from (k39_mkM _ _ _ (⟨0, 2, 1⟩ : S39) )) (Reps.c3 (show Kd.M k39 _ _ _ (⟨2, 1, 2⟩ : S39) [.int .i64 2, .int .i64 1, .int .i64 2] from (k39_mkM _ _ _ (⟨2, 1, 2⟩ : S39) )) (Reps.none _ _))))); intro v166 w10 ho11 hb hg_ hnew_; clear hg_ hnew_; (first |  rw [← Ny165.out] at ho11|  (simp only [Int.reduceToNat] at ho11; rw [← Ny165.out] at ho11)); have HO167 := zMk (zRl ho11 (zBs (by exact uT HB.out))); replace HB := zMk (zBt (by exact uT HB.out) hb); clear hb ho11; obtain ⟨Ao12, co12, eo12⟩ := zRs HO167.out; subst eo12)|((with_reducible refine gate_dst (N := 1) rfl ?_); (try (refine gate_guard (by rfl) ?_; dsimp only)); refine box_event ?hg (N := 1) ?hd (cs := #[.int .i64 0, .slice none 0 0]) (t := 24) ?hr ?_; (case hd => rfl); (case hg => rfl); (case hr => first | (go_simp; done)|(go_simp; rfl)|(go_simp; rw [show ∀ x : Int, IntKind.u32.wrap (IntKind.u8.wrap x) = x % 256 from fun x => (by show (x % 256) % 4294967296 = x % 256; omega)])); intro gb168 hg w13 hbox hb; replace HO167 := zMk (zRb (by exact uR HO167.out) hb); have BK168 := zMk (hbox); have GW168 := zMk ((by rw [hg]; exact (zBs (by exact uT HB.out)) : w.heap.size ≤ gb168)); have GE168 := zMk ((by rw [hg]; exact (zBs (by exact uT HB.out)) : w.heap.size ≤ gb168)); have IGE168 := ownGe GE168.out; replace HB := zMk (zBt (by exact uT HB.out) hb); clear hb hbox hg; have hcz14_0 : w13.cell? ⟨gb168, 0, none⟩ = some (.int .i64 0) := (zKc BK168.out 0).trans rfl; have hcz14_1 : w13.cell? ⟨gb168, 1, none⟩ = some (.slice none 0 0) := (zKc BK168.out 1).trans rfl; have hfz14_0 := zKf BK168.out 0; have hfz14_1 := zKf BK168.out 1)|((with_reducible refine gate_callee (f := 11) rfl ?_); refine goesL_ (some 12) rfl rfl Try.func11 (by kernel_rfl) rfl #[.agg #[.int .i64 3, .slice Ao12 y165.length co12], .int .i64 0] rfl (by (try simp only [zMa, zMc, zMn]); first |  done|  rfl|  (simp only [zLd, zLt]; rfl)) ?_; (with_reducible refine (paths_From.calls k 3 _ _ y165 0 t169 t172 t175 _ ?side1 ?side2 A1.out).mono ?_); (case side1 => refine (zRr (e := 39) (base := w.heap.size) (ok := fun k_ => True) (n := y165.length) (c := co12) ?_).2.2; exact (by (with_reducible repeat (first |  apply zRa|  apply zRn|  apply zRd)); exact (zRm (Kd.R_far (p := ⟨gb168, 1, none⟩) (Kd.R_far (p := ⟨gb168, 0, none⟩) (Kd.R_types HO167.out BK168.out (by decide)) (fun _ hk => hk.2) (.int .i64 3)) (fun _ hk => hk.2) (.slice Ao12 y165.length co12)) (fun _ h_ => h_.1)))); (case side2 => exact (zRr HO167.out).2.1); rintro e w15 ⟨v170, v173, rfl, ho0, ho1, hb⟩; refine ⟨_, rfl, ?_⟩; replace HO167 := zMk (zRb (by (with_reducible repeat (first |  apply zRa|  apply zRn|  apply zRd)); exact (zRm (Kd.R_far (p := ⟨gb168, 1, none⟩) (Kd.R_far (p := ⟨gb168, 0, none⟩) (Kd.R_types HO167.out BK168.out (by decide)) (fun _ hk => hk.2) (.int .i64 3)) (fun _ hk => hk.2) (.slice Ao12 y165.length co12)) (fun _ h_ => h_.1))) hb); have HO171 := zMk (zRl ho0 (zBs (by exact uT HB.out))); have HO174 := zMk (zRl ho1 (zBs (by exact uT HB.out))); replace BK168 := zMk (zKb (g := gb168) (o := .cells #[.int .i64 3, .slice Ao12 y165.length co12] 24 (0, 0)) (by (with_reducible repeat (first |  refine zKn ?_ _|  refine zKd ?_|  refine zKa ?_ _)); refine blk_put (cs := #[.int .i64 3, .slice none 0 0]) ?_ 1 _ rfl; (with_reducible repeat (first |  refine zKn ?_ _|  refine zKd ?_|  refine zKa ?_ _)); refine blk_put (cs := #[.int .i64 0, .slice none 0 0]) ?_ 0 _ rfl; (with_reducible repeat (first |  refine zKn ?_ _|  refine zKd ?_|  refine zKa ?_ _)); exact BK168.out) hb); replace HB := zMk (zBt (by exact uT HB.out) hb); obtain ⟨Ao16, co16, eo16⟩ := zRs HO171.out; subst eo16; have p176 : 0 ≤ (1 : Int) := (by omega); have q176 : 1 < (t169.length : Int) := of_decide_eq_true (by first | (with_reducible assumption)|  assumption); obtain ⟨ad176, e176, hx176_0⟩ := zAi (zRr HO171.out).2.2 1 p176 q176; cases e176; (try simp only [show (1 : Int).toNat = 1 from rfl, Nat.reduceMul, Nat.reduceEqDiff, Go.Addr.add, ↓reduceIte] at hx176_0); have qi176 : (1 < t169.length) = True := eq_true (by omega); (try rw [show ((1 : Int)).toNat = 1 from rfl] at hx176_0); replace p176 := eq_true p176; replace q176 := eq_true q176; have hcz17_0 : w15.cell? ⟨gb168, 0, none⟩ = some (.int .i64 3) := (zKc BK168.out 0).trans rfl; have hcz17_1 : w15.cell? ⟨gb168, 1, none⟩ = some (.slice Ao12 y165.length co12) := (zKc BK168.out 1).trans rfl; have hfz17_0 := zKf BK168.out 0; have hfz17_1 := zKf BK168.out 1; obtain ⟨Ao18, co18, eo18⟩ := zRs HO174.out; subst eo18)|(go_at_call 16; (with_reducible refine (paths_Way.calls k 3 _ _ y165 _ _ t172 1 t177 _ ?side1 ?side2 ?side3 ?side4 A6.out).mono ?_); (case side1 => exact uC (zRr HO167.out).2.2); (case side2 => exact (zRr HO167.out).2.1); (case side3 => exact uC (zRr HO174.out).2.2); (case side4 => exact (zRr HO174.out).2.1); rintro e w19 ⟨v178, rfl, ho0, hb⟩; replace HO167 := zMk (zRb (by exact uR HO167.out) hb); replace HO171 := zMk (zRb (by exact uR HO171.out) hb); have HO179 := zMk (zRl (zRw ho0 (zRt (by exact uR HO174.out))) (zBs (by exact uT HB.out))); replace HO174 := zMk (zRe (by exact uR HO174.out) (zRz ho0) hb); replace BK168 := zMk (zKb (g := gb168) (o := .cells #[.int .i64 3, .slice Ao12 y165.length co12] 24 (0, 0)) (by (with_reducible repeat (first |  refine zKn ?_ _|  refine zKd ?_|  refine zKa ?_ _)); exact BK168.out) hb); replace HB := zMk (zBt (by exact uT HB.out) hb))|((with_reducible refine gate_dst (N := 33) rfl ?_); (try (refine gate_guard (by rfl) ?_; dsimp only)); refine Kd.R_lit (Kd.int .i64) _ 3 ?hg (N := 33) ?hd (xs := ([1, 2] : List Int)) (inner := [.int .i64 1, .int .i64 2]) (ok := fun _ => True) (okp := fun _ => True) ?hr ?hp (fun _ hk => hk) trivial (Below.refl _ _) (Nat.le_refl _) (by simp) ?_; (case hd => rfl); (case hg => rfl); (case hr => first | (go_simp; done)|(go_simp; rfl)|(go_simp; rw [show ∀ x : Int, IntKind.u32.wrap (IntKind.u8.wrap x) = x % 256 from fun x => (by show (x % 256) % 4294967296 = x % 256; omega)])); (case hp => exact (Reps.one (show Kd.M (Kd.int .i64) _ _ _ 1 [.int .i64 1] from rfl) (Reps.one (show Kd.M (Kd.int .i64) _ _ _ 2 [.int .i64 2] from rfl) (Reps.none _ _)))); intro v181 w20 ho21 hb hg_ hnew_; clear hg_ hnew_; (first |  rw [← Ny180.out] at ho21|  (simp only [Int.reduceToNat] at ho21; rw [← Ny180.out] at ho21)); replace HO167 := zMk (zRb (by exact uR HO167.out) hb); replace HO171 := zMk (zRb (by exact uR HO171.out) hb); have HO182 := zMk (zRl (zRw (zRw ho21 (zRt (by exact uR HO174.out))) (zRt (by exact uR HO179.out))) (zBs (by exact uT HB.out))); replace HO174 := zMk (zRe (by exact uR HO174.out) (zRz ho21) hb); replace HO179 := zMk (zRe (by exact uR HO179.out) (zRz ho21) hb); replace BK168 := zMk (zKb (g := gb168) (o := .cells #[.int .i64 3, .slice Ao12 y165.length co12] 24 (0, 0)) (by (with_reducible repeat (first |  refine zKn ?_ _|  refine zKd ?_|  refine zKa ?_ _)); exact BK168.out) hb); replace HB := zMk (zBt (by exact uT HB.out) hb); clear hb ho21; obtain ⟨Ao22, co22, eo22⟩ := zRs HO179.out; subst eo22; obtain ⟨Ao23, co23, eo23⟩ := zRs HO182.out; subst eo23)|(go_at_call 17; (with_reducible refine (filigreeref04_Ints.calls k _ _ t177 _ _ y180 true _ ?side1 ?side2 ?side3 ?side4 A7.out).mono ?_); (case side1 => exact uC (zRr HO179.out).2.2); (case side2 => exact (zRr HO179.out).2.1); (case side3 => exact uC (zRr HO182.out).2.2); (case side4 => exact (zRr HO182.out).2.1); rintro e w' ⟨rfl, ⟨nd, rfl⟩⟩; have hcz24_0 : w20.cell? ⟨gb168, 0, none⟩ = some (.int .i64 3) := (zKc BK168.out 0).trans rfl; have hcz24_1 : w20.cell? ⟨gb168, 1, none⟩ = some (.slice Ao12 y165.length co12) := (zKc BK168.out 1).trans rfl; have hfz24_0 := zKf BK168.out 0; have hfz24_1 := zKf BK168.out 1)|(go_at_call 15; (with_reducible refine (paths_Check.calls k 3 _ _ y165 0 _ _ t169 _ _ t172 t184 _ ?side1 ?side2 ?side3 ?side4 ?side5 ?side6 A9.out).mono ?_); (case side1 => exact uC (zRr HO167.out).2.2); (case side2 => exact (zRr HO167.out).2.1); (case side3 => exact uC (zRr HO171.out).2.2); (case side4 => exact (zRr HO171.out).2.1); (case side5 => exact uC (zRr HO174.out).2.2); (case side6 => exact (zRr HO174.out).2.1); rintro e w25 ⟨rfl, hb⟩; replace HO167 := zMk (zRb (by exact uR HO167.out) hb); replace HO171 := zMk (zRb (by exact uR HO171.out) hb); replace HO174 := zMk (zRb (by exact uR HO174.out) hb); replace HO179 := zMk (zRb (by exact uR HO179.out) hb); replace HO182 := zMk (zRb (by exact uR HO182.out) hb); replace BK168 := zMk (zKb (g := gb168) (o := .cells #[.int .i64 3, .slice Ao12 y165.length co12] 24 (0, 0)) (by (with_reducible repeat (first |  refine zKn ?_ _|  refine zKd ?_|  refine zKa ?_ _)); exact BK168.out) hb); replace HB := zMk (zBt (by exact uT HB.out) hb)))
          go_ret
          exact ⟨by first | rfl | (simp [errW_none, errW_some] <;> rfl) | (simp [*, errW_none, errW_some] <;> rfl), by exact uT HB.out⟩
        · replace c8 := Bool.eq_false_iff.mpr c8
          subst c8
          replace H : (some false) = some r := by rw [if_neg (show ¬ (false = true) by decide)] at H; exact H
          obtain rfl := zOi H
          go_enter Try.func9, Try.ntmps9
          go_wp2_with (first | ((with_reducible refine gate_dst (N := 8) rfl ?_); (try (refine gate_guard (by rfl) ?_; dsimp only)); refine Kd.R_lit k39 _ 39 ?hg (N := 8) ?hd (xs := ([(⟨0, 1, 5⟩ : S39), (⟨0, 2, 1⟩ : S39), (⟨2, 1, 2⟩ : S39)] : List (S39))) (inner := [.int .i64 0, .int .i64 1, .int .i64 5, .int .i64 0, .int .i64 2, .int .i64 1, .int .i64 2, .int .i64 1, .int .i64 2]) (ok := fun _ => True) (okp := fun _ => True) ?hr ?hp (fun _ hk => hk) trivial (Below.refl _ _) (Nat.le_refl _) (by simp) ?_; (case hd => rfl); (case hg => rfl); (case hr => first | (go_simp; done)|(go_simp; rfl)|(go_simp; rw [show ∀ x : Int, IntKind.u32.wrap (IntKind.u8.wrap x) = x % 256 from fun x => (by show (x % 256) % 4294967296 = x % 256; omega)])); (case hp => exact (Reps.c3 (show Kd.M k39 _ _ _ (⟨0, 1, 5⟩ : S39) [.int .i64 0, .int .i64 1, .int .i64 5] from (k39_mkM _ _ _ (⟨0, 1, 5⟩ : S39) )) (Reps.c3 (show Kd.M k39 _ _ _ (⟨0, 2, 1⟩ : S39) [.int .i64 0, .int .i64 2, .int .i64 1] from (k39_mkM _ _ _ (⟨0, 2, 1⟩ : S39) )) (Reps.c3 (show Kd.M k39 _ _ _ (⟨2, 1, 2⟩ : S39) [.int .i64 2, .int .i64 1, .int .i64 2] from (k39_mkM _ _ _ (⟨2, 1, 2⟩ : S39) )) (Reps.none _ _))))); intro v166 w26 ho27 hb hg_ hnew_; clear hg_ hnew_; (first |  rw [← Ny165.out] at ho27|  (simp only [Int.reduceToNat] at ho27; rw [← Ny165.out] at ho27)); have HO167 := zMk (zRl ho27 (zBs (by exact uT HB.out))); replace HB := zMk (zBt (by exact uT HB.out) hb); clear hb ho27; obtain ⟨Ao28, co28, eo28⟩ := zRs HO167.out; subst eo28)|((with_reducible refine gate_dst (N := 1) rfl ?_); (try (refine gate_guard (by rfl) ?_; dsimp only)); refine box_event ?hg (N := 1) ?hd (cs := #[.int .i64 0, .slice none 0 0]) (t := 24) ?hr ?_; (case hd => rfl); (case hg => rfl); (case hr => first | (go_simp; done)|(go_simp; rfl)|(go_simp; rw [show ∀ x : Int, IntKind.u32.wrap (IntKind.u8.wrap x) = x % 256 from fun x => (by show (x % 256) % 4294967296 = x % 256; omega)])); intro gb168 hg w29 hbox hb; replace HO167 := zMk (zRb (by exact uR HO167.out) hb); have BK168 := zMk (hbox); have GW168 := zMk ((by rw [hg]; exact (zBs (by exact uT HB.out)) : w.heap.size ≤ gb168)); have GE168 := zMk ((by rw [hg]; exact (zBs (by exact uT HB.out)) : w.heap.size ≤ gb168)); have IGE168 := ownGe GE168.out; replace HB := zMk (zBt (by exact uT HB.out) hb); clear hb hbox hg; have hcz30_0 : w29.cell? ⟨gb168, 0, none⟩ = some (.int .i64 0) := (zKc BK168.out 0).trans rfl; have hcz30_1 : w29.cell? ⟨gb168, 1, none⟩ = some (.slice none 0 0) := (zKc BK168.out 1).trans rfl; have hfz30_0 := zKf BK168.out 0; have hfz30_1 := zKf BK168.out 1)|((with_reducible refine gate_callee (f := 11) rfl ?_); refine goesL_ (some 12) rfl rfl Try.func11 (by kernel_rfl) rfl #[.agg #[.int .i64 3, .slice Ao28 y165.length co28], .int .i64 0] rfl (by (try simp only [zMa, zMc, zMn]); first |  done|  rfl|  (simp only [zLd, zLt]; rfl)) ?_; (with_reducible refine (paths_From.calls k 3 _ _ y165 0 t169 t172 t175 _ ?side1 ?side2 A1.out).mono ?_); (case side1 => refine (zRr (e := 39) (base := w.heap.size) (ok := fun k_ => True) (n := y165.length) (c := co28) ?_).2.2; exact (by (with_reducible repeat (first |  apply zRa|  apply zRn|  apply zRd)); exact (zRm (Kd.R_far (p := ⟨gb168, 1, none⟩) (Kd.R_far (p := ⟨gb168, 0, none⟩) (Kd.R_types HO167.out BK168.out (by decide)) (fun _ hk => hk.2) (.int .i64 3)) (fun _ hk => hk.2) (.slice Ao28 y165.length co28)) (fun _ h_ => h_.1)))); (case side2 => exact (zRr HO167.out).2.1); rintro e w31 ⟨v170, v173, rfl, ho0, ho1, hb⟩; refine ⟨_, rfl, ?_⟩; replace HO167 := zMk (zRb (by (with_reducible repeat (first |  apply zRa|  apply zRn|  apply zRd)); exact (zRm (Kd.R_far (p := ⟨gb168, 1, none⟩) (Kd.R_far (p := ⟨gb168, 0, none⟩) (Kd.R_types HO167.out BK168.out (by decide)) (fun _ hk => hk.2) (.int .i64 3)) (fun _ hk => hk.2) (.slice Ao28 y165.length co28)) (fun _ h_ => h_.1))) hb); have HO171 := zMk (zRl ho0 (zBs (by exact uT HB.out))); have HO174 := zMk (zRl ho1 (zBs (by exact uT HB.out))); replace BK168 := zMk (zKb (g := gb168) (o := .cells #[.int .i64 3, .slice Ao28 y165.length co28] 24 (0, 0)) (by (with_reducible repeat (first |  refine zKn ?_ _|  refine zKd ?_|  refine zKa ?_ _)); refine blk_put (cs := #[.int .i64 3, .slice none 0 0]) ?_ 1 _ rfl; (with_reducible repeat (first |  refine zKn ?_ _|  refine zKd ?_|  refine zKa ?_ _)); refine blk_put (cs := #[.int .i64 0, .slice none 0 0]) ?_ 0 _ rfl; (with_reducible repeat (first |  refine zKn ?_ _|  refine zKd ?_|  refine zKa ?_ _)); exact BK168.out) hb); replace HB := zMk (zBt (by exact uT HB.out) hb); obtain ⟨Ao32, co32, eo32⟩ := zRs HO171.out; subst eo32; have p176 : 0 ≤ (1 : Int) := (by omega); have q176 : 1 < (t169.length : Int) := of_decide_eq_true (by first | (with_reducible assumption)|  assumption); obtain ⟨ad176, e176, hx176_0⟩ := zAi (zRr HO171.out).2.2 1 p176 q176; cases e176; (try simp only [show (1 : Int).toNat = 1 from rfl, Nat.reduceMul, Nat.reduceEqDiff, Go.Addr.add, ↓reduceIte] at hx176_0); have qi176 : (1 < t169.length) = True := eq_true (by omega); (try rw [show ((1 : Int)).toNat = 1 from rfl] at hx176_0); replace p176 := eq_true p176; replace q176 := eq_true q176; have hcz33_0 : w31.cell? ⟨gb168, 0, none⟩ = some (.int .i64 3) := (zKc BK168.out 0).trans rfl; have hcz33_1 : w31.cell? ⟨gb168, 1, none⟩ = some (.slice Ao28 y165.length co28) := (zKc BK168.out 1).trans rfl; have hfz33_0 := zKf BK168.out 0; have hfz33_1 := zKf BK168.out 1; obtain ⟨Ao34, co34, eo34⟩ := zRs HO174.out; subst eo34)|(go_at_call 16; (with_reducible refine (paths_Way.calls k 3 _ _ y165 _ _ t172 1 t177 _ ?side1 ?side2 ?side3 ?side4 A6.out).mono ?_); (case side1 => exact uC (zRr HO167.out).2.2); (case side2 => exact (zRr HO167.out).2.1); (case side3 => exact uC (zRr HO174.out).2.2); (case side4 => exact (zRr HO174.out).2.1); rintro e w35 ⟨v178, rfl, ho0, hb⟩; replace HO167 := zMk (zRb (by exact uR HO167.out) hb); replace HO171 := zMk (zRb (by exact uR HO171.out) hb); have HO179 := zMk (zRl (zRw ho0 (zRt (by exact uR HO174.out))) (zBs (by exact uT HB.out))); replace HO174 := zMk (zRe (by exact uR HO174.out) (zRz ho0) hb); replace BK168 := zMk (zKb (g := gb168) (o := .cells #[.int .i64 3, .slice Ao28 y165.length co28] 24 (0, 0)) (by (with_reducible repeat (first |  refine zKn ?_ _|  refine zKd ?_|  refine zKa ?_ _)); exact BK168.out) hb); replace HB := zMk (zBt (by exact uT HB.out) hb))|((with_reducible refine gate_dst (N := 33) rfl ?_); (try (refine gate_guard (by rfl) ?_; dsimp only)); refine Kd.R_lit (Kd.int .i64) _ 3 ?hg (N := 33) ?hd (xs := ([1, 2] : List Int)) (inner := [.int .i64 1, .int .i64 2]) (ok := fun _ => True) (okp := fun _ => True) ?hr ?hp (fun _ hk => hk) trivial (Below.refl _ _) (Nat.le_refl _) (by simp) ?_; (case hd => rfl); (case hg => rfl); (case hr => first | (go_simp; done)|(go_simp; rfl)|(go_simp; rw [show ∀ x : Int, IntKind.u32.wrap (IntKind.u8.wrap x) = x % 256 from fun x => (by show (x % 256) % 4294967296 = x % 256; omega)])); (case hp => exact (Reps.one (show Kd.M (Kd.int .i64) _ _ _ 1 [.int .i64 1] from rfl) (Reps.one (show Kd.M (Kd.int .i64) _ _ _ 2 [.int .i64 2] from rfl) (Reps.none _ _)))); intro v181 w36 ho37 hb hg_ hnew_; clear hg_ hnew_; (first |  rw [← Ny180.out] at ho37|  (simp only [Int.reduceToNat] at ho37; rw [← Ny180.out] at ho37)); replace HO167 := zMk (zRb (by exact uR HO167.out) hb); replace HO171 := zMk (zRb (by exact uR HO171.out) hb); have HO182 := zMk (zRl (zRw (zRw ho37 (zRt (by exact uR HO174.out))) (zRt (by exact uR HO179.out))) (zBs (by exact uT HB.out))); replace HO174 := zMk (zRe (by exact uR HO174.out) (zRz ho37) hb); replace HO179 := zMk (zRe (by exact uR HO179.out) (zRz ho37) hb); replace BK168 := zMk (zKb (g := gb168) (o := .cells #[.int .i64 3, .slice Ao28 y165.length co28] 24 (0, 0)) (by (with_reducible repeat (first |  refine zKn ?_ _|  refine zKd ?_|  refine zKa ?_ _)); exact BK168.out) hb); replace HB := zMk (zBt (by exact uT HB.out) hb); clear hb ho37; obtain ⟨Ao38, co38, eo38⟩ := zRs HO179.out; subst eo38; obtain ⟨Ao39, co39, eo39⟩ := zRs HO182.out; subst eo39)|(go_at_call 17; (with_reducible refine (filigreeref04_Ints.calls k _ _ t177 _ _ y180 false _ ?side1 ?side2 ?side3 ?side4 A7.out).mono ?_); (case side1 => exact uC (zRr HO179.out).2.2); (case side2 => exact (zRr HO179.out).2.1); (case side3 => exact uC (zRr HO182.out).2.2); (case side4 => exact (zRr HO182.out).2.1); rintro e w' ⟨rfl, ⟨nd, rfl⟩⟩))
          go_ret
          exact ⟨by first | rfl | (simp [errW_none, errW_some] <;> rfl) | (simp [*, errW_none, errW_some] <;> rfl), by exact uT HB.out⟩
      · rw [if_neg c5] at H
        have c5b0 : ((rd t169 1) == 3) = false := beq_eq_false_iff_ne.mpr c5
        have c5b1 : ((rd t169 1) != 3) = true := bne_iff_ne.mpr c5
        obtain rfl := zOi H
        go_enter Try.func9, Try.ntmps9
        go_wp2_with (first | ((with_reducible refine gate_dst (N := 8) rfl ?_); (try (refine gate_guard (by rfl) ?_; dsimp only)); refine Kd.R_lit k39 _ 39 ?hg (N := 8) ?hd (xs := ([(⟨0, 1, 5⟩ : S39), (⟨0, 2, 1⟩ : S39), (⟨2, 1, 2⟩ : S39)] : List (S39))) (inner := [.int .i64 0, .int .i64 1, .int .i64 5, .int .i64 0, .int .i64 2, .int .i64 1, .int .i64 2, .int .i64 1, .int .i64 2]) (ok := fun _ => True) (okp := fun _ => True) ?hr ?hp (fun _ hk => hk) trivial (Below.refl _ _) (Nat.le_refl _) (by simp) ?_; (case hd => rfl); (case hg => rfl); (case hr => first | (go_simp; done)|(go_simp; rfl)|(go_simp; rw [show ∀ x : Int, IntKind.u32.wrap (IntKind.u8.wrap x) = x % 256 from fun x => (by show (x % 256) % 4294967296 = x % 256; omega)])); (case hp => exact (Reps.c3 (show Kd.M k39 _ _ _ (⟨0, 1, 5⟩ : S39) [.int .i64 0, .int .i64 1, .int .i64 5] from (k39_mkM _ _ _ (⟨0, 1, 5⟩ : S39) )) (Reps.c3 (show Kd.M k39 _ _ _ (⟨0, 2, 1⟩ : S39) [.int .i64 0, .int .i64 2, .int .i64 1] from (k39_mkM _ _ _ (⟨0, 2, 1⟩ : S39) )) (Reps.c3 (show Kd.M k39 _ _ _ (⟨2, 1, 2⟩ : S39) [.int .i64 2, .int .i64 1, .int .i64 2] from (k39_mkM _ _ _ (⟨2, 1, 2⟩ : S39) )) (Reps.none _ _))))); intro v166 w40 ho41 hb hg_ hnew_; clear hg_ hnew_; (first |  rw [← Ny165.out] at ho41|  (simp only [Int.reduceToNat] at ho41; rw [← Ny165.out] at ho41)); have HO167 := zMk (zRl ho41 (zBs (by exact uT HB.out))); replace HB := zMk (zBt (by exact uT HB.out) hb); clear hb ho41; obtain ⟨Ao42, co42, eo42⟩ := zRs HO167.out; subst eo42)|((with_reducible refine gate_dst (N := 1) rfl ?_); (try (refine gate_guard (by rfl) ?_; dsimp only)); refine box_event ?hg (N := 1) ?hd (cs := #[.int .i64 0, .slice none 0 0]) (t := 24) ?hr ?_; (case hd => rfl); (case hg => rfl); (case hr => first | (go_simp; done)|(go_simp; rfl)|(go_simp; rw [show ∀ x : Int, IntKind.u32.wrap (IntKind.u8.wrap x) = x % 256 from fun x => (by show (x % 256) % 4294967296 = x % 256; omega)])); intro gb168 hg w43 hbox hb; replace HO167 := zMk (zRb (by exact uR HO167.out) hb); have BK168 := zMk (hbox); have GW168 := zMk ((by rw [hg]; exact (zBs (by exact uT HB.out)) : w.heap.size ≤ gb168)); have GE168 := zMk ((by rw [hg]; exact (zBs (by exact uT HB.out)) : w.heap.size ≤ gb168)); have IGE168 := ownGe GE168.out; replace HB := zMk (zBt (by exact uT HB.out) hb); clear hb hbox hg; have hcz44_0 : w43.cell? ⟨gb168, 0, none⟩ = some (.int .i64 0) := (zKc BK168.out 0).trans rfl; have hcz44_1 : w43.cell? ⟨gb168, 1, none⟩ = some (.slice none 0 0) := (zKc BK168.out 1).trans rfl; have hfz44_0 := zKf BK168.out 0; have hfz44_1 := zKf BK168.out 1)|((with_reducible refine gate_callee (f := 11) rfl ?_); refine goesL_ (some 12) rfl rfl Try.func11 (by kernel_rfl) rfl #[.agg #[.int .i64 3, .slice Ao42 y165.length co42], .int .i64 0] rfl (by (try simp only [zMa, zMc, zMn]); first |  done|  rfl|  (simp only [zLd, zLt]; rfl)) ?_; (with_reducible refine (paths_From.calls k 3 _ _ y165 0 t169 t172 t175 _ ?side1 ?side2 A1.out).mono ?_); (case side1 => refine (zRr (e := 39) (base := w.heap.size) (ok := fun k_ => True) (n := y165.length) (c := co42) ?_).2.2; exact (by (with_reducible repeat (first |  apply zRa|  apply zRn|  apply zRd)); exact (zRm (Kd.R_far (p := ⟨gb168, 1, none⟩) (Kd.R_far (p := ⟨gb168, 0, none⟩) (Kd.R_types HO167.out BK168.out (by decide)) (fun _ hk => hk.2) (.int .i64 3)) (fun _ hk => hk.2) (.slice Ao42 y165.length co42)) (fun _ h_ => h_.1)))); (case side2 => exact (zRr HO167.out).2.1); rintro e w45 ⟨v170, v173, rfl, ho0, ho1, hb⟩; refine ⟨_, rfl, ?_⟩; replace HO167 := zMk (zRb (by (with_reducible repeat (first |  apply zRa|  apply zRn|  apply zRd)); exact (zRm (Kd.R_far (p := ⟨gb168, 1, none⟩) (Kd.R_far (p := ⟨gb168, 0, none⟩) (Kd.R_types HO167.out BK168.out (by decide)) (fun _ hk => hk.2) (.int .i64 3)) (fun _ hk => hk.2) (.slice Ao42 y165.length co42)) (fun _ h_ => h_.1))) hb); have HO171 := zMk (zRl ho0 (zBs (by exact uT HB.out))); have HO174 := zMk (zRl ho1 (zBs (by exact uT HB.out))); replace BK168 := zMk (zKb (g := gb168) (o := .cells #[.int .i64 3, .slice Ao42 y165.length co42] 24 (0, 0)) (by (with_reducible repeat (first |  refine zKn ?_ _|  refine zKd ?_|  refine zKa ?_ _)); refine blk_put (cs := #[.int .i64 3, .slice none 0 0]) ?_ 1 _ rfl; (with_reducible repeat (first |  refine zKn ?_ _|  refine zKd ?_|  refine zKa ?_ _)); refine blk_put (cs := #[.int .i64 0, .slice none 0 0]) ?_ 0 _ rfl; (with_reducible repeat (first |  refine zKn ?_ _|  refine zKd ?_|  refine zKa ?_ _)); exact BK168.out) hb); replace HB := zMk (zBt (by exact uT HB.out) hb); obtain ⟨Ao46, co46, eo46⟩ := zRs HO171.out; subst eo46; have p176 : 0 ≤ (1 : Int) := (by omega); have q176 : 1 < (t169.length : Int) := of_decide_eq_true (by first | (with_reducible assumption)|  assumption); obtain ⟨ad176, e176, hx176_0⟩ := zAi (zRr HO171.out).2.2 1 p176 q176; cases e176; (try simp only [show (1 : Int).toNat = 1 from rfl, Nat.reduceMul, Nat.reduceEqDiff, Go.Addr.add, ↓reduceIte] at hx176_0); have qi176 : (1 < t169.length) = True := eq_true (by omega); (try rw [show ((1 : Int)).toNat = 1 from rfl] at hx176_0); replace p176 := eq_true p176; replace q176 := eq_true q176))
        go_ret
        exact ⟨by first | rfl | (simp [errW_none, errW_some] <;> rfl) | (simp [*, errW_none, errW_some] <;> rfl), by exact uT HB.out⟩
    · rw [if_neg c3] at H
      have c3b0 : ((t169.length : Int) == 3) = false := beq_eq_false_iff_ne.mpr c3
      have c3b1 : ((t169.length : Int) != 3) = true := bne_iff_ne.mpr c3
      obtain rfl := zOi H
      go_enter Try.func9, Try.ntmps9
      go_wp2_with (first | ((with_reducible refine gate_dst (N := 8) rfl ?_); (try (refine gate_guard (by rfl) ?_; dsimp only)); refine Kd.R_lit k39 _ 39 ?hg (N := 8) ?hd (xs := ([(⟨0, 1, 5⟩ : S39), (⟨0, 2, 1⟩ : S39), (⟨2, 1, 2⟩ : S39)] : List (S39))) (inner := [.int .i64 0, .int .i64 1, .int .i64 5, .int .i64 0, .int .i64 2, .int .i64 1, .int .i64 2, .int .i64 1, .int .i64 2]) (ok := fun _ => True) (okp := fun _ => True) ?hr ?hp (fun _ hk => hk) trivial (Below.refl _ _) (Nat.le_refl _) (by simp) ?_; (case hd => rfl); (case hg => rfl); (case hr => first | (go_simp; done)|(go_simp; rfl)|(go_simp; rw [show ∀ x : Int, IntKind.u32.wrap (IntKind.u8.wrap x) = x % 256 from fun x => (by show (x % 256) % 4294967296 = x % 256; omega)])); (case hp => exact (Reps.c3 (show Kd.M k39 _ _ _ (⟨0, 1, 5⟩ : S39) [.int .i64 0, .int .i64 1, .int .i64 5] from (k39_mkM _ _ _ (⟨0, 1, 5⟩ : S39) )) (Reps.c3 (show Kd.M k39 _ _ _ (⟨0, 2, 1⟩ : S39) [.int .i64 0, .int .i64 2, .int .i64 1] from (k39_mkM _ _ _ (⟨0, 2, 1⟩ : S39) )) (Reps.c3 (show Kd.M k39 _ _ _ (⟨2, 1, 2⟩ : S39) [.int .i64 2, .int .i64 1, .int .i64 2] from (k39_mkM _ _ _ (⟨2, 1, 2⟩ : S39) )) (Reps.none _ _))))); intro v166 w47 ho48 hb hg_ hnew_; clear hg_ hnew_; (first |  rw [← Ny165.out] at ho48|  (simp only [Int.reduceToNat] at ho48; rw [← Ny165.out] at ho48)); have HO167 := zMk (zRl ho48 (zBs (by exact uT HB.out))); replace HB := zMk (zBt (by exact uT HB.out) hb); clear hb ho48; obtain ⟨Ao49, co49, eo49⟩ := zRs HO167.out; subst eo49)|((with_reducible refine gate_dst (N := 1) rfl ?_); (try (refine gate_guard (by rfl) ?_; dsimp only)); refine box_event ?hg (N := 1) ?hd (cs := #[.int .i64 0, .slice none 0 0]) (t := 24) ?hr ?_; (case hd => rfl); (case hg => rfl); (case hr => first | (go_simp; done)|(go_simp; rfl)|(go_simp; rw [show ∀ x : Int, IntKind.u32.wrap (IntKind.u8.wrap x) = x % 256 from fun x => (by show (x % 256) % 4294967296 = x % 256; omega)])); intro gb168 hg w50 hbox hb; replace HO167 := zMk (zRb (by exact uR HO167.out) hb); have BK168 := zMk (hbox); have GW168 := zMk ((by rw [hg]; exact (zBs (by exact uT HB.out)) : w.heap.size ≤ gb168)); have GE168 := zMk ((by rw [hg]; exact (zBs (by exact uT HB.out)) : w.heap.size ≤ gb168)); have IGE168 := ownGe GE168.out; replace HB := zMk (zBt (by exact uT HB.out) hb); clear hb hbox hg; have hcz51_0 : w50.cell? ⟨gb168, 0, none⟩ = some (.int .i64 0) := (zKc BK168.out 0).trans rfl; have hcz51_1 : w50.cell? ⟨gb168, 1, none⟩ = some (.slice none 0 0) := (zKc BK168.out 1).trans rfl; have hfz51_0 := zKf BK168.out 0; have hfz51_1 := zKf BK168.out 1)|((with_reducible refine gate_callee (f := 11) rfl ?_); refine goesL_ (some 12) rfl rfl Try.func11 (by kernel_rfl) rfl #[.agg #[.int .i64 3, .slice Ao49 y165.length co49], .int .i64 0] rfl (by (try simp only [zMa, zMc, zMn]); first |  done|  rfl|  (simp only [zLd, zLt]; rfl)) ?_; (with_reducible refine (paths_From.calls k 3 _ _ y165 0 t169 t172 t175 _ ?side1 ?side2 A1.out).mono ?_); (case side1 => refine (zRr (e := 39) (base := w.heap.size) (ok := fun k_ => True) (n := y165.length) (c := co49) ?_).2.2; exact (by (with_reducible repeat (first |  apply zRa|  apply zRn|  apply zRd)); exact (zRm (Kd.R_far (p := ⟨gb168, 1, none⟩) (Kd.R_far (p := ⟨gb168, 0, none⟩) (Kd.R_types HO167.out BK168.out (by decide)) (fun _ hk => hk.2) (.int .i64 3)) (fun _ hk => hk.2) (.slice Ao49 y165.length co49)) (fun _ h_ => h_.1)))); (case side2 => exact (zRr HO167.out).2.1); rintro e w52 ⟨v170, v173, rfl, ho0, ho1, hb⟩; refine ⟨_, rfl, ?_⟩; replace HO167 := zMk (zRb (by (with_reducible repeat (first |  apply zRa|  apply zRn|  apply zRd)); exact (zRm (Kd.R_far (p := ⟨gb168, 1, none⟩) (Kd.R_far (p := ⟨gb168, 0, none⟩) (Kd.R_types HO167.out BK168.out (by decide)) (fun _ hk => hk.2) (.int .i64 3)) (fun _ hk => hk.2) (.slice Ao49 y165.length co49)) (fun _ h_ => h_.1))) hb); have HO171 := zMk (zRl ho0 (zBs (by exact uT HB.out))); have HO174 := zMk (zRl ho1 (zBs (by exact uT HB.out))); replace BK168 := zMk (zKb (g := gb168) (o := .cells #[.int .i64 3, .slice Ao49 y165.length co49] 24 (0, 0)) (by (with_reducible repeat (first |  refine zKn ?_ _|  refine zKd ?_|  refine zKa ?_ _)); refine blk_put (cs := #[.int .i64 3, .slice none 0 0]) ?_ 1 _ rfl; (with_reducible repeat (first |  refine zKn ?_ _|  refine zKd ?_|  refine zKa ?_ _)); refine blk_put (cs := #[.int .i64 0, .slice none 0 0]) ?_ 0 _ rfl; (with_reducible repeat (first |  refine zKn ?_ _|  refine zKd ?_|  refine zKa ?_ _)); exact BK168.out) hb); replace HB := zMk (zBt (by exact uT HB.out) hb); obtain ⟨Ao53, co53, eo53⟩ := zRs HO171.out; subst eo53))
      go_ret
      exact ⟨by first | rfl | (simp [errW_none, errW_some] <;> rfl) | (simp [*, errW_none, errW_some] <;> rfl), by exact uT HB.out⟩
  · rw [if_neg c2] at H
    have c2b0 : (t175 == 0) = false := beq_eq_false_iff_ne.mpr c2
    have c2b1 : (t175 != 0) = true := bne_iff_ne.mpr c2
    obtain rfl := zOi H
    go_enter Try.func9, Try.ntmps9
    go_wp2_with (first | ((with_reducible refine gate_dst (N := 8) rfl ?_); (try (refine gate_guard (by rfl) ?_; dsimp only)); refine Kd.R_lit k39 _ 39 ?hg (N := 8) ?hd (xs := ([(⟨0, 1, 5⟩ : S39), (⟨0, 2, 1⟩ : S39), (⟨2, 1, 2⟩ : S39)] : List (S39))) (inner := [.int .i64 0, .int .i64 1, .int .i64 5, .int .i64 0, .int .i64 2, .int .i64 1, .int .i64 2, .int .i64 1, .int .i64 2]) (ok := fun _ => True) (okp := fun _ => True) ?hr ?hp (fun _ hk => hk) trivial (Below.refl _ _) (Nat.le_refl _) (by simp) ?_; (case hd => rfl); (case hg => rfl); (case hr => first | (go_simp; done)|(go_simp; rfl)|(go_simp; rw [show ∀ x : Int, IntKind.u32.wrap (IntKind.u8.wrap x) = x % 256 from fun x => (by show (x % 256) % 4294967296 = x % 256; omega)])); (case hp => exact (Reps.c3 (show Kd.M k39 _ _ _ (⟨0, 1, 5⟩ : S39) [.int .i64 0, .int .i64 1, .int .i64 5] from (k39_mkM _ _ _ (⟨0, 1, 5⟩ : S39) )) (Reps.c3 (show Kd.M k39 _ _ _ (⟨0, 2, 1⟩ : S39) [.int .i64 0, .int .i64 2, .int .i64 1] from (k39_mkM _ _ _ (⟨0, 2, 1⟩ : S39) )) (Reps.c3 (show Kd.M k39 _ _ _ (⟨2, 1, 2⟩ : S39) [.int .i64 2, .int .i64 1, .int .i64 2] from (k39_mkM _ _ _ (⟨2, 1, 2⟩ : S39) )) (Reps.none _ _))))); intro v166 w54 ho55 hb hg_ hnew_; clear hg_ hnew_; (first |  rw [← Ny165.out] at ho55|  (simp only [Int.reduceToNat] at ho55; rw [← Ny165.out] at ho55)); have HO167 := zMk (zRl ho55 (zBs (by exact uT HB.out))); replace HB := zMk (zBt (by exact uT HB.out) hb); clear hb ho55; obtain ⟨Ao56, co56, eo56⟩ := zRs HO167.out; subst eo56)|((with_reducible refine gate_dst (N := 1) rfl ?_); (try (refine gate_guard (by rfl) ?_; dsimp only)); refine box_event ?hg (N := 1) ?hd (cs := #[.int .i64 0, .slice none 0 0]) (t := 24) ?hr ?_; (case hd => rfl); (case hg => rfl); (case hr => first | (go_simp; done)|(go_simp; rfl)|(go_simp; rw [show ∀ x : Int, IntKind.u32.wrap (IntKind.u8.wrap x) = x % 256 from fun x => (by show (x % 256) % 4294967296 = x % 256; omega)])); intro gb168 hg w57 hbox hb; replace HO167 := zMk (zRb (by exact uR HO167.out) hb); have BK168 := zMk (hbox); have GW168 := zMk ((by rw [hg]; exact (zBs (by exact uT HB.out)) : w.heap.size ≤ gb168)); have GE168 := zMk ((by rw [hg]; exact (zBs (by exact uT HB.out)) : w.heap.size ≤ gb168)); have IGE168 := ownGe GE168.out; replace HB := zMk (zBt (by exact uT HB.out) hb); clear hb hbox hg; have hcz58_0 : w57.cell? ⟨gb168, 0, none⟩ = some (.int .i64 0) := (zKc BK168.out 0).trans rfl; have hcz58_1 : w57.cell? ⟨gb168, 1, none⟩ = some (.slice none 0 0) := (zKc BK168.out 1).trans rfl; have hfz58_0 := zKf BK168.out 0; have hfz58_1 := zKf BK168.out 1)|((with_reducible refine gate_callee (f := 11) rfl ?_); refine goesL_ (some 12) rfl rfl Try.func11 (by kernel_rfl) rfl #[.agg #[.int .i64 3, .slice Ao56 y165.length co56], .int .i64 0] rfl (by (try simp only [zMa, zMc, zMn]); first |  done|  rfl|  (simp only [zLd, zLt]; rfl)) ?_; (with_reducible refine (paths_From.calls k 3 _ _ y165 0 t169 t172 t175 _ ?side1 ?side2 A1.out).mono ?_); (case side1 => refine (zRr (e := 39) (base := w.heap.size) (ok := fun k_ => True) (n := y165.length) (c := co56) ?_).2.2; exact (by (with_reducible repeat (first |  apply zRa|  apply zRn|  apply zRd)); exact (zRm (Kd.R_far (p := ⟨gb168, 1, none⟩) (Kd.R_far (p := ⟨gb168, 0, none⟩) (Kd.R_types HO167.out BK168.out (by decide)) (fun _ hk => hk.2) (.int .i64 3)) (fun _ hk => hk.2) (.slice Ao56 y165.length co56)) (fun _ h_ => h_.1)))); (case side2 => exact (zRr HO167.out).2.1); rintro e w59 ⟨v170, v173, rfl, ho0, ho1, hb⟩; refine ⟨_, rfl, ?_⟩; replace HO167 := zMk (zRb (by (with_reducible repeat (first |  apply zRa|  apply zRn|  apply zRd)); exact (zRm (Kd.R_far (p := ⟨gb168, 1, none⟩) (Kd.R_far (p := ⟨gb168, 0, none⟩) (Kd.R_types HO167.out BK168.out (by decide)) (fun _ hk => hk.2) (.int .i64 3)) (fun _ hk => hk.2) (.slice Ao56 y165.length co56)) (fun _ h_ => h_.1))) hb); have HO171 := zMk (zRl ho0 (zBs (by exact uT HB.out))); have HO174 := zMk (zRl ho1 (zBs (by exact uT HB.out))); replace BK168 := zMk (zKb (g := gb168) (o := .cells #[.int .i64 3, .slice Ao56 y165.length co56] 24 (0, 0)) (by (with_reducible repeat (first |  refine zKn ?_ _|  refine zKd ?_|  refine zKa ?_ _)); refine blk_put (cs := #[.int .i64 3, .slice none 0 0]) ?_ 1 _ rfl; (with_reducible repeat (first |  refine zKn ?_ _|  refine zKd ?_|  refine zKa ?_ _)); refine blk_put (cs := #[.int .i64 0, .slice none 0 0]) ?_ 0 _ rfl; (with_reducible repeat (first |  refine zKn ?_ _|  refine zKd ?_|  refine zKa ?_ _)); exact BK168.out) hb); replace HB := zMk (zBt (by exact uT HB.out) hb)))
    go_ret
    exact ⟨by first | rfl | (simp [errW_none, errW_some] <;> rfl) | (simp [*, errW_none, errW_some] <;> rfl), by exact uT HB.out⟩

theorem w64 {x : Int} (h0 : -9223372036854775808 ≤ x) (h1 : x ≤ 9223372036854775807) : wrap64 x = x := by unfold wrap64; omega
def badE (n : Int) (e : S39) : Int :=
  if e.f0 < 0 ∨ e.f0 ≥ n ∨ e.f1 < 0 ∨ e.f1 ≥ n then 5 else if e.f2 < 0 then 10 else if e.f2 ≥ 2147483648 then 8 else 0
def rgtL (n : Int) : List S39 → Int
  | [] => 0
  | e :: l => if badE n e ≠ 0 then badE n e else rgtL n l
def rightP (n : Int) (l : List S39) : Int := if n < 0 then 1 else if n > 1048576 then 4 else if (l.length : Int) > 4194304 then 4 else rgtL n l
theorem rdE_get (l : List S39) (i : Nat) (h : i < l.length) : rd_T39 l (i : Int) = l[i] := by
  unfold rd_T39
  rw [zTn]
  simp [h]
theorem dropE (l : List S39) (i : Nat) (h : i < l.length) : l.drop i = rd_T39 l (i : Int) :: l.drop (i + 1) := by
  rw [List.drop_eq_getElem_cons h, rdE_get l i h]
theorem Right_l0 (n : Int) (l : List S39) (hm : l.length ≤ 4194304) (d : Nat) : ∀ (k i : Nat), l.length - i = d → i ≤ l.length → 2 * d + 2 ≤ k →
    paths_Right.l0 k l (l.length : Int) i n l = some (rgtL n (l.drop i)) := by
  induction d with
  | zero =>
    intro k i hd hi hk
    obtain ⟨k, rfl⟩ : ∃ m, k = m + 1 := ⟨k - 1, by omega⟩
    simp only [paths_Right.l0]
    rw [if_neg (by omega), List.drop_of_length_le (by omega)]
    rfl
  | succ d ih =>
    intro k i hd hi hk
    obtain ⟨k, rfl⟩ : ∃ m, k = m + 2 := ⟨k - 2, by omega⟩
    have hlt : i < l.length := by omega
    simp only [paths_Right.l0]
    rw [if_pos (by omega), if_pos (by omega), if_pos (by omega), dropE l i hlt]
    generalize rd_T39 l (i : Int) = e
    have hj : ∀ b : Bool, (b = true ↔ (e.f0 < 0 ∨ e.f0 ≥ n ∨ e.f1 < 0 ∨ e.f1 ≥ n)) → paths_Right.j1 (k + 1) l (l.length : Int) i b n l e.f0 e.f1 e.f2 = some (rgtL n (e :: l.drop (i + 1))) := by
      intro b hb
      simp only [paths_Right.j1, rgtL]
      by_cases h1 : b = true
      · have hv : badE n e = 5 := by unfold badE; rw [if_pos (hb.1 h1)]
        rw [if_pos h1, hv]; rfl
      · have hc := fun h => h1 (hb.2 h)
        rw [if_neg h1]
        by_cases h2 : e.f2 < 0
        · have hv : badE n e = 10 := by unfold badE; rw [if_neg hc, if_pos h2]
          rw [if_pos h2, hv]; rfl
        · rw [if_neg h2]
          by_cases h3 : e.f2 ≥ 2147483648
          · have hv : badE n e = 8 := by unfold badE; rw [if_neg hc, if_neg h2, if_pos h3]
            rw [if_pos h3, hv]; rfl
          · have hv : badE n e = 0 := by unfold badE; rw [if_neg hc, if_neg h2, if_neg h3]
            rw [if_neg h3, hv, w64 (by omega) (by omega)]
            simp only [ne_eq, not_true_eq_false, if_false]
            exact ih k (i + 1) (by omega) (by omega) (by omega)
    by_cases h1 : mn e.f0 e.f1 < 0
    · rw [if_pos h1]
      refine hj _ ?_
      simp only [decide_eq_true_eq]
      unfold mn at h1 ⊢
      constructor
      · intro h; split at h <;> omega
      · intro _; exact h1
    · rw [if_neg h1]
      refine hj _ ?_
      simp only [decide_eq_true_eq]
      unfold mn at h1
      unfold mx
      constructor
      · intro h; split at h <;> omega
      · intro h; split at h1 <;> split <;> omega
theorem Right_eq (k : Nat) (n : Int) (l : List S39) (hk : 2 * l.length + 2 ≤ k) : paths_Right.f k n l = some (rightP n l) := by
  unfold paths_Right.f rightP
  by_cases h1 : n < 0
  · rw [if_pos h1, if_pos h1]
  · rw [if_neg h1, if_neg h1]
    by_cases h2 : n > 1048576
    · rw [if_pos h2, if_pos h2]
    · rw [if_neg h2, if_neg h2]
      by_cases h3 : (l.length : Int) > 4194304
      · rw [if_pos h3, if_pos h3]
      · rw [if_neg h3, if_neg h3]
        have := Right_l0 n l (by omega) l.length k 0 (by omega) (by omega) (by omega)
        simpa using this
theorem refRight_l0 (n : Int) (l : List S39) (hm : l.length ≤ 4194304) (d : Nat) : ∀ (k i : Nat), l.length - i = d → i ≤ l.length → 2 * d + 2 ≤ k →
    filigreeref12_Right.l0 k i n l = some (rgtL n (l.drop i)) := by
  induction d with
  | zero =>
    intro k i hd hi hk
    obtain ⟨k, rfl⟩ : ∃ m, k = m + 1 := ⟨k - 1, by omega⟩
    simp only [filigreeref12_Right.l0]
    rw [if_neg (by omega), List.drop_of_length_le (by omega)]
    rfl
  | succ d ih =>
    intro k i hd hi hk
    obtain ⟨k, rfl⟩ : ∃ m, k = m + 2 := ⟨k - 2, by omega⟩
    have hlt : i < l.length := by omega
    simp only [filigreeref12_Right.l0]
    rw [if_pos (by omega), if_pos (by omega), dropE l i hlt]
    generalize rd_T39 l (i : Int) = e
    have hj : ∀ b : Bool, (b = true ↔ (e.f0 < 0 ∨ e.f0 ≥ n ∨ e.f1 < 0 ∨ e.f1 ≥ n)) → filigreeref12_Right.j2 (k + 1) i b n l e.f0 e.f1 e.f2 = some (rgtL n (e :: l.drop (i + 1))) := by
      intro b hb
      simp only [filigreeref12_Right.j2, rgtL]
      by_cases h1 : b = true
      · have hv : badE n e = 5 := by unfold badE; rw [if_pos (hb.1 h1)]
        rw [if_pos h1, hv]; rfl
      · have hc := fun h => h1 (hb.2 h)
        rw [if_neg h1]
        by_cases h2 : e.f2 < 0
        · have hv : badE n e = 10 := by unfold badE; rw [if_neg hc, if_pos h2]
          rw [if_pos h2, hv]; rfl
        · rw [if_neg h2]
          by_cases h3 : e.f2 ≥ 2147483648
          · have hv : badE n e = 8 := by unfold badE; rw [if_neg hc, if_neg h2, if_pos h3]
            rw [if_pos h3, hv]; rfl
          · have hv : badE n e = 0 := by unfold badE; rw [if_neg hc, if_neg h2, if_neg h3]
            rw [if_neg h3, hv, w64 (by omega) (by omega)]
            simp only [ne_eq, not_true_eq_false, if_false]
            exact ih k (i + 1) (by omega) (by omega) (by omega)
    repeat' split
    all_goals (refine hj _ ?_; simp only [decide_eq_true_eq, true_iff]; omega)
theorem refRight_eq (k : Nat) (n : Int) (l : List S39) (hk : 2 * l.length + 3 ≤ k) : filigreeref12_Right.f k n l = some (rightP n l) := by
  unfold filigreeref12_Right.f rightP
  obtain ⟨k, rfl⟩ : ∃ m, k = m + 1 := ⟨k - 1, by omega⟩
  by_cases h1 : n < 0
  · rw [if_pos h1, if_pos h1]
  · rw [if_neg h1, if_neg h1]
    by_cases h2 : n > 1048576
    · rw [if_pos h2, if_pos h2]; simp only [filigreeref12_Right.j0]; rfl
    · rw [if_neg h2, if_neg h2]
      simp only [filigreeref12_Right.j0, decide_eq_true_eq]
      by_cases h3 : (l.length : Int) > 4194304
      · rw [if_pos h3, if_pos h3]
      · rw [if_neg h3, if_neg h3]
        have := refRight_l0 n l (by omega) l.length k 0 (by omega) (by omega) (by omega)
        simpa using this
def okE (n : Int) (E : List S39) : Prop := ∀ e ∈ E, 0 ≤ e.f0 ∧ e.f0 < n ∧ 0 ≤ e.f1 ∧ e.f1 < n ∧ 0 ≤ e.f2 ∧ e.f2 < 2147483648
theorem rgtL_ok (n : Int) : ∀ E : List S39, rgtL n E = 0 → okE n E
  | [], _ => fun e he => by simp at he
  | e :: l, h => by
    simp only [rgtL] at h
    by_cases hb : badE n e = 0
    · rw [hb] at h
      simp only [ne_eq, not_true_eq_false, if_false] at h
      intro e' he'
      rcases List.mem_cons.1 he' with rfl | he'
      · unfold badE at hb
        split at hb
        · omega
        · split at hb
          · omega
          · split at hb <;> omega
      · exact rgtL_ok n l h e' he'
    · rw [if_pos hb] at h; exact absurd h hb
theorem right_ok (n : Int) (E : List S39) (h : rightP n E = 0) : 0 ≤ n ∧ n ≤ 1048576 ∧ okE n E := by
  unfold rightP at h
  split at h
  · omega
  · split at h
    · omega
    · split at h
      · omega
      · exact ⟨by omega, by omega, rgtL_ok n E h⟩
def inc (e : S39) (x : Int) : Prop := e.f0 = x ∨ e.f1 = x
def oth (e : S39) (x : Int) : Int := e.f0 + e.f1 - x
theorem oth_range {n : Int} {e : S39} {x : Int} (h : 0 ≤ e.f0 ∧ e.f0 < n ∧ 0 ≤ e.f1 ∧ e.f1 < n ∧ 0 ≤ e.f2 ∧ e.f2 < 2147483648) (hi : inc e x) : 0 ≤ oth e x ∧ oth e x < n ∧ inc e (oth e x) := by
  unfold inc at *; unfold oth; omega
inductive Walk (E : List S39) (v : Int) : Int → Int → Prop where
  | nil : Walk E v v 0
  | step {x L : Int} (e : S39) (hw : Walk E v x L) (he : e ∈ E) (hi : inc e x) : Walk E v (oth e x) (L + e.f2)
theorem Walk.range {n : Int} {E : List S39} {v x L : Int} (hE : okE n E) (hv : 0 ≤ v ∧ v < n) (h : Walk E v x L) : 0 ≤ x ∧ x < n ∧ 0 ≤ L := by
  induction h with
  | nil => omega
  | step e hw he hi ih => have := oth_range (hE e he) hi; have := hE e he; omega
def Std (n : Int) (d : List Int) (x : Int) : Prop := 0 ≤ x ∧ x < n ∧ 0 ≤ rd d x
def Cov (n : Int) (d : List Int) (xs : List S48) (y L : Int) : Prop := (Std n d y ∧ rd d y ≤ L) ∨ ∃ it ∈ xs, it.f1 = y ∧ it.f0 ≤ L
def nset (d : List Int) : Nat := d.countP (fun z => decide (0 ≤ z))
structure Inv (v n : Int) (E : List S39) (d p : List Int) (xs : List S48) (rk : Int → Nat) (pr : Int → Nat → Prop) : Prop where
  dl : d.length = n.toNat
  pl : p.length = n.toNat
  dlo : ∀ x, 0 ≤ x → x < n → -1 ≤ rd d x
  heap : Heap xs
  itm : ∀ it ∈ xs, 0 ≤ it.f0 ∧ 0 ≤ it.f1 ∧ it.f1 < n ∧ (∀ x, Std n d x → rd d x ≤ it.f0) ∧ ((it.f1 = v ∧ it.f0 = 0 ∧ it.f2 = -1) ∨ ∃ j : Nat, it.f2 = (j : Int) ∧ ∃ h : j < E.length, ∃ u, Std n d u ∧ inc E[j] u ∧ it.f1 = oth E[j] u ∧ it.f0 = rd d u + E[j].f2)
  st : ∀ x, Std n d x → Walk E v x (rd d x) ∧ rk x < nset d ∧ rd d x ≤ (rk x : Int) * 2147483648 ∧ ((x = v ∧ rd d x = 0 ∧ rd p x = -1) ∨ x ≠ v ∧ ∃ j : Nat, rd p x = (j : Int) ∧ ∃ h : j < E.length, ∃ u, Std n d u ∧ inc E[j] u ∧ x = oth E[j] u ∧ rd d x = rd d u + E[j].f2 ∧ rk u < rk x)
  fr : ∀ u, Std n d u → ∀ (j : Nat) (h : j < E.length), inc E[j] u → pr u j → Cov n d xs (oth E[j] u) (rd d u + E[j].f2)
  un : ∀ x, 0 ≤ x → x < n → rd d x < 0 → rd p x = -1
  rt : Std n d v ∨ ((∀ x, ¬ Std n d x) ∧ ∃ it ∈ xs, it.f1 = v ∧ it.f0 ≤ 0)
section
variable {v n : Int} {E : List S39} {d p : List Int} {xs : List S48} {rk : Int → Nat} {pr : Int → Nat → Prop}
theorem rd_set (l : List Int) (a : Int) (y : Int) (b : Int) (ha : 0 ≤ a) (ha2 : a < l.length) (hb : 0 ≤ b) : rd (l.set a.toNat y) b = if b = a then y else rd l b := by
  unfold rd
  by_cases h : b = a
  · subst h
    rw [if_pos rfl]
    simp [List.getD, show b.toNat < l.length by omega]
  · rw [if_neg h]
    simp only [List.getD, List.getElem?_set]
    rw [if_neg (by omega)]
theorem rd_nat (l : List Int) (i : Nat) (h : i < l.length) : rd l (i : Int) = l[i] := by unfold rd; simp [h]
theorem nset_le (d : List Int) : nset d ≤ d.length := List.countP_le_length
theorem nset_set (d : List Int) (a y : Int) (ha : 0 ≤ a) (ha2 : a < d.length) (h : rd d a < 0) (hy : 0 ≤ y) : nset (d.set a.toNat y) = nset d + 1 := by
  unfold nset
  have hl : a.toNat < d.length := by omega
  have e : rd d a = d[a.toNat] := by
    have := rd_nat d a.toNat hl
    rw [Int.toNat_of_nonneg ha] at this
    exact this
  rw [List.countP_set hl]
  rw [e] at h
  simp [show ¬ (0 ≤ d[a.toNat]) by omega, hy]
theorem Inv.drop (I : Inv v n E d p xs rk pr) (h0 : 0 < xs.length) (hs : 0 ≤ rd d (hmin xs).f1) : Inv v n E d p (hpop xs) rk pr := by
  obtain ⟨hh, hp, hle, hl⟩ := hpop_heap xs I.heap h0
  have hm : hmin xs ∈ xs := hp.mem_iff.2 List.mem_cons_self
  have sub : ∀ it ∈ hpop xs, it ∈ xs := fun it h => hp.mem_iff.2 (List.mem_cons_of_mem _ h)
  have him := I.itm _ hm
  have hst : Std n d (hmin xs).f1 := ⟨him.2.1, him.2.2.1, hs⟩
  refine ⟨I.dl, I.pl, I.dlo, hh, fun it h => I.itm it (sub it h), I.st, fun u hu j hj hi hpr => ?_, I.un, ?_⟩
  · rcases I.fr u hu j hj hi hpr with h | ⟨it, hit, e1, e2⟩
    · exact .inl h
    · rcases List.mem_cons.1 (hp.mem_iff.1 hit) with rfl | h
      · left
        refine ⟨e1 ▸ hst, ?_⟩
        have := him.2.2.2.1 _ hst
        rw [← e1]; omega
      · exact .inr ⟨it, h, e1, e2⟩
  · rcases I.rt with h | ⟨h, _⟩
    · exact .inl h
    · exact absurd hst (h _)
theorem Inv.settle (I : Inv v n E d p xs rk (fun _ _ => True)) (h0 : 0 < xs.length) (hs : rd d (hmin xs).f1 < 0) (hE : okE n E) :
    Inv v n E (d.set (hmin xs).f1.toNat (hmin xs).f0) (p.set (hmin xs).f1.toNat (hmin xs).f2) (hpop xs) (fun z => if z = (hmin xs).f1 then nset d else rk z) (fun u _ => u ≠ (hmin xs).f1) ∧
      (∀ z, Std n (d.set (hmin xs).f1.toNat (hmin xs).f0) z → rd (d.set (hmin xs).f1.toNat (hmin xs).f0) z ≤ (hmin xs).f0) := by
  obtain ⟨hh, hp, hle, hl⟩ := hpop_heap xs I.heap h0
  have hm : hmin xs ∈ xs := hp.mem_iff.2 List.mem_cons_self
  have sub : ∀ it ∈ hpop xs, it ∈ xs := fun it h => hp.mem_iff.2 (List.mem_cons_of_mem _ h)
  have him := I.itm _ hm
  obtain ⟨x, hx⟩ : ∃ x, hmin xs = x := ⟨_, rfl⟩
  rw [hx] at him hs hm hp hle ⊢
  obtain ⟨i0, i1, i2, i3, i4⟩ := him
  have hdl : x.f1 < d.length := by have := I.dl; omega
  have hpl : x.f1 < p.length := by have := I.pl; omega
  have D : ∀ z, 0 ≤ z → rd (d.set x.f1.toNat x.f0) z = if z = x.f1 then x.f0 else rd d z := fun z hz => rd_set d x.f1 x.f0 z i1 hdl hz
  have P : ∀ z, 0 ≤ z → rd (p.set x.f1.toNat x.f2) z = if z = x.f1 then x.f2 else rd p z := fun z hz => rd_set p x.f1 x.f2 z i1 hpl hz
  have S : ∀ z, Std n (d.set x.f1.toNat x.f0) z ↔ z = x.f1 ∨ Std n d z := by
    intro z
    constructor
    · rintro ⟨a, b, c⟩
      rw [D z a] at c
      by_cases e : z = x.f1
      · exact .inl e
      · rw [if_neg e] at c; exact .inr ⟨a, b, c⟩
    · rintro (rfl | ⟨a, b, c⟩)
      · exact ⟨i1, i2, by rw [D _ i1, if_pos rfl]; exact i0⟩
      · refine ⟨a, b, ?_⟩
        rw [D z a]; split
        · exact i0
        · exact c
  have old : ∀ z, Std n d z → z ≠ x.f1 := fun z hz e => by have := hz.2.2; rw [e] at this; omega
  have dOld : ∀ z, Std n d z → rd (d.set x.f1.toNat x.f0) z = rd d z := fun z hz => by rw [D z hz.1, if_neg (old z hz)]
  have hns : nset (d.set x.f1.toNat x.f0) = nset d + 1 := nset_set d x.f1 x.f0 i1 hdl hs i0
  have hvs : (∃ u, Std n d u) → Std n d v := by
    rintro ⟨u, hu⟩
    rcases I.rt with h | ⟨h, _⟩
    · exact h
    · exact absurd hu (h u)
  have sx : Std n (d.set x.f1.toNat x.f0) x.f1 := (S _).2 (.inl rfl)
  have mx : ∀ z, Std n (d.set x.f1.toNat x.f0) z → rd (d.set x.f1.toNat x.f0) z ≤ x.f0 := by
    intro z hz
    rcases (S z).1 hz with rfl | h
    · rw [D _ i1, if_pos rfl]; exact Int.le_refl _
    · rw [dOld z h]; exact i3 z h
  refine ⟨⟨by rw [List.length_set]; exact I.dl, by rw [List.length_set]; exact I.pl, fun z a b => ?_, hh, fun it hit => ?_, fun z hz => ?_, fun u hu j hj hi hne => ?_, fun z a b c => ?_, ?_⟩, mx⟩
  · rw [D z a]; split
    · omega
    · exact I.dlo z a b
  · obtain ⟨a0, a1, a2, a3, a4⟩ := I.itm it (sub it hit)
    refine ⟨a0, a1, a2, fun z hz => ?_, ?_⟩
    · have := mx z hz
      have := hle it (sub it hit)
      omega
    · rcases a4 with h | ⟨j, e1, hj, u, hu, b1, b2, b3⟩
      · exact .inl h
      · exact .inr ⟨j, e1, hj, u, (S u).2 (.inr hu), b1, b2, by rw [dOld u hu]; exact b3⟩
  · rcases (S z).1 hz with rfl | h
    · rw [D _ i1, if_pos rfl, P _ i1, if_pos rfl, hns]
      simp only [if_true]
      rcases i4 with ⟨e1, e2, e3⟩ | ⟨j, e1, hj, u, hu, b1, b2, b3⟩
      · refine ⟨?_, by omega, by rw [e2]; omega, .inl ⟨e1, e2, e3⟩⟩
        rw [e1, e2]; exact Walk.nil
      · have hsu := I.st u hu
        refine ⟨?_, by omega, ?_, .inr ⟨?_, j, e1, hj, u, (S u).2 (.inr hu), b1, b2, by rw [dOld u hu]; exact b3, ?_⟩⟩
        · rw [b2, b3]; exact Walk.step E[j] hsu.1 (List.getElem_mem hj) b1
        · rw [b3]
          have h1 := hsu.2.2.1
          have h2 := hsu.2.1
          have h3 := hE _ (List.getElem_mem hj)
          omega
        · intro e
          have := hvs ⟨u, hu⟩
          exact old v this e.symm
        · rw [if_neg (old u hu)]; exact hsu.2.1
    · have hsz := I.st z h
      have hzx := old z h
      rw [dOld z h, P z h.1, if_neg hzx, hns]
      simp only [if_neg hzx]
      refine ⟨hsz.1, by omega, hsz.2.2.1, ?_⟩
      rcases hsz.2.2.2 with h' | ⟨h', j, e1, hj, u, hu, b1, b2, b3, b4⟩
      · exact .inl h'
      · exact .inr ⟨h', j, e1, hj, u, (S u).2 (.inr hu), b1, b2, by rw [dOld u hu]; exact b3, by rw [if_neg (old u hu)]; exact b4⟩
  · rcases (S u).1 hu with rfl | h
    · exact absurd rfl hne
    · rw [dOld u h]
      rcases I.fr u h j hj hi trivial with ⟨h1, h2⟩ | ⟨it, hit, e1, e2⟩
      · exact .inl ⟨(S _).2 (.inr h1), by rw [dOld _ h1]; exact h2⟩
      · rcases List.mem_cons.1 (hp.mem_iff.1 hit) with rfl | h'
        · left
          rw [← e1]
          exact ⟨sx, by rw [D _ i1, if_pos rfl]; exact e2⟩
        · exact .inr ⟨it, h', e1, e2⟩
  · rw [D z a] at c
    by_cases e : z = x.f1
    · rw [if_pos e] at c; omega
    · rw [if_neg e] at c
      rw [P z a, if_neg e]; exact I.un z a b c
  · left
    rcases I.rt with h | ⟨h, it, hit, e1, e2⟩
    · exact (S v).2 (.inr h)
    · rcases i4 with ⟨e1, _⟩ | ⟨j, e1, hj, u, hu, _⟩
      · exact (S v).2 (.inl e1.symm)
      · exact absurd hu (h u)
theorem Inv.edge {u : Int} {Q : Nat → Prop} (I : Inv v n E d p xs rk (fun z j => z ≠ u ∨ Q j)) (hE : okE n E) (hu : Std n d u) (mx : ∀ z, Std n d z → rd d z ≤ rd d u) (j : Nat) (hj : j < E.length) (hi : inc E[j] u) :
    Inv v n E d p (if rd d (oth E[j] u) < 0 then hpush xs ⟨rd d u + E[j].f2, oth E[j] u, (j : Int)⟩ else xs) rk (fun z t => z ≠ u ∨ Q t ∨ t = j) := by
  have ho := hE _ (List.getElem_mem hj)
  have hr := oth_range ho hi
  by_cases hn : rd d (oth E[j] u) < 0
  · rw [if_pos hn]
    obtain ⟨hh, hp⟩ := hpush_heap xs ⟨rd d u + E[j].f2, oth E[j] u, (j : Int)⟩ I.heap
    have sub : ∀ it, it ∈ xs → it ∈ hpush xs ⟨rd d u + E[j].f2, oth E[j] u, (j : Int)⟩ := fun it h => hp.mem_iff.2 (List.mem_cons_of_mem _ h)
    refine ⟨I.dl, I.pl, I.dlo, hh, fun it hit => ?_, I.st, fun z hz t ht hti hpr => ?_, I.un, ?_⟩
    · rcases List.mem_cons.1 (hp.mem_iff.1 hit) with rfl | h
      · refine ⟨by show 0 ≤ rd d u + E[j].f2; have := hu.2.2; omega, hr.1, hr.2.1, fun z hz => ?_, .inr ⟨j, rfl, hj, u, hu, hi, rfl, rfl⟩⟩
        have := mx z hz
        show rd d z ≤ rd d u + E[j].f2
        omega
      · exact I.itm it h
    · have old : (z ≠ u ∨ Q t) → Cov n d (hpush xs ⟨rd d u + E[j].f2, oth E[j] u, (j : Int)⟩) (oth E[t] z) (rd d z + E[t].f2) := by
        intro h
        rcases I.fr z hz t ht hti h with h' | ⟨it, hit, e⟩
        · exact .inl h'
        · exact .inr ⟨it, sub it hit, e⟩
      rcases hpr with h | h | h
      · exact old (.inl h)
      · exact old (.inr h)
      · by_cases hzu : z = u
        · subst hzu; subst h
          exact .inr ⟨_, hp.mem_iff.2 List.mem_cons_self, rfl, Int.le_refl _⟩
        · exact old (.inl hzu)
    · rcases I.rt with h | ⟨h, it, hit, e⟩
      · exact .inl h
      · exact .inr ⟨h, it, sub it hit, e⟩
  · rw [if_neg hn]
    refine ⟨I.dl, I.pl, I.dlo, I.heap, I.itm, I.st, fun z hz t ht hti hpr => ?_, I.un, I.rt⟩
    rcases hpr with h | h | h
    · exact I.fr z hz t ht hti (.inl h)
    · exact I.fr z hz t ht hti (.inr h)
    · by_cases hzu : z = u
      · subst hzu; subst h
        have hy : Std n d (oth E[t] z) := ⟨hr.1, hr.2.1, by omega⟩
        left
        refine ⟨hy, ?_⟩
        have := mx _ hy
        omega
      · exact I.fr z hz t ht hti (.inl hzu)
end
def NearOK (n : Int) (E : List S39) (nr : List (List Int)) (c : Nat) : Prop :=
  nr.length = n.toNat ∧ ∀ x, 0 ≤ x → x < n → (rd_L3 nr x).length ≤ 2 * c ∧ ∀ i : Int, i ∈ rd_L3 nr x ↔ ∃ j : Nat, i = (j : Int) ∧ j < c ∧ ∃ h : j < E.length, inc E[j] x
theorem rdL_set (l : List (List Int)) (a : Int) (y : List Int) (b : Int) (ha : 0 ≤ a) (ha2 : a < l.length) (hb : 0 ≤ b) : rd_L3 (l.set a.toNat y) b = if b = a then y else rd_L3 l b := by
  unfold rd_L3
  by_cases h : b = a
  · subst h
    rw [if_pos rfl]
    simp [List.getD, show b.toNat < l.length by omega]
  · rw [if_neg h]
    simp only [List.getD, List.getElem?_set]
    rw [if_neg (by omega)]
theorem rep64 (n : Int) (h0 : 0 ≤ n) (h1 : n ≤ 1048576) : slices_Repeat_int64_int64.f [-1] n = some (List.replicate n.toNat (-1)) := by
  unfold slices_Repeat_int64_int64.f
  rw [if_pos h0, if_pos (by omega), if_pos (show ([-1] : List Int).length = 1 from rfl)]
  rfl
theorem repI (n : Int) (h0 : 0 ≤ n) (h1 : n ≤ 1048576) : slices_Repeat_int_int.f [-1] n = some (List.replicate n.toNat (-1)) := by
  unfold slices_Repeat_int_int.f
  rw [if_pos h0, if_pos (by omega), if_pos (show ([-1] : List Int).length = 1 from rfl)]
  rfl
section
variable {v n : Int} {E : List S39}
theorem From_l0 (hn : 0 ≤ n ∧ n ≤ 1048576) (hE : okE n E) (hm : E.length ≤ 1000) (d : Nat) : ∀ (k c : Nat) (nr : List (List Int)), E.length - c = d → c ≤ E.length → NearOK n E nr c →
    ∃ nr', NearOK n E nr' E.length ∧ paths_From.l0 (k + d + 1) v nr E (E.length : Int) (c : Int) n E = paths_From.l1 k (List.replicate n.toNat (-1)) (List.replicate n.toNat (-1)) nr' [⟨0, v, -1⟩] n E := by
  induction d with
  | zero =>
    intro k c nr hd hc hN
    have e : c = E.length := by omega
    refine ⟨nr, by rw [e] at hN; exact hN, ?_⟩
    simp only [paths_From.l0]
    rw [if_neg (by omega), rep64 n hn.1 hn.2, zOb, repI n hn.1 hn.2, zOb]
  | succ d ih =>
    intro k c nr hd hc hN
    have hlt : c < E.length := by omega
    have ho := hE _ (List.getElem_mem hlt)
    obtain ⟨hl, hN⟩ := hN
    rw [show k + (d + 1) + 1 = (k + d + 1) + 1 by omega]
    have e0 : rd_T39 E (c : Int) = E[c] := rdE_get E c hlt
    obtain ⟨e, he⟩ : ∃ e, E[c] = e := ⟨_, rfl⟩
    rw [he] at e0 ho
    obtain ⟨o1, o2, o3, o4, _, _⟩ := ho
    have a1 := hN e.f0 o1 o2
    have a2 := hN e.f1 o3 o4
    obtain ⟨y1, hy1⟩ : ∃ y1, nr.set e.f0.toNat (rd_L3 nr e.f0 ++ [(c : Int)]) = y1 := ⟨_, rfl⟩
    have y1l : y1.length = nr.length := by rw [← hy1, List.length_set]
    have y1g : ∀ b, 0 ≤ b → rd_L3 y1 b = if b = e.f0 then rd_L3 nr e.f0 ++ [(c : Int)] else rd_L3 nr b := fun b hb => by rw [← hy1]; exact rdL_set nr e.f0 _ b o1 (by omega) hb
    have y1len : (rd_L3 y1 e.f1).length ≤ 2 * c + 1 := by
      rw [y1g _ o3]; split
      · rw [List.length_append, List.length_singleton]; omega
      · omega
    have step : paths_From.l0 ((k + d + 1) + 1) v nr E (E.length : Int) (c : Int) n E = paths_From.l0 (k + d + 1) v (y1.set e.f1.toNat (rd_L3 y1 e.f1 ++ [(c : Int)])) E (E.length : Int) ((c + 1 : Nat) : Int) n E := by
      simp only [paths_From.l0]
      rw [if_pos (by omega), if_pos (by omega), if_pos (by omega), e0, if_pos o1, if_pos (by omega), if_pos (by omega), zOb, hy1, if_pos o3, if_pos (by omega), if_pos (by omega), w64 (by omega) (by omega)]
      rfl
    rw [step]
    refine ih k (c + 1) _ (by omega) (by omega) ⟨by rw [List.length_set]; omega, fun x hx0 hx1 => ?_⟩
    rw [rdL_set y1 e.f1 _ x o3 (by omega) hx0]
    have b1 := hN x hx0 hx1
    have key : ∀ i : Int, (∃ j : Nat, i = (j : Int) ∧ j < c + 1 ∧ ∃ h : j < E.length, inc E[j] x) ↔ (i ∈ rd_L3 nr x ∨ (i = (c : Int) ∧ inc e x)) := by
      intro i
      rw [b1.2]
      constructor
      · rintro ⟨j, rfl, h1, h2, h3⟩
        by_cases hj : j = c
        · subst hj; right; exact ⟨rfl, he ▸ h3⟩
        · left; exact ⟨j, rfl, by omega, h2, h3⟩
      · rintro (⟨j, rfl, h1, h2, h3⟩ | ⟨rfl, h3⟩)
        · exact ⟨j, rfl, by omega, h2, h3⟩
        · exact ⟨c, rfl, by omega, hlt, he.symm ▸ h3⟩
    refine ⟨?_, fun i => ?_⟩
    · split
      · rw [List.length_append, List.length_singleton]; omega
      · rw [y1g x hx0]
        split
        · rename_i h; subst h; rw [List.length_append, List.length_singleton]; omega
        · omega
    · rw [key]
      by_cases h1 : x = e.f1
      · rw [if_pos h1, y1g _ o3]
        by_cases h0 : e.f1 = e.f0
        · rw [if_pos h0]
          rw [← h0, ← h1]
          simp only [List.mem_append, List.mem_singleton]
          constructor
          · rintro ((h | h) | h)
            · exact .inl h
            · exact .inr ⟨h, .inr h1.symm⟩
            · exact .inr ⟨h, .inr h1.symm⟩
          · rintro (h | ⟨h, _⟩)
            · exact .inl (.inl h)
            · exact .inr h
        · rw [if_neg h0, ← h1]
          simp only [List.mem_append, List.mem_singleton]
          constructor
          · rintro (h | h)
            · exact .inl h
            · exact .inr ⟨h, .inr h1.symm⟩
          · rintro (h | ⟨h, _⟩)
            · exact .inl h
            · exact .inr h
      · rw [if_neg h1, y1g x hx0]
        by_cases h0 : x = e.f0
        · rw [if_pos h0, ← h0]
          simp only [List.mem_append, List.mem_singleton]
          constructor
          · rintro (h | h)
            · exact .inl h
            · exact .inr ⟨h, .inl h0.symm⟩
          · rintro (h | ⟨h, _⟩)
            · exact .inl h
            · exact .inr h
        · rw [if_neg h0]
          constructor
          · exact .inl
          · rintro (h | ⟨_, h | h⟩)
            · exact h
            · exact absurd h.symm h0
            · exact absurd h.symm h1
theorem From_l2 (hn : 0 ≤ n ∧ n ≤ 1048576) (hE : okE n E) {nr : List (List Int)} {d p : List Int} {rk : Int → Nat} (x : S48) (hu : Std n d x.f1) (hx : rd d x.f1 = x.f0) (mx : ∀ z, Std n d z → rd d z ≤ rd d x.f1) (nb : List Int)
    (hnb : ∀ i : Int, i ∈ nb ↔ ∃ j : Nat, i = (j : Int) ∧ j < E.length ∧ ∃ h : j < E.length, inc E[j] x.f1) (hnl : nb.length ≤ 1000000) (dd : Nat) : ∀ (k i : Nat) (xs : List S48), nb.length - i = dd → i ≤ nb.length → xs.length + dd < 1000000000000 →
    Inv v n E d p xs rk (fun z j => z ≠ x.f1 ∨ ∃ s, s < i ∧ nb[s]? = some (j : Int)) →
    ∃ xs', Inv v n E d p xs' rk (fun _ _ => True) ∧ xs'.length ≤ xs.length + dd ∧ paths_From.l2 (k + dd + 1) d p nr xs nb (i : Int) n E x = paths_From.l1 k d p nr xs' n E := by
  induction dd with
  | zero =>
    intro k i xs hd hi hq I
    refine ⟨xs, ⟨I.dl, I.pl, I.dlo, I.heap, I.itm, I.st, fun u hu' j hj hji _ => ?_, I.un, I.rt⟩, by omega, ?_⟩
    · refine I.fr u hu' j hj hji ?_
      by_cases h : u = x.f1
      · right
        subst h
        obtain ⟨s, hs, e⟩ := List.mem_iff_getElem.1 ((hnb (j : Int)).2 ⟨j, rfl, hj, hj, hji⟩)
        exact ⟨s, by omega, by rw [List.getElem?_eq_getElem hs, e]⟩
      · exact .inl h
    · simp only [paths_From.l2]
      rw [if_neg (by omega)]
  | succ dd ih =>
    intro k i xs hd hi hq I
    have hlt : i < nb.length := by omega
    rw [show k + (dd + 1) + 1 = (k + dd + 1) + 1 by omega]
    obtain ⟨j, e1, hj, _, hji⟩ := (hnb nb[i]).1 (List.getElem_mem hlt)
    have hrd : rd nb (i : Int) = (j : Int) := by rw [rd_nat nb i hlt, e1]
    have hE0 := hE _ (List.getElem_mem hj)
    have hr := oth_range hE0 hji
    have e0 : rd_T39 E (j : Int) = E[j] := rdE_get E j hj
    have hU : wrap64 (wrap64 (E[j].f0 + E[j].f1) - x.f1) = oth E[j] x.f1 := by
      have := hu.1; have := hu.2.1
      rw [w64 (x := E[j].f0 + E[j].f1) (by omega) (by omega), w64 (by omega) (by omega)]; rfl
    have hdl := I.dl
    have hF : wrap64 (x.f0 + E[j].f2) = rd d x.f1 + E[j].f2 := by
      have h1 := (I.st x.f1 hu).2.1
      have h2 := (I.st x.f1 hu).2.2.1
      have h3 := nset_le d
      have h4 := hu.2.2
      rw [hx] at h2 h4
      have : (rk x.f1 : Int) * 2147483648 ≤ 1048576 * 2147483648 := by omega
      rw [w64 (by omega) (by omega), hx]
    have I2 := I.edge hE hu mx j hj hji
    have I3 : Inv v n E d p (if rd d (oth E[j] x.f1) < 0 then hpush xs ⟨rd d x.f1 + E[j].f2, oth E[j] x.f1, (j : Int)⟩ else xs) rk (fun z t => z ≠ x.f1 ∨ ∃ s, s < i + 1 ∧ nb[s]? = some (t : Int)) := by
      refine ⟨I2.dl, I2.pl, I2.dlo, I2.heap, I2.itm, I2.st, fun z hz t ht hti hpr => I2.fr z hz t ht hti ?_, I2.un, I2.rt⟩
      rcases hpr with h | ⟨s, hs, hst⟩
      · exact .inl h
      · by_cases hsi : s = i
        · right; right
          subst hsi
          rw [List.getElem?_eq_getElem hlt, e1] at hst
          have := zOi hst
          omega
        · exact .inr (.inl ⟨s, by omega, hst⟩)
    obtain ⟨xs', I4, hl4, e4⟩ := ih k (i + 1) _ (by omega) (by omega) (by
      split
      · have := (hpush_heap xs ⟨rd d x.f1 + E[j].f2, oth E[j] x.f1, (j : Int)⟩ I.heap).2.length_eq
        rw [zLc] at this; omega
      · omega) I3
    refine ⟨xs', I4, ?_, ?_⟩
    · split at hl4
      · have := (hpush_heap xs ⟨rd d x.f1 + E[j].f2, oth E[j] x.f1, (j : Int)⟩ I.heap).2.length_eq
        rw [zLc] at this; omega
      · omega
    · rw [← e4]
      conv => lhs; simp only [paths_From.l2]
      rw [hrd, e0, hU, hF, if_pos (by omega), if_pos (by omega), if_pos (by omega), if_pos (by omega), if_pos hr.1, if_pos (by omega), w64 (by omega) (by omega)]
      by_cases hneg : rd d (oth E[j] x.f1) < 0
      · rw [if_pos hneg, if_pos (by omega), if_pos hneg]; rfl
      · rw [if_neg hneg, if_neg hneg]; rfl
theorem From_l1 (hn : 0 ≤ n ∧ n ≤ 1048576) (hE : okE n E) (hm : E.length ≤ 1000) (hv : 0 ≤ v ∧ v < n) {nr : List (List Int)} (hN : NearOK n E nr E.length) (f : Nat) : ∀ (k : Nat) (d p : List Int) (xs : List S48) (rk : Int → Nat),
    xs.length + (n.toNat - nset d) * (4 * E.length + 3) ≤ f → f < 1000000000000 → f + 1 ≤ k → Inv v n E d p xs rk (fun _ _ => True) →
    ∃ d' p' rk', Inv v n E d' p' [] rk' (fun _ _ => True) ∧ paths_From.l1 k d p nr xs n E = some (d', p', 0) := by
  induction f using Nat.strongRecOn with
  | _ f ih =>
    intro k d p xs rk hf hf2 hk I
    obtain ⟨k, rfl⟩ : ∃ m, k = m + 1 := ⟨k - 1, by omega⟩
    by_cases h0 : 0 < xs.length
    · obtain ⟨hh, hp, hle, hl⟩ := hpop_heap xs I.heap h0
      have hm' : hmin xs ∈ xs := hp.mem_iff.2 List.mem_cons_self
      obtain ⟨i0, i1, i2, i3, i4⟩ := I.itm _ hm'
      have hdl := I.dl
      have hpl := I.pl
      simp only [paths_From.l1]
      rw [if_pos h0, if_pos (by omega), if_pos i1, if_pos (by omega)]
      by_cases hs : rd d (hmin xs).f1 ≥ 0
      · rw [if_pos hs]
        exact ih (f - 1) (by omega) k d p (hpop xs) rk (by omega) (by omega) (by omega) (I.drop h0 hs)
      · rw [if_neg hs, if_pos (by omega), if_pos (by have := hN.1; omega)]
        obtain ⟨I1, mx⟩ := I.settle h0 (by omega) hE
        have D : rd (d.set (hmin xs).f1.toNat (hmin xs).f0) (hmin xs).f1 = (hmin xs).f0 := by rw [rd_set d _ _ _ i1 (by omega) i1, if_pos rfl]
        have hu : Std n (d.set (hmin xs).f1.toNat (hmin xs).f0) (hmin xs).f1 := ⟨i1, i2, by rw [D]; exact i0⟩
        have hnb := hN.2 (hmin xs).f1 i1 i2
        have hns := nset_set d (hmin xs).f1 (hmin xs).f0 i1 (by omega) (by omega) i0
        have hnle := nset_le (d.set (hmin xs).f1.toNat (hmin xs).f0)
        rw [List.length_set] at hnle
        obtain ⟨T, hT⟩ : ∃ T, n.toNat - nset d = T + 1 := ⟨n.toNat - nset d - 1, by omega⟩
        have hT2 : n.toNat - nset (d.set (hmin xs).f1.toNat (hmin xs).f0) = T := by omega
        rw [hT, Nat.succ_mul] at hf
        obtain ⟨k2, hk2⟩ : ∃ k2, k = k2 + (rd_L3 nr (hmin xs).f1).length + 1 := ⟨k - (rd_L3 nr (hmin xs).f1).length - 1, by omega⟩
        obtain ⟨xs', I2, hl2, e2⟩ := From_l2 (v := v) (nr := nr) hn hE (hmin xs) hu D (fun z hz => by rw [D]; exact mx z hz) (rd_L3 nr (hmin xs).f1) (fun i => by
          rw [hnb.2 i]) (by omega) (rd_L3 nr (hmin xs).f1).length k2 0 (hpop xs) (by omega) (by omega) (by omega) (by
          refine ⟨I1.dl, I1.pl, I1.dlo, I1.heap, I1.itm, I1.st, fun z hz t ht hti hpr => I1.fr z hz t ht hti ?_, I1.un, I1.rt⟩
          rcases hpr with h | ⟨s, hs, _⟩
          · exact h
          · exact absurd hs (by omega))
        rw [hk2]
        have e2' : paths_From.l2 (k2 + (rd_L3 nr (hmin xs).f1).length + 1) (d.set (hmin xs).f1.toNat (hmin xs).f0) (p.set (hmin xs).f1.toNat (hmin xs).f2) nr (hpop xs) (rd_L3 nr (hmin xs).f1) 0 n E (hmin xs) = _ := e2
        rw [e2']
        refine ih (xs'.length + T * (4 * E.length + 3)) (by omega) k2 _ _ xs' _ (by rw [hT2]; exact Nat.le_refl _) (by omega) (by omega) I2
    · have : xs = [] := List.length_eq_zero_iff.1 (by omega)
      subst this
      refine ⟨d, p, rk, I, ?_⟩
      simp only [paths_From.l1]
      rw [if_neg h0]
theorem Inv.first (hv : 0 ≤ v ∧ v < n) : Inv v n E (List.replicate n.toNat (-1)) (List.replicate n.toNat (-1)) [⟨0, v, -1⟩] (fun _ => 0) (fun _ _ => True) := by
  have R : ∀ x : Int, 0 ≤ x → x < n → rd (List.replicate n.toNat (-1)) x = -1 := by
    intro x h0 h1
    unfold rd
    simp [List.getD, show x.toNat < n.toNat by omega]
  have N : ∀ x, ¬ Std n (List.replicate n.toNat (-1)) x := by
    rintro x ⟨a, b, c⟩
    rw [R x a b] at c; omega
  refine ⟨by simp, by simp, fun x a b => by rw [R x a b]; omega, fun t a b => by simp at b; omega, fun it hit => ?_, fun x hx => absurd hx (N x), fun u hu => absurd hu (N u), fun x a b _ => R x a b, .inr ⟨N, _, List.mem_singleton.2 rfl, rfl, Int.le_refl _⟩⟩
  rw [List.mem_singleton] at hit
  subst hit
  exact ⟨Int.le_refl _, hv.1, hv.2, fun x hx => absurd hx (N x), .inl ⟨rfl, rfl, rfl⟩⟩
theorem From_eq (k : Nat) (h : rightP n E = 0) (hv : 0 ≤ v ∧ v < n) (hm : E.length ≤ 160) (hn : n ≤ 40) (hk : 100000 ≤ k) :
    ∃ d p rk, Inv v n E d p [] rk (fun _ _ => True) ∧ paths_From.f k n E v = some (d, p, 0) := by
  obtain ⟨h0, h1, hE⟩ := right_ok n E h
  obtain ⟨nr, hN, e0⟩ := From_l0 (v := v) ⟨h0, h1⟩ hE (by omega) E.length (k - E.length - 2) 0 (List.replicate n.toNat []) (by omega) (by omega) ⟨by simp, fun x a b => by
    have : rd_L3 (List.replicate n.toNat []) x = [] := by unfold rd_L3; simp [List.getD, show x.toNat < n.toNat by omega]
    rw [this]
    exact ⟨by simp, fun i => by simp⟩⟩
  have hnz : nset (List.replicate n.toNat (-1)) = 0 := by unfold nset; simp [List.countP_replicate]
  have hb : 1 + n.toNat * (4 * E.length + 3) ≤ 1 + 40 * (4 * 160 + 3) := Nat.add_le_add_left (Nat.mul_le_mul (by omega) (by omega)) 1
  obtain ⟨d, p, rk, I, e1⟩ := From_l1 (v := v) ⟨h0, h1⟩ hE (by omega) hv hN (1 + n.toNat * (4 * E.length + 3)) (k - E.length - 2) _ _ [⟨0, v, -1⟩] (fun _ => 0) (by rw [hnz]; simp) (by omega) (by omega) (Inv.first hv)
  refine ⟨d, p, rk, I, ?_⟩
  unfold paths_From.f
  rw [Right_eq k n E (by omega), zOb, h, if_pos rfl, if_neg (by omega), decide_eq_false (by omega)]
  obtain ⟨k', rfl⟩ : ∃ k', k = k' + 1 := ⟨k - 1, by omega⟩
  simp only [paths_From.j0]
  rw [if_neg (by decide), if_pos h0, if_pos (by omega)]
  rw [show k' + 1 - E.length - 2 = k' - E.length - 1 by omega] at e0 e1
  rw [show k' = k' - E.length - 1 + E.length + 1 by omega]
  rw [← e1, ← e0]
  rfl
end

mutual
def filigreeref12_Dist.l0 : Nat → Int → List Int → Int → Int → List (S39) → Option (List Int)
  | 0, _, _, _, _, _ => none
  | k + 1, x1, x5, x6, x190000, x190001 => if x6 < x190000 then (if 0 ≤ x6 then (if x6 < (x5.length : Int) then (filigreeref12_Dist.l0 k x1 (x5.set (x6 : Int).toNat (-1)) (wrap64 (x6 + 1)) x190000 x190001) else (none)) else (none)) else (if 0 ≤ x1 then (if x1 < (x5.length : Int) then (filigreeref12_Dist.l1 k (x5.set (x1 : Int).toNat 0) 0 x190000 x190001) else (none)) else (none))
def filigreeref12_Dist.l1 : Nat → List Int → Int → Int → List (S39) → Option (List Int)
  | 0, _, _, _, _ => none
  | k + 1, x5, x7, x190000, x190001 => if x7 < x190000 then (filigreeref12_Dist.l2 k x5 x7 0 x190000 x190001) else (some x5)
def filigreeref12_Dist.l2 : Nat → List Int → Int → Int → Int → List (S39) → Option (List Int)
  | 0, _, _, _, _, _ => none
  | k + 1, x5, x7, x8, x190000, x190001 => if x8 < (x190001.length : Int) then (if 0 ≤ x8 then (if 0 ≤ ((rd_T39 x190001 x8).f0) then (if ((rd_T39 x190001 x8).f0) < (x5.length : Int) then (if (rd x5 ((rd_T39 x190001 x8).f0)) ≥ 0 then (if 0 ≤ ((rd_T39 x190001 x8).f1) then (if ((rd_T39 x190001 x8).f1) < (x5.length : Int) then (if (rd x5 ((rd_T39 x190001 x8).f1)) < 0 then (filigreeref12_Dist.j3 k x5 x7 x8 true x190000 x190001 ((rd_T39 x190001 x8).f0) ((rd_T39 x190001 x8).f1) ((rd_T39 x190001 x8).f2)) else (filigreeref12_Dist.j3 k x5 x7 x8 (decide ((wrap64 ((rd x5 ((rd_T39 x190001 x8).f0)) + ((rd_T39 x190001 x8).f2))) < (rd x5 ((rd_T39 x190001 x8).f1)))) x190000 x190001 ((rd_T39 x190001 x8).f0) ((rd_T39 x190001 x8).f1) ((rd_T39 x190001 x8).f2))) else (none)) else (none)) else (filigreeref12_Dist.j3 k x5 x7 x8 false x190000 x190001 ((rd_T39 x190001 x8).f0) ((rd_T39 x190001 x8).f1) ((rd_T39 x190001 x8).f2))) else (none)) else (none)) else (none)) else (filigreeref12_Dist.l1 k x5 (wrap64 (x7 + 1)) x190000 x190001)
def filigreeref12_Dist.j3 : Nat → List Int → Int → Int → Bool → Int → List (S39) → Int → Int → Int → Option (List Int)
  | 0, _, _, _, _, _, _, _, _, _ => none
  | k + 1, x5, x7, x8, x72, x190000, x190001, x197000, x197001, x197002 => if x72 = true then (if 0 ≤ x197000 then (if x197000 < (x5.length : Int) then (if 0 ≤ x197001 then (if x197001 < (x5.length : Int) then ((some (x5.set (x197001 : Int).toNat (wrap64 ((rd x5 x197000) + x197002)) : List Int)).bind fun y202 => (if (rd y202 x197001) ≥ 0 then (if (rd y202 x197000) < 0 then (filigreeref12_Dist.l2 k (y202.set (x197000 : Int).toNat (wrap64 ((rd y202 x197001) + x197002))) x7 (wrap64 (x8 + 1)) x190000 x190001) else (if (wrap64 ((rd y202 x197001) + x197002)) < (rd y202 x197000) then (filigreeref12_Dist.l2 k (y202.set (x197000 : Int).toNat (wrap64 ((rd y202 x197001) + x197002))) x7 (wrap64 (x8 + 1)) x190000 x190001) else (filigreeref12_Dist.l2 k y202 x7 (wrap64 (x8 + 1)) x190000 x190001))) else (filigreeref12_Dist.l2 k y202 x7 (wrap64 (x8 + 1)) x190000 x190001))) else (none)) else (none)) else (none)) else (none)) else (if 0 ≤ x197001 then (if x197001 < (x5.length : Int) then (if (rd x5 x197001) ≥ 0 then (if 0 ≤ x197000 then (if x197000 < (x5.length : Int) then (if (rd x5 x197000) < 0 then (filigreeref12_Dist.l2 k (x5.set (x197000 : Int).toNat (wrap64 ((rd x5 x197001) + x197002))) x7 (wrap64 (x8 + 1)) x190000 x190001) else (if (wrap64 ((rd x5 x197001) + x197002)) < (rd x5 x197000) then (filigreeref12_Dist.l2 k (x5.set (x197000 : Int).toNat (wrap64 ((rd x5 x197001) + x197002))) x7 (wrap64 (x8 + 1)) x190000 x190001) else (filigreeref12_Dist.l2 k x5 x7 (wrap64 (x8 + 1)) x190000 x190001))) else (none)) else (none)) else (filigreeref12_Dist.l2 k x5 x7 (wrap64 (x8 + 1)) x190000 x190001)) else (none)) else (none))
end
def filigreeref12_Dist.f (k : Nat) (a0_0 : Int) (l0_1 : List (S39)) (a1 : Int) : Option (List Int) := if 0 ≤ a0_0 then (if (a0_0 : Int).toNat ≤ 35184372088832 then (filigreeref12_Dist.l0 k a1 (List.replicate (a0_0 : Int).toNat 0) 0 a0_0 l0_1) else (none)) else (none)

def iv (d : List Int) : Array Value := (d.map (Value.int .i64)).toArray
theorem iv_size (d : List Int) : (iv d).size = d.length := by simp [iv]
theorem iv_zero (N : Nat) : madeCells #[.int .i64 0] N = iv (List.replicate N 0) := by
  apply Array.ext
  · simp [iv, madeCells]
  · intro i h1 h2
    simp [iv, madeCells, Nat.mod_one]
structure DS (w W : World) (gm g : Nat) (M : Array Value) (d : List Int) : Prop where
  hB : Below w.heap.size w W
  hM : W.heap[gm]? = some (.cells M 24 (0, 0))
  hD : W.heap[g]? = some (.cells (iv d) 2 (0, 0))
  hg : w.heap.size ≤ g
section
variable {w W W' : World} {gm g : Nat} {M : Array Value} {d : List Int}
theorem DS.below (h : DS w W gm g M d) (hb : Below W.heap.size W W') : DS w W' gm g M d := ⟨zBt h.hB hb, zKb h.hM hb, zKb h.hD hb, h.hg⟩
theorem DS.cell (h : DS w W gm g M d) (i : Int) (h0 : 0 ≤ i) (h1 : i < d.length) : W.cell? ⟨g, i.toNat, none⟩ = some (.int .i64 (rd d i)) := by
  rw [zKc h.hD]
  unfold rd iv
  simp [show i.toNat < d.length by omega]
theorem DS.put (h : DS w W gm g M d) (i : Nat) (x : Int) : DS w (W.setCell ⟨g, i, none⟩ (.int .i64 x)) gm g M (d.set i x) := by
  refine ⟨h.hB.setCell (p := ⟨g, i, none⟩) h.hg _, blk_far h.hM (blk_ne h.hM h.hD (by decide)) _, ?_, h.hg⟩
  rw [blk_set h.hD]
  congr 2
  unfold iv
  simp [List.map_set]
theorem DS.row (h : DS w W gm g M d) (hn : d.length ≤ maxLen) : Kd.R (Kd.int .i64) 2 W w.heap.size (fun _ => True) (.slice (some ⟨g, 0, none⟩) d.length d.length) d := by
  refine Kd.R_of_own ?_ (fun _ _ => trivial)
  refine ⟨by simp [encs], .inr ⟨g, d.length, iv d, rfl, h.hg, h.hD, Nat.le_refl _, hn, by rw [iv_size]; omega, ?_⟩⟩
  unfold iv encs
  simp only [Nat.mul_one]
  exact List.take_of_length_le (by simp)
end
def secD (q : Nat) (d : List Int) (r j n : Int) (E : List S39) (E0 E1 E2 : Int) : Option (List Int) :=
  if rd d E1 ≥ 0 then (if rd d E0 < 0 then (filigreeref12_Dist.l2 q (d.set E0.toNat (wrap64 (rd d E1 + E2))) r (wrap64 (j + 1)) n E) else (if wrap64 (rd d E1 + E2) < rd d E0 then (filigreeref12_Dist.l2 q (d.set E0.toNat (wrap64 (rd d E1 + E2))) r (wrap64 (j + 1)) n E) else (filigreeref12_Dist.l2 q d r (wrap64 (j + 1)) n E))) else (filigreeref12_Dist.l2 q d r (wrap64 (j + 1)) n E)
theorem filigreeref12_Dist.calls (k : Nat) (a0_0 : Int) (A0_1 : Option Addr) (c0_1 : Nat) (l0_1 : List (S39)) (a1 : Int) (r : List Int) (w : World) (hr0_1 : Kd.C k39 w A0_1 l0_1.length l0_1) (hc0_1 : l0_1.length ≤ c0_1) (h : filigreeref12_Dist.f k a0_0 l0_1 a1 = some r) :
    Calls Try.prog 13 #[.agg #[.int .i64 a0_0, .slice A0_1 l0_1.length c0_1], .int .i64 a1] w fun e w' => ∃ v0_ : Value, e = .returned (v0_) ∧ Kd.R (Kd.int .i64) 2 w' w.heap.size (fun _ => True) v0_ r ∧ Below w.heap.size w w' := by
  have hu24 := Try.underlying24
  have hu39 := Try.underlying39
  have HR := zMk hr0_1
  have HC := zMk hc0_1
  clear hr0_1 hc0_1
  unfold filigreeref12_Dist.f at h
  by_cases h1 : 0 ≤ a0_0
  rotate_left
  · rw [if_neg h1] at h; exact absurd h (by simp)
  rw [if_pos h1] at h
  by_cases h2 : a0_0.toNat ≤ 35184372088832
  rotate_left
  · rw [if_neg h2] at h; exact absurd h (by simp)
  rw [if_pos h2] at h
  obtain ⟨N, hN⟩ : ∃ N : Nat, a0_0.toNat = N := ⟨_, rfl⟩
  rw [hN] at h h2
  have HN := zMk (show a0_0 = (N : Int) ∧ N ≤ 35184372088832 by omega)
  have H' := zMk h
  have hmk : ∀ W : World, (Instr.makeSlice 30 (.int .i64 a0_0) (.int .i64 a0_0)).run Try.prog W = .ok (.slice (some ⟨W.heap.size, 0, none⟩) N N) (W.alloc (.cells (madeCells #[.int .i64 0] N) 2)) := by
    rw [HN.out.1]
    exact run_make_row' 30 2 (.int .i64 0) 8 Try.underlying30 info2 rfl .i64 .i64 N (by have := HN.out.2; omega) (by have := HN.out.2; omega)
  clear h h1 h2 hN
  go_enter Try.func13, Try.ntmps13
  go_upto_region 1 with (first | ((with_reducible refine gate_dst (N := 2) rfl ?_); refine box_event ?hg (N := 2) ?hd (cs := #[.int .i64 a0_0, .slice A0_1 l0_1.length c0_1]) (t := 24) ?hr ?_; (case hd => rfl); (case hg => rfl); (case hr => first | (go_simp; done)|(go_simp; rfl)); intro gm hg w6 hbox hb; have BM := zMk hbox; have HB := zMk hb; have z0 : w6.cell? ⟨gm, 0, none⟩ = some (.int .i64 a0_0) := (zKc hbox 0).trans rfl; clear hg hbox hb))
  go_upto_region 2 with (fail)
  have D0 := zMk (show DS w (w6.alloc (.cells (madeCells #[.int .i64 0] N) 2)) gm w6.heap.size _ (List.replicate N 0) from
    ⟨zBa HB.out _, zKa BM.out _, by rw [heap_alloc_new, iv_zero], HB.out.size⟩)
  clear z0 BM HB hmk
  generalize w6.alloc (.cells (madeCells #[.int .i64 0] N) 2) = w7 at D0 ⊢
  generalize w6.heap.size = g at D0 ⊢
  go_upto_region 3 with (fail)
  go_loopg [6] k (fun kq v6 w' => ∃ (d : List Int) (i : Int), v6 = .int .i64 i ∧ Aside0 (filigreeref12_Dist.l0 kq a1 d i a0_0 l0_1 = some r) ∧ Aside0 (kq ≤ k) ∧ Aside0 (d.length = N) ∧ Aside0 (DS w w' gm g #[.int .i64 a0_0, .slice A0_1 l0_1.length c0_1] d))
  case atStart => exact ⟨_, 0, rfl, H', ⟨Nat.le_refl _⟩, ⟨by simp⟩, D0⟩
  clear H' D0
  obtain ⟨d, i, rfl, HA, HK1, HL, D1⟩ := hrel
  rcases gk with _ | k1
  · exact absurd HA.out (by simp [filigreeref12_Dist.l0])
  have H := HA.out
  clear HA
  simp only [filigreeref12_Dist.l0] at H
  have z0 : World.cell? wr ⟨gm, 0, none⟩ = some (.int .i64 a0_0) := (zKc D1.out.hM 0).trans rfl
  by_cases c1 : i < a0_0
  · rw [if_pos c1] at H
    have p1 : decide (i < a0_0) = true := decide_eq_true c1
    by_cases c2 : 0 ≤ i
    rotate_left
    · rw [if_neg c2] at H; exact absurd H (by simp)
    rw [if_pos c2] at H
    by_cases c3 : i < (d.length : Int)
    rotate_left
    · rw [if_neg c3] at H; exact absurd H (by simp)
    rw [if_pos c3] at H
    have H' := zMk H
    have kc := D1.out.cell i c2 c3
    have kf := zKf D1.out.hD i.toNat
    have p2 := eq_true c2
    have p3 : (i < (N : Int)) = True := eq_true (by rw [← HL.out]; exact c3)
    have D2 := zMk (D1.out.put i.toNat (-1))
    clear H c1 c2 c3 D1
    go_wp2
    go_roundg k1
    case measure => omega
    case rel => exact ⟨_, _, rfl, H', ⟨by have := HK1.out; omega⟩, ⟨by rw [List.length_set]; exact HL.out⟩, D2⟩
  · rw [if_neg c1] at H
    have p1 : decide (i < a0_0) = false := decide_eq_false c1
    by_cases c2 : 0 ≤ a1
    rotate_left
    · rw [if_neg c2] at H; exact absurd H (by simp)
    rw [if_pos c2] at H
    by_cases c3 : a1 < (d.length : Int)
    rotate_left
    · rw [if_neg c3] at H; exact absurd H (by simp)
    rw [if_pos c3] at H
    have H' := zMk H
    have kc := D1.out.cell a1 c2 c3
    have kf := zKf D1.out.hD a1.toNat
    have p2 := eq_true c2
    have p3 : (a1 < (N : Int)) = True := eq_true (by rw [← HL.out]; exact c3)
    have D2 := zMk (D1.out.put a1.toNat 0)
    have HL2 := zMk (show (d.set a1.toNat 0).length = N by rw [List.length_set]; exact HL.out)
    clear H c1 c2 c3 D1 HL
    go_upto_region 8 with (fail)
    clear kc kf p1 p2 p3 z0
    generalize (wr.setCell ⟨g, a1.toNat, none⟩ (.int .i64 0)) = w8 at D2 ⊢
    generalize d.set a1.toNat 0 = d2 at H' D2 HL2
    go_loopg [7] k1 (fun kq v7 w' => ∃ (d : List Int) (i : Int), v7 = .int .i64 i ∧ Aside0 (filigreeref12_Dist.l1 kq d i a0_0 l0_1 = some r) ∧ Aside0 (kq ≤ k1) ∧ Aside0 (d.length = N) ∧ Aside0 (DS w w' gm g #[.int .i64 a0_0, .slice A0_1 l0_1.length c0_1] d))
    case atStart => exact ⟨d2, 0, rfl, H', ⟨Nat.le_refl _⟩, HL2, D2⟩
    clear H' D2 HL2
    obtain ⟨d3, r_, rfl, HA, HK2, HL, D1⟩ := hrel
    rcases gk with _ | k2
    · exact absurd HA.out (by simp [filigreeref12_Dist.l1])
    have H := HA.out
    clear HA
    simp only [filigreeref12_Dist.l1] at H
    have z0 : World.cell? wr ⟨gm, 0, none⟩ = some (.int .i64 a0_0) := (zKc D1.out.hM 0).trans rfl
    by_cases c1 : r_ < a0_0
    rotate_left
    · rw [if_neg c1] at H
      have p1 : decide (r_ < a0_0) = false := decide_eq_false c1
      obtain rfl := zOi H
      clear H c1
      go_wp2
      go_ret
      refine ⟨_, rfl, ?_, D1.out.hB⟩
      have hr := D1.out.row (by have := HL.out; have := HN.out.2; unfold maxLen; omega)
      rw [HL.out] at hr
      exact hr
    rw [if_pos c1] at H
    have p1 : decide (r_ < a0_0) = true := decide_eq_true c1
    have H' := zMk H
    clear H c1
    go_upto_region 11 with (fail)
    clear p1 z0
    go_loopg [8] k2 (fun kq v8 w' => ∃ (d : List Int) (j : Int), v8 = .int .i64 j ∧ Aside0 (filigreeref12_Dist.l2 kq d r_ j a0_0 l0_1 = some r) ∧ Aside0 (kq ≤ k2) ∧ Aside0 (d.length = N) ∧ Aside0 (DS w w' gm g #[.int .i64 a0_0, .slice A0_1 l0_1.length c0_1] d))
    case atStart => exact ⟨d3, 0, rfl, H', ⟨Nat.le_refl _⟩, HL, D1⟩
    clear H' D1 HL
    obtain ⟨d4, j, rfl, HA, HK3, HL, D1⟩ := hrel
    rcases gk with _ | k3
    · exact absurd HA.out (by simp [filigreeref12_Dist.l2])
    have H := HA.out
    clear HA
    simp only [filigreeref12_Dist.l2] at H
    have z1 : World.cell? wr ⟨gm, 1, none⟩ = some (.slice A0_1 l0_1.length c0_1) := (zKc D1.out.hM 1).trans rfl
    by_cases c1 : j < (l0_1.length : Int)
    rotate_left
    · rw [if_neg c1] at H
      have p1 : decide (j < (l0_1.length : Int)) = false := decide_eq_false c1
      have H' := zMk H
      clear H c1
      go_wp2
      go_roundg k3
      case measure => have := HK2.out; have := HK3.out; omega
      case rel =>
        refine ⟨d4, wrap64 (r_ + 1), ?_, ?_, ?_, ?_, ?_⟩
        · rfl
        · with_reducible exact H'
        · exact ⟨by have := HK2.out; have := HK3.out; omega⟩
        · with_reducible exact HL
        · with_reducible exact D1
    rw [if_pos c1] at H
    have p1 : decide (j < (l0_1.length : Int)) = true := decide_eq_true c1
    by_cases c2 : 0 ≤ j
    rotate_left
    · rw [if_neg c2] at H; exact absurd H (by simp)
    rw [if_pos c2] at H
    obtain ⟨ad39, e39, y0, y1, y2⟩ := at_T39 (Kd.C_below HR.out D1.out.hB) j c2 c1
    subst e39
    obtain ⟨⟨E0, E1, E2⟩, hE⟩ : ∃ e : S39, rd_T39 l0_1 j = e := ⟨_, rfl⟩
    rw [hE] at H y0 y1 y2
    dsimp only at H y0 y1 y2
    clear hE
    have p2 := eq_true c2
    have p3 := eq_true c1
    have HA := zMk H
    clear H c1 c2
    go_upto_region 14 with (fail)
    have e1_ := (Below.refl _ _).alloc (Nat.le_refl wr.heap.size) (.cells #[.int .i64 E0, .int .i64 E1, .int .i64 E2] 39)
    have D2 := zMk (D1.out.below e1_)
    have EB := zMk (heap_alloc_new wr (.cells #[.int .i64 E0, .int .i64 E1, .int .i64 E2] 39))
    clear e1_ D1 y0 y1 y2 z1 p1 p2 p3
    generalize wr.alloc (.cells #[.int .i64 E0, .int .i64 E1, .int .i64 E2] 39) = w13 at D2 EB ⊢
    generalize wr.heap.size = ge at EB ⊢
    have HGE := zMk (show ge ≠ g from blk_ne EB.out D2.out.hD (by decide))
    have H := HA.out
    clear HA
    by_cases f0 : 0 ≤ E0
    rotate_left
    · rw [if_neg f0] at H; exact absurd H (by simp)
    rw [if_pos f0] at H
    by_cases f1 : E0 < (d4.length : Int)
    rotate_left
    · rw [if_neg f1] at H; exact absurd H (by simp)
    rw [if_pos f1] at H
    have he0 : w13.cell? ⟨ge, 0, none⟩ = some (.int .i64 E0) := (zKc EB.out 0).trans rfl
    have he1 : w13.cell? ⟨ge, 1, none⟩ = some (.int .i64 E1) := (zKc EB.out 1).trans rfl
    have he2 : w13.cell? ⟨ge, 2, none⟩ = some (.int .i64 E2) := (zKc EB.out 2).trans rfl
    have k0 := D2.out.cell E0 f0 f1
    have P0 := eq_true f0
    have Q0 : (E0 < (N : Int)) = True := eq_true (by rw [← HL.out]; exact f1)
    have HF0 := zMk (And.intro f0 f1)
    have HA := zMk H
    clear H f0 f1
    go_cut [72] (fun v72 wc => ∃ (kq : Nat) (B : Bool), v72 = .bool B ∧ Aside0 (filigreeref12_Dist.j3 kq d4 r_ j B a0_0 l0_1 E0 E1 E2 = some r) ∧ Aside0 (kq ≤ k3) ∧ Aside0 (DS w wc gm g #[.int .i64 a0_0, .slice (some ad39) l0_1.length c0_1] d4) ∧ Aside0 (wc.heap[ge]? = some (.cells #[.int .i64 E0, .int .i64 E1, .int .i64 E2] 39 (0, 0))))
    case first =>
      have H := HA.out
      clear HA
      by_cases c1 : rd d4 E0 ≥ 0
      · rw [if_pos c1] at H
        have p1 : decide (rd d4 E0 ≥ 0) = true := decide_eq_true c1
        by_cases f2 : 0 ≤ E1
        rotate_left
        · rw [if_neg f2] at H; exact absurd H (by simp)
        rw [if_pos f2] at H
        by_cases f3 : E1 < (d4.length : Int)
        rotate_left
        · rw [if_neg f3] at H; exact absurd H (by simp)
        rw [if_pos f3] at H
        have k1c := D2.out.cell E1 f2 f3
        have P1 := eq_true f2
        have Q1 : (E1 < (N : Int)) = True := eq_true (by rw [← HL.out]; exact f3)
        by_cases c2 : rd d4 E1 < 0
        · rw [if_pos c2] at H
          have p2 : decide (rd d4 E1 < 0) = true := decide_eq_true c2
          clear c1 c2 f2 f3
          have H' := zMk H
          clear H
          go_quiet (fail)
          try go_wp2
          go_meet
          case rel => exact ⟨k3, true, rfl, H', ⟨Nat.le_refl _⟩, (by first | exact D2 | exact ⟨D2.out.below (below_drew (Below.refl _ _))⟩ | exact ⟨D2.out.below (zBn (Below.refl _ _) _)⟩), (by first | exact EB | exact ⟨zKd EB.out⟩ | exact ⟨zKn EB.out _⟩)⟩
        · rw [if_neg c2] at H
          have p2 : decide (rd d4 E1 < 0) = false := decide_eq_false c2
          obtain ⟨S_, hS⟩ : ∃ S_, wrap64 (rd d4 E0 + E2) = S_ := ⟨_, rfl⟩
          rw [hS] at H
          generalize hB : decide (S_ < rd d4 E1) = B at H
          clear c1 c2 f2 f3
          have H' := zMk H
          clear H
          go_quiet (fail)
          try go_wp2
          go_meet
          case rel => exact ⟨k3, B, rfl, H', ⟨Nat.le_refl _⟩, (by first | exact D2 | exact ⟨D2.out.below (below_drew (Below.refl _ _))⟩ | exact ⟨D2.out.below (zBn (Below.refl _ _) _)⟩), (by first | exact EB | exact ⟨zKd EB.out⟩ | exact ⟨zKn EB.out _⟩)⟩
      · rw [if_neg c1] at H
        have p1 : decide (rd d4 E0 ≥ 0) = false := decide_eq_false c1
        clear c1
        have H' := zMk H
        clear H
        go_quiet (fail)
        try go_wp2
        go_meet
        case rel => exact ⟨k3, false, rfl, H', ⟨Nat.le_refl _⟩, (by first | exact D2 | exact ⟨D2.out.below (below_drew (Below.refl _ _))⟩ | exact ⟨D2.out.below (zBn (Below.refl _ _) _)⟩), (by first | exact EB | exact ⟨zKd EB.out⟩ | exact ⟨zKn EB.out _⟩)⟩
    case rest =>
      clear D2 EB he0 he1 he2 k0 HA
      obtain ⟨kq, B, rfl, HA, HK4, D3, EB3⟩ := hcut
      rcases kq with _ | k4
      · exact absurd HA.out (by simp [filigreeref12_Dist.j3])
      have H := HA.out
      clear HA
      simp only [filigreeref12_Dist.j3] at H
      cases B
      case' false =>
        replace H := (if_neg (show ¬ (false = true) by decide)).symm.trans H
        by_cases f2 : 0 ≤ E1
        rotate_left
        · rw [if_neg f2] at H; exact absurd H (by simp)
        rw [if_pos f2] at H
        by_cases f3 : E1 < (d4.length : Int)
        rotate_left
        · rw [if_neg f3] at H; exact absurd H (by simp)
        rw [if_pos f3] at H
        have HF := zMk (show 0 ≤ E0 ∧ E0 < (N : Int) ∧ 0 ≤ E1 ∧ E1 < (N : Int) by have := HF0.out; have := HL.out; omega)
        have HS := zMk (show secD k4 d4 r_ j a0_0 l0_1 E0 E1 E2 = some r by
          unfold secD
          by_cases c : rd d4 E1 ≥ 0
          · rw [if_pos c] at H ⊢
            rw [if_pos HF0.out.1, if_pos HF0.out.2] at H
            exact H
          · rw [if_neg c] at H ⊢
            exact H)
        clear H f2 f3 HF0
        go_upto_region 16 with (fail)
        have D5 := D3
        have EB5 := EB3
        have HL5 := HL
        clear D3 EB3 HL
        generalize wc = w16 at D5 EB5 ⊢
        generalize d4 = d5 at HS D5 HL5
        skip
      case' true =>
        replace H := (if_pos (show (true = true) from rfl)).symm.trans H
        rw [if_pos HF0.out.1, if_pos HF0.out.2] at H
        by_cases f2 : 0 ≤ E1
        rotate_left
        · rw [if_neg f2] at H; exact absurd H (by simp)
        rw [if_pos f2] at H
        by_cases f3 : E1 < (d4.length : Int)
        rotate_left
        · rw [if_neg f3] at H; exact absurd H (by simp)
        rw [if_pos f3, zOb] at H
        have HF := zMk (show 0 ≤ E0 ∧ E0 < (N : Int) ∧ 0 ≤ E1 ∧ E1 < (N : Int) by have := HF0.out; have := HL.out; omega)
        have P1 := eq_true f2
        have Q1 : (E1 < (N : Int)) = True := eq_true (by rw [← HL.out]; exact f3)
        have HS := zMk (show secD k4 (d4.set E1.toNat (wrap64 (rd d4 E0 + E2))) r_ j a0_0 l0_1 E0 E1 E2 = some r from H)
        clear H f2 f3 HF0
        go_upto_region 15 with (fail)
        have D6 := zMk (D3.out.below (below_drew (Below.refl _ _)))
        have EB6 := zMk (zKd EB3.out)
        refine wp_region_still_tail 12 (by kernel_rfl) (by kernel_rfl) ?_
        generalize hw5 : wc.drew = w5 at D6 EB6
        show wpStill _ _ wc.drew (fun a' => wpList _ _ _ _ a' wc.drew) _ _
        rw [hw5]
        clear hw5
        have he0 : w5.cell? ⟨ge, 0, none⟩ = some (.int .i64 E0) := (zKc EB6.out 0).trans rfl
        have he1 : w5.cell? ⟨ge, 1, none⟩ = some (.int .i64 E1) := (zKc EB6.out 1).trans rfl
        have he2 : w5.cell? ⟨ge, 2, none⟩ = some (.int .i64 E2) := (zKc EB6.out 2).trans rfl
        have k0 := D6.out.cell E0 HF.out.1 (by have := HF.out.2.1; have := HL.out; omega)
        have k1c := D6.out.cell E1 HF.out.2.2.1 (by have := HF.out.2.2.2; have := HL.out; omega)
        have kf := zKf D6.out.hD E1.toNat
        simp only [List.take_succ_cons, List.take_zero, List.drop_succ_cons, List.drop_zero]
        repeat still_step
        refine wpStill_nil ?_
        go_upto_region 16 with (fail)
        have D5 := zMk (D6.out.put E1.toNat (wrap64 (rd d4 E0 + E2)))
        have EB5 := zMk (blk_far (p := ⟨g, E1.toNat, none⟩) EB6.out HGE.out (.int .i64 (wrap64 (rd d4 E0 + E2))))
        have HL5 := zMk (show (d4.set E1.toNat (wrap64 (rd d4 E0 + E2))).length = N by rw [List.length_set]; exact HL.out)
        clear D3 EB3 HL D6 EB6 he0 he1 he2 k0 k1c kf P1 Q1
        generalize (w5.setCell ⟨g, E1.toNat, none⟩ (.int .i64 (wrap64 (rd d4 E0 + E2)))) = w16 at D5 EB5 ⊢
        generalize d4.set E1.toNat (wrap64 (rd d4 E0 + E2)) = d5 at HS D5 HL5
        skip
      all_goals
        have he0 : w16.cell? ⟨ge, 0, none⟩ = some (.int .i64 E0) := (zKc EB5.out 0).trans rfl
        have he1 : w16.cell? ⟨ge, 1, none⟩ = some (.int .i64 E1) := (zKc EB5.out 1).trans rfl
        have he2 : w16.cell? ⟨ge, 2, none⟩ = some (.int .i64 E2) := (zKc EB5.out 2).trans rfl
        have k0 := D5.out.cell E0 HF.out.1 (by have := HF.out.2.1; have := HL5.out; omega)
        have k1c := D5.out.cell E1 HF.out.2.2.1 (by have := HF.out.2.2.2; have := HL5.out; omega)
        have P0 := eq_true HF.out.1
        have Q0 : (E0 < (N : Int)) = True := eq_true HF.out.2.1
        have P1 := eq_true HF.out.2.2.1
        have Q1 : (E1 < (N : Int)) = True := eq_true HF.out.2.2.2
        have H := HS.out
        unfold secD at H
        clear HS
        by_cases c1 : rd d5 E1 ≥ 0
        · rw [if_pos c1] at H
          have p1 : decide (rd d5 E1 ≥ 0) = true := decide_eq_true c1
          by_cases c2 : rd d5 E0 < 0
          · rw [if_pos c2] at H
            have p2 : decide (rd d5 E0 < 0) = true := decide_eq_true c2
            have H' := zMk H
            clear H c1 c2
            go_quiet (fail)
            try go_upto_region 17 with (fail)
            have D7 := zMk (D5.out.below (zBn (Below.refl _ _) nq))
            have EB7 := zMk (zKn EB5.out nq)
            clear D5 EB5 he0 he1 he2 k0 k1c
            generalize w16.drewN nq = w17 at D7 EB7 ⊢
            have D6 := zMk (D7.out.below (below_drew (Below.refl _ _)))
            have EB6 := zMk (zKd EB7.out)
            refine wp_region_still_tail 12 (by kernel_rfl) (by kernel_rfl) ?_
            generalize hw5 : w17.drew = w5 at D6 EB6
            show wpStill _ _ w17.drew (fun a' => wpList _ _ _ _ a' w17.drew) _ _
            rw [hw5]
            clear hw5
            have he0 : w5.cell? ⟨ge, 0, none⟩ = some (.int .i64 E0) := (zKc EB6.out 0).trans rfl
            have he1 : w5.cell? ⟨ge, 1, none⟩ = some (.int .i64 E1) := (zKc EB6.out 1).trans rfl
            have he2 : w5.cell? ⟨ge, 2, none⟩ = some (.int .i64 E2) := (zKc EB6.out 2).trans rfl
            have k0 := D6.out.cell E0 HF.out.1 (by have := HF.out.2.1; have := HL5.out; omega)
            have k1c := D6.out.cell E1 HF.out.2.2.1 (by have := HF.out.2.2.2; have := HL5.out; omega)
            have kf := zKf D6.out.hD E0.toNat
            simp only [List.take_succ_cons, List.take_zero, List.drop_succ_cons, List.drop_zero]
            repeat still_step
            refine wpStill_nil ?_
            have D8 := zMk (D6.out.put E0.toNat (wrap64 (rd d5 E1 + E2)))
            go_wp2
            go_roundg k4
            case measure => have := HK2.out; have := HK3.out; have := HK4.out; omega
            case rel =>
              refine ⟨(d5.set E0.toNat (wrap64 (rd d5 E1 + E2))), wrap64 (j + 1), ?_, ?_, ?_, ?_, ?_⟩
              · rfl
              · with_reducible exact H'
              · exact ⟨by have := HK2.out; have := HK3.out; have := HK4.out; omega⟩
              · exact ⟨by rw [List.length_set]; exact HL5.out⟩
              · exact D8
          · rw [if_neg c2] at H
            have p2 : decide (rd d5 E0 < 0) = false := decide_eq_false c2
            by_cases c3 : wrap64 (rd d5 E1 + E2) < rd d5 E0
            · rw [if_pos c3] at H
              have p3 : decide (wrap64 (rd d5 E1 + E2) < rd d5 E0) = true := decide_eq_true c3
              have H' := zMk H
              clear H c1 c2 c3
              go_quiet (fail)
              try go_upto_region 17 with (fail)
              have D7 := zMk (D5.out.below (zBn (Below.refl _ _) nq))
              have EB7 := zMk (zKn EB5.out nq)
              clear D5 EB5 he0 he1 he2 k0 k1c
              generalize w16.drewN nq = w17 at D7 EB7 ⊢
              have D6 := zMk (D7.out.below (below_drew (Below.refl _ _)))
              have EB6 := zMk (zKd EB7.out)
              refine wp_region_still_tail 12 (by kernel_rfl) (by kernel_rfl) ?_
              generalize hw5 : w17.drew = w5 at D6 EB6
              show wpStill _ _ w17.drew (fun a' => wpList _ _ _ _ a' w17.drew) _ _
              rw [hw5]
              clear hw5
              have he0 : w5.cell? ⟨ge, 0, none⟩ = some (.int .i64 E0) := (zKc EB6.out 0).trans rfl
              have he1 : w5.cell? ⟨ge, 1, none⟩ = some (.int .i64 E1) := (zKc EB6.out 1).trans rfl
              have he2 : w5.cell? ⟨ge, 2, none⟩ = some (.int .i64 E2) := (zKc EB6.out 2).trans rfl
              have k0 := D6.out.cell E0 HF.out.1 (by have := HF.out.2.1; have := HL5.out; omega)
              have k1c := D6.out.cell E1 HF.out.2.2.1 (by have := HF.out.2.2.2; have := HL5.out; omega)
              have kf := zKf D6.out.hD E0.toNat
              simp only [List.take_succ_cons, List.take_zero, List.drop_succ_cons, List.drop_zero]
              repeat still_step
              refine wpStill_nil ?_
              have D8 := zMk (D6.out.put E0.toNat (wrap64 (rd d5 E1 + E2)))
              go_wp2
              go_roundg k4
              case measure => have := HK2.out; have := HK3.out; have := HK4.out; omega
              case rel =>
                refine ⟨(d5.set E0.toNat (wrap64 (rd d5 E1 + E2))), wrap64 (j + 1), ?_, ?_, ?_, ?_, ?_⟩
                · rfl
                · with_reducible exact H'
                · exact ⟨by have := HK2.out; have := HK3.out; have := HK4.out; omega⟩
                · exact ⟨by rw [List.length_set]; exact HL5.out⟩
                · exact D8
            · rw [if_neg c3] at H
              have p3 : decide (wrap64 (rd d5 E1 + E2) < rd d5 E0) = false := decide_eq_false c3
              have H' := zMk H
              clear H c1 c2 c3
              go_quiet (fail)
              try go_wp2
              go_roundg k4
              case measure => have := HK2.out; have := HK3.out; have := HK4.out; omega
              case rel =>
                refine ⟨d5, wrap64 (j + 1), ?_, ?_, ?_, ?_, ?_⟩
                · rfl
                · with_reducible exact H'
                · exact ⟨by have := HK2.out; have := HK3.out; have := HK4.out; omega⟩
                · exact HL5
                · exact ⟨D5.out.below (zBn (Below.refl _ _) _)⟩
        · rw [if_neg c1] at H
          have p1 : decide (rd d5 E1 ≥ 0) = false := decide_eq_false c1
          have H' := zMk H
          clear H c1
          go_quiet (fail)
          try go_wp2
          go_roundg k4
          case measure => have := HK2.out; have := HK3.out; have := HK4.out; omega
          case rel =>
            refine ⟨d5, wrap64 (j + 1), ?_, ?_, ?_, ?_, ?_⟩
            · rfl
            · with_reducible exact H'
            · exact ⟨by have := HK2.out; have := HK3.out; have := HK4.out; omega⟩
            · exact HL5
            · exact ⟨D5.out.below (zBn (Below.refl _ _) _)⟩

section
variable {v n : Int} {E : List S39} {d p : List Int} {rk : Int → Nat}
theorem Inv.least (I : Inv v n E d p [] rk (fun _ _ => True)) : ∀ x L, Walk E v x L → Std n d x ∧ rd d x ≤ L := by
  intro x L h
  induction h with
  | nil =>
    rcases I.rt with h | ⟨_, it, hit, _⟩
    · refine ⟨h, ?_⟩
      rcases (I.st v h).2.2.2 with ⟨_, h, _⟩ | ⟨h, _⟩
      · omega
      · exact absurd rfl h
    · simp at hit
  | @step x L e hw he hi ih =>
    obtain ⟨j, hj, rfl⟩ := List.mem_iff_getElem.1 he
    rcases I.fr x ih.1 j hj hi trivial with ⟨h1, h2⟩ | ⟨it, hit, _⟩
    · exact ⟨h1, by have := ih.2; omega⟩
    · simp at hit
def LeD (n : Int) (b b' : List Int) : Prop := ∀ x, 0 ≤ x → x < n → 0 ≤ rd b x → 0 ≤ rd b' x ∧ rd b' x ≤ rd b x
theorem LeD.trans {n : Int} {a b c : List Int} (h : LeD n a b) (k : LeD n b c) : LeD n a c := fun x h0 h1 h2 => by
  have := h x h0 h1 h2
  have := k x h0 h1 this.1
  omega
theorem oth_f0 (e : S39) : oth e e.f0 = e.f1 := by unfold oth; omega
theorem oth_f1 (e : S39) : oth e e.f1 = e.f0 := by unfold oth; omega
end

def filigreeref12_other.f (a0_0 : Int) (a0_1 : Int) (a0_2 : Int) (a1 : Int) : Option (Int) := if a0_1 = a1 then (some a0_0) else (if a0_0 = a1 then (some a0_1) else (some (-1)))
theorem filigreeref12_other.calls (a0_0 : Int) (a0_1 : Int) (a0_2 : Int) (a1 : Int) (r : Int) (w : World) (h : filigreeref12_other.f a0_0 a0_1 a0_2 a1 = some r) :
    Calls Try.prog 23 #[.agg #[.int .i64 a0_0, .int .i64 a0_1, .int .i64 a0_2], .int .i64 a1] w fun e w' => e = .returned (.int .i64 r) ∧ Below w.heap.size w w' := by
  have hu39 := Try.underlying39
  have HB := zMk (Below.refl w.heap.size w)
  have H : (if a0_1 = a1 then (some a0_0) else (if a0_0 = a1 then (some a0_1) else (some (-1)))) = some r := h
  clear h
  by_cases c3 : a0_1 = a1
  · rw [if_pos c3] at H
    have c3b0 : (a0_1 == a1) = true := beq_iff_eq.mpr c3
    have c3b1 : (a0_1 != a1) = false := bne_eq_false_iff_eq.mpr c3
    clear c3
    obtain rfl := zOi H
    go_enter Try.func23, Try.ntmps23
    go_wp2_with (first | ((with_reducible refine gate_dst (N := 2) rfl ?_); refine box_event ?hg (N := 2) ?hd (cs := #[.int .i64 a0_0, .int .i64 a0_1, .int .i64 a0_2]) (t := 39) ?hr ?_; (case hd => rfl); (case hg => rfl); (case hr => first | (go_simp; done)|(go_simp; rfl)|(go_simp; rw [show ∀ x : Int, IntKind.u32.wrap (IntKind.u8.wrap x) = x % 256 from fun x => (by show (x % 256) % 4294967296 = x % 256; omega)])); intro gb189 hg w4 hbox hb; have BK189 := zMk (hbox); have GW189 := zMk ((by rw [hg]; exact (zBs (by exact uT HB.out)) : w.heap.size ≤ gb189)); have GE189 := zMk ((by rw [hg]; exact (zBs (by exact uT HB.out)) : w.heap.size ≤ gb189)); have IGE189 := ownGe GE189.out; replace HB := zMk (zBt (by exact uT HB.out) hb); clear hb hbox hg; have hcz5_0 : w4.cell? ⟨gb189, 0, none⟩ = some (.int .i64 a0_0) := (zKc BK189.out 0).trans rfl; have hcz5_1 : w4.cell? ⟨gb189, 1, none⟩ = some (.int .i64 a0_1) := (zKc BK189.out 1).trans rfl; have hcz5_2 : w4.cell? ⟨gb189, 2, none⟩ = some (.int .i64 a0_2) := (zKc BK189.out 2).trans rfl; have hfz5_0 := zKf BK189.out 0; have hfz5_1 := zKf BK189.out 1; have hfz5_2 := zKf BK189.out 2))
    go_ret
    exact ⟨by first | rfl | (simp [errW_none, errW_some] <;> rfl) | (simp [*, errW_none, errW_some] <;> rfl), by exact uT HB.out⟩
  · rw [if_neg c3] at H
    have c3b0 : (a0_1 == a1) = false := beq_eq_false_iff_ne.mpr c3
    have c3b1 : (a0_1 != a1) = true := bne_iff_ne.mpr c3
    by_cases c6 : a0_0 = a1
    · rw [if_pos c6] at H
      have c6b0 : (a0_0 == a1) = true := beq_iff_eq.mpr c6
      have c6b1 : (a0_0 != a1) = false := bne_eq_false_iff_eq.mpr c6
      clear c6
      obtain rfl := zOi H
      go_enter Try.func23, Try.ntmps23
      go_wp2_with (first | ((with_reducible refine gate_dst (N := 2) rfl ?_); refine box_event ?hg (N := 2) ?hd (cs := #[.int .i64 a0_0, .int .i64 a0_1, .int .i64 a0_2]) (t := 39) ?hr ?_; (case hd => rfl); (case hg => rfl); (case hr => first | (go_simp; done)|(go_simp; rfl)|(go_simp; rw [show ∀ x : Int, IntKind.u32.wrap (IntKind.u8.wrap x) = x % 256 from fun x => (by show (x % 256) % 4294967296 = x % 256; omega)])); intro gb189 hg w7 hbox hb; have BK189 := zMk (hbox); have GW189 := zMk ((by rw [hg]; exact (zBs (by exact uT HB.out)) : w.heap.size ≤ gb189)); have GE189 := zMk ((by rw [hg]; exact (zBs (by exact uT HB.out)) : w.heap.size ≤ gb189)); have IGE189 := ownGe GE189.out; replace HB := zMk (zBt (by exact uT HB.out) hb); clear hb hbox hg; have hcz8_0 : w7.cell? ⟨gb189, 0, none⟩ = some (.int .i64 a0_0) := (zKc BK189.out 0).trans rfl; have hcz8_1 : w7.cell? ⟨gb189, 1, none⟩ = some (.int .i64 a0_1) := (zKc BK189.out 1).trans rfl; have hcz8_2 : w7.cell? ⟨gb189, 2, none⟩ = some (.int .i64 a0_2) := (zKc BK189.out 2).trans rfl; have hfz8_0 := zKf BK189.out 0; have hfz8_1 := zKf BK189.out 1; have hfz8_2 := zKf BK189.out 2))
      go_ret
      exact ⟨by first | rfl | (simp [errW_none, errW_some] <;> rfl) | (simp [*, errW_none, errW_some] <;> rfl), by exact uT HB.out⟩
    · rw [if_neg c6] at H
      have c6b0 : (a0_0 == a1) = false := beq_eq_false_iff_ne.mpr c6
      have c6b1 : (a0_0 != a1) = true := bne_iff_ne.mpr c6
      obtain rfl := zOi H
      go_enter Try.func23, Try.ntmps23
      go_wp2_with (first | ((with_reducible refine gate_dst (N := 2) rfl ?_); refine box_event ?hg (N := 2) ?hd (cs := #[.int .i64 a0_0, .int .i64 a0_1, .int .i64 a0_2]) (t := 39) ?hr ?_; (case hd => rfl); (case hg => rfl); (case hr => first | (go_simp; done)|(go_simp; rfl)|(go_simp; rw [show ∀ x : Int, IntKind.u32.wrap (IntKind.u8.wrap x) = x % 256 from fun x => (by show (x % 256) % 4294967296 = x % 256; omega)])); intro gb189 hg w9 hbox hb; have BK189 := zMk (hbox); have GW189 := zMk ((by rw [hg]; exact (zBs (by exact uT HB.out)) : w.heap.size ≤ gb189)); have GE189 := zMk ((by rw [hg]; exact (zBs (by exact uT HB.out)) : w.heap.size ≤ gb189)); have IGE189 := ownGe GE189.out; replace HB := zMk (zBt (by exact uT HB.out) hb); clear hb hbox hg; have hcz10_0 : w9.cell? ⟨gb189, 0, none⟩ = some (.int .i64 a0_0) := (zKc BK189.out 0).trans rfl; have hcz10_1 : w9.cell? ⟨gb189, 1, none⟩ = some (.int .i64 a0_1) := (zKc BK189.out 1).trans rfl; have hcz10_2 : w9.cell? ⟨gb189, 2, none⟩ = some (.int .i64 a0_2) := (zKc BK189.out 2).trans rfl; have hfz10_0 := zKf BK189.out 0; have hfz10_1 := zKf BK189.out 1; have hfz10_2 := zKf BK189.out 2))
      go_ret
      exact ⟨by first | rfl | (simp [errW_none, errW_some] <;> rfl) | (simp [*, errW_none, errW_some] <;> rfl), by exact uT HB.out⟩

end Go.Proofs.Ytnigaojboililaa.A
