/- Lemmas for the statement: the walks of the functions that it reaches, and plain laws. -/
import Derived.Test.YteicpdkembmilaaG1
import Derived.Test.YteicpdkembmilaaG2
set_option linter.unusedVariables false
set_option linter.unusedSimpArgs false
set_option maxHeartbeats 8000000
set_option maxRecDepth 100000
namespace Go.Proofs.Yteicpdkembmilaa.A
open Go Go.RowKit Go.Proofs.YteicpdkembmilaaW.PrintWords Go.Proofs.YteicpdkembmilaaW.PrintLast Go.Proofs.YteicpdkembmilaaW.PrintMore
attribute [local go_sem] max2_int min2_int max_two min_two max_three min_three max_four min_four
open Go.Proofs.YteicpdkembmilaaW.PrintWords.Kd renaming R_alloc → zRa, R_drewN → zRn, R_drew → zRd, C_alloc → zCa, C_drewN → zCn, C_drew → zCd, R_mono → zRm, at_int → zAi, R_elder' → zRe, R_lower → zRl, R_new' → zRw, R_lt → zRt, R_below → zRb, R_base → zRz, R_reads' → zRr, R_slice → zRs
open Go.Proofs.YteicpdkembmilaaW.PrintWords renaming pw_below_drewN → zBn, below_alloc → zBa, below_drew1 → zBd, below_size → zBs, below_step → zBt, blk_drewN → zKn, blk_drew → zKd, blk_alloc → zKa, blk_below → zKb, blk_cell → zKc, blk_frozen → zKf
open List renaming setIfInBounds_toArray → zSa, set_cons_zero → zSb, set_cons_succ → zSc, length_drop → zLd, length_take → zLt, map_toArray → zMa, map_cons → zMc, map_nil → zMn, length_cons → zLc, length_nil → zLn
open Go.Proofs.YteicpdkembmilaaW.PrintWords.Aside0 renaming mk → zMk
open Option renaming bind_eq_some_iff → zBi, bind_some → zOb
open Option.some renaming inj → zOi
open Int renaming toNat_natCast → zTn

mutual
def graph_Near.l0 : Nat → List (List Int) → List (S36) → Int → Int → Option ((List (List Int)))
  | 0, _, _, _, _ => none
  | k + 1, x3, x15, x16, x17 => if x17 < x16 then (if 0 ≤ x17 then (if x17 < (x15.length : Int) then (if 0 ≤ ((rd_T36 x15 x17).f0) then (if ((rd_T36 x15 x17).f0) < (x3.length : Int) then (if (rd_L5 x3 ((rd_T36 x15 x17).f0)).length < 17592186044416 then ((some (x3.set (((rd_T36 x15 x17).f0) : Int).toNat ((rd_L5 x3 ((rd_T36 x15 x17).f0)) ++ [(rd_T36 x15 x17).f1]) : List (List Int))).bind fun y321 => (if 0 ≤ ((rd_T36 x15 x17).f1) then (if ((rd_T36 x15 x17).f1) < (x3.length : Int) then (if (rd_L5 y321 ((rd_T36 x15 x17).f1)).length < 17592186044416 then (graph_Near.l0 k (y321.set (((rd_T36 x15 x17).f1) : Int).toNat ((rd_L5 y321 ((rd_T36 x15 x17).f1)) ++ [(rd_T36 x15 x17).f0])) x15 x16 (wrap64 (x17 + 1))) else (none)) else (none)) else (none))) else (none)) else (none)) else (none)) else (none)) else (none)) else (graph_Near.l1 k x3 0)
def graph_Near.l1 : Nat → List (List Int) → Int → Option (List (List Int))
  | 0, _, _ => none
  | k + 1, x3, x50 => if x50 < (x3.length : Int) then (if 0 ≤ x50 then (if (rd_L5 x3 x50).length < 4611686018427387904 then (graph_Near.l1 k (x3.set x50.toNat ((rd_L5 x3 x50).mergeSort fun x y => decide (x ≤ y))) (wrap64 (x50 + 1))) else (none)) else (none)) else (some x3)
end
def graph_Near.f (k : Nat) (a0_0 : Int) (l0_1 : List (S36)) : Option ((List (List Int))) := (graph_Right.f k a0_0 l0_1).bind fun t311 => (if t311 = 0 then (if 0 ≤ a0_0 then (if (a0_0 : Int).toNat ≤ 11728124029610 then (graph_Near.l0 k (List.replicate (a0_0 : Int).toNat []) l0_1 (l0_1.length : Int) 0) else (none)) else (none)) else (some ([] : List (List Int))))
def graph_Near.T7 : Bool × List (List Nat × List Nat) := (true, [([], []), ([], []), ([1], [1]), ([], []), ([], []), ([4], [4]), ([3, 5], [3, 5]), ([6], [6]), ([], []), ([8], [8]), ([9], [9]), ([7, 10], [7, 10]), ([0, 2, 0, 1, 2, 3, 4, 5, 6, 7, 8, 9, 10, 11], [0, 2]), ([12, 11, 11, 0, 1, 2, 3, 4, 5, 6, 7, 8, 9, 10, 11], [11, 12])])
def graph_Near.B7 : List Nat := [0, 0, 2, 0, 0, 16, 56, 120, 0, 256, 768, 2040, 4095, 8191]
theorem graph_Near.tab7 : rtab .any (opsOf Try.f26 7) = graph_Near.T7 := by kernel_rfl
theorem graph_Near.bits7 : waitsOk graph_Near.T7.2 graph_Near.B7 = true := by kernel_rfl
def graph_Near.T8 : Bool × List (List Nat × List Nat) := (true, [([], []), ([], []), ([1], [1]), ([], []), ([], []), ([4], [4]), ([3, 5], [3, 5]), ([6], [6]), ([], []), ([8], [8]), ([9], [9]), ([7, 10], [7, 10]), ([0, 2, 0, 1, 2, 3, 4, 5, 6, 7, 8, 9, 10, 11], [0, 2]), ([12, 11, 11, 0, 1, 2, 3, 4, 5, 6, 7, 8, 9, 10, 11], [11, 12])])
def graph_Near.B8 : List Nat := [0, 0, 2, 0, 0, 16, 56, 120, 0, 256, 768, 2040, 4095, 8191]
theorem graph_Near.tab8 : rtab .any (opsOf Try.f26 8) = graph_Near.T8 := by kernel_rfl
theorem graph_Near.bits8 : waitsOk graph_Near.T8.2 graph_Near.B8 = true := by kernel_rfl
theorem graph_Near.calls (k : Nat) (a0_0 : Int) (A0_1 : Option Addr) (c0_1 : Nat) (l0_1 : List (S36)) (r : List (List Int)) (w : World) (hr0_1 : Kd.C k36 w A0_1 l0_1.length l0_1) (hc0_1 : l0_1.length ≤ c0_1) (h : graph_Near.f k a0_0 l0_1 = some r) :
    Calls Try.prog 26 #[.agg #[.int .i64 a0_0, .slice A0_1 l0_1.length c0_1]] w fun e w' => ∃ v0_ : Value, e = .returned (v0_) ∧ Kd.S (Kd.slice 3 (Kd.int .i64)) 33 w' w.heap.size (fun _ => True) v0_ r ∧ Below w.heap.size w w' := by
  have hu24 := Try.underlying24
  have hu36 := Try.underlying36
  have HR0_1 := zMk hr0_1
  have HC0_1 := zMk hc0_1
  clear hr0_1 hc0_1
  have HB := zMk (Below.refl w.heap.size w)
  have H : ((graph_Right.f k a0_0 l0_1).bind fun t311 => (if t311 = 0 then (if 0 ≤ a0_0 then (if (a0_0 : Int).toNat ≤ 11728124029610 then (graph_Near.l0 k (List.replicate (a0_0 : Int).toNat []) l0_1 (l0_1.length : Int) 0) else (none)) else (none)) else (some ([] : List (List Int))))) = some r := h
  clear h
  replace H := bnd H
  obtain ⟨t311, A20, H⟩ := H
  have A2 := zMk A20
  clear A20
  by_cases c3 : t311 = 0
  · rw [if_pos c3] at H
    have c3b0 : (t311 == 0) = true := beq_iff_eq.mpr c3
    have c3b1 : (t311 != 0) = false := bne_eq_false_iff_eq.mpr c3
    clear c3
    by_cases c4 : 0 ≤ a0_0
    rotate_left
    · rw [if_neg c4] at H; exact absurd H (by simp)
    rw [if_pos c4] at H
    have c4b0 := eq_true c4
    have c4b1 : decide (0 ≤ a0_0) = true := decide_eq_true c4
    clear c4
    by_cases c5 : (a0_0 : Int).toNat ≤ 11728124029610
    rotate_left
    · rw [if_neg c5] at H; exact absurd H (by simp)
    rw [if_pos c5] at H
    have c5b0 := eq_true c5
    have c5b1 : decide ((a0_0 : Int).toNat ≤ 11728124029610) = true := decide_eq_true c5
    clear c5
    obtain ⟨y312, hy312⟩ : ∃ y_ : List (List Int), y_ = (List.replicate (a0_0 : Int).toNat []) := ⟨_, rfl⟩
    replace H : (graph_Near.l0 k y312 l0_1 (l0_1.length : Int) 0) = some r := by first | (rw [hy312]; with_reducible exact H) | (have H2_ := bsm H; first | (rw [hy312]; with_reducible exact H2_) | with_reducible exact H2_) | with_reducible exact H | (rw [hy312]; exact H) | exact H
    have Ny312 := zMk hy312
    clear hy312
    have H' := zMk H
    clear H
    go_enter Try.func26, Try.ntmps26
    go_wp2_with (first | ((with_reducible refine gate_dst (N := 1) rfl ?_); refine box_event ?hg (N := 1) ?hd (cs := #[.int .i64 a0_0, .slice A0_1 l0_1.length c0_1]) (t := 24) ?hr ?_; (case hd => rfl); (case hg => rfl); (case hr => first | (go_simp; done)|(go_simp; rfl)|(go_simp; rw [show ∀ x : Int, IntKind.u32.wrap (IntKind.u8.wrap x) = x % 256 from fun x => (by show (x % 256) % 4294967296 = x % 256; omega)])); intro gb310 hg w6 hbox hb; have BK310 := zMk (hbox); have GW310 := zMk ((by rw [hg]; exact (zBs (by exact uT HB.out)) : w.heap.size ≤ gb310)); have GE310 := zMk ((by rw [hg]; exact (zBs (by exact uT HB.out)) : w.heap.size ≤ gb310)); have IGE310 := ownGe GE310.out; replace HB := zMk (zBt (by exact uT HB.out) hb); clear hb hbox hg; have hcz7_0 : w6.cell? ⟨gb310, 0, none⟩ = some (.int .i64 a0_0) := (zKc BK310.out 0).trans rfl; have hcz7_1 : w6.cell? ⟨gb310, 1, none⟩ = some (.slice A0_1 l0_1.length c0_1) := (zKc BK310.out 1).trans rfl; have hfz7_0 := zKf BK310.out 0; have hfz7_1 := zKf BK310.out 1)|((with_reducible refine gate_callee (f := 11) rfl ?_); refine goesL_ (some 9) rfl rfl Try.func11 (by kernel_rfl) rfl #[.agg #[.int .i64 a0_0, .slice A0_1 l0_1.length c0_1]] rfl (by (try simp only [zMa, zMc, zMn]); first |  done|  rfl|  (simp only [zLd, zLt]; rfl)) ?_; (with_reducible refine (graph_Right.calls k a0_0 _ _ l0_1 t311 _ ?side1 ?side2 A2.out).mono ?_); (case side1 => repeat (first |  exact (Kd.C_below HR0_1.out HB.out)|(with_reducible refine zCa ?_ _)|(with_reducible refine zCn ?_ _)|(with_reducible refine zCd ?_))); (case side2 => exact HC0_1.out); rintro e w8 ⟨rfl, hb⟩; refine ⟨_, rfl, ?_⟩; replace BK310 := zMk (zKb (g := gb310) (o := .cells #[.int .i64 a0_0, .slice A0_1 l0_1.length c0_1] 24 (0, 0)) (by (with_reducible repeat (first |  refine zKn ?_ _|  refine zKd ?_|  refine zKa ?_ _)); exact BK310.out) hb); replace HB := zMk (zBt (by exact uT HB.out) hb); have hcz9_0 : w8.cell? ⟨gb310, 0, none⟩ = some (.int .i64 a0_0) := (zKc BK310.out 0).trans rfl; have hcz9_1 : w8.cell? ⟨gb310, 1, none⟩ = some (.slice A0_1 l0_1.length c0_1) := (zKc BK310.out 1).trans rfl; have hfz9_0 := zKf BK310.out 0; have hfz9_1 := zKf BK310.out 1)|((with_reducible refine gate_dst (N := 13) rfl ?_); refine Kd.S_make (Kd.slice 3 (Kd.int .i64)) _ 33 rfl (N := 13) rfl 47 _ _ rfl a0_0 rfl rfl Try.underlying47 (.slice none 0 0) 24 info33 rfl (by decide) (by omega) [] (ok := fun _ => True) (okp := fun _ => True) ⟨_, rfl, Kd.R_nil _ _ _ _ _⟩ (fun _ hk => hk) trivial (of_decide_eq_true (by first | (with_reducible assumption)|  assumption)) (Nat.le_trans (Nat.mul_le_mul_right _ (of_decide_eq_true (by first | (with_reducible assumption)|  assumption) : a0_0.toNat ≤ 11728124029610)) (by omega)) (Below.refl _ _) (Nat.le_refl _) ?_; intro v313 w10 ho11 hb hg_ hnew_; clear hg_ hnew_; (first |  rw [← Ny312.out] at ho11|  (simp only [Int.reduceToNat] at ho11; rw [← Ny312.out] at ho11)); have HO314 := zMk (Kd.S_lower ho11 (zBs (by exact uT HB.out))); replace BK310 := zMk (zKb (g := gb310) (o := .cells #[.int .i64 a0_0, .slice A0_1 l0_1.length c0_1] 24 (0, 0)) (by (with_reducible repeat (first |  refine zKn ?_ _|  refine zKd ?_|  refine zKa ?_ _)); exact BK310.out) hb); replace HB := zMk (zBt (by exact uT HB.out) hb); clear hb ho11; have hcz12_0 : w10.cell? ⟨gb310, 0, none⟩ = some (.int .i64 a0_0) := (zKc BK310.out 0).trans rfl; have hcz12_1 : w10.cell? ⟨gb310, 1, none⟩ = some (.slice A0_1 l0_1.length c0_1) := (zKc BK310.out 1).trans rfl; have hfz12_0 := zKf BK310.out 0; have hfz12_1 := zKf BK310.out 1))
    go_loopg [17] k (fun kq v17 w' => ∃ (x3_1 : List (List Int)) (x17_1 : Int), v17 = .int .i64 x17_1 ∧ Aside0 (graph_Near.l0 kq x3_1 l0_1 (l0_1.length : Int) x17_1 = some r) ∧ Aside0 (kq ≤ k) ∧ Aside0 (Kd.S (Kd.slice 3 (Kd.int .i64)) 33 w' w.heap.size (fun _ => True) v313 x3_1) ∧ Aside0 (w'.heap[gb310]? = some (.cells #[.int .i64 a0_0, (.slice A0_1 l0_1.length c0_1)] 24 (0, 0))) ∧ Aside0 (Below w.heap.size w w'))
    case atStart => exact ⟨(y312), (0), (by first | rfl | (simp; done) | (simp [*]; done)), H', ⟨Nat.le_refl _⟩, ⟨by (with_reducible repeat (first | apply Kd.S_alloc | apply Kd.S_drewN | apply Kd.S_drew)); exact HO314.out⟩, ⟨by (with_reducible repeat (first | refine zKn ?_ _ | refine zKd ?_ | refine zKa ?_ _)); exact BK310.out⟩, ⟨by exact uT HB.out⟩⟩
    clear H'
    obtain ⟨x3_1, x17_1, rfl, HA, HK1, HO_3, BK310, HB⟩ := hrel
    rcases gk with _ | k1
    · exact absurd HA.out (by simp [graph_Near.l0])
    have H := HA.out
    clear HA
    simp only [graph_Near.l0] at H
    by_cases c13 : x17_1 < (l0_1.length : Int)
    · rw [if_pos c13] at H
      have c13b0 : decide (x17_1 < (l0_1.length : Int)) = true := decide_eq_true c13
      clear c13
      by_cases c14 : 0 ≤ x17_1
      rotate_left
      · rw [if_neg c14] at H; exact absurd H (by simp)
      rw [if_pos c14] at H
      have c14b0 : decide (0 ≤ x17_1) = true := decide_eq_true c14
      clear c14
      by_cases c15 : x17_1 < (l0_1.length : Int)
      rotate_left
      · rw [if_neg c15] at H; exact absurd H (by simp)
      rw [if_pos c15] at H
      have c15b0 : decide (x17_1 < (l0_1.length : Int)) = true := decide_eq_true c15
      clear c15
      by_cases c16 : 0 ≤ ((rd_T36 l0_1 x17_1).f0)
      rotate_left
      · rw [if_neg c16] at H; exact absurd H (by simp)
      rw [if_pos c16] at H
      have c16b0 : decide (0 ≤ ((rd_T36 l0_1 x17_1).f0)) = true := decide_eq_true c16
      clear c16
      by_cases c17 : ((rd_T36 l0_1 x17_1).f0) < (x3_1.length : Int)
      rotate_left
      · rw [if_neg c17] at H; exact absurd H (by simp)
      rw [if_pos c17] at H
      have c17b0 : decide (((rd_T36 l0_1 x17_1).f0) < (x3_1.length : Int)) = true := decide_eq_true c17
      clear c17
      by_cases c18 : (rd_L5 x3_1 ((rd_T36 l0_1 x17_1).f0)).length < 17592186044416
      rotate_left
      · rw [if_neg c18] at H; exact absurd H (by simp)
      rw [if_pos c18] at H
      have LMc18 := zMk c18
      clear c18
      obtain ⟨y318, hy318⟩ : ∃ y_ : List Int, y_ = ((rd_L5 x3_1 ((rd_T36 l0_1 x17_1).f0)) ++ [(rd_T36 l0_1 x17_1).f1]) := ⟨_, rfl⟩
      replace H : ((some (x3_1.set (((rd_T36 l0_1 x17_1).f0) : Int).toNat y318 : List (List Int))).bind fun y321 => (if 0 ≤ ((rd_T36 l0_1 x17_1).f1) then (if ((rd_T36 l0_1 x17_1).f1) < (x3_1.length : Int) then (if (rd_L5 y321 ((rd_T36 l0_1 x17_1).f1)).length < 17592186044416 then (graph_Near.l0 k1 (y321.set (((rd_T36 l0_1 x17_1).f1) : Int).toNat ((rd_L5 y321 ((rd_T36 l0_1 x17_1).f1)) ++ [(rd_T36 l0_1 x17_1).f0])) l0_1 (l0_1.length : Int) (wrap64 (x17_1 + 1))) else (none)) else (none)) else (none))) = some r := by first | (rw [hy318]; with_reducible exact H) | (have H2_ := bsm H; first | (rw [hy318]; with_reducible exact H2_) | with_reducible exact H2_) | with_reducible exact H | (rw [hy318]; exact H) | exact H
      have Ny318 := zMk hy318
      clear hy318
      obtain ⟨y321, hy321⟩ : ∃ y_ : List (List Int), y_ = (x3_1.set (((rd_T36 l0_1 x17_1).f0) : Int).toNat y318) := ⟨_, rfl⟩
      replace H : (if 0 ≤ ((rd_T36 l0_1 x17_1).f1) then (if ((rd_T36 l0_1 x17_1).f1) < (x3_1.length : Int) then (if (rd_L5 y321 ((rd_T36 l0_1 x17_1).f1)).length < 17592186044416 then (graph_Near.l0 k1 (y321.set (((rd_T36 l0_1 x17_1).f1) : Int).toNat ((rd_L5 y321 ((rd_T36 l0_1 x17_1).f1)) ++ [(rd_T36 l0_1 x17_1).f0])) l0_1 (l0_1.length : Int) (wrap64 (x17_1 + 1))) else (none)) else (none)) else (none)) = some r := by first | (rw [hy321]; with_reducible exact H) | (have H2_ := bsm H; first | (rw [hy321]; with_reducible exact H2_) | with_reducible exact H2_) | with_reducible exact H | (rw [hy321]; exact H) | exact H
      have Ny321 := zMk hy321
      clear hy321
      by_cases c20 : 0 ≤ ((rd_T36 l0_1 x17_1).f1)
      rotate_left
      · rw [if_neg c20] at H; exact absurd H (by simp)
      rw [if_pos c20] at H
      have c20b0 : decide (0 ≤ ((rd_T36 l0_1 x17_1).f1)) = true := decide_eq_true c20
      clear c20
      by_cases c21 : ((rd_T36 l0_1 x17_1).f1) < (x3_1.length : Int)
      rotate_left
      · rw [if_neg c21] at H; exact absurd H (by simp)
      rw [if_pos c21] at H
      have c21b0 : decide (((rd_T36 l0_1 x17_1).f1) < (x3_1.length : Int)) = true := decide_eq_true c21
      clear c21
      by_cases c22 : (rd_L5 y321 ((rd_T36 l0_1 x17_1).f1)).length < 17592186044416
      rotate_left
      · rw [if_neg c22] at H; exact absurd H (by simp)
      rw [if_pos c22] at H
      have LMc22 := zMk c22
      clear c22
      obtain ⟨y323, hy323⟩ : ∃ y_ : List Int, y_ = ((rd_L5 y321 ((rd_T36 l0_1 x17_1).f1)) ++ [(rd_T36 l0_1 x17_1).f0]) := ⟨_, rfl⟩
      replace H : (graph_Near.l0 k1 (y321.set (((rd_T36 l0_1 x17_1).f1) : Int).toNat y323) l0_1 (l0_1.length : Int) (wrap64 (x17_1 + 1))) = some r := by first | (rw [hy323]; with_reducible exact H) | (have H2_ := bsm H; first | (rw [hy323]; with_reducible exact H2_) | with_reducible exact H2_) | with_reducible exact H | (rw [hy323]; exact H) | exact H
      have Ny323 := zMk hy323
      clear hy323
      obtain ⟨y326, hy326⟩ : ∃ y_ : List (List Int), y_ = (y321.set (((rd_T36 l0_1 x17_1).f1) : Int).toNat y323) := ⟨_, rfl⟩
      replace H : (graph_Near.l0 k1 y326 l0_1 (l0_1.length : Int) (wrap64 (x17_1 + 1))) = some r := by first | (rw [hy326]; with_reducible exact H) | (have H2_ := bsm H; first | (rw [hy326]; with_reducible exact H2_) | with_reducible exact H2_) | with_reducible exact H | (rw [hy326]; exact H) | exact H
      have Ny326 := zMk hy326
      clear hy326
      have H' := zMk H
      clear H
      have p315 : 0 ≤ (x17_1 : Int) := of_decide_eq_true (by assumption)
      have q315 : x17_1 < (l0_1.length : Int) := of_decide_eq_true (by assumption)
      obtain ⟨ad315, e315, hx315_0, hx315_1, hx315_2⟩ := at_T36 HR0_1.out x17_1 p315 q315
      cases e315
      replace hx315_0 := (HB.out.cell (World.block_lt_of_cell? w _ hx315_0)).trans hx315_0
      replace hx315_1 := (HB.out.cell (World.block_lt_of_cell? w _ hx315_1)).trans hx315_1
      replace hx315_2 := (HB.out.cell (World.block_lt_of_cell? w _ hx315_2)).trans hx315_2
      replace p315 := eq_true p315
      replace q315 := eq_true q315
      try go_wp2_with (first | ((with_reducible refine gate_dst (N := 5) rfl ?_); refine box_event ?hg (N := 5) ?hd (cs := #[.int .i64 0, .int .i64 0, .int .i64 0]) (t := 36) ?hr ?_; (case hd => rfl); (case hg => rfl); (case hr => first | (go_simp; done)|(go_simp; rfl)|(go_simp; rw [show ∀ x : Int, IntKind.u32.wrap (IntKind.u8.wrap x) = x % 256 from fun x => (by show (x % 256) % 4294967296 = x % 256; omega)])); intro gb316 hg w24 hbox hb; replace HO_3 := zMk (Kd.S_below (by (with_reducible repeat (first |  apply Kd.S_alloc|  apply Kd.S_drewN|  apply Kd.S_drew)); exact HO_3.out) hb); have BK316 := zMk (hbox); have GW316 := zMk ((by rw [hg]; exact (zBs (by exact uT HB.out)) : w.heap.size ≤ gb316)); have GE316 := zMk ((by rw [hg]; exact (zBs (by exact uT HB.out)) : w.heap.size ≤ gb316)); have IGE316 := ownGe GE316.out; replace HB := zMk (zBt (by exact uT HB.out) hb); have NB310_316 := zMk ((by rw [hg]; exact Nat.ne_of_lt (blk_lt (g := gb310) (o := .cells #[.int .i64 a0_0, .slice (some ad315) l0_1.length c0_1] 24 (0, 0)) (by (with_reducible repeat (first |  refine zKn ?_ _|  refine zKd ?_|  refine zKa ?_ _)); exact BK310.out)) : gb310 ≠ gb316)); have NB316_310 := zMk ((by rw [hg]; exact Nat.ne_of_gt (blk_lt (g := gb310) (o := .cells #[.int .i64 a0_0, .slice (some ad315) l0_1.length c0_1] 24 (0, 0)) (by (with_reducible repeat (first |  refine zKn ?_ _|  refine zKd ?_|  refine zKa ?_ _)); exact BK310.out)) : gb316 ≠ gb310)); replace BK310 := zMk (zKb (g := gb310) (o := .cells #[.int .i64 a0_0, .slice (some ad315) l0_1.length c0_1] 24 (0, 0)) (by (with_reducible repeat (first |  refine zKn ?_ _|  refine zKd ?_|  refine zKa ?_ _)); exact BK310.out) hb); clear hb hbox hg; have hnb25 := NB316_310.out; have hnc25 := NB310_316.out; have hcz26_0 : w24.cell? ⟨gb316, 0, none⟩ = some (.int .i64 0) := (zKc BK316.out 0).trans rfl; have hcz26_1 : w24.cell? ⟨gb316, 1, none⟩ = some (.int .i64 0) := (zKc BK316.out 1).trans rfl; have hcz26_2 : w24.cell? ⟨gb316, 2, none⟩ = some (.int .i64 0) := (zKc BK316.out 2).trans rfl; have hfz26_0 := zKf BK316.out 0; have hfz26_1 := zKf BK316.out 1; have hfz26_2 := zKf BK316.out 2))
      have n0_ : Aside0 (Kd.S (Kd.slice 3 (Kd.int .i64)) 33 (((w24.setCell ⟨gb316, 0, none⟩ (.int .i64 ((rd_T36 l0_1 x17_1).f0))).setCell ⟨gb316, 1, none⟩ (.int .i64 ((rd_T36 l0_1 x17_1).f1))).setCell ⟨gb316, 2, none⟩ (.int .i64 ((rd_T36 l0_1 x17_1).f2))) w.heap.size (fun _ => True) v313 x3_1) := ⟨by (with_reducible repeat (first |  apply Kd.S_alloc|  apply Kd.S_drewN|  apply Kd.S_drew)); exact Kd.S_mono (Kd.S_far (p := ⟨gb316, 2, none⟩) (Kd.S_far (p := ⟨gb316, 1, none⟩) (Kd.S_far (p := ⟨gb316, 0, none⟩) (Kd.S_types HO_3.out BK316.out (by decide)) (fun _ hk => hk.2) (.int .i64 ((rd_T36 l0_1 x17_1).f0))) (fun _ hk => hk.2) (.int .i64 ((rd_T36 l0_1 x17_1).f1))) (fun _ hk => hk.2) (.int .i64 ((rd_T36 l0_1 x17_1).f2))) (fun _ hk => trivial)⟩
      have n1_ : Aside0 ((((w24.setCell ⟨gb316, 0, none⟩ (.int .i64 ((rd_T36 l0_1 x17_1).f0))).setCell ⟨gb316, 1, none⟩ (.int .i64 ((rd_T36 l0_1 x17_1).f1))).setCell ⟨gb316, 2, none⟩ (.int .i64 ((rd_T36 l0_1 x17_1).f2))).heap[gb310]? = some (.cells #[.int .i64 a0_0, .slice (some ad315) l0_1.length c0_1] 24 (0, 0))) := ⟨by (with_reducible repeat (first | refine zKn ?_ _ | refine zKd ?_ | refine zKa ?_ _)); refine blk_far ?_ NB310_316.out _; (with_reducible repeat (first | refine zKn ?_ _ | refine zKd ?_ | refine zKa ?_ _)); refine blk_far ?_ NB310_316.out _; (with_reducible repeat (first | refine zKn ?_ _ | refine zKd ?_ | refine zKa ?_ _)); refine blk_far ?_ NB310_316.out _; (with_reducible repeat (first | refine zKn ?_ _ | refine zKd ?_ | refine zKa ?_ _)); exact BK310.out⟩
      have n2_ : Aside0 ((((w24.setCell ⟨gb316, 0, none⟩ (.int .i64 ((rd_T36 l0_1 x17_1).f0))).setCell ⟨gb316, 1, none⟩ (.int .i64 ((rd_T36 l0_1 x17_1).f1))).setCell ⟨gb316, 2, none⟩ (.int .i64 ((rd_T36 l0_1 x17_1).f2))).heap[gb316]? = some (.cells #[.int .i64 ((rd_T36 l0_1 x17_1).f0), .int .i64 ((rd_T36 l0_1 x17_1).f1), .int .i64 ((rd_T36 l0_1 x17_1).f2)] 36 (0, 0))) := ⟨by (with_reducible repeat (first | refine zKn ?_ _ | refine zKd ?_ | refine zKa ?_ _)); refine blk_put (cs := #[.int .i64 ((rd_T36 l0_1 x17_1).f0), .int .i64 ((rd_T36 l0_1 x17_1).f1), .int .i64 0]) ?_ 2 _ rfl; (with_reducible repeat (first | refine zKn ?_ _ | refine zKd ?_ | refine zKa ?_ _)); refine blk_put (cs := #[.int .i64 ((rd_T36 l0_1 x17_1).f0), .int .i64 0, .int .i64 0]) ?_ 1 _ rfl; (with_reducible repeat (first | refine zKn ?_ _ | refine zKd ?_ | refine zKa ?_ _)); refine blk_put (cs := #[.int .i64 0, .int .i64 0, .int .i64 0]) ?_ 0 _ rfl; (with_reducible repeat (first | refine zKn ?_ _ | refine zKd ?_ | refine zKa ?_ _)); exact BK316.out⟩
      have n3_ : Aside0 (Below w.heap.size w (((w24.setCell ⟨gb316, 0, none⟩ (.int .i64 ((rd_T36 l0_1 x17_1).f0))).setCell ⟨gb316, 1, none⟩ (.int .i64 ((rd_T36 l0_1 x17_1).f1))).setCell ⟨gb316, 2, none⟩ (.int .i64 ((rd_T36 l0_1 x17_1).f2)))) := ⟨by exact uT HB.out⟩
      generalize (((w24.setCell ⟨gb316, 0, none⟩ (.int .i64 ((rd_T36 l0_1 x17_1).f0))).setCell ⟨gb316, 1, none⟩ (.int .i64 ((rd_T36 l0_1 x17_1).f1))).setCell ⟨gb316, 2, none⟩ (.int .i64 ((rd_T36 l0_1 x17_1).f2))) = w27 at n0_ n1_ n2_ n3_ ⊢
      have HO_3 := n0_
      have BK310 := n1_
      have BK316 := n2_
      have HB := n3_
      clear n0_ n1_ n2_ n3_
      replace HO_3 := zMk (Kd.S_drew HO_3.out)
      replace BK310 := zMk (zKd BK310.out)
      replace BK316 := zMk (zKd BK316.out)
      replace HB := zMk (zBd HB.out)
      obtain ⟨Ao29, co29, eo29⟩ := Kd.S_slice HO_3.out
      (first |  subst eo29|  (injection eo29 with f1_ f2_ f3_; have f4_ := f1_.symm; have f5_ := f3_.symm; clear f1_ f2_ f3_; subst f4_; subst f5_))
      have p317 : 0 ≤ (((rd_T36 l0_1 x17_1).f0) : Int) := of_decide_eq_true (by assumption)
      have q317 : ((rd_T36 l0_1 x17_1).f0) < (x3_1.length : Int) := of_decide_eq_true (by assumption)
      obtain ⟨ad317, A317_0, c317_0, e317, hx317_0, hl317_0, hi317_0⟩ := at_L5 (Kd.S_reads' HO_3.out).2.2 ((rd_T36 l0_1 x17_1).f0) p317 q317
      cases e317
      obtain ⟨ce317, hce317, hMe317, hcc317⟩ := Kd.S_get HO_3.out [] ((rd_T36 l0_1 x17_1).f0) p317 (by first | exact q317 | exact of_decide_eq_true (by assumption) | (have e_ := (Kd.S_reads' HO_3.out).1; omega))
      obtain ⟨ve317_0, rfl, ge317_0⟩ := hMe317
      have hv317_0 := hcc317 0 _ rfl
      rw [Nat.add_zero, show ((Kd.slice 3 (Kd.int .i64))).sz = 1 from rfl, Nat.mul_one] at hv317_0
      replace hv317_0 := zOi (hv317_0.symm.trans hx317_0)
      rw [hv317_0] at ge317_0
      have HL317_0 := zMk (show Kd.R (Kd.int .i64) 3 _ _ _ _ (rd_L5 x3_1 ((rd_T36 l0_1 x17_1).f0)) from ge317_0)
      clear hv317_0 ge317_0
      have HX317_0 := zMk hx317_0
      clear hcc317 hce317
      have HR317_0 := zMk hi317_0
      have HC317_0 := zMk hl317_0
      clear hi317_0 hl317_0
      replace p317 := eq_true p317
      replace q317 := eq_true q317
      obtain ⟨go30, co30, eo30, gb30, gl30, cl30, HG30⟩ := Kd.S_form HO_3.out (by have h_ : (((rd_T36 l0_1 x17_1).f0) : Int) < ((x3_1.length : Int) : Int) := of_decide_eq_true (by assumption); have h2_ : 0 ≤ (((rd_T36 l0_1 x17_1).f0) : Int) := (of_decide_eq_true (by assumption)); omega)
      (first |  cases eo30|  (injection eo30 with ea_ en_ ec_; (first |  subst ea_|  (injection ea_ with ea_; subst ea_)); subst ec_; clear en_))
      have GB30 := zMk gb30
      have IGB30 := ownGe GB30.out
      have GG30 := zMk HG30
      clear gb30 gl30 HG30
      (first | simp only [add_plain] at hx317_0 | skip)
      obtain ⟨oki30, ce30, hcl30, hM30, hcc30, _, _, hH30⟩ := Kd.S_elem HO_3.out [] (((rd_T36 l0_1 x17_1).f0) : Int) (of_decide_eq_true (by assumption)) (by have h_ : (((rd_T36 l0_1 x17_1).f0) : Int) < ((x3_1.length : Int) : Int) := of_decide_eq_true (by assumption); first | exact h_ | (have e_ := (Kd.S_reads' HO_3.out).1; omega) | simpa using h_)
      obtain ⟨ve30_0, rfl, ge30_0⟩ := hM30
      have hv30 := hcc30 0 _ rfl
      have hX30 := HX317_0.out
      (try simp only [add_plain] at hX30)
      (try simp only [Nat.add_zero] at hv30)
      (try rw [show ((Kd.slice 3 (Kd.int .i64))).sz = 1 from rfl, Nat.mul_one] at hv30)
      replace hv30 := zOi (hv30.symm.trans hX30)
      subst hv30
      clear hX30 hcc30 hcl30
      have UU30 := zMk (show Kd.R (Kd.int .i64) 3 _ w.heap.size oki30 (.slice A317_0 (rd_L5 x3_1 ((rd_T36 l0_1 x17_1).f0)).length c317_0) (rd_L5 x3_1 ((rd_T36 l0_1 x17_1).f0)) from ge30_0)
      have HH30 := zMk hH30
      have HN30 := zMk (Kd.S_reads' HO_3.out).1
      clear hH30 ge30_0
      refine start_ (n := 14) (S := fun w' => w'.cell? ⟨gb316, 0, none⟩ = some (.int .i64 ((rd_T36 l0_1 x17_1).f0)) ∧ w'.cell? ⟨gb316, 1, none⟩ = some (.int .i64 ((rd_T36 l0_1 x17_1).f1)) ∧ w'.cell? ⟨gb316, 2, none⟩ = some (.int .i64 ((rd_T36 l0_1 x17_1).f2)) ∧ w'.cell? ⟨go30, (((rd_T36 l0_1 x17_1).f0)).toNat, none⟩ = some (.slice A317_0 (rd_L5 x3_1 ((rd_T36 l0_1 x17_1).f0)).length c317_0)) (ds := [13]) #[false, false, false, false, false, false, false, false, false, false, false, false, false, false] (by kernel_rfl) rfl rfl ⟨(zKc BK316.out 0).trans rfl, (zKc BK316.out 1).trans rfl, (zKc BK316.out 2).trans rfl, hx317_0⟩ (fun hHeld => ?_); refine with_tabW graph_Near.tab7 graph_Near.bits7 (fun HT_ HW_ => ?_)
      generalize w27.drew = w28 at HO_3 BK310 BK316 HB GG30 HH30 HL317_0 HR317_0 HX317_0 UU30 hx317_0 hHeld ⊢
      refine pure_ (i := 0) (N := some 21) (v := ?_) (a' := ?_) #[true, false, false, false, false, false, false, false, false, false, false, false, false, false] rfl rfl (any_of HT_.out (by kernel_rfl)) (fun _ _ _ h => h) (Or.inl ⟨by rfl, ?_⟩) ?_ ?_
      rotate_left
      · intro w'
        go_simp
        with_reducible rfl
      rotate_left
      · simp only [Act.put, zSa, zSb, zSc, i64_w, i32_w]
        rfl
      refine pure_ (i := 1) (N := some 22) (v := ?_) (a' := ?_) #[true, true, false, false, false, false, false, false, false, false, false, false, false, false] rfl rfl (any_of HT_.out (by kernel_rfl)) (fun _ _ _ h => h) (Or.inl ⟨by rfl, ?_⟩) ?_ ?_
      rotate_left
      · intro w'
        go_simp
        with_reducible rfl
      rotate_left
      · simp only [Act.put, zSa, zSb, zSc, i64_w, i32_w]
        rfl
      refine pure_ (i := 3) (N := some 24) (v := ?_) (a' := ?_) #[true, true, false, true, false, false, false, false, false, false, false, false, false, false] rfl rfl (any_of HT_.out (by kernel_rfl)) (fun _ _ _ h => h) (Or.inl ⟨by rfl, ?_⟩) ?_ ?_
      rotate_left
      · intro w'
        go_simp
        with_reducible rfl
      rotate_left
      · simp only [Act.put, zSa, zSb, zSc, i64_w, i32_w]
        rfl
      refine pure_ (i := 4) (N := some 25) (v := ?_) (a' := ?_) #[true, true, false, true, true, false, false, false, false, false, false, false, false, false] rfl rfl (any_of HT_.out (by kernel_rfl)) (fun _ _ _ h => h) (Or.inl ⟨by rfl, ?_⟩) ?_ ?_
      rotate_left
      · intro w'
        go_simp
        with_reducible rfl
      rotate_left
      · simp only [Act.put, zSa, zSb, zSc, i64_w, i32_w]
        rfl
      refine pure_ (i := 8) (N := some 29) (v := ?_) (a' := ?_) #[true, true, false, true, true, false, false, false, true, false, false, false, false, false] rfl rfl (any_of HT_.out (by kernel_rfl)) (fun _ _ _ h => h) (Or.inl ⟨by rfl, ?_⟩) ?_ ?_
      rotate_left
      · intro w'
        go_simp
        with_reducible rfl
      rotate_left
      · simp only [Act.put, zSa, zSb, zSc, i64_w, i32_w]
        rfl
      refine take_ (i := 2) (N := some 23) (v := ?_) (a' := ?_) #[true, true, true, true, true, false, false, false, true, false, false, false, false, false] rfl rfl (take_ofW HT_.out HW_.out (by kernel_rfl)) (fun _ _ _ h => h) (Or.inl ⟨by rfl, ?_⟩) hHeld ?_ ?_
      rotate_left
      · rintro w' ⟨s0, s1, s2, s3⟩
        go_simp
        with_reducible rfl
      rotate_left
      · simp only [Act.put, zSa, zSb, zSc, i64_w, i32_w]
        rfl
      refine take_ (i := 5) (N := some 26) (v := ?_) (a' := ?_) #[true, true, true, true, true, true, false, false, true, false, false, false, false, false] rfl rfl (take_ofW HT_.out HW_.out (by kernel_rfl)) (fun _ _ _ h => h) (Or.inl ⟨by rfl, ?_⟩) hHeld ?_ ?_
      rotate_left
      · rintro w' ⟨s0, s1, s2, s3⟩
        go_simp
        with_reducible rfl
      rotate_left
      · simp only [Act.put, zSa, zSb, zSc, i64_w, i32_w]
        rfl
      refine pure_ (i := 6) (N := some 27) (v := ?_) (a' := ?_) #[true, true, true, true, true, true, true, false, true, false, false, false, false, false] rfl rfl (any_of HT_.out (by kernel_rfl)) (fun _ _ _ h => h) (Or.inl ⟨by rfl, ?_⟩) ?_ ?_
      rotate_left
      · intro w'
        go_simp
        with_reducible rfl
      rotate_left
      · simp only [Act.put, zSa, zSb, zSc, i64_w, i32_w]
        rfl
      refine take_ (i := 7) (N := some 28) (v := ?_) (a' := ?_) #[true, true, true, true, true, true, true, true, true, false, false, false, false, false] rfl rfl (take_ofW HT_.out HW_.out (by kernel_rfl)) (fun _ _ _ h => h) (Or.inl ⟨by rfl, ?_⟩) hHeld ?_ ?_
      rotate_left
      · rintro w' ⟨s0, s1, s2, s3⟩
        go_simp
        with_reducible rfl
      rotate_left
      · simp only [Act.put, zSa, zSb, zSc, i64_w, i32_w]
        rfl
      refine take_ (i := 9) (N := some 30) (v := ?_) (a' := ?_) #[true, true, true, true, true, true, true, true, true, true, false, false, false, false] rfl rfl (take_ofW HT_.out HW_.out (by kernel_rfl)) (fun _ _ _ h => h) (Or.inl ⟨by rfl, ?_⟩) hHeld ?_ ?_
      rotate_left
      · rintro w' ⟨s0, s1, s2, s3⟩
        go_simp
        with_reducible rfl
      rotate_left
      · simp only [Act.put, zSa, zSb, zSc, i64_w, i32_w]
        rfl
      refine one_ (i := 10) (N := some 31) #[true, true, true, true, true, true, true, true, true, true, true, false, false, false] rfl rfl (one_of HT_.out (by kernel_rfl)) (by decide) (fun K hK => ?_)
      refine value_ (w1 := ?_) (v := ?_) (by rfl) rfl ?_ ?_
      rotate_left 2
      · go_simp
        constructor
        · rfl
        · rfl
      refine hK.out _ _ ⟨(zKc (zKa BK316.out _) 0).trans rfl, (zKc (zKa BK316.out _) 1).trans rfl, (zKc (zKa BK316.out _) 2).trans rfl, (World.cell?_alloc_lt _ _ _ (World.block_lt_of_cell? _ _ (hHeld.2.2.2))).trans (hHeld.2.2.2)⟩ (fun hHeld => ?_)
      clear hK K
      refine norm_ (a' := ?_) ?_ ?_
      rotate_left
      · show Act.put _ (some 31) _ = _
        simp only [Act.put, zSa, zSb, zSc, i64_w, i32_w]
        rfl
      refine one_ (i := 11) (N := some 32) #[true, true, true, true, true, true, true, true, true, true, true, true, false, false] rfl rfl (one_of HT_.out (by kernel_rfl)) (by decide) (fun K hK => ?_)
      refine Kd.R_append_step (Kd.int .i64) (w0 := w) w.heap.size (by rfl) (.tmp 28) (.tmp 31) 33 3 (.int .i64 0) 8 rfl Try.underlying33 info3 rfl (by decide) (by omega) (.slice A317_0 (rd_L5 x3_1 ((rd_T36 l0_1 x17_1).f0)).length c317_0) (rd_L5 x3_1 ((rd_T36 l0_1 x17_1).f0)) ((rd_T36 l0_1 x17_1).f1) [.int .i64 ((rd_T36 l0_1 x17_1).f1)] (fun k_ => oki30 k_ ∨ ((fun _ => True)) k_ ∧ w28.heap.size ≤ k_) (fun _ => False) rfl rfl ?aP (fun _ hk => hk.elim) ?aF ?aO ?aB ?aS ?aL ?_
      (case aP => exact rfl)
      (case aB => exact (by exact uT HB.out))
      (case aF => exact (fun k_ hk => .inr ⟨trivial, hk⟩))
      (case aO => exact (by (with_reducible repeat (first | apply zRa | apply zRn | apply zRd)); exact zRm UU30.out (fun _ hk => .inl hk)))
      (case aS => exact (zBs (by exact uT HB.out)))
      (case aL => have := LMc18.out; omega)
      intro v319 w31 ho hb hg hat
      (first | have HS3_ := Go.Proofs.YteicpdkembmilaaW.PrintWords.cell_grown hg (hHeld.2.2.2) (by first | (rw [add_block]; exact (fun e_ => ((HL317_0.out.1 _ e_.symm).2) rfl)) | (show some (Addr.add _ _).block ≠ _; rw [add_block]; exact (fun e_ => ((HL317_0.out.1 _ e_.symm).2) rfl)) | exact (fun e_ => ((HL317_0.out.1 _ e_.symm).2) rfl)) | have HS3_ := Go.Proofs.YteicpdkembmilaaW.PrintWords.cell_grown hg (cell_unalloc (hHeld.2.2.2) (by first | (rw [add_block]; exact Kd.S_lt HO_3.out _ rfl) | (show (Addr.add _ _).block < _; rw [add_block]; exact Kd.S_lt HO_3.out _ rfl) | exact Kd.S_lt HO_3.out _ rfl)) (by first | (rw [add_block]; exact (fun e_ => ((HL317_0.out.1 _ e_.symm).2) rfl)) | (show some (Addr.add _ _).block ≠ _; rw [add_block]; exact (fun e_ => ((HL317_0.out.1 _ e_.symm).2) rfl)) | exact (fun e_ => ((HL317_0.out.1 _ e_.symm).2) rfl)))
      rw [← Ny318.out] at ho
      replace BK310 := zMk (blk_grown (g := gb310) (o := .cells #[.int .i64 a0_0, .slice (some ad315) l0_1.length c0_1] 24 (0, 0)) (by (with_reducible repeat (first | refine zKn ?_ _ | refine zKd ?_ | refine zKa ?_ _)); exact BK310.out) hg (Kd.R_ne HL317_0.out BK310.out (by decide)))
      replace BK316 := zMk (blk_grown (g := gb316) (o := .cells #[.int .i64 ((rd_T36 l0_1 x17_1).f0), .int .i64 ((rd_T36 l0_1 x17_1).f1), .int .i64 ((rd_T36 l0_1 x17_1).f2)] 36 (0, 0)) (by (with_reducible repeat (first | refine zKn ?_ _ | refine zKd ?_ | refine zKa ?_ _)); exact BK316.out) hg (Kd.R_ne HL317_0.out BK316.out (by decide)))
      replace HB := zMk (hb)
      replace HH30 := zMk (Kd.H_grown (Kd.H_widen (by repeat (first | exact HH30.out | refine Kd.H_alloc ?_ _ | refine Kd.H_drewN ?_ _ | refine Kd.H_drew ?_))) hg (fun k_ e_ => .inl (UU30.out.1 k_ e_)))
      have HO320 := zMk (ho)
      clear HO_3 UU30 HL317_0 ho hb hg hat
      have p19 : 0 ≤ (((rd_T36 l0_1 x17_1).f0) : Int) := of_decide_eq_true (by assumption)
      have q19 : (((rd_T36 l0_1 x17_1).f0) : Int) < ((x3_1.length : Int) : Int) := of_decide_eq_true (by assumption)
      replace p19 := eq_true p19
      replace q19 := eq_true q19
      obtain ⟨Ao34, co34, eo34⟩ := zRs HO320.out
      (first |  subst eo34|  (injection eo34 with f1_ f2_ f3_; have f4_ := f1_.symm; have f5_ := f3_.symm; clear f1_ f2_ f3_; subst f4_; subst f5_))
      obtain ⟨_, _, hraw32, _, _, hcc32, _⟩ := Kd.H_raw HH30.out (of_decide_eq_true (by assumption)) (by have h_ : (((rd_T36 l0_1 x17_1).f0) : Int) < ((x3_1.length : Int) : Int) := of_decide_eq_true (by assumption); first | exact h_ | (have e_ := (HN30.out); omega) | simpa using h_)
      obtain ⟨_, hfr32⟩ := Kd.H_at HH30.out (of_decide_eq_true (by assumption)) (by have h_ : (((rd_T36 l0_1 x17_1).f0) : Int) < ((x3_1.length : Int) : Int) := of_decide_eq_true (by assumption); first | exact h_ | (have e_ := (HN30.out); omega) | simpa using h_)
      have hx32_0 := hcc32 0 _ rfl
      have hf32_0 := hfr32 0
      (try simp only [Nat.add_zero] at hx32_0 hf32_0)
      (try rw [show ((Kd.slice 3 (Kd.int .i64))).sz = 1 from rfl, Nat.mul_one] at hx32_0)
      (try rw [show ((Kd.slice 3 (Kd.int .i64))).sz = 1 from rfl, Nat.mul_one] at hf32_0)
      have HP32 := Kd.S_seg0 HH30.out (of_decide_eq_true (by assumption)) (by have h_ : (((rd_T36 l0_1 x17_1).f0) : Int) < ((x3_1.length : Int) : Int) := of_decide_eq_true (by assumption); first | exact h_ | (have e_ := (HN30.out); omega) | simpa using h_) (seg := [.slice Ao34 y318.length co34]) (j := 0) (show 1 ≤ 1 from by decide) (x' := y318) (Kd.M_row HO320.out) (fun _ hk => hk)
      (try simp only [show ((Kd.slice 3 (Kd.int .i64))).sz = 1 from rfl, Nat.mul_one, Nat.add_zero] at HP32)
      clear hcc32 hfr32
      have HNB310_go30 := zMk (show gb310 ≠ go30 from by have h_ := Kd.R_ne hraw32 BK310.out (by decide); intro e_; exact h_ (by rw [e_]; rfl))
      have HNB316_go30 := zMk (show gb316 ≠ go30 from by have h_ := Kd.R_ne hraw32 BK316.out (by decide); intro e_; exact h_ (by rw [e_]; rfl))
      have HS32 := HP32.1
      rw [← Ny321.out] at HS32
      have HQ32 := zMk HS32
      obtain ⟨_, hgg32⟩ := Kd.R_typed hraw32 go30 rfl
      have GG32_ := zMk hgg32
      clear HP32 HS32 hgg32
      refine hK.out _ _ ⟨(zKc BK316.out 0).trans rfl, (zKc BK316.out 1).trans rfl, (zKc BK316.out 2).trans rfl, HS3_⟩ (fun hHeld => ?_)
      clear hK K
      refine norm_ (a' := ?_) ?_ ?_
      rotate_left
      · show Act.put _ (some 32) _ = _
        simp only [Act.put, zSa, zSb, zSc, i64_w, i32_w]
        rfl
      refine pure_ (i := 12) (N := some 33) (v := ?_) (a' := ?_) #[true, true, true, true, true, true, true, true, true, true, true, true, true, false] rfl rfl (any_of HT_.out (by kernel_rfl)) (fun _ _ _ h => h) (Or.inl ⟨by rfl, ?_⟩) ?_ ?_
      rotate_left
      · intro w'
        go_simp
        with_reducible rfl
      rotate_left
      · simp only [Act.put, zSa, zSb, zSc, i64_w, i32_w]
        rfl
      refine last_ (i := 13) (N := none) #[true, true, true, true, true, true, true, true, true, true, true, true, true, true] rfl rfl (one_of HT_.out (by kernel_rfl)) (by decide) (fun K hK => ?_)
      refine skip_ (w1 := ?_) (by rfl) rfl ?_ ?_
      rotate_left
      · go_simp
        rfl
      refine hK.out _ _ ?_
      clear hK K
      refine done_ (done_of HT_.out (by kernel_rfl)) ?_
      try go_wp2
      have n0_ : Aside0 (Kd.S (Kd.slice 3 (Kd.int .i64)) 33 (w31.setCell ⟨go30, (((rd_T36 l0_1 x17_1).f0) : Int).toNat, none⟩ (.slice Ao34 y318.length co34)) w.heap.size (fun _ => True) (.slice (some ⟨go30, 0, none⟩) x3_1.length co29) y321) := ⟨by (with_reducible repeat (first |  apply Kd.S_alloc|  apply Kd.S_drewN|  apply Kd.S_drew)); exact HQ32.out⟩
      have n1_ : Aside0 ((w31.setCell ⟨go30, (((rd_T36 l0_1 x17_1).f0) : Int).toNat, none⟩ (.slice Ao34 y318.length co34)).heap[gb310]? = some (.cells #[.int .i64 a0_0, .slice (some ad315) l0_1.length c0_1] 24 (0, 0))) := ⟨by (with_reducible repeat (first | refine zKn ?_ _ | refine zKd ?_ | refine zKa ?_ _)); refine blk_far ?_ HNB310_go30.out _; (with_reducible repeat (first | refine zKn ?_ _ | refine zKd ?_ | refine zKa ?_ _)); exact BK310.out⟩
      have n2_ : Aside0 ((w31.setCell ⟨go30, (((rd_T36 l0_1 x17_1).f0) : Int).toNat, none⟩ (.slice Ao34 y318.length co34)).heap[gb316]? = some (.cells #[.int .i64 ((rd_T36 l0_1 x17_1).f0), .int .i64 ((rd_T36 l0_1 x17_1).f1), .int .i64 ((rd_T36 l0_1 x17_1).f2)] 36 (0, 0))) := ⟨by (with_reducible repeat (first | refine zKn ?_ _ | refine zKd ?_ | refine zKa ?_ _)); refine blk_far ?_ HNB316_go30.out _; (with_reducible repeat (first | refine zKn ?_ _ | refine zKd ?_ | refine zKa ?_ _)); exact BK316.out⟩
      have n3_ : Aside0 (Below w.heap.size w (w31.setCell ⟨go30, (((rd_T36 l0_1 x17_1).f0) : Int).toNat, none⟩ (.slice Ao34 y318.length co34))) := ⟨by exact uT HB.out⟩
      generalize (w31.setCell ⟨go30, (((rd_T36 l0_1 x17_1).f0) : Int).toNat, none⟩ (.slice Ao34 y318.length co34)) = w35 at n0_ n1_ n2_ n3_ ⊢
      have HO_3 := n0_
      have BK310 := n1_
      have BK316 := n2_
      have HB := n3_
      clear n0_ n1_ n2_ n3_
      replace HO_3 := zMk (Kd.S_drew HO_3.out)
      replace BK310 := zMk (zKd BK310.out)
      replace BK316 := zMk (zKd BK316.out)
      replace HB := zMk (zBd HB.out)
      have p322 : 0 ≤ (((rd_T36 l0_1 x17_1).f1) : Int) := of_decide_eq_true (by assumption)
      have q322 : ((rd_T36 l0_1 x17_1).f1) < (y321.length : Int) := (by have h_ : (((rd_T36 l0_1 x17_1).f1) : Int) < ((x3_1.length : Int) : Int) := of_decide_eq_true (by assumption); first | (have e_ := (Kd.S_reads' HO_3.out).1; omega) | simpa only [Ny321.out, List.length_set] using h_)
      have ql322 : ((((rd_T36 l0_1 x17_1).f1) : Int) < ((x3_1.length : Int) : Int)) = True := eq_true (of_decide_eq_true (by assumption))
      obtain ⟨ad322, A322_0, c322_0, e322, hx322_0, hl322_0, hi322_0⟩ := at_L5 (Kd.S_reads' HO_3.out).2.2 ((rd_T36 l0_1 x17_1).f1) p322 q322
      obtain rfl : (⟨go30, 0, none⟩ : Addr) = ad322 := (by injection e322)
      obtain ⟨ce322, hce322, hMe322, hcc322⟩ := Kd.S_get HO_3.out [] ((rd_T36 l0_1 x17_1).f1) p322 (by first | exact q322 | exact of_decide_eq_true (by assumption) | (have e_ := (Kd.S_reads' HO_3.out).1; omega))
      obtain ⟨ve322_0, rfl, ge322_0⟩ := hMe322
      have hv322_0 := hcc322 0 _ rfl
      rw [Nat.add_zero, show ((Kd.slice 3 (Kd.int .i64))).sz = 1 from rfl, Nat.mul_one] at hv322_0
      replace hv322_0 := zOi (hv322_0.symm.trans hx322_0)
      rw [hv322_0] at ge322_0
      have HL322_0 := zMk (show Kd.R (Kd.int .i64) 3 _ _ _ _ (rd_L5 y321 ((rd_T36 l0_1 x17_1).f1)) from ge322_0)
      clear hv322_0 ge322_0
      have HX322_0 := zMk hx322_0
      clear hcc322 hce322
      (first | simp only [add_plain] at hx322_0 | simp only [add_at] at hx322_0 | simp only [Addr.add, Nat.zero_add] at hx322_0 | skip)
      have HR322_0 := zMk hi322_0
      have HC322_0 := zMk hl322_0
      clear hi322_0 hl322_0
      replace p322 := eq_true p322
      replace q322 := eq_true q322
      obtain ⟨oki37, ce37, hcl37, hM37, hcc37, _, _, hH37⟩ := Kd.S_elem HO_3.out [] (((rd_T36 l0_1 x17_1).f1) : Int) (of_decide_eq_true (by assumption)) (by have h_ : (((rd_T36 l0_1 x17_1).f1) : Int) < ((x3_1.length : Int) : Int) := of_decide_eq_true (by assumption); first | exact h_ | (have e_ := (Kd.S_reads' HO_3.out).1; omega) | simpa using h_)
      obtain ⟨ve37_0, rfl, ge37_0⟩ := hM37
      have hv37 := hcc37 0 _ rfl
      have hX37 := HX322_0.out
      (try simp only [add_plain] at hX37)
      (try simp only [Nat.add_zero] at hv37)
      (try rw [show ((Kd.slice 3 (Kd.int .i64))).sz = 1 from rfl, Nat.mul_one] at hv37)
      replace hv37 := zOi (hv37.symm.trans hX37)
      subst hv37
      clear hX37 hcc37 hcl37
      have UU37 := zMk (show Kd.R (Kd.int .i64) 3 _ w.heap.size oki37 (.slice A322_0 (rd_L5 y321 ((rd_T36 l0_1 x17_1).f1)).length c322_0) (rd_L5 y321 ((rd_T36 l0_1 x17_1).f1)) from ge37_0)
      have HH37 := zMk hH37
      have HN37 := zMk (Kd.S_reads' HO_3.out).1
      clear hH37 ge37_0
      refine start_ (n := 14) (S := fun w' => w'.cell? ⟨gb316, 0, none⟩ = some (.int .i64 ((rd_T36 l0_1 x17_1).f0)) ∧ w'.cell? ⟨gb316, 1, none⟩ = some (.int .i64 ((rd_T36 l0_1 x17_1).f1)) ∧ w'.cell? ⟨gb316, 2, none⟩ = some (.int .i64 ((rd_T36 l0_1 x17_1).f2)) ∧ w'.cell? ⟨go30, (((rd_T36 l0_1 x17_1).f1)).toNat, none⟩ = some (.slice A322_0 (rd_L5 y321 ((rd_T36 l0_1 x17_1).f1)).length c322_0)) (ds := [13]) #[false, false, false, false, false, false, false, false, false, false, false, false, false, false] (by kernel_rfl) rfl rfl ⟨(zKc BK316.out 0).trans rfl, (zKc BK316.out 1).trans rfl, (zKc BK316.out 2).trans rfl, hx322_0⟩ (fun hHeld => ?_); refine with_tabW graph_Near.tab8 graph_Near.bits8 (fun HT_ HW_ => ?_)
      generalize w35.drew = w36 at HO_3 BK310 BK316 HB HH37 HL322_0 HQ32 HR322_0 HX322_0 UU37 hx322_0 hHeld ⊢
      refine pure_ (i := 0) (N := some 34) (v := ?_) (a' := ?_) #[true, false, false, false, false, false, false, false, false, false, false, false, false, false] rfl rfl (any_of HT_.out (by kernel_rfl)) (fun _ _ _ h => h) (Or.inl ⟨by rfl, ?_⟩) ?_ ?_
      rotate_left
      · intro w'
        go_simp
        with_reducible rfl
      rotate_left
      · simp only [Act.put, zSa, zSb, zSc, i64_w, i32_w]
        rfl
      refine pure_ (i := 1) (N := some 35) (v := ?_) (a' := ?_) #[true, true, false, false, false, false, false, false, false, false, false, false, false, false] rfl rfl (any_of HT_.out (by kernel_rfl)) (fun _ _ _ h => h) (Or.inl ⟨by rfl, ?_⟩) ?_ ?_
      rotate_left
      · intro w'
        go_simp
        with_reducible rfl
      rotate_left
      · simp only [Act.put, zSa, zSb, zSc, i64_w, i32_w]
        rfl
      refine pure_ (i := 3) (N := some 37) (v := ?_) (a' := ?_) #[true, true, false, true, false, false, false, false, false, false, false, false, false, false] rfl rfl (any_of HT_.out (by kernel_rfl)) (fun _ _ _ h => h) (Or.inl ⟨by rfl, ?_⟩) ?_ ?_
      rotate_left
      · intro w'
        go_simp
        with_reducible rfl
      rotate_left
      · simp only [Act.put, zSa, zSb, zSc, i64_w, i32_w]
        rfl
      refine pure_ (i := 4) (N := some 38) (v := ?_) (a' := ?_) #[true, true, false, true, true, false, false, false, false, false, false, false, false, false] rfl rfl (any_of HT_.out (by kernel_rfl)) (fun _ _ _ h => h) (Or.inl ⟨by rfl, ?_⟩) ?_ ?_
      rotate_left
      · intro w'
        go_simp
        with_reducible rfl
      rotate_left
      · simp only [Act.put, zSa, zSb, zSc, i64_w, i32_w]
        rfl
      refine pure_ (i := 8) (N := some 42) (v := ?_) (a' := ?_) #[true, true, false, true, true, false, false, false, true, false, false, false, false, false] rfl rfl (any_of HT_.out (by kernel_rfl)) (fun _ _ _ h => h) (Or.inl ⟨by rfl, ?_⟩) ?_ ?_
      rotate_left
      · intro w'
        go_simp
        with_reducible rfl
      rotate_left
      · simp only [Act.put, zSa, zSb, zSc, i64_w, i32_w]
        rfl
      refine take_ (i := 2) (N := some 36) (v := ?_) (a' := ?_) #[true, true, true, true, true, false, false, false, true, false, false, false, false, false] rfl rfl (take_ofW HT_.out HW_.out (by kernel_rfl)) (fun _ _ _ h => h) (Or.inl ⟨by rfl, ?_⟩) hHeld ?_ ?_
      rotate_left
      · rintro w' ⟨s0, s1, s2, s3⟩
        go_simp
        with_reducible rfl
      rotate_left
      · simp only [Act.put, zSa, zSb, zSc, i64_w, i32_w]
        rfl
      refine take_ (i := 5) (N := some 39) (v := ?_) (a' := ?_) #[true, true, true, true, true, true, false, false, true, false, false, false, false, false] rfl rfl (take_ofW HT_.out HW_.out (by kernel_rfl)) (fun _ _ _ h => h) (Or.inl ⟨by rfl, ?_⟩) hHeld ?_ ?_
      rotate_left
      · rintro w' ⟨s0, s1, s2, s3⟩
        go_simp
        with_reducible rfl
      rotate_left
      · simp only [Act.put, zSa, zSb, zSc, i64_w, i32_w]
        rfl
      refine pure_ (i := 6) (N := some 40) (v := ?_) (a' := ?_) #[true, true, true, true, true, true, true, false, true, false, false, false, false, false] rfl rfl (any_of HT_.out (by kernel_rfl)) (fun _ _ _ h => h) (Or.inl ⟨by rfl, ?_⟩) ?_ ?_
      rotate_left
      · intro w'
        go_simp
        with_reducible rfl
      rotate_left
      · simp only [Act.put, zSa, zSb, zSc, i64_w, i32_w]
        rfl
      refine take_ (i := 7) (N := some 41) (v := ?_) (a' := ?_) #[true, true, true, true, true, true, true, true, true, false, false, false, false, false] rfl rfl (take_ofW HT_.out HW_.out (by kernel_rfl)) (fun _ _ _ h => h) (Or.inl ⟨by rfl, ?_⟩) hHeld ?_ ?_
      rotate_left
      · rintro w' ⟨s0, s1, s2, s3⟩
        go_simp
        with_reducible rfl
      rotate_left
      · simp only [Act.put, zSa, zSb, zSc, i64_w, i32_w]
        rfl
      refine take_ (i := 9) (N := some 43) (v := ?_) (a' := ?_) #[true, true, true, true, true, true, true, true, true, true, false, false, false, false] rfl rfl (take_ofW HT_.out HW_.out (by kernel_rfl)) (fun _ _ _ h => h) (Or.inl ⟨by rfl, ?_⟩) hHeld ?_ ?_
      rotate_left
      · rintro w' ⟨s0, s1, s2, s3⟩
        go_simp
        with_reducible rfl
      rotate_left
      · simp only [Act.put, zSa, zSb, zSc, i64_w, i32_w]
        rfl
      refine one_ (i := 10) (N := some 44) #[true, true, true, true, true, true, true, true, true, true, true, false, false, false] rfl rfl (one_of HT_.out (by kernel_rfl)) (by decide) (fun K hK => ?_)
      refine value_ (w1 := ?_) (v := ?_) (by rfl) rfl ?_ ?_
      rotate_left 2
      · go_simp
        constructor
        · rfl
        · rfl
      refine hK.out _ _ ⟨(zKc (zKa BK316.out _) 0).trans rfl, (zKc (zKa BK316.out _) 1).trans rfl, (zKc (zKa BK316.out _) 2).trans rfl, (World.cell?_alloc_lt _ _ _ (World.block_lt_of_cell? _ _ (hHeld.2.2.2))).trans (hHeld.2.2.2)⟩ (fun hHeld => ?_)
      clear hK K
      refine norm_ (a' := ?_) ?_ ?_
      rotate_left
      · show Act.put _ (some 44) _ = _
        simp only [Act.put, zSa, zSb, zSc, i64_w, i32_w]
        rfl
      refine one_ (i := 11) (N := some 45) #[true, true, true, true, true, true, true, true, true, true, true, true, false, false] rfl rfl (one_of HT_.out (by kernel_rfl)) (by decide) (fun K hK => ?_)
      refine Kd.R_append_step (Kd.int .i64) (w0 := w) w.heap.size (by rfl) (.tmp 41) (.tmp 44) 33 3 (.int .i64 0) 8 rfl Try.underlying33 info3 rfl (by decide) (by omega) (.slice A322_0 (rd_L5 y321 ((rd_T36 l0_1 x17_1).f1)).length c322_0) (rd_L5 y321 ((rd_T36 l0_1 x17_1).f1)) ((rd_T36 l0_1 x17_1).f0) [.int .i64 ((rd_T36 l0_1 x17_1).f0)] (fun k_ => oki37 k_ ∨ ((fun _ => True)) k_ ∧ w36.heap.size ≤ k_) (fun _ => False) rfl rfl ?aP (fun _ hk => hk.elim) ?aF ?aO ?aB ?aS ?aL ?_
      (case aP => exact rfl)
      (case aB => exact (by exact uT HB.out))
      (case aF => exact (fun k_ hk => .inr ⟨trivial, hk⟩))
      (case aO => exact (by (with_reducible repeat (first | apply zRa | apply zRn | apply zRd)); exact zRm UU37.out (fun _ hk => .inl hk)))
      (case aS => exact (zBs (by exact uT HB.out)))
      (case aL => have := LMc22.out; omega)
      intro v324 w38 ho hb hg hat
      (first | have HS3_ := Go.Proofs.YteicpdkembmilaaW.PrintWords.cell_grown hg (hHeld.2.2.2) (by first | (rw [add_block]; exact (fun e_ => ((HL322_0.out.1 _ e_.symm).2) rfl)) | (show some (Addr.add _ _).block ≠ _; rw [add_block]; exact (fun e_ => ((HL322_0.out.1 _ e_.symm).2) rfl)) | exact (fun e_ => ((HL322_0.out.1 _ e_.symm).2) rfl)) | have HS3_ := Go.Proofs.YteicpdkembmilaaW.PrintWords.cell_grown hg (cell_unalloc (hHeld.2.2.2) (by first | (rw [add_block]; exact Kd.S_lt HO_3.out _ rfl) | (show (Addr.add _ _).block < _; rw [add_block]; exact Kd.S_lt HO_3.out _ rfl) | exact Kd.S_lt HO_3.out _ rfl)) (by first | (rw [add_block]; exact (fun e_ => ((HL322_0.out.1 _ e_.symm).2) rfl)) | (show some (Addr.add _ _).block ≠ _; rw [add_block]; exact (fun e_ => ((HL322_0.out.1 _ e_.symm).2) rfl)) | exact (fun e_ => ((HL322_0.out.1 _ e_.symm).2) rfl)))
      rw [← Ny323.out] at ho
      replace BK310 := zMk (blk_grown (g := gb310) (o := .cells #[.int .i64 a0_0, .slice (some ad315) l0_1.length c0_1] 24 (0, 0)) (by (with_reducible repeat (first | refine zKn ?_ _ | refine zKd ?_ | refine zKa ?_ _)); exact BK310.out) hg (Kd.R_ne HL322_0.out BK310.out (by decide)))
      replace BK316 := zMk (blk_grown (g := gb316) (o := .cells #[.int .i64 ((rd_T36 l0_1 x17_1).f0), .int .i64 ((rd_T36 l0_1 x17_1).f1), .int .i64 ((rd_T36 l0_1 x17_1).f2)] 36 (0, 0)) (by (with_reducible repeat (first | refine zKn ?_ _ | refine zKd ?_ | refine zKa ?_ _)); exact BK316.out) hg (Kd.R_ne HL322_0.out BK316.out (by decide)))
      replace HB := zMk (hb)
      replace HH37 := zMk (Kd.H_grown (Kd.H_widen (by repeat (first | exact HH37.out | refine Kd.H_alloc ?_ _ | refine Kd.H_drewN ?_ _ | refine Kd.H_drew ?_))) hg (fun k_ e_ => .inl (UU37.out.1 k_ e_)))
      have HO325 := zMk (ho)
      clear HO_3 UU37 HL322_0 ho hb hg hat
      have p23 : 0 ≤ (((rd_T36 l0_1 x17_1).f1) : Int) := of_decide_eq_true (by assumption)
      have q23 : (((rd_T36 l0_1 x17_1).f1) : Int) < ((x3_1.length : Int) : Int) := of_decide_eq_true (by assumption)
      replace p23 := eq_true p23
      replace q23 := eq_true q23
      obtain ⟨Ao41, co41, eo41⟩ := zRs HO325.out
      (first |  subst eo41|  (injection eo41 with f1_ f2_ f3_; have f4_ := f1_.symm; have f5_ := f3_.symm; clear f1_ f2_ f3_; subst f4_; subst f5_))
      obtain ⟨_, _, hraw39, _, _, hcc39, _⟩ := Kd.H_raw HH37.out (of_decide_eq_true (by assumption)) (by have h_ : (((rd_T36 l0_1 x17_1).f1) : Int) < ((x3_1.length : Int) : Int) := of_decide_eq_true (by assumption); first | exact h_ | (have e_ := (HN37.out); omega) | simpa using h_)
      obtain ⟨_, hfr39⟩ := Kd.H_at HH37.out (of_decide_eq_true (by assumption)) (by have h_ : (((rd_T36 l0_1 x17_1).f1) : Int) < ((x3_1.length : Int) : Int) := of_decide_eq_true (by assumption); first | exact h_ | (have e_ := (HN37.out); omega) | simpa using h_)
      have hx39_0 := hcc39 0 _ rfl
      have hf39_0 := hfr39 0
      (try simp only [Nat.add_zero] at hx39_0 hf39_0)
      (try rw [show ((Kd.slice 3 (Kd.int .i64))).sz = 1 from rfl, Nat.mul_one] at hx39_0)
      (try rw [show ((Kd.slice 3 (Kd.int .i64))).sz = 1 from rfl, Nat.mul_one] at hf39_0)
      have HP39 := Kd.S_seg0 HH37.out (of_decide_eq_true (by assumption)) (by have h_ : (((rd_T36 l0_1 x17_1).f1) : Int) < ((x3_1.length : Int) : Int) := of_decide_eq_true (by assumption); first | exact h_ | (have e_ := (HN37.out); omega) | simpa using h_) (seg := [.slice Ao41 y323.length co41]) (j := 0) (show 1 ≤ 1 from by decide) (x' := y323) (Kd.M_row HO325.out) (fun _ hk => hk)
      (try simp only [show ((Kd.slice 3 (Kd.int .i64))).sz = 1 from rfl, Nat.mul_one, Nat.add_zero] at HP39)
      clear hcc39 hfr39
      have HNB310_go30 := zMk (show gb310 ≠ go30 from by have h_ := Kd.R_ne hraw39 BK310.out (by decide); intro e_; exact h_ (by rw [e_]; rfl))
      have HNB316_go30 := zMk (show gb316 ≠ go30 from by have h_ := Kd.R_ne hraw39 BK316.out (by decide); intro e_; exact h_ (by rw [e_]; rfl))
      have HS39 := HP39.1
      rw [← Ny326.out] at HS39
      have HQ39 := zMk HS39
      obtain ⟨_, hgg39⟩ := Kd.R_typed hraw39 go30 rfl
      have GG39_ := zMk hgg39
      clear HP39 HS39 hgg39
      refine hK.out _ _ ⟨(zKc BK316.out 0).trans rfl, (zKc BK316.out 1).trans rfl, (zKc BK316.out 2).trans rfl, HS3_⟩ (fun hHeld => ?_)
      clear hK K
      refine norm_ (a' := ?_) ?_ ?_
      rotate_left
      · show Act.put _ (some 45) _ = _
        simp only [Act.put, zSa, zSb, zSc, i64_w, i32_w]
        rfl
      refine pure_ (i := 12) (N := some 46) (v := ?_) (a' := ?_) #[true, true, true, true, true, true, true, true, true, true, true, true, true, false] rfl rfl (any_of HT_.out (by kernel_rfl)) (fun _ _ _ h => h) (Or.inl ⟨by rfl, ?_⟩) ?_ ?_
      rotate_left
      · intro w'
        go_simp
        with_reducible rfl
      rotate_left
      · simp only [Act.put, zSa, zSb, zSc, i64_w, i32_w]
        rfl
      refine last_ (i := 13) (N := none) #[true, true, true, true, true, true, true, true, true, true, true, true, true, true] rfl rfl (one_of HT_.out (by kernel_rfl)) (by decide) (fun K hK => ?_)
      refine skip_ (w1 := ?_) (by rfl) rfl ?_ ?_
      rotate_left
      · go_simp
        rfl
      refine hK.out _ _ ?_
      clear hK K
      refine done_ (done_of HT_.out (by kernel_rfl)) ?_
      try go_wp2
      go_roundg k1
      case measure => have := HK1.out; omega
      case rel => exact ⟨(y326), (wrap64 (x17_1 + 1)), (by first | rfl | (simp; done) | (simp [*]; done)), H', ⟨by have := HK1.out; omega⟩, ⟨by (with_reducible repeat (first | apply Kd.S_alloc | apply Kd.S_drewN | apply Kd.S_drew)); exact HQ39.out⟩, ⟨by (with_reducible repeat (first | refine zKn ?_ _ | refine zKd ?_ | refine zKa ?_ _)); refine blk_far ?_ HNB310_go30.out _; (with_reducible repeat (first | refine zKn ?_ _ | refine zKd ?_ | refine zKa ?_ _)); exact BK310.out⟩, ⟨by exact uT HB.out⟩⟩
    · rw [if_neg c13] at H
      have c13b0 : decide (x17_1 < (l0_1.length : Int)) = false := decide_eq_false c13
      clear c13
      have H' := zMk H
      clear H
      obtain ⟨Ao42, co42, eo42⟩ := Kd.S_slice HO_3.out
      subst eo42
      go_wp2
      go_loopg [50] k1 (fun kq v50 w' => ∃ (X : List (List Int)) (x50_2 : Int), v50 = .int .i64 x50_2 ∧ Aside0 (X.length = x3_1.length) ∧ Aside0 (graph_Near.l1 kq X x50_2 = some r) ∧ Aside0 (kq ≤ k1) ∧ Aside0 (Kd.S (Kd.slice 3 (Kd.int .i64)) 33 w' w.heap.size (fun _ => True) (.slice Ao42 x3_1.length co42) X) ∧ Aside0 (Below w.heap.size w w'))
      case atStart => exact ⟨x3_1, 0, (by first | rfl | (simp; done) | (simp [*]; done)), ⟨rfl⟩, H', ⟨Nat.le_refl _⟩, ⟨by (with_reducible repeat (first | apply Kd.S_alloc | apply Kd.S_drewN | apply Kd.S_drew)); exact HO_3.out⟩, ⟨by exact uT HB.out⟩⟩
      clear H' HB HO_3
      obtain ⟨X, x50_2, rfl, HXL, HA, HK2, HO, HB⟩ := hrel
      rcases gk with _ | k2
      · exact absurd HA.out (by simp [graph_Near.l1])
      have H := HA.out
      clear HA
      simp only [graph_Near.l1] at H
      by_cases c43 : x50_2 < (X.length : Int)
      · rw [if_pos c43] at H
        by_cases c44 : 0 ≤ x50_2
        rotate_left
        · rw [if_neg c44] at H; exact absurd H (by simp)
        rw [if_pos c44] at H
        by_cases c45 : (rd_L5 X x50_2).length < 4611686018427387904
        rotate_left
        · rw [if_neg c45] at H; exact absurd H (by simp)
        rw [if_pos c45] at H
        have H' := zMk H
        clear H
        have c43a : x50_2 < (x3_1.length : Int) := by have := HXL.out; omega
        obtain ⟨g_, cap_, hv_, _, _, _⟩ := Kd.S_form HO.out (by have := HXL.out; omega)
        obtain ⟨ad, rfl⟩ : ∃ ad, Ao42 = some ad := by injection hv_ with e1_ _ _; exact ⟨_, e1_⟩
        obtain ⟨oki, c, hcl, hM, hcc, hoki, hset⟩ := Kd.S_borrow HO.out [] x50_2 c44 c43a
        obtain ⟨ve, rfl, ge⟩ := hM
        have hx := hcc 0 _ rfl
        rw [Nat.add_zero, show ((Kd.slice 3 (Kd.int .i64))).sz = 1 from rfl, Nat.mul_one] at hx
        have HS := slices_Sort_int_int.row oki ve _ w.heap.size _ ge c45
        have HSET := zMk @hset
        have GE := zMk ge
        clear hset ge hcc hoki hcl hv_ c45
        have p327 := eq_true c44
        have q327 := eq_true c43a
        have c43b0 : decide (x50_2 < (x3_1.length : Int)) = true := decide_eq_true c43a
        clear c43
        go_wp2_with (go_at_call 46; refine HS.mono ?_; rintro e w47 ⟨rfl, row, hg, hrow, hR⟩; have n1_ := zMk (HSET.out hg (fun k hk => (hrow k hk).1) ⟨ve, rfl, hR⟩); have n2_ := zMk (HB.out.grown hg HB.out.size (fun k hk => (hrow k hk).2)); clear HB HO; have HO := n1_; have HB := n2_; clear n1_ n2_ hg hrow hR)
        go_roundg k2
        case measure => have := HK1.out; have := HK2.out; omega
        case rel => exact ⟨_, (wrap64 (x50_2 + 1)), (by first | rfl | (simp; done) | (simp [*]; done)), ⟨by rw [List.length_set]; exact HXL.out⟩, H', ⟨by have := HK1.out; have := HK2.out; omega⟩, HO, HB⟩
      · rw [if_neg c43] at H
        have c43a : ¬ x50_2 < (x3_1.length : Int) := by have := HXL.out; omega
        have c43b0 : decide (x50_2 < (x3_1.length : Int)) = false := decide_eq_false c43a
        have HX := HXL.out
        obtain rfl := zOi H
        clear HXL c43 H
        have HXL := zMk HX
        clear HX
        go_wp2
        go_ret
        exact ⟨_, rfl, HO.out, HB.out⟩
  · rw [if_neg c3] at H
    have c3b0 : (t311 == 0) = false := beq_eq_false_iff_ne.mpr c3
    have c3b1 : (t311 != 0) = true := bne_iff_ne.mpr c3
    obtain rfl := zOi H
    go_enter Try.func26, Try.ntmps26
    go_wp2_with (first | ((with_reducible refine gate_dst (N := 1) rfl ?_); refine box_event ?hg (N := 1) ?hd (cs := #[.int .i64 a0_0, .slice A0_1 l0_1.length c0_1]) (t := 24) ?hr ?_; (case hd => rfl); (case hg => rfl); (case hr => first | (go_simp; done)|(go_simp; rfl)|(go_simp; rw [show ∀ x : Int, IntKind.u32.wrap (IntKind.u8.wrap x) = x % 256 from fun x => (by show (x % 256) % 4294967296 = x % 256; omega)])); intro gb310 hg w48 hbox hb; have BK310 := zMk (hbox); have GW310 := zMk ((by rw [hg]; exact (zBs (by exact uT HB.out)) : w.heap.size ≤ gb310)); have GE310 := zMk ((by rw [hg]; exact (zBs (by exact uT HB.out)) : w.heap.size ≤ gb310)); have IGE310 := ownGe GE310.out; replace HB := zMk (zBt (by exact uT HB.out) hb); clear hb hbox hg; have hcz49_0 : w48.cell? ⟨gb310, 0, none⟩ = some (.int .i64 a0_0) := (zKc BK310.out 0).trans rfl; have hcz49_1 : w48.cell? ⟨gb310, 1, none⟩ = some (.slice A0_1 l0_1.length c0_1) := (zKc BK310.out 1).trans rfl; have hfz49_0 := zKf BK310.out 0; have hfz49_1 := zKf BK310.out 1)|((with_reducible refine gate_callee (f := 11) rfl ?_); refine goesL_ (some 9) rfl rfl Try.func11 (by kernel_rfl) rfl #[.agg #[.int .i64 a0_0, .slice A0_1 l0_1.length c0_1]] rfl (by (try simp only [zMa, zMc, zMn]); first |  done|  rfl|  (simp only [zLd, zLt]; rfl)) ?_; (with_reducible refine (graph_Right.calls k a0_0 _ _ l0_1 t311 _ ?side1 ?side2 A2.out).mono ?_); (case side1 => repeat (first |  exact (Kd.C_below HR0_1.out HB.out)|(with_reducible refine zCa ?_ _)|(with_reducible refine zCn ?_ _)|(with_reducible refine zCd ?_))); (case side2 => exact HC0_1.out); rintro e w50 ⟨rfl, hb⟩; refine ⟨_, rfl, ?_⟩; replace BK310 := zMk (zKb (g := gb310) (o := .cells #[.int .i64 a0_0, .slice A0_1 l0_1.length c0_1] 24 (0, 0)) (by (with_reducible repeat (first |  refine zKn ?_ _|  refine zKd ?_|  refine zKa ?_ _)); exact BK310.out) hb); replace HB := zMk (zBt (by exact uT HB.out) hb)))
    go_ret
    exact ⟨_, by first | rfl | (simp [errW_none, errW_some] <;> rfl) | (simp [*, errW_none, errW_some] <;> rfl), by first | exact Kd.S_nil _ _ _ _ _ | exact Kd.N_nil _ _ _ _ _ | exact Kd.V_nil _ _ _ _ _ | exact Kd.Q_nil _ _ _ _ _ | exact Kd.R_nil _ _ _ _ _, by exact uT HB.out⟩


def graph_Degrees.l0 : Nat → List Int → List (S36) → Int → Int → Option (List Int)
  | 0, _, _, _, _ => none
  | k + 1, x3, x13, x14, x15 => if x15 < x14 then (if 0 ≤ x15 then (if x15 < (x13.length : Int) then (if 0 ≤ ((rd_T36 x13 x15).f0) then (if ((rd_T36 x13 x15).f0) < (x3.length : Int) then ((some (x3.set (((rd_T36 x13 x15).f0) : Int).toNat (wrap64 ((rd x3 ((rd_T36 x13 x15).f0)) + 1)) : List Int)).bind fun y336 => (if 0 ≤ ((rd_T36 x13 x15).f1) then (if ((rd_T36 x13 x15).f1) < (x3.length : Int) then (graph_Degrees.l0 k (y336.set (((rd_T36 x13 x15).f1) : Int).toNat (wrap64 ((rd y336 ((rd_T36 x13 x15).f1)) + 1))) x13 x14 (wrap64 (x15 + 1))) else (none)) else (none))) else (none)) else (none)) else (none)) else (none)) else (some x3)
def graph_Degrees.f (k : Nat) (a0_0 : Int) (l0_1 : List (S36)) : Option (List Int) := (graph_Right.f k a0_0 l0_1).bind fun t329 => (if t329 = 0 then (if 0 ≤ a0_0 then (if (a0_0 : Int).toNat ≤ 35184372088832 then (graph_Degrees.l0 k (List.replicate (a0_0 : Int).toNat 0) l0_1 (l0_1.length : Int) 0) else (none)) else (none)) else (some ([] : List Int)))
theorem graph_Degrees.calls (k : Nat) (a0_0 : Int) (A0_1 : Option Addr) (c0_1 : Nat) (l0_1 : List (S36)) (r : List Int) (w : World) (hr0_1 : Kd.C k36 w A0_1 l0_1.length l0_1) (hc0_1 : l0_1.length ≤ c0_1) (h : graph_Degrees.f k a0_0 l0_1 = some r) :
    Calls Try.prog 27 #[.agg #[.int .i64 a0_0, .slice A0_1 l0_1.length c0_1]] w fun e w' => ∃ v0_ : Value, e = .returned (v0_) ∧ Kd.R (Kd.int .i64) 3 w' w.heap.size (fun _ => True) v0_ r ∧ Below w.heap.size w w' := by
  have hu24 := Try.underlying24
  have hu36 := Try.underlying36
  have HR0_1 := zMk hr0_1
  have HC0_1 := zMk hc0_1
  clear hr0_1 hc0_1
  have HB := zMk (Below.refl w.heap.size w)
  have H : ((graph_Right.f k a0_0 l0_1).bind fun t329 => (if t329 = 0 then (if 0 ≤ a0_0 then (if (a0_0 : Int).toNat ≤ 35184372088832 then (graph_Degrees.l0 k (List.replicate (a0_0 : Int).toNat 0) l0_1 (l0_1.length : Int) 0) else (none)) else (none)) else (some ([] : List Int)))) = some r := h
  clear h
  replace H := bnd H
  obtain ⟨t329, A20, H⟩ := H
  have A2 := zMk A20
  clear A20
  by_cases c3 : t329 = 0
  · rw [if_pos c3] at H
    have c3b0 : (t329 == 0) = true := beq_iff_eq.mpr c3
    have c3b1 : (t329 != 0) = false := bne_eq_false_iff_eq.mpr c3
    clear c3
    by_cases c4 : 0 ≤ a0_0
    rotate_left
    · rw [if_neg c4] at H; exact absurd H (by simp)
    rw [if_pos c4] at H
    have c4b0 := eq_true c4
    have c4b1 : decide (0 ≤ a0_0) = true := decide_eq_true c4
    clear c4
    by_cases c5 : (a0_0 : Int).toNat ≤ 35184372088832
    rotate_left
    · rw [if_neg c5] at H; exact absurd H (by simp)
    rw [if_pos c5] at H
    have c5b0 := eq_true c5
    have c5b1 : decide ((a0_0 : Int).toNat ≤ 35184372088832) = true := decide_eq_true c5
    clear c5
    obtain ⟨y330, hy330⟩ : ∃ y_ : List Int, y_ = (List.replicate (a0_0 : Int).toNat 0) := ⟨_, rfl⟩
    replace H : (graph_Degrees.l0 k y330 l0_1 (l0_1.length : Int) 0) = some r := by first | (rw [hy330]; with_reducible exact H) | (have H2_ := bsm H; first | (rw [hy330]; with_reducible exact H2_) | with_reducible exact H2_) | with_reducible exact H | (rw [hy330]; exact H) | exact H
    have Ny330 := zMk hy330
    clear hy330
    have H' := zMk H
    clear H
    go_enter Try.func27, Try.ntmps27
    go_wp2_with (first | ((with_reducible refine gate_dst (N := 1) rfl ?_); refine box_event ?hg (N := 1) ?hd (cs := #[.int .i64 a0_0, .slice A0_1 l0_1.length c0_1]) (t := 24) ?hr ?_; (case hd => rfl); (case hg => rfl); (case hr => first | (go_simp; done)|(go_simp; rfl)|(go_simp; rw [show ∀ x : Int, IntKind.u32.wrap (IntKind.u8.wrap x) = x % 256 from fun x => (by show (x % 256) % 4294967296 = x % 256; omega)])); intro gb328 hg w6 hbox hb; have BK328 := zMk (hbox); have GW328 := zMk ((by rw [hg]; exact (zBs (by exact uT HB.out)) : w.heap.size ≤ gb328)); have GE328 := zMk ((by rw [hg]; exact (zBs (by exact uT HB.out)) : w.heap.size ≤ gb328)); have IGE328 := ownGe GE328.out; replace HB := zMk (zBt (by exact uT HB.out) hb); clear hb hbox hg; have hcz7_0 : w6.cell? ⟨gb328, 0, none⟩ = some (.int .i64 a0_0) := (zKc BK328.out 0).trans rfl; have hcz7_1 : w6.cell? ⟨gb328, 1, none⟩ = some (.slice A0_1 l0_1.length c0_1) := (zKc BK328.out 1).trans rfl; have hfz7_0 := zKf BK328.out 0; have hfz7_1 := zKf BK328.out 1)|((with_reducible refine gate_callee (f := 11) rfl ?_); refine goesL_ (some 7) rfl rfl Try.func11 (by kernel_rfl) rfl #[.agg #[.int .i64 a0_0, .slice A0_1 l0_1.length c0_1]] rfl (by (try simp only [zMa, zMc, zMn]); first |  done|  rfl|  (simp only [zLd, zLt]; rfl)) ?_; (with_reducible refine (graph_Right.calls k a0_0 _ _ l0_1 t329 _ ?side1 ?side2 A2.out).mono ?_); (case side1 => repeat (first |  exact (Kd.C_below HR0_1.out HB.out)|(with_reducible refine zCa ?_ _)|(with_reducible refine zCn ?_ _)|(with_reducible refine zCd ?_))); (case side2 => exact HC0_1.out); rintro e w8 ⟨rfl, hb⟩; refine ⟨_, rfl, ?_⟩; replace BK328 := zMk (zKb (g := gb328) (o := .cells #[.int .i64 a0_0, .slice A0_1 l0_1.length c0_1] 24 (0, 0)) (by (with_reducible repeat (first |  refine zKn ?_ _|  refine zKd ?_|  refine zKa ?_ _)); exact BK328.out) hb); replace HB := zMk (zBt (by exact uT HB.out) hb); have hcz9_0 : w8.cell? ⟨gb328, 0, none⟩ = some (.int .i64 a0_0) := (zKc BK328.out 0).trans rfl; have hcz9_1 : w8.cell? ⟨gb328, 1, none⟩ = some (.slice A0_1 l0_1.length c0_1) := (zKc BK328.out 1).trans rfl; have hfz9_0 := zKf BK328.out 0; have hfz9_1 := zKf BK328.out 1)|((with_reducible refine gate_dst (N := 11) rfl ?_); refine Kd.R_make (Kd.int .i64) _ 3 rfl (N := 11) rfl 33 _ _ rfl a0_0 rfl rfl Try.underlying33 (.int .i64 0) 8 info3 rfl (by decide) (by omega) 0 (ok := fun _ => True) (okp := fun _ => True) rfl (fun _ hk => hk) trivial (of_decide_eq_true (by first | (with_reducible assumption)|  assumption)) (Nat.le_trans (Nat.mul_le_mul_right _ (of_decide_eq_true (by first | (with_reducible assumption)|  assumption) : a0_0.toNat ≤ 35184372088832)) (by omega)) (Below.refl _ _) (Nat.le_refl _) ?_; intro v331 w10 ho11 hb hg_ hnew_; clear hg_ hnew_; (first |  rw [← Ny330.out] at ho11|  (simp only [Int.reduceToNat] at ho11; rw [← Ny330.out] at ho11)); have HO332 := zMk (zRl ho11 (zBs (by exact uT HB.out))); replace BK328 := zMk (zKb (g := gb328) (o := .cells #[.int .i64 a0_0, .slice A0_1 l0_1.length c0_1] 24 (0, 0)) (by (with_reducible repeat (first |  refine zKn ?_ _|  refine zKd ?_|  refine zKa ?_ _)); exact BK328.out) hb); replace HB := zMk (zBt (by exact uT HB.out) hb); clear hb ho11; have hcz12_0 : w10.cell? ⟨gb328, 0, none⟩ = some (.int .i64 a0_0) := (zKc BK328.out 0).trans rfl; have hcz12_1 : w10.cell? ⟨gb328, 1, none⟩ = some (.slice A0_1 l0_1.length c0_1) := (zKc BK328.out 1).trans rfl; have hfz12_0 := zKf BK328.out 0; have hfz12_1 := zKf BK328.out 1))
    go_loopg [15] k (fun kq v15 w' => ∃ (x3_1 : List Int) (x15_1 : Int), v15 = .int .i64 x15_1 ∧ Aside0 (graph_Degrees.l0 kq x3_1 l0_1 (l0_1.length : Int) x15_1 = some r) ∧ Aside0 (kq ≤ k) ∧ Aside0 (Kd.R (Kd.int .i64) 3 w' w.heap.size (fun _ => True) v331 x3_1) ∧ Aside0 (w'.heap[gb328]? = some (.cells #[.int .i64 a0_0, (.slice A0_1 l0_1.length c0_1)] 24 (0, 0))) ∧ Aside0 (Below w.heap.size w w'))
    case atStart => exact ⟨(y330), (0), (by first | rfl | (simp; done) | (simp [*]; done)), H', ⟨Nat.le_refl _⟩, ⟨by exact uR HO332.out⟩, ⟨by (with_reducible repeat (first | refine zKn ?_ _ | refine zKd ?_ | refine zKa ?_ _)); exact BK328.out⟩, ⟨by exact uT HB.out⟩⟩
    clear H'
    obtain ⟨x3_1, x15_1, rfl, HA, HK1, HO_3, BK328, HB⟩ := hrel
    rcases gk with _ | k1
    · exact absurd HA.out (by simp [graph_Degrees.l0])
    have H := HA.out
    clear HA
    simp only [graph_Degrees.l0] at H
    by_cases c13 : x15_1 < (l0_1.length : Int)
    · rw [if_pos c13] at H
      have c13b0 : decide (x15_1 < (l0_1.length : Int)) = true := decide_eq_true c13
      clear c13
      by_cases c14 : 0 ≤ x15_1
      rotate_left
      · rw [if_neg c14] at H; exact absurd H (by simp)
      rw [if_pos c14] at H
      have c14b0 : decide (0 ≤ x15_1) = true := decide_eq_true c14
      clear c14
      by_cases c15 : x15_1 < (l0_1.length : Int)
      rotate_left
      · rw [if_neg c15] at H; exact absurd H (by simp)
      rw [if_pos c15] at H
      have c15b0 : decide (x15_1 < (l0_1.length : Int)) = true := decide_eq_true c15
      clear c15
      by_cases c16 : 0 ≤ ((rd_T36 l0_1 x15_1).f0)
      rotate_left
      · rw [if_neg c16] at H; exact absurd H (by simp)
      rw [if_pos c16] at H
      have c16b0 : decide (0 ≤ ((rd_T36 l0_1 x15_1).f0)) = true := decide_eq_true c16
      clear c16
      by_cases c17 : ((rd_T36 l0_1 x15_1).f0) < (x3_1.length : Int)
      rotate_left
      · rw [if_neg c17] at H; exact absurd H (by simp)
      rw [if_pos c17] at H
      have c17b0 : decide (((rd_T36 l0_1 x15_1).f0) < (x3_1.length : Int)) = true := decide_eq_true c17
      clear c17
      obtain ⟨y336, hy336⟩ : ∃ y_ : List Int, y_ = (x3_1.set (((rd_T36 l0_1 x15_1).f0) : Int).toNat (wrap64 ((rd x3_1 ((rd_T36 l0_1 x15_1).f0)) + 1))) := ⟨_, rfl⟩
      replace H : (if 0 ≤ ((rd_T36 l0_1 x15_1).f1) then (if ((rd_T36 l0_1 x15_1).f1) < (x3_1.length : Int) then (graph_Degrees.l0 k1 (y336.set (((rd_T36 l0_1 x15_1).f1) : Int).toNat (wrap64 ((rd y336 ((rd_T36 l0_1 x15_1).f1)) + 1))) l0_1 (l0_1.length : Int) (wrap64 (x15_1 + 1))) else (none)) else (none)) = some r := by first | (rw [hy336]; with_reducible exact H) | (have H2_ := bsm H; first | (rw [hy336]; with_reducible exact H2_) | with_reducible exact H2_) | with_reducible exact H | (rw [hy336]; exact H) | exact H
      have Ny336 := zMk hy336
      clear hy336
      by_cases c19 : 0 ≤ ((rd_T36 l0_1 x15_1).f1)
      rotate_left
      · rw [if_neg c19] at H; exact absurd H (by simp)
      rw [if_pos c19] at H
      have c19b0 : decide (0 ≤ ((rd_T36 l0_1 x15_1).f1)) = true := decide_eq_true c19
      clear c19
      by_cases c20 : ((rd_T36 l0_1 x15_1).f1) < (x3_1.length : Int)
      rotate_left
      · rw [if_neg c20] at H; exact absurd H (by simp)
      rw [if_pos c20] at H
      have c20b0 : decide (((rd_T36 l0_1 x15_1).f1) < (x3_1.length : Int)) = true := decide_eq_true c20
      clear c20
      obtain ⟨y338, hy338⟩ : ∃ y_ : List Int, y_ = (y336.set (((rd_T36 l0_1 x15_1).f1) : Int).toNat (wrap64 ((rd y336 ((rd_T36 l0_1 x15_1).f1)) + 1))) := ⟨_, rfl⟩
      replace H : (graph_Degrees.l0 k1 y338 l0_1 (l0_1.length : Int) (wrap64 (x15_1 + 1))) = some r := by first | (rw [hy338]; with_reducible exact H) | (have H2_ := bsm H; first | (rw [hy338]; with_reducible exact H2_) | with_reducible exact H2_) | with_reducible exact H | (rw [hy338]; exact H) | exact H
      have Ny338 := zMk hy338
      clear hy338
      have H' := zMk H
      clear H
      have p333 : 0 ≤ (x15_1 : Int) := of_decide_eq_true (by assumption)
      have q333 : x15_1 < (l0_1.length : Int) := of_decide_eq_true (by assumption)
      obtain ⟨ad333, e333, hx333_0, hx333_1, hx333_2⟩ := at_T36 HR0_1.out x15_1 p333 q333
      cases e333
      replace hx333_0 := (HB.out.cell (World.block_lt_of_cell? w _ hx333_0)).trans hx333_0
      replace hx333_1 := (HB.out.cell (World.block_lt_of_cell? w _ hx333_1)).trans hx333_1
      replace hx333_2 := (HB.out.cell (World.block_lt_of_cell? w _ hx333_2)).trans hx333_2
      replace p333 := eq_true p333
      replace q333 := eq_true q333
      go_wp2_with (first | ((with_reducible refine gate_dst (N := 5) rfl ?_); refine box_event ?hg (N := 5) ?hd (cs := #[.int .i64 0, .int .i64 0, .int .i64 0]) (t := 36) ?hr ?_; (case hd => rfl); (case hg => rfl); (case hr => first | (go_simp; done)|(go_simp; rfl)|(go_simp; rw [show ∀ x : Int, IntKind.u32.wrap (IntKind.u8.wrap x) = x % 256 from fun x => (by show (x % 256) % 4294967296 = x % 256; omega)])); intro gb334 hg w22 hbox hb; replace HO_3 := zMk (zRb (by exact uR HO_3.out) hb); have BK334 := zMk (hbox); have GW334 := zMk ((by rw [hg]; exact (zBs (by exact uT HB.out)) : w.heap.size ≤ gb334)); have GE334 := zMk ((by rw [hg]; exact (zBs (by exact uT HB.out)) : w.heap.size ≤ gb334)); have IGE334 := ownGe GE334.out; replace HB := zMk (zBt (by exact uT HB.out) hb); have NB328_334 := zMk ((by rw [hg]; exact Nat.ne_of_lt (blk_lt (g := gb328) (o := .cells #[.int .i64 a0_0, .slice (some ad333) l0_1.length c0_1] 24 (0, 0)) (by (with_reducible repeat (first |  refine zKn ?_ _|  refine zKd ?_|  refine zKa ?_ _)); exact BK328.out)) : gb328 ≠ gb334)); have NB334_328 := zMk ((by rw [hg]; exact Nat.ne_of_gt (blk_lt (g := gb328) (o := .cells #[.int .i64 a0_0, .slice (some ad333) l0_1.length c0_1] 24 (0, 0)) (by (with_reducible repeat (first |  refine zKn ?_ _|  refine zKd ?_|  refine zKa ?_ _)); exact BK328.out)) : gb334 ≠ gb328)); replace BK328 := zMk (zKb (g := gb328) (o := .cells #[.int .i64 a0_0, .slice (some ad333) l0_1.length c0_1] 24 (0, 0)) (by (with_reducible repeat (first |  refine zKn ?_ _|  refine zKd ?_|  refine zKa ?_ _)); exact BK328.out) hb); clear hb hbox hg; have hnb23 := NB334_328.out; have hnc23 := NB328_334.out; have hcz24_0 : w22.cell? ⟨gb334, 0, none⟩ = some (.int .i64 0) := (zKc BK334.out 0).trans rfl; have hcz24_1 : w22.cell? ⟨gb334, 1, none⟩ = some (.int .i64 0) := (zKc BK334.out 1).trans rfl; have hcz24_2 : w22.cell? ⟨gb334, 2, none⟩ = some (.int .i64 0) := (zKc BK334.out 2).trans rfl; have hfz24_0 := zKf BK334.out 0; have hfz24_1 := zKf BK334.out 1; have hfz24_2 := zKf BK334.out 2)|((with_reducible refine gate_store (t := 36) (p := 5) rfl ?_); refine store_event (t := 36) (p := 5) (v := ?vo_w25) (w1 := (((w22.setCell ⟨gb334, 0, none⟩ (.int .i64 ((rd_T36 l0_1 x15_1).f0))).setCell ⟨gb334, 1, none⟩ (.int .i64 ((rd_T36 l0_1 x15_1).f1))).setCell ⟨gb334, 2, none⟩ (.int .i64 ((rd_T36 l0_1 x15_1).f2)))) ?hg ?ho ?hn ?hr ?_; (case ho => rfl); (case hg => rfl); (case hn => rfl); (case hr => first | (go_simp; done)|(go_simp; rfl)|(go_simp; rw [show ∀ x : Int, IntKind.u32.wrap (IntKind.u8.wrap x) = x % 256 from fun x => (by show (x % 256) % 4294967296 = x % 256; omega)])); intro w25 hw; have n0_ : Aside0 (Kd.R (Kd.int .i64) 3 w25 w.heap.size (fun _ => True) v331 x3_1) := ⟨(by rw [hw]; exact (by (with_reducible repeat (first |  apply zRa|  apply zRn|  apply zRd)); exact zRm (Kd.R_far (p := ⟨gb334, 2, none⟩) (Kd.R_far (p := ⟨gb334, 1, none⟩) (Kd.R_far (p := ⟨gb334, 0, none⟩) (Kd.R_types HO_3.out BK334.out (by decide)) (fun _ hk => hk.2) (.int .i64 ((rd_T36 l0_1 x15_1).f0))) (fun _ hk => hk.2) (.int .i64 ((rd_T36 l0_1 x15_1).f1))) (fun _ hk => hk.2) (.int .i64 ((rd_T36 l0_1 x15_1).f2))) (fun _ hk => trivial)))⟩; have n1_ : Aside0 (w25.heap[gb328]? = some (.cells #[.int .i64 a0_0, .slice (some ad333) l0_1.length c0_1] 24 (0, 0))) := ⟨(by rw [hw]; exact (by (with_reducible repeat (first |  refine zKn ?_ _|  refine zKd ?_|  refine zKa ?_ _)); refine blk_far ?_ NB328_334.out _; (with_reducible repeat (first |  refine zKn ?_ _|  refine zKd ?_|  refine zKa ?_ _)); refine blk_far ?_ NB328_334.out _; (with_reducible repeat (first |  refine zKn ?_ _|  refine zKd ?_|  refine zKa ?_ _)); refine blk_far ?_ NB328_334.out _; (with_reducible repeat (first |  refine zKn ?_ _|  refine zKd ?_|  refine zKa ?_ _)); exact BK328.out))⟩; have n2_ : Aside0 (w25.heap[gb334]? = some (.cells #[.int .i64 ((rd_T36 l0_1 x15_1).f0), .int .i64 ((rd_T36 l0_1 x15_1).f1), .int .i64 ((rd_T36 l0_1 x15_1).f2)] 36 (0, 0))) := ⟨(by rw [hw]; exact (by (with_reducible repeat (first |  refine zKn ?_ _|  refine zKd ?_|  refine zKa ?_ _)); refine blk_put (cs := #[.int .i64 ((rd_T36 l0_1 x15_1).f0), .int .i64 ((rd_T36 l0_1 x15_1).f1), .int .i64 0]) ?_ 2 _ rfl; (with_reducible repeat (first |  refine zKn ?_ _|  refine zKd ?_|  refine zKa ?_ _)); refine blk_put (cs := #[.int .i64 ((rd_T36 l0_1 x15_1).f0), .int .i64 0, .int .i64 0]) ?_ 1 _ rfl; (with_reducible repeat (first |  refine zKn ?_ _|  refine zKd ?_|  refine zKa ?_ _)); refine blk_put (cs := #[.int .i64 0, .int .i64 0, .int .i64 0]) ?_ 0 _ rfl; (with_reducible repeat (first |  refine zKn ?_ _|  refine zKd ?_|  refine zKa ?_ _)); exact BK334.out))⟩; have n3_ : Aside0 (Below w.heap.size w w25) := ⟨(by rw [hw]; exact (by exact uT HB.out))⟩; clear hw HO_3 BK328 BK334 HB; have HO_3 := n0_; have BK328 := n1_; have BK334 := n2_; have HB := n3_; clear n0_ n1_ n2_ n3_; have hcz26_0 : w25.cell? ⟨gb334, 0, none⟩ = some (.int .i64 ((rd_T36 l0_1 x15_1).f0)) := (zKc BK334.out 0).trans rfl; have hcz26_1 : w25.cell? ⟨gb334, 1, none⟩ = some (.int .i64 ((rd_T36 l0_1 x15_1).f1)) := (zKc BK334.out 1).trans rfl; have hcz26_2 : w25.cell? ⟨gb334, 2, none⟩ = some (.int .i64 ((rd_T36 l0_1 x15_1).f2)) := (zKc BK334.out 2).trans rfl; have hfz26_0 := zKf BK334.out 0; have hfz26_1 := zKf BK334.out 1; have hfz26_2 := zKf BK334.out 2; obtain ⟨Ao27, co27, eo27⟩ := zRs HO_3.out; subst eo27; have p335 : 0 ≤ (((rd_T36 l0_1 x15_1).f0) : Int) := of_decide_eq_true (by first | (with_reducible assumption)|  assumption); have q335 : ((rd_T36 l0_1 x15_1).f0) < (x3_1.length : Int) := of_decide_eq_true (by first | (with_reducible assumption)|  assumption); obtain ⟨ad335, e335, hx335_0⟩ := zAi (zRr HO_3.out).2.2 ((rd_T36 l0_1 x15_1).f0) p335 q335; cases e335; replace p335 := eq_true p335; replace q335 := eq_true q335; have p18 : 0 ≤ (((rd_T36 l0_1 x15_1).f0) : Int) := of_decide_eq_true (by first | (with_reducible assumption)|  assumption); have q18 : (((rd_T36 l0_1 x15_1).f0) : Int) < ((x3_1.length : Int) : Int) := of_decide_eq_true (by first | (with_reducible assumption)|  assumption); obtain ⟨go18, co18, eo18, gb18, gl18, cl18, HG18⟩ := Kd.R_form HO_3.out (by omega); (first |  cases eo18|  (injection eo18 with ea_ en_ ec_; (first |  subst ea_|  (injection ea_ with ea_; subst ea_)); subst ec_; clear en_)); have GB18 := zMk gb18; have IGB18 := ownGe GB18.out; have GG18 := zMk HG18; clear gb18 gl18 HG18; (first |  simp only [add_plain] at hx335_0|  skip); obtain ⟨hx18_0, hf18_0⟩ := Kd.R_celln 0 HO_3.out (((rd_T36 l0_1 x15_1).f0) : Int) p18 q18; replace p18 := eq_true p18; replace q18 := eq_true q18; obtain ⟨hy28_, hz28_⟩ := Kd.R_celln 0 HO_3.out (((rd_T36 l0_1 x15_1).f0) : Int) (of_decide_eq_true (by first | (with_reducible assumption)|  assumption)) (of_decide_eq_true (by first | (with_reducible assumption)|  assumption)); have HP28 := Kd.R_putg HO_3.out (((rd_T36 l0_1 x15_1).f0) : Int) (wrap64 ((rd x3_1 ((rd_T36 l0_1 x15_1).f0)) + 1)))|((with_reducible refine gate_store (t := 3) (p := 25) rfl ?_); refine store_event (t := 3) (p := 25) (v := ?vo_w29) (w1 := (w25.setCell ⟨go18, (((rd_T36 l0_1 x15_1).f0) : Int).toNat, none⟩ (.int .i64 (wrap64 ((rd x3_1 ((rd_T36 l0_1 x15_1).f0)) + 1))))) ?hg ?ho ?hn ?hr ?_; (case ho => rfl); (case hg => rfl); (case hn => rfl); (case hr => first | (go_simp; done)|(go_simp; rfl)|(go_simp; rw [show ∀ x : Int, IntKind.u32.wrap (IntKind.u8.wrap x) = x % 256 from fun x => (by show (x % 256) % 4294967296 = x % 256; omega)])); intro w29 hw; have hg : w25.grownBy w29 (some go18) := (by rw [hw]; exact HP28.2); have hp_ : Kd.R (Kd.int .i64) 3 w29 w.heap.size (fun _ => True) (.slice (some ⟨go18, 0, none⟩) x3_1.length co27) y336 := (by rw [hw, Ny336.out]; exact HP28.1); clear HP28; replace BK328 := zMk (blk_grown (g := gb328) (o := .cells #[.int .i64 a0_0, .slice (some ad333) l0_1.length c0_1] 24 (0, 0)) (by (with_reducible repeat (first |  refine zKn ?_ _|  refine zKd ?_|  refine zKa ?_ _)); exact BK328.out) hg (Kd.R_ne HO_3.out BK328.out (by decide))); replace BK334 := zMk (blk_grown (g := gb334) (o := .cells #[.int .i64 ((rd_T36 l0_1 x15_1).f0), .int .i64 ((rd_T36 l0_1 x15_1).f1), .int .i64 ((rd_T36 l0_1 x15_1).f2)] 36 (0, 0)) (by (with_reducible repeat (first |  refine zKn ?_ _|  refine zKd ?_|  refine zKa ?_ _)); exact BK334.out) hg (Kd.R_ne HO_3.out BK334.out (by decide))); replace HO_3 := zMk (hp_); replace HB := zMk ((by rw [hw]; exact below_set (HB.out) GB18.out : Below w.heap.size w w29)); clear hg hw hp_; have hcz30_0 : w29.cell? ⟨gb334, 0, none⟩ = some (.int .i64 ((rd_T36 l0_1 x15_1).f0)) := (zKc BK334.out 0).trans rfl; have hcz30_1 : w29.cell? ⟨gb334, 1, none⟩ = some (.int .i64 ((rd_T36 l0_1 x15_1).f1)) := (zKc BK334.out 1).trans rfl; have hcz30_2 : w29.cell? ⟨gb334, 2, none⟩ = some (.int .i64 ((rd_T36 l0_1 x15_1).f2)) := (zKc BK334.out 2).trans rfl; have hfz30_0 := zKf BK334.out 0; have hfz30_1 := zKf BK334.out 1; have hfz30_2 := zKf BK334.out 2; have p337 : 0 ≤ (((rd_T36 l0_1 x15_1).f1) : Int) := of_decide_eq_true (by first | (with_reducible assumption)|  assumption); have q337 : ((rd_T36 l0_1 x15_1).f1) < (y336.length : Int) := (by have h_ : (((rd_T36 l0_1 x15_1).f1) : Int) < ((x3_1.length : Int) : Int) := of_decide_eq_true (by first | (with_reducible assumption)|  assumption); first | (have e_ := (zRr HO_3.out).1; omega)|  simpa only [Ny336.out, List.length_set] using h_); have ql337 : ((((rd_T36 l0_1 x15_1).f1) : Int) < ((x3_1.length : Int) : Int)) = True := eq_true (of_decide_eq_true (by first | (with_reducible assumption)|  assumption)); obtain ⟨ad337, e337, hx337_0⟩ := zAi (zRr HO_3.out).2.2 ((rd_T36 l0_1 x15_1).f1) p337 q337; obtain rfl : (⟨go18, 0, none⟩ : Addr) = ad337 := (by injection e337); (first |  simp only [add_plain] at hx337_0|  simp only [add_at] at hx337_0|  simp only [Addr.add, Nat.zero_add] at hx337_0|  skip); replace p337 := eq_true p337; replace q337 := eq_true q337; have p21 : 0 ≤ (((rd_T36 l0_1 x15_1).f1) : Int) := of_decide_eq_true (by first | (with_reducible assumption)|  assumption); have q21 : (((rd_T36 l0_1 x15_1).f1) : Int) < ((x3_1.length : Int) : Int) := of_decide_eq_true (by first | (with_reducible assumption)|  assumption); obtain ⟨hx21_0, hf21_0⟩ := Kd.R_celln 0 HO_3.out (((rd_T36 l0_1 x15_1).f1) : Int) p21 q21; replace p21 := eq_true p21; replace q21 := eq_true q21; obtain ⟨hy31_, hz31_⟩ := Kd.R_celln 0 HO_3.out (((rd_T36 l0_1 x15_1).f1) : Int) (of_decide_eq_true (by first | (with_reducible assumption)|  assumption)) (of_decide_eq_true (by first | (with_reducible assumption)|  assumption)); have HP31 := Kd.R_putg HO_3.out (((rd_T36 l0_1 x15_1).f1) : Int) (wrap64 ((rd y336 ((rd_T36 l0_1 x15_1).f1)) + 1)))|((with_reducible refine gate_store (t := 3) (p := 32) rfl ?_); refine store_event (t := 3) (p := 32) (v := ?vo_w32) (w1 := (w29.setCell ⟨go18, (((rd_T36 l0_1 x15_1).f1) : Int).toNat, none⟩ (.int .i64 (wrap64 ((rd y336 ((rd_T36 l0_1 x15_1).f1)) + 1))))) ?hg ?ho ?hn ?hr ?_; (case ho => rfl); (case hg => rfl); (case hn => rfl); (case hr => first | (go_simp; done)|(go_simp; rfl)|(go_simp; rw [show ∀ x : Int, IntKind.u32.wrap (IntKind.u8.wrap x) = x % 256 from fun x => (by show (x % 256) % 4294967296 = x % 256; omega)])); intro w32 hw; have hg : w29.grownBy w32 (some go18) := (by rw [hw]; exact HP31.2); have hp_ : Kd.R (Kd.int .i64) 3 w32 w.heap.size (fun _ => True) (.slice (some ⟨go18, 0, none⟩) x3_1.length co27) y338 := (by rw [hw, Ny338.out]; exact HP31.1); clear HP31; replace BK328 := zMk (blk_grown (g := gb328) (o := .cells #[.int .i64 a0_0, .slice (some ad333) l0_1.length c0_1] 24 (0, 0)) (by (with_reducible repeat (first |  refine zKn ?_ _|  refine zKd ?_|  refine zKa ?_ _)); exact BK328.out) hg (Kd.R_ne HO_3.out BK328.out (by decide))); replace BK334 := zMk (blk_grown (g := gb334) (o := .cells #[.int .i64 ((rd_T36 l0_1 x15_1).f0), .int .i64 ((rd_T36 l0_1 x15_1).f1), .int .i64 ((rd_T36 l0_1 x15_1).f2)] 36 (0, 0)) (by (with_reducible repeat (first |  refine zKn ?_ _|  refine zKd ?_|  refine zKa ?_ _)); exact BK334.out) hg (Kd.R_ne HO_3.out BK334.out (by decide))); replace HO_3 := zMk (hp_); replace HB := zMk ((by rw [hw]; exact below_set (HB.out) GB18.out : Below w.heap.size w w32)); clear hg hw hp_))
      go_roundg k1
      case measure => have := HK1.out; omega
      case rel => exact ⟨(y338), (wrap64 (x15_1 + 1)), (by first | rfl | (simp; done) | (simp [*]; done)), H', ⟨by have := HK1.out; omega⟩, ⟨by exact uR HO_3.out⟩, ⟨by (with_reducible repeat (first | refine zKn ?_ _ | refine zKd ?_ | refine zKa ?_ _)); exact BK328.out⟩, ⟨by exact uT HB.out⟩⟩
    · rw [if_neg c13] at H
      have c13b0 : decide (x15_1 < (l0_1.length : Int)) = false := decide_eq_false c13
      clear c13
      obtain rfl := zOi H
      go_wp2
      go_ret
      exact ⟨_, by first | rfl | (simp [errW_none, errW_some] <;> rfl) | (simp [*, errW_none, errW_some] <;> rfl), by exact uR HO_3.out, by exact uT HB.out⟩
  · rw [if_neg c3] at H
    have c3b0 : (t329 == 0) = false := beq_eq_false_iff_ne.mpr c3
    have c3b1 : (t329 != 0) = true := bne_iff_ne.mpr c3
    obtain rfl := zOi H
    go_enter Try.func27, Try.ntmps27
    go_wp2_with (first | ((with_reducible refine gate_dst (N := 1) rfl ?_); refine box_event ?hg (N := 1) ?hd (cs := #[.int .i64 a0_0, .slice A0_1 l0_1.length c0_1]) (t := 24) ?hr ?_; (case hd => rfl); (case hg => rfl); (case hr => first | (go_simp; done)|(go_simp; rfl)|(go_simp; rw [show ∀ x : Int, IntKind.u32.wrap (IntKind.u8.wrap x) = x % 256 from fun x => (by show (x % 256) % 4294967296 = x % 256; omega)])); intro gb328 hg w33 hbox hb; have BK328 := zMk (hbox); have GW328 := zMk ((by rw [hg]; exact (zBs (by exact uT HB.out)) : w.heap.size ≤ gb328)); have GE328 := zMk ((by rw [hg]; exact (zBs (by exact uT HB.out)) : w.heap.size ≤ gb328)); have IGE328 := ownGe GE328.out; replace HB := zMk (zBt (by exact uT HB.out) hb); clear hb hbox hg; have hcz34_0 : w33.cell? ⟨gb328, 0, none⟩ = some (.int .i64 a0_0) := (zKc BK328.out 0).trans rfl; have hcz34_1 : w33.cell? ⟨gb328, 1, none⟩ = some (.slice A0_1 l0_1.length c0_1) := (zKc BK328.out 1).trans rfl; have hfz34_0 := zKf BK328.out 0; have hfz34_1 := zKf BK328.out 1)|((with_reducible refine gate_callee (f := 11) rfl ?_); refine goesL_ (some 7) rfl rfl Try.func11 (by kernel_rfl) rfl #[.agg #[.int .i64 a0_0, .slice A0_1 l0_1.length c0_1]] rfl (by (try simp only [zMa, zMc, zMn]); first |  done|  rfl|  (simp only [zLd, zLt]; rfl)) ?_; (with_reducible refine (graph_Right.calls k a0_0 _ _ l0_1 t329 _ ?side1 ?side2 A2.out).mono ?_); (case side1 => repeat (first |  exact (Kd.C_below HR0_1.out HB.out)|(with_reducible refine zCa ?_ _)|(with_reducible refine zCn ?_ _)|(with_reducible refine zCd ?_))); (case side2 => exact HC0_1.out); rintro e w35 ⟨rfl, hb⟩; refine ⟨_, rfl, ?_⟩; replace BK328 := zMk (zKb (g := gb328) (o := .cells #[.int .i64 a0_0, .slice A0_1 l0_1.length c0_1] 24 (0, 0)) (by (with_reducible repeat (first |  refine zKn ?_ _|  refine zKd ?_|  refine zKa ?_ _)); exact BK328.out) hb); replace HB := zMk (zBt (by exact uT HB.out) hb)))
    go_ret
    exact ⟨_, by first | rfl | (simp [errW_none, errW_some] <;> rfl) | (simp [*, errW_none, errW_some] <;> rfl), by first | exact Kd.R_nil _ _ _ _ _ | exact Kd.N_nil _ _ _ _ _ | exact Kd.V_nil _ _ _ _ _ | exact Kd.Q_nil _ _ _ _ _ | exact Kd.S_nil _ _ _ _ _, by exact uT HB.out⟩

def rows (N : Nat) (f : Int → List Int) : List (List Int) := (List.range N).map fun v => f (v : Nat)

def graph_some.l0 (pf : Int → Int → Int → Int → Option Bool) : Nat → List (S36) → Int → Int → Int → List (S36) → Option (Int × (List (S36)))
  | 0, _, _, _, _, _ => none
  | k + 1, x16, x17, x18, x442000, x442001 => if x18 < x17 then (if 0 ≤ x18 then (if x18 < (x16.length : Int) then ((pf x18 ((rd_T36 x16 x18).f0) ((rd_T36 x16 x18).f1) ((rd_T36 x16 x18).f2)).bind fun t444 => (if t444 = true then (if x442001.length < 5864062014805 then (graph_some.l0 pf k x16 x17 (wrap64 (x18 + 1)) x442000 (x442001 ++ [(⟨(rd_T36 x16 x18).f0, (rd_T36 x16 x18).f1, (rd_T36 x16 x18).f2⟩ : S36)])) else (none)) else (graph_some.l0 pf k x16 x17 (wrap64 (x18 + 1)) x442000 x442001))) else (none)) else (none)) else (some (x442000, x442001))
def graph_some.f (pf : Int → Int → Int → Int → Option Bool) (k : Nat) (a0_0 : Int) (l0_1 : List (S36)) : Option (Int × (List (S36))) := (graph_Right.f k a0_0 l0_1).bind fun t440 => (if t440 = 0 then (graph_some.l0 pf k l0_1 (l0_1.length : Int) 0 a0_0 ([] : List (S36))) else (some (0, ([] : List (S36)))))
theorem graph_some.calls (pf : Int → Int → Int → Int → Option Bool) (hh_ : Nat) (k : Nat) (a0_0 : Int) (A0_1 : Option Addr) (c0_1 : Nat) (l0_1 : List (S36)) (r1 : Int) (r2 : List (S36)) (w : World) (hr0_1 : Kd.C k36 w A0_1 l0_1.length l0_1) (hc0_1 : l0_1.length ≤ c0_1) (hf_ : ∀ (i u v q : Int) (b : Bool) (W : World), Below w.heap.size w W → pf i u v q = some b → Calls Try.prog 43 #[.int .i64 i, .agg #[.int .i64 u, .int .i64 v, .int .i64 q], .pointer (some ⟨hh_, 0, none⟩)] W fun e w' => e = .returned (.bool b) ∧ Below W.heap.size W w') (h : graph_some.f pf k a0_0 l0_1 = some (r1, r2)) :
    Calls Try.prog 42 #[.agg #[.int .i64 a0_0, .slice A0_1 l0_1.length c0_1], .func (.func 43) #[] #[.pointer (some ⟨hh_, 0, none⟩)]] w fun e w' => ∃ v1_ : Value, e = .returned (.agg #[.int .i64 r1, v1_]) ∧ Kd.R k36 36 w' w.heap.size (fun _ => True) v1_ r2 ∧ Below w.heap.size w w' := by
  have hu24 := Try.underlying24
  have hu36 := Try.underlying36
  have HR0_1 := zMk hr0_1
  have HC0_1 := zMk hc0_1
  clear hr0_1 hc0_1
  have HB := zMk (Below.refl w.heap.size w)
  have HF := zMk hf_
  clear hf_
  have H : ((graph_Right.f k a0_0 l0_1).bind fun t440 => (if t440 = 0 then (graph_some.l0 pf k l0_1 (l0_1.length : Int) 0 a0_0 ([] : List (S36))) else (some (0, ([] : List (S36)))))) = some (r1, r2) := h
  clear h
  replace H := bnd H
  obtain ⟨t440, A20, H⟩ := H
  have A2 := zMk A20
  clear A20
  by_cases c3 : t440 = 0
  · rw [if_pos c3] at H
    have c3b0 : (t440 == 0) = true := beq_iff_eq.mpr c3
    have c3b1 : (t440 != 0) = false := bne_eq_false_iff_eq.mpr c3
    clear c3
    have H' := zMk H
    clear H
    go_enter Try.func42, Try.ntmps42
    go_wp2_with (first | ((with_reducible refine gate_dst (N := 2) rfl ?_); refine box_event ?hg (N := 2) ?hd (cs := #[.int .i64 a0_0, .slice A0_1 l0_1.length c0_1]) (t := 24) ?hr ?_; (case hd => rfl); (case hg => rfl); (case hr => first | (go_simp; done)|(go_simp; rfl)|(go_simp; rw [show ∀ x : Int, IntKind.u32.wrap (IntKind.u8.wrap x) = x % 256 from fun x => (by show (x % 256) % 4294967296 = x % 256; omega)])); intro gb438 hg w4 hbox hb; have BK438 := zMk (hbox); have GW438 := zMk ((by rw [hg]; exact (zBs (by exact uT HB.out)) : w.heap.size ≤ gb438)); have GE438 := zMk ((by rw [hg]; exact (zBs (by exact uT HB.out)) : w.heap.size ≤ gb438)); have IGE438 := ownGe GE438.out; replace HB := zMk (zBt (by exact uT HB.out) hb); clear hb hbox hg)|((with_reducible refine gate_dst (N := 4) rfl ?_); refine box_event ?hg (N := 4) ?hd (cs := #[.int .i64 0, .slice none 0 0]) (t := 24) ?hr ?_; (case hd => rfl); (case hg => rfl); (case hr => first | (go_simp; done)|(go_simp; rfl)|(go_simp; rw [show ∀ x : Int, IntKind.u32.wrap (IntKind.u8.wrap x) = x % 256 from fun x => (by show (x % 256) % 4294967296 = x % 256; omega)])); intro gb439 hg w5 hbox hb; have BK439 := zMk (hbox); have GW439 := zMk ((by rw [hg]; exact (zBs (by exact uT HB.out)) : w.heap.size ≤ gb439)); have GE439 := zMk ((by rw [hg]; exact (zBs (by exact uT HB.out)) : w.heap.size ≤ gb439)); have IGE439 := ownGe GE439.out; replace HB := zMk (zBt (by exact uT HB.out) hb); have NB438_439 := zMk ((by rw [hg]; exact Nat.ne_of_lt (blk_lt (g := gb438) (o := .cells #[.int .i64 a0_0, .slice A0_1 l0_1.length c0_1] 24 (0, 0)) (by (with_reducible repeat (first |  refine zKn ?_ _|  refine zKd ?_|  refine zKa ?_ _)); exact BK438.out)) : gb438 ≠ gb439)); have NB439_438 := zMk ((by rw [hg]; exact Nat.ne_of_gt (blk_lt (g := gb438) (o := .cells #[.int .i64 a0_0, .slice A0_1 l0_1.length c0_1] 24 (0, 0)) (by (with_reducible repeat (first |  refine zKn ?_ _|  refine zKd ?_|  refine zKa ?_ _)); exact BK438.out)) : gb439 ≠ gb438)); replace BK438 := zMk (zKb (g := gb438) (o := .cells #[.int .i64 a0_0, .slice A0_1 l0_1.length c0_1] 24 (0, 0)) (by (with_reducible repeat (first |  refine zKn ?_ _|  refine zKd ?_|  refine zKa ?_ _)); exact BK438.out) hb); clear hb hbox hg; have hnb6 := NB438_439.out; have hnc6 := NB439_438.out; have hcz7_0 : w5.cell? ⟨gb438, 0, none⟩ = some (.int .i64 a0_0) := (zKc BK438.out 0).trans rfl; have hcz7_1 : w5.cell? ⟨gb438, 1, none⟩ = some (.slice A0_1 l0_1.length c0_1) := (zKc BK438.out 1).trans rfl; have hfz7_0 := zKf BK438.out 0; have hfz7_1 := zKf BK438.out 1)|((with_reducible refine gate_callee (f := 11) rfl ?_); refine goesL_ (some 9) rfl rfl Try.func11 (by kernel_rfl) rfl #[.agg #[.int .i64 a0_0, .slice A0_1 l0_1.length c0_1]] rfl (by (try simp only [zMa, zMc, zMn]); first |  done|  rfl|  (simp only [zLd, zLt]; rfl)) ?_; (with_reducible refine (graph_Right.calls k a0_0 _ _ l0_1 t440 _ ?side1 ?side2 A2.out).mono ?_); (case side1 => repeat (first |  exact (Kd.C_below HR0_1.out HB.out)|(with_reducible refine zCa ?_ _)|(with_reducible refine zCn ?_ _)|(with_reducible refine zCd ?_))); (case side2 => exact HC0_1.out); rintro e w8 ⟨rfl, hb⟩; refine ⟨_, rfl, ?_⟩; replace BK438 := zMk (zKb (g := gb438) (o := .cells #[.int .i64 a0_0, .slice A0_1 l0_1.length c0_1] 24 (0, 0)) (by (with_reducible repeat (first |  refine zKn ?_ _|  refine zKd ?_|  refine zKa ?_ _)); exact BK438.out) hb); replace BK439 := zMk (zKb (g := gb439) (o := .cells #[.int .i64 0, .slice none 0 0] 24 (0, 0)) (by (with_reducible repeat (first |  refine zKn ?_ _|  refine zKd ?_|  refine zKa ?_ _)); exact BK439.out) hb); replace HB := zMk (zBt (by exact uT HB.out) hb); have hcz9_0 : w8.cell? ⟨gb438, 0, none⟩ = some (.int .i64 a0_0) := (zKc BK438.out 0).trans rfl; have hcz9_1 : w8.cell? ⟨gb438, 1, none⟩ = some (.slice A0_1 l0_1.length c0_1) := (zKc BK438.out 1).trans rfl; have hfz9_0 := zKf BK438.out 0; have hfz9_1 := zKf BK438.out 1)|((with_reducible refine gate_dst (N := 5) rfl ?_); refine box_event ?hg (N := 5) ?hd (cs := #[.int .i64 0, .slice none 0 0]) (t := 24) ?hr ?_; (case hd => rfl); (case hg => rfl); (case hr => first | (go_simp; done)|(go_simp; rfl)|(go_simp; rw [show ∀ x : Int, IntKind.u32.wrap (IntKind.u8.wrap x) = x % 256 from fun x => (by show (x % 256) % 4294967296 = x % 256; omega)])); intro gb441 hg w10 hbox hb; have BK441 := zMk (hbox); have GW441 := zMk ((by rw [hg]; exact (zBs (by exact uT HB.out)) : w.heap.size ≤ gb441)); have GE441 := zMk ((by rw [hg]; exact (zBs (by exact uT HB.out)) : w.heap.size ≤ gb441)); have IGE441 := ownGe GE441.out; replace HB := zMk (zBt (by exact uT HB.out) hb); have NB438_441 := zMk ((by rw [hg]; exact Nat.ne_of_lt (blk_lt (g := gb438) (o := .cells #[.int .i64 a0_0, .slice A0_1 l0_1.length c0_1] 24 (0, 0)) (by (with_reducible repeat (first |  refine zKn ?_ _|  refine zKd ?_|  refine zKa ?_ _)); exact BK438.out)) : gb438 ≠ gb441)); have NB441_438 := zMk ((by rw [hg]; exact Nat.ne_of_gt (blk_lt (g := gb438) (o := .cells #[.int .i64 a0_0, .slice A0_1 l0_1.length c0_1] 24 (0, 0)) (by (with_reducible repeat (first |  refine zKn ?_ _|  refine zKd ?_|  refine zKa ?_ _)); exact BK438.out)) : gb441 ≠ gb438)); replace BK438 := zMk (zKb (g := gb438) (o := .cells #[.int .i64 a0_0, .slice A0_1 l0_1.length c0_1] 24 (0, 0)) (by (with_reducible repeat (first |  refine zKn ?_ _|  refine zKd ?_|  refine zKa ?_ _)); exact BK438.out) hb); have NB439_441 := zMk ((by rw [hg]; exact Nat.ne_of_lt (blk_lt (g := gb439) (o := .cells #[.int .i64 0, .slice none 0 0] 24 (0, 0)) (by (with_reducible repeat (first |  refine zKn ?_ _|  refine zKd ?_|  refine zKa ?_ _)); exact BK439.out)) : gb439 ≠ gb441)); have NB441_439 := zMk ((by rw [hg]; exact Nat.ne_of_gt (blk_lt (g := gb439) (o := .cells #[.int .i64 0, .slice none 0 0] 24 (0, 0)) (by (with_reducible repeat (first |  refine zKn ?_ _|  refine zKd ?_|  refine zKa ?_ _)); exact BK439.out)) : gb441 ≠ gb439)); replace BK439 := zMk (zKb (g := gb439) (o := .cells #[.int .i64 0, .slice none 0 0] 24 (0, 0)) (by (with_reducible repeat (first |  refine zKn ?_ _|  refine zKd ?_|  refine zKa ?_ _)); exact BK439.out) hb); clear hb hbox hg; have hnb11 := NB441_438.out; have hnc11 := NB438_441.out; have hnb12 := NB441_439.out; have hnc12 := NB439_441.out; have hcz13_0 : w10.cell? ⟨gb441, 0, none⟩ = some (.int .i64 0) := (zKc BK441.out 0).trans rfl; have hcz13_1 : w10.cell? ⟨gb441, 1, none⟩ = some (.slice none 0 0) := (zKc BK441.out 1).trans rfl; have hfz13_0 := zKf BK441.out 0; have hfz13_1 := zKf BK441.out 1; have hcz14_0 : w10.cell? ⟨gb438, 0, none⟩ = some (.int .i64 a0_0) := (zKc BK438.out 0).trans rfl; have hcz14_1 : w10.cell? ⟨gb438, 1, none⟩ = some (.slice A0_1 l0_1.length c0_1) := (zKc BK438.out 1).trans rfl; have hfz14_0 := zKf BK438.out 0; have hfz14_1 := zKf BK438.out 1))
    go_loopg [18] k (fun kq v18 w' => ∃ (x18_1 : Int) (x442001_1 : List (S36)) (u442001 : Value), v18 = .int .i64 x18_1 ∧ Aside0 (graph_some.l0 pf kq l0_1 (l0_1.length : Int) x18_1 a0_0 x442001_1 = some (r1, r2)) ∧ Aside0 (kq ≤ k) ∧ Aside0 (Kd.R k36 36 w' w.heap.size (fun _ => True) u442001 x442001_1) ∧ Aside0 (w'.heap[gb438]? = some (.cells #[.int .i64 a0_0, (.slice A0_1 l0_1.length c0_1)] 24 (0, 0))) ∧ Aside0 (w'.heap[gb439]? = some (.cells #[.int .i64 0, (.slice none 0 0)] 24 (0, 0))) ∧ Aside0 (w'.heap[gb441]? = some (.cells #[.int .i64 a0_0, u442001] 24 (0, 0))) ∧ Aside0 (Below w.heap.size w w'))
    case atStart => exact ⟨(0), (([] : List (S36))), (.slice none 0 0), (by first | rfl | (simp; done) | (simp [*]; done)), H', ⟨Nat.le_refl _⟩, ⟨by first | exact Kd.R_nil _ _ _ _ _ | exact Kd.N_nil _ _ _ _ _ | exact Kd.V_nil _ _ _ _ _ | exact Kd.Q_nil _ _ _ _ _ | exact Kd.S_nil _ _ _ _ _⟩, ⟨by (with_reducible repeat (first | refine zKn ?_ _ | refine zKd ?_ | refine zKa ?_ _)); refine blk_far ?_ NB438_441.out _; (with_reducible repeat (first | refine zKn ?_ _ | refine zKd ?_ | refine zKa ?_ _)); refine blk_far ?_ NB438_441.out _; (with_reducible repeat (first | refine zKn ?_ _ | refine zKd ?_ | refine zKa ?_ _)); exact BK438.out⟩, ⟨by (with_reducible repeat (first | refine zKn ?_ _ | refine zKd ?_ | refine zKa ?_ _)); refine blk_far ?_ NB439_441.out _; (with_reducible repeat (first | refine zKn ?_ _ | refine zKd ?_ | refine zKa ?_ _)); refine blk_far ?_ NB439_441.out _; (with_reducible repeat (first | refine zKn ?_ _ | refine zKd ?_ | refine zKa ?_ _)); exact BK439.out⟩, ⟨by (with_reducible repeat (first | refine zKn ?_ _ | refine zKd ?_ | refine zKa ?_ _)); refine blk_put (cs := #[.int .i64 a0_0, .slice none 0 0]) ?_ 1 _ rfl; (with_reducible repeat (first | refine zKn ?_ _ | refine zKd ?_ | refine zKa ?_ _)); refine blk_put (cs := #[.int .i64 0, .slice none 0 0]) ?_ 0 _ rfl; (with_reducible repeat (first | refine zKn ?_ _ | refine zKd ?_ | refine zKa ?_ _)); exact BK441.out⟩, ⟨by exact uT HB.out⟩⟩
    clear H'
    obtain ⟨x18_1, x442001_1, u442001, rfl, HA, HK1, HO_442001, BK438, BK439, BK441, HB⟩ := hrel
    rcases gk with _ | k1
    · exact absurd HA.out (by simp [graph_some.l0])
    have H := HA.out
    clear HA
    simp only [graph_some.l0] at H
    by_cases c15 : x18_1 < (l0_1.length : Int)
    · rw [if_pos c15] at H
      have c15b0 : decide (x18_1 < (l0_1.length : Int)) = true := decide_eq_true c15
      clear c15
      by_cases c16 : 0 ≤ x18_1
      rotate_left
      · rw [if_neg c16] at H; exact absurd H (by simp)
      rw [if_pos c16] at H
      have c16b0 : decide (0 ≤ x18_1) = true := decide_eq_true c16
      clear c16
      by_cases c17 : x18_1 < (l0_1.length : Int)
      rotate_left
      · rw [if_neg c17] at H; exact absurd H (by simp)
      rw [if_pos c17] at H
      have c17b0 : decide (x18_1 < (l0_1.length : Int)) = true := decide_eq_true c17
      clear c17
      replace H := bnd H
      obtain ⟨t444, A180, H⟩ := H
      have A18 := zMk A180
      clear A180
      by_cases c19 : t444 = true
      · subst c19
        replace H : (if x442001_1.length < 5864062014805 then (graph_some.l0 pf k1 l0_1 (l0_1.length : Int) (wrap64 (x18_1 + 1)) a0_0 (x442001_1 ++ [(⟨(rd_T36 l0_1 x18_1).f0, (rd_T36 l0_1 x18_1).f1, (rd_T36 l0_1 x18_1).f2⟩ : S36)])) else (none)) = some (r1, r2) := by rw [if_pos rfl] at H; exact H
        by_cases c20 : x442001_1.length < 5864062014805
        rotate_left
        · rw [if_neg c20] at H; exact absurd H (by simp)
        rw [if_pos c20] at H
        have LMc20 := zMk c20
        clear c20
        obtain ⟨y445, hy445⟩ : ∃ y_ : List (S36), y_ = (x442001_1 ++ [(⟨(rd_T36 l0_1 x18_1).f0, (rd_T36 l0_1 x18_1).f1, (rd_T36 l0_1 x18_1).f2⟩ : S36)]) := ⟨_, rfl⟩
        replace H : (graph_some.l0 pf k1 l0_1 (l0_1.length : Int) (wrap64 (x18_1 + 1)) a0_0 y445) = some (r1, r2) := by first | (rw [hy445]; with_reducible exact H) | (have H2_ := bsm H; first | (rw [hy445]; with_reducible exact H2_) | with_reducible exact H2_) | with_reducible exact H | (rw [hy445]; exact H) | exact H
        have Ny445 := zMk hy445
        clear hy445
        have H' := zMk H
        clear H
        have p442 : 0 ≤ (x18_1 : Int) := of_decide_eq_true (by assumption)
        have q442 : x18_1 < (l0_1.length : Int) := of_decide_eq_true (by assumption)
        obtain ⟨ad442, e442, hx442_0, hx442_1, hx442_2⟩ := at_T36 HR0_1.out x18_1 p442 q442
        cases e442
        replace hx442_0 := (HB.out.cell (World.block_lt_of_cell? w _ hx442_0)).trans hx442_0
        replace hx442_1 := (HB.out.cell (World.block_lt_of_cell? w _ hx442_1)).trans hx442_1
        replace hx442_2 := (HB.out.cell (World.block_lt_of_cell? w _ hx442_2)).trans hx442_2
        replace p442 := eq_true p442
        replace q442 := eq_true q442
        go_wp2_with (first | ((with_reducible refine gate_dst (N := 7) rfl ?_); refine box_event ?hg (N := 7) ?hd (cs := #[.int .i64 0, .int .i64 0, .int .i64 0]) (t := 36) ?hr ?_; (case hd => rfl); (case hg => rfl); (case hr => first | (go_simp; done)|(go_simp; rfl)|(go_simp; rw [show ∀ x : Int, IntKind.u32.wrap (IntKind.u8.wrap x) = x % 256 from fun x => (by show (x % 256) % 4294967296 = x % 256; omega)])); intro gb443 hg w21 hbox hb; replace HO_442001 := zMk (zRb (Kd.R_elderB (by exact uR HO_442001.out) gb443 (Nat.le_of_eq hg.symm)) hb); have BK443 := zMk (hbox); have GW443 := zMk ((by rw [hg]; exact (zBs (by exact uT HB.out)) : w.heap.size ≤ gb443)); have GE443 := zMk ((by rw [hg]; exact (zBs (by exact uT HB.out)) : w.heap.size ≤ gb443)); have IGE443 := ownGe GE443.out; replace HB := zMk (zBt (by exact uT HB.out) hb); have NB438_443 := zMk ((by rw [hg]; exact Nat.ne_of_lt (blk_lt (g := gb438) (o := .cells #[.int .i64 a0_0, .slice (some ad442) l0_1.length c0_1] 24 (0, 0)) (by (with_reducible repeat (first |  refine zKn ?_ _|  refine zKd ?_|  refine zKa ?_ _)); exact BK438.out)) : gb438 ≠ gb443)); have NB443_438 := zMk ((by rw [hg]; exact Nat.ne_of_gt (blk_lt (g := gb438) (o := .cells #[.int .i64 a0_0, .slice (some ad442) l0_1.length c0_1] 24 (0, 0)) (by (with_reducible repeat (first |  refine zKn ?_ _|  refine zKd ?_|  refine zKa ?_ _)); exact BK438.out)) : gb443 ≠ gb438)); replace BK438 := zMk (zKb (g := gb438) (o := .cells #[.int .i64 a0_0, .slice (some ad442) l0_1.length c0_1] 24 (0, 0)) (by (with_reducible repeat (first |  refine zKn ?_ _|  refine zKd ?_|  refine zKa ?_ _)); exact BK438.out) hb); have NB439_443 := zMk ((by rw [hg]; exact Nat.ne_of_lt (blk_lt (g := gb439) (o := .cells #[.int .i64 0, .slice none 0 0] 24 (0, 0)) (by (with_reducible repeat (first |  refine zKn ?_ _|  refine zKd ?_|  refine zKa ?_ _)); exact BK439.out)) : gb439 ≠ gb443)); have NB443_439 := zMk ((by rw [hg]; exact Nat.ne_of_gt (blk_lt (g := gb439) (o := .cells #[.int .i64 0, .slice none 0 0] 24 (0, 0)) (by (with_reducible repeat (first |  refine zKn ?_ _|  refine zKd ?_|  refine zKa ?_ _)); exact BK439.out)) : gb443 ≠ gb439)); replace BK439 := zMk (zKb (g := gb439) (o := .cells #[.int .i64 0, .slice none 0 0] 24 (0, 0)) (by (with_reducible repeat (first |  refine zKn ?_ _|  refine zKd ?_|  refine zKa ?_ _)); exact BK439.out) hb); have NB441_443 := zMk ((by rw [hg]; exact Nat.ne_of_lt (blk_lt (g := gb441) (o := .cells #[.int .i64 a0_0, u442001] 24 (0, 0)) (by (with_reducible repeat (first |  refine zKn ?_ _|  refine zKd ?_|  refine zKa ?_ _)); exact BK441.out)) : gb441 ≠ gb443)); have NB443_441 := zMk ((by rw [hg]; exact Nat.ne_of_gt (blk_lt (g := gb441) (o := .cells #[.int .i64 a0_0, u442001] 24 (0, 0)) (by (with_reducible repeat (first |  refine zKn ?_ _|  refine zKd ?_|  refine zKa ?_ _)); exact BK441.out)) : gb443 ≠ gb441)); replace BK441 := zMk (zKb (g := gb441) (o := .cells #[.int .i64 a0_0, u442001] 24 (0, 0)) (by (with_reducible repeat (first |  refine zKn ?_ _|  refine zKd ?_|  refine zKa ?_ _)); exact BK441.out) hb); clear hb hbox hg; have hnb22 := NB443_438.out; have hnc22 := NB438_443.out; have hnb23 := NB443_439.out; have hnc23 := NB439_443.out; have hnb24 := NB443_441.out; have hnc24 := NB441_443.out; have hcz25_0 : w21.cell? ⟨gb443, 0, none⟩ = some (.int .i64 0) := (zKc BK443.out 0).trans rfl; have hcz25_1 : w21.cell? ⟨gb443, 1, none⟩ = some (.int .i64 0) := (zKc BK443.out 1).trans rfl; have hcz25_2 : w21.cell? ⟨gb443, 2, none⟩ = some (.int .i64 0) := (zKc BK443.out 2).trans rfl; have hfz25_0 := zKf BK443.out 0; have hfz25_1 := zKf BK443.out 1; have hfz25_2 := zKf BK443.out 2)|(go_at_call 43; refine (HF.out _ _ _ _ true _ (by exact uT HB.out) A18.out).mono ?_; rintro e w26 ⟨rfl, hb⟩; replace HO_442001 := zMk (zRb (by (with_reducible repeat (first |  apply zRa|  apply zRn|  apply zRd)); exact (zRm (Kd.R_far (p := ⟨gb443, 2, none⟩) (Kd.R_far (p := ⟨gb443, 1, none⟩) (Kd.R_far (p := ⟨gb443, 0, none⟩) (zRm HO_442001.out (fun k_ hk => (⟨hk, hk.2⟩ : _ ∧ k_ ≠ gb443))) (fun _ hk => hk.2) (.int .i64 ((rd_T36 l0_1 x18_1).f0))) (fun _ hk => hk.2) (.int .i64 ((rd_T36 l0_1 x18_1).f1))) (fun _ hk => hk.2) (.int .i64 ((rd_T36 l0_1 x18_1).f2))) (fun _ h_ => h_.1))) hb); replace BK438 := zMk (zKb (g := gb438) (o := .cells #[.int .i64 a0_0, .slice (some ad442) l0_1.length c0_1] 24 (0, 0)) (by (with_reducible repeat (first |  refine zKn ?_ _|  refine zKd ?_|  refine zKa ?_ _)); refine blk_far ?_ NB438_443.out _; (with_reducible repeat (first |  refine zKn ?_ _|  refine zKd ?_|  refine zKa ?_ _)); refine blk_far ?_ NB438_443.out _; (with_reducible repeat (first |  refine zKn ?_ _|  refine zKd ?_|  refine zKa ?_ _)); refine blk_far ?_ NB438_443.out _; (with_reducible repeat (first |  refine zKn ?_ _|  refine zKd ?_|  refine zKa ?_ _)); exact BK438.out) hb); replace BK439 := zMk (zKb (g := gb439) (o := .cells #[.int .i64 0, .slice none 0 0] 24 (0, 0)) (by (with_reducible repeat (first |  refine zKn ?_ _|  refine zKd ?_|  refine zKa ?_ _)); refine blk_far ?_ NB439_443.out _; (with_reducible repeat (first |  refine zKn ?_ _|  refine zKd ?_|  refine zKa ?_ _)); refine blk_far ?_ NB439_443.out _; (with_reducible repeat (first |  refine zKn ?_ _|  refine zKd ?_|  refine zKa ?_ _)); refine blk_far ?_ NB439_443.out _; (with_reducible repeat (first |  refine zKn ?_ _|  refine zKd ?_|  refine zKa ?_ _)); exact BK439.out) hb); replace BK441 := zMk (zKb (g := gb441) (o := .cells #[.int .i64 a0_0, u442001] 24 (0, 0)) (by (with_reducible repeat (first |  refine zKn ?_ _|  refine zKd ?_|  refine zKa ?_ _)); refine blk_far ?_ NB441_443.out _; (with_reducible repeat (first |  refine zKn ?_ _|  refine zKd ?_|  refine zKa ?_ _)); refine blk_far ?_ NB441_443.out _; (with_reducible repeat (first |  refine zKn ?_ _|  refine zKd ?_|  refine zKa ?_ _)); refine blk_far ?_ NB441_443.out _; (with_reducible repeat (first |  refine zKn ?_ _|  refine zKd ?_|  refine zKa ?_ _)); exact BK441.out) hb); replace BK443 := zMk (zKb (g := gb443) (o := .cells #[.int .i64 ((rd_T36 l0_1 x18_1).f0), .int .i64 ((rd_T36 l0_1 x18_1).f1), .int .i64 ((rd_T36 l0_1 x18_1).f2)] 36 (0, 0)) (by (with_reducible repeat (first |  refine zKn ?_ _|  refine zKd ?_|  refine zKa ?_ _)); refine blk_put (cs := #[.int .i64 ((rd_T36 l0_1 x18_1).f0), .int .i64 ((rd_T36 l0_1 x18_1).f1), .int .i64 0]) ?_ 2 _ rfl; (with_reducible repeat (first |  refine zKn ?_ _|  refine zKd ?_|  refine zKa ?_ _)); refine blk_put (cs := #[.int .i64 ((rd_T36 l0_1 x18_1).f0), .int .i64 0, .int .i64 0]) ?_ 1 _ rfl; (with_reducible repeat (first |  refine zKn ?_ _|  refine zKd ?_|  refine zKa ?_ _)); refine blk_put (cs := #[.int .i64 0, .int .i64 0, .int .i64 0]) ?_ 0 _ rfl; (with_reducible repeat (first |  refine zKn ?_ _|  refine zKd ?_|  refine zKa ?_ _)); exact BK443.out) hb); replace HB := zMk (zBt (by exact uT HB.out) hb); have hnb27 := NB441_438.out; have hnc27 := NB438_441.out; have hnb28 := NB441_439.out; have hnc28 := NB439_441.out; have hcz29_0 : w26.cell? ⟨gb441, 0, none⟩ = some (.int .i64 a0_0) := (zKc BK441.out 0).trans rfl; have hcz29_1 : w26.cell? ⟨gb441, 1, none⟩ = some (u442001) := (zKc BK441.out 1).trans rfl; have hfz29_0 := zKf BK441.out 0; have hfz29_1 := zKf BK441.out 1; have hcz30_0 : w26.cell? ⟨gb443, 0, none⟩ = some (.int .i64 ((rd_T36 l0_1 x18_1).f0)) := (zKc BK443.out 0).trans rfl; have hcz30_1 : w26.cell? ⟨gb443, 1, none⟩ = some (.int .i64 ((rd_T36 l0_1 x18_1).f1)) := (zKc BK443.out 1).trans rfl; have hcz30_2 : w26.cell? ⟨gb443, 2, none⟩ = some (.int .i64 ((rd_T36 l0_1 x18_1).f2)) := (zKc BK443.out 2).trans rfl; have hfz30_0 := zKf BK443.out 0; have hfz30_1 := zKf BK443.out 1; have hfz30_2 := zKf BK443.out 2)|((with_reducible refine gate_builtin (b := .append) (xs := #[.tmp 28, .tmp 30]) rfl ?_); at_builtin; refine Kd.R_append k36 (w0 := w) w.heap.size rfl (.tmp 28) (.tmp 30) 22 36 (.agg #[(.int .i64 0), (.int .i64 0), (.int .i64 0)]) 24 rfl Try.underlying22 info36 rfl (by decide) (by omega) u442001 x442001_1 (⟨(rd_T36 l0_1 x18_1).f0, (rd_T36 l0_1 x18_1).f1, (rd_T36 l0_1 x18_1).f2⟩ : S36) [.int .i64 ((rd_T36 l0_1 x18_1).f0), .int .i64 ((rd_T36 l0_1 x18_1).f1), .int .i64 ((rd_T36 l0_1 x18_1).f2)] (fun k_ => k_ ≠ gb443) (fun _ => False) rfl rfl ?aP (fun _ hk => hk.elim) ?aF ?aO ?aB ?aS ?aL ?_; (case aP => exact k36_mkM _ _ _ (⟨(rd_T36 l0_1 x18_1).f0, (rd_T36 l0_1 x18_1).f1, (rd_T36 l0_1 x18_1).f2⟩ : S36)); (case aB => exact (by exact uT HB.out)); (case aF => exact (fun k_ hk => Kd.freshB (g := gb443) (o := .cells #[.int .i64 ((rd_T36 l0_1 x18_1).f0), .int .i64 ((rd_T36 l0_1 x18_1).f1), .int .i64 ((rd_T36 l0_1 x18_1).f2)] 36 (0, 0)) (by (with_reducible repeat (first |  refine zKn ?_ _|  refine zKd ?_|  refine zKa ?_ _)); exact BK443.out) k_ hk)); (case aO => exact (by (with_reducible repeat (first |  apply zRa|  apply zRn|  apply zRd)); exact zRm HO_442001.out (fun _ hk => hk.2))); (case aS => exact (zBs (by exact uT HB.out))); (case aL => have := LMc20.out; omega); intro v446 w31 ho hb hg hat; rw [← Ny445.out] at ho; replace BK438 := zMk (blk_grown (g := gb438) (o := .cells #[.int .i64 a0_0, .slice (some ad442) l0_1.length c0_1] 24 (0, 0)) (by (with_reducible repeat (first |  refine zKn ?_ _|  refine zKd ?_|  refine zKa ?_ _)); exact BK438.out) hg (Kd.R_ne HO_442001.out BK438.out (by decide))); replace BK439 := zMk (blk_grown (g := gb439) (o := .cells #[.int .i64 0, .slice none 0 0] 24 (0, 0)) (by (with_reducible repeat (first |  refine zKn ?_ _|  refine zKd ?_|  refine zKa ?_ _)); exact BK439.out) hg (Kd.R_ne HO_442001.out BK439.out (by decide))); replace BK441 := zMk (blk_grown (g := gb441) (o := .cells #[.int .i64 a0_0, u442001] 24 (0, 0)) (by (with_reducible repeat (first |  refine zKn ?_ _|  refine zKd ?_|  refine zKa ?_ _)); exact BK441.out) hg (Kd.R_ne HO_442001.out BK441.out (by decide))); replace BK443 := zMk (blk_grown (g := gb443) (o := .cells #[.int .i64 ((rd_T36 l0_1 x18_1).f0), .int .i64 ((rd_T36 l0_1 x18_1).f1), .int .i64 ((rd_T36 l0_1 x18_1).f2)] 36 (0, 0)) (by (with_reducible repeat (first |  refine zKn ?_ _|  refine zKd ?_|  refine zKa ?_ _)); exact BK443.out) hg (Kd.R_away HO_442001.out (fun _ hk => hk.2))); replace HB := zMk (hb); have HO447 := zMk (ho); clear HO_442001 ho hb hg hat; obtain ⟨Ao32, co32, eo32⟩ := zRs HO447.out; subst eo32; have hcz33_0 : w31.cell? ⟨gb441, 0, none⟩ = some (.int .i64 a0_0) := (zKc BK441.out 0).trans rfl; have hcz33_1 : w31.cell? ⟨gb441, 1, none⟩ = some (u442001) := (zKc BK441.out 1).trans rfl; have hfz33_0 := zKf BK441.out 0; have hfz33_1 := zKf BK441.out 1))
        go_roundg k1
        case measure => have := HK1.out; omega
        case rel => exact ⟨(wrap64 (x18_1 + 1)), (y445), (.slice Ao32 y445.length co32), (by first | rfl | (simp; done) | (simp [*]; done)), H', ⟨by have := HK1.out; omega⟩, ⟨by (with_reducible repeat (first | apply zRa | apply zRn | apply zRd)); exact zRm (Kd.R_far (p := ⟨gb441, 1, none⟩) (Kd.R_types HO447.out BK441.out (by decide)) (fun _ hk => hk.2) (.slice Ao32 y445.length co32)) (fun _ hk => trivial)⟩, ⟨by (with_reducible repeat (first | refine zKn ?_ _ | refine zKd ?_ | refine zKa ?_ _)); refine blk_far ?_ NB438_441.out _; (with_reducible repeat (first | refine zKn ?_ _ | refine zKd ?_ | refine zKa ?_ _)); exact BK438.out⟩, ⟨by (with_reducible repeat (first | refine zKn ?_ _ | refine zKd ?_ | refine zKa ?_ _)); refine blk_far ?_ NB439_441.out _; (with_reducible repeat (first | refine zKn ?_ _ | refine zKd ?_ | refine zKa ?_ _)); exact BK439.out⟩, ⟨by (with_reducible repeat (first | refine zKn ?_ _ | refine zKd ?_ | refine zKa ?_ _)); refine blk_put (cs := #[.int .i64 a0_0, u442001]) ?_ 1 _ rfl; (with_reducible repeat (first | refine zKn ?_ _ | refine zKd ?_ | refine zKa ?_ _)); exact BK441.out⟩, ⟨by exact uT HB.out⟩⟩
      · replace c19 := Bool.eq_false_iff.mpr c19
        subst c19
        replace H : (graph_some.l0 pf k1 l0_1 (l0_1.length : Int) (wrap64 (x18_1 + 1)) a0_0 x442001_1) = some (r1, r2) := by rw [if_neg (show ¬ (false = true) by decide)] at H; exact H
        have H' := zMk H
        clear H
        have p442 : 0 ≤ (x18_1 : Int) := of_decide_eq_true (by assumption)
        have q442 : x18_1 < (l0_1.length : Int) := of_decide_eq_true (by assumption)
        obtain ⟨ad442, e442, hx442_0, hx442_1, hx442_2⟩ := at_T36 HR0_1.out x18_1 p442 q442
        cases e442
        replace hx442_0 := (HB.out.cell (World.block_lt_of_cell? w _ hx442_0)).trans hx442_0
        replace hx442_1 := (HB.out.cell (World.block_lt_of_cell? w _ hx442_1)).trans hx442_1
        replace hx442_2 := (HB.out.cell (World.block_lt_of_cell? w _ hx442_2)).trans hx442_2
        replace p442 := eq_true p442
        replace q442 := eq_true q442
        go_wp2_with (first | ((with_reducible refine gate_dst (N := 7) rfl ?_); refine box_event ?hg (N := 7) ?hd (cs := #[.int .i64 0, .int .i64 0, .int .i64 0]) (t := 36) ?hr ?_; (case hd => rfl); (case hg => rfl); (case hr => first | (go_simp; done)|(go_simp; rfl)|(go_simp; rw [show ∀ x : Int, IntKind.u32.wrap (IntKind.u8.wrap x) = x % 256 from fun x => (by show (x % 256) % 4294967296 = x % 256; omega)])); intro gb443 hg w34 hbox hb; replace HO_442001 := zMk (zRb (Kd.R_elderB (by exact uR HO_442001.out) gb443 (Nat.le_of_eq hg.symm)) hb); have BK443 := zMk (hbox); have GW443 := zMk ((by rw [hg]; exact (zBs (by exact uT HB.out)) : w.heap.size ≤ gb443)); have GE443 := zMk ((by rw [hg]; exact (zBs (by exact uT HB.out)) : w.heap.size ≤ gb443)); have IGE443 := ownGe GE443.out; replace HB := zMk (zBt (by exact uT HB.out) hb); have NB438_443 := zMk ((by rw [hg]; exact Nat.ne_of_lt (blk_lt (g := gb438) (o := .cells #[.int .i64 a0_0, .slice (some ad442) l0_1.length c0_1] 24 (0, 0)) (by (with_reducible repeat (first |  refine zKn ?_ _|  refine zKd ?_|  refine zKa ?_ _)); exact BK438.out)) : gb438 ≠ gb443)); have NB443_438 := zMk ((by rw [hg]; exact Nat.ne_of_gt (blk_lt (g := gb438) (o := .cells #[.int .i64 a0_0, .slice (some ad442) l0_1.length c0_1] 24 (0, 0)) (by (with_reducible repeat (first |  refine zKn ?_ _|  refine zKd ?_|  refine zKa ?_ _)); exact BK438.out)) : gb443 ≠ gb438)); replace BK438 := zMk (zKb (g := gb438) (o := .cells #[.int .i64 a0_0, .slice (some ad442) l0_1.length c0_1] 24 (0, 0)) (by (with_reducible repeat (first |  refine zKn ?_ _|  refine zKd ?_|  refine zKa ?_ _)); exact BK438.out) hb); have NB439_443 := zMk ((by rw [hg]; exact Nat.ne_of_lt (blk_lt (g := gb439) (o := .cells #[.int .i64 0, .slice none 0 0] 24 (0, 0)) (by (with_reducible repeat (first |  refine zKn ?_ _|  refine zKd ?_|  refine zKa ?_ _)); exact BK439.out)) : gb439 ≠ gb443)); have NB443_439 := zMk ((by rw [hg]; exact Nat.ne_of_gt (blk_lt (g := gb439) (o := .cells #[.int .i64 0, .slice none 0 0] 24 (0, 0)) (by (with_reducible repeat (first |  refine zKn ?_ _|  refine zKd ?_|  refine zKa ?_ _)); exact BK439.out)) : gb443 ≠ gb439)); replace BK439 := zMk (zKb (g := gb439) (o := .cells #[.int .i64 0, .slice none 0 0] 24 (0, 0)) (by (with_reducible repeat (first |  refine zKn ?_ _|  refine zKd ?_|  refine zKa ?_ _)); exact BK439.out) hb); have NB441_443 := zMk ((by rw [hg]; exact Nat.ne_of_lt (blk_lt (g := gb441) (o := .cells #[.int .i64 a0_0, u442001] 24 (0, 0)) (by (with_reducible repeat (first |  refine zKn ?_ _|  refine zKd ?_|  refine zKa ?_ _)); exact BK441.out)) : gb441 ≠ gb443)); have NB443_441 := zMk ((by rw [hg]; exact Nat.ne_of_gt (blk_lt (g := gb441) (o := .cells #[.int .i64 a0_0, u442001] 24 (0, 0)) (by (with_reducible repeat (first |  refine zKn ?_ _|  refine zKd ?_|  refine zKa ?_ _)); exact BK441.out)) : gb443 ≠ gb441)); replace BK441 := zMk (zKb (g := gb441) (o := .cells #[.int .i64 a0_0, u442001] 24 (0, 0)) (by (with_reducible repeat (first |  refine zKn ?_ _|  refine zKd ?_|  refine zKa ?_ _)); exact BK441.out) hb); clear hb hbox hg; have hnb35 := NB443_438.out; have hnc35 := NB438_443.out; have hnb36 := NB443_439.out; have hnc36 := NB439_443.out; have hnb37 := NB443_441.out; have hnc37 := NB441_443.out; have hcz38_0 : w34.cell? ⟨gb443, 0, none⟩ = some (.int .i64 0) := (zKc BK443.out 0).trans rfl; have hcz38_1 : w34.cell? ⟨gb443, 1, none⟩ = some (.int .i64 0) := (zKc BK443.out 1).trans rfl; have hcz38_2 : w34.cell? ⟨gb443, 2, none⟩ = some (.int .i64 0) := (zKc BK443.out 2).trans rfl; have hfz38_0 := zKf BK443.out 0; have hfz38_1 := zKf BK443.out 1; have hfz38_2 := zKf BK443.out 2)|(go_at_call 43; refine (HF.out _ _ _ _ false _ (by exact uT HB.out) A18.out).mono ?_; rintro e w39 ⟨rfl, hb⟩; replace HO_442001 := zMk (zRb (by (with_reducible repeat (first |  apply zRa|  apply zRn|  apply zRd)); exact (zRm (Kd.R_far (p := ⟨gb443, 2, none⟩) (Kd.R_far (p := ⟨gb443, 1, none⟩) (Kd.R_far (p := ⟨gb443, 0, none⟩) (zRm HO_442001.out (fun k_ hk => (⟨hk, hk.2⟩ : _ ∧ k_ ≠ gb443))) (fun _ hk => hk.2) (.int .i64 ((rd_T36 l0_1 x18_1).f0))) (fun _ hk => hk.2) (.int .i64 ((rd_T36 l0_1 x18_1).f1))) (fun _ hk => hk.2) (.int .i64 ((rd_T36 l0_1 x18_1).f2))) (fun _ h_ => h_.1))) hb); replace BK438 := zMk (zKb (g := gb438) (o := .cells #[.int .i64 a0_0, .slice (some ad442) l0_1.length c0_1] 24 (0, 0)) (by (with_reducible repeat (first |  refine zKn ?_ _|  refine zKd ?_|  refine zKa ?_ _)); refine blk_far ?_ NB438_443.out _; (with_reducible repeat (first |  refine zKn ?_ _|  refine zKd ?_|  refine zKa ?_ _)); refine blk_far ?_ NB438_443.out _; (with_reducible repeat (first |  refine zKn ?_ _|  refine zKd ?_|  refine zKa ?_ _)); refine blk_far ?_ NB438_443.out _; (with_reducible repeat (first |  refine zKn ?_ _|  refine zKd ?_|  refine zKa ?_ _)); exact BK438.out) hb); replace BK439 := zMk (zKb (g := gb439) (o := .cells #[.int .i64 0, .slice none 0 0] 24 (0, 0)) (by (with_reducible repeat (first |  refine zKn ?_ _|  refine zKd ?_|  refine zKa ?_ _)); refine blk_far ?_ NB439_443.out _; (with_reducible repeat (first |  refine zKn ?_ _|  refine zKd ?_|  refine zKa ?_ _)); refine blk_far ?_ NB439_443.out _; (with_reducible repeat (first |  refine zKn ?_ _|  refine zKd ?_|  refine zKa ?_ _)); refine blk_far ?_ NB439_443.out _; (with_reducible repeat (first |  refine zKn ?_ _|  refine zKd ?_|  refine zKa ?_ _)); exact BK439.out) hb); replace BK441 := zMk (zKb (g := gb441) (o := .cells #[.int .i64 a0_0, u442001] 24 (0, 0)) (by (with_reducible repeat (first |  refine zKn ?_ _|  refine zKd ?_|  refine zKa ?_ _)); refine blk_far ?_ NB441_443.out _; (with_reducible repeat (first |  refine zKn ?_ _|  refine zKd ?_|  refine zKa ?_ _)); refine blk_far ?_ NB441_443.out _; (with_reducible repeat (first |  refine zKn ?_ _|  refine zKd ?_|  refine zKa ?_ _)); refine blk_far ?_ NB441_443.out _; (with_reducible repeat (first |  refine zKn ?_ _|  refine zKd ?_|  refine zKa ?_ _)); exact BK441.out) hb); replace BK443 := zMk (zKb (g := gb443) (o := .cells #[.int .i64 ((rd_T36 l0_1 x18_1).f0), .int .i64 ((rd_T36 l0_1 x18_1).f1), .int .i64 ((rd_T36 l0_1 x18_1).f2)] 36 (0, 0)) (by (with_reducible repeat (first |  refine zKn ?_ _|  refine zKd ?_|  refine zKa ?_ _)); refine blk_put (cs := #[.int .i64 ((rd_T36 l0_1 x18_1).f0), .int .i64 ((rd_T36 l0_1 x18_1).f1), .int .i64 0]) ?_ 2 _ rfl; (with_reducible repeat (first |  refine zKn ?_ _|  refine zKd ?_|  refine zKa ?_ _)); refine blk_put (cs := #[.int .i64 ((rd_T36 l0_1 x18_1).f0), .int .i64 0, .int .i64 0]) ?_ 1 _ rfl; (with_reducible repeat (first |  refine zKn ?_ _|  refine zKd ?_|  refine zKa ?_ _)); refine blk_put (cs := #[.int .i64 0, .int .i64 0, .int .i64 0]) ?_ 0 _ rfl; (with_reducible repeat (first |  refine zKn ?_ _|  refine zKd ?_|  refine zKa ?_ _)); exact BK443.out) hb); replace HB := zMk (zBt (by exact uT HB.out) hb)))
        go_roundg k1
        case measure => have := HK1.out; omega
        case rel => exact ⟨(wrap64 (x18_1 + 1)), (x442001_1), (u442001), (by first | rfl | (simp; done) | (simp [*]; done)), H', ⟨by have := HK1.out; omega⟩, ⟨by (with_reducible repeat (first | apply zRa | apply zRn | apply zRd)); exact zRm HO_442001.out (fun _ hk => trivial)⟩, ⟨by (with_reducible repeat (first | refine zKn ?_ _ | refine zKd ?_ | refine zKa ?_ _)); exact BK438.out⟩, ⟨by (with_reducible repeat (first | refine zKn ?_ _ | refine zKd ?_ | refine zKa ?_ _)); exact BK439.out⟩, ⟨by (with_reducible repeat (first | refine zKn ?_ _ | refine zKd ?_ | refine zKa ?_ _)); exact BK441.out⟩, ⟨by exact uT HB.out⟩⟩
    · rw [if_neg c15] at H
      have c15b0 : decide (x18_1 < (l0_1.length : Int)) = false := decide_eq_false c15
      clear c15
      simp only [Option.some.injEq, Prod.mk.injEq] at H
      obtain ⟨rfl, rfl⟩ := H
      have hnb40 := NB441_438.out
      have hnc40 := NB438_441.out
      have hnb41 := NB441_439.out
      have hnc41 := NB439_441.out
      have hcz42_0 : wr.cell? ⟨gb441, 0, none⟩ = some (.int .i64 a0_0) := (zKc BK441.out 0).trans rfl
      have hcz42_1 : wr.cell? ⟨gb441, 1, none⟩ = some (u442001) := (zKc BK441.out 1).trans rfl
      have hfz42_0 := zKf BK441.out 0
      have hfz42_1 := zKf BK441.out 1
      have hnb43 := NB439_438.out
      have hnc43 := NB438_439.out
      have hcz44_0 : wr.cell? ⟨gb439, 0, none⟩ = some (.int .i64 0) := (zKc BK439.out 0).trans rfl
      have hcz44_1 : wr.cell? ⟨gb439, 1, none⟩ = some (.slice none 0 0) := (zKc BK439.out 1).trans rfl
      have hfz44_0 := zKf BK439.out 0
      have hfz44_1 := zKf BK439.out 1
      obtain ⟨Ao45, co45, eo45⟩ := zRs HO_442001.out
      subst eo45
      go_wp2
      refine bodyPost_ret (results_cell_row rfl _ _ gb439 24 #[.int .i64 a0_0, .slice Ao45 x442001_1.length co45] (0, 0) _ rfl (by (with_reducible repeat (first | refine zKn ?_ _ | refine zKd ?_ | refine zKa ?_ _)); refine blk_put (cs := #[.int .i64 a0_0, .slice none 0 0]) ?_ 1 _ rfl; (with_reducible repeat (first | refine zKn ?_ _ | refine zKd ?_ | refine zKa ?_ _)); refine blk_put (cs := #[.int .i64 0, .slice none 0 0]) ?_ 0 _ rfl; (with_reducible repeat (first | refine zKn ?_ _ | refine zKd ?_ | refine zKa ?_ _)); exact BK439.out) Try.underlying24 rfl (by kernel_rfl)) rfl ?_
      exact ⟨_, by first | rfl | (simp [errW_none, errW_some] <;> rfl) | (simp [*, errW_none, errW_some] <;> rfl), by (with_reducible repeat (first | apply zRa | apply zRn | apply zRd)); exact zRm (Kd.R_far (p := ⟨gb439, 1, none⟩) (Kd.R_far (p := ⟨gb439, 0, none⟩) (Kd.R_types HO_442001.out BK439.out (by decide)) (fun _ hk => hk.2) (.int .i64 a0_0)) (fun _ hk => hk.2) (.slice Ao45 x442001_1.length co45)) (fun _ hk => trivial), by exact uT HB.out⟩
  · rw [if_neg c3] at H
    have c3b0 : (t440 == 0) = false := beq_eq_false_iff_ne.mpr c3
    have c3b1 : (t440 != 0) = true := bne_iff_ne.mpr c3
    simp only [Option.some.injEq, Prod.mk.injEq] at H
    obtain ⟨rfl, rfl⟩ := H
    go_enter Try.func42, Try.ntmps42
    go_wp2_with (first | ((with_reducible refine gate_dst (N := 2) rfl ?_); refine box_event ?hg (N := 2) ?hd (cs := #[.int .i64 a0_0, .slice A0_1 l0_1.length c0_1]) (t := 24) ?hr ?_; (case hd => rfl); (case hg => rfl); (case hr => first | (go_simp; done)|(go_simp; rfl)|(go_simp; rw [show ∀ x : Int, IntKind.u32.wrap (IntKind.u8.wrap x) = x % 256 from fun x => (by show (x % 256) % 4294967296 = x % 256; omega)])); intro gb438 hg w46 hbox hb; have BK438 := zMk (hbox); have GW438 := zMk ((by rw [hg]; exact (zBs (by exact uT HB.out)) : w.heap.size ≤ gb438)); have GE438 := zMk ((by rw [hg]; exact (zBs (by exact uT HB.out)) : w.heap.size ≤ gb438)); have IGE438 := ownGe GE438.out; replace HB := zMk (zBt (by exact uT HB.out) hb); clear hb hbox hg)|((with_reducible refine gate_dst (N := 4) rfl ?_); refine box_event ?hg (N := 4) ?hd (cs := #[.int .i64 0, .slice none 0 0]) (t := 24) ?hr ?_; (case hd => rfl); (case hg => rfl); (case hr => first | (go_simp; done)|(go_simp; rfl)|(go_simp; rw [show ∀ x : Int, IntKind.u32.wrap (IntKind.u8.wrap x) = x % 256 from fun x => (by show (x % 256) % 4294967296 = x % 256; omega)])); intro gb439 hg w47 hbox hb; have BK439 := zMk (hbox); have GW439 := zMk ((by rw [hg]; exact (zBs (by exact uT HB.out)) : w.heap.size ≤ gb439)); have GE439 := zMk ((by rw [hg]; exact (zBs (by exact uT HB.out)) : w.heap.size ≤ gb439)); have IGE439 := ownGe GE439.out; replace HB := zMk (zBt (by exact uT HB.out) hb); have NB438_439 := zMk ((by rw [hg]; exact Nat.ne_of_lt (blk_lt (g := gb438) (o := .cells #[.int .i64 a0_0, .slice A0_1 l0_1.length c0_1] 24 (0, 0)) (by (with_reducible repeat (first |  refine zKn ?_ _|  refine zKd ?_|  refine zKa ?_ _)); exact BK438.out)) : gb438 ≠ gb439)); have NB439_438 := zMk ((by rw [hg]; exact Nat.ne_of_gt (blk_lt (g := gb438) (o := .cells #[.int .i64 a0_0, .slice A0_1 l0_1.length c0_1] 24 (0, 0)) (by (with_reducible repeat (first |  refine zKn ?_ _|  refine zKd ?_|  refine zKa ?_ _)); exact BK438.out)) : gb439 ≠ gb438)); replace BK438 := zMk (zKb (g := gb438) (o := .cells #[.int .i64 a0_0, .slice A0_1 l0_1.length c0_1] 24 (0, 0)) (by (with_reducible repeat (first |  refine zKn ?_ _|  refine zKd ?_|  refine zKa ?_ _)); exact BK438.out) hb); clear hb hbox hg; have hnb48 := NB438_439.out; have hnc48 := NB439_438.out; have hcz49_0 : w47.cell? ⟨gb438, 0, none⟩ = some (.int .i64 a0_0) := (zKc BK438.out 0).trans rfl; have hcz49_1 : w47.cell? ⟨gb438, 1, none⟩ = some (.slice A0_1 l0_1.length c0_1) := (zKc BK438.out 1).trans rfl; have hfz49_0 := zKf BK438.out 0; have hfz49_1 := zKf BK438.out 1)|((with_reducible refine gate_callee (f := 11) rfl ?_); refine goesL_ (some 9) rfl rfl Try.func11 (by kernel_rfl) rfl #[.agg #[.int .i64 a0_0, .slice A0_1 l0_1.length c0_1]] rfl (by (try simp only [zMa, zMc, zMn]); first |  done|  rfl|  (simp only [zLd, zLt]; rfl)) ?_; (with_reducible refine (graph_Right.calls k a0_0 _ _ l0_1 t440 _ ?side1 ?side2 A2.out).mono ?_); (case side1 => repeat (first |  exact (Kd.C_below HR0_1.out HB.out)|(with_reducible refine zCa ?_ _)|(with_reducible refine zCn ?_ _)|(with_reducible refine zCd ?_))); (case side2 => exact HC0_1.out); rintro e w50 ⟨rfl, hb⟩; refine ⟨_, rfl, ?_⟩; replace BK438 := zMk (zKb (g := gb438) (o := .cells #[.int .i64 a0_0, .slice A0_1 l0_1.length c0_1] 24 (0, 0)) (by (with_reducible repeat (first |  refine zKn ?_ _|  refine zKd ?_|  refine zKa ?_ _)); exact BK438.out) hb); replace BK439 := zMk (zKb (g := gb439) (o := .cells #[.int .i64 0, .slice none 0 0] 24 (0, 0)) (by (with_reducible repeat (first |  refine zKn ?_ _|  refine zKd ?_|  refine zKa ?_ _)); exact BK439.out) hb); replace HB := zMk (zBt (by exact uT HB.out) hb); have hcz51_0 : w50.cell? ⟨gb439, 0, none⟩ = some (.int .i64 0) := (zKc BK439.out 0).trans rfl; have hcz51_1 : w50.cell? ⟨gb439, 1, none⟩ = some (.slice none 0 0) := (zKc BK439.out 1).trans rfl; have hfz51_0 := zKf BK439.out 0; have hfz51_1 := zKf BK439.out 1))
    refine bodyPost_ret (results_cell_row rfl _ _ gb439 24 #[.int .i64 0, .slice none 0 0] (0, 0) _ rfl (by (with_reducible repeat (first | refine zKn ?_ _ | refine zKd ?_ | refine zKa ?_ _)); refine blk_put (cs := #[.int .i64 0, .slice none 0 0]) ?_ 1 _ rfl; (with_reducible repeat (first | refine zKn ?_ _ | refine zKd ?_ | refine zKa ?_ _)); refine blk_put (cs := #[.int .i64 0, .slice none 0 0]) ?_ 0 _ rfl; (with_reducible repeat (first | refine zKn ?_ _ | refine zKd ?_ | refine zKa ?_ _)); exact BK439.out) Try.underlying24 rfl (by kernel_rfl)) rfl ?_
    exact ⟨_, by first | rfl | (simp [errW_none, errW_some] <;> rfl) | (simp [*, errW_none, errW_some] <;> rfl), by first | exact Kd.R_nil _ _ _ _ _ | exact Kd.N_nil _ _ _ _ _ | exact Kd.V_nil _ _ _ _ _ | exact Kd.Q_nil _ _ _ _ _ | exact Kd.S_nil _ _ _ _ _, by exact uT HB.out⟩

theorem graph_some.calls1 (pf : Int → Int → Int → Int → Option Bool) (hh_ : Nat) (k : Nat) (a0_0 : Int) (A0_1 : Option Addr) (c0_1 : Nat) (l0_1 : List (S36)) (r1 : Int) (r2 : List (S36)) (w : World) (hr0_1 : Kd.C k36 w A0_1 l0_1.length l0_1) (hc0_1 : l0_1.length ≤ c0_1) (hf_ : ∀ (i u v q : Int) (b : Bool) (W : World), Below w.heap.size w W → pf i u v q = some b → Calls Try.prog 44 #[.int .i64 i, .agg #[.int .i64 u, .int .i64 v, .int .i64 q], .pointer (some ⟨hh_, 0, none⟩)] W fun e w' => e = .returned (.bool b) ∧ Below W.heap.size W w') (h : graph_some.f pf k a0_0 l0_1 = some (r1, r2)) :
    Calls Try.prog 42 #[.agg #[.int .i64 a0_0, .slice A0_1 l0_1.length c0_1], .func (.func 44) #[] #[.pointer (some ⟨hh_, 0, none⟩)]] w fun e w' => ∃ v1_ : Value, e = .returned (.agg #[.int .i64 r1, v1_]) ∧ Kd.R k36 36 w' w.heap.size (fun _ => True) v1_ r2 ∧ Below w.heap.size w w' := by
  have hu24 := Try.underlying24
  have hu36 := Try.underlying36
  have HR0_1 := zMk hr0_1
  have HC0_1 := zMk hc0_1
  clear hr0_1 hc0_1
  have HB := zMk (Below.refl w.heap.size w)
  have HF := zMk hf_
  clear hf_
  have H : ((graph_Right.f k a0_0 l0_1).bind fun t440 => (if t440 = 0 then (graph_some.l0 pf k l0_1 (l0_1.length : Int) 0 a0_0 ([] : List (S36))) else (some (0, ([] : List (S36)))))) = some (r1, r2) := h
  clear h
  replace H := bnd H
  obtain ⟨t440, A20, H⟩ := H
  have A2 := zMk A20
  clear A20
  by_cases c3 : t440 = 0
  · rw [if_pos c3] at H
    have c3b0 : (t440 == 0) = true := beq_iff_eq.mpr c3
    have c3b1 : (t440 != 0) = false := bne_eq_false_iff_eq.mpr c3
    clear c3
    have H' := zMk H
    clear H
    go_enter Try.func42, Try.ntmps42
    go_wp2_with (first | ((with_reducible refine gate_dst (N := 2) rfl ?_); refine box_event ?hg (N := 2) ?hd (cs := #[.int .i64 a0_0, .slice A0_1 l0_1.length c0_1]) (t := 24) ?hr ?_; (case hd => rfl); (case hg => rfl); (case hr => first | (go_simp; done)|(go_simp; rfl)|(go_simp; rw [show ∀ x : Int, IntKind.u32.wrap (IntKind.u8.wrap x) = x % 256 from fun x => (by show (x % 256) % 4294967296 = x % 256; omega)])); intro gb438 hg w4 hbox hb; have BK438 := zMk (hbox); have GW438 := zMk ((by rw [hg]; exact (zBs (by exact uT HB.out)) : w.heap.size ≤ gb438)); have GE438 := zMk ((by rw [hg]; exact (zBs (by exact uT HB.out)) : w.heap.size ≤ gb438)); have IGE438 := ownGe GE438.out; replace HB := zMk (zBt (by exact uT HB.out) hb); clear hb hbox hg)|((with_reducible refine gate_dst (N := 4) rfl ?_); refine box_event ?hg (N := 4) ?hd (cs := #[.int .i64 0, .slice none 0 0]) (t := 24) ?hr ?_; (case hd => rfl); (case hg => rfl); (case hr => first | (go_simp; done)|(go_simp; rfl)|(go_simp; rw [show ∀ x : Int, IntKind.u32.wrap (IntKind.u8.wrap x) = x % 256 from fun x => (by show (x % 256) % 4294967296 = x % 256; omega)])); intro gb439 hg w5 hbox hb; have BK439 := zMk (hbox); have GW439 := zMk ((by rw [hg]; exact (zBs (by exact uT HB.out)) : w.heap.size ≤ gb439)); have GE439 := zMk ((by rw [hg]; exact (zBs (by exact uT HB.out)) : w.heap.size ≤ gb439)); have IGE439 := ownGe GE439.out; replace HB := zMk (zBt (by exact uT HB.out) hb); have NB438_439 := zMk ((by rw [hg]; exact Nat.ne_of_lt (blk_lt (g := gb438) (o := .cells #[.int .i64 a0_0, .slice A0_1 l0_1.length c0_1] 24 (0, 0)) (by (with_reducible repeat (first |  refine zKn ?_ _|  refine zKd ?_|  refine zKa ?_ _)); exact BK438.out)) : gb438 ≠ gb439)); have NB439_438 := zMk ((by rw [hg]; exact Nat.ne_of_gt (blk_lt (g := gb438) (o := .cells #[.int .i64 a0_0, .slice A0_1 l0_1.length c0_1] 24 (0, 0)) (by (with_reducible repeat (first |  refine zKn ?_ _|  refine zKd ?_|  refine zKa ?_ _)); exact BK438.out)) : gb439 ≠ gb438)); replace BK438 := zMk (zKb (g := gb438) (o := .cells #[.int .i64 a0_0, .slice A0_1 l0_1.length c0_1] 24 (0, 0)) (by (with_reducible repeat (first |  refine zKn ?_ _|  refine zKd ?_|  refine zKa ?_ _)); exact BK438.out) hb); clear hb hbox hg; have hnb6 := NB438_439.out; have hnc6 := NB439_438.out; have hcz7_0 : w5.cell? ⟨gb438, 0, none⟩ = some (.int .i64 a0_0) := (zKc BK438.out 0).trans rfl; have hcz7_1 : w5.cell? ⟨gb438, 1, none⟩ = some (.slice A0_1 l0_1.length c0_1) := (zKc BK438.out 1).trans rfl; have hfz7_0 := zKf BK438.out 0; have hfz7_1 := zKf BK438.out 1)|((with_reducible refine gate_callee (f := 11) rfl ?_); refine goesL_ (some 9) rfl rfl Try.func11 (by kernel_rfl) rfl #[.agg #[.int .i64 a0_0, .slice A0_1 l0_1.length c0_1]] rfl (by (try simp only [zMa, zMc, zMn]); first |  done|  rfl|  (simp only [zLd, zLt]; rfl)) ?_; (with_reducible refine (graph_Right.calls k a0_0 _ _ l0_1 t440 _ ?side1 ?side2 A2.out).mono ?_); (case side1 => repeat (first |  exact (Kd.C_below HR0_1.out HB.out)|(with_reducible refine zCa ?_ _)|(with_reducible refine zCn ?_ _)|(with_reducible refine zCd ?_))); (case side2 => exact HC0_1.out); rintro e w8 ⟨rfl, hb⟩; refine ⟨_, rfl, ?_⟩; replace BK438 := zMk (zKb (g := gb438) (o := .cells #[.int .i64 a0_0, .slice A0_1 l0_1.length c0_1] 24 (0, 0)) (by (with_reducible repeat (first |  refine zKn ?_ _|  refine zKd ?_|  refine zKa ?_ _)); exact BK438.out) hb); replace BK439 := zMk (zKb (g := gb439) (o := .cells #[.int .i64 0, .slice none 0 0] 24 (0, 0)) (by (with_reducible repeat (first |  refine zKn ?_ _|  refine zKd ?_|  refine zKa ?_ _)); exact BK439.out) hb); replace HB := zMk (zBt (by exact uT HB.out) hb); have hcz9_0 : w8.cell? ⟨gb438, 0, none⟩ = some (.int .i64 a0_0) := (zKc BK438.out 0).trans rfl; have hcz9_1 : w8.cell? ⟨gb438, 1, none⟩ = some (.slice A0_1 l0_1.length c0_1) := (zKc BK438.out 1).trans rfl; have hfz9_0 := zKf BK438.out 0; have hfz9_1 := zKf BK438.out 1)|((with_reducible refine gate_dst (N := 5) rfl ?_); refine box_event ?hg (N := 5) ?hd (cs := #[.int .i64 0, .slice none 0 0]) (t := 24) ?hr ?_; (case hd => rfl); (case hg => rfl); (case hr => first | (go_simp; done)|(go_simp; rfl)|(go_simp; rw [show ∀ x : Int, IntKind.u32.wrap (IntKind.u8.wrap x) = x % 256 from fun x => (by show (x % 256) % 4294967296 = x % 256; omega)])); intro gb441 hg w10 hbox hb; have BK441 := zMk (hbox); have GW441 := zMk ((by rw [hg]; exact (zBs (by exact uT HB.out)) : w.heap.size ≤ gb441)); have GE441 := zMk ((by rw [hg]; exact (zBs (by exact uT HB.out)) : w.heap.size ≤ gb441)); have IGE441 := ownGe GE441.out; replace HB := zMk (zBt (by exact uT HB.out) hb); have NB438_441 := zMk ((by rw [hg]; exact Nat.ne_of_lt (blk_lt (g := gb438) (o := .cells #[.int .i64 a0_0, .slice A0_1 l0_1.length c0_1] 24 (0, 0)) (by (with_reducible repeat (first |  refine zKn ?_ _|  refine zKd ?_|  refine zKa ?_ _)); exact BK438.out)) : gb438 ≠ gb441)); have NB441_438 := zMk ((by rw [hg]; exact Nat.ne_of_gt (blk_lt (g := gb438) (o := .cells #[.int .i64 a0_0, .slice A0_1 l0_1.length c0_1] 24 (0, 0)) (by (with_reducible repeat (first |  refine zKn ?_ _|  refine zKd ?_|  refine zKa ?_ _)); exact BK438.out)) : gb441 ≠ gb438)); replace BK438 := zMk (zKb (g := gb438) (o := .cells #[.int .i64 a0_0, .slice A0_1 l0_1.length c0_1] 24 (0, 0)) (by (with_reducible repeat (first |  refine zKn ?_ _|  refine zKd ?_|  refine zKa ?_ _)); exact BK438.out) hb); have NB439_441 := zMk ((by rw [hg]; exact Nat.ne_of_lt (blk_lt (g := gb439) (o := .cells #[.int .i64 0, .slice none 0 0] 24 (0, 0)) (by (with_reducible repeat (first |  refine zKn ?_ _|  refine zKd ?_|  refine zKa ?_ _)); exact BK439.out)) : gb439 ≠ gb441)); have NB441_439 := zMk ((by rw [hg]; exact Nat.ne_of_gt (blk_lt (g := gb439) (o := .cells #[.int .i64 0, .slice none 0 0] 24 (0, 0)) (by (with_reducible repeat (first |  refine zKn ?_ _|  refine zKd ?_|  refine zKa ?_ _)); exact BK439.out)) : gb441 ≠ gb439)); replace BK439 := zMk (zKb (g := gb439) (o := .cells #[.int .i64 0, .slice none 0 0] 24 (0, 0)) (by (with_reducible repeat (first |  refine zKn ?_ _|  refine zKd ?_|  refine zKa ?_ _)); exact BK439.out) hb); clear hb hbox hg; have hnb11 := NB441_438.out; have hnc11 := NB438_441.out; have hnb12 := NB441_439.out; have hnc12 := NB439_441.out; have hcz13_0 : w10.cell? ⟨gb441, 0, none⟩ = some (.int .i64 0) := (zKc BK441.out 0).trans rfl; have hcz13_1 : w10.cell? ⟨gb441, 1, none⟩ = some (.slice none 0 0) := (zKc BK441.out 1).trans rfl; have hfz13_0 := zKf BK441.out 0; have hfz13_1 := zKf BK441.out 1; have hcz14_0 : w10.cell? ⟨gb438, 0, none⟩ = some (.int .i64 a0_0) := (zKc BK438.out 0).trans rfl; have hcz14_1 : w10.cell? ⟨gb438, 1, none⟩ = some (.slice A0_1 l0_1.length c0_1) := (zKc BK438.out 1).trans rfl; have hfz14_0 := zKf BK438.out 0; have hfz14_1 := zKf BK438.out 1))
    go_loopg [18] k (fun kq v18 w' => ∃ (x18_1 : Int) (x442001_1 : List (S36)) (u442001 : Value), v18 = .int .i64 x18_1 ∧ Aside0 (graph_some.l0 pf kq l0_1 (l0_1.length : Int) x18_1 a0_0 x442001_1 = some (r1, r2)) ∧ Aside0 (kq ≤ k) ∧ Aside0 (Kd.R k36 36 w' w.heap.size (fun _ => True) u442001 x442001_1) ∧ Aside0 (w'.heap[gb438]? = some (.cells #[.int .i64 a0_0, (.slice A0_1 l0_1.length c0_1)] 24 (0, 0))) ∧ Aside0 (w'.heap[gb439]? = some (.cells #[.int .i64 0, (.slice none 0 0)] 24 (0, 0))) ∧ Aside0 (w'.heap[gb441]? = some (.cells #[.int .i64 a0_0, u442001] 24 (0, 0))) ∧ Aside0 (Below w.heap.size w w'))
    case atStart => exact ⟨(0), (([] : List (S36))), (.slice none 0 0), (by first | rfl | (simp; done) | (simp [*]; done)), H', ⟨Nat.le_refl _⟩, ⟨by first | exact Kd.R_nil _ _ _ _ _ | exact Kd.N_nil _ _ _ _ _ | exact Kd.V_nil _ _ _ _ _ | exact Kd.Q_nil _ _ _ _ _ | exact Kd.S_nil _ _ _ _ _⟩, ⟨by (with_reducible repeat (first | refine zKn ?_ _ | refine zKd ?_ | refine zKa ?_ _)); refine blk_far ?_ NB438_441.out _; (with_reducible repeat (first | refine zKn ?_ _ | refine zKd ?_ | refine zKa ?_ _)); refine blk_far ?_ NB438_441.out _; (with_reducible repeat (first | refine zKn ?_ _ | refine zKd ?_ | refine zKa ?_ _)); exact BK438.out⟩, ⟨by (with_reducible repeat (first | refine zKn ?_ _ | refine zKd ?_ | refine zKa ?_ _)); refine blk_far ?_ NB439_441.out _; (with_reducible repeat (first | refine zKn ?_ _ | refine zKd ?_ | refine zKa ?_ _)); refine blk_far ?_ NB439_441.out _; (with_reducible repeat (first | refine zKn ?_ _ | refine zKd ?_ | refine zKa ?_ _)); exact BK439.out⟩, ⟨by (with_reducible repeat (first | refine zKn ?_ _ | refine zKd ?_ | refine zKa ?_ _)); refine blk_put (cs := #[.int .i64 a0_0, .slice none 0 0]) ?_ 1 _ rfl; (with_reducible repeat (first | refine zKn ?_ _ | refine zKd ?_ | refine zKa ?_ _)); refine blk_put (cs := #[.int .i64 0, .slice none 0 0]) ?_ 0 _ rfl; (with_reducible repeat (first | refine zKn ?_ _ | refine zKd ?_ | refine zKa ?_ _)); exact BK441.out⟩, ⟨by exact uT HB.out⟩⟩
    clear H'
    obtain ⟨x18_1, x442001_1, u442001, rfl, HA, HK1, HO_442001, BK438, BK439, BK441, HB⟩ := hrel
    rcases gk with _ | k1
    · exact absurd HA.out (by simp [graph_some.l0])
    have H := HA.out
    clear HA
    simp only [graph_some.l0] at H
    by_cases c15 : x18_1 < (l0_1.length : Int)
    · rw [if_pos c15] at H
      have c15b0 : decide (x18_1 < (l0_1.length : Int)) = true := decide_eq_true c15
      clear c15
      by_cases c16 : 0 ≤ x18_1
      rotate_left
      · rw [if_neg c16] at H; exact absurd H (by simp)
      rw [if_pos c16] at H
      have c16b0 : decide (0 ≤ x18_1) = true := decide_eq_true c16
      clear c16
      by_cases c17 : x18_1 < (l0_1.length : Int)
      rotate_left
      · rw [if_neg c17] at H; exact absurd H (by simp)
      rw [if_pos c17] at H
      have c17b0 : decide (x18_1 < (l0_1.length : Int)) = true := decide_eq_true c17
      clear c17
      replace H := bnd H
      obtain ⟨t444, A180, H⟩ := H
      have A18 := zMk A180
      clear A180
      by_cases c19 : t444 = true
      · subst c19
        replace H : (if x442001_1.length < 5864062014805 then (graph_some.l0 pf k1 l0_1 (l0_1.length : Int) (wrap64 (x18_1 + 1)) a0_0 (x442001_1 ++ [(⟨(rd_T36 l0_1 x18_1).f0, (rd_T36 l0_1 x18_1).f1, (rd_T36 l0_1 x18_1).f2⟩ : S36)])) else (none)) = some (r1, r2) := by rw [if_pos rfl] at H; exact H
        by_cases c20 : x442001_1.length < 5864062014805
        rotate_left
        · rw [if_neg c20] at H; exact absurd H (by simp)
        rw [if_pos c20] at H
        have LMc20 := zMk c20
        clear c20
        obtain ⟨y445, hy445⟩ : ∃ y_ : List (S36), y_ = (x442001_1 ++ [(⟨(rd_T36 l0_1 x18_1).f0, (rd_T36 l0_1 x18_1).f1, (rd_T36 l0_1 x18_1).f2⟩ : S36)]) := ⟨_, rfl⟩
        replace H : (graph_some.l0 pf k1 l0_1 (l0_1.length : Int) (wrap64 (x18_1 + 1)) a0_0 y445) = some (r1, r2) := by first | (rw [hy445]; with_reducible exact H) | (have H2_ := bsm H; first | (rw [hy445]; with_reducible exact H2_) | with_reducible exact H2_) | with_reducible exact H | (rw [hy445]; exact H) | exact H
        have Ny445 := zMk hy445
        clear hy445
        have H' := zMk H
        clear H
        have p442 : 0 ≤ (x18_1 : Int) := of_decide_eq_true (by assumption)
        have q442 : x18_1 < (l0_1.length : Int) := of_decide_eq_true (by assumption)
        obtain ⟨ad442, e442, hx442_0, hx442_1, hx442_2⟩ := at_T36 HR0_1.out x18_1 p442 q442
        cases e442
        replace hx442_0 := (HB.out.cell (World.block_lt_of_cell? w _ hx442_0)).trans hx442_0
        replace hx442_1 := (HB.out.cell (World.block_lt_of_cell? w _ hx442_1)).trans hx442_1
        replace hx442_2 := (HB.out.cell (World.block_lt_of_cell? w _ hx442_2)).trans hx442_2
        replace p442 := eq_true p442
        replace q442 := eq_true q442
        go_wp2_with (first | ((with_reducible refine gate_dst (N := 7) rfl ?_); refine box_event ?hg (N := 7) ?hd (cs := #[.int .i64 0, .int .i64 0, .int .i64 0]) (t := 36) ?hr ?_; (case hd => rfl); (case hg => rfl); (case hr => first | (go_simp; done)|(go_simp; rfl)|(go_simp; rw [show ∀ x : Int, IntKind.u32.wrap (IntKind.u8.wrap x) = x % 256 from fun x => (by show (x % 256) % 4294967296 = x % 256; omega)])); intro gb443 hg w21 hbox hb; replace HO_442001 := zMk (zRb (Kd.R_elderB (by exact uR HO_442001.out) gb443 (Nat.le_of_eq hg.symm)) hb); have BK443 := zMk (hbox); have GW443 := zMk ((by rw [hg]; exact (zBs (by exact uT HB.out)) : w.heap.size ≤ gb443)); have GE443 := zMk ((by rw [hg]; exact (zBs (by exact uT HB.out)) : w.heap.size ≤ gb443)); have IGE443 := ownGe GE443.out; replace HB := zMk (zBt (by exact uT HB.out) hb); have NB438_443 := zMk ((by rw [hg]; exact Nat.ne_of_lt (blk_lt (g := gb438) (o := .cells #[.int .i64 a0_0, .slice (some ad442) l0_1.length c0_1] 24 (0, 0)) (by (with_reducible repeat (first |  refine zKn ?_ _|  refine zKd ?_|  refine zKa ?_ _)); exact BK438.out)) : gb438 ≠ gb443)); have NB443_438 := zMk ((by rw [hg]; exact Nat.ne_of_gt (blk_lt (g := gb438) (o := .cells #[.int .i64 a0_0, .slice (some ad442) l0_1.length c0_1] 24 (0, 0)) (by (with_reducible repeat (first |  refine zKn ?_ _|  refine zKd ?_|  refine zKa ?_ _)); exact BK438.out)) : gb443 ≠ gb438)); replace BK438 := zMk (zKb (g := gb438) (o := .cells #[.int .i64 a0_0, .slice (some ad442) l0_1.length c0_1] 24 (0, 0)) (by (with_reducible repeat (first |  refine zKn ?_ _|  refine zKd ?_|  refine zKa ?_ _)); exact BK438.out) hb); have NB439_443 := zMk ((by rw [hg]; exact Nat.ne_of_lt (blk_lt (g := gb439) (o := .cells #[.int .i64 0, .slice none 0 0] 24 (0, 0)) (by (with_reducible repeat (first |  refine zKn ?_ _|  refine zKd ?_|  refine zKa ?_ _)); exact BK439.out)) : gb439 ≠ gb443)); have NB443_439 := zMk ((by rw [hg]; exact Nat.ne_of_gt (blk_lt (g := gb439) (o := .cells #[.int .i64 0, .slice none 0 0] 24 (0, 0)) (by (with_reducible repeat (first |  refine zKn ?_ _|  refine zKd ?_|  refine zKa ?_ _)); exact BK439.out)) : gb443 ≠ gb439)); replace BK439 := zMk (zKb (g := gb439) (o := .cells #[.int .i64 0, .slice none 0 0] 24 (0, 0)) (by (with_reducible repeat (first |  refine zKn ?_ _|  refine zKd ?_|  refine zKa ?_ _)); exact BK439.out) hb); have NB441_443 := zMk ((by rw [hg]; exact Nat.ne_of_lt (blk_lt (g := gb441) (o := .cells #[.int .i64 a0_0, u442001] 24 (0, 0)) (by (with_reducible repeat (first |  refine zKn ?_ _|  refine zKd ?_|  refine zKa ?_ _)); exact BK441.out)) : gb441 ≠ gb443)); have NB443_441 := zMk ((by rw [hg]; exact Nat.ne_of_gt (blk_lt (g := gb441) (o := .cells #[.int .i64 a0_0, u442001] 24 (0, 0)) (by (with_reducible repeat (first |  refine zKn ?_ _|  refine zKd ?_|  refine zKa ?_ _)); exact BK441.out)) : gb443 ≠ gb441)); replace BK441 := zMk (zKb (g := gb441) (o := .cells #[.int .i64 a0_0, u442001] 24 (0, 0)) (by (with_reducible repeat (first |  refine zKn ?_ _|  refine zKd ?_|  refine zKa ?_ _)); exact BK441.out) hb); clear hb hbox hg; have hnb22 := NB443_438.out; have hnc22 := NB438_443.out; have hnb23 := NB443_439.out; have hnc23 := NB439_443.out; have hnb24 := NB443_441.out; have hnc24 := NB441_443.out; have hcz25_0 : w21.cell? ⟨gb443, 0, none⟩ = some (.int .i64 0) := (zKc BK443.out 0).trans rfl; have hcz25_1 : w21.cell? ⟨gb443, 1, none⟩ = some (.int .i64 0) := (zKc BK443.out 1).trans rfl; have hcz25_2 : w21.cell? ⟨gb443, 2, none⟩ = some (.int .i64 0) := (zKc BK443.out 2).trans rfl; have hfz25_0 := zKf BK443.out 0; have hfz25_1 := zKf BK443.out 1; have hfz25_2 := zKf BK443.out 2)|(go_at_call 44; refine (HF.out _ _ _ _ true _ (by exact uT HB.out) A18.out).mono ?_; rintro e w26 ⟨rfl, hb⟩; replace HO_442001 := zMk (zRb (by (with_reducible repeat (first |  apply zRa|  apply zRn|  apply zRd)); exact (zRm (Kd.R_far (p := ⟨gb443, 2, none⟩) (Kd.R_far (p := ⟨gb443, 1, none⟩) (Kd.R_far (p := ⟨gb443, 0, none⟩) (zRm HO_442001.out (fun k_ hk => (⟨hk, hk.2⟩ : _ ∧ k_ ≠ gb443))) (fun _ hk => hk.2) (.int .i64 ((rd_T36 l0_1 x18_1).f0))) (fun _ hk => hk.2) (.int .i64 ((rd_T36 l0_1 x18_1).f1))) (fun _ hk => hk.2) (.int .i64 ((rd_T36 l0_1 x18_1).f2))) (fun _ h_ => h_.1))) hb); replace BK438 := zMk (zKb (g := gb438) (o := .cells #[.int .i64 a0_0, .slice (some ad442) l0_1.length c0_1] 24 (0, 0)) (by (with_reducible repeat (first |  refine zKn ?_ _|  refine zKd ?_|  refine zKa ?_ _)); refine blk_far ?_ NB438_443.out _; (with_reducible repeat (first |  refine zKn ?_ _|  refine zKd ?_|  refine zKa ?_ _)); refine blk_far ?_ NB438_443.out _; (with_reducible repeat (first |  refine zKn ?_ _|  refine zKd ?_|  refine zKa ?_ _)); refine blk_far ?_ NB438_443.out _; (with_reducible repeat (first |  refine zKn ?_ _|  refine zKd ?_|  refine zKa ?_ _)); exact BK438.out) hb); replace BK439 := zMk (zKb (g := gb439) (o := .cells #[.int .i64 0, .slice none 0 0] 24 (0, 0)) (by (with_reducible repeat (first |  refine zKn ?_ _|  refine zKd ?_|  refine zKa ?_ _)); refine blk_far ?_ NB439_443.out _; (with_reducible repeat (first |  refine zKn ?_ _|  refine zKd ?_|  refine zKa ?_ _)); refine blk_far ?_ NB439_443.out _; (with_reducible repeat (first |  refine zKn ?_ _|  refine zKd ?_|  refine zKa ?_ _)); refine blk_far ?_ NB439_443.out _; (with_reducible repeat (first |  refine zKn ?_ _|  refine zKd ?_|  refine zKa ?_ _)); exact BK439.out) hb); replace BK441 := zMk (zKb (g := gb441) (o := .cells #[.int .i64 a0_0, u442001] 24 (0, 0)) (by (with_reducible repeat (first |  refine zKn ?_ _|  refine zKd ?_|  refine zKa ?_ _)); refine blk_far ?_ NB441_443.out _; (with_reducible repeat (first |  refine zKn ?_ _|  refine zKd ?_|  refine zKa ?_ _)); refine blk_far ?_ NB441_443.out _; (with_reducible repeat (first |  refine zKn ?_ _|  refine zKd ?_|  refine zKa ?_ _)); refine blk_far ?_ NB441_443.out _; (with_reducible repeat (first |  refine zKn ?_ _|  refine zKd ?_|  refine zKa ?_ _)); exact BK441.out) hb); replace BK443 := zMk (zKb (g := gb443) (o := .cells #[.int .i64 ((rd_T36 l0_1 x18_1).f0), .int .i64 ((rd_T36 l0_1 x18_1).f1), .int .i64 ((rd_T36 l0_1 x18_1).f2)] 36 (0, 0)) (by (with_reducible repeat (first |  refine zKn ?_ _|  refine zKd ?_|  refine zKa ?_ _)); refine blk_put (cs := #[.int .i64 ((rd_T36 l0_1 x18_1).f0), .int .i64 ((rd_T36 l0_1 x18_1).f1), .int .i64 0]) ?_ 2 _ rfl; (with_reducible repeat (first |  refine zKn ?_ _|  refine zKd ?_|  refine zKa ?_ _)); refine blk_put (cs := #[.int .i64 ((rd_T36 l0_1 x18_1).f0), .int .i64 0, .int .i64 0]) ?_ 1 _ rfl; (with_reducible repeat (first |  refine zKn ?_ _|  refine zKd ?_|  refine zKa ?_ _)); refine blk_put (cs := #[.int .i64 0, .int .i64 0, .int .i64 0]) ?_ 0 _ rfl; (with_reducible repeat (first |  refine zKn ?_ _|  refine zKd ?_|  refine zKa ?_ _)); exact BK443.out) hb); replace HB := zMk (zBt (by exact uT HB.out) hb); have hnb27 := NB441_438.out; have hnc27 := NB438_441.out; have hnb28 := NB441_439.out; have hnc28 := NB439_441.out; have hcz29_0 : w26.cell? ⟨gb441, 0, none⟩ = some (.int .i64 a0_0) := (zKc BK441.out 0).trans rfl; have hcz29_1 : w26.cell? ⟨gb441, 1, none⟩ = some (u442001) := (zKc BK441.out 1).trans rfl; have hfz29_0 := zKf BK441.out 0; have hfz29_1 := zKf BK441.out 1; have hcz30_0 : w26.cell? ⟨gb443, 0, none⟩ = some (.int .i64 ((rd_T36 l0_1 x18_1).f0)) := (zKc BK443.out 0).trans rfl; have hcz30_1 : w26.cell? ⟨gb443, 1, none⟩ = some (.int .i64 ((rd_T36 l0_1 x18_1).f1)) := (zKc BK443.out 1).trans rfl; have hcz30_2 : w26.cell? ⟨gb443, 2, none⟩ = some (.int .i64 ((rd_T36 l0_1 x18_1).f2)) := (zKc BK443.out 2).trans rfl; have hfz30_0 := zKf BK443.out 0; have hfz30_1 := zKf BK443.out 1; have hfz30_2 := zKf BK443.out 2)|((with_reducible refine gate_builtin (b := .append) (xs := #[.tmp 28, .tmp 30]) rfl ?_); at_builtin; refine Kd.R_append k36 (w0 := w) w.heap.size rfl (.tmp 28) (.tmp 30) 22 36 (.agg #[(.int .i64 0), (.int .i64 0), (.int .i64 0)]) 24 rfl Try.underlying22 info36 rfl (by decide) (by omega) u442001 x442001_1 (⟨(rd_T36 l0_1 x18_1).f0, (rd_T36 l0_1 x18_1).f1, (rd_T36 l0_1 x18_1).f2⟩ : S36) [.int .i64 ((rd_T36 l0_1 x18_1).f0), .int .i64 ((rd_T36 l0_1 x18_1).f1), .int .i64 ((rd_T36 l0_1 x18_1).f2)] (fun k_ => k_ ≠ gb443) (fun _ => False) rfl rfl ?aP (fun _ hk => hk.elim) ?aF ?aO ?aB ?aS ?aL ?_; (case aP => exact k36_mkM _ _ _ (⟨(rd_T36 l0_1 x18_1).f0, (rd_T36 l0_1 x18_1).f1, (rd_T36 l0_1 x18_1).f2⟩ : S36)); (case aB => exact (by exact uT HB.out)); (case aF => exact (fun k_ hk => Kd.freshB (g := gb443) (o := .cells #[.int .i64 ((rd_T36 l0_1 x18_1).f0), .int .i64 ((rd_T36 l0_1 x18_1).f1), .int .i64 ((rd_T36 l0_1 x18_1).f2)] 36 (0, 0)) (by (with_reducible repeat (first |  refine zKn ?_ _|  refine zKd ?_|  refine zKa ?_ _)); exact BK443.out) k_ hk)); (case aO => exact (by (with_reducible repeat (first |  apply zRa|  apply zRn|  apply zRd)); exact zRm HO_442001.out (fun _ hk => hk.2))); (case aS => exact (zBs (by exact uT HB.out))); (case aL => have := LMc20.out; omega); intro v446 w31 ho hb hg hat; rw [← Ny445.out] at ho; replace BK438 := zMk (blk_grown (g := gb438) (o := .cells #[.int .i64 a0_0, .slice (some ad442) l0_1.length c0_1] 24 (0, 0)) (by (with_reducible repeat (first |  refine zKn ?_ _|  refine zKd ?_|  refine zKa ?_ _)); exact BK438.out) hg (Kd.R_ne HO_442001.out BK438.out (by decide))); replace BK439 := zMk (blk_grown (g := gb439) (o := .cells #[.int .i64 0, .slice none 0 0] 24 (0, 0)) (by (with_reducible repeat (first |  refine zKn ?_ _|  refine zKd ?_|  refine zKa ?_ _)); exact BK439.out) hg (Kd.R_ne HO_442001.out BK439.out (by decide))); replace BK441 := zMk (blk_grown (g := gb441) (o := .cells #[.int .i64 a0_0, u442001] 24 (0, 0)) (by (with_reducible repeat (first |  refine zKn ?_ _|  refine zKd ?_|  refine zKa ?_ _)); exact BK441.out) hg (Kd.R_ne HO_442001.out BK441.out (by decide))); replace BK443 := zMk (blk_grown (g := gb443) (o := .cells #[.int .i64 ((rd_T36 l0_1 x18_1).f0), .int .i64 ((rd_T36 l0_1 x18_1).f1), .int .i64 ((rd_T36 l0_1 x18_1).f2)] 36 (0, 0)) (by (with_reducible repeat (first |  refine zKn ?_ _|  refine zKd ?_|  refine zKa ?_ _)); exact BK443.out) hg (Kd.R_away HO_442001.out (fun _ hk => hk.2))); replace HB := zMk (hb); have HO447 := zMk (ho); clear HO_442001 ho hb hg hat; obtain ⟨Ao32, co32, eo32⟩ := zRs HO447.out; subst eo32; have hcz33_0 : w31.cell? ⟨gb441, 0, none⟩ = some (.int .i64 a0_0) := (zKc BK441.out 0).trans rfl; have hcz33_1 : w31.cell? ⟨gb441, 1, none⟩ = some (u442001) := (zKc BK441.out 1).trans rfl; have hfz33_0 := zKf BK441.out 0; have hfz33_1 := zKf BK441.out 1))
        go_roundg k1
        case measure => have := HK1.out; omega
        case rel => exact ⟨(wrap64 (x18_1 + 1)), (y445), (.slice Ao32 y445.length co32), (by first | rfl | (simp; done) | (simp [*]; done)), H', ⟨by have := HK1.out; omega⟩, ⟨by (with_reducible repeat (first | apply zRa | apply zRn | apply zRd)); exact zRm (Kd.R_far (p := ⟨gb441, 1, none⟩) (Kd.R_types HO447.out BK441.out (by decide)) (fun _ hk => hk.2) (.slice Ao32 y445.length co32)) (fun _ hk => trivial)⟩, ⟨by (with_reducible repeat (first | refine zKn ?_ _ | refine zKd ?_ | refine zKa ?_ _)); refine blk_far ?_ NB438_441.out _; (with_reducible repeat (first | refine zKn ?_ _ | refine zKd ?_ | refine zKa ?_ _)); exact BK438.out⟩, ⟨by (with_reducible repeat (first | refine zKn ?_ _ | refine zKd ?_ | refine zKa ?_ _)); refine blk_far ?_ NB439_441.out _; (with_reducible repeat (first | refine zKn ?_ _ | refine zKd ?_ | refine zKa ?_ _)); exact BK439.out⟩, ⟨by (with_reducible repeat (first | refine zKn ?_ _ | refine zKd ?_ | refine zKa ?_ _)); refine blk_put (cs := #[.int .i64 a0_0, u442001]) ?_ 1 _ rfl; (with_reducible repeat (first | refine zKn ?_ _ | refine zKd ?_ | refine zKa ?_ _)); exact BK441.out⟩, ⟨by exact uT HB.out⟩⟩
      · replace c19 := Bool.eq_false_iff.mpr c19
        subst c19
        replace H : (graph_some.l0 pf k1 l0_1 (l0_1.length : Int) (wrap64 (x18_1 + 1)) a0_0 x442001_1) = some (r1, r2) := by rw [if_neg (show ¬ (false = true) by decide)] at H; exact H
        have H' := zMk H
        clear H
        have p442 : 0 ≤ (x18_1 : Int) := of_decide_eq_true (by assumption)
        have q442 : x18_1 < (l0_1.length : Int) := of_decide_eq_true (by assumption)
        obtain ⟨ad442, e442, hx442_0, hx442_1, hx442_2⟩ := at_T36 HR0_1.out x18_1 p442 q442
        cases e442
        replace hx442_0 := (HB.out.cell (World.block_lt_of_cell? w _ hx442_0)).trans hx442_0
        replace hx442_1 := (HB.out.cell (World.block_lt_of_cell? w _ hx442_1)).trans hx442_1
        replace hx442_2 := (HB.out.cell (World.block_lt_of_cell? w _ hx442_2)).trans hx442_2
        replace p442 := eq_true p442
        replace q442 := eq_true q442
        go_wp2_with (first | ((with_reducible refine gate_dst (N := 7) rfl ?_); refine box_event ?hg (N := 7) ?hd (cs := #[.int .i64 0, .int .i64 0, .int .i64 0]) (t := 36) ?hr ?_; (case hd => rfl); (case hg => rfl); (case hr => first | (go_simp; done)|(go_simp; rfl)|(go_simp; rw [show ∀ x : Int, IntKind.u32.wrap (IntKind.u8.wrap x) = x % 256 from fun x => (by show (x % 256) % 4294967296 = x % 256; omega)])); intro gb443 hg w34 hbox hb; replace HO_442001 := zMk (zRb (Kd.R_elderB (by exact uR HO_442001.out) gb443 (Nat.le_of_eq hg.symm)) hb); have BK443 := zMk (hbox); have GW443 := zMk ((by rw [hg]; exact (zBs (by exact uT HB.out)) : w.heap.size ≤ gb443)); have GE443 := zMk ((by rw [hg]; exact (zBs (by exact uT HB.out)) : w.heap.size ≤ gb443)); have IGE443 := ownGe GE443.out; replace HB := zMk (zBt (by exact uT HB.out) hb); have NB438_443 := zMk ((by rw [hg]; exact Nat.ne_of_lt (blk_lt (g := gb438) (o := .cells #[.int .i64 a0_0, .slice (some ad442) l0_1.length c0_1] 24 (0, 0)) (by (with_reducible repeat (first |  refine zKn ?_ _|  refine zKd ?_|  refine zKa ?_ _)); exact BK438.out)) : gb438 ≠ gb443)); have NB443_438 := zMk ((by rw [hg]; exact Nat.ne_of_gt (blk_lt (g := gb438) (o := .cells #[.int .i64 a0_0, .slice (some ad442) l0_1.length c0_1] 24 (0, 0)) (by (with_reducible repeat (first |  refine zKn ?_ _|  refine zKd ?_|  refine zKa ?_ _)); exact BK438.out)) : gb443 ≠ gb438)); replace BK438 := zMk (zKb (g := gb438) (o := .cells #[.int .i64 a0_0, .slice (some ad442) l0_1.length c0_1] 24 (0, 0)) (by (with_reducible repeat (first |  refine zKn ?_ _|  refine zKd ?_|  refine zKa ?_ _)); exact BK438.out) hb); have NB439_443 := zMk ((by rw [hg]; exact Nat.ne_of_lt (blk_lt (g := gb439) (o := .cells #[.int .i64 0, .slice none 0 0] 24 (0, 0)) (by (with_reducible repeat (first |  refine zKn ?_ _|  refine zKd ?_|  refine zKa ?_ _)); exact BK439.out)) : gb439 ≠ gb443)); have NB443_439 := zMk ((by rw [hg]; exact Nat.ne_of_gt (blk_lt (g := gb439) (o := .cells #[.int .i64 0, .slice none 0 0] 24 (0, 0)) (by (with_reducible repeat (first |  refine zKn ?_ _|  refine zKd ?_|  refine zKa ?_ _)); exact BK439.out)) : gb443 ≠ gb439)); replace BK439 := zMk (zKb (g := gb439) (o := .cells #[.int .i64 0, .slice none 0 0] 24 (0, 0)) (by (with_reducible repeat (first |  refine zKn ?_ _|  refine zKd ?_|  refine zKa ?_ _)); exact BK439.out) hb); have NB441_443 := zMk ((by rw [hg]; exact Nat.ne_of_lt (blk_lt (g := gb441) (o := .cells #[.int .i64 a0_0, u442001] 24 (0, 0)) (by (with_reducible repeat (first |  refine zKn ?_ _|  refine zKd ?_|  refine zKa ?_ _)); exact BK441.out)) : gb441 ≠ gb443)); have NB443_441 := zMk ((by rw [hg]; exact Nat.ne_of_gt (blk_lt (g := gb441) (o := .cells #[.int .i64 a0_0, u442001] 24 (0, 0)) (by (with_reducible repeat (first |  refine zKn ?_ _|  refine zKd ?_|  refine zKa ?_ _)); exact BK441.out)) : gb443 ≠ gb441)); replace BK441 := zMk (zKb (g := gb441) (o := .cells #[.int .i64 a0_0, u442001] 24 (0, 0)) (by (with_reducible repeat (first |  refine zKn ?_ _|  refine zKd ?_|  refine zKa ?_ _)); exact BK441.out) hb); clear hb hbox hg; have hnb35 := NB443_438.out; have hnc35 := NB438_443.out; have hnb36 := NB443_439.out; have hnc36 := NB439_443.out; have hnb37 := NB443_441.out; have hnc37 := NB441_443.out; have hcz38_0 : w34.cell? ⟨gb443, 0, none⟩ = some (.int .i64 0) := (zKc BK443.out 0).trans rfl; have hcz38_1 : w34.cell? ⟨gb443, 1, none⟩ = some (.int .i64 0) := (zKc BK443.out 1).trans rfl; have hcz38_2 : w34.cell? ⟨gb443, 2, none⟩ = some (.int .i64 0) := (zKc BK443.out 2).trans rfl; have hfz38_0 := zKf BK443.out 0; have hfz38_1 := zKf BK443.out 1; have hfz38_2 := zKf BK443.out 2)|(go_at_call 44; refine (HF.out _ _ _ _ false _ (by exact uT HB.out) A18.out).mono ?_; rintro e w39 ⟨rfl, hb⟩; replace HO_442001 := zMk (zRb (by (with_reducible repeat (first |  apply zRa|  apply zRn|  apply zRd)); exact (zRm (Kd.R_far (p := ⟨gb443, 2, none⟩) (Kd.R_far (p := ⟨gb443, 1, none⟩) (Kd.R_far (p := ⟨gb443, 0, none⟩) (zRm HO_442001.out (fun k_ hk => (⟨hk, hk.2⟩ : _ ∧ k_ ≠ gb443))) (fun _ hk => hk.2) (.int .i64 ((rd_T36 l0_1 x18_1).f0))) (fun _ hk => hk.2) (.int .i64 ((rd_T36 l0_1 x18_1).f1))) (fun _ hk => hk.2) (.int .i64 ((rd_T36 l0_1 x18_1).f2))) (fun _ h_ => h_.1))) hb); replace BK438 := zMk (zKb (g := gb438) (o := .cells #[.int .i64 a0_0, .slice (some ad442) l0_1.length c0_1] 24 (0, 0)) (by (with_reducible repeat (first |  refine zKn ?_ _|  refine zKd ?_|  refine zKa ?_ _)); refine blk_far ?_ NB438_443.out _; (with_reducible repeat (first |  refine zKn ?_ _|  refine zKd ?_|  refine zKa ?_ _)); refine blk_far ?_ NB438_443.out _; (with_reducible repeat (first |  refine zKn ?_ _|  refine zKd ?_|  refine zKa ?_ _)); refine blk_far ?_ NB438_443.out _; (with_reducible repeat (first |  refine zKn ?_ _|  refine zKd ?_|  refine zKa ?_ _)); exact BK438.out) hb); replace BK439 := zMk (zKb (g := gb439) (o := .cells #[.int .i64 0, .slice none 0 0] 24 (0, 0)) (by (with_reducible repeat (first |  refine zKn ?_ _|  refine zKd ?_|  refine zKa ?_ _)); refine blk_far ?_ NB439_443.out _; (with_reducible repeat (first |  refine zKn ?_ _|  refine zKd ?_|  refine zKa ?_ _)); refine blk_far ?_ NB439_443.out _; (with_reducible repeat (first |  refine zKn ?_ _|  refine zKd ?_|  refine zKa ?_ _)); refine blk_far ?_ NB439_443.out _; (with_reducible repeat (first |  refine zKn ?_ _|  refine zKd ?_|  refine zKa ?_ _)); exact BK439.out) hb); replace BK441 := zMk (zKb (g := gb441) (o := .cells #[.int .i64 a0_0, u442001] 24 (0, 0)) (by (with_reducible repeat (first |  refine zKn ?_ _|  refine zKd ?_|  refine zKa ?_ _)); refine blk_far ?_ NB441_443.out _; (with_reducible repeat (first |  refine zKn ?_ _|  refine zKd ?_|  refine zKa ?_ _)); refine blk_far ?_ NB441_443.out _; (with_reducible repeat (first |  refine zKn ?_ _|  refine zKd ?_|  refine zKa ?_ _)); refine blk_far ?_ NB441_443.out _; (with_reducible repeat (first |  refine zKn ?_ _|  refine zKd ?_|  refine zKa ?_ _)); exact BK441.out) hb); replace BK443 := zMk (zKb (g := gb443) (o := .cells #[.int .i64 ((rd_T36 l0_1 x18_1).f0), .int .i64 ((rd_T36 l0_1 x18_1).f1), .int .i64 ((rd_T36 l0_1 x18_1).f2)] 36 (0, 0)) (by (with_reducible repeat (first |  refine zKn ?_ _|  refine zKd ?_|  refine zKa ?_ _)); refine blk_put (cs := #[.int .i64 ((rd_T36 l0_1 x18_1).f0), .int .i64 ((rd_T36 l0_1 x18_1).f1), .int .i64 0]) ?_ 2 _ rfl; (with_reducible repeat (first |  refine zKn ?_ _|  refine zKd ?_|  refine zKa ?_ _)); refine blk_put (cs := #[.int .i64 ((rd_T36 l0_1 x18_1).f0), .int .i64 0, .int .i64 0]) ?_ 1 _ rfl; (with_reducible repeat (first |  refine zKn ?_ _|  refine zKd ?_|  refine zKa ?_ _)); refine blk_put (cs := #[.int .i64 0, .int .i64 0, .int .i64 0]) ?_ 0 _ rfl; (with_reducible repeat (first |  refine zKn ?_ _|  refine zKd ?_|  refine zKa ?_ _)); exact BK443.out) hb); replace HB := zMk (zBt (by exact uT HB.out) hb)))
        go_roundg k1
        case measure => have := HK1.out; omega
        case rel => exact ⟨(wrap64 (x18_1 + 1)), (x442001_1), (u442001), (by first | rfl | (simp; done) | (simp [*]; done)), H', ⟨by have := HK1.out; omega⟩, ⟨by (with_reducible repeat (first | apply zRa | apply zRn | apply zRd)); exact zRm HO_442001.out (fun _ hk => trivial)⟩, ⟨by (with_reducible repeat (first | refine zKn ?_ _ | refine zKd ?_ | refine zKa ?_ _)); exact BK438.out⟩, ⟨by (with_reducible repeat (first | refine zKn ?_ _ | refine zKd ?_ | refine zKa ?_ _)); exact BK439.out⟩, ⟨by (with_reducible repeat (first | refine zKn ?_ _ | refine zKd ?_ | refine zKa ?_ _)); exact BK441.out⟩, ⟨by exact uT HB.out⟩⟩
    · rw [if_neg c15] at H
      have c15b0 : decide (x18_1 < (l0_1.length : Int)) = false := decide_eq_false c15
      clear c15
      simp only [Option.some.injEq, Prod.mk.injEq] at H
      obtain ⟨rfl, rfl⟩ := H
      have hnb40 := NB441_438.out
      have hnc40 := NB438_441.out
      have hnb41 := NB441_439.out
      have hnc41 := NB439_441.out
      have hcz42_0 : wr.cell? ⟨gb441, 0, none⟩ = some (.int .i64 a0_0) := (zKc BK441.out 0).trans rfl
      have hcz42_1 : wr.cell? ⟨gb441, 1, none⟩ = some (u442001) := (zKc BK441.out 1).trans rfl
      have hfz42_0 := zKf BK441.out 0
      have hfz42_1 := zKf BK441.out 1
      have hnb43 := NB439_438.out
      have hnc43 := NB438_439.out
      have hcz44_0 : wr.cell? ⟨gb439, 0, none⟩ = some (.int .i64 0) := (zKc BK439.out 0).trans rfl
      have hcz44_1 : wr.cell? ⟨gb439, 1, none⟩ = some (.slice none 0 0) := (zKc BK439.out 1).trans rfl
      have hfz44_0 := zKf BK439.out 0
      have hfz44_1 := zKf BK439.out 1
      obtain ⟨Ao45, co45, eo45⟩ := zRs HO_442001.out
      subst eo45
      go_wp2
      refine bodyPost_ret (results_cell_row rfl _ _ gb439 24 #[.int .i64 a0_0, .slice Ao45 x442001_1.length co45] (0, 0) _ rfl (by (with_reducible repeat (first | refine zKn ?_ _ | refine zKd ?_ | refine zKa ?_ _)); refine blk_put (cs := #[.int .i64 a0_0, .slice none 0 0]) ?_ 1 _ rfl; (with_reducible repeat (first | refine zKn ?_ _ | refine zKd ?_ | refine zKa ?_ _)); refine blk_put (cs := #[.int .i64 0, .slice none 0 0]) ?_ 0 _ rfl; (with_reducible repeat (first | refine zKn ?_ _ | refine zKd ?_ | refine zKa ?_ _)); exact BK439.out) Try.underlying24 rfl (by kernel_rfl)) rfl ?_
      exact ⟨_, by first | rfl | (simp [errW_none, errW_some] <;> rfl) | (simp [*, errW_none, errW_some] <;> rfl), by (with_reducible repeat (first | apply zRa | apply zRn | apply zRd)); exact zRm (Kd.R_far (p := ⟨gb439, 1, none⟩) (Kd.R_far (p := ⟨gb439, 0, none⟩) (Kd.R_types HO_442001.out BK439.out (by decide)) (fun _ hk => hk.2) (.int .i64 a0_0)) (fun _ hk => hk.2) (.slice Ao45 x442001_1.length co45)) (fun _ hk => trivial), by exact uT HB.out⟩
  · rw [if_neg c3] at H
    have c3b0 : (t440 == 0) = false := beq_eq_false_iff_ne.mpr c3
    have c3b1 : (t440 != 0) = true := bne_iff_ne.mpr c3
    simp only [Option.some.injEq, Prod.mk.injEq] at H
    obtain ⟨rfl, rfl⟩ := H
    go_enter Try.func42, Try.ntmps42
    go_wp2_with (first | ((with_reducible refine gate_dst (N := 2) rfl ?_); refine box_event ?hg (N := 2) ?hd (cs := #[.int .i64 a0_0, .slice A0_1 l0_1.length c0_1]) (t := 24) ?hr ?_; (case hd => rfl); (case hg => rfl); (case hr => first | (go_simp; done)|(go_simp; rfl)|(go_simp; rw [show ∀ x : Int, IntKind.u32.wrap (IntKind.u8.wrap x) = x % 256 from fun x => (by show (x % 256) % 4294967296 = x % 256; omega)])); intro gb438 hg w46 hbox hb; have BK438 := zMk (hbox); have GW438 := zMk ((by rw [hg]; exact (zBs (by exact uT HB.out)) : w.heap.size ≤ gb438)); have GE438 := zMk ((by rw [hg]; exact (zBs (by exact uT HB.out)) : w.heap.size ≤ gb438)); have IGE438 := ownGe GE438.out; replace HB := zMk (zBt (by exact uT HB.out) hb); clear hb hbox hg)|((with_reducible refine gate_dst (N := 4) rfl ?_); refine box_event ?hg (N := 4) ?hd (cs := #[.int .i64 0, .slice none 0 0]) (t := 24) ?hr ?_; (case hd => rfl); (case hg => rfl); (case hr => first | (go_simp; done)|(go_simp; rfl)|(go_simp; rw [show ∀ x : Int, IntKind.u32.wrap (IntKind.u8.wrap x) = x % 256 from fun x => (by show (x % 256) % 4294967296 = x % 256; omega)])); intro gb439 hg w47 hbox hb; have BK439 := zMk (hbox); have GW439 := zMk ((by rw [hg]; exact (zBs (by exact uT HB.out)) : w.heap.size ≤ gb439)); have GE439 := zMk ((by rw [hg]; exact (zBs (by exact uT HB.out)) : w.heap.size ≤ gb439)); have IGE439 := ownGe GE439.out; replace HB := zMk (zBt (by exact uT HB.out) hb); have NB438_439 := zMk ((by rw [hg]; exact Nat.ne_of_lt (blk_lt (g := gb438) (o := .cells #[.int .i64 a0_0, .slice A0_1 l0_1.length c0_1] 24 (0, 0)) (by (with_reducible repeat (first |  refine zKn ?_ _|  refine zKd ?_|  refine zKa ?_ _)); exact BK438.out)) : gb438 ≠ gb439)); have NB439_438 := zMk ((by rw [hg]; exact Nat.ne_of_gt (blk_lt (g := gb438) (o := .cells #[.int .i64 a0_0, .slice A0_1 l0_1.length c0_1] 24 (0, 0)) (by (with_reducible repeat (first |  refine zKn ?_ _|  refine zKd ?_|  refine zKa ?_ _)); exact BK438.out)) : gb439 ≠ gb438)); replace BK438 := zMk (zKb (g := gb438) (o := .cells #[.int .i64 a0_0, .slice A0_1 l0_1.length c0_1] 24 (0, 0)) (by (with_reducible repeat (first |  refine zKn ?_ _|  refine zKd ?_|  refine zKa ?_ _)); exact BK438.out) hb); clear hb hbox hg; have hnb48 := NB438_439.out; have hnc48 := NB439_438.out; have hcz49_0 : w47.cell? ⟨gb438, 0, none⟩ = some (.int .i64 a0_0) := (zKc BK438.out 0).trans rfl; have hcz49_1 : w47.cell? ⟨gb438, 1, none⟩ = some (.slice A0_1 l0_1.length c0_1) := (zKc BK438.out 1).trans rfl; have hfz49_0 := zKf BK438.out 0; have hfz49_1 := zKf BK438.out 1)|((with_reducible refine gate_callee (f := 11) rfl ?_); refine goesL_ (some 9) rfl rfl Try.func11 (by kernel_rfl) rfl #[.agg #[.int .i64 a0_0, .slice A0_1 l0_1.length c0_1]] rfl (by (try simp only [zMa, zMc, zMn]); first |  done|  rfl|  (simp only [zLd, zLt]; rfl)) ?_; (with_reducible refine (graph_Right.calls k a0_0 _ _ l0_1 t440 _ ?side1 ?side2 A2.out).mono ?_); (case side1 => repeat (first |  exact (Kd.C_below HR0_1.out HB.out)|(with_reducible refine zCa ?_ _)|(with_reducible refine zCn ?_ _)|(with_reducible refine zCd ?_))); (case side2 => exact HC0_1.out); rintro e w50 ⟨rfl, hb⟩; refine ⟨_, rfl, ?_⟩; replace BK438 := zMk (zKb (g := gb438) (o := .cells #[.int .i64 a0_0, .slice A0_1 l0_1.length c0_1] 24 (0, 0)) (by (with_reducible repeat (first |  refine zKn ?_ _|  refine zKd ?_|  refine zKa ?_ _)); exact BK438.out) hb); replace BK439 := zMk (zKb (g := gb439) (o := .cells #[.int .i64 0, .slice none 0 0] 24 (0, 0)) (by (with_reducible repeat (first |  refine zKn ?_ _|  refine zKd ?_|  refine zKa ?_ _)); exact BK439.out) hb); replace HB := zMk (zBt (by exact uT HB.out) hb); have hcz51_0 : w50.cell? ⟨gb439, 0, none⟩ = some (.int .i64 0) := (zKc BK439.out 0).trans rfl; have hcz51_1 : w50.cell? ⟨gb439, 1, none⟩ = some (.slice none 0 0) := (zKc BK439.out 1).trans rfl; have hfz51_0 := zKf BK439.out 0; have hfz51_1 := zKf BK439.out 1))
    refine bodyPost_ret (results_cell_row rfl _ _ gb439 24 #[.int .i64 0, .slice none 0 0] (0, 0) _ rfl (by (with_reducible repeat (first | refine zKn ?_ _ | refine zKd ?_ | refine zKa ?_ _)); refine blk_put (cs := #[.int .i64 0, .slice none 0 0]) ?_ 1 _ rfl; (with_reducible repeat (first | refine zKn ?_ _ | refine zKd ?_ | refine zKa ?_ _)); refine blk_put (cs := #[.int .i64 0, .slice none 0 0]) ?_ 0 _ rfl; (with_reducible repeat (first | refine zKn ?_ _ | refine zKd ?_ | refine zKa ?_ _)); exact BK439.out) Try.underlying24 rfl (by kernel_rfl)) rfl ?_
    exact ⟨_, by first | rfl | (simp [errW_none, errW_some] <;> rfl) | (simp [*, errW_none, errW_some] <;> rfl), by first | exact Kd.R_nil _ _ _ _ _ | exact Kd.N_nil _ _ _ _ _ | exact Kd.V_nil _ _ _ _ _ | exact Kd.Q_nil _ _ _ _ _ | exact Kd.S_nil _ _ _ _ _, by exact uT HB.out⟩


def inK (keep : List Bool) (v : Int) : Bool := decide (v < keep.length) && keep.getD v.toNat false
theorem only1_calls (keep : List Bool) (A : Option Addr) (c : Nat) (v : Int) (g : Nat) (W : World) (h0 : 0 ≤ v) (hm : keep.length ≤ 9223372036854775807) (hr : Kd.C Kd.bool W A keep.length keep) (hg : W.cell? ⟨g, 0, none⟩ = some (.slice A keep.length c)) :
    Calls Try.prog 41 #[.int .i64 v, .pointer (some ⟨g, 0, none⟩)] W fun e w' => e = .returned (.bool (inK keep v)) ∧ w' = W := by
  by_cases hlt : v < (keep.length : Int)
  · obtain ⟨ad, rfl, hc⟩ := (Kd.reads_of_C (d := false) hr).at_ v h0 hlt
    have hin : inK keep v = rdOf false keep v := by unfold inK rdOf; rw [decide_eq_true hlt, Bool.true_and]
    rw [hin]
    generalize rdOf false keep v = b at hc ⊢
    have p1 : decide (v < (keep.length : Int)) = true := decide_eq_true hlt
    have p2 : (0 ≤ v) = True := eq_true h0
    have p3 : (v < (keep.length : Int)) = True := eq_true hlt
    clear hin hr
    go_enter Try.func41, Try.ntmps41
    go_wp2
    go_ret
    exact ⟨rfl, rfl⟩
  · have hin : inK keep v = false := by unfold inK; rw [decide_eq_false hlt, Bool.false_and]
    rw [hin]
    have p1 : decide (v < (keep.length : Int)) = false := decide_eq_false hlt
    have p3 : (v < (keep.length : Int)) = False := eq_false hlt
    clear hin hr
    go_enter Try.func41, Try.ntmps41
    go_wp2
    go_ret
    exact ⟨rfl, rfl⟩
theorem only2_calls (keep : List Bool) (A : Option Addr) (c : Nat) (i u v q : Int) (g h : Nat) (W : World) (h0 : 0 ≤ u) (h1 : 0 ≤ v) (hm : keep.length ≤ 9223372036854775807) (hr : Kd.C Kd.bool W A keep.length keep) (hg : W.cell? ⟨g, 0, none⟩ = some (.slice A keep.length c))
    (hh : W.cell? ⟨h, 0, none⟩ = some (.func (.func 41) #[] #[.pointer (some ⟨g, 0, none⟩)])) :
    Calls Try.prog 43 #[.int .i64 i, .agg #[.int .i64 u, .int .i64 v, .int .i64 q], .pointer (some ⟨h, 0, none⟩)] W fun e w' => e = .returned (.bool (inK keep u && inK keep v)) ∧ Below W.heap.size W w' := by
  have HC := fun (x : Int) (W' : World) (hx : 0 ≤ x) (hr' : Kd.C Kd.bool W' A keep.length keep) (hg' : W'.cell? ⟨g, 0, none⟩ = some (.slice A keep.length c)) => only1_calls keep A c x g W' hx hm hr' hg'
  have HB := (Below.refl W.heap.size W).alloc (Nat.le_refl _) (.cells #[.int .i64 u, .int .i64 v, .int .i64 q] 36)
  have e1 := (HB.cell (World.block_lt_of_cell? W _ hg)).trans hg
  have e2 := (HB.cell (World.block_lt_of_cell? W _ hh)).trans hh
  have HR := Kd.C_below hr HB
  have C1 := zMk (HC u _ h0 HR e1)
  have C2 := zMk (HC v _ h1 HR e1)
  clear hr hg hh HC HB HR e1
  cases hu : inK keep u with
  | false =>
    rw [Bool.false_and]
    rw [hu] at C1
    clear hu C2
    go_enter Try.func43, Try.ntmps43
    go_wp2_with (go_at_call 41; refine C1.out.mono ?_; rintro e w' ⟨rfl, rfl⟩)
    go_ret
    exact ⟨rfl, (Below.refl _ _).alloc (Nat.le_refl _) _⟩
  | true =>
    rw [Bool.true_and]
    rw [hu] at C1
    clear hu
    generalize inK keep v = bv at C2 ⊢
    go_enter Try.func43, Try.ntmps43
    go_wp2_with fail
    refine C1.out.mono ?_
    rintro e w' ⟨rfl, rfl⟩
    go_wp2_with fail
    refine C2.out.mono ?_
    rintro e w' ⟨rfl, rfl⟩
    go_wp2
    go_ret
    exact ⟨rfl, (Below.refl _ _).alloc (Nat.le_refl _) _⟩
def graph_Only.p (keep : List Bool) (_ u v _ : Int) : Option Bool := if 0 ≤ u then (if 0 ≤ v then some (inK keep u && inK keep v) else none) else none
def graph_Only.f (k : Nat) (n : Int) (l : List S36) (keep : List Bool) : Option (Int × List S36) := graph_some.f (graph_Only.p keep) k n l
theorem graph_Only.calls (k : Nat) (a0_0 : Int) (A0_1 : Option Addr) (c0_1 : Nat) (l0_1 : List (S36)) (A1 : Option Addr) (c1 : Nat) (l1 : List Bool) (r1 : Int) (r2 : List (S36)) (w : World) (hr0_1 : Kd.C k36 w A0_1 l0_1.length l0_1) (hc0_1 : l0_1.length ≤ c0_1) (hr1 : Kd.C Kd.bool w A1 l1.length l1) (hc1 : l1.length ≤ c1) (h : graph_Only.f k a0_0 l0_1 l1 = some (r1, r2)) :
    Calls Try.prog 21 #[.agg #[.int .i64 a0_0, .slice A0_1 l0_1.length c0_1], .slice A1 l1.length c1] w fun e w' => ∃ v1_ : Value, e = .returned (.agg #[.int .i64 r1, v1_]) ∧ Kd.R k36 36 w' w.heap.size (fun _ => True) v1_ r2 ∧ Below w.heap.size w w' := by
  have hu24 := Try.underlying24
  have hu36 := Try.underlying36
  have hm1 : l1.length ≤ 9223372036854775807 := hr1.2.1
  have HR0 := zMk hr0_1
  have HR1 := zMk hr1
  have HH := zMk h
  clear hr0_1 hr1 h
  go_enter Try.func21, Try.ntmps21
  go_wp2_with fail
  have B0 := zBa (zBa (zBa (zBa (Below.refl w.heap.size w) (.cells #[Value.int .i64 a0_0, .slice A0_1 l0_1.length c0_1] 24)) (.cells #[Value.slice A1 l1.length c1] 41)) (.cells #[Value.int .i64 0, .slice none 0 0] 24)) (.cells #[Value.func (Fn.func 41) #[] #[Value.pointer (some ⟨w.heap.size + 1, 0, none⟩)]] 60)
  have K1 : ((((w.alloc (.cells #[Value.int .i64 a0_0, .slice A0_1 l0_1.length c0_1] 24)).alloc (.cells #[Value.slice A1 l1.length c1] 41)).alloc (.cells #[Value.int .i64 0, .slice none 0 0] 24)).alloc (.cells #[Value.func (Fn.func 41) #[] #[Value.pointer (some ⟨w.heap.size + 1, 0, none⟩)]] 60)).heap[w.heap.size + 1]? = some (.cells #[Value.slice A1 l1.length c1] 41 (0, 0)) :=
    zKa (zKa (by have := heap_alloc_new (w.alloc (.cells #[Value.int .i64 a0_0, .slice A0_1 l0_1.length c0_1] 24)) (.cells #[Value.slice A1 l1.length c1] 41); simpa using this) _) _
  have K2 : ((((w.alloc (.cells #[Value.int .i64 a0_0, .slice A0_1 l0_1.length c0_1] 24)).alloc (.cells #[Value.slice A1 l1.length c1] 41)).alloc (.cells #[Value.int .i64 0, .slice none 0 0] 24)).alloc (.cells #[Value.func (Fn.func 41) #[] #[Value.pointer (some ⟨w.heap.size + 1, 0, none⟩)]] 60)).heap[w.heap.size + 1 + 1]? = some (.cells #[Value.int .i64 0, .slice none 0 0] 24 (0, 0)) :=
    zKa (by have := heap_alloc_new ((w.alloc (.cells #[Value.int .i64 a0_0, .slice A0_1 l0_1.length c0_1] 24)).alloc (.cells #[Value.slice A1 l1.length c1] 41)) (.cells #[Value.int .i64 0, .slice none 0 0] 24); simpa using this) _
  have K3 : ((((w.alloc (.cells #[Value.int .i64 a0_0, .slice A0_1 l0_1.length c0_1] 24)).alloc (.cells #[Value.slice A1 l1.length c1] 41)).alloc (.cells #[Value.int .i64 0, .slice none 0 0] 24)).alloc (.cells #[Value.func (Fn.func 41) #[] #[Value.pointer (some ⟨w.heap.size + 1, 0, none⟩)]] 60)).heap[w.heap.size + 1 + 1 + 1]? = some (.cells #[Value.func (Fn.func 41) #[] #[Value.pointer (some ⟨w.heap.size + 1, 0, none⟩)]] 60 (0, 0)) := by
    have := heap_alloc_new (((w.alloc (.cells #[Value.int .i64 a0_0, .slice A0_1 l0_1.length c0_1] 24)).alloc (.cells #[Value.slice A1 l1.length c1] 41)).alloc (.cells #[Value.int .i64 0, .slice none 0 0] 24)) (.cells #[Value.func (Fn.func 41) #[] #[Value.pointer (some ⟨w.heap.size + 1, 0, none⟩)]] 60)
    simpa using this
  generalize ((((w.alloc (.cells #[Value.int .i64 a0_0, .slice A0_1 l0_1.length c0_1] 24)).alloc (.cells #[Value.slice A1 l1.length c1] 41)).alloc (.cells #[Value.int .i64 0, .slice none 0 0] 24)).alloc (.cells #[Value.func (Fn.func 41) #[] #[Value.pointer (some ⟨w.heap.size + 1, 0, none⟩)]] 60)) = W4 at B0 K1 K2 K3 ⊢
  have hcal := graph_some.calls (graph_Only.p l1) (w.heap.size + 1 + 1 + 1) k a0_0 A0_1 c0_1 l0_1 r1 r2 W4 (Kd.C_below HR0.out B0) hc0_1 (fun i u v q b W hW hp => by
    unfold graph_Only.p at hp
    by_cases hu : 0 ≤ u
    · rw [if_pos hu] at hp
      by_cases hv : 0 ≤ v
      · rw [if_pos hv] at hp
        obtain rfl := zOi hp
        exact only2_calls l1 A1 c1 i u v q (w.heap.size + 1) (w.heap.size + 1 + 1 + 1) W hu hv hm1 (Kd.C_below (Kd.C_below HR1.out B0) hW) (box_cell (c := 0) (zKb K1 hW) rfl) (box_cell (c := 0) (zKb K3 hW) rfl)
      · rw [if_neg hv] at hp; cases hp
    · rw [if_neg hu] at hp; cases hp) HH.out
  have hsz : w.heap.size + 1 + 1 < W4.heap.size := blk_lt K2
  refine hcal.mono ?_
  rintro e w5 ⟨v1, rfl, hR, hB⟩
  have K5 := zKb K2 hB
  have HR := zMk hR
  have HB := zMk (zBt B0 hB)
  have hz0 := box_cell (c := 0) (v := .int .i64 0) K5 rfl
  have hz1 := box_cell (c := 1) (v := .slice none 0 0) K5 rfl
  have hzf0 := box_frozen (c := 0) K5
  have hzf1 := box_frozen (c := 1) K5
  have HK := zMk K5
  clear K1 K2 K3 K5 hR hB hcal B0
  obtain ⟨A5, c5, rfl⟩ := zRs HR.out
  go_wp2
  refine bodyPost_ret (results_cell_row rfl _ _ (w.heap.size + 1 + 1) 24 #[.int .i64 r1, .slice A5 r2.length c5] (0, 0) _ rfl (blk_setCell_same (blk_setCell_same HK.out)) Try.underlying24 rfl (by kernel_rfl)) rfl ?_
  refine ⟨_, rfl, ?_, below_set (below_set HB.out (by omega)) (by omega)⟩
  have hb2 := zRm (ok' := fun k => k ≠ w.heap.size + 1 + 1) (Kd.R_bound HR.out) (fun k hk => by have := hk.2.1; omega)
  exact zRm (zRl (Kd.R_far (p := ⟨w.heap.size + 1 + 1, 1, none⟩) (Kd.R_far (p := ⟨w.heap.size + 1 + 1, 0, none⟩) hb2 (fun _ hk => hk) _) (fun _ hk => hk) _) (by omega)) (fun _ _ => trivial)


theorem less1_calls (out : List Bool) (A : Option Addr) (c : Nat) (i : Nat) (u v q : Int) (g : Nat) (W : World) (h1 : i < out.length) (hm : out.length ≤ 9223372036854775807) (hr : Kd.C Kd.bool W A out.length out) (hg : W.cell? ⟨g, 0, none⟩ = some (.slice A out.length c)) :
    Calls Try.prog 44 #[.int .i64 (i : Int), .agg #[.int .i64 u, .int .i64 v, .int .i64 q], .pointer (some ⟨g, 0, none⟩)] W fun e w' => e = .returned (.bool (!(out.getD i false))) ∧ Below W.heap.size W w' := by
  obtain ⟨ad, rfl, hc⟩ := (Kd.reads_of_C (d := false) hr).at_ (i : Int) (by omega) (by omega)
  have hin : out.getD i false = rdOf false out (i : Int) := rfl
  rw [hin]
  rw [zTn] at hc
  generalize rdOf false out (i : Int) = b at hc ⊢
  have p2 : (0 ≤ (i : Int)) = True := eq_true (by omega)
  have p3 : ((i : Int) < (out.length : Int)) = True := eq_true (by omega)
  have HB := (Below.refl W.heap.size W).alloc (Nat.le_refl _) (.cells #[.int .i64 u, .int .i64 v, .int .i64 q] 36)
  have e1 := (HB.cell (World.block_lt_of_cell? W _ hg)).trans hg
  have e2 := (HB.cell (World.block_lt_of_cell? W _ hc)).trans hc
  clear hr HB hg hc
  go_enter Try.func44, Try.ntmps44
  go_wp2
  go_ret
  exact ⟨rfl, (Below.refl _ _).alloc (Nat.le_refl _) _⟩
def lessM (m : List Bool) : List Int → List Bool
  | [] => m
  | x :: t => lessM (if 0 ≤ x then (if x < (m.length : Int) then m.set x.toNat true else m) else m) t
theorem lessM_len : ∀ (t : List Int) (m : List Bool), (lessM m t).length = m.length
  | [], m => rfl
  | x :: t, m => by
    unfold lessM
    rw [lessM_len t]
    repeat' split
    all_goals simp
def graph_Less.p (m : List Bool) (i _ _ _ : Int) : Option Bool := if 0 ≤ i then (if i < (m.length : Int) then some (!(m.getD i.toNat false)) else none) else none
def graph_Less.f (k : Nat) (n : Int) (l : List S36) (gone : List Int) : Option (Int × List S36) := if l.length ≤ 281474976710656 then graph_some.f (graph_Less.p (lessM (List.replicate l.length false) gone)) k n l else none
theorem graph_Less.calls (k : Nat) (a0_0 : Int) (A0_1 : Option Addr) (c0_1 : Nat) (l0_1 : List (S36)) (A1 : Option Addr) (c1 : Nat) (l1 : List Int) (r1 : Int) (r2 : List (S36)) (w : World) (hr0_1 : Kd.C k36 w A0_1 l0_1.length l0_1) (hc0_1 : l0_1.length ≤ c0_1) (hr1 : Kd.C (Kd.int .i64) w A1 l1.length l1) (hc1 : l1.length ≤ c1) (h : graph_Less.f k a0_0 l0_1 l1 = some (r1, r2)) :
    Calls Try.prog 22 #[.agg #[.int .i64 a0_0, .slice A0_1 l0_1.length c0_1], .slice A1 l1.length c1] w fun e w' => ∃ v1_ : Value, e = .returned (.agg #[.int .i64 r1, v1_]) ∧ Kd.R k36 36 w' w.heap.size (fun _ => True) v1_ r2 ∧ Below w.heap.size w w' := by
  unfold graph_Less.f at h
  by_cases hl : l0_1.length ≤ 281474976710656
  case neg => rw [if_neg hl] at h; cases h
  rw [if_pos hl] at h
  have hu24 := Try.underlying24
  have hu36 := Try.underlying36
  have hm0 : l0_1.length ≤ 9223372036854775807 := hr0_1.2.1
  have hm1 : l1.length ≤ 9223372036854775807 := hr1.2.1
  have HR0 := zMk hr0_1
  have HR1 := zMk hr1
  have HH := zMk h
  clear hr0_1 hr1 h
  go_enter Try.func22, Try.ntmps22
  go_wp2_with (first | ((with_reducible refine gate_dst (N := 11) rfl ?_); (try (refine gate_guard (by rfl) ?_; dsimp only)); refine Kd.R_make Kd.bool _ 4 rfl (N := 11) rfl 41 _ _ rfl (l0_1.length : Int) rfl rfl Try.underlying41 (.bool false) 1 info4 rfl (by decide) (by omega) false (ok := fun _ => True) (okp := fun _ => True) rfl (fun _ hk => hk) trivial (by omega) (by rw [zTn]; omega) (Below.refl _ _) (Nat.le_refl _) ?_; intro v11 w11 ho hb hg_ hnew_; rw [zTn] at ho; obtain ⟨A2, c2, rfl⟩ := zRs ho; rw [List.length_replicate]))
  have hs2 : ((w.alloc (.cells #[Value.int .i64 a0_0, .slice A0_1 l0_1.length c0_1] 24)).alloc (.cells #[Value.int .i64 0, .slice none 0 0] 24)).heap.size = w.heap.size + 1 + 1 := by simp
  have BB := zMk (zBa (zBt (zBa (zBa (Below.refl w.heap.size w) (.cells #[Value.int .i64 a0_0, .slice A0_1 l0_1.length c0_1] 24)) (.cells #[Value.int .i64 0, .slice none 0 0] 24)) hb) (.cells #[Value.slice A2 l0_1.length c2] 41))
  have KG := zMk (zKa (zKb (zKa (heap_alloc_new w (.cells #[Value.int .i64 a0_0, .slice A0_1 l0_1.length c0_1] 24)) (.cells #[Value.int .i64 0, .slice none 0 0] 24)) hb) (.cells #[Value.slice A2 l0_1.length c2] 41))
  have KR := zMk (zKa (zKb (show _ = some (.cells #[Value.int .i64 0, .slice none 0 0] 24 (0, 0)) by have := heap_alloc_new (w.alloc (.cells #[Value.int .i64 a0_0, .slice A0_1 l0_1.length c0_1] 24)) (.cells #[Value.int .i64 0, .slice none 0 0] 24); simpa using this) hb) (.cells #[Value.slice A2 l0_1.length c2] 41) : (w11.alloc (.cells #[Value.slice A2 l0_1.length c2] 41)).heap[w.heap.size + 1]? = _)
  have KO := zMk (heap_alloc_new w11 (.cells #[Value.slice A2 l0_1.length c2] 41))
  have hsz : w.heap.size + 1 < w11.heap.size := by have := blk_lt KR.out; have := hb.size; rw [hs2] at this; omega
  rw [hs2, List.length_replicate] at ho
  have HO := zMk (zRa (zRl (base' := w.heap.size) ho (by omega)) (.cells #[Value.slice A2 l0_1.length c2] 41))
  clear ho hb hg_ hnew_ hs2
  generalize hM : lessM (List.replicate l0_1.length false) l1 = M at HH
  have HM := zMk hM
  clear hM
  go_loopg [14] l1.length (fun kx s14 wr => ∃ (i : Nat) (xs : List Bool), s14 = .int .i64 i ∧ i ≤ l1.length ∧ l1.length - i ≤ kx ∧ Aside0 (xs.length = l0_1.length) ∧ Aside0 (lessM xs (l1.drop i) = M) ∧ Aside0 (Kd.R Kd.bool 4 wr w.heap.size (fun _ => True) (.slice A2 l0_1.length c2) xs) ∧ Aside0 (wr.heap[w.heap.size]? = some (.cells #[Value.int .i64 a0_0, .slice A0_1 l0_1.length c0_1] 24 (0, 0))) ∧ Aside0 (wr.heap[w.heap.size + 1]? = some (.cells #[Value.int .i64 0, .slice none 0 0] 24 (0, 0))) ∧ Aside0 (wr.heap[w11.heap.size]? = some (.cells #[Value.slice A2 l0_1.length c2] 41 (0, 0))) ∧ Aside0 (Below w.heap.size w wr))
  case atStart => exact ⟨0, List.replicate l0_1.length false, rfl, Nat.zero_le _, Nat.le_refl _, ⟨by simp⟩, ⟨by simpa using HM.out⟩, HO, KG, KR, KO, BB⟩
  clear HM HO KG KR KO BB
  obtain ⟨i, xs, rfl, hi, hg3, HXL, HM, HO, KG, KR, KO, HB⟩ := hrel
  by_cases hlt : i < l1.length
  · obtain ⟨ad1, e1, hx⟩ := zAi HR1.out (i : Int) (by omega) (by omega)
    cases e1
    rw [zTn] at hx
    replace hx := (HB.out.cell (World.block_lt_of_cell? w _ hx)).trans hx
    have hd : l1.drop i = rd l1 (i : Int) :: l1.drop (i + 1) := by
      rw [List.drop_eq_getElem_cons hlt]
      unfold rd
      rw [zTn]
      simp [hlt]
    have hM := HM.out
    rw [hd] at hM
    unfold lessM at hM
    generalize rd l1 (i : Int) = x at hx hM
    have p1 : (0 ≤ (i : Int)) = True := eq_true (by omega)
    have p2 : ((i : Int) < (l1.length : Int)) = True := eq_true (by omega)
    have ho0 := box_cell (c := 0) KO.out rfl
    clear HM hd
    by_cases hx0 : 0 ≤ x
    · rw [if_pos hx0, HXL.out] at hM
      have q1 : decide (0 ≤ x) = true := decide_eq_true hx0
      have q3 : (0 ≤ x) = True := eq_true hx0
      by_cases hx1 : x < (l0_1.length : Int)
      · rw [if_pos hx1] at hM
        have HM := zMk hM
        have q2 : decide (x < (l0_1.length : Int)) = true := decide_eq_true hx1
        have q4 : (x < (l0_1.length : Int)) = True := eq_true hx1
        have hl9 := HXL.out
        obtain ⟨go, co, eo, gb, gl, cl, HG⟩ := Kd.R_form HO.out (by omega)
        (first |  cases eo|  (injection eo with ea_ en_ ec_; subst ea_; subst ec_; clear en_))
        obtain ⟨hy, hf⟩ := Kd.R_celln false HO.out x hx0 (by omega)
        have HP := Kd.R_putg HO.out x true
        have N0 := Kd.R_ne HO.out KG.out (by decide)
        have N1 := Kd.R_ne HO.out KR.out (by decide)
        have N2 := Kd.R_ne HO.out KO.out (by decide)
        have HN := zMk (show Kd.R Kd.bool 4 (wr.setCell ⟨go, x.toNat, none⟩ (.bool true)) w.heap.size (fun _ => True) _ _ from HP.1)
        have KG1 := zMk (blk_grown KG.out HP.2 N0)
        have KR1 := zMk (blk_grown KR.out HP.2 N1)
        have KO1 := zMk (blk_grown KO.out HP.2 N2)
        have HB1 := zMk (below_set (j := x.toNat) (v := .bool true) HB.out gb)
        clear hM hl9 HO KG KR KO HP N0 N1 N2 HG cl gl
        go_wp2
        go_roundg (l1.length - (i + 1))
        case measure => omega
        case rel => exact ⟨i + 1, _, by rw [show ((i + 1 : Nat) : Int) = (i : Int) + 1 by omega], by omega, Nat.le_refl _, ⟨by rw [List.length_set]; exact HXL.out⟩, HM, HN, KG1, KR1, KO1, HB1⟩
      · rw [if_neg hx1] at hM
        have HM := zMk hM
        have q2 : decide (x < (l0_1.length : Int)) = false := decide_eq_false hx1
        clear hM
        go_wp2
        go_roundg (l1.length - (i + 1))
        case measure => omega
        case rel => exact ⟨i + 1, xs, by rw [show ((i + 1 : Nat) : Int) = (i : Int) + 1 by omega], by omega, Nat.le_refl _, HXL, HM, HO, KG, KR, KO, HB⟩
    · rw [if_neg hx0] at hM
      have HM := zMk hM
      have q1 : decide (0 ≤ x) = false := decide_eq_false hx0
      clear hM
      go_wp2
      go_roundg (l1.length - (i + 1))
      case measure => omega
      case rel => exact ⟨i + 1, xs, by rw [show ((i + 1 : Nat) : Int) = (i : Int) + 1 by omega], by omega, Nat.le_refl _, HXL, HM, HO, KG, KR, KO, HB⟩
  · obtain rfl : i = l1.length := by omega
    have hM := HM.out
    rw [List.drop_length] at hM
    obtain rfl : xs = M := hM
    clear HM
    have hg0 := box_cell (c := 0) KG.out rfl
    have hg1 := box_cell (c := 1) KG.out rfl
    go_wp2_with fail
    have hcal := graph_some.calls1 (graph_Less.p xs) w11.heap.size k a0_0 A0_1 c0_1 l0_1 r1 r2 wr (Kd.C_below HR0.out HB.out) hc0_1 (fun i u v q b W hW hp => by
      unfold graph_Less.p at hp
      by_cases hu : 0 ≤ i
      · rw [if_pos hu] at hp
        by_cases hv : i < (xs.length : Int)
        · rw [if_pos hv] at hp
          obtain rfl := zOi hp
          obtain ⟨i, rfl⟩ := Int.eq_ofNat_of_zero_le hu
          have hq := (zRr HO.out).2.2
          have hq2 : Kd.C Kd.bool wr A2 xs.length xs := hq
          rw [zTn]
          exact less1_calls xs A2 c2 i u v q w11.heap.size W (by omega) (by have := HXL.out; omega) (Kd.C_below hq2 hW) (by rw [HXL.out]; exact box_cell (c := 0) (zKb KO.out hW) rfl)
        · rw [if_neg hv] at hp; cases hp
      · rw [if_neg hu] at hp; cases hp) HH.out
    have hsz2 : w.heap.size + 1 < wr.heap.size := blk_lt KR.out
    refine hcal.mono ?_
    rintro e w5 ⟨v1, rfl, hR, hB⟩
    have HK := zMk (zKb KR.out hB)
    have HR := zMk hR
    have HB5 := zMk (zBt HB.out hB)
    have hz0 := box_cell (c := 0) (v := .int .i64 0) HK.out rfl
    have hz1 := box_cell (c := 1) (v := .slice none 0 0) HK.out rfl
    have hzf0 := box_frozen (c := 0) HK.out
    have hzf1 := box_frozen (c := 1) HK.out
    clear hR hB hcal
    obtain ⟨A5, c5, rfl⟩ := zRs HR.out
    go_wp2
    refine bodyPost_ret (results_cell_row rfl _ _ (w.heap.size + 1) 24 #[.int .i64 r1, .slice A5 r2.length c5] (0, 0) _ rfl (blk_setCell_same (blk_setCell_same HK.out)) Try.underlying24 rfl (by kernel_rfl)) rfl ?_
    refine ⟨_, rfl, ?_, below_set (below_set HB5.out (by omega)) (by omega)⟩
    have hb2 := zRm (ok' := fun k => k ≠ w.heap.size + 1) (Kd.R_bound HR.out) (fun k hk => by have := hk.2.1; omega)
    exact zRm (zRl (Kd.R_far (p := ⟨w.heap.size + 1, 1, none⟩) (Kd.R_far (p := ⟨w.heap.size + 1, 0, none⟩) hb2 (fun _ hk => hk) _) (fun _ hk => hk) _) (by omega)) (fun _ _ => trivial)


attribute [local go_sem high] eqA36
def api_Edge_40.l0 : Nat → List (S36) → List (S36) → Int → Int → Option (Bool)
  | 0, _, _, _, _ => none
  | k + 1, x0, x1, x12, x13 => if x13 < x12 then (if 0 ≤ x13 then (if x13 < (x0.length : Int) then (if x13 < (x1.length : Int) then (if (!(((rd_T36 x0 x13).f0) == ((rd_T36 x1 x13).f0)) || (!(((rd_T36 x0 x13).f1) == ((rd_T36 x1 x13).f1)) || (!(((rd_T36 x0 x13).f2) == ((rd_T36 x1 x13).f2))))) = true then (some false) else (api_Edge_40.l0 k x0 x1 x12 (wrap64 (x13 + 1)))) else (none)) else (none)) else (none)) else (some true)
def api_Edge_40.f (k : Nat) (l0 : List (S36)) (l1 : List (S36)) : Option (Bool) := if (l0.length : Int) = (l1.length : Int) then (api_Edge_40.l0 k l0 l1 (l0.length : Int) 0) else (some false)
theorem api_Edge_40.calls (k : Nat) (A0 : Option Addr) (c0 : Nat) (l0 : List (S36)) (A1 : Option Addr) (c1 : Nat) (l1 : List (S36)) (r : Bool) (w : World) (hr0 : Kd.C k36 w A0 l0.length l0) (hc0 : l0.length ≤ c0) (hr1 : Kd.C k36 w A1 l1.length l1) (hc1 : l1.length ≤ c1) (h : api_Edge_40.f k l0 l1 = some r) :
    Calls Try.prog 40 #[.slice A0 l0.length c0, .slice A1 l1.length c1] w fun e w' => e = .returned (.bool r) ∧ Drawn0 w w' := by
  have hu36 := Try.underlying36
  have HR0 := zMk hr0
  have HC0 := zMk hc0
  clear hr0 hc0
  have HR1 := zMk hr1
  have HC1 := zMk hc1
  clear hr1 hc1
  have H : (if (l0.length : Int) = (l1.length : Int) then (api_Edge_40.l0 k l0 l1 (l0.length : Int) 0) else (some false)) = some r := h
  clear h
  by_cases c3 : (l0.length : Int) = (l1.length : Int)
  · rw [if_pos c3] at H
    have c3b0 : ((l0.length : Int) == (l1.length : Int)) = true := beq_iff_eq.mpr c3
    have c3b1 : ((l0.length : Int) != (l1.length : Int)) = false := bne_eq_false_iff_eq.mpr c3
    have c3b2 : (l0.length == l1.length) = true := by first | simpa using c3 | (simp at c3 ⊢; omega)
    clear c3
    have H' := zMk H
    clear H
    go_enter Try.func40, Try.ntmps40
    go_wp2
    repeat (go_quiet (fail); try go_wp2)
    go_loopg [13] k (fun kq v13 w' => ∃ (x13_1 : Int), v13 = .int .i64 x13_1 ∧ Aside0 (api_Edge_40.l0 kq l0 l1 (l0.length : Int) x13_1 = some r) ∧ Aside0 (kq ≤ k) ∧ Drawn0 w w')
    case atStart => exact ⟨(0), (by first | rfl | (simp; done) | (simp [*]; done)), H', ⟨Nat.le_refl _⟩, by repeat (first | exact Drawn0.refl _ | apply Drawn0.step)⟩
    clear H'
    obtain ⟨x13_1, rfl, HA, HK1, ⟨m1, rfl⟩⟩ := hrel
    rcases gk with _ | k1
    · exact absurd HA.out (by simp [api_Edge_40.l0])
    have H := HA.out
    clear HA
    simp only [api_Edge_40.l0] at H
    by_cases c4 : x13_1 < (l0.length : Int)
    · rw [if_pos c4] at H
      have c4b0 : decide (x13_1 < (l0.length : Int)) = true := decide_eq_true c4
      clear c4
      by_cases c5 : 0 ≤ x13_1
      rotate_left
      · rw [if_neg c5] at H; exact absurd H (by simp)
      rw [if_pos c5] at H
      have c5b0 : decide (0 ≤ x13_1) = true := decide_eq_true c5
      clear c5
      by_cases c6 : x13_1 < (l0.length : Int)
      rotate_left
      · rw [if_neg c6] at H; exact absurd H (by simp)
      rw [if_pos c6] at H
      have c6b0 : decide (x13_1 < (l0.length : Int)) = true := decide_eq_true c6
      clear c6
      by_cases c7 : x13_1 < (l1.length : Int)
      rotate_left
      · rw [if_neg c7] at H; exact absurd H (by simp)
      rw [if_pos c7] at H
      have c7b0 : decide (x13_1 < (l1.length : Int)) = true := decide_eq_true c7
      clear c7
      by_cases c8 : (!(((rd_T36 l0 x13_1).f0) == ((rd_T36 l1 x13_1).f0)) || (!(((rd_T36 l0 x13_1).f1) == ((rd_T36 l1 x13_1).f1)) || (!(((rd_T36 l0 x13_1).f2) == ((rd_T36 l1 x13_1).f2))))) = true
      · rw [if_pos c8] at H
        have c8b0 : (!(((rd_T36 l0 x13_1).f0) == ((rd_T36 l1 x13_1).f0)) || (!(((rd_T36 l0 x13_1).f1) == ((rd_T36 l1 x13_1).f1)) || (!(((rd_T36 l0 x13_1).f2) == ((rd_T36 l1 x13_1).f2))))) = true := c8
        clear c8
        obtain rfl := zOi H
        have p144 : 0 ≤ (x13_1 : Int) := of_decide_eq_true (by assumption)
        have q144 : x13_1 < (l0.length : Int) := of_decide_eq_true (by assumption)
        obtain ⟨ad144, e144, hx144_0, hx144_1, hx144_2⟩ := at_T36 HR0.out x13_1 p144 q144
        cases e144
        replace p144 := eq_true p144
        replace q144 := eq_true q144
        have p145 : 0 ≤ (x13_1 : Int) := of_decide_eq_true (by assumption)
        have q145 : x13_1 < (l1.length : Int) := of_decide_eq_true (by assumption)
        obtain ⟨ad145, e145, hx145_0, hx145_1, hx145_2⟩ := at_T36 HR1.out x13_1 p145 q145
        cases e145
        replace p145 := eq_true p145
        replace q145 := eq_true q145
        go_wp2
        repeat (go_quiet (fail); try go_wp2)
        go_ret
        exact ⟨by first | rfl | (simp; done) | (simp [*]; done), by repeat (first | exact Drawn0.refl _ | apply Drawn0.step)⟩
      · rw [if_neg c8] at H
        have c8b0 : (!(((rd_T36 l0 x13_1).f0) == ((rd_T36 l1 x13_1).f0)) || (!(((rd_T36 l0 x13_1).f1) == ((rd_T36 l1 x13_1).f1)) || (!(((rd_T36 l0 x13_1).f2) == ((rd_T36 l1 x13_1).f2))))) = false := by simpa using c8
        clear c8
        have H' := zMk H
        clear H
        have p144 : 0 ≤ (x13_1 : Int) := of_decide_eq_true (by assumption)
        have q144 : x13_1 < (l0.length : Int) := of_decide_eq_true (by assumption)
        obtain ⟨ad144, e144, hx144_0, hx144_1, hx144_2⟩ := at_T36 HR0.out x13_1 p144 q144
        cases e144
        replace p144 := eq_true p144
        replace q144 := eq_true q144
        have p145 : 0 ≤ (x13_1 : Int) := of_decide_eq_true (by assumption)
        have q145 : x13_1 < (l1.length : Int) := of_decide_eq_true (by assumption)
        obtain ⟨ad145, e145, hx145_0, hx145_1, hx145_2⟩ := at_T36 HR1.out x13_1 p145 q145
        cases e145
        replace p145 := eq_true p145
        replace q145 := eq_true q145
        go_wp2
        repeat (go_quiet (fail); try go_wp2)
        go_roundg k1
        case measure => have := HK1.out; omega
        case rel => exact ⟨(wrap64 (x13_1 + 1)), (by first | rfl | (simp; done) | (simp [*]; done)), H', ⟨by have := HK1.out; omega⟩, by repeat (first | exact Drawn0.refl _ | apply Drawn0.step)⟩
    · rw [if_neg c4] at H
      have c4b0 : decide (x13_1 < (l0.length : Int)) = false := decide_eq_false c4
      clear c4
      obtain rfl := zOi H
      go_wp2
      repeat (go_quiet (fail); try go_wp2)
      go_ret
      exact ⟨by first | rfl | (simp; done) | (simp [*]; done), by repeat (first | exact Drawn0.refl _ | apply Drawn0.step)⟩
  · rw [if_neg c3] at H
    have c3b0 : ((l0.length : Int) == (l1.length : Int)) = false := beq_eq_false_iff_ne.mpr c3
    have c3b1 : ((l0.length : Int) != (l1.length : Int)) = true := bne_iff_ne.mpr c3
    have c3b2 : (l0.length == l1.length) = false := by first | simpa using c3 | (simp at c3 ⊢; omega)
    obtain rfl := zOi H
    go_enter Try.func40, Try.ntmps40
    go_wp2
    repeat (go_quiet (fail); try go_wp2)
    go_ret
    exact ⟨by first | rfl | (simp; done) | (simp [*]; done), by repeat (first | exact Drawn0.refl _ | apply Drawn0.step)⟩


def graph_Same.f (k : Nat) (a0_0 : Int) (l0_1 : List (S36)) (a1_0 : Int) (l1_1 : List (S36)) : Option (Bool) := if a0_0 = a1_0 then ((api_Edge_40.f k l0_1 l1_1).bind fun t148 => (some t148)) else (some false)
theorem graph_Same.calls (k : Nat) (a0_0 : Int) (A0_1 : Option Addr) (c0_1 : Nat) (l0_1 : List (S36)) (a1_0 : Int) (A1_1 : Option Addr) (c1_1 : Nat) (l1_1 : List (S36)) (r : Bool) (w : World) (hr0_1 : Kd.C k36 w A0_1 l0_1.length l0_1) (hc0_1 : l0_1.length ≤ c0_1) (hr1_1 : Kd.C k36 w A1_1 l1_1.length l1_1) (hc1_1 : l1_1.length ≤ c1_1) (h : graph_Same.f k a0_0 l0_1 a1_0 l1_1 = some r) :
    Calls Try.prog 18 #[.agg #[.int .i64 a0_0, .slice A0_1 l0_1.length c0_1], .agg #[.int .i64 a1_0, .slice A1_1 l1_1.length c1_1]] w fun e w' => e = .returned (.bool r) ∧ Below w.heap.size w w' := by
  have hu24 := Try.underlying24
  have HR0_1 := zMk hr0_1
  have HC0_1 := zMk hc0_1
  clear hr0_1 hc0_1
  have HR1_1 := zMk hr1_1
  have HC1_1 := zMk hc1_1
  clear hr1_1 hc1_1
  have HB := zMk (Below.refl w.heap.size w)
  have H : (if a0_0 = a1_0 then ((api_Edge_40.f k l0_1 l1_1).bind fun t148 => (some t148)) else (some false)) = some r := h
  clear h
  by_cases c3 : a0_0 = a1_0
  · rw [if_pos c3] at H
    have c3b0 : (a0_0 == a1_0) = true := beq_iff_eq.mpr c3
    have c3b1 : (a0_0 != a1_0) = false := bne_eq_false_iff_eq.mpr c3
    clear c3
    replace H := bnd H
    obtain ⟨t148, A40, H⟩ := H
    have A4 := zMk A40
    clear A40
    obtain rfl := zOi H
    go_enter Try.func18, Try.ntmps18
    go_wp2_with (first | ((with_reducible refine gate_dst (N := 2) rfl ?_); refine box_event ?hg (N := 2) ?hd (cs := #[.int .i64 a0_0, .slice A0_1 l0_1.length c0_1]) (t := 24) ?hr ?_; (case hd => rfl); (case hg => rfl); (case hr => first | (go_simp; done)|(go_simp; rfl)|(go_simp; rw [show ∀ x : Int, IntKind.u32.wrap (IntKind.u8.wrap x) = x % 256 from fun x => (by show (x % 256) % 4294967296 = x % 256; omega)])); intro gb146 hg w5 hbox hb; have BK146 := zMk (hbox); have GW146 := zMk ((by rw [hg]; exact (zBs (by exact uT HB.out)) : w.heap.size ≤ gb146)); have GE146 := zMk ((by rw [hg]; exact (zBs (by exact uT HB.out)) : w.heap.size ≤ gb146)); have IGE146 := ownGe GE146.out; replace HB := zMk (zBt (by exact uT HB.out) hb); clear hb hbox hg)|((with_reducible refine gate_dst (N := 3) rfl ?_); refine box_event ?hg (N := 3) ?hd (cs := #[.int .i64 a1_0, .slice A1_1 l1_1.length c1_1]) (t := 24) ?hr ?_; (case hd => rfl); (case hg => rfl); (case hr => first | (go_simp; done)|(go_simp; rfl)|(go_simp; rw [show ∀ x : Int, IntKind.u32.wrap (IntKind.u8.wrap x) = x % 256 from fun x => (by show (x % 256) % 4294967296 = x % 256; omega)])); intro gb147 hg w6 hbox hb; have BK147 := zMk (hbox); have GW147 := zMk ((by rw [hg]; exact (zBs (by exact uT HB.out)) : w.heap.size ≤ gb147)); have GE147 := zMk ((by rw [hg]; exact (zBs (by exact uT HB.out)) : w.heap.size ≤ gb147)); have IGE147 := ownGe GE147.out; replace HB := zMk (zBt (by exact uT HB.out) hb); have NB146_147 := zMk ((by rw [hg]; exact Nat.ne_of_lt (blk_lt (g := gb146) (o := .cells #[.int .i64 a0_0, .slice A0_1 l0_1.length c0_1] 24 (0, 0)) (by (with_reducible repeat (first |  refine zKn ?_ _|  refine zKd ?_|  refine zKa ?_ _)); exact BK146.out)) : gb146 ≠ gb147)); have NB147_146 := zMk ((by rw [hg]; exact Nat.ne_of_gt (blk_lt (g := gb146) (o := .cells #[.int .i64 a0_0, .slice A0_1 l0_1.length c0_1] 24 (0, 0)) (by (with_reducible repeat (first |  refine zKn ?_ _|  refine zKd ?_|  refine zKa ?_ _)); exact BK146.out)) : gb147 ≠ gb146)); replace BK146 := zMk (zKb (g := gb146) (o := .cells #[.int .i64 a0_0, .slice A0_1 l0_1.length c0_1] 24 (0, 0)) (by (with_reducible repeat (first |  refine zKn ?_ _|  refine zKd ?_|  refine zKa ?_ _)); exact BK146.out) hb); clear hb hbox hg; have hnb7 := NB146_147.out; have hnc7 := NB147_146.out; have hcz8_0 : w6.cell? ⟨gb146, 0, none⟩ = some (.int .i64 a0_0) := (zKc BK146.out 0).trans rfl; have hcz8_1 : w6.cell? ⟨gb146, 1, none⟩ = some (.slice A0_1 l0_1.length c0_1) := (zKc BK146.out 1).trans rfl; have hfz8_0 := zKf BK146.out 0; have hfz8_1 := zKf BK146.out 1; have hcz9_0 : w6.cell? ⟨gb147, 0, none⟩ = some (.int .i64 a1_0) := (zKc BK147.out 0).trans rfl; have hcz9_1 : w6.cell? ⟨gb147, 1, none⟩ = some (.slice A1_1 l1_1.length c1_1) := (zKc BK147.out 1).trans rfl; have hfz9_0 := zKf BK147.out 0; have hfz9_1 := zKf BK147.out 1)|(go_at_call 40; (with_reducible refine (api_Edge_40.calls k _ _ l0_1 _ _ l1_1 t148 _ ?side1 ?side2 ?side3 ?side4 A4.out).mono ?_); (case side1 => repeat (first |  exact (Kd.C_below HR0_1.out HB.out)|(with_reducible refine zCa ?_ _)|(with_reducible refine zCn ?_ _)|(with_reducible refine zCd ?_))); (case side2 => exact HC0_1.out); (case side3 => repeat (first |  exact (Kd.C_below HR1_1.out HB.out)|(with_reducible refine zCa ?_ _)|(with_reducible refine zCn ?_ _)|(with_reducible refine zCd ?_))); (case side4 => exact HC1_1.out); rintro e w' ⟨rfl, ⟨nd, rfl⟩⟩))
    go_ret
    exact ⟨by first | rfl | (simp [errW_none, errW_some] <;> rfl) | (simp [*, errW_none, errW_some] <;> rfl), by exact uT HB.out⟩
  · rw [if_neg c3] at H
    have c3b0 : (a0_0 == a1_0) = false := beq_eq_false_iff_ne.mpr c3
    have c3b1 : (a0_0 != a1_0) = true := bne_iff_ne.mpr c3
    obtain rfl := zOi H
    go_enter Try.func18, Try.ntmps18
    go_wp2_with (first | ((with_reducible refine gate_dst (N := 2) rfl ?_); refine box_event ?hg (N := 2) ?hd (cs := #[.int .i64 a0_0, .slice A0_1 l0_1.length c0_1]) (t := 24) ?hr ?_; (case hd => rfl); (case hg => rfl); (case hr => first | (go_simp; done)|(go_simp; rfl)|(go_simp; rw [show ∀ x : Int, IntKind.u32.wrap (IntKind.u8.wrap x) = x % 256 from fun x => (by show (x % 256) % 4294967296 = x % 256; omega)])); intro gb146 hg w10 hbox hb; have BK146 := zMk (hbox); have GW146 := zMk ((by rw [hg]; exact (zBs (by exact uT HB.out)) : w.heap.size ≤ gb146)); have GE146 := zMk ((by rw [hg]; exact (zBs (by exact uT HB.out)) : w.heap.size ≤ gb146)); have IGE146 := ownGe GE146.out; replace HB := zMk (zBt (by exact uT HB.out) hb); clear hb hbox hg)|((with_reducible refine gate_dst (N := 3) rfl ?_); refine box_event ?hg (N := 3) ?hd (cs := #[.int .i64 a1_0, .slice A1_1 l1_1.length c1_1]) (t := 24) ?hr ?_; (case hd => rfl); (case hg => rfl); (case hr => first | (go_simp; done)|(go_simp; rfl)|(go_simp; rw [show ∀ x : Int, IntKind.u32.wrap (IntKind.u8.wrap x) = x % 256 from fun x => (by show (x % 256) % 4294967296 = x % 256; omega)])); intro gb147 hg w11 hbox hb; have BK147 := zMk (hbox); have GW147 := zMk ((by rw [hg]; exact (zBs (by exact uT HB.out)) : w.heap.size ≤ gb147)); have GE147 := zMk ((by rw [hg]; exact (zBs (by exact uT HB.out)) : w.heap.size ≤ gb147)); have IGE147 := ownGe GE147.out; replace HB := zMk (zBt (by exact uT HB.out) hb); have NB146_147 := zMk ((by rw [hg]; exact Nat.ne_of_lt (blk_lt (g := gb146) (o := .cells #[.int .i64 a0_0, .slice A0_1 l0_1.length c0_1] 24 (0, 0)) (by (with_reducible repeat (first |  refine zKn ?_ _|  refine zKd ?_|  refine zKa ?_ _)); exact BK146.out)) : gb146 ≠ gb147)); have NB147_146 := zMk ((by rw [hg]; exact Nat.ne_of_gt (blk_lt (g := gb146) (o := .cells #[.int .i64 a0_0, .slice A0_1 l0_1.length c0_1] 24 (0, 0)) (by (with_reducible repeat (first |  refine zKn ?_ _|  refine zKd ?_|  refine zKa ?_ _)); exact BK146.out)) : gb147 ≠ gb146)); replace BK146 := zMk (zKb (g := gb146) (o := .cells #[.int .i64 a0_0, .slice A0_1 l0_1.length c0_1] 24 (0, 0)) (by (with_reducible repeat (first |  refine zKn ?_ _|  refine zKd ?_|  refine zKa ?_ _)); exact BK146.out) hb); clear hb hbox hg; have hnb12 := NB146_147.out; have hnc12 := NB147_146.out; have hcz13_0 : w11.cell? ⟨gb146, 0, none⟩ = some (.int .i64 a0_0) := (zKc BK146.out 0).trans rfl; have hcz13_1 : w11.cell? ⟨gb146, 1, none⟩ = some (.slice A0_1 l0_1.length c0_1) := (zKc BK146.out 1).trans rfl; have hfz13_0 := zKf BK146.out 0; have hfz13_1 := zKf BK146.out 1; have hcz14_0 : w11.cell? ⟨gb147, 0, none⟩ = some (.int .i64 a1_0) := (zKc BK147.out 0).trans rfl; have hcz14_1 : w11.cell? ⟨gb147, 1, none⟩ = some (.slice A1_1 l1_1.length c1_1) := (zKc BK147.out 1).trans rfl; have hfz14_0 := zKf BK147.out 0; have hfz14_1 := zKf BK147.out 1))
    go_ret
    exact ⟨by first | rfl | (simp [errW_none, errW_some] <;> rfl) | (simp [*, errW_none, errW_some] <;> rfl), by exact uT HB.out⟩


attribute [local go_sem high] eqA36
mutual
def filigreeref04_Same.j0 : Nat → Bool → Int → List (S36) → Int → List (S36) → Option (Bool)
  | 0, _, _, _, _, _ => none
  | k + 1, x19, x140000, x140001, x141000, x141001 => if x19 = true then (some false) else (filigreeref04_Same.l0 k 0 x140000 x140001 x141000 x141001)
def filigreeref04_Same.l0 : Nat → Int → Int → List (S36) → Int → List (S36) → Option (Bool)
  | 0, _, _, _, _, _ => none
  | k + 1, x5, x140000, x140001, x141000, x141001 => if x5 < (x140001.length : Int) then (if 0 ≤ x5 then (if x5 < (x141001.length : Int) then (if (!(((rd_T36 x140001 x5).f0) == ((rd_T36 x141001 x5).f0)) || (!(((rd_T36 x140001 x5).f1) == ((rd_T36 x141001 x5).f1)) || (!(((rd_T36 x140001 x5).f2) == ((rd_T36 x141001 x5).f2))))) = true then (some false) else (filigreeref04_Same.l0 k (wrap64 (x5 + 1)) x140000 x140001 x141000 x141001)) else (none)) else (none)) else (some true)
end
def filigreeref04_Same.f (k : Nat) (a0_0 : Int) (l0_1 : List (S36)) (a1_0 : Int) (l1_1 : List (S36)) : Option (Bool) := if a0_0 = a1_0 then (filigreeref04_Same.j0 k ((l0_1.length : Int) != (l1_1.length : Int)) a0_0 l0_1 a1_0 l1_1) else (filigreeref04_Same.j0 k true a0_0 l0_1 a1_0 l1_1)
theorem filigreeref04_Same.calls (k : Nat) (a0_0 : Int) (A0_1 : Option Addr) (c0_1 : Nat) (l0_1 : List (S36)) (a1_0 : Int) (A1_1 : Option Addr) (c1_1 : Nat) (l1_1 : List (S36)) (r : Bool) (w : World) (hr0_1 : Kd.C k36 w A0_1 l0_1.length l0_1) (hc0_1 : l0_1.length ≤ c0_1) (hr1_1 : Kd.C k36 w A1_1 l1_1.length l1_1) (hc1_1 : l1_1.length ≤ c1_1) (h : filigreeref04_Same.f k a0_0 l0_1 a1_0 l1_1 = some r) :
    Calls Try.prog 16 #[.agg #[.int .i64 a0_0, .slice A0_1 l0_1.length c0_1], .agg #[.int .i64 a1_0, .slice A1_1 l1_1.length c1_1]] w fun e w' => e = .returned (.bool r) ∧ Below w.heap.size w w' := by
  have hu24 := Try.underlying24
  have hu36 := Try.underlying36
  have HR0_1 := zMk hr0_1
  have HC0_1 := zMk hc0_1
  clear hr0_1 hc0_1
  have HR1_1 := zMk hr1_1
  have HC1_1 := zMk hc1_1
  clear hr1_1 hc1_1
  have HB := zMk (Below.refl w.heap.size w)
  have H : (if a0_0 = a1_0 then (filigreeref04_Same.j0 k ((l0_1.length : Int) != (l1_1.length : Int)) a0_0 l0_1 a1_0 l1_1) else (filigreeref04_Same.j0 k true a0_0 l0_1 a1_0 l1_1)) = some r := h
  clear h
  have HC3 := zMk H
  clear H
  go_enter Try.func16, Try.ntmps16
  go_upto_region 1 with (first | ((with_reducible refine gate_dst (N := 2) rfl ?_); (try (refine gate_guard (by rfl) ?_; dsimp only)); refine box_event ?hg (N := 2) ?hd (cs := #[.int .i64 a0_0, .slice A0_1 l0_1.length c0_1]) (t := 24) ?hr ?_; (case hd => rfl); (case hg => rfl); (case hr => first | (go_simp; done)|(go_simp; rfl)|(go_simp; rw [show ∀ x : Int, IntKind.u32.wrap (IntKind.u8.wrap x) = x % 256 from fun x => (by show (x % 256) % 4294967296 = x % 256; omega)])); intro gb139 hg w4 hbox hb; have BK139 := zMk (hbox); have GW139 := zMk ((by rw [hg]; exact (zBs (by exact uT HB.out)) : w.heap.size ≤ gb139)); have GE139 := zMk ((by rw [hg]; exact (zBs (by exact uT HB.out)) : w.heap.size ≤ gb139)); have IGE139 := ownGe GE139.out; replace HB := zMk (zBt (by exact uT HB.out) hb); clear hb hbox hg)|((with_reducible refine gate_dst (N := 3) rfl ?_); (try (refine gate_guard (by rfl) ?_; dsimp only)); refine box_event ?hg (N := 3) ?hd (cs := #[.int .i64 a1_0, .slice A1_1 l1_1.length c1_1]) (t := 24) ?hr ?_; (case hd => rfl); (case hg => rfl); (case hr => first | (go_simp; done)|(go_simp; rfl)|(go_simp; rw [show ∀ x : Int, IntKind.u32.wrap (IntKind.u8.wrap x) = x % 256 from fun x => (by show (x % 256) % 4294967296 = x % 256; omega)])); intro gb140 hg w5 hbox hb; have BK140 := zMk (hbox); have GW140 := zMk ((by rw [hg]; exact (zBs (by exact uT HB.out)) : w.heap.size ≤ gb140)); have GE140 := zMk ((by rw [hg]; exact (zBs (by exact uT HB.out)) : w.heap.size ≤ gb140)); have IGE140 := ownGe GE140.out; replace HB := zMk (zBt (by exact uT HB.out) hb); have NB139_140 := zMk ((by rw [hg]; exact Nat.ne_of_lt (blk_lt (g := gb139) (o := .cells #[.int .i64 a0_0, .slice A0_1 l0_1.length c0_1] 24 (0, 0)) (by (with_reducible repeat (first |  refine zKn ?_ _|  refine zKd ?_|  refine zKa ?_ _)); exact BK139.out)) : gb139 ≠ gb140)); have NB140_139 := zMk ((by rw [hg]; exact Nat.ne_of_gt (blk_lt (g := gb139) (o := .cells #[.int .i64 a0_0, .slice A0_1 l0_1.length c0_1] 24 (0, 0)) (by (with_reducible repeat (first |  refine zKn ?_ _|  refine zKd ?_|  refine zKa ?_ _)); exact BK139.out)) : gb140 ≠ gb139)); replace BK139 := zMk (zKb (g := gb139) (o := .cells #[.int .i64 a0_0, .slice A0_1 l0_1.length c0_1] 24 (0, 0)) (by (with_reducible repeat (first |  refine zKn ?_ _|  refine zKd ?_|  refine zKa ?_ _)); exact BK139.out) hb); clear hb hbox hg))
  repeat (go_quiet (first | ((with_reducible refine gate_dst (N := 2) rfl ?_); (try (refine gate_guard (by rfl) ?_; dsimp only)); refine box_event ?hg (N := 2) ?hd (cs := #[.int .i64 a0_0, .slice A0_1 l0_1.length c0_1]) (t := 24) ?hr ?_; (case hd => rfl); (case hg => rfl); (case hr => first | (go_simp; done)|(go_simp; rfl)|(go_simp; rw [show ∀ x : Int, IntKind.u32.wrap (IntKind.u8.wrap x) = x % 256 from fun x => (by show (x % 256) % 4294967296 = x % 256; omega)])); intro gb139 hg w4 hbox hb; have BK139 := zMk (hbox); have GW139 := zMk ((by rw [hg]; exact (zBs (by exact uT HB.out)) : w.heap.size ≤ gb139)); have GE139 := zMk ((by rw [hg]; exact (zBs (by exact uT HB.out)) : w.heap.size ≤ gb139)); have IGE139 := ownGe GE139.out; replace HB := zMk (zBt (by exact uT HB.out) hb); clear hb hbox hg)|((with_reducible refine gate_dst (N := 3) rfl ?_); (try (refine gate_guard (by rfl) ?_; dsimp only)); refine box_event ?hg (N := 3) ?hd (cs := #[.int .i64 a1_0, .slice A1_1 l1_1.length c1_1]) (t := 24) ?hr ?_; (case hd => rfl); (case hg => rfl); (case hr => first | (go_simp; done)|(go_simp; rfl)|(go_simp; rw [show ∀ x : Int, IntKind.u32.wrap (IntKind.u8.wrap x) = x % 256 from fun x => (by show (x % 256) % 4294967296 = x % 256; omega)])); intro gb140 hg w5 hbox hb; have BK140 := zMk (hbox); have GW140 := zMk ((by rw [hg]; exact (zBs (by exact uT HB.out)) : w.heap.size ≤ gb140)); have GE140 := zMk ((by rw [hg]; exact (zBs (by exact uT HB.out)) : w.heap.size ≤ gb140)); have IGE140 := ownGe GE140.out; replace HB := zMk (zBt (by exact uT HB.out) hb); have NB139_140 := zMk ((by rw [hg]; exact Nat.ne_of_lt (blk_lt (g := gb139) (o := .cells #[.int .i64 a0_0, .slice A0_1 l0_1.length c0_1] 24 (0, 0)) (by (with_reducible repeat (first |  refine zKn ?_ _|  refine zKd ?_|  refine zKa ?_ _)); exact BK139.out)) : gb139 ≠ gb140)); have NB140_139 := zMk ((by rw [hg]; exact Nat.ne_of_gt (blk_lt (g := gb139) (o := .cells #[.int .i64 a0_0, .slice A0_1 l0_1.length c0_1] 24 (0, 0)) (by (with_reducible repeat (first |  refine zKn ?_ _|  refine zKd ?_|  refine zKa ?_ _)); exact BK139.out)) : gb140 ≠ gb139)); replace BK139 := zMk (zKb (g := gb139) (o := .cells #[.int .i64 a0_0, .slice A0_1 l0_1.length c0_1] 24 (0, 0)) (by (with_reducible repeat (first |  refine zKn ?_ _|  refine zKd ?_|  refine zKa ?_ _)); exact BK139.out) hb); clear hb hbox hg)); go_upto_region 1 with (first | ((with_reducible refine gate_dst (N := 2) rfl ?_); (try (refine gate_guard (by rfl) ?_; dsimp only)); refine box_event ?hg (N := 2) ?hd (cs := #[.int .i64 a0_0, .slice A0_1 l0_1.length c0_1]) (t := 24) ?hr ?_; (case hd => rfl); (case hg => rfl); (case hr => first | (go_simp; done)|(go_simp; rfl)|(go_simp; rw [show ∀ x : Int, IntKind.u32.wrap (IntKind.u8.wrap x) = x % 256 from fun x => (by show (x % 256) % 4294967296 = x % 256; omega)])); intro gb139 hg w4 hbox hb; have BK139 := zMk (hbox); have GW139 := zMk ((by rw [hg]; exact (zBs (by exact uT HB.out)) : w.heap.size ≤ gb139)); have GE139 := zMk ((by rw [hg]; exact (zBs (by exact uT HB.out)) : w.heap.size ≤ gb139)); have IGE139 := ownGe GE139.out; replace HB := zMk (zBt (by exact uT HB.out) hb); clear hb hbox hg)|((with_reducible refine gate_dst (N := 3) rfl ?_); (try (refine gate_guard (by rfl) ?_; dsimp only)); refine box_event ?hg (N := 3) ?hd (cs := #[.int .i64 a1_0, .slice A1_1 l1_1.length c1_1]) (t := 24) ?hr ?_; (case hd => rfl); (case hg => rfl); (case hr => first | (go_simp; done)|(go_simp; rfl)|(go_simp; rw [show ∀ x : Int, IntKind.u32.wrap (IntKind.u8.wrap x) = x % 256 from fun x => (by show (x % 256) % 4294967296 = x % 256; omega)])); intro gb140 hg w5 hbox hb; have BK140 := zMk (hbox); have GW140 := zMk ((by rw [hg]; exact (zBs (by exact uT HB.out)) : w.heap.size ≤ gb140)); have GE140 := zMk ((by rw [hg]; exact (zBs (by exact uT HB.out)) : w.heap.size ≤ gb140)); have IGE140 := ownGe GE140.out; replace HB := zMk (zBt (by exact uT HB.out) hb); have NB139_140 := zMk ((by rw [hg]; exact Nat.ne_of_lt (blk_lt (g := gb139) (o := .cells #[.int .i64 a0_0, .slice A0_1 l0_1.length c0_1] 24 (0, 0)) (by (with_reducible repeat (first |  refine zKn ?_ _|  refine zKd ?_|  refine zKa ?_ _)); exact BK139.out)) : gb139 ≠ gb140)); have NB140_139 := zMk ((by rw [hg]; exact Nat.ne_of_gt (blk_lt (g := gb139) (o := .cells #[.int .i64 a0_0, .slice A0_1 l0_1.length c0_1] 24 (0, 0)) (by (with_reducible repeat (first |  refine zKn ?_ _|  refine zKd ?_|  refine zKa ?_ _)); exact BK139.out)) : gb140 ≠ gb139)); replace BK139 := zMk (zKb (g := gb139) (o := .cells #[.int .i64 a0_0, .slice A0_1 l0_1.length c0_1] 24 (0, 0)) (by (with_reducible repeat (first |  refine zKn ?_ _|  refine zKd ?_|  refine zKa ?_ _)); exact BK139.out) hb); clear hb hbox hg)))
  (try simp only [Act.put, zSa, zSb, zSc])
  go_cut [19] (fun v19 wc => ∃ (kq : Nat) (x19_2 : Bool), v19 = .bool x19_2 ∧ Aside0 (filigreeref04_Same.j0 kq x19_2 a0_0 l0_1 a1_0 l1_1 = some r) ∧ Aside0 (kq ≤ k) ∧ Aside0 (wc.heap[gb139]? = some (.cells #[.int .i64 a0_0, (.slice A0_1 l0_1.length c0_1)] 24 (0, 0))) ∧ Aside0 (wc.heap[gb140]? = some (.cells #[.int .i64 a1_0, (.slice A1_1 l1_1.length c1_1)] 24 (0, 0))) ∧ Aside0 (Below w.heap.size w wc))
  case first =>
    have H := HC3.out
    clear HC3
    by_cases c6 : a0_0 = a1_0
    · rw [if_pos c6] at H
      have c6b0 : (a0_0 == a1_0) = true := beq_iff_eq.mpr c6
      have c6b1 : (a0_0 != a1_0) = false := bne_eq_false_iff_eq.mpr c6
      clear c6
      (first | rw [c6b0] | (simp only [i64_w, i32_w]; rw [c6b0]) | rw [c6b1] | skip)
      have H' := zMk H
      clear H
      have hnb7 := NB139_140.out
      have hnc7 := NB140_139.out
      have hcz8_0 : w5.cell? ⟨gb139, 0, none⟩ = some (.int .i64 a0_0) := (zKc BK139.out 0).trans rfl
      have hcz8_1 : w5.cell? ⟨gb139, 1, none⟩ = some (.slice A0_1 l0_1.length c0_1) := (zKc BK139.out 1).trans rfl
      have hfz8_0 := zKf BK139.out 0
      have hfz8_1 := zKf BK139.out 1
      have hcz9_0 : w5.cell? ⟨gb140, 0, none⟩ = some (.int .i64 a1_0) := (zKc BK140.out 0).trans rfl
      have hcz9_1 : w5.cell? ⟨gb140, 1, none⟩ = some (.slice A1_1 l1_1.length c1_1) := (zKc BK140.out 1).trans rfl
      have hfz9_0 := zKf BK140.out 0
      have hfz9_1 := zKf BK140.out 1
      go_wp2
      repeat (go_quiet (fail); try go_wp2)
      go_meet
      case rel => exact ⟨_, (((l0_1.length : Int) != (l1_1.length : Int))), (by first | rfl | (simp; done) | (simp [*]; done)), H', ⟨by first | omega | exact Nat.le_refl _⟩, ⟨by (with_reducible repeat (first | refine zKn ?_ _ | refine zKd ?_ | refine zKa ?_ _)); exact BK139.out⟩, ⟨by (with_reducible repeat (first | refine zKn ?_ _ | refine zKd ?_ | refine zKa ?_ _)); exact BK140.out⟩, ⟨by exact uT HB.out⟩⟩
    · rw [if_neg c6] at H
      have c6b0 : (a0_0 == a1_0) = false := beq_eq_false_iff_ne.mpr c6
      have c6b1 : (a0_0 != a1_0) = true := bne_iff_ne.mpr c6
      (first | rw [c6b0] | (simp only [i64_w, i32_w]; rw [c6b0]) | rw [c6b1] | skip)
      have H' := zMk H
      clear H
      have hnb10 := NB139_140.out
      have hnc10 := NB140_139.out
      have hcz11_0 : w5.cell? ⟨gb139, 0, none⟩ = some (.int .i64 a0_0) := (zKc BK139.out 0).trans rfl
      have hcz11_1 : w5.cell? ⟨gb139, 1, none⟩ = some (.slice A0_1 l0_1.length c0_1) := (zKc BK139.out 1).trans rfl
      have hfz11_0 := zKf BK139.out 0
      have hfz11_1 := zKf BK139.out 1
      have hcz12_0 : w5.cell? ⟨gb140, 0, none⟩ = some (.int .i64 a1_0) := (zKc BK140.out 0).trans rfl
      have hcz12_1 : w5.cell? ⟨gb140, 1, none⟩ = some (.slice A1_1 l1_1.length c1_1) := (zKc BK140.out 1).trans rfl
      have hfz12_0 := zKf BK140.out 0
      have hfz12_1 := zKf BK140.out 1
      go_wp2
      repeat (go_quiet (fail); try go_wp2)
      go_meet
      case rel => exact ⟨_, (true), (by first | rfl | (simp; done) | (simp [*]; done)), H', ⟨by first | omega | exact Nat.le_refl _⟩, ⟨by (with_reducible repeat (first | refine zKn ?_ _ | refine zKd ?_ | refine zKa ?_ _)); exact BK139.out⟩, ⟨by (with_reducible repeat (first | refine zKn ?_ _ | refine zKd ?_ | refine zKa ?_ _)); exact BK140.out⟩, ⟨by exact uT HB.out⟩⟩
  case rest =>
    clear HC3
    obtain ⟨kq, x19_2, rfl, HA, HJ2, BK139, BK140, HB⟩ := hcut
    rcases kq with _ | kj2
    · exact absurd HA.out (by simp [filigreeref04_Same.j0])
    have H := HA.out
    clear HA
    simp only [filigreeref04_Same.j0] at H
    by_cases c13 : x19_2 = true
    · subst c13
      replace H : (some false) = some r := by rw [if_pos rfl] at H; exact H
      obtain rfl := zOi H
      go_wp2
      repeat (go_quiet (fail); try go_wp2)
      go_ret
      exact ⟨by first | rfl | (simp [errW_none, errW_some] <;> rfl) | (simp [*, errW_none, errW_some] <;> rfl), by exact uT HB.out⟩
    · replace c13 := Bool.eq_false_iff.mpr c13
      subst c13
      replace H : (filigreeref04_Same.l0 kj2 0 a0_0 l0_1 a1_0 l1_1) = some r := by rw [if_neg (show ¬ (false = true) by decide)] at H; exact H
      have H' := zMk H
      clear H
      go_wp2
      repeat (go_quiet (fail); try go_wp2)
      go_loopg [5] kj2 (fun kq v5 w' => ∃ (x5_2 : Int), v5 = .int .i64 x5_2 ∧ Aside0 (filigreeref04_Same.l0 kq x5_2 a0_0 l0_1 a1_0 l1_1 = some r) ∧ Aside0 (kq ≤ kj2) ∧ Aside0 (w'.heap[gb139]? = some (.cells #[.int .i64 a0_0, (.slice A0_1 l0_1.length c0_1)] 24 (0, 0))) ∧ Aside0 (w'.heap[gb140]? = some (.cells #[.int .i64 a1_0, (.slice A1_1 l1_1.length c1_1)] 24 (0, 0))) ∧ Aside0 (Below w.heap.size w w'))
      case atStart => exact ⟨(0), (by first | rfl | (simp; done) | (simp [*]; done)), H', ⟨Nat.le_refl _⟩, ⟨by (with_reducible repeat (first | refine zKn ?_ _ | refine zKd ?_ | refine zKa ?_ _)); exact BK139.out⟩, ⟨by (with_reducible repeat (first | refine zKn ?_ _ | refine zKd ?_ | refine zKa ?_ _)); exact BK140.out⟩, ⟨by exact uT HB.out⟩⟩
      clear H'
      obtain ⟨x5_2, rfl, HA, HK2, BK139, BK140, HB⟩ := hrel
      rcases gk with _ | k2
      · exact absurd HA.out (by simp [filigreeref04_Same.l0])
      have H := HA.out
      clear HA
      simp only [filigreeref04_Same.l0] at H
      by_cases c14 : x5_2 < (l0_1.length : Int)
      · rw [if_pos c14] at H
        have c14b0 : decide (x5_2 < (l0_1.length : Int)) = true := decide_eq_true c14
        clear c14
        by_cases c15 : 0 ≤ x5_2
        rotate_left
        · rw [if_neg c15] at H; exact absurd H (by simp)
        rw [if_pos c15] at H
        have c15b0 : decide (0 ≤ x5_2) = true := decide_eq_true c15
        clear c15
        by_cases c16 : x5_2 < (l1_1.length : Int)
        rotate_left
        · rw [if_neg c16] at H; exact absurd H (by simp)
        rw [if_pos c16] at H
        have c16b0 : decide (x5_2 < (l1_1.length : Int)) = true := decide_eq_true c16
        clear c16
        by_cases c17 : (!(((rd_T36 l0_1 x5_2).f0) == ((rd_T36 l1_1 x5_2).f0)) || (!(((rd_T36 l0_1 x5_2).f1) == ((rd_T36 l1_1 x5_2).f1)) || (!(((rd_T36 l0_1 x5_2).f2) == ((rd_T36 l1_1 x5_2).f2))))) = true
        · rw [if_pos c17] at H
          have c17b0 : (!(((rd_T36 l0_1 x5_2).f0) == ((rd_T36 l1_1 x5_2).f0)) || (!(((rd_T36 l0_1 x5_2).f1) == ((rd_T36 l1_1 x5_2).f1)) || (!(((rd_T36 l0_1 x5_2).f2) == ((rd_T36 l1_1 x5_2).f2))))) = true := c17
          clear c17
          obtain rfl := zOi H
          have hnb18 := NB139_140.out
          have hnc18 := NB140_139.out
          have hcz19_0 : wr.cell? ⟨gb139, 0, none⟩ = some (.int .i64 a0_0) := (zKc BK139.out 0).trans rfl
          have hcz19_1 : wr.cell? ⟨gb139, 1, none⟩ = some (.slice A0_1 l0_1.length c0_1) := (zKc BK139.out 1).trans rfl
          have hfz19_0 := zKf BK139.out 0
          have hfz19_1 := zKf BK139.out 1
          have p141 : 0 ≤ (x5_2 : Int) := of_decide_eq_true (by assumption)
          have q141 : x5_2 < (l0_1.length : Int) := of_decide_eq_true (by assumption)
          obtain ⟨ad141, e141, hx141_0, hx141_1, hx141_2⟩ := at_T36 HR0_1.out x5_2 p141 q141
          cases e141
          replace hx141_0 := (HB.out.cell (World.block_lt_of_cell? w _ hx141_0)).trans hx141_0
          replace hx141_1 := (HB.out.cell (World.block_lt_of_cell? w _ hx141_1)).trans hx141_1
          replace hx141_2 := (HB.out.cell (World.block_lt_of_cell? w _ hx141_2)).trans hx141_2
          replace p141 := eq_true p141
          replace q141 := eq_true q141
          have hcz20_0 : wr.cell? ⟨gb140, 0, none⟩ = some (.int .i64 a1_0) := (zKc BK140.out 0).trans rfl
          have hcz20_1 : wr.cell? ⟨gb140, 1, none⟩ = some (.slice A1_1 l1_1.length c1_1) := (zKc BK140.out 1).trans rfl
          have hfz20_0 := zKf BK140.out 0
          have hfz20_1 := zKf BK140.out 1
          have p142 : 0 ≤ (x5_2 : Int) := of_decide_eq_true (by assumption)
          have q142 : x5_2 < (l1_1.length : Int) := of_decide_eq_true (by assumption)
          obtain ⟨ad142, e142, hx142_0, hx142_1, hx142_2⟩ := at_T36 HR1_1.out x5_2 p142 q142
          cases e142
          replace hx142_0 := (HB.out.cell (World.block_lt_of_cell? w _ hx142_0)).trans hx142_0
          replace hx142_1 := (HB.out.cell (World.block_lt_of_cell? w _ hx142_1)).trans hx142_1
          replace hx142_2 := (HB.out.cell (World.block_lt_of_cell? w _ hx142_2)).trans hx142_2
          replace p142 := eq_true p142
          replace q142 := eq_true q142
          go_wp2
          repeat (go_quiet (fail); try go_wp2)
          go_ret
          exact ⟨by first | rfl | (simp [errW_none, errW_some] <;> rfl) | (simp [*, errW_none, errW_some] <;> rfl), by exact uT HB.out⟩
        · rw [if_neg c17] at H
          have c17b0 : (!(((rd_T36 l0_1 x5_2).f0) == ((rd_T36 l1_1 x5_2).f0)) || (!(((rd_T36 l0_1 x5_2).f1) == ((rd_T36 l1_1 x5_2).f1)) || (!(((rd_T36 l0_1 x5_2).f2) == ((rd_T36 l1_1 x5_2).f2))))) = false := by simpa using c17
          clear c17
          have H' := zMk H
          clear H
          have hnb21 := NB139_140.out
          have hnc21 := NB140_139.out
          have hcz22_0 : wr.cell? ⟨gb139, 0, none⟩ = some (.int .i64 a0_0) := (zKc BK139.out 0).trans rfl
          have hcz22_1 : wr.cell? ⟨gb139, 1, none⟩ = some (.slice A0_1 l0_1.length c0_1) := (zKc BK139.out 1).trans rfl
          have hfz22_0 := zKf BK139.out 0
          have hfz22_1 := zKf BK139.out 1
          have p141 : 0 ≤ (x5_2 : Int) := of_decide_eq_true (by assumption)
          have q141 : x5_2 < (l0_1.length : Int) := of_decide_eq_true (by assumption)
          obtain ⟨ad141, e141, hx141_0, hx141_1, hx141_2⟩ := at_T36 HR0_1.out x5_2 p141 q141
          cases e141
          replace hx141_0 := (HB.out.cell (World.block_lt_of_cell? w _ hx141_0)).trans hx141_0
          replace hx141_1 := (HB.out.cell (World.block_lt_of_cell? w _ hx141_1)).trans hx141_1
          replace hx141_2 := (HB.out.cell (World.block_lt_of_cell? w _ hx141_2)).trans hx141_2
          replace p141 := eq_true p141
          replace q141 := eq_true q141
          have hcz23_0 : wr.cell? ⟨gb140, 0, none⟩ = some (.int .i64 a1_0) := (zKc BK140.out 0).trans rfl
          have hcz23_1 : wr.cell? ⟨gb140, 1, none⟩ = some (.slice A1_1 l1_1.length c1_1) := (zKc BK140.out 1).trans rfl
          have hfz23_0 := zKf BK140.out 0
          have hfz23_1 := zKf BK140.out 1
          have p142 : 0 ≤ (x5_2 : Int) := of_decide_eq_true (by assumption)
          have q142 : x5_2 < (l1_1.length : Int) := of_decide_eq_true (by assumption)
          obtain ⟨ad142, e142, hx142_0, hx142_1, hx142_2⟩ := at_T36 HR1_1.out x5_2 p142 q142
          cases e142
          replace hx142_0 := (HB.out.cell (World.block_lt_of_cell? w _ hx142_0)).trans hx142_0
          replace hx142_1 := (HB.out.cell (World.block_lt_of_cell? w _ hx142_1)).trans hx142_1
          replace hx142_2 := (HB.out.cell (World.block_lt_of_cell? w _ hx142_2)).trans hx142_2
          replace p142 := eq_true p142
          replace q142 := eq_true q142
          go_wp2
          repeat (go_quiet (fail); try go_wp2)
          go_roundg k2
          case measure => have := HJ2.out; have := HK2.out; omega
          case rel => exact ⟨(wrap64 (x5_2 + 1)), (by first | rfl | (simp; done) | (simp [*]; done)), H', ⟨by have := HJ2.out; have := HK2.out; omega⟩, ⟨by (with_reducible repeat (first | refine zKn ?_ _ | refine zKd ?_ | refine zKa ?_ _)); exact BK139.out⟩, ⟨by (with_reducible repeat (first | refine zKn ?_ _ | refine zKd ?_ | refine zKa ?_ _)); exact BK140.out⟩, ⟨by exact uT HB.out⟩⟩
      · rw [if_neg c14] at H
        have c14b0 : decide (x5_2 < (l0_1.length : Int)) = false := decide_eq_false c14
        clear c14
        obtain rfl := zOi H
        have hnb24 := NB139_140.out
        have hnc24 := NB140_139.out
        have hcz25_0 : wr.cell? ⟨gb139, 0, none⟩ = some (.int .i64 a0_0) := (zKc BK139.out 0).trans rfl
        have hcz25_1 : wr.cell? ⟨gb139, 1, none⟩ = some (.slice A0_1 l0_1.length c0_1) := (zKc BK139.out 1).trans rfl
        have hfz25_0 := zKf BK139.out 0
        have hfz25_1 := zKf BK139.out 1
        go_wp2
        repeat (go_quiet (fail); try go_wp2)
        go_ret
        exact ⟨by first | rfl | (simp [errW_none, errW_some] <;> rfl) | (simp [*, errW_none, errW_some] <;> rfl), by exact uT HB.out⟩

end Go.Proofs.Yteicpdkembmilaa.A
