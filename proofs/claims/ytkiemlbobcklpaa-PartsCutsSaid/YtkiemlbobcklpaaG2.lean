/- Lemmas for the statement: the walks of the functions that it reaches, and plain laws. -/
import Derived.Test.YtkiemlbobcklpaaG1
import Derived.Ground.SlsfProg
import Derived.Shelf.SlSortCmp.Insertion
import Derived.Shelf.SlSortCmp.SiftDown1
import Derived.Shelf.SlSortCmp.HeapSort1
import Derived.Shelf.SlSortCmp.Insertion1
import Derived.Shelf.SlSortCmp.Median1
import Derived.Shelf.SlSortCmp.Pivot1
import Derived.Shelf.SlSortCmp.ReverseRange1
import Derived.Shelf.SlSortCmp.PartialInsertion1
import Derived.Shelf.SlSortCmp.PartitionEqual1
import Derived.Shelf.SlSortCmp.Partition1
import Derived.Shelf.SlSortCmp.Pdq1
import Derived.Shelf.SlSortCmp.Whole1
import Derived.Shelf.SlSortCmp.NoneTotal
import Derived.Test.YtkiemlbobcklpaaProg
import Derived.Sort.AssemblyPlain
import Derived.Shelf.SlIterI.Collect
import Derived.Shelf.SlicesQ.IndexFunc
import Derived.Ground.GgzProg
import Derived.Ground.SlgfProg
import Derived.RangeFuncGives
set_option linter.unusedVariables false
set_option linter.unusedSimpArgs false
set_option maxHeartbeats 8000000
set_option maxRecDepth 100000
namespace Go.Proofs.Ytkiemlbobcklpaa.A
open Go Go.RowKit Go.Proofs.YtkiemlbobcklpaaW.PrintWords Go.Proofs.YtkiemlbobcklpaaW.PrintLast Go.Proofs.YtkiemlbobcklpaaW.PrintMore
attribute [local go_sem] max2_int min2_int max_two min_two max_three min_three max_four min_four
open Go.Proofs.YtkiemlbobcklpaaW.PrintWords.Kd renaming R_alloc → zRa, R_drewN → zRn, R_drew → zRd, C_alloc → zCa, C_drewN → zCn, C_drew → zCd, R_mono → zRm, at_int → zAi, R_elder' → zRe, R_lower → zRl, R_new' → zRw, R_lt → zRt, R_below → zRb, R_base → zRz, R_reads' → zRr, R_slice → zRs
open Go.Proofs.YtkiemlbobcklpaaW.PrintWords renaming pw_below_drewN → zBn, below_alloc → zBa, below_drew1 → zBd, below_size → zBs, below_step → zBt, blk_drewN → zKn, blk_drew → zKd, blk_alloc → zKa, blk_below → zKb, blk_cell → zKc, blk_frozen → zKf
open List renaming setIfInBounds_toArray → zSa, set_cons_zero → zSb, set_cons_succ → zSc, length_drop → zLd, length_take → zLt, map_toArray → zMa, map_cons → zMc, map_nil → zMn, length_cons → zLc, length_nil → zLn
open Go.Proofs.YtkiemlbobcklpaaW.PrintWords.Aside0 renaming mk → zMk
open Option renaming bind_eq_some_iff → zBi, bind_some → zOb
open Option.some renaming inj → zOi
open Int renaming toNat_natCast → zTn

def parts_arcs.l0 : Nat → List (List (S51)) → List (S43) → Int → Int → Option ((List (List (S51))))
 | 0, _, _, _, _ => none
 | k + 1, x3, x10, x11, x12 => if x12 < x11 then (if 0 ≤ x12 then (if x12 < (x10.length : Int) then (if 0 ≤ ((rd_T43 x10 x12).f0) then (if ((rd_T43 x10 x12).f0) < (x3.length : Int) then (if (rd_L3 x3 ((rd_T43 x10 x12).f0)).length < 8796093022208 then ((some (x3.set (((rd_T43 x10 x12).f0) : Int).toNat ((rd_L3 x3 ((rd_T43 x10 x12).f0)) ++ [(⟨(rd_T43 x10 x12).f1, x12⟩ : S51)]) : List (List (S51)))).bind fun y131 => (if 0 ≤ ((rd_T43 x10 x12).f1) then (if ((rd_T43 x10 x12).f1) < (x3.length : Int) then (if (rd_L3 y131 ((rd_T43 x10 x12).f1)).length < 8796093022208 then (parts_arcs.l0 k (y131.set (((rd_T43 x10 x12).f1) : Int).toNat ((rd_L3 y131 ((rd_T43 x10 x12).f1)) ++ [(⟨(rd_T43 x10 x12).f0, x12⟩ : S51)])) x10 x11 (wrap64 (x12 + 1))) else (none)) else (none)) else (none))) else (none)) else (none)) else (none)) else (none)) else (none)) else (some x3)
def parts_arcs.f (k : Nat) (a0_0 : Int) (l0_1 : List (S43)) : Option ((List (List (S51)))) := if 0 ≤ a0_0 then (if (a0_0 : Int).toNat ≤ 11728124029610 then (parts_arcs.l0 k (List.replicate (a0_0 : Int).toNat []) l0_1 (l0_1.length : Int) 0) else (none)) else (none)
def parts_arcs.T5 : Bool × List (List Nat × List Nat) := (true, [([], []), ([], []), ([1], [1]), ([], []), ([], []), ([4], [4]), ([3, 5], [3, 5]), ([6], [6]), ([], []), ([8], [8]), ([], []), ([9, 10], [9, 10]), ([11], [11]), ([7, 12], [7, 12]), ([0, 2, 0, 1, 2, 3, 4, 5, 6, 7, 8, 9, 10, 11, 12, 13], [0, 2]), ([14, 13, 13, 0, 1, 2, 3, 4, 5, 6, 7, 8, 9, 10, 11, 12, 13], [13, 14])])
def parts_arcs.B5 : List Nat := [0, 0, 2, 0, 0, 16, 56, 120, 0, 256, 0, 1792, 3840, 8184, 16383, 32767]
theorem parts_arcs.tab5 : rtab .any (opsOf Try.f28 5) = parts_arcs.T5 := by kernel_rfl
theorem parts_arcs.bits5 : waitsOk parts_arcs.T5.2 parts_arcs.B5 = true := by kernel_rfl
def parts_arcs.T6 : Bool × List (List Nat × List Nat) := (true, [([], []), ([], []), ([1], [1]), ([], []), ([], []), ([4], [4]), ([3, 5], [3, 5]), ([6], [6]), ([], []), ([8], [8]), ([], []), ([9, 10], [9, 10]), ([11], [11]), ([7, 12], [7, 12]), ([0, 2, 0, 1, 2, 3, 4, 5, 6, 7, 8, 9, 10, 11, 12, 13], [0, 2]), ([14, 13, 13, 0, 1, 2, 3, 4, 5, 6, 7, 8, 9, 10, 11, 12, 13], [13, 14])])
def parts_arcs.B6 : List Nat := [0, 0, 2, 0, 0, 16, 56, 120, 0, 256, 0, 1792, 3840, 8184, 16383, 32767]
theorem parts_arcs.tab6 : rtab .any (opsOf Try.f28 6) = parts_arcs.T6 := by kernel_rfl
theorem parts_arcs.bits6 : waitsOk parts_arcs.T6.2 parts_arcs.B6 = true := by kernel_rfl
theorem parts_arcs.calls (k : Nat) (a0_0 : Int) (A0_1 : Option Addr) (c0_1 : Nat) (l0_1 : List (S43)) (r : List (List (S51))) (w : World) (hr0_1 : Kd.C k43 w A0_1 l0_1.length l0_1) (hc0_1 : l0_1.length ≤ c0_1) (h : parts_arcs.f k a0_0 l0_1 = some r) :
  Calls Try.prog 28 #[.agg #[.int .i64 a0_0, .slice A0_1 l0_1.length c0_1]] w fun e w' => ∃ v0_ : Value, e = .returned (v0_) ∧ Kd.S (Kd.slice 51 k51) 49 w' w.heap.size (fun _ => True) v0_ r ∧ Below w.heap.size w w' := by
 have hu24 := Try.underlying24
 have hu43 := Try.underlying43
 have hu51 := Try.underlying51
 have HR0_1 := zMk hr0_1
 have HC0_1 := zMk hc0_1
 clear hr0_1 hc0_1
 have HB := zMk (Below.refl w.heap.size w)
 have H : (if 0 ≤ a0_0 then (if (a0_0 : Int).toNat ≤ 11728124029610 then (parts_arcs.l0 k (List.replicate (a0_0 : Int).toNat []) l0_1 (l0_1.length : Int) 0) else (none)) else (none)) = some r := h
 clear h
 by_cases c2 : 0 ≤ a0_0
 ·rw [if_pos c2] at H
  have c2b0 := eq_true c2
  have c2b1 : decide (0 ≤ a0_0) = true := decide_eq_true c2
  clear c2
  by_cases c3 : (a0_0 : Int).toNat ≤ 11728124029610
  rotate_left
  ·rw [if_neg c3] at H; exact absurd H (by simp)
  rw [if_pos c3] at H
  have c3b0 := eq_true c3
  have c3b1 : decide ((a0_0 : Int).toNat ≤ 11728124029610) = true := decide_eq_true c3
  clear c3
  obtain ⟨y122, hy122⟩ : ∃ y_ : List (List (S51)), y_ = (List.replicate (a0_0 : Int).toNat []) := ⟨_, rfl⟩
  replace H : (parts_arcs.l0 k y122 l0_1 (l0_1.length : Int) 0) = some r := by first | (rw [hy122]; with_reducible exact H) | (have H2_ := bsm H; first | (rw [hy122]; with_reducible exact H2_) | with_reducible exact H2_) | with_reducible exact H | (rw [hy122]; exact H) | exact H
  have Ny122 := zMk hy122
  clear hy122
  have H' := zMk H
  clear H
  go_enter Try.func28, Try.ntmps28
  go_wp2_with (first | ((with_reducible refine gate_dst (N:=1) rfl ?_); refine box_event ?hg (N:=1) ?hd (cs:=#[.int .i64 a0_0, .slice A0_1 l0_1.length c0_1]) (t:=24) ?hr ?_; (case hd => rfl); (case hg => rfl); (case hr => first | (go_simp; done)|(go_simp; rfl)|(go_simp; rw [show ∀ x : Int, IntKind.u32.wrap (IntKind.u8.wrap x) = x % 256 from fun x => (by show (x % 256) % 4294967296 = x % 256; omega)])); intro gb121 hg w4 hbox hb; have BK121 := zMk (hbox); have GW121 := zMk ((by rw [hg]; exact (zBs (uT HB.out)) : w.heap.size ≤ gb121)); have GE121 := zMk ((by rw [hg]; exact (zBs (uT HB.out)) : w.heap.size ≤ gb121)); have IGE121 := ownGe GE121.out; replace HB := zMk (zBt (uT HB.out) hb); clear hb hbox hg; have hcz5_0 : w4.cell? ⟨gb121, 0, none⟩ = some (.int .i64 a0_0) := (zKc BK121.out 0).trans rfl; have hcz5_1 : w4.cell? ⟨gb121, 1, none⟩ = some (.slice A0_1 l0_1.length c0_1) := (zKc BK121.out 1).trans rfl; have hfz5_0 := zKf BK121.out 0; have hfz5_1 := zKf BK121.out 1)|((with_reducible refine gate_dst (N:=8) rfl ?_); refine Kd.S_make (Kd.slice 51 k51) _ 49 rfl (N:=8) rfl 47 _ _ rfl a0_0 rfl rfl Try.underlying47 (.slice none 0 0) 24 info49 rfl (by decide) (by omega) [] (ok:=fun _ => True) (okp:=fun _ => True) ⟨_, rfl, Kd.R_nil _ _ _ _ _⟩ (fun _ hk => hk) trivial (of_decide_eq_true (by first | (with_reducible assumption)|  assumption)) (Nat.le_trans (Nat.mul_le_mul_right _ (of_decide_eq_true (by first | (with_reducible assumption)|  assumption) : a0_0.toNat ≤ 11728124029610)) (by omega)) (Below.refl _ _) (Nat.le_refl _) ?_; intro v123 w6 ho7 hb hg_ hnew_; clear hg_ hnew_; (first |  rw [← Ny122.out] at ho7|  (simp only [Int.reduceToNat] at ho7; rw [← Ny122.out] at ho7)); have HO124 := zMk (Kd.S_lower ho7 (zBs (uT HB.out))); replace BK121 := zMk (zKb BK121.out hb); replace HB := zMk (zBt (uT HB.out) hb); clear hb ho7; have hcz8_0 : w6.cell? ⟨gb121, 0, none⟩ = some (.int .i64 a0_0) := (zKc BK121.out 0).trans rfl; have hcz8_1 : w6.cell? ⟨gb121, 1, none⟩ = some (.slice A0_1 l0_1.length c0_1) := (zKc BK121.out 1).trans rfl; have hfz8_0 := zKf BK121.out 0; have hfz8_1 := zKf BK121.out 1))
  go_loopg [12] k (fun kq v12 w' => ∃ (x3_1 : List (List (S51))) (x12_1 : Int), v12 = .int .i64 x12_1 ∧ Aside0 (parts_arcs.l0 kq x3_1 l0_1 (l0_1.length : Int) x12_1 = some r) ∧ Aside0 (kq ≤ k) ∧ Aside0 (Kd.S (Kd.slice 51 k51) 49 w' w.heap.size (fun _ => True) v123 x3_1) ∧ Aside0 (w'.heap[gb121]? = some (.cells #[.int .i64 a0_0, (.slice A0_1 l0_1.length c0_1)] 24 (0, 0))) ∧ Aside0 (Below w.heap.size w w'))
  case atStart => exact ⟨(y122), (0), (by first | rfl | (simp; done) | (simp [*]; done)), H', ⟨Nat.le_refl _⟩, ⟨by (with_reducible repeat (first | apply Kd.S_alloc | apply Kd.S_drewN | apply Kd.S_drew)); exact HO124.out⟩, ⟨by (with_reducible repeat (first | refine zKn ?_ _ | refine zKd ?_ | refine zKa ?_ _)); exact BK121.out⟩, ⟨by exact uT HB.out⟩⟩
  clear H'
  obtain ⟨x3_1, x12_1, rfl, HA, HK1, HO_3, BK121, HB⟩ := hrel
  rcases gk with _ | k1
  ·exact absurd HA.out (by simp [parts_arcs.l0])
  have H := HA.out
  clear HA
  simp only [parts_arcs.l0] at H
  by_cases c9 : x12_1 < (l0_1.length : Int)
  ·rw [if_pos c9] at H
   have c9b0 : decide (x12_1 < (l0_1.length : Int)) = true := decide_eq_true c9
   clear c9
   by_cases c10 : 0 ≤ x12_1
   rotate_left
   ·rw [if_neg c10] at H; exact absurd H (by simp)
   rw [if_pos c10] at H
   have c10b0 : decide (0 ≤ x12_1) = true := decide_eq_true c10
   clear c10
   by_cases c11 : x12_1 < (l0_1.length : Int)
   rotate_left
   ·rw [if_neg c11] at H; exact absurd H (by simp)
   rw [if_pos c11] at H
   have c11b0 : decide (x12_1 < (l0_1.length : Int)) = true := decide_eq_true c11
   clear c11
   by_cases c12 : 0 ≤ ((rd_T43 l0_1 x12_1).f0)
   rotate_left
   ·rw [if_neg c12] at H; exact absurd H (by simp)
   rw [if_pos c12] at H
   have c12b0 : decide (0 ≤ ((rd_T43 l0_1 x12_1).f0)) = true := decide_eq_true c12
   clear c12
   by_cases c13 : ((rd_T43 l0_1 x12_1).f0) < (x3_1.length : Int)
   rotate_left
   ·rw [if_neg c13] at H; exact absurd H (by simp)
   rw [if_pos c13] at H
   have c13b0 : decide (((rd_T43 l0_1 x12_1).f0) < (x3_1.length : Int)) = true := decide_eq_true c13
   clear c13
   by_cases c14 : (rd_L3 x3_1 ((rd_T43 l0_1 x12_1).f0)).length < 8796093022208
   rotate_left
   ·rw [if_neg c14] at H; exact absurd H (by simp)
   rw [if_pos c14] at H
   have LMc14 := zMk c14
   clear c14
   obtain ⟨y128, hy128⟩ : ∃ y_ : List (S51), y_ = ((rd_L3 x3_1 ((rd_T43 l0_1 x12_1).f0)) ++ [(⟨(rd_T43 l0_1 x12_1).f1, x12_1⟩ : S51)]) := ⟨_, rfl⟩
   replace H : ((some (x3_1.set (((rd_T43 l0_1 x12_1).f0) : Int).toNat y128 : List (List (S51)))).bind fun y131 => (if 0 ≤ ((rd_T43 l0_1 x12_1).f1) then (if ((rd_T43 l0_1 x12_1).f1) < (x3_1.length : Int) then (if (rd_L3 y131 ((rd_T43 l0_1 x12_1).f1)).length < 8796093022208 then (parts_arcs.l0 k1 (y131.set (((rd_T43 l0_1 x12_1).f1) : Int).toNat ((rd_L3 y131 ((rd_T43 l0_1 x12_1).f1)) ++ [(⟨(rd_T43 l0_1 x12_1).f0, x12_1⟩ : S51)])) l0_1 (l0_1.length : Int) (wrap64 (x12_1 + 1))) else (none)) else (none)) else (none))) = some r := by first | (rw [hy128]; with_reducible exact H) | (have H2_ := bsm H; first | (rw [hy128]; with_reducible exact H2_) | with_reducible exact H2_) | with_reducible exact H | (rw [hy128]; exact H) | exact H
   have Ny128 := zMk hy128
   clear hy128
   obtain ⟨y131, hy131⟩ : ∃ y_ : List (List (S51)), y_ = (x3_1.set (((rd_T43 l0_1 x12_1).f0) : Int).toNat y128) := ⟨_, rfl⟩
   replace H : (if 0 ≤ ((rd_T43 l0_1 x12_1).f1) then (if ((rd_T43 l0_1 x12_1).f1) < (x3_1.length : Int) then (if (rd_L3 y131 ((rd_T43 l0_1 x12_1).f1)).length < 8796093022208 then (parts_arcs.l0 k1 (y131.set (((rd_T43 l0_1 x12_1).f1) : Int).toNat ((rd_L3 y131 ((rd_T43 l0_1 x12_1).f1)) ++ [(⟨(rd_T43 l0_1 x12_1).f0, x12_1⟩ : S51)])) l0_1 (l0_1.length : Int) (wrap64 (x12_1 + 1))) else (none)) else (none)) else (none)) = some r := by first | (rw [hy131]; with_reducible exact H) | (have H2_ := bsm H; first | (rw [hy131]; with_reducible exact H2_) | with_reducible exact H2_) | with_reducible exact H | (rw [hy131]; exact H) | exact H
   have Ny131 := zMk hy131
   clear hy131
   by_cases c16 : 0 ≤ ((rd_T43 l0_1 x12_1).f1)
   rotate_left
   ·rw [if_neg c16] at H; exact absurd H (by simp)
   rw [if_pos c16] at H
   have c16b0 : decide (0 ≤ ((rd_T43 l0_1 x12_1).f1)) = true := decide_eq_true c16
   clear c16
   by_cases c17 : ((rd_T43 l0_1 x12_1).f1) < (x3_1.length : Int)
   rotate_left
   ·rw [if_neg c17] at H; exact absurd H (by simp)
   rw [if_pos c17] at H
   have c17b0 : decide (((rd_T43 l0_1 x12_1).f1) < (x3_1.length : Int)) = true := decide_eq_true c17
   clear c17
   by_cases c18 : (rd_L3 y131 ((rd_T43 l0_1 x12_1).f1)).length < 8796093022208
   rotate_left
   ·rw [if_neg c18] at H; exact absurd H (by simp)
   rw [if_pos c18] at H
   have LMc18 := zMk c18
   clear c18
   obtain ⟨y133, hy133⟩ : ∃ y_ : List (S51), y_ = ((rd_L3 y131 ((rd_T43 l0_1 x12_1).f1)) ++ [(⟨(rd_T43 l0_1 x12_1).f0, x12_1⟩ : S51)]) := ⟨_, rfl⟩
   replace H : (parts_arcs.l0 k1 (y131.set (((rd_T43 l0_1 x12_1).f1) : Int).toNat y133) l0_1 (l0_1.length : Int) (wrap64 (x12_1 + 1))) = some r := by first | (rw [hy133]; with_reducible exact H) | (have H2_ := bsm H; first | (rw [hy133]; with_reducible exact H2_) | with_reducible exact H2_) | with_reducible exact H | (rw [hy133]; exact H) | exact H
   have Ny133 := zMk hy133
   clear hy133
   obtain ⟨y136, hy136⟩ : ∃ y_ : List (List (S51)), y_ = (y131.set (((rd_T43 l0_1 x12_1).f1) : Int).toNat y133) := ⟨_, rfl⟩
   replace H : (parts_arcs.l0 k1 y136 l0_1 (l0_1.length : Int) (wrap64 (x12_1 + 1))) = some r := by first | (rw [hy136]; with_reducible exact H) | (have H2_ := bsm H; first | (rw [hy136]; with_reducible exact H2_) | with_reducible exact H2_) | with_reducible exact H | (rw [hy136]; exact H) | exact H
   have Ny136 := zMk hy136
   clear hy136
   have H' := zMk H
   clear H
   have p125 : 0 ≤ (x12_1 : Int) := of_decide_eq_true (by assumption)
   have q125 : x12_1 < (l0_1.length : Int) := of_decide_eq_true (by assumption)
   obtain ⟨ad125, e125, hx125_0, hx125_1, hx125_2⟩ := at_T43 HR0_1.out x12_1 p125 q125
   cases e125
   replace hx125_0 := pw_cell_below HB.out hx125_0
   replace hx125_1 := pw_cell_below HB.out hx125_1
   replace hx125_2 := pw_cell_below HB.out hx125_2
   replace p125 := eq_true p125
   replace q125 := eq_true q125
   try go_wp2_with (first | ((with_reducible refine gate_dst (N:=5) rfl ?_); refine box_event ?hg (N:=5) ?hd (cs:=#[.int .i64 0, .int .i64 0, .int .i64 0]) (t:=43) ?hr ?_; (case hd => rfl); (case hg => rfl); (case hr => first | (go_simp; done)|(go_simp; rfl)|(go_simp; rw [show ∀ x : Int, IntKind.u32.wrap (IntKind.u8.wrap x) = x % 256 from fun x => (by show (x % 256) % 4294967296 = x % 256; omega)])); intro gb126 hg w20 hbox hb; replace HO_3 := zMk (Kd.S_below (by (with_reducible repeat (first |  apply Kd.S_alloc|  apply Kd.S_drewN|  apply Kd.S_drew)); exact HO_3.out) hb); have BK126 := zMk (hbox); have GW126 := zMk ((by rw [hg]; exact (zBs (uT HB.out)) : w.heap.size ≤ gb126)); have GE126 := zMk ((by rw [hg]; exact (zBs (uT HB.out)) : w.heap.size ≤ gb126)); have IGE126 := ownGe GE126.out; replace HB := zMk (zBt (uT HB.out) hb); have NB121_126 := zMk ((by rw [hg]; exact Nat.ne_of_lt (blk_lt BK121.out) : gb121 ≠ gb126)); have NB126_121 := zMk ((by rw [hg]; exact Nat.ne_of_gt (blk_lt BK121.out) : gb126 ≠ gb121)); replace BK121 := zMk (zKb BK121.out hb); clear hb hbox hg; have hnb21 := NB126_121.out; have hnc21 := NB121_126.out; have hcz22_0 : w20.cell? ⟨gb126, 0, none⟩ = some (.int .i64 0) := (zKc BK126.out 0).trans rfl; have hcz22_1 : w20.cell? ⟨gb126, 1, none⟩ = some (.int .i64 0) := (zKc BK126.out 1).trans rfl; have hcz22_2 : w20.cell? ⟨gb126, 2, none⟩ = some (.int .i64 0) := (zKc BK126.out 2).trans rfl; have hfz22_0 := zKf BK126.out 0; have hfz22_1 := zKf BK126.out 1; have hfz22_2 := zKf BK126.out 2))
   have n0_ : Aside0 (Kd.S (Kd.slice 51 k51) 49 (((w20.setCell ⟨gb126, 0, none⟩ (.int .i64 ((rd_T43 l0_1 x12_1).f0))).setCell ⟨gb126, 1, none⟩ (.int .i64 ((rd_T43 l0_1 x12_1).f1))).setCell ⟨gb126, 2, none⟩ (.int .i64 ((rd_T43 l0_1 x12_1).f2))) w.heap.size (fun _ => True) v123 x3_1) := ⟨by (with_reducible repeat (first |  apply Kd.S_alloc|  apply Kd.S_drewN|  apply Kd.S_drew)); exact Kd.S_mono (Kd.S_far (p:=⟨gb126, 2, none⟩) (Kd.S_far (p:=⟨gb126, 1, none⟩) (Kd.S_far (p:=⟨gb126, 0, none⟩) (Kd.S_types HO_3.out BK126.out (by decide)) (fun _ hk => hk.2) (.int .i64 ((rd_T43 l0_1 x12_1).f0))) (fun _ hk => hk.2) (.int .i64 ((rd_T43 l0_1 x12_1).f1))) (fun _ hk => hk.2) (.int .i64 ((rd_T43 l0_1 x12_1).f2))) (fun _ hk => trivial)⟩
   have n1_ : Aside0 ((((w20.setCell ⟨gb126, 0, none⟩ (.int .i64 ((rd_T43 l0_1 x12_1).f0))).setCell ⟨gb126, 1, none⟩ (.int .i64 ((rd_T43 l0_1 x12_1).f1))).setCell ⟨gb126, 2, none⟩ (.int .i64 ((rd_T43 l0_1 x12_1).f2))).heap[gb121]? = some (.cells #[.int .i64 a0_0, .slice (some ad125) l0_1.length c0_1] 24 (0, 0))) := ⟨by (with_reducible repeat (first | refine zKn ?_ _ | refine zKd ?_ | refine zKa ?_ _)); refine blk_far ?_ NB121_126.out _; (with_reducible repeat (first | refine zKn ?_ _ | refine zKd ?_ | refine zKa ?_ _)); refine blk_far ?_ NB121_126.out _; (with_reducible repeat (first | refine zKn ?_ _ | refine zKd ?_ | refine zKa ?_ _)); refine blk_far ?_ NB121_126.out _; (with_reducible repeat (first | refine zKn ?_ _ | refine zKd ?_ | refine zKa ?_ _)); exact BK121.out⟩
   have n2_ : Aside0 ((((w20.setCell ⟨gb126, 0, none⟩ (.int .i64 ((rd_T43 l0_1 x12_1).f0))).setCell ⟨gb126, 1, none⟩ (.int .i64 ((rd_T43 l0_1 x12_1).f1))).setCell ⟨gb126, 2, none⟩ (.int .i64 ((rd_T43 l0_1 x12_1).f2))).heap[gb126]? = some (.cells #[.int .i64 ((rd_T43 l0_1 x12_1).f0), .int .i64 ((rd_T43 l0_1 x12_1).f1), .int .i64 ((rd_T43 l0_1 x12_1).f2)] 43 (0, 0))) := ⟨by (with_reducible repeat (first | refine zKn ?_ _ | refine zKd ?_ | refine zKa ?_ _)); refine blk_put (cs:=#[.int .i64 ((rd_T43 l0_1 x12_1).f0), .int .i64 ((rd_T43 l0_1 x12_1).f1), .int .i64 0]) ?_ 2 _ rfl; (with_reducible repeat (first | refine zKn ?_ _ | refine zKd ?_ | refine zKa ?_ _)); refine blk_put (cs:=#[.int .i64 ((rd_T43 l0_1 x12_1).f0), .int .i64 0, .int .i64 0]) ?_ 1 _ rfl; (with_reducible repeat (first | refine zKn ?_ _ | refine zKd ?_ | refine zKa ?_ _)); refine blk_put (cs:=#[.int .i64 0, .int .i64 0, .int .i64 0]) ?_ 0 _ rfl; (with_reducible repeat (first | refine zKn ?_ _ | refine zKd ?_ | refine zKa ?_ _)); exact BK126.out⟩
   have n3_ : Aside0 (Below w.heap.size w (((w20.setCell ⟨gb126, 0, none⟩ (.int .i64 ((rd_T43 l0_1 x12_1).f0))).setCell ⟨gb126, 1, none⟩ (.int .i64 ((rd_T43 l0_1 x12_1).f1))).setCell ⟨gb126, 2, none⟩ (.int .i64 ((rd_T43 l0_1 x12_1).f2)))) := ⟨by exact uT HB.out⟩
   generalize (((w20.setCell ⟨gb126, 0, none⟩ (.int .i64 ((rd_T43 l0_1 x12_1).f0))).setCell ⟨gb126, 1, none⟩ (.int .i64 ((rd_T43 l0_1 x12_1).f1))).setCell ⟨gb126, 2, none⟩ (.int .i64 ((rd_T43 l0_1 x12_1).f2))) = w23 at n0_ n1_ n2_ n3_ ⊢
   have HO_3 := n0_
   have BK121 := n1_
   have BK126 := n2_
   have HB := n3_
   clear n0_ n1_ n2_ n3_
   replace HO_3 := zMk (Kd.S_drew HO_3.out)
   replace BK121 := zMk (zKd BK121.out)
   replace BK126 := zMk (zKd BK126.out)
   replace HB := zMk (zBd HB.out)
   obtain ⟨Ao25, co25, eo25⟩ := Kd.S_slice HO_3.out
   (first |  subst eo25|  (injection eo25 with f1_ f2_ f3_; have f4_ := f1_.symm; have f5_ := f3_.symm; clear f1_ f2_ f3_; subst f4_; subst f5_))
   have p127 : 0 ≤ (((rd_T43 l0_1 x12_1).f0) : Int) := of_decide_eq_true (by assumption)
   have q127 : ((rd_T43 l0_1 x12_1).f0) < (x3_1.length : Int) := of_decide_eq_true (by assumption)
   obtain ⟨ad127, A127_0, c127_0, e127, hx127_0, hl127_0, hi127_0⟩ := at_L3 (Kd.S_reads' HO_3.out).2.2 ((rd_T43 l0_1 x12_1).f0) p127 q127
   cases e127
   obtain ⟨ce127, hce127, hMe127, hcc127⟩ := Kd.S_get HO_3.out [] ((rd_T43 l0_1 x12_1).f0) p127 (by first | exact q127 | exact of_decide_eq_true (by assumption) | (have e_ := (Kd.S_reads' HO_3.out).1; omega))
   obtain ⟨ve127_0, rfl, ge127_0⟩ := hMe127
   have hv127_0 := hcc127 0 _ rfl
   rw [Nat.add_zero, show ((Kd.slice 51 k51)).sz = 1 from rfl, Nat.mul_one] at hv127_0
   replace hv127_0 := zOi (hv127_0.symm.trans hx127_0)
   rw [hv127_0] at ge127_0
   have HL127_0 := zMk (show Kd.R k51 51 _ _ _ _ (rd_L3 x3_1 ((rd_T43 l0_1 x12_1).f0)) from ge127_0)
   clear hv127_0 ge127_0
   have HX127_0 := zMk hx127_0
   clear hcc127 hce127
   have HR127_0 := zMk hi127_0
   have HC127_0 := zMk hl127_0
   clear hi127_0 hl127_0
   replace p127 := eq_true p127
   replace q127 := eq_true q127
   obtain ⟨go26, co26, eo26, gb26, gl26, cl26, HG26⟩ := Kd.S_form HO_3.out (by have h_ : (((rd_T43 l0_1 x12_1).f0) : Int) < ((x3_1.length : Int) : Int) := of_decide_eq_true (by assumption); have h2_ : 0 ≤ (((rd_T43 l0_1 x12_1).f0) : Int) := (of_decide_eq_true (by assumption)); omega)
   (first |  cases eo26|  (injection eo26 with ea_ en_ ec_; (first |  subst ea_|  (injection ea_ with ea_; subst ea_)); subst ec_; clear en_))
   have GB26 := zMk gb26
   have IGB26 := ownGe GB26.out
   have GG26 := zMk HG26
   clear gb26 gl26 HG26
   (first | simp only [add_plain] at hx127_0 | skip)
   obtain ⟨oki26, ce26, hcl26, hM26, hcc26, _, _, hH26⟩ := Kd.S_elem HO_3.out [] (((rd_T43 l0_1 x12_1).f0) : Int) (of_decide_eq_true (by assumption)) (by have h_ : (((rd_T43 l0_1 x12_1).f0) : Int) < ((x3_1.length : Int) : Int) := of_decide_eq_true (by assumption); first | exact h_ | (have e_ := (Kd.S_reads' HO_3.out).1; omega) | simpa using h_)
   obtain ⟨ve26_0, rfl, ge26_0⟩ := hM26
   have hv26 := hcc26 0 _ rfl
   have hX26 := HX127_0.out
   (try simp only [add_plain] at hX26)
   (try simp only [Nat.add_zero] at hv26)
   (try rw [show ((Kd.slice 51 k51)).sz = 1 from rfl, Nat.mul_one] at hv26)
   replace hv26 := zOi (hv26.symm.trans hX26)
   subst hv26
   clear hX26 hcc26 hcl26
   have UU26 := zMk (show Kd.R k51 51 _ w.heap.size oki26 (.slice A127_0 (rd_L3 x3_1 ((rd_T43 l0_1 x12_1).f0)).length c127_0) (rd_L3 x3_1 ((rd_T43 l0_1 x12_1).f0)) from ge26_0)
   have HH26 := zMk hH26
   have HN26 := zMk (Kd.S_reads' HO_3.out).1
   clear hH26 ge26_0
   refine start_ (n:=16) (S:=fun w' => w'.cell? ⟨gb126, 0, none⟩ = some (.int .i64 ((rd_T43 l0_1 x12_1).f0)) ∧ w'.cell? ⟨gb126, 1, none⟩ = some (.int .i64 ((rd_T43 l0_1 x12_1).f1)) ∧ w'.cell? ⟨gb126, 2, none⟩ = some (.int .i64 ((rd_T43 l0_1 x12_1).f2)) ∧ w'.cell? ⟨go26, (((rd_T43 l0_1 x12_1).f0)).toNat, none⟩ = some (.slice A127_0 (rd_L3 x3_1 ((rd_T43 l0_1 x12_1).f0)).length c127_0)) (ds:=[15]) #[false,false,false,false,false,false,false,false,false,false,false,false,false,false,false,false] (by kernel_rfl) rfl rfl ⟨(zKc BK126.out 0).trans rfl, (zKc BK126.out 1).trans rfl, (zKc BK126.out 2).trans rfl, hx127_0⟩ (fun hHeld => ?_); refine with_tabW parts_arcs.tab5 parts_arcs.bits5 (fun HT_ HW_ => ?_)
   generalize w23.drew = w24 at HO_3 BK121 BK126 HB GG26 HH26 HL127_0 HR127_0 HX127_0 UU26 hx127_0 hHeld ⊢
   refine pure_ (i:=0) (N:=some 17) (v:=?_) (a' := ?_) #[true,false,false,false,false,false,false,false,false,false,false,false,false,false,false,false] rfl rfl (any_of HT_.out (by kernel_rfl)) (fun _ _ _ h => h) (Or.inl ⟨by rfl, ?_⟩) ?_ ?_
   rotate_left
   ·intro w'
    go_simp
    with_reducible rfl
   rotate_left
   ·simp only [Act.put, zSa, zSb, zSc, i64_w, i32_w]
    rfl
   refine pure_ (i:=1) (N:=some 18) (v:=?_) (a' := ?_) #[true,true,false,false,false,false,false,false,false,false,false,false,false,false,false,false] rfl rfl (any_of HT_.out (by kernel_rfl)) (fun _ _ _ h => h) (Or.inl ⟨by rfl, ?_⟩) ?_ ?_
   rotate_left
   ·intro w'
    go_simp
    with_reducible rfl
   rotate_left
   ·simp only [Act.put, zSa, zSb, zSc, i64_w, i32_w]
    rfl
   refine pure_ (i:=3) (N:=some 20) (v:=?_) (a' := ?_) #[true,true,false,true,false,false,false,false,false,false,false,false,false,false,false,false] rfl rfl (any_of HT_.out (by kernel_rfl)) (fun _ _ _ h => h) (Or.inl ⟨by rfl, ?_⟩) ?_ ?_
   rotate_left
   ·intro w'
    go_simp
    with_reducible rfl
   rotate_left
   ·simp only [Act.put, zSa, zSb, zSc, i64_w, i32_w]
    rfl
   refine pure_ (i:=4) (N:=some 21) (v:=?_) (a' := ?_) #[true,true,false,true,true,false,false,false,false,false,false,false,false,false,false,false] rfl rfl (any_of HT_.out (by kernel_rfl)) (fun _ _ _ h => h) (Or.inl ⟨by rfl, ?_⟩) ?_ ?_
   rotate_left
   ·intro w'
    go_simp
    with_reducible rfl
   rotate_left
   ·simp only [Act.put, zSa, zSb, zSc, i64_w, i32_w]
    rfl
   refine pure_ (i:=8) (N:=some 25) (v:=?_) (a' := ?_) #[true,true,false,true,true,false,false,false,true,false,false,false,false,false,false,false] rfl rfl (any_of HT_.out (by kernel_rfl)) (fun _ _ _ h => h) (Or.inl ⟨by rfl, ?_⟩) ?_ ?_
   rotate_left
   ·intro w'
    go_simp
    with_reducible rfl
   rotate_left
   ·simp only [Act.put, zSa, zSb, zSc, i64_w, i32_w]
    rfl
   refine pure_ (i:=10) (N:=some 27) (v:=?_) (a' := ?_) #[true,true,false,true,true,false,false,false,true,false,true,false,false,false,false,false] rfl rfl (any_of HT_.out (by kernel_rfl)) (fun _ _ _ h => h) (Or.inl ⟨by rfl, ?_⟩) ?_ ?_
   rotate_left
   ·intro w'
    go_simp
    with_reducible rfl
   rotate_left
   ·simp only [Act.put, zSa, zSb, zSc, i64_w, i32_w]
    rfl
   refine take_ (i:=2) (N:=some 19) (v:=?_) (a' := ?_) #[true,true,true,true,true,false,false,false,true,false,true,false,false,false,false,false] rfl rfl (take_ofW HT_.out HW_.out (by kernel_rfl)) (fun _ _ _ h => h) (Or.inl ⟨by rfl, ?_⟩) hHeld ?_ ?_
   rotate_left
   ·rintro w' ⟨s0, s1, s2, s3⟩
    go_simp
    with_reducible rfl
   rotate_left
   ·simp only [Act.put, zSa, zSb, zSc, i64_w, i32_w]
    rfl
   refine take_ (i:=5) (N:=some 22) (v:=?_) (a' := ?_) #[true,true,true,true,true,true,false,false,true,false,true,false,false,false,false,false] rfl rfl (take_ofW HT_.out HW_.out (by kernel_rfl)) (fun _ _ _ h => h) (Or.inl ⟨by rfl, ?_⟩) hHeld ?_ ?_
   rotate_left
   ·rintro w' ⟨s0, s1, s2, s3⟩
    go_simp
    with_reducible rfl
   rotate_left
   ·simp only [Act.put, zSa, zSb, zSc, i64_w, i32_w]
    rfl
   refine pure_ (i:=6) (N:=some 23) (v:=?_) (a' := ?_) #[true,true,true,true,true,true,true,false,true,false,true,false,false,false,false,false] rfl rfl (any_of HT_.out (by kernel_rfl)) (fun _ _ _ h => h) (Or.inl ⟨by rfl, ?_⟩) ?_ ?_
   rotate_left
   ·intro w'
    go_simp
    with_reducible rfl
   rotate_left
   ·simp only [Act.put, zSa, zSb, zSc, i64_w, i32_w]
    rfl
   refine take_ (i:=7) (N:=some 24) (v:=?_) (a' := ?_) #[true,true,true,true,true,true,true,true,true,false,true,false,false,false,false,false] rfl rfl (take_ofW HT_.out HW_.out (by kernel_rfl)) (fun _ _ _ h => h) (Or.inl ⟨by rfl, ?_⟩) hHeld ?_ ?_
   rotate_left
   ·rintro w' ⟨s0, s1, s2, s3⟩
    go_simp
    with_reducible rfl
   rotate_left
   ·simp only [Act.put, zSa, zSb, zSc, i64_w, i32_w]
    rfl
   refine take_ (i:=9) (N:=some 26) (v:=?_) (a' := ?_) #[true,true,true,true,true,true,true,true,true,true,true,false,false,false,false,false] rfl rfl (take_ofW HT_.out HW_.out (by kernel_rfl)) (fun _ _ _ h => h) (Or.inl ⟨by rfl, ?_⟩) hHeld ?_ ?_
   rotate_left
   ·rintro w' ⟨s0, s1, s2, s3⟩
    go_simp
    with_reducible rfl
   rotate_left
   ·simp only [Act.put, zSa, zSb, zSc, i64_w, i32_w]
    rfl
   refine pure_ (i:=11) (N:=some 28) (v:=?_) (a' := ?_) #[true,true,true,true,true,true,true,true,true,true,true,true,false,false,false,false] rfl rfl (any_of HT_.out (by kernel_rfl)) (fun _ _ _ h => h) (Or.inl ⟨by rfl, ?_⟩) ?_ ?_
   rotate_left
   ·intro w'
    go_simp
    with_reducible rfl
   rotate_left
   ·simp only [Act.put, zSa, zSb, zSc, i64_w, i32_w]
    rfl
   refine one_ (i:=12) (N:=some 29) #[true,true,true,true,true,true,true,true,true,true,true,true,true,false,false,false] rfl rfl (one_of HT_.out (by kernel_rfl)) (by decide) (fun K hK => ?_)
   refine value_ (w1:=?_) (v:=?_) (by rfl) rfl ?_ ?_
   rotate_left 2
   ·go_simp
    constructor
    ·rfl
    ·rfl
   refine hK.out _ _ ⟨(zKc (zKa BK126.out _) 0).trans rfl, (zKc (zKa BK126.out _) 1).trans rfl, (zKc (zKa BK126.out _) 2).trans rfl, (World.cell?_alloc_lt _ _ _ (World.block_lt_of_cell? _ _ (hHeld.2.2.2))).trans (hHeld.2.2.2)⟩ (fun hHeld => ?_)
   clear hK K
   refine norm_ (a' := ?_) ?_ ?_
   rotate_left
   ·show Act.put _ (some 29) _ = _
    simp only [Act.put, zSa, zSb, zSc, i64_w, i32_w]
    rfl
   refine one_ (i:=13) (N:=some 30) #[true,true,true,true,true,true,true,true,true,true,true,true,true,true,false,false] rfl rfl (one_of HT_.out (by kernel_rfl)) (by decide) (fun K hK => ?_)
   refine Kd.R_append_step k51 (w0:=w) w.heap.size (by rfl) (.tmp 24) (.tmp 29) 49 51 (.agg #[(.int .i64 0), (.int .i64 0)]) 16 rfl Try.underlying49 info51 rfl (by decide) (by omega) (.slice A127_0 (rd_L3 x3_1 ((rd_T43 l0_1 x12_1).f0)).length c127_0) (rd_L3 x3_1 ((rd_T43 l0_1 x12_1).f0)) (⟨(rd_T43 l0_1 x12_1).f1, x12_1⟩ : S51) [.int .i64 ((rd_T43 l0_1 x12_1).f1), .int .i64 x12_1] (fun k_ => oki26 k_ ∨ ((fun _ => True)) k_ ∧ w24.heap.size ≤ k_) (fun _ => False) rfl rfl ?aP (fun _ hk => hk.elim) ?aF ?aO ?aB ?aS ?aL ?_
   (case aP => exact k51_mkM _ _ _ (⟨(rd_T43 l0_1 x12_1).f1, x12_1⟩ : S51))
   (case aB => exact (uT HB.out))
   (case aF => exact (fun k_ hk => .inr ⟨trivial, hk⟩))
   (case aO => exact (zRm UU26.out (fun _ hk => .inl hk)))
   (case aS => exact (zBs (uT HB.out)))
   (case aL => have := LMc14.out; omega)
   intro v129 w27 ho hb hg hat
   (first | have HS3_ := Go.Proofs.YtkiemlbobcklpaaW.PrintWords.cell_grown hg (hHeld.2.2.2) (by first | (rw [add_block]; exact (fun e_ => ((HL127_0.out.1 _ e_.symm).2) rfl)) | (show some (Addr.add _ _).block ≠ _; rw [add_block]; exact (fun e_ => ((HL127_0.out.1 _ e_.symm).2) rfl)) | exact (fun e_ => ((HL127_0.out.1 _ e_.symm).2) rfl)) | have HS3_ := Go.Proofs.YtkiemlbobcklpaaW.PrintWords.cell_grown hg (cell_unalloc (hHeld.2.2.2) (by first | (rw [add_block]; exact Kd.S_lt HO_3.out _ rfl) | (show (Addr.add _ _).block < _; rw [add_block]; exact Kd.S_lt HO_3.out _ rfl) | exact Kd.S_lt HO_3.out _ rfl)) (by first | (rw [add_block]; exact (fun e_ => ((HL127_0.out.1 _ e_.symm).2) rfl)) | (show some (Addr.add _ _).block ≠ _; rw [add_block]; exact (fun e_ => ((HL127_0.out.1 _ e_.symm).2) rfl)) | exact (fun e_ => ((HL127_0.out.1 _ e_.symm).2) rfl)))
   rw [← Ny128.out] at ho
   replace BK121 := zMk (blk_grown (g:=gb121) (o:=.cells #[.int .i64 a0_0, .slice (some ad125) l0_1.length c0_1] 24 (0, 0)) BK121.out hg (Kd.R_ne HL127_0.out BK121.out (by decide)))
   replace BK126 := zMk (blk_grown (g:=gb126) (o:=.cells #[.int .i64 ((rd_T43 l0_1 x12_1).f0), .int .i64 ((rd_T43 l0_1 x12_1).f1), .int .i64 ((rd_T43 l0_1 x12_1).f2)] 43 (0, 0)) BK126.out hg (Kd.R_ne HL127_0.out BK126.out (by decide)))
   replace HB := zMk (hb)
   replace HH26 := zMk (Kd.H_grown (Kd.H_widen (by repeat (first | exact HH26.out | refine Kd.H_alloc ?_ _ | refine Kd.H_drewN ?_ _ | refine Kd.H_drew ?_))) hg (fun k_ e_ => .inl (UU26.out.1 k_ e_)))
   have HO130 := zMk (ho)
   clear HO_3 UU26 HL127_0 ho hb hg hat
   have p15 : 0 ≤ (((rd_T43 l0_1 x12_1).f0) : Int) := of_decide_eq_true (by assumption)
   have q15 : (((rd_T43 l0_1 x12_1).f0) : Int) < ((x3_1.length : Int) : Int) := of_decide_eq_true (by assumption)
   replace p15 := eq_true p15
   replace q15 := eq_true q15
   obtain ⟨Ao30, co30, eo30⟩ := zRs HO130.out
   (first |  subst eo30|  (injection eo30 with f1_ f2_ f3_; have f4_ := f1_.symm; have f5_ := f3_.symm; clear f1_ f2_ f3_; subst f4_; subst f5_))
   obtain ⟨_, _, hraw28, _, _, hcc28, _⟩ := Kd.H_raw HH26.out (of_decide_eq_true (by assumption)) (by have h_ : (((rd_T43 l0_1 x12_1).f0) : Int) < ((x3_1.length : Int) : Int) := of_decide_eq_true (by assumption); first | exact h_ | (have e_ := (HN26.out); omega) | simpa using h_)
   obtain ⟨_, hfr28⟩ := Kd.H_at HH26.out (of_decide_eq_true (by assumption)) (by have h_ : (((rd_T43 l0_1 x12_1).f0) : Int) < ((x3_1.length : Int) : Int) := of_decide_eq_true (by assumption); first | exact h_ | (have e_ := (HN26.out); omega) | simpa using h_)
   have hx28_0 := hcc28 0 _ rfl
   have hf28_0 := hfr28 0
   (try simp only [Nat.add_zero] at hx28_0 hf28_0)
   (try rw [show ((Kd.slice 51 k51)).sz = 1 from rfl, Nat.mul_one] at hx28_0)
   (try rw [show ((Kd.slice 51 k51)).sz = 1 from rfl, Nat.mul_one] at hf28_0)
   have HP28 := Kd.S_seg0 HH26.out (of_decide_eq_true (by assumption)) (by have h_ : (((rd_T43 l0_1 x12_1).f0) : Int) < ((x3_1.length : Int) : Int) := of_decide_eq_true (by assumption); first | exact h_ | (have e_ := (HN26.out); omega) | simpa using h_) (seg:=[.slice Ao30 y128.length co30]) (j:=0) (show 1 ≤ 1 from by decide) (x' := y128) (Kd.M_row HO130.out) (fun _ hk => hk)
   (try simp only [show ((Kd.slice 51 k51)).sz = 1 from rfl, Nat.mul_one, Nat.add_zero] at HP28)
   clear hcc28 hfr28
   have HNB121_go26 := zMk (show gb121 ≠ go26 from by have h_ := Kd.R_ne hraw28 BK121.out (by decide); intro e_; exact h_ (by rw [e_]; rfl))
   have HNB126_go26 := zMk (show gb126 ≠ go26 from by have h_ := Kd.R_ne hraw28 BK126.out (by decide); intro e_; exact h_ (by rw [e_]; rfl))
   have HS28 := HP28.1
   rw [← Ny131.out] at HS28
   have HQ28 := zMk HS28
   obtain ⟨_, hgg28⟩ := Kd.R_typed hraw28 go26 rfl
   have GG28_ := zMk hgg28
   clear HP28 HS28 hgg28
   refine hK.out _ _ ⟨(zKc BK126.out 0).trans rfl, (zKc BK126.out 1).trans rfl, (zKc BK126.out 2).trans rfl, HS3_⟩ (fun hHeld => ?_)
   clear hK K
   refine norm_ (a' := ?_) ?_ ?_
   rotate_left
   ·show Act.put _ (some 30) _ = _
    simp only [Act.put, zSa, zSb, zSc, i64_w, i32_w]
    rfl
   refine pure_ (i:=14) (N:=some 31) (v:=?_) (a' := ?_) #[true,true,true,true,true,true,true,true,true,true,true,true,true,true,true,false] rfl rfl (any_of HT_.out (by kernel_rfl)) (fun _ _ _ h => h) (Or.inl ⟨by rfl, ?_⟩) ?_ ?_
   rotate_left
   ·intro w'
    go_simp
    with_reducible rfl
   rotate_left
   ·simp only [Act.put, zSa, zSb, zSc, i64_w, i32_w]
    rfl
   refine last_ (i:=15) (N:=none) #[true,true,true,true,true,true,true,true,true,true,true,true,true,true,true,true] rfl rfl (one_of HT_.out (by kernel_rfl)) (by decide) (fun K hK => ?_)
   refine skip_ (w1:=?_) (by rfl) rfl ?_ ?_
   rotate_left
   ·go_simp
    rfl
   refine hK.out _ _ ?_
   clear hK K
   refine done_ (done_of HT_.out (by kernel_rfl)) ?_
   try go_wp2
   have n0_ : Aside0 (Kd.S (Kd.slice 51 k51) 49 (w27.setCell ⟨go26, (((rd_T43 l0_1 x12_1).f0) : Int).toNat, none⟩ (.slice Ao30 y128.length co30)) w.heap.size (fun _ => True) (.slice (some ⟨go26, 0, none⟩) x3_1.length co25) y131) := ⟨by (with_reducible repeat (first |  apply Kd.S_alloc|  apply Kd.S_drewN|  apply Kd.S_drew)); exact HQ28.out⟩
   have n1_ : Aside0 ((w27.setCell ⟨go26, (((rd_T43 l0_1 x12_1).f0) : Int).toNat, none⟩ (.slice Ao30 y128.length co30)).heap[gb121]? = some (.cells #[.int .i64 a0_0, .slice (some ad125) l0_1.length c0_1] 24 (0, 0))) := ⟨by (with_reducible repeat (first | refine zKn ?_ _ | refine zKd ?_ | refine zKa ?_ _)); refine blk_far ?_ HNB121_go26.out _; (with_reducible repeat (first | refine zKn ?_ _ | refine zKd ?_ | refine zKa ?_ _)); exact BK121.out⟩
   have n2_ : Aside0 ((w27.setCell ⟨go26, (((rd_T43 l0_1 x12_1).f0) : Int).toNat, none⟩ (.slice Ao30 y128.length co30)).heap[gb126]? = some (.cells #[.int .i64 ((rd_T43 l0_1 x12_1).f0), .int .i64 ((rd_T43 l0_1 x12_1).f1), .int .i64 ((rd_T43 l0_1 x12_1).f2)] 43 (0, 0))) := ⟨by (with_reducible repeat (first | refine zKn ?_ _ | refine zKd ?_ | refine zKa ?_ _)); refine blk_far ?_ HNB126_go26.out _; (with_reducible repeat (first | refine zKn ?_ _ | refine zKd ?_ | refine zKa ?_ _)); exact BK126.out⟩
   have n3_ : Aside0 (Below w.heap.size w (w27.setCell ⟨go26, (((rd_T43 l0_1 x12_1).f0) : Int).toNat, none⟩ (.slice Ao30 y128.length co30))) := ⟨by exact uT HB.out⟩
   generalize (w27.setCell ⟨go26, (((rd_T43 l0_1 x12_1).f0) : Int).toNat, none⟩ (.slice Ao30 y128.length co30)) = w31 at n0_ n1_ n2_ n3_ ⊢
   have HO_3 := n0_
   have BK121 := n1_
   have BK126 := n2_
   have HB := n3_
   clear n0_ n1_ n2_ n3_
   replace HO_3 := zMk (Kd.S_drew HO_3.out)
   replace BK121 := zMk (zKd BK121.out)
   replace BK126 := zMk (zKd BK126.out)
   replace HB := zMk (zBd HB.out)
   have p132 : 0 ≤ (((rd_T43 l0_1 x12_1).f1) : Int) := of_decide_eq_true (by assumption)
   have q132 : ((rd_T43 l0_1 x12_1).f1) < (y131.length : Int) := (by have h_ : (((rd_T43 l0_1 x12_1).f1) : Int) < ((x3_1.length : Int) : Int) := of_decide_eq_true (by assumption); first | (have e_ := (Kd.S_reads' HO_3.out).1; omega) | simpa only [Ny131.out, List.length_set] using h_)
   have ql132 : ((((rd_T43 l0_1 x12_1).f1) : Int) < ((x3_1.length : Int) : Int)) = True := eq_true (of_decide_eq_true (by assumption))
   obtain ⟨ad132, A132_0, c132_0, e132, hx132_0, hl132_0, hi132_0⟩ := at_L3 (Kd.S_reads' HO_3.out).2.2 ((rd_T43 l0_1 x12_1).f1) p132 q132
   obtain rfl : (⟨go26, 0, none⟩ : Addr) = ad132 := (by injection e132)
   obtain ⟨ce132, hce132, hMe132, hcc132⟩ := Kd.S_get HO_3.out [] ((rd_T43 l0_1 x12_1).f1) p132 (by first | exact q132 | exact of_decide_eq_true (by assumption) | (have e_ := (Kd.S_reads' HO_3.out).1; omega))
   obtain ⟨ve132_0, rfl, ge132_0⟩ := hMe132
   have hv132_0 := hcc132 0 _ rfl
   rw [Nat.add_zero, show ((Kd.slice 51 k51)).sz = 1 from rfl, Nat.mul_one] at hv132_0
   replace hv132_0 := zOi (hv132_0.symm.trans hx132_0)
   rw [hv132_0] at ge132_0
   have HL132_0 := zMk (show Kd.R k51 51 _ _ _ _ (rd_L3 y131 ((rd_T43 l0_1 x12_1).f1)) from ge132_0)
   clear hv132_0 ge132_0
   have HX132_0 := zMk hx132_0
   clear hcc132 hce132
   (first | simp only [add_plain] at hx132_0 | simp only [add_at] at hx132_0 | simp only [Addr.add, Nat.zero_add] at hx132_0 | skip)
   have HR132_0 := zMk hi132_0
   have HC132_0 := zMk hl132_0
   clear hi132_0 hl132_0
   replace p132 := eq_true p132
   replace q132 := eq_true q132
   obtain ⟨oki33, ce33, hcl33, hM33, hcc33, _, _, hH33⟩ := Kd.S_elem HO_3.out [] (((rd_T43 l0_1 x12_1).f1) : Int) (of_decide_eq_true (by assumption)) (by have h_ : (((rd_T43 l0_1 x12_1).f1) : Int) < ((x3_1.length : Int) : Int) := of_decide_eq_true (by assumption); first | exact h_ | (have e_ := (Kd.S_reads' HO_3.out).1; omega) | simpa using h_)
   obtain ⟨ve33_0, rfl, ge33_0⟩ := hM33
   have hv33 := hcc33 0 _ rfl
   have hX33 := HX132_0.out
   (try simp only [add_plain] at hX33)
   (try simp only [Nat.add_zero] at hv33)
   (try rw [show ((Kd.slice 51 k51)).sz = 1 from rfl, Nat.mul_one] at hv33)
   replace hv33 := zOi (hv33.symm.trans hX33)
   subst hv33
   clear hX33 hcc33 hcl33
   have UU33 := zMk (show Kd.R k51 51 _ w.heap.size oki33 (.slice A132_0 (rd_L3 y131 ((rd_T43 l0_1 x12_1).f1)).length c132_0) (rd_L3 y131 ((rd_T43 l0_1 x12_1).f1)) from ge33_0)
   have HH33 := zMk hH33
   have HN33 := zMk (Kd.S_reads' HO_3.out).1
   clear hH33 ge33_0
   refine start_ (n:=16) (S:=fun w' => w'.cell? ⟨gb126, 0, none⟩ = some (.int .i64 ((rd_T43 l0_1 x12_1).f0)) ∧ w'.cell? ⟨gb126, 1, none⟩ = some (.int .i64 ((rd_T43 l0_1 x12_1).f1)) ∧ w'.cell? ⟨gb126, 2, none⟩ = some (.int .i64 ((rd_T43 l0_1 x12_1).f2)) ∧ w'.cell? ⟨go26, (((rd_T43 l0_1 x12_1).f1)).toNat, none⟩ = some (.slice A132_0 (rd_L3 y131 ((rd_T43 l0_1 x12_1).f1)).length c132_0)) (ds:=[15]) #[false,false,false,false,false,false,false,false,false,false,false,false,false,false,false,false] (by kernel_rfl) rfl rfl ⟨(zKc BK126.out 0).trans rfl, (zKc BK126.out 1).trans rfl, (zKc BK126.out 2).trans rfl, hx132_0⟩ (fun hHeld => ?_); refine with_tabW parts_arcs.tab6 parts_arcs.bits6 (fun HT_ HW_ => ?_)
   generalize w31.drew = w32 at HO_3 BK121 BK126 HB HH33 HL132_0 HQ28 HR132_0 HX132_0 UU33 hx132_0 hHeld ⊢
   refine pure_ (i:=0) (N:=some 32) (v:=?_) (a' := ?_) #[true,false,false,false,false,false,false,false,false,false,false,false,false,false,false,false] rfl rfl (any_of HT_.out (by kernel_rfl)) (fun _ _ _ h => h) (Or.inl ⟨by rfl, ?_⟩) ?_ ?_
   rotate_left
   ·intro w'
    go_simp
    with_reducible rfl
   rotate_left
   ·simp only [Act.put, zSa, zSb, zSc, i64_w, i32_w]
    rfl
   refine pure_ (i:=1) (N:=some 33) (v:=?_) (a' := ?_) #[true,true,false,false,false,false,false,false,false,false,false,false,false,false,false,false] rfl rfl (any_of HT_.out (by kernel_rfl)) (fun _ _ _ h => h) (Or.inl ⟨by rfl, ?_⟩) ?_ ?_
   rotate_left
   ·intro w'
    go_simp
    with_reducible rfl
   rotate_left
   ·simp only [Act.put, zSa, zSb, zSc, i64_w, i32_w]
    rfl
   refine pure_ (i:=3) (N:=some 35) (v:=?_) (a' := ?_) #[true,true,false,true,false,false,false,false,false,false,false,false,false,false,false,false] rfl rfl (any_of HT_.out (by kernel_rfl)) (fun _ _ _ h => h) (Or.inl ⟨by rfl, ?_⟩) ?_ ?_
   rotate_left
   ·intro w'
    go_simp
    with_reducible rfl
   rotate_left
   ·simp only [Act.put, zSa, zSb, zSc, i64_w, i32_w]
    rfl
   refine pure_ (i:=4) (N:=some 36) (v:=?_) (a' := ?_) #[true,true,false,true,true,false,false,false,false,false,false,false,false,false,false,false] rfl rfl (any_of HT_.out (by kernel_rfl)) (fun _ _ _ h => h) (Or.inl ⟨by rfl, ?_⟩) ?_ ?_
   rotate_left
   ·intro w'
    go_simp
    with_reducible rfl
   rotate_left
   ·simp only [Act.put, zSa, zSb, zSc, i64_w, i32_w]
    rfl
   refine pure_ (i:=8) (N:=some 40) (v:=?_) (a' := ?_) #[true,true,false,true,true,false,false,false,true,false,false,false,false,false,false,false] rfl rfl (any_of HT_.out (by kernel_rfl)) (fun _ _ _ h => h) (Or.inl ⟨by rfl, ?_⟩) ?_ ?_
   rotate_left
   ·intro w'
    go_simp
    with_reducible rfl
   rotate_left
   ·simp only [Act.put, zSa, zSb, zSc, i64_w, i32_w]
    rfl
   refine pure_ (i:=10) (N:=some 42) (v:=?_) (a' := ?_) #[true,true,false,true,true,false,false,false,true,false,true,false,false,false,false,false] rfl rfl (any_of HT_.out (by kernel_rfl)) (fun _ _ _ h => h) (Or.inl ⟨by rfl, ?_⟩) ?_ ?_
   rotate_left
   ·intro w'
    go_simp
    with_reducible rfl
   rotate_left
   ·simp only [Act.put, zSa, zSb, zSc, i64_w, i32_w]
    rfl
   refine take_ (i:=2) (N:=some 34) (v:=?_) (a' := ?_) #[true,true,true,true,true,false,false,false,true,false,true,false,false,false,false,false] rfl rfl (take_ofW HT_.out HW_.out (by kernel_rfl)) (fun _ _ _ h => h) (Or.inl ⟨by rfl, ?_⟩) hHeld ?_ ?_
   rotate_left
   ·rintro w' ⟨s0, s1, s2, s3⟩
    go_simp
    with_reducible rfl
   rotate_left
   ·simp only [Act.put, zSa, zSb, zSc, i64_w, i32_w]
    rfl
   refine take_ (i:=5) (N:=some 37) (v:=?_) (a' := ?_) #[true,true,true,true,true,true,false,false,true,false,true,false,false,false,false,false] rfl rfl (take_ofW HT_.out HW_.out (by kernel_rfl)) (fun _ _ _ h => h) (Or.inl ⟨by rfl, ?_⟩) hHeld ?_ ?_
   rotate_left
   ·rintro w' ⟨s0, s1, s2, s3⟩
    go_simp
    with_reducible rfl
   rotate_left
   ·simp only [Act.put, zSa, zSb, zSc, i64_w, i32_w]
    rfl
   refine pure_ (i:=6) (N:=some 38) (v:=?_) (a' := ?_) #[true,true,true,true,true,true,true,false,true,false,true,false,false,false,false,false] rfl rfl (any_of HT_.out (by kernel_rfl)) (fun _ _ _ h => h) (Or.inl ⟨by rfl, ?_⟩) ?_ ?_
   rotate_left
   ·intro w'
    go_simp
    with_reducible rfl
   rotate_left
   ·simp only [Act.put, zSa, zSb, zSc, i64_w, i32_w]
    rfl
   refine take_ (i:=7) (N:=some 39) (v:=?_) (a' := ?_) #[true,true,true,true,true,true,true,true,true,false,true,false,false,false,false,false] rfl rfl (take_ofW HT_.out HW_.out (by kernel_rfl)) (fun _ _ _ h => h) (Or.inl ⟨by rfl, ?_⟩) hHeld ?_ ?_
   rotate_left
   ·rintro w' ⟨s0, s1, s2, s3⟩
    go_simp
    with_reducible rfl
   rotate_left
   ·simp only [Act.put, zSa, zSb, zSc, i64_w, i32_w]
    rfl
   refine take_ (i:=9) (N:=some 41) (v:=?_) (a' := ?_) #[true,true,true,true,true,true,true,true,true,true,true,false,false,false,false,false] rfl rfl (take_ofW HT_.out HW_.out (by kernel_rfl)) (fun _ _ _ h => h) (Or.inl ⟨by rfl, ?_⟩) hHeld ?_ ?_
   rotate_left
   ·rintro w' ⟨s0, s1, s2, s3⟩
    go_simp
    with_reducible rfl
   rotate_left
   ·simp only [Act.put, zSa, zSb, zSc, i64_w, i32_w]
    rfl
   refine pure_ (i:=11) (N:=some 43) (v:=?_) (a' := ?_) #[true,true,true,true,true,true,true,true,true,true,true,true,false,false,false,false] rfl rfl (any_of HT_.out (by kernel_rfl)) (fun _ _ _ h => h) (Or.inl ⟨by rfl, ?_⟩) ?_ ?_
   rotate_left
   ·intro w'
    go_simp
    with_reducible rfl
   rotate_left
   ·simp only [Act.put, zSa, zSb, zSc, i64_w, i32_w]
    rfl
   refine one_ (i:=12) (N:=some 44) #[true,true,true,true,true,true,true,true,true,true,true,true,true,false,false,false] rfl rfl (one_of HT_.out (by kernel_rfl)) (by decide) (fun K hK => ?_)
   refine value_ (w1:=?_) (v:=?_) (by rfl) rfl ?_ ?_
   rotate_left 2
   ·go_simp
    constructor
    ·rfl
    ·rfl
   refine hK.out _ _ ⟨(zKc (zKa BK126.out _) 0).trans rfl, (zKc (zKa BK126.out _) 1).trans rfl, (zKc (zKa BK126.out _) 2).trans rfl, (World.cell?_alloc_lt _ _ _ (World.block_lt_of_cell? _ _ (hHeld.2.2.2))).trans (hHeld.2.2.2)⟩ (fun hHeld => ?_)
   clear hK K
   refine norm_ (a' := ?_) ?_ ?_
   rotate_left
   ·show Act.put _ (some 44) _ = _
    simp only [Act.put, zSa, zSb, zSc, i64_w, i32_w]
    rfl
   refine one_ (i:=13) (N:=some 45) #[true,true,true,true,true,true,true,true,true,true,true,true,true,true,false,false] rfl rfl (one_of HT_.out (by kernel_rfl)) (by decide) (fun K hK => ?_)
   refine Kd.R_append_step k51 (w0:=w) w.heap.size (by rfl) (.tmp 39) (.tmp 44) 49 51 (.agg #[(.int .i64 0), (.int .i64 0)]) 16 rfl Try.underlying49 info51 rfl (by decide) (by omega) (.slice A132_0 (rd_L3 y131 ((rd_T43 l0_1 x12_1).f1)).length c132_0) (rd_L3 y131 ((rd_T43 l0_1 x12_1).f1)) (⟨(rd_T43 l0_1 x12_1).f0, x12_1⟩ : S51) [.int .i64 ((rd_T43 l0_1 x12_1).f0), .int .i64 x12_1] (fun k_ => oki33 k_ ∨ ((fun _ => True)) k_ ∧ w32.heap.size ≤ k_) (fun _ => False) rfl rfl ?aP (fun _ hk => hk.elim) ?aF ?aO ?aB ?aS ?aL ?_
   (case aP => exact k51_mkM _ _ _ (⟨(rd_T43 l0_1 x12_1).f0, x12_1⟩ : S51))
   (case aB => exact (uT HB.out))
   (case aF => exact (fun k_ hk => .inr ⟨trivial, hk⟩))
   (case aO => exact (zRm UU33.out (fun _ hk => .inl hk)))
   (case aS => exact (zBs (uT HB.out)))
   (case aL => have := LMc18.out; omega)
   intro v134 w34 ho hb hg hat
   (first | have HS3_ := Go.Proofs.YtkiemlbobcklpaaW.PrintWords.cell_grown hg (hHeld.2.2.2) (by first | (rw [add_block]; exact (fun e_ => ((HL132_0.out.1 _ e_.symm).2) rfl)) | (show some (Addr.add _ _).block ≠ _; rw [add_block]; exact (fun e_ => ((HL132_0.out.1 _ e_.symm).2) rfl)) | exact (fun e_ => ((HL132_0.out.1 _ e_.symm).2) rfl)) | have HS3_ := Go.Proofs.YtkiemlbobcklpaaW.PrintWords.cell_grown hg (cell_unalloc (hHeld.2.2.2) (by first | (rw [add_block]; exact Kd.S_lt HO_3.out _ rfl) | (show (Addr.add _ _).block < _; rw [add_block]; exact Kd.S_lt HO_3.out _ rfl) | exact Kd.S_lt HO_3.out _ rfl)) (by first | (rw [add_block]; exact (fun e_ => ((HL132_0.out.1 _ e_.symm).2) rfl)) | (show some (Addr.add _ _).block ≠ _; rw [add_block]; exact (fun e_ => ((HL132_0.out.1 _ e_.symm).2) rfl)) | exact (fun e_ => ((HL132_0.out.1 _ e_.symm).2) rfl)))
   rw [← Ny133.out] at ho
   replace BK121 := zMk (blk_grown (g:=gb121) (o:=.cells #[.int .i64 a0_0, .slice (some ad125) l0_1.length c0_1] 24 (0, 0)) BK121.out hg (Kd.R_ne HL132_0.out BK121.out (by decide)))
   replace BK126 := zMk (blk_grown (g:=gb126) (o:=.cells #[.int .i64 ((rd_T43 l0_1 x12_1).f0), .int .i64 ((rd_T43 l0_1 x12_1).f1), .int .i64 ((rd_T43 l0_1 x12_1).f2)] 43 (0, 0)) BK126.out hg (Kd.R_ne HL132_0.out BK126.out (by decide)))
   replace HB := zMk (hb)
   replace HH33 := zMk (Kd.H_grown (Kd.H_widen (by repeat (first | exact HH33.out | refine Kd.H_alloc ?_ _ | refine Kd.H_drewN ?_ _ | refine Kd.H_drew ?_))) hg (fun k_ e_ => .inl (UU33.out.1 k_ e_)))
   have HO135 := zMk (ho)
   clear HO_3 UU33 HL132_0 ho hb hg hat
   have p19 : 0 ≤ (((rd_T43 l0_1 x12_1).f1) : Int) := of_decide_eq_true (by assumption)
   have q19 : (((rd_T43 l0_1 x12_1).f1) : Int) < ((x3_1.length : Int) : Int) := of_decide_eq_true (by assumption)
   replace p19 := eq_true p19
   replace q19 := eq_true q19
   obtain ⟨Ao37, co37, eo37⟩ := zRs HO135.out
   (first |  subst eo37|  (injection eo37 with f1_ f2_ f3_; have f4_ := f1_.symm; have f5_ := f3_.symm; clear f1_ f2_ f3_; subst f4_; subst f5_))
   obtain ⟨_, _, hraw35, _, _, hcc35, _⟩ := Kd.H_raw HH33.out (of_decide_eq_true (by assumption)) (by have h_ : (((rd_T43 l0_1 x12_1).f1) : Int) < ((x3_1.length : Int) : Int) := of_decide_eq_true (by assumption); first | exact h_ | (have e_ := (HN33.out); omega) | simpa using h_)
   obtain ⟨_, hfr35⟩ := Kd.H_at HH33.out (of_decide_eq_true (by assumption)) (by have h_ : (((rd_T43 l0_1 x12_1).f1) : Int) < ((x3_1.length : Int) : Int) := of_decide_eq_true (by assumption); first | exact h_ | (have e_ := (HN33.out); omega) | simpa using h_)
   have hx35_0 := hcc35 0 _ rfl
   have hf35_0 := hfr35 0
   (try simp only [Nat.add_zero] at hx35_0 hf35_0)
   (try rw [show ((Kd.slice 51 k51)).sz = 1 from rfl, Nat.mul_one] at hx35_0)
   (try rw [show ((Kd.slice 51 k51)).sz = 1 from rfl, Nat.mul_one] at hf35_0)
   have HP35 := Kd.S_seg0 HH33.out (of_decide_eq_true (by assumption)) (by have h_ : (((rd_T43 l0_1 x12_1).f1) : Int) < ((x3_1.length : Int) : Int) := of_decide_eq_true (by assumption); first | exact h_ | (have e_ := (HN33.out); omega) | simpa using h_) (seg:=[.slice Ao37 y133.length co37]) (j:=0) (show 1 ≤ 1 from by decide) (x' := y133) (Kd.M_row HO135.out) (fun _ hk => hk)
   (try simp only [show ((Kd.slice 51 k51)).sz = 1 from rfl, Nat.mul_one, Nat.add_zero] at HP35)
   clear hcc35 hfr35
   have HNB121_go26 := zMk (show gb121 ≠ go26 from by have h_ := Kd.R_ne hraw35 BK121.out (by decide); intro e_; exact h_ (by rw [e_]; rfl))
   have HNB126_go26 := zMk (show gb126 ≠ go26 from by have h_ := Kd.R_ne hraw35 BK126.out (by decide); intro e_; exact h_ (by rw [e_]; rfl))
   have HS35 := HP35.1
   rw [← Ny136.out] at HS35
   have HQ35 := zMk HS35
   obtain ⟨_, hgg35⟩ := Kd.R_typed hraw35 go26 rfl
   have GG35_ := zMk hgg35
   clear HP35 HS35 hgg35
   refine hK.out _ _ ⟨(zKc BK126.out 0).trans rfl, (zKc BK126.out 1).trans rfl, (zKc BK126.out 2).trans rfl, HS3_⟩ (fun hHeld => ?_)
   clear hK K
   refine norm_ (a' := ?_) ?_ ?_
   rotate_left
   ·show Act.put _ (some 45) _ = _
    simp only [Act.put, zSa, zSb, zSc, i64_w, i32_w]
    rfl
   refine pure_ (i:=14) (N:=some 46) (v:=?_) (a' := ?_) #[true,true,true,true,true,true,true,true,true,true,true,true,true,true,true,false] rfl rfl (any_of HT_.out (by kernel_rfl)) (fun _ _ _ h => h) (Or.inl ⟨by rfl, ?_⟩) ?_ ?_
   rotate_left
   ·intro w'
    go_simp
    with_reducible rfl
   rotate_left
   ·simp only [Act.put, zSa, zSb, zSc, i64_w, i32_w]
    rfl
   refine last_ (i:=15) (N:=none) #[true,true,true,true,true,true,true,true,true,true,true,true,true,true,true,true] rfl rfl (one_of HT_.out (by kernel_rfl)) (by decide) (fun K hK => ?_)
   refine skip_ (w1:=?_) (by rfl) rfl ?_ ?_
   rotate_left
   ·go_simp
    rfl
   refine hK.out _ _ ?_
   clear hK K
   refine done_ (done_of HT_.out (by kernel_rfl)) ?_
   try go_wp2
   go_roundg k1
   case measure => have := HK1.out; omega
   case rel => exact ⟨(y136), (wrap64 (x12_1 + 1)), (by first | rfl | (simp; done) | (simp [*]; done)), H', ⟨by have := HK1.out; omega⟩, ⟨by (with_reducible repeat (first | apply Kd.S_alloc | apply Kd.S_drewN | apply Kd.S_drew)); exact HQ35.out⟩, ⟨by (with_reducible repeat (first | refine zKn ?_ _ | refine zKd ?_ | refine zKa ?_ _)); refine blk_far ?_ HNB121_go26.out _; (with_reducible repeat (first | refine zKn ?_ _ | refine zKd ?_ | refine zKa ?_ _)); exact BK121.out⟩, ⟨by exact uT HB.out⟩⟩
  ·rw [if_neg c9] at H
   have c9b0 : decide (x12_1 < (l0_1.length : Int)) = false := decide_eq_false c9
   clear c9
   obtain rfl := zOi H
   go_wp2
   go_ret
   exact ⟨_, by first | rfl | (simp [errW_none, errW_some] <;> rfl) | (simp [*, errW_none, errW_some] <;> rfl), by (with_reducible repeat (first | apply Kd.S_alloc | apply Kd.S_drewN | apply Kd.S_drew)); exact HO_3.out, by exact uT HB.out⟩
 ·rw [if_neg c2] at H
  exact absurd H (by simp)

def arcE (i : Nat) (e : S43) (v : Int) : List S51 := (if e.f0 = v then [⟨e.f1, (i : Int)⟩] else []) ++ (if e.f1 = v then [⟨e.f0, (i : Int)⟩] else [])
def arcsA : Nat → List S43 → Int → List S51
 | _, [], _ => []
 | i, e :: l, v => arcE i e v ++ arcsA (i + 1) l v
def arcsOf (E : List S43) (v : Int) : List S51 := arcsA 0 E v
theorem arcE_len (i : Nat) (e : S43) (v : Int) : (arcE i e v).length ≤ 2 := by
 unfold arcE
 rw [List.length_append]
 repeat' split
 all_goals simp
theorem arcsA_len : ∀ (E : List S43) (i : Nat) (v : Int), (arcsA i E v).length ≤ 2 * E.length
 | [], _, _ => by simp [arcsA]
 | e :: l, i, v => by
  have h1 := arcE_len i e v
  have h2 := arcsA_len l (i + 1) v
  rw [arcsA, List.length_append, zLc]
  omega
theorem arcsA_snoc (e : S43) (v : Int) : ∀ (E : List S43) (i : Nat), arcsA i (E ++ [e]) v = arcsA i E v ++ arcE (i + E.length) e v
 | [], i => by simp [arcsA]
 | f :: l, i => by
  rw [List.cons_append, arcsA, arcsA, arcsA_snoc e v l (i + 1), List.append_assoc, zLc]
  congr 2
  congr 1
  omega
theorem mem_arcE {i : Nat} {e : S43} {v : Int} {a : S51} : a ∈ arcE i e v ↔ a.f1 = i ∧ ((e.f0 = v ∧ e.f1 = a.f0) ∨ (e.f1 = v ∧ e.f0 = a.f0)) := by
 unfold arcE
 rw [List.mem_append]
 constructor
 ·rintro (h | h)
  ·split at h
   ·rename_i hv; simp at h; subst h; exact ⟨rfl, .inl ⟨hv, rfl⟩⟩
   ·simp at h
  ·split at h
   ·rename_i hv; simp at h; subst h; exact ⟨rfl, .inr ⟨hv, rfl⟩⟩
   ·simp at h
 ·rintro ⟨h1, ⟨h2, h3⟩ | ⟨h2, h3⟩⟩
  ·left; rw [if_pos h2]; simp; cases a; simp at h1 h3; simp [h1, h3]
  ·right; rw [if_pos h2]; simp; cases a; simp at h1 h3; simp [h1, h3]
theorem mem_arcsA {v : Int} {a : S51} : ∀ {E : List S43} {i : Nat}, a ∈ arcsA i E v ↔ ∃ j : Nat, ∃ h : j < E.length, a.f1 = ((i + j : Nat) : Int) ∧ ((E[j].f0 = v ∧ E[j].f1 = a.f0) ∨ (E[j].f1 = v ∧ E[j].f0 = a.f0))
 | [], i => by simp [arcsA]
 | e :: l, i => by
  rw [arcsA, List.mem_append, mem_arcE, mem_arcsA (E:=l)]
  constructor
  ·rintro (⟨h1, h2⟩ | ⟨j, hj, h1, h2⟩)
   ·exact ⟨0, by simp, by simpa using h1, by simpa using h2⟩
   ·exact ⟨j + 1, by simpa using hj, by rw [h1]; omega, by simpa using h2⟩
  ·rintro ⟨j, hj, h1, h2⟩
   cases j with
   | zero => exact .inl ⟨by simpa using h1, by simpa using h2⟩
   | succ j => exact .inr ⟨j, by simpa using hj, by rw [h1]; omega, by simpa using h2⟩
theorem mem_arcsOf {E : List S43} {v : Int} {a : S51} : a ∈ arcsOf E v ↔ ∃ j : Nat, ∃ h : j < E.length, a.f1 = (j : Int) ∧ ((E[j].f0 = v ∧ E[j].f1 = a.f0) ∨ (E[j].f1 = v ∧ E[j].f0 = a.f0)) := by
 unfold arcsOf
 rw [mem_arcsA]
 simp only [Nat.zero_add]
def rowsA (N : Nat) (f : Int → List S51) : List (List S51) := (List.range N).map fun v : Nat => f (v : Int)
theorem rowsA_len (N : Nat) (f : Int → List S51) : (rowsA N f).length = N := by simp [rowsA]
theorem rowsA_rd (N : Nat) (f : Int → List S51) (v : Int) (h0 : 0 ≤ v) (h1 : v < N) : rd_L3 (rowsA N f) v = f v := by
 obtain ⟨v, rfl⟩ := Int.eq_ofNat_of_zero_le h0
 unfold rd_L3 rowsA
 rw [zTn]
 simp [show v < N by omega]
theorem rowsA_set (N : Nat) (f : Int → List S51) (v : Int) (h0 : 0 ≤ v) (x : List S51) : (rowsA N f).set v.toNat x = rowsA N (fun w => if w = v then x else f w) := by
 obtain ⟨v, rfl⟩ := Int.eq_ofNat_of_zero_le h0
 rw [zTn]
 apply List.ext_getElem
 ·simp [rowsA]
 ·intro i h1 h2
  simp only [rowsA, List.getElem_set, List.getElem_map, List.getElem_range]
  by_cases h : v = i
  ·subst h; simp
  ·rw [if_neg h, if_neg (by omega)]
theorem rowsA_congr {N : Nat} {f g : Int → List S51} (h : ∀ v : Nat, v < N → f v = g v) : rowsA N f = rowsA N g := by
 unfold rowsA
 exact List.map_congr_left fun v hv => h v (by simpa using hv)
theorem takeE (l : List S43) (i : Nat) (h : i < l.length) : l.take (i + 1) = l.take i ++ [rd_T43 l (i : Int)] := by
 rw [List.take_succ_eq_append_getElem h, rdE_get l i h]
theorem rdE_mem (l : List S43) (i : Nat) (h : i < l.length) : rd_T43 l (i : Int) ∈ l := by rw [rdE_get l i h]; exact List.getElem_mem h
theorem Arcs_l0 (N : Nat) (E : List S43) (hE : Ends N E) (hne : ∀ e ∈ E, e.f0 ≠ e.f1) (hm : E.length ≤ 1000000000) (d : Nat) : ∀ (i : Nat), E.length - i = d → i ≤ E.length →
  Ev (fun k => parts_arcs.l0 k (rowsA N (arcsOf (E.take i))) E (E.length : Int) i) (rowsA N (arcsOf E)) := by
 induction d with
 | zero =>
  intro i hd hi
  obtain rfl : i = E.length := by omega
  rw [List.take_length]
  refine Ev.step (fun k => ?_) (Ev.now _)
  simp only [parts_arcs.l0]
  rw [if_neg (by omega)]
 | succ d ih =>
  intro i hd hi
  have hlt : i < E.length := by omega
  have hnext := ih (i + 1) (by omega) (by omega)
  obtain ⟨a1, a2, b1, b2⟩ := hE _ (rdE_mem E i hlt)
  have hab := hne _ (rdE_mem E i hlt)
  refine Ev.step (fun k => ?_) hnext
  rw [takeE E i hlt]
  simp only [parts_arcs.l0, rowsA_len]
  generalize rd_T43 E (i : Int) = e at *
  have hlen : ∀ v, (arcsOf (E.take i) v).length ≤ 2000000000 := fun v => by have := arcsA_len (E.take i) 0 v; rw [zLt] at this; unfold arcsOf; omega
  have hil : (E.take i).length = i := by rw [zLt]; omega
  rw [if_pos (by omega), if_pos (by omega), if_pos (by omega), if_pos a1, if_pos a2, rowsA_rd N _ _ a1 a2, if_pos (by have := hlen e.f0; omega), zOb, if_pos b1, if_pos b2, rowsA_set N _ _ a1, rowsA_rd N _ _ b1 b2, if_neg (show ¬ e.f1 = e.f0 from fun h => hab h.symm), if_pos (by have := hlen e.f1; omega), rowsA_set N _ _ b1, w64n i (by omega)]
  congr 1
  refine rowsA_congr fun v hv => ?_
  unfold arcsOf
  rw [arcsA_snoc, hil, Nat.zero_add]
  unfold arcE
  by_cases h1 : (v : Int) = e.f1
  ·rw [if_pos h1, if_neg (by omega), if_pos h1.symm, h1]; rfl
  ·rw [if_neg h1]
   by_cases h0 : (v : Int) = e.f0
   ·rw [if_pos h0, if_pos h0.symm, if_neg (by omega), h0]; simp
   ·rw [if_neg h0, if_neg (by omega), if_neg (by omega)]; simp
theorem Arcs_ev (N : Nat) (E : List S43) (hE : Ends N E) (hne : ∀ e ∈ E, e.f0 ≠ e.f1) (hm : E.length ≤ 1000000000) (hN : N ≤ 1000000000) : Ev (fun k => parts_arcs.f k N E) (rowsA N (arcsOf E)) := by
 refine Ev.congr (fun k => ?_) (Arcs_l0 N E hE hne hm E.length 0 rfl (Nat.zero_le _))
 unfold parts_arcs.f
 rw [if_pos (by omega), zTn, if_pos (by omega)]
 congr 1
 apply List.ext_getElem
 ·simp [rowsA]
 ·intro i a b; simp [rowsA, arcsOf, arcsA]

def w4_Light.f (a0_0 : Int) (l0_1 : List (S43)) (a1 : Int) : Option (Bool) := if a0_0 ≤ a1 then (some (decide ((l0_1.length : Int) ≤ (wrap64 (4 * a1))))) else (some false)
theorem w4_Light.calls (a0_0 : Int) (A0_1 : Option Addr) (c0_1 : Nat) (l0_1 : List (S43)) (a1 : Int) (r : Bool) (w : World) (hr0_1 : Kd.C k43 w A0_1 l0_1.length l0_1) (hc0_1 : l0_1.length ≤ c0_1) (h : w4_Light.f a0_0 l0_1 a1 = some r) :
  Calls Try.prog 8 #[.agg #[.int .i64 a0_0, .slice A0_1 l0_1.length c0_1], .int .i64 a1] w fun e w' => e = .returned (.bool r) ∧ Below w.heap.size w w' := by
 have hu24 := Try.underlying24
 have HR0_1 := zMk hr0_1
 have HC0_1 := zMk hc0_1
 clear hr0_1 hc0_1
 have HB := zMk (Below.refl w.heap.size w)
 have H : (if a0_0 ≤ a1 then (some (decide ((l0_1.length : Int) ≤ (wrap64 (4 * a1))))) else (some false)) = some r := h
 clear h
 by_cases c3 : a0_0 ≤ a1
 ·rw [if_pos c3] at H
  have c3b0 : decide (a0_0 ≤ a1) = true := decide_eq_true c3
  clear c3
  obtain rfl := zOi H
  go_enter Try.func8, Try.ntmps8
  go_wp2_with (first | ((with_reducible refine gate_dst (N:=2) rfl ?_); (try (refine gate_guard (by rfl) ?_; dsimp only)); refine box_event ?hg (N:=2) ?hd (cs:=#[.int .i64 a0_0, .slice A0_1 l0_1.length c0_1]) (t:=24) ?hr ?_; (case hd => rfl); (case hg => rfl); (case hr => first | (go_simp; done)|(go_simp; rfl)|(go_simp; rw [show ∀ x : Int, IntKind.u32.wrap (IntKind.u8.wrap x) = x % 256 from fun x => (by show (x % 256) % 4294967296 = x % 256; omega)])); intro gb101 hg w4 hbox hb; have BK101 := zMk (hbox); have GW101 := zMk ((by rw [hg]; exact (zBs (by exact uT HB.out)) : w.heap.size ≤ gb101)); have GE101 := zMk ((by rw [hg]; exact (zBs (by exact uT HB.out)) : w.heap.size ≤ gb101)); have IGE101 := ownGe GE101.out; replace HB := zMk (zBt (by exact uT HB.out) hb); clear hb hbox hg; have hcz5_0 : w4.cell? ⟨gb101, 0, none⟩ = some (.int .i64 a0_0) := (zKc BK101.out 0).trans rfl; have hcz5_1 : w4.cell? ⟨gb101, 1, none⟩ = some (.slice A0_1 l0_1.length c0_1) := (zKc BK101.out 1).trans rfl; have hfz5_0 := zKf BK101.out 0; have hfz5_1 := zKf BK101.out 1))
  go_ret
  exact ⟨by first | rfl | (simp [errW_none, errW_some] <;> rfl) | (simp [*, errW_none, errW_some] <;> rfl), by exact uT HB.out⟩
 ·rw [if_neg c3] at H
  have c3b0 : decide (a0_0 ≤ a1) = false := decide_eq_false c3
  clear c3
  obtain rfl := zOi H
  go_enter Try.func8, Try.ntmps8
  go_wp2_with (first | ((with_reducible refine gate_dst (N:=2) rfl ?_); (try (refine gate_guard (by rfl) ?_; dsimp only)); refine box_event ?hg (N:=2) ?hd (cs:=#[.int .i64 a0_0, .slice A0_1 l0_1.length c0_1]) (t:=24) ?hr ?_; (case hd => rfl); (case hg => rfl); (case hr => first | (go_simp; done)|(go_simp; rfl)|(go_simp; rw [show ∀ x : Int, IntKind.u32.wrap (IntKind.u8.wrap x) = x % 256 from fun x => (by show (x % 256) % 4294967296 = x % 256; omega)])); intro gb101 hg w6 hbox hb; have BK101 := zMk (hbox); have GW101 := zMk ((by rw [hg]; exact (zBs (by exact uT HB.out)) : w.heap.size ≤ gb101)); have GE101 := zMk ((by rw [hg]; exact (zBs (by exact uT HB.out)) : w.heap.size ≤ gb101)); have IGE101 := ownGe GE101.out; replace HB := zMk (zBt (by exact uT HB.out) hb); clear hb hbox hg; have hcz7_0 : w6.cell? ⟨gb101, 0, none⟩ = some (.int .i64 a0_0) := (zKc BK101.out 0).trans rfl; have hcz7_1 : w6.cell? ⟨gb101, 1, none⟩ = some (.slice A0_1 l0_1.length c0_1) := (zKc BK101.out 1).trans rfl; have hfz7_0 := zKf BK101.out 0; have hfz7_1 := zKf BK101.out 1))
  go_ret
  exact ⟨by first | rfl | (simp [errW_none, errW_some] <;> rfl) | (simp [*, errW_none, errW_some] <;> rfl), by exact uT HB.out⟩


def r4_Ints.l0 : Nat → List Int → List Int → Int → Option (Bool)
 | 0, _, _, _ => none
 | k + 1, x0, x1, x5 => if x5 < (x0.length : Int) then (if 0 ≤ x5 then (if x5 < (x1.length : Int) then (if (rd x0 x5) = (rd x1 x5) then (r4_Ints.l0 k x0 x1 (wrap64 (x5 + 1))) else (some false)) else (none)) else (none)) else (some true)
def r4_Ints.f (k : Nat) (l0 : List Int) (l1 : List Int) : Option (Bool) := if (l0.length : Int) = (l1.length : Int) then (r4_Ints.l0 k l0 l1 0) else (some false)
theorem r4_Ints.calls (k : Nat) (A0 : Option Addr) (c0 : Nat) (l0 : List Int) (A1 : Option Addr) (c1 : Nat) (l1 : List Int) (r : Bool) (w : World) (hr0 : Kd.C (Kd.int .i64) w A0 l0.length l0) (hc0 : l0.length ≤ c0) (hr1 : Kd.C (Kd.int .i64) w A1 l1.length l1) (hc1 : l1.length ≤ c1) (h : r4_Ints.f k l0 l1 = some r) :
  Calls Try.prog 16 #[.slice A0 l0.length c0, .slice A1 l1.length c1] w fun e w' => e = .returned (.bool r) ∧ Drawn0 w w' := by
 have HR0 := zMk hr0
 have HC0 := zMk hc0
 clear hr0 hc0
 have HR1 := zMk hr1
 have HC1 := zMk hc1
 clear hr1 hc1
 have H : (if (l0.length : Int) = (l1.length : Int) then (r4_Ints.l0 k l0 l1 0) else (some false)) = some r := h
 clear h
 by_cases c3 : (l0.length : Int) = (l1.length : Int)
 ·rw [if_pos c3] at H
  have c3b0 : ((l0.length : Int) == (l1.length : Int)) = true := beq_iff_eq.mpr c3
  have c3b1 : ((l0.length : Int) != (l1.length : Int)) = false := bne_eq_false_iff_eq.mpr c3
  have c3b2 : (l0.length == l1.length) = true := by first | simpa using c3 | (simp at c3 ⊢; omega)
  clear c3
  have H' := zMk H
  clear H
  go_enter Try.func16, Try.ntmps16
  go_wp2
  repeat (go_quiet (fail); try go_wp2)
  go_loopg [5] k (fun kq v5 w' => ∃ (x5_1 : Int), v5 = .int .i64 x5_1 ∧ Aside0 (r4_Ints.l0 kq l0 l1 x5_1 = some r) ∧ Aside0 (kq ≤ k) ∧ Drawn0 w w')
  case atStart => exact ⟨(0), (by first | rfl | (simp; done) | (simp [*]; done)), H', ⟨Nat.le_refl _⟩, by repeat (first | exact Drawn0.refl _ | apply Drawn0.step)⟩
  clear H'
  obtain ⟨x5_1, rfl, HA, HK1, ⟨m1, rfl⟩⟩ := hrel
  rcases gk with _ | k1
  ·exact absurd HA.out (by simp [r4_Ints.l0])
  have H := HA.out
  clear HA
  simp only [r4_Ints.l0] at H
  by_cases c4 : x5_1 < (l0.length : Int)
  ·rw [if_pos c4] at H
   have c4b0 : decide (x5_1 < (l0.length : Int)) = true := decide_eq_true c4
   clear c4
   by_cases c5 : 0 ≤ x5_1
   rotate_left
   ·rw [if_neg c5] at H; exact absurd H (by simp)
   rw [if_pos c5] at H
   have c5b0 : decide (0 ≤ x5_1) = true := decide_eq_true c5
   clear c5
   by_cases c6 : x5_1 < (l1.length : Int)
   rotate_left
   ·rw [if_neg c6] at H; exact absurd H (by simp)
   rw [if_pos c6] at H
   have c6b0 : decide (x5_1 < (l1.length : Int)) = true := decide_eq_true c6
   clear c6
   by_cases c7 : (rd l0 x5_1) = (rd l1 x5_1)
   ·rw [if_pos c7] at H
    have c7b0 : ((rd l0 x5_1) == (rd l1 x5_1)) = true := beq_iff_eq.mpr c7
    have c7b1 : ((rd l0 x5_1) != (rd l1 x5_1)) = false := bne_eq_false_iff_eq.mpr c7
    clear c7
    have H' := zMk H
    clear H
    have p285 : 0 ≤ (x5_1 : Int) := of_decide_eq_true (by assumption)
    have q285 : x5_1 < (l0.length : Int) := of_decide_eq_true (by assumption)
    obtain ⟨ad285, e285, hx285_0⟩ := zAi HR0.out x5_1 p285 q285
    cases e285
    replace p285 := eq_true p285
    replace q285 := eq_true q285
    have p286 : 0 ≤ (x5_1 : Int) := of_decide_eq_true (by assumption)
    have q286 : x5_1 < (l1.length : Int) := of_decide_eq_true (by assumption)
    obtain ⟨ad286, e286, hx286_0⟩ := zAi HR1.out x5_1 p286 q286
    cases e286
    replace p286 := eq_true p286
    replace q286 := eq_true q286
    go_wp2
    repeat (go_quiet (fail); try go_wp2)
    go_roundg k1
    case measure => have := HK1.out; omega
    case rel => exact ⟨(wrap64 (x5_1 + 1)), (by first | rfl | (simp; done) | (simp [*]; done)), H', ⟨by have := HK1.out; omega⟩, by repeat (first | exact Drawn0.refl _ | apply Drawn0.step)⟩
   ·rw [if_neg c7] at H
    have c7b0 : ((rd l0 x5_1) == (rd l1 x5_1)) = false := beq_eq_false_iff_ne.mpr c7
    have c7b1 : ((rd l0 x5_1) != (rd l1 x5_1)) = true := bne_iff_ne.mpr c7
    obtain rfl := zOi H
    have p285 : 0 ≤ (x5_1 : Int) := of_decide_eq_true (by assumption)
    have q285 : x5_1 < (l0.length : Int) := of_decide_eq_true (by assumption)
    obtain ⟨ad285, e285, hx285_0⟩ := zAi HR0.out x5_1 p285 q285
    cases e285
    replace p285 := eq_true p285
    replace q285 := eq_true q285
    have p286 : 0 ≤ (x5_1 : Int) := of_decide_eq_true (by assumption)
    have q286 : x5_1 < (l1.length : Int) := of_decide_eq_true (by assumption)
    obtain ⟨ad286, e286, hx286_0⟩ := zAi HR1.out x5_1 p286 q286
    cases e286
    replace p286 := eq_true p286
    replace q286 := eq_true q286
    go_wp2
    repeat (go_quiet (fail); try go_wp2)
    go_ret
    exact ⟨by first | rfl | (simp; done) | (simp [*]; done), by repeat (first | exact Drawn0.refl _ | apply Drawn0.step)⟩
  ·rw [if_neg c4] at H
   have c4b0 : decide (x5_1 < (l0.length : Int)) = false := decide_eq_false c4
   clear c4
   obtain rfl := zOi H
   go_wp2
   repeat (go_quiet (fail); try go_wp2)
   go_ret
   exact ⟨by first | rfl | (simp; done) | (simp [*]; done), by repeat (first | exact Drawn0.refl _ | apply Drawn0.step)⟩
 ·rw [if_neg c3] at H
  have c3b0 : ((l0.length : Int) == (l1.length : Int)) = false := beq_eq_false_iff_ne.mpr c3
  have c3b1 : ((l0.length : Int) != (l1.length : Int)) = true := bne_iff_ne.mpr c3
  have c3b2 : (l0.length == l1.length) = false := by first | simpa using c3 | (simp at c3 ⊢; omega)
  obtain rfl := zOi H
  go_enter Try.func16, Try.ntmps16
  go_wp2
  repeat (go_quiet (fail); try go_wp2)
  go_ret
  exact ⟨by first | rfl | (simp; done) | (simp [*]; done), by repeat (first | exact Drawn0.refl _ | apply Drawn0.step)⟩


def upE : List S43 → Prop
 | a :: b :: l => ordE a b = -1 ∧ upE (b :: l)
 | _ => True
theorem ordE_trans {a b c : S43} (h1 : ordE a b = -1) (h2 : ordE b c = -1) : ordE a c = -1 := by
 unfold ordE at *
 repeat' split at h1
 all_goals repeat' split at h2
 all_goals repeat' split
 all_goals first | rfl | omega
theorem right_iff (n : Int) (l : List S43) : rightI n l = 0 ↔ sizesI n l.length = 0 ∧ (∀ e ∈ l, aloneI n e = 0 ∧ e.f0 ≤ e.f1) ∧ upE l := by
 have key : ∀ (l : List S43) (p : Option S43), rgt n p l = 0 ↔ (∀ e ∈ l, aloneI n e = 0 ∧ e.f0 ≤ e.f1) ∧ (match p with | none => upE l | some p => upE (p :: l)) := by
  intro l
  induction l with
  | nil => intro p; cases p <;> simp [rgt, upE]
  | cons e l ih =>
   intro p
   unfold rgt
   by_cases h0 : aloneI n e = 0
   ·rw [if_neg (not_not_intro h0)]
    by_cases h1 : e.f0 > e.f1
    ·rw [if_pos h1]
     constructor
     ·intro h; omega
     ·intro h; have := (h.1 e (by simp)).2; omega
    ·rw [if_neg h1]
     cases p with
     | none =>
      simp only [ih, List.mem_cons, forall_eq_or_imp]
      constructor
      ·intro h; exact ⟨⟨⟨h0, by omega⟩, h.1⟩, h.2⟩
      ·intro h; exact ⟨h.1.2, h.2⟩
     | some p =>
      simp only [List.mem_cons, forall_eq_or_imp, upE]
      rcases ordE_cases p e with h2 | h2 | h2
      ·rw [if_neg (by omega), if_neg (by omega), ih]
       constructor
       ·intro h; exact ⟨⟨⟨h0, by omega⟩, h.1⟩, h2, h.2⟩
       ·intro h; exact ⟨h.1.2, h.2.2⟩
      ·rw [if_pos h2]
       constructor
       ·intro h; omega
       ·intro h; have := h.2.1; omega
      ·rw [if_neg (by omega), if_pos h2]
       constructor
       ·intro h; omega
       ·intro h; have := h.2.1; omega
   ·rw [if_pos h0]
    constructor
    ·intro h; exact absurd h h0
    ·intro h; exact absurd (h.1 e (by simp)).1 h0
 unfold rightI
 by_cases h : sizesI n l.length = 0
 ·rw [if_pos h, key l none]
  exact ⟨fun x => ⟨h, x⟩, fun x => x.2⟩
 ·rw [if_neg h]
  exact ⟨fun x => absurd x h, fun x => absurd x.1 h⟩
theorem alone_ends {n : Int} {e : S43} (h : aloneI n e = 0) : 0 ≤ e.f0 ∧ e.f0 < n ∧ 0 ≤ e.f1 ∧ e.f1 < n ∧ e.f0 ≠ e.f1 := by
 unfold aloneI at h
 repeat' split at h
 all_goals first | (exfalso; omega) | (refine ⟨?_, ?_, ?_, ?_, ?_⟩ <;> omega)
theorem up_pair : ∀ {l : List S43}, upE l → l.Pairwise (fun a b => ordE a b = -1)
 | [], _ => List.Pairwise.nil
 | [a], _ => List.pairwise_singleton _ _
 | a :: b :: l, h => by
  have ih := up_pair h.2
  rw [List.pairwise_cons]
  refine ⟨fun c hc => ?_, ih⟩
  rcases List.mem_cons.1 hc with rfl | hc
  ·exact h.1
  ·exact ordE_trans h.1 (List.rel_of_pairwise_cons ih hc)
structure Rt (N : Nat) (E : List S43) : Prop where
 N1 : N ≤ 1048576
 E1 : E.length ≤ 4194304
 ends : Ends N E
 lt : ∀ e ∈ E, e.f0 < e.f1
 up : E.Pairwise (fun a b => ordE a b = -1)
theorem Rt.ne {N : Nat} {E : List S43} (h : Rt N E) : ∀ e ∈ E, e.f0 ≠ e.f1 := fun e he => by have := h.lt e he; omega
theorem right_of {n : Int} {E : List S43} (h : rightI n E = 0) : ∃ N : Nat, n = (N : Int) ∧ Rt N E := by
 obtain ⟨h1, h2, h3⟩ := (right_iff n E).1 h
 have hs : 0 ≤ n ∧ n ≤ 1048576 ∧ (E.length : Int) ≤ 4194304 := by
  unfold sizesI at h1
  repeat' split at h1
  all_goals omega
 obtain ⟨N, rfl⟩ := Int.eq_ofNat_of_zero_le hs.1
 refine ⟨N, rfl, by omega, by omega, fun e he => ?_, fun e he => ?_, up_pair h3⟩
 ·obtain ⟨a, b, c, d, -⟩ := alone_ends (h2 e he).1
  exact ⟨a, b, c, d⟩
 ·obtain ⟨a, b, c, d, f⟩ := alone_ends (h2 e he).1
  have := (h2 e he).2
  omega
theorem Right_ev (n : Int) (E : List S43) : Ev (fun k => graph_Right.f k n E) (rightI n E) := ⟨E.length + 4, fun k hk => Right_eq k n E hk⟩
theorem refRight_ev (n : Int) (E : List S43) : Ev (fun k => r4_Right.f k n E) (rightI n E) := ⟨2 * E.length + 3, fun k hk => refRight_eq k n E hk⟩
theorem light_eq (n : Int) (E : List S43) (a : Int) (h0 : 0 ≤ a) (h1 : a ≤ 1000000) : w4_Light.f n E a = some (decide (n ≤ a ∧ (E.length : Int) ≤ 4 * a)) := by
 unfold w4_Light.f
 rw [w64 (by omega) (by omega)]
 by_cases h : n ≤ a
 ·rw [if_pos h]; congr 1; rw [decide_eq_decide]; exact ⟨fun x => ⟨h, x⟩, fun x => x.2⟩
 ·rw [if_neg h]; congr 1; symm; rw [decide_eq_false_iff_not]; exact fun x => h x.1
theorem Ints_l0 (l : List Int) (hm : l.length ≤ 1000000000) (d : Nat) : ∀ (i : Nat), l.length - i = d → i ≤ l.length → Ev (fun k => r4_Ints.l0 k l l i) true := by
 induction d with
 | zero =>
  intro i hd hi
  refine Ev.step (fun k => ?_) (Ev.now _)
  simp only [r4_Ints.l0]
  rw [if_neg (by omega)]
 | succ d ih =>
  intro i hd hi
  refine Ev.step (fun k => ?_) (ih (i + 1) (by omega) (by omega))
  simp only [r4_Ints.l0, if_true]
  rw [if_pos (by omega), if_pos (by omega), if_pos (by omega), w64n i (by omega)]
theorem Ints_ev (l : List Int) (hm : l.length ≤ 1000000000) : Ev (fun k => r4_Ints.f k l l) true := by
 refine Ev.congr (fun k => ?_) (Ints_l0 l hm l.length 0 rfl (Nat.zero_le _))
 unfold r4_Ints.f
 rw [if_pos rfl]; rfl
-- WALK
theorem wk_len {α : Type} {d : Kd α} {e : Nat} {w : World} {base : Nat} {ok : Nat → Prop} {v : Value} {xs : List α} (h : d.R e w base ok v xs) : xs.length ≤ maxLen := by
 obtain ⟨inner, h1, h2⟩ := Kd.R_own h
 rcases h2 with ⟨h0, _⟩ | ⟨g, cap, cur, _, _, _, hnc, hcm, _⟩ <;> omega
structure Wk where
 ord : List Int
 low : List Int
 next : List Int
 edges : List Int
 taken : List Bool
 cut : List Bool
 blocks : List (List Int)
 clock : Int
 stack : List S51
structure WkV where
 v1 : Value
 v2 : Value
 v3 : Value
 vE : Value
 v5 : Value
 v6 : Value
 vB : Value
 vS : Value
abbrev wkI : Kd Int := Kd.int .i64
def wkCells (vn : Value) (V : WkV) (c : Int) : Array Value := #[vn, V.v1, V.v2, V.v3, V.vE, V.v5, V.v6, V.vB, .int .i64 c, V.vS]
def FK (wn W : World) : Prop := wn.heap.size ≤ W.heap.size ∧ ∀ (k : Nat) (cells : Array Value) (t : Nat), (t = 49 ∨ t = 51) → wn.heap[k]? = some (.cells cells t (0, 0)) → W.heap[k]? = some (.cells cells t (0, 0))
theorem FK.below {wn W W' : World} (h : FK wn W) (hb : Below W.heap.size W W') : FK wn W' := ⟨Nat.le_trans h.1 hb.size, fun k cells t ht hk => zKb (h.2 k cells t ht hk) hb⟩
theorem FK.set {wn W : World} (h : FK wn W) {g q : Nat} {cs : Array Value} (hg : W.heap[g]? = some (.cells cs q (0, 0))) (hq : q ≠ 49 ∧ q ≠ 51) (j : Nat) (u : Value) : FK wn (W.setCell ⟨g, j, none⟩ u) := by
 refine ⟨Nat.le_trans h.1 (by simp), fun k cells t ht hk => blk_far (p:=⟨g, j, none⟩) (h.2 k cells t ht hk) ?_ u⟩
 rintro rfl
 have h2 := h.2 _ _ _ ht hk
 rw [hg] at h2
 injection h2 with h2
 injection h2 with _ h2
 rcases ht with rfl | rfl
 ·exact hq.1 h2
 ·exact hq.2 h2
theorem FK.grown {wn W W1 : World} {row : Option Nat} {q : Nat} (h : FK wn W) (hty : ∀ k, row = some k → ∃ cells, W.heap[k]? = some (.cells cells q (0, 0))) (hq : q ≠ 49 ∧ q ≠ 51) (hg : W.grownBy W1 row) : FK wn W1 := by
 refine ⟨Nat.le_trans h.1 hg.size, fun k cells t ht hk => ?_⟩
 have h2 := h.2 k cells t ht hk
 refine (hg.block k (blk_lt h2) ?_).trans h2
 intro e
 obtain ⟨cs, h3⟩ := hty k e.symm
 rw [h2] at h3
 injection h3 with h3
 injection h3 with _ h3
 rcases ht with rfl | rfl
 ·exact hq.1 h3.symm
 ·exact hq.2 h3.symm
theorem FK.far {wn W : World} (h : FK wn W) {g : Nat} (hg : wn.heap.size ≤ g) (j : Nat) (u : Value) : FK wn (W.setCell ⟨g, j, none⟩ u) :=
 ⟨Nat.le_trans h.1 (by simp), fun k cells t ht hk => blk_far (p:=⟨g, j, none⟩) (h.2 k cells t ht hk) (by have := blk_lt hk; show k ≠ g; omega) u⟩
structure WkW (w0 wn W : World) (gw : Nat) (vn : Value) (V : WkV) (s : Wk) : Prop where
 hBl : Below w0.heap.size w0 W
 hK : FK wn W
 hgw : w0.heap.size ≤ gw
 hw : W.heap[gw]? = some (.cells (wkCells vn V s.clock) 55 (0, 0))
 h1 : Kd.R wkI 3 W w0.heap.size (fun _ => True) V.v1 s.ord
 h2 : Kd.R wkI 3 W w0.heap.size (fun _ => True) V.v2 s.low
 h3 : Kd.R wkI 3 W w0.heap.size (fun _ => True) V.v3 s.next
 hE : Kd.R wkI 3 W w0.heap.size (fun _ => True) V.vE s.edges
 h5 : Kd.R Kd.bool 4 W w0.heap.size (fun _ => True) V.v5 s.taken
 h6 : Kd.R Kd.bool 4 W w0.heap.size (fun _ => True) V.v6 s.cut
 hB : Kd.S (Kd.slice 3 wkI) 33 W w0.heap.size (fun k => some k ≠ V.v1.ownBlock ∧ some k ≠ V.v2.ownBlock ∧ some k ≠ V.v3.ownBlock ∧ some k ≠ V.vE.ownBlock) V.vB s.blocks
 hS : Kd.R k51 89 W w0.heap.size (fun _ => True) V.vS s.stack
 d12 : ∀ k, V.v1.ownBlock = some k → some k ≠ V.v2.ownBlock
 d13 : ∀ k, V.v1.ownBlock = some k → some k ≠ V.v3.ownBlock
 d23 : ∀ k, V.v2.ownBlock = some k → some k ≠ V.v3.ownBlock
 dE1 : ∀ k, V.vE.ownBlock = some k → some k ≠ V.v1.ownBlock
 dE2 : ∀ k, V.vE.ownBlock = some k → some k ≠ V.v2.ownBlock
 dE3 : ∀ k, V.vE.ownBlock = some k → some k ≠ V.v3.ownBlock
 d56 : ∀ k, V.v5.ownBlock = some k → some k ≠ V.v6.ownBlock
theorem WkW.below {w0 wn W W' : World} {gw : Nat} {vn : Value} {V : WkV} {s : Wk} (h : WkW w0 wn W gw vn V s) (hb : Below W.heap.size W W') : WkW w0 wn W' gw vn V s :=
 { h with hK := h.hK.below hb, hBl := zBt h.hBl hb, hw := zKb h.hw hb, h1 := zRb h.h1 hb, h2 := zRb h.h2 hb, h3 := zRb h.h3 hb, hE := zRb h.hE hb, h5 := zRb h.h5 hb, h6 := zRb h.h6 hb, hB := Kd.S_below h.hB hb, hS := zRb h.hS hb }
theorem WkW.fclock {w0 wn W : World} {gw : Nat} {vn : Value} {V : WkV} {s : Wk} (h : WkW w0 wn W gw vn V s) (c : Int) : WkW w0 wn (W.setCell ⟨gw, 8, none⟩ (.int .i64 c)) gw vn V { s with clock := c } :=
 { h with hK := h.hK.set h.hw (by decide) _ _, hBl := below_set h.hBl h.hgw, hw := blk_put (cs:=wkCells vn V s.clock) h.hw 8 _ rfl, h1 := Kd.R_set h.h1 h.hw (by decide) _ _, h2 := Kd.R_set h.h2 h.hw (by decide) _ _, h3 := Kd.R_set h.h3 h.hw (by decide) _ _, hE := Kd.R_set h.hE h.hw (by decide) _ _, h5 := Kd.R_set h.h5 h.hw (by decide) _ _, h6 := Kd.R_set h.h6 h.hw (by decide) _ _, hB := Kd.S_set h.hB h.hw (by decide) _ _, hS := Kd.R_set h.hS h.hw (by decide) _ _ }
theorem WkW.fstack {w0 wn W : World} {gw : Nat} {vn : Value} {V : WkV} {s : Wk} {vS : Value} {st : List S51} (h : WkW w0 wn W gw vn V s) (hS : Kd.R k51 89 W w0.heap.size (fun _ => True) vS st) : WkW w0 wn (W.setCell ⟨gw, 9, none⟩ vS) gw vn { V with vS := vS } { s with stack := st } :=
 { h with hK := h.hK.set h.hw (by decide) _ _, hBl := below_set h.hBl h.hgw, hw := blk_put (cs:=wkCells vn V s.clock) h.hw 9 _ rfl, h1 := Kd.R_set h.h1 h.hw (by decide) _ _, h2 := Kd.R_set h.h2 h.hw (by decide) _ _, h3 := Kd.R_set h.h3 h.hw (by decide) _ _, hE := Kd.R_set h.hE h.hw (by decide) _ _, h5 := Kd.R_set h.h5 h.hw (by decide) _ _, h6 := Kd.R_set h.h6 h.hw (by decide) _ _, hB := Kd.S_set h.hB h.hw (by decide) _ _, hS := Kd.R_set hS h.hw (by decide) _ _ }
theorem WkW.gstack {w0 wn W W1 : World} {gw : Nat} {vn : Value} {V : WkV} {s : Wk} (h : WkW w0 wn W gw vn V s) (hb : Below w0.heap.size w0 W1) (hg : W.grownBy W1 V.vS.ownBlock) {vS : Value} {st : List S51} (hS : Kd.R k51 89 W1 w0.heap.size (fun _ => True) vS st) : WkW w0 wn (W1.setCell ⟨gw, 9, none⟩ vS) gw vn { V with vS := vS } { s with stack := st } := by
 have ty := Kd.R_typed h.hS
 have hw1 := blk_grown h.hw hg (Kd.R_ne h.hS h.hw (by decide))
 exact { h with hK := (h.hK.grown ty (by decide) hg).set hw1 (by decide) _ _, hBl := below_set hb h.hgw, hw := blk_put (cs:=wkCells vn V s.clock) hw1 9 _ rfl, h1 := Kd.R_set (Kd.R_over' h.h1 ty (by decide) hg) hw1 (by decide) _ _, h2 := Kd.R_set (Kd.R_over' h.h2 ty (by decide) hg) hw1 (by decide) _ _, h3 := Kd.R_set (Kd.R_over' h.h3 ty (by decide) hg) hw1 (by decide) _ _, hE := Kd.R_set (Kd.R_over' h.hE ty (by decide) hg) hw1 (by decide) _ _, h5 := Kd.R_set (Kd.R_over' h.h5 ty (by decide) hg) hw1 (by decide) _ _, h6 := Kd.R_set (Kd.R_over' h.h6 ty (by decide) hg) hw1 (by decide) _ _, hB := Kd.S_set (Kd.S_over' h.hB ty (by decide) hg) hw1 (by decide) _ _, hS := Kd.R_set hS hw1 (by decide) _ _ }
theorem wk_own {g n c : Nat} : (Value.slice (some ⟨g, 0, none⟩) n c).ownBlock = some g := by simp [Value.ownBlock]
theorem WkW.put1 {w0 wn W : World} {gw : Nat} {vn : Value} {V : WkV} {s : Wk} (h : WkW w0 wn W gw vn V s) {g n c : Nat} (e : V.v1 = .slice (some ⟨g, 0, none⟩) n c) (i x : Int) : WkW w0 wn (W.setCell ⟨g, i.toNat, none⟩ (.int .i64 x)) gw vn V { s with ord := s.ord.set i.toNat x } := by
 have o : V.v1.ownBlock = some g := by rw [e]; exact wk_own
 obtain ⟨cells, hg⟩ := Kd.R_typed h.h1 g o
 have hgb := zRz h.h1 g o
 have hne : gw ≠ g := by
  rintro rfl
  have h2 := h.hw
  rw [hg] at h2
  injection h2 with h2
  injection h2 with _ h2
  exact absurd h2 (by decide)
 have h1' := h.h1
 rw [e] at h1'
 refine { h with hK := h.hK.set hg (by decide) _ _, hBl := below_set h.hBl hgb, hw := blk_far h.hw hne _, h1 := ?_, h2 := ?_, h3 := ?_, hE := ?_, h5 := Kd.R_set h.h5 hg (by decide) _ _, h6 := Kd.R_set h.h6 hg (by decide) _ _, hB := ?_, hS := Kd.R_set h.hS hg (by decide) _ _ }
 ·rw [e]; exact (Kd.R_putg h1' i x).1
 ·exact zRm (Kd.R_far (Kd.R_reok (ok:=fun k => k ≠ g) rfl h.h2 (fun k hk e2 => h.d12 g o (by rw [hk, e2]))) (fun _ hk => hk) _) (fun _ _ => trivial)
 ·exact zRm (Kd.R_far (Kd.R_reok (ok:=fun k => k ≠ g) rfl h.h3 (fun k hk e2 => h.d13 g o (by rw [hk, e2]))) (fun _ hk => hk) _) (fun _ _ => trivial)
 ·exact zRm (Kd.R_far (Kd.R_reok (ok:=fun k => k ≠ g) rfl h.hE (fun k hk e2 => h.dE1 k hk (by rw [o, e2]))) (fun _ hk => hk) _) (fun _ _ => trivial)
 ·exact Kd.S_far h.hB (fun k hk e2 => hk.1 (by rw [o, e2])) _
theorem WkW.put2 {w0 wn W : World} {gw : Nat} {vn : Value} {V : WkV} {s : Wk} (h : WkW w0 wn W gw vn V s) {g n c : Nat} (e : V.v2 = .slice (some ⟨g, 0, none⟩) n c) (i x : Int) : WkW w0 wn (W.setCell ⟨g, i.toNat, none⟩ (.int .i64 x)) gw vn V { s with low := s.low.set i.toNat x } := by
 have o : V.v2.ownBlock = some g := by rw [e]; exact wk_own
 obtain ⟨cells, hg⟩ := Kd.R_typed h.h2 g o
 have hgb := zRz h.h2 g o
 have hne : gw ≠ g := by
  rintro rfl
  have h2 := h.hw
  rw [hg] at h2
  injection h2 with h2
  injection h2 with _ h2
  exact absurd h2 (by decide)
 have h2' := h.h2
 rw [e] at h2'
 refine { h with hK := h.hK.set hg (by decide) _ _, hBl := below_set h.hBl hgb, hw := blk_far h.hw hne _, h1 := ?_, h2 := ?_, h3 := ?_, hE := ?_, h5 := Kd.R_set h.h5 hg (by decide) _ _, h6 := Kd.R_set h.h6 hg (by decide) _ _, hB := ?_, hS := Kd.R_set h.hS hg (by decide) _ _ }
 ·exact zRm (Kd.R_far (Kd.R_reok (ok:=fun k => k ≠ g) rfl h.h1 (fun k hk e2 => h.d12 k hk (by rw [o, e2]))) (fun _ hk => hk) _) (fun _ _ => trivial)
 ·rw [e]; exact (Kd.R_putg h2' i x).1
 ·exact zRm (Kd.R_far (Kd.R_reok (ok:=fun k => k ≠ g) rfl h.h3 (fun k hk e2 => h.d23 g o (by rw [hk, e2]))) (fun _ hk => hk) _) (fun _ _ => trivial)
 ·exact zRm (Kd.R_far (Kd.R_reok (ok:=fun k => k ≠ g) rfl h.hE (fun k hk e2 => h.dE2 k hk (by rw [o, e2]))) (fun _ hk => hk) _) (fun _ _ => trivial)
 ·exact Kd.S_far h.hB (fun k hk e2 => hk.2.1 (by rw [o, e2])) _
def wkEnter (s : Wk) (v by_ : Int) : Option Wk :=
 if 0 ≤ v ∧ v < (s.ord.length : Int) ∧ v < (s.low.length : Int) ∧ s.stack.length < 8796093022207 then some { s with clock := wrap64 (s.clock + 1), ord := s.ord.set v.toNat (wrap64 (s.clock + 1)), low := s.low.set v.toNat (wrap64 (s.clock + 1)), stack := s.stack ++ [⟨v, by_⟩] } else none
theorem WkW.put6 {w0 wn W : World} {gw : Nat} {vn : Value} {V : WkV} {s : Wk} (h : WkW w0 wn W gw vn V s) {g n c : Nat} (e : V.v6 = .slice (some ⟨g, 0, none⟩) n c) (i : Int) (x : Bool) : WkW w0 wn (W.setCell ⟨g, i.toNat, none⟩ (.bool x)) gw vn V { s with cut := s.cut.set i.toNat x } := by
 have o : V.v6.ownBlock = some g := by rw [e]; exact wk_own
 obtain ⟨cells, hg⟩ := Kd.R_typed h.h6 g o
 have hgb := zRz h.h6 g o
 have hne : gw ≠ g := by
  rintro rfl
  have h2 := h.hw
  rw [hg] at h2
  injection h2 with h2
  injection h2 with _ h2
  exact absurd h2 (by decide)
 have h6' := h.h6
 rw [e] at h6'
 refine { h with hK := h.hK.set hg (by decide) _ _, hBl := below_set h.hBl hgb, hw := blk_far h.hw hne _, h1 := Kd.R_set h.h1 hg (by decide) _ _, h2 := Kd.R_set h.h2 hg (by decide) _ _, h3 := Kd.R_set h.h3 hg (by decide) _ _, hE := Kd.R_set h.hE hg (by decide) _ _, h5 := ?_, h6 := ?_, hB := Kd.S_set h.hB hg (by decide) _ _, hS := Kd.R_set h.hS hg (by decide) _ _ }
 ·exact zRm (Kd.R_far (Kd.R_reok (ok:=fun k => k ≠ g) rfl h.h5 (fun k hk e2 => h.d56 k hk (by rw [o, e2]))) (fun _ hk => hk) _) (fun _ _ => trivial)
 ·rw [e]; exact (Kd.R_putg h6' i x).1
theorem WkW.put5 {w0 wn W : World} {gw : Nat} {vn : Value} {V : WkV} {s : Wk} (h : WkW w0 wn W gw vn V s) {g n c : Nat} (e : V.v5 = .slice (some ⟨g, 0, none⟩) n c) (i : Int) (x : Bool) : WkW w0 wn (W.setCell ⟨g, i.toNat, none⟩ (.bool x)) gw vn V { s with taken := s.taken.set i.toNat x } := by
 have o : V.v5.ownBlock = some g := by rw [e]; exact wk_own
 obtain ⟨cells, hg⟩ := Kd.R_typed h.h5 g o
 have hgb := zRz h.h5 g o
 have hne : gw ≠ g := by
  rintro rfl
  have h2 := h.hw
  rw [hg] at h2
  injection h2 with h2
  injection h2 with _ h2
  exact absurd h2 (by decide)
 have h5' := h.h5
 rw [e] at h5'
 refine { h with hK := h.hK.set hg (by decide) _ _, hBl := below_set h.hBl hgb, hw := blk_far h.hw hne _, h1 := Kd.R_set h.h1 hg (by decide) _ _, h2 := Kd.R_set h.h2 hg (by decide) _ _, h3 := Kd.R_set h.h3 hg (by decide) _ _, hE := Kd.R_set h.hE hg (by decide) _ _, h5 := ?_, h6 := ?_, hB := Kd.S_set h.hB hg (by decide) _ _, hS := Kd.R_set h.hS hg (by decide) _ _ }
 ·rw [e]; exact (Kd.R_putg h5' i x).1
 ·exact zRm (Kd.R_far (Kd.R_reok (ok:=fun k => k ≠ g) rfl h.h6 (fun k hk e2 => h.d56 g o (by rw [hk, e2]))) (fun _ hk => hk) _) (fun _ _ => trivial)
theorem WkW.put3 {w0 wn W : World} {gw : Nat} {vn : Value} {V : WkV} {s : Wk} (h : WkW w0 wn W gw vn V s) {g n c : Nat} (e : V.v3 = .slice (some ⟨g, 0, none⟩) n c) (i x : Int) : WkW w0 wn (W.setCell ⟨g, i.toNat, none⟩ (.int .i64 x)) gw vn V { s with next := s.next.set i.toNat x } := by
 have o : V.v3.ownBlock = some g := by rw [e]; exact wk_own
 obtain ⟨cells, hg⟩ := Kd.R_typed h.h3 g o
 have hgb := zRz h.h3 g o
 have hne : gw ≠ g := by
  rintro rfl
  have h2 := h.hw
  rw [hg] at h2
  injection h2 with h2
  injection h2 with _ h2
  exact absurd h2 (by decide)
 have h3' := h.h3
 rw [e] at h3'
 refine { h with hK := h.hK.set hg (by decide) _ _, hBl := below_set h.hBl hgb, hw := blk_far h.hw hne _, h1 := ?_, h2 := ?_, h3 := ?_, hE := ?_, h5 := Kd.R_set h.h5 hg (by decide) _ _, h6 := Kd.R_set h.h6 hg (by decide) _ _, hB := ?_, hS := Kd.R_set h.hS hg (by decide) _ _ }
 ·exact zRm (Kd.R_far (Kd.R_reok (ok:=fun k => k ≠ g) rfl h.h1 (fun k hk e2 => h.d13 k hk (by rw [o, e2]))) (fun _ hk => hk) _) (fun _ _ => trivial)
 ·exact zRm (Kd.R_far (Kd.R_reok (ok:=fun k => k ≠ g) rfl h.h2 (fun k hk e2 => h.d23 k hk (by rw [o, e2]))) (fun _ hk => hk) _) (fun _ _ => trivial)
 ·rw [e]; exact (Kd.R_putg h3' i x).1
 ·exact zRm (Kd.R_far (Kd.R_reok (ok:=fun k => k ≠ g) rfl h.hE (fun k hk e2 => h.dE3 k hk (by rw [o, e2]))) (fun _ hk => hk) _) (fun _ _ => trivial)
 ·exact Kd.S_far h.hB (fun k hk e2 => hk.2.2.1 (by rw [o, e2])) _
theorem WkW.gedges {w0 wn W W1 : World} {gw : Nat} {vn : Value} {V : WkV} {s : Wk} (h : WkW w0 wn W gw vn V s) (hb : Below w0.heap.size w0 W1) (hg : W.grownBy W1 V.vE.ownBlock) {vE : Value} {es : List Int} (hE : Kd.R wkI 3 W1 w0.heap.size (fun _ => True) vE es) (hat : vE.ownBlock = V.vE.ownBlock ∨ ∃ b, vE.ownBlock = some b ∧ W.heap.size ≤ b) : WkW w0 wn (W1.setCell ⟨gw, 4, none⟩ vE) gw vn { V with vE := vE } { s with edges := es } := by
 have ty := Kd.R_typed h.hE
 have hw1 := blk_grown h.hw hg (Kd.R_ne h.hE h.hw (by decide))
 have n1 : ∀ {v : Value} {xs : List Int}, Kd.R wkI 3 W w0.heap.size (fun _ => True) v xs → (∀ k, V.vE.ownBlock = some k → some k ≠ v.ownBlock) → Kd.R wkI 3 W1 w0.heap.size (fun _ => True) v xs ∧ ∀ k, vE.ownBlock = some k → some k ≠ v.ownBlock := by
  intro v xs hv hd
  have hv2 := Kd.R_after (ok:=fun _ => True) (Kd.R_reok (ok:=fun k => True ∧ some k ≠ V.vE.ownBlock) rfl hv (fun k hk => ⟨trivial, fun e => hd k e.symm hk.symm⟩)) hg hat
  exact ⟨zRm hv2 (fun _ _ => trivial), fun k hk e => (hv2.1 k e.symm).2 hk.symm⟩
 obtain ⟨a1, b1⟩ := n1 h.h1 h.dE1
 obtain ⟨a2, b2⟩ := n1 h.h2 h.dE2
 obtain ⟨a3, b3⟩ := n1 h.h3 h.dE3
 have hB2 := Kd.S_after (ok:=fun k => some k ≠ V.v1.ownBlock ∧ some k ≠ V.v2.ownBlock ∧ some k ≠ V.v3.ownBlock) (Kd.S_mono h.hB (fun k hk => ⟨⟨hk.1, hk.2.1, hk.2.2.1⟩, hk.2.2.2⟩)) hg hat
 exact { h with hK := (h.hK.grown ty (by decide) hg).set hw1 (by decide) _ _, hBl := below_set hb h.hgw, hw := blk_put (cs:=wkCells vn V s.clock) hw1 4 _ rfl, h1 := Kd.R_set a1 hw1 (by decide) _ _, h2 := Kd.R_set a2 hw1 (by decide) _ _, h3 := Kd.R_set a3 hw1 (by decide) _ _, hE := Kd.R_set hE hw1 (by decide) _ _, h5 := Kd.R_set (Kd.R_over' h.h5 ty (by decide) hg) hw1 (by decide) _ _, h6 := Kd.R_set (Kd.R_over' h.h6 ty (by decide) hg) hw1 (by decide) _ _, hB := Kd.S_set (Kd.S_mono hB2 (fun k hk => ⟨hk.1.1, hk.1.2.1, hk.1.2.2, hk.2⟩)) hw1 (by decide) _ _, hS := Kd.R_set (Kd.R_over' h.hS ty (by decide) hg) hw1 (by decide) _ _, dE1 := b1, dE2 := b2, dE3 := b3 }
theorem WkW.near {w0 wn W : World} {gw : Nat} {vn : Value} {V : WkV} {s : Wk} (h : WkW w0 wn W gw vn V s) {base : Nat} {ok : Nat → Prop} {An : Option Addr} {cn : Nat} {near : List (List S51)} (hn : Kd.S (Kd.slice 51 k51) 49 wn base ok (.slice An near.length cn) near) : Kd.C (Kd.slice 51 k51) W An near.length near := by
 refine (Kd.S_reads' (Kd.S_move (Kd.S_bound hn) ?_)).2.2
 rintro k ⟨-, -, -, q, hq, cells, hc⟩
 have hq2 : q = 49 ∨ q = 51 := by
  rcases List.mem_cons.1 hq with h1 | h1
  ·exact .inl h1
  ·rcases List.mem_cons.1 h1 with h2 | h2
   ·exact .inr h2
   ·exact absurd (show q ∈ ([] : List Nat) from h2) (by simp)
 rw [h.hK.2 k cells q hq2 hc, hc]
theorem wkEnter.calls (w0 wn w : World) (gw : Nat) (vn : Value) (V : WkV) (s s' : Wk) (v by_ : Int) (h : WkW w0 wn w gw vn V s) (he : wkEnter s v by_ = some s') :
  Calls Try.prog 62 #[.pointer (some ⟨gw, 0, none⟩), .int .i64 v, .int .i64 by_] w fun e w' => e = .returned (.tuple #[]) ∧ ∃ vS, WkW w0 wn w' gw vn { V with vS := vS } s' := by
 have hu55 := Try.underlying55
 unfold wkEnter at he
 by_cases hc : 0 ≤ v ∧ v < (s.ord.length : Int) ∧ v < (s.low.length : Int) ∧ s.stack.length < 8796093022207
 rotate_left
 ·rw [if_neg hc] at he; cases he
 rw [if_pos hc] at he
 obtain rfl := zOi he
 clear he
 have HW := zMk h
 have HC := zMk hc
 clear h hc
 have z8 : w.cell? ⟨gw, 8, none⟩ = some (.int .i64 s.clock) := (zKc HW.out.hw 8).trans rfl
 have f8 := zKf HW.out.hw 8
 go_enter Try.func62, Try.ntmps62
 go_upto_region 1 with (fail)
 clear z8 f8
 have HW1 := zMk (HW.out.fclock (wrap64 (s.clock + 1)))
 generalize w.setCell ⟨gw, 8, none⟩ (.int .i64 (wrap64 (s.clock + 1))) = w1 at HW1 ⊢
 clear HW
 obtain ⟨g1, c1, e1, -, -, -⟩ := Kd.R_form HW1.out.h1 (by have := HC.out; show 0 < s.ord.length; omega)
 obtain ⟨g2, c2, e2, -, -, -⟩ := Kd.R_form HW1.out.h2 (by have := HC.out; show 0 < s.low.length; omega)
 have E1 := zMk (show V.v1 = .slice (some ⟨g1, 0, none⟩) s.ord.length c1 from e1)
 have E2 := zMk (show V.v2 = .slice (some ⟨g2, 0, none⟩) s.low.length c2 from e2)
 clear e1 e2
 have p0 : (0 ≤ v) = True := eq_true HC.out.1
 have p1 : (v < (s.ord.length : Int)) = True := eq_true HC.out.2.1
 have p2 : (v < (s.low.length : Int)) = True := eq_true HC.out.2.2.1
 have HWd := zMk (HW1.out.below (zBd (Below.refl w1.heap.size w1)))
 refine start_ (n:=22) (S:=fun w' => w'.cell? ⟨gw, 1, none⟩ = some (.slice (some ⟨g1, 0, none⟩) s.ord.length c1) ∧ w'.cell? ⟨gw, 2, none⟩ = some (.slice (some ⟨g2, 0, none⟩) s.low.length c2) ∧ w'.cell? ⟨gw, 8, none⟩ = some (.int .i64 (wrap64 (s.clock + 1)))) (ds:=[21]) #[false,false,false,false,false,false,false,false,false,false,false,false,false,false,false,false,false,false,false,false,false,false] (by kernel_rfl) rfl rfl ⟨(zKc HWd.out.hw 1).trans (congrArg some E1.out), (zKc HWd.out.hw 2).trans (congrArg some E2.out), (zKc HWd.out.hw 8).trans (rfl)⟩ (fun hHeld => ?_)
 generalize w1.drew = w2 at HWd hHeld ⊢
 refine pure_ (i:=0) (N:=some 13) (v:=?_) (a' := ?_) #[true,false,false,false,false,false,false,false,false,false,false,false,false,false,false,false,false,false,false,false,false,false] rfl rfl (by kernel_rfl) (fun _ _ _ h => h) (Or.inl ⟨by rfl, ?_⟩) ?_ ?_
 rotate_left
 ·intro w'
  go_simp
  with_reducible rfl
 rotate_left
 ·simp only [Act.put, zSa, zSb, zSc, i64_w, i32_w]
  rfl
 refine pure_ (i:=1) (N:=some 14) (v:=?_) (a' := ?_) #[true,true,false,false,false,false,false,false,false,false,false,false,false,false,false,false,false,false,false,false,false,false] rfl rfl (by kernel_rfl) (fun _ _ _ h => h) (Or.inl ⟨by rfl, ?_⟩) ?_ ?_
 rotate_left
 ·intro w'
  go_simp
  with_reducible rfl
 rotate_left
 ·simp only [Act.put, zSa, zSb, zSc, i64_w, i32_w]
  rfl
 refine pure_ (i:=2) (N:=some 15) (v:=?_) (a' := ?_) #[true,true,true,false,false,false,false,false,false,false,false,false,false,false,false,false,false,false,false,false,false,false] rfl rfl (by kernel_rfl) (fun _ _ _ h => h) (Or.inl ⟨by rfl, ?_⟩) ?_ ?_
 rotate_left
 ·intro w'
  go_simp
  with_reducible rfl
 rotate_left
 ·simp only [Act.put, zSa, zSb, zSc, i64_w, i32_w]
  rfl
 refine pure_ (i:=4) (N:=some 17) (v:=?_) (a' := ?_) #[true,true,true,false,true,false,false,false,false,false,false,false,false,false,false,false,false,false,false,false,false,false] rfl rfl (by kernel_rfl) (fun _ _ _ h => h) (Or.inl ⟨by rfl, ?_⟩) ?_ ?_
 rotate_left
 ·intro w'
  go_simp
  with_reducible rfl
 rotate_left
 ·simp only [Act.put, zSa, zSb, zSc, i64_w, i32_w]
  rfl
 refine pure_ (i:=5) (N:=some 18) (v:=?_) (a' := ?_) #[true,true,true,false,true,true,false,false,false,false,false,false,false,false,false,false,false,false,false,false,false,false] rfl rfl (by kernel_rfl) (fun _ _ _ h => h) (Or.inl ⟨by rfl, ?_⟩) ?_ ?_
 rotate_left
 ·intro w'
  go_simp
  with_reducible rfl
 rotate_left
 ·simp only [Act.put, zSa, zSb, zSc, i64_w, i32_w]
  rfl
 refine pure_ (i:=6) (N:=some 19) (v:=?_) (a' := ?_) #[true,true,true,false,true,true,true,false,false,false,false,false,false,false,false,false,false,false,false,false,false,false] rfl rfl (by kernel_rfl) (fun _ _ _ h => h) (Or.inl ⟨by rfl, ?_⟩) ?_ ?_
 rotate_left
 ·intro w'
  go_simp
  with_reducible rfl
 rotate_left
 ·simp only [Act.put, zSa, zSb, zSc, i64_w, i32_w]
  rfl
 refine pure_ (i:=7) (N:=some 20) (v:=?_) (a' := ?_) #[true,true,true,false,true,true,true,true,false,false,false,false,false,false,false,false,false,false,false,false,false,false] rfl rfl (by kernel_rfl) (fun _ _ _ h => h) (Or.inl ⟨by rfl, ?_⟩) ?_ ?_
 rotate_left
 ·intro w'
  go_simp
  with_reducible rfl
 rotate_left
 ·simp only [Act.put, zSa, zSb, zSc, i64_w, i32_w]
  rfl
 refine pure_ (i:=9) (N:=some 22) (v:=?_) (a' := ?_) #[true,true,true,false,true,true,true,true,false,true,false,false,false,false,false,false,false,false,false,false,false,false] rfl rfl (by kernel_rfl) (fun _ _ _ h => h) (Or.inl ⟨by rfl, ?_⟩) ?_ ?_
 rotate_left
 ·intro w'
  go_simp
  with_reducible rfl
 rotate_left
 ·simp only [Act.put, zSa, zSb, zSc, i64_w, i32_w]
  rfl
 refine pure_ (i:=10) (N:=some 23) (v:=?_) (a' := ?_) #[true,true,true,false,true,true,true,true,false,true,true,false,false,false,false,false,false,false,false,false,false,false] rfl rfl (by kernel_rfl) (fun _ _ _ h => h) (Or.inl ⟨by rfl, ?_⟩) ?_ ?_
 rotate_left
 ·intro w'
  go_simp
  with_reducible rfl
 rotate_left
 ·simp only [Act.put, zSa, zSb, zSc, i64_w, i32_w]
  rfl
 refine pure_ (i:=11) (N:=some 24) (v:=?_) (a' := ?_) #[true,true,true,false,true,true,true,true,false,true,true,true,false,false,false,false,false,false,false,false,false,false] rfl rfl (by kernel_rfl) (fun _ _ _ h => h) (Or.inl ⟨by rfl, ?_⟩) ?_ ?_
 rotate_left
 ·intro w'
  go_simp
  with_reducible rfl
 rotate_left
 ·simp only [Act.put, zSa, zSb, zSc, i64_w, i32_w]
  rfl
 refine pure_ (i:=12) (N:=some 25) (v:=?_) (a' := ?_) #[true,true,true,false,true,true,true,true,false,true,true,true,true,false,false,false,false,false,false,false,false,false] rfl rfl (by kernel_rfl) (fun _ _ _ h => h) (Or.inl ⟨by rfl, ?_⟩) ?_ ?_
 rotate_left
 ·intro w'
  go_simp
  with_reducible rfl
 rotate_left
 ·simp only [Act.put, zSa, zSb, zSc, i64_w, i32_w]
  rfl
 refine pure_ (i:=14) (N:=some 27) (v:=?_) (a' := ?_) #[true,true,true,false,true,true,true,true,false,true,true,true,true,false,true,false,false,false,false,false,false,false] rfl rfl (by kernel_rfl) (fun _ _ _ h => h) (Or.inl ⟨by rfl, ?_⟩) ?_ ?_
 rotate_left
 ·intro w'
  go_simp
  with_reducible rfl
 rotate_left
 ·simp only [Act.put, zSa, zSb, zSc, i64_w, i32_w]
  rfl
 refine pure_ (i:=15) (N:=some 28) (v:=?_) (a' := ?_) #[true,true,true,false,true,true,true,true,false,true,true,true,true,false,true,true,false,false,false,false,false,false] rfl rfl (by kernel_rfl) (fun _ _ _ h => h) (Or.inl ⟨by rfl, ?_⟩) ?_ ?_
 rotate_left
 ·intro w'
  go_simp
  with_reducible rfl
 rotate_left
 ·simp only [Act.put, zSa, zSb, zSc, i64_w, i32_w]
  rfl
 refine pure_ (i:=16) (N:=some 29) (v:=?_) (a' := ?_) #[true,true,true,false,true,true,true,true,false,true,true,true,true,false,true,true,true,false,false,false,false,false] rfl rfl (by kernel_rfl) (fun _ _ _ h => h) (Or.inl ⟨by rfl, ?_⟩) ?_ ?_
 rotate_left
 ·intro w'
  go_simp
  with_reducible rfl
 rotate_left
 ·simp only [Act.put, zSa, zSb, zSc, i64_w, i32_w]
  rfl
 refine take_ (i:=3) (N:=some 16) (v:=?_) (a' := ?_) #[true,true,true,true,true,true,true,true,false,true,true,true,true,false,true,true,true,false,false,false,false,false] rfl rfl (by kernel_rfl) (fun _ _ _ h => h) (Or.inl ⟨by rfl, ?_⟩) hHeld ?_ ?_
 rotate_left
 ·rintro w' ⟨s0, s1, s2⟩
  go_simp
  with_reducible rfl
 rotate_left
 ·simp only [Act.put, zSa, zSb, zSc, i64_w, i32_w]
  rfl
 refine take_ (i:=8) (N:=some 21) (v:=?_) (a' := ?_) #[true,true,true,true,true,true,true,true,true,true,true,true,true,false,true,true,true,false,false,false,false,false] rfl rfl (by kernel_rfl) (fun _ _ _ h => h) (Or.inl ⟨by rfl, ?_⟩) hHeld ?_ ?_
 rotate_left
 ·rintro w' ⟨s0, s1, s2⟩
  go_simp
  with_reducible rfl
 rotate_left
 ·simp only [Act.put, zSa, zSb, zSc, i64_w, i32_w]
  rfl
 refine take_ (i:=13) (N:=some 26) (v:=?_) (a' := ?_) #[true,true,true,true,true,true,true,true,true,true,true,true,true,true,true,true,true,false,false,false,false,false] rfl rfl (by kernel_rfl) (fun _ _ _ h => h) (Or.inl ⟨by rfl, ?_⟩) hHeld ?_ ?_
 rotate_left
 ·rintro w' ⟨s0, s1, s2⟩
  go_simp
  with_reducible rfl
 rotate_left
 ·simp only [Act.put, zSa, zSb, zSc, i64_w, i32_w]
  rfl
 refine take_ (i:=17) (N:=some 30) (v:=?_) (a' := ?_) #[true,true,true,true,true,true,true,true,true,true,true,true,true,true,true,true,true,true,false,false,false,false] rfl rfl (by kernel_rfl) (fun _ _ _ h => h) (Or.inl ⟨by rfl, ?_⟩) hHeld ?_ ?_
 rotate_left
 ·rintro w' ⟨s0, s1, s2⟩
  go_simp
  with_reducible rfl
 rotate_left
 ·simp only [Act.put, zSa, zSb, zSc, i64_w, i32_w]
  rfl
 refine pure_ (i:=18) (N:=some 31) (v:=?_) (a' := ?_) #[true,true,true,true,true,true,true,true,true,true,true,true,true,true,true,true,true,true,true,false,false,false] rfl rfl (by kernel_rfl) (fun _ _ _ h => h) (Or.inl ⟨by rfl, ?_⟩) ?_ ?_
 rotate_left
 ·intro w'
  go_simp
  with_reducible rfl
 rotate_left
 ·simp only [Act.put, zSa, zSb, zSc, i64_w, i32_w]
  rfl
 refine one_ (i:=19) (N:=none) #[true,true,true,true,true,true,true,true,true,true,true,true,true,true,true,true,true,true,true,true,false,false] rfl rfl (by kernel_rfl) (by decide) (fun K hK => ?_)
 have h1' := HWd.out.h1
 rw [E1.out] at h1'
 obtain ⟨hx1, hf1⟩ := Kd.R_celln (0 : Int) h1' v HC.out.1 HC.out.2.1
 clear h1'
 refine skip_ (w1:=?_) (by rfl) rfl ?_ ?_
 rotate_left
 ·go_simp
  rfl
 have H19 := zMk (HWd.out.put1 E1.out v (wrap64 (s.clock + 1)))
 clear hx1 hf1
 refine hK.out _ _ ⟨(zKc H19.out.hw 1).trans (congrArg some E1.out), (zKc H19.out.hw 2).trans (congrArg some E2.out), (zKc H19.out.hw 8).trans (rfl)⟩ (fun hHeld => ?_)
 clear hK K
 refine pure_ (i:=20) (N:=some 32) (v:=?_) (a' := ?_) #[true,true,true,true,true,true,true,true,true,true,true,true,true,true,true,true,true,true,true,true,true,false] rfl rfl (by kernel_rfl) (fun _ _ _ h => h) (Or.inl ⟨by rfl, ?_⟩) ?_ ?_
 rotate_left
 ·intro w'
  go_simp
  with_reducible rfl
 rotate_left
 ·simp only [Act.put, zSa, zSb, zSc, i64_w, i32_w]
  rfl
 refine last_ (i:=21) (N:=none) #[true,true,true,true,true,true,true,true,true,true,true,true,true,true,true,true,true,true,true,true,true,true] rfl rfl (by kernel_rfl) (by decide) (fun K hK => ?_)
 have h2' := H19.out.h2
 rw [E2.out] at h2'
 obtain ⟨hx2, hf2⟩ := Kd.R_celln (0 : Int) h2' v HC.out.1 HC.out.2.2.1
 clear h2'
 generalize w2.setCell ⟨g1, v.toNat, none⟩ (.int .i64 (wrap64 (s.clock + 1))) = w3 at H19 hx2 hf2 ⊢
 refine skip_ (w1:=?_) (by rfl) rfl ?_ ?_
 rotate_left
 ·go_simp
  rfl
 have H21 := zMk (H19.out.put2 E2.out v (wrap64 (s.clock + 1)))
 clear hx2 hf2
 refine hK.out _ _ ?_
 clear hK K
 refine done_ (by kernel_rfl) ?_
 clear HW1 HWd
 generalize w3.setCell ⟨g2, v.toNat, none⟩ (.int .i64 (wrap64 (s.clock + 1))) = w4 at H21 ⊢
 obtain ⟨AS, cS, eS⟩ := zRs H21.out.hS
 have ES := zMk (show V.vS = .slice AS s.stack.length cS from eS)
 clear eS
 have z9 : w4.cell? ⟨gw, 9, none⟩ = some (.slice AS s.stack.length cS) := (zKc H21.out.hw 9).trans (congrArg some ES.out)
 have HS := zMk (show Kd.R k51 89 w4 w0.heap.size (fun _ => True) (.slice AS s.stack.length cS) s.stack from ES.out ▸ H21.out.hS)
 go_wp2_with ((with_reducible refine gate_builtin (b:=.append) (xs:=#[.tmp 37, .tmp 41]) rfl ?_); at_builtin; refine Kd.R_append k51 (w0:=w0) w0.heap.size rfl (.tmp 37) (.tmp 41) 53 89 (.agg #[(.int .i64 0), (.int .i64 0)]) 16 rfl Try.underlying53 (by kernel_rfl) rfl (by decide) (by omega) (.slice AS s.stack.length cS) s.stack (⟨v, by_⟩ : S51) [.int .i64 v, .int .i64 by_] (fun _ => True) (fun _ => False) rfl rfl ?aP (fun _ hk => hk.elim) ?aF ?aO ?aB ?aS ?aL ?_; (case aP => exact k51_mkM _ _ _ (⟨v, by_⟩ : S51)); (case aB => exact H21.out.hBl); (case aF => exact (fun _ _ => trivial)); (case aO => exact HS.out); (case aS => exact (zBs H21.out.hBl)); (case aL => have := HC.out.2.2.2; omega); intro vQ w5 ho hb hg hat; have HF := zMk (H21.out.gstack hb (ES.out ▸ hg) ho); have z9' := zKc (blk_grown H21.out.hw hg (by have := Kd.R_ne H21.out.hS H21.out.hw (by decide); rwa [ES.out] at this)) 9; have f9' := zKf (blk_grown H21.out.hw hg (by have := Kd.R_ne H21.out.hS H21.out.hw (by decide); rwa [ES.out] at this)) 9; obtain ⟨AQ, cQ, eQ⟩ := zRs ho; subst eQ; clear ho hb hg hat)
 go_end0
 have hf := HF.out
 rw [show (s.stack ++ [(⟨v, by_⟩ : S51)]).length = s.stack.length + 1 by simp] at hf
 exact ⟨rfl, _, hf⟩
def insBy {α : Type} (key : α → Int) (x : α) : List α → List α
  | [] => [x]
  | y :: l => if key x ≤ key y then x :: y :: l else y :: insBy key x l
def isortBy {α : Type} (key : α → Int) : List α → List α
  | [] => []
  | x :: l => insBy key x (isortBy key l)
theorem insBy_perm {α : Type} (key : α → Int) (x : α) : ∀ l : List α, (insBy key x l).Perm (x :: l)
  | [] => List.Perm.refl _
  | y :: l => by
    unfold insBy
    split
    · exact List.Perm.refl _
    · exact ((insBy_perm key x l).cons y).trans (List.Perm.swap x y l)
theorem isortBy_perm {α : Type} (key : α → Int) : ∀ l : List α, (isortBy key l).Perm l
  | [] => List.Perm.refl _
  | x :: l => (insBy_perm key x _).trans ((isortBy_perm key l).cons x)
theorem insBy_sorted {α : Type} (key : α → Int) (x : α) : ∀ l : List α, l.Pairwise (fun a b => key a ≤ key b) → (insBy key x l).Pairwise (fun a b => key a ≤ key b)
  | [], _ => List.pairwise_singleton _ _
  | y :: l, h => by
    rw [List.pairwise_cons] at h
    unfold insBy
    split
    · rename_i hxy
      rw [List.pairwise_cons, List.pairwise_cons]
      refine ⟨fun z hz => ?_, h⟩
      rcases List.mem_cons.1 hz with rfl | hz
      · exact hxy
      · exact Int.le_trans hxy (h.1 z hz)
    · rename_i hxy
      rw [List.pairwise_cons]
      refine ⟨fun z hz => ?_, insBy_sorted key x l h.2⟩
      rcases List.mem_cons.1 ((insBy_perm key x l).mem_iff.1 hz) with rfl | hz
      · omega
      · exact h.1 z hz
theorem isortBy_sorted {α : Type} (key : α → Int) : ∀ l : List α, (isortBy key l).Pairwise (fun a b => key a ≤ key b)
  | [] => List.Pairwise.nil
  | x :: l => insBy_sorted key x _ (isortBy_sorted key l)
def wkSorted (xs : List Int) : List Int := isortBy (fun x => x) xs
theorem wkSorted_eq (xs : List Int) : (xs.mergeSort fun x y => decide (x ≤ y)) = wkSorted xs := by
  have h2 : (xs.mergeSort fun x y => decide (x ≤ y)).Pairwise (fun a b : Int => a ≤ b) := by
    have := List.pairwise_mergeSort (le:=fun a b : Int => decide (a ≤ b)) (fun a b c h1 h2 => by simp only [decide_eq_true_eq] at *; omega) (fun a b => by simp only [Bool.or_eq_true, decide_eq_true_eq]; omega) xs
    exact this.imp (fun h => of_decide_eq_true h)
  exact List.Perm.eq_of_pairwise (le:=fun a b : Int => a ≤ b) (fun a b _ _ e1 e2 => Int.le_antisymm e1 e2) h2 (isortBy_sorted _ xs) ((List.mergeSort_perm _ _).trans (isortBy_perm _ xs).symm)
end Go.Proofs.Ytkiemlbobcklpaa.A
namespace Go.Proofs
open Go.Shelf
def Try.laysSlF6_f46_ren : Go.Shelf.Ren := ⟨fun | 6 => 46 | 15 => 44 | 14 => 64 | 28 => 60 | 29 => 61 | 20 => 73 | 21 => 74 | 22 => 75 | 23 => 76 | 24 => 77 | 25 => 78 | 26 => 79 | 27 => 80 | 46 => 87 | 47 => 67 | 48 => 68 | 49 => 88 | 50 => 89 | 57 => 93 | n => n, fun | 22 => 29 | 24 => 33 | 25 => 72 | 3 => 3 | 39 => 69 | 0 => 0 | 53 => 84 | 55 => 86 | 4 => 4 | 46 => 77 | 45 => 76 | 50 => 61 | 5 => 5 | 9 => 9 | 66 => 92 | 70 => 96 | 76 => 103 | 77 => 104 | n => n, fun | n => n⟩
theorem Try.laysSlF6_f46 : Go.Proofs.SlLaysF.n6 Try.prog Try.laysSlF6_f46_ren := {
 mixed := by kernel_rfl
 f6 := ⟨Try.f46.name, by decide, Try.func46.trans (congrArg some (by kernel_rfl))⟩
 f14 := ⟨Try.f64.name, by decide, Try.func64.trans (congrArg some (by kernel_rfl))⟩
 f15 := Try.func44.trans (congrArg some (by kernel_rfl))
 f20 := ⟨Try.f73.name, by decide, Try.func73.trans (congrArg some (by kernel_rfl))⟩
 f21 := ⟨Try.f74.name, by decide, Try.func74.trans (congrArg some (by kernel_rfl))⟩
 f22 := ⟨Try.f75.name, by decide, Try.func75.trans (congrArg some (by kernel_rfl))⟩
 f23 := ⟨Try.f76.name, by decide, Try.func76.trans (congrArg some (by kernel_rfl))⟩
 f24 := ⟨Try.f77.name, by decide, Try.func77.trans (congrArg some (by kernel_rfl))⟩
 f25 := ⟨Try.f78.name, by decide, Try.func78.trans (congrArg some (by kernel_rfl))⟩
 f26 := ⟨Try.f79.name, by decide, Try.func79.trans (congrArg some (by kernel_rfl))⟩
 f27 := ⟨Try.f80.name, by decide, Try.func80.trans (congrArg some (by kernel_rfl))⟩
 f28 := Try.func60.trans (congrArg some (by kernel_rfl))
 f29 := Try.func61.trans (congrArg some (by kernel_rfl))
 f46 := ⟨Try.f87.name, by decide, Try.func87.trans (congrArg some (by kernel_rfl))⟩
 f47 := Try.func67.trans (congrArg some (by kernel_rfl))
 f48 := Try.func68.trans (congrArg some (by kernel_rfl))
 f49 := ⟨Try.f88.name, by decide, Try.func88.trans (congrArg some (by kernel_rfl))⟩
 f50 := ⟨Try.f89.name, by decide, Try.func89.trans (congrArg some (by kernel_rfl))⟩
 f57 := ⟨Try.f93.name, by decide, Try.func93.trans (congrArg some (by kernel_rfl))⟩
 t0 := Try.underlying0
 a0 := Try.isAgg0
 z0 := Try.sizeOf0
 v0 := Try.zeroValue0
 t3 := Try.underlying3
 a3 := Try.isAgg3
 z3 := Try.sizeOf3
 v3 := Try.zeroValue3
 t4 := Try.underlying4
 a4 := Try.isAgg4
 z4 := Try.sizeOf4
 v4 := Try.zeroValue4
 t5 := Try.underlying5
 a5 := Try.isAgg5
 z5 := Try.sizeOf5
 v5 := Try.zeroValue5
 t9 := Try.underlying9
 a9 := Try.isAgg9
 z9 := Try.sizeOf9
 v9 := Try.zeroValue9
 t22 := Try.underlying29
 a22 := Try.isAgg29
 z22 := Try.sizeOf29
 v22 := Try.zeroValue29
 a24 := Try.isAgg33
 z24 := Try.sizeOf33
 t25 := Try.underlying72
 a25 := Try.isAgg72
 z25 := Try.sizeOf72
 v25 := Try.zeroValue72
 t39 := Try.underlying69
 a39 := Try.isAgg69
 z39 := Try.sizeOf69
 v39 := Try.zeroValue69
 t45 := Try.underlying76
 a45 := Try.isAgg76
 z45 := Try.sizeOf76
 v45 := Try.zeroValue76
 t46 := Try.underlying77
 a46 := Try.isAgg77
 z46 := Try.sizeOf77
 v46 := Try.zeroValue77
 t50 := Try.underlying61
 a50 := Try.isAgg61
 z50 := Try.sizeOf61
 v50 := Try.zeroValue61
 t53 := Try.underlying84
 a53 := Try.isAgg84
 z53 := Try.sizeOf84
 v53 := Try.zeroValue84
 t55 := Try.underlying86
 a55 := Try.isAgg86
 z55 := Try.sizeOf86
 v55 := Try.zeroValue86
 t66 := Try.underlying92
 a66 := Try.isAgg92
 z66 := Try.sizeOf92
 v66 := Try.zeroValue92
 t70 := Try.underlying96
 a70 := Try.isAgg96
 z70 := Try.sizeOf96
 v70 := Try.zeroValue96
 t76 := Try.underlying103
 a76 := Try.isAgg103
 z76 := Try.sizeOf103
 v76 := Try.zeroValue103
 t77 := Try.underlying104
 a77 := Try.isAgg104
 z77 := Try.sizeOf104
 v77 := Try.zeroValue104 }
open Go.RowKit Go.Lib Go.Sort in
theorem Try.slices_SortFunc_eq {α : Type} [Inhabited α] (enc : α → Value) (h1 : OneCell enc) (cf : α → α → Int) (hO : SWO (ltOf cf)) (g : Nat) (cb : Array Value) (blk off cap : Nat) (d : Array α) (w : World) (eg : ∀ args w, (callFunc g args).run Try.prog w = .ok (.enter g args) w) (hcmp : CmpLays1 Try.prog g cb enc cf blk off d.size w) (hH : Holds enc w blk off d) (hblk : blk < w.heap.size) (hsz : d.size < 4611686018427387904) :
  Calls Try.prog 46 #[.slice (some ⟨blk, off, none⟩) d.size cap, .func (.func g) #[] cb] w fun e w' =>
   e = .returned (.tuple #[]) ∧ ∃ n os, w' = sortWorld enc w blk off n (pdq (ltOf cf) d 0 d.size (Lib.bitLen d.size) true true) os := Any.slices_SortFunc_eq Try.laysSlF6_f46 enc h1 cf hO g cb blk off cap d w eg hcmp hH hblk hsz
def Try.laysSlF06_f46_ren : Go.Shelf.Ren := ⟨fun | 6 => 46 | 15 => 44 | 14 => 64 | 28 => 60 | 29 => 61 | 20 => 73 | 21 => 74 | 22 => 75 | 23 => 76 | 24 => 77 | 25 => 78 | 26 => 79 | 27 => 80 | 46 => 87 | 47 => 67 | 48 => 68 | 49 => 88 | 50 => 89 | 57 => 93 | n => n, fun | 22 => 29 | 24 => 33 | 25 => 72 | 3 => 3 | 39 => 69 | 0 => 0 | 53 => 84 | 55 => 86 | 4 => 4 | 46 => 77 | 45 => 76 | 50 => 61 | 5 => 5 | 9 => 9 | 66 => 92 | 70 => 96 | 76 => 103 | 77 => 104 | n => n, fun | n => n⟩
theorem Try.laysSlF06_f46 : Go.Proofs.SlLaysF0.n6 Try.prog Try.laysSlF06_f46_ren := {
 mixed := by kernel_rfl
 f6 := ⟨Try.f46.name, by decide, Try.func46.trans (congrArg some (by kernel_rfl))⟩
 f14 := ⟨Try.f64.name, by decide, Try.func64.trans (congrArg some (by kernel_rfl))⟩
 f15 := Try.func44.trans (congrArg some (by kernel_rfl))
 f20 := ⟨Try.f73.name, by decide, Try.func73.trans (congrArg some (by kernel_rfl))⟩
 f21 := ⟨Try.f74.name, by decide, Try.func74.trans (congrArg some (by kernel_rfl))⟩
 f22 := ⟨Try.f75.name, by decide, Try.func75.trans (congrArg some (by kernel_rfl))⟩
 f23 := ⟨Try.f76.name, by decide, Try.func76.trans (congrArg some (by kernel_rfl))⟩
 f24 := ⟨Try.f77.name, by decide, Try.func77.trans (congrArg some (by kernel_rfl))⟩
 f25 := ⟨Try.f78.name, by decide, Try.func78.trans (congrArg some (by kernel_rfl))⟩
 f26 := ⟨Try.f79.name, by decide, Try.func79.trans (congrArg some (by kernel_rfl))⟩
 f27 := ⟨Try.f80.name, by decide, Try.func80.trans (congrArg some (by kernel_rfl))⟩
 f28 := Try.func60.trans (congrArg some (by kernel_rfl))
 f29 := Try.func61.trans (congrArg some (by kernel_rfl))
 f46 := ⟨Try.f87.name, by decide, Try.func87.trans (congrArg some (by kernel_rfl))⟩
 f47 := Try.func67.trans (congrArg some (by kernel_rfl))
 f48 := Try.func68.trans (congrArg some (by kernel_rfl))
 f49 := ⟨Try.f88.name, by decide, Try.func88.trans (congrArg some (by kernel_rfl))⟩
 f50 := ⟨Try.f89.name, by decide, Try.func89.trans (congrArg some (by kernel_rfl))⟩
 f57 := ⟨Try.f93.name, by decide, Try.func93.trans (congrArg some (by kernel_rfl))⟩
 t0 := Try.underlying0
 a0 := Try.isAgg0
 z0 := Try.sizeOf0
 v0 := Try.zeroValue0
 t3 := Try.underlying3
 a3 := Try.isAgg3
 z3 := Try.sizeOf3
 v3 := Try.zeroValue3
 t4 := Try.underlying4
 a4 := Try.isAgg4
 z4 := Try.sizeOf4
 v4 := Try.zeroValue4
 t5 := Try.underlying5
 a5 := Try.isAgg5
 z5 := Try.sizeOf5
 v5 := Try.zeroValue5
 t9 := Try.underlying9
 a9 := Try.isAgg9
 z9 := Try.sizeOf9
 v9 := Try.zeroValue9
 t22 := Try.underlying29
 a22 := Try.isAgg29
 z22 := Try.sizeOf29
 v22 := Try.zeroValue29
 t25 := Try.underlying72
 a25 := Try.isAgg72
 z25 := Try.sizeOf72
 v25 := Try.zeroValue72
 t39 := Try.underlying69
 a39 := Try.isAgg69
 z39 := Try.sizeOf69
 v39 := Try.zeroValue69
 t45 := Try.underlying76
 a45 := Try.isAgg76
 z45 := Try.sizeOf76
 v45 := Try.zeroValue76
 t46 := Try.underlying77
 a46 := Try.isAgg77
 z46 := Try.sizeOf77
 v46 := Try.zeroValue77
 t50 := Try.underlying61
 a50 := Try.isAgg61
 z50 := Try.sizeOf61
 v50 := Try.zeroValue61
 t53 := Try.underlying84
 a53 := Try.isAgg84
 z53 := Try.sizeOf84
 v53 := Try.zeroValue84
 t55 := Try.underlying86
 a55 := Try.isAgg86
 z55 := Try.sizeOf86
 v55 := Try.zeroValue86
 t66 := Try.underlying92
 a66 := Try.isAgg92
 z66 := Try.sizeOf92
 v66 := Try.zeroValue92
 t70 := Try.underlying96
 a70 := Try.isAgg96
 z70 := Try.sizeOf96
 v70 := Try.zeroValue96
 t76 := Try.underlying103
 a76 := Try.isAgg103
 z76 := Try.sizeOf103
 v76 := Try.zeroValue103
 t77 := Try.underlying104
 a77 := Try.isAgg104
 z77 := Try.sizeOf104
 v77 := Try.zeroValue104 }
open Go.RowKit Go.Lib Go.Sort in
theorem Try.slices_SortFunc_none {α : Type} [Inhabited α] (p : Option Addr) (cap : Nat) (fv : Value) (w : World) :
  Calls Try.prog 46 #[.slice p 0 cap, fv] w fun e w' => e = .returned (.tuple #[]) ∧ w' = w := AnyF.slices_SortFunc_none Try.laysSlF06_f46 p cap fv w
end Go.Proofs
namespace Go.Proofs.Ytkiemlbobcklpaa.A
open Go Go.RowKit Go.Proofs.YtkiemlbobcklpaaW.PrintWords Go.Proofs.YtkiemlbobcklpaaW.PrintLast Go.Proofs.YtkiemlbobcklpaaW.PrintMore
attribute [local go_sem] max2_int min2_int max_two min_two max_three min_three max_four min_four
open Go.Proofs.YtkiemlbobcklpaaW.PrintWords.Kd renaming R_alloc → zRa, R_drewN → zRn, R_drew → zRd, C_alloc → zCa, C_drewN → zCn, C_drew → zCd, R_mono → zRm, at_int → zAi, R_elder' → zRe, R_lower → zRl, R_new' → zRw, R_lt → zRt, R_below → zRb, R_base → zRz, R_reads' → zRr, R_slice → zRs
open Go.Proofs.YtkiemlbobcklpaaW.PrintWords renaming pw_below_drewN → zBn, below_alloc → zBa, below_drew1 → zBd, below_size → zBs, below_step → zBt, blk_drewN → zKn, blk_drew → zKd, blk_alloc → zKa, blk_below → zKb, blk_cell → zKc, blk_frozen → zKf
open List renaming setIfInBounds_toArray → zSa, set_cons_zero → zSb, set_cons_succ → zSc, length_drop → zLd, length_take → zLt, map_toArray → zMa, map_cons → zMc, map_nil → zMn, length_cons → zLc, length_nil → zLn
open Go.Proofs.YtkiemlbobcklpaaW.PrintWords.Aside0 renaming mk → zMk
open Option renaming bind_eq_some_iff → zBi, bind_some → zOb
open Option.some renaming inj → zOi
open Int renaming toNat_natCast → zTn
section
open Go.Shelf Go.Sort
def SrtQ (w : World) (gB : Nat) (p : Value × (List Int × Nat)) : Prop := 0 ≤ rd p.2.1 0 ∧ rd p.2.1 0 < 4611686018427387904 ∧ ∃ (ad : Addr) (n c : Nat), p.1 = .slice (some ad) n c ∧ 0 < n ∧ ad.block ≠ gB ∧ w.cell? ad = some (.int .i64 (rd p.2.1 0))
abbrev SrtP (w : World) (gB : Nat) : Type := { p : Value × (List Int × Nat) // SrtQ w gB p }
def srtEnc {w : World} {gB : Nat} (x : SrtP w gB) : Value := x.1.1
def srtCf {w : World} {gB : Nat} (x y : SrtP w gB) : Int := rd x.1.2.1 0 - rd y.1.2.1 0
def wkSortB (bs : List (List Int)) : List (List Int) := isortBy (fun a => rd a 0) bs
def wkSorts (s : Wk) : Option Wk :=
 if (s.blocks.all fun b => decide (b ≠ [] ∧ 0 ≤ rd b 0 ∧ rd b 0 < 4611686018427387904)) = true ∧ (s.blocks.map fun b => rd b 0).Nodup ∧ s.blocks.length < 4611686018427387904 then some { s with blocks := wkSortB s.blocks } else none
theorem srt.cmp (w : World) (gB : Nat) (x y : SrtP w gB) (W : World) (hW : ∀ (ad : Addr) (v : Value), ad.block ≠ gB → w.cell? ad = some v → W.cell? ad = some v) :
  Calls Try.prog 47 (#[srtEnc x, srtEnc y] ++ #[]) W fun e w' => e = .returned (.int .i64 (srtCf x y)) ∧ ∃ q, w' = W.drewN q := by
 obtain ⟨⟨vx, bx, ix⟩, hx0, hx1, ax, nx, cx, ex, hnx, hbx, hcx⟩ := x
 obtain ⟨⟨vy, by_, iy⟩, hy0, hy1, ay, ny, cy, ey, hny, hby, hcy⟩ := y
 dsimp only at ex ey
 subst ex ey
 have hX := hW ax _ hbx hcx
 have hY := hW ay _ hby hcy
 dsimp only at hX hY hx0 hx1 hy0 hy1
 show Calls Try.prog 47 #[.slice (some ax) nx cx, .slice (some ay) ny cy] W fun e w' => e = .returned (.int .i64 (rd bx 0 - rd by_ 0)) ∧ ∃ q, w' = W.drewN q
 generalize rd bx 0 = u at hX hx0 hx1 ⊢
 generalize rd by_ 0 = v at hY hy0 hy1 ⊢
 have p1 : ((0 : Int) < (nx : Int)) = True := eq_true (by omega)
 have p2 : ((0 : Int) < (ny : Int)) = True := eq_true (by omega)
 have HWR := zMk (show wrap64 (u - v) = u - v by unfold wrap64; omega)
 clear hcx hcy hW hx0 hx1 hy0 hy1 hbx hby
 go_enter Try.func47, Try.ntmps47
 go_upto_region 1 with (fail)
 have x0 : W.drew.cell? ax = some (.int .i64 u) := hX
 have y0 : W.drew.cell? ay = some (.int .i64 v) := hY
 refine wp_region_still_tail 7 (by kernel_rfl) (by kernel_rfl) ?_
 generalize hw2 : W.drew = w2 at x0 y0
 show wpStill _ _ W.drew (fun a' => wpList _ _ _ _ a' W.drew) _ _
 rw [hw2]
 simp only [List.take_succ_cons, List.take_zero, List.drop_succ_cons, List.drop_zero]
 repeat still_step
 refine wpStill_nil ?_
 go_wp2
 go_ret
 refine ⟨?_, 1, hw2.symm⟩
 first | rw [HWR.out] | (simp only [i64_w]; rw [HWR.out]; rfl)
theorem srt.grown {α : Type} [Inhabited α] (enc : α → Value) {w : World} {g n : Nat} {os : Array Obj} (d : Array α) : w.grownBy (sortWorld enc w g 0 n d os) (some g) := by
 refine ⟨rfl, rfl, rfl, by simp [sortWorld], fun k hk hne => ?_⟩
 unfold sortWorld
 rw [heap_grow_old _ _ (by simpa using hk)]
 have : g ≠ k := fun e => hne (by rw [e])
 simp [putRow, mapBlock, Sort.ahead, Array.getElem?_modify, this]
theorem srt.heap {α : Type} [Inhabited α] (enc : α → Value) {w : World} {g n : Nat} {os : Array Obj} {cur : Array Value} {e : TypeId} {fr : Nat × Nat} (d : Array α) (hb : w.heap[g]? = some (.cells cur e fr)) :
  (sortWorld enc w g 0 n d os).heap[g]? = some (.cells (putCells enc 0 d cur) e fr) := by
 have hg : g < w.heap.size := (Array.getElem?_eq_some_iff.1 hb).1
 unfold sortWorld
 rw [heap_grow_old _ _ (by simpa using hg)]
 simp [putRow, mapBlock, Sort.ahead, Array.getElem?_modify, hb, onCells]
theorem srt.holds {α : Type} [Inhabited α] (enc : α → Value) {w : World} {g : Nat} {cur : Array Value} {e : TypeId} {ss : List α} (hb : w.heap[g]? = some (.cells cur e (0, 0))) (ht : cur.toList.take ss.length = ss.map enc) : Holds enc w g 0 ss.toArray := by
 intro j hj
 have hj' : j < ss.length := by simpa using hj
 refine ⟨?_, by simp [World.frozen?, hb]⟩
 have h1 : (cur.toList.take ss.length)[j]? = (ss.map enc)[j]? := by rw [ht]
 rw [List.getElem?_take_of_lt hj'] at h1
 simp only [World.cell?, hb, Nat.zero_add]
 simp only [Option.isSome_none, Bool.false_eq_true, if_false]
 rw [← Array.getElem?_toList, h1]
 simp [hj']
theorem srt.take {α : Type} [Inhabited α] (enc : α → Value) (cur : Array Value) (ts : List α) (h : ts.length ≤ cur.size) : (putCells enc 0 ts.toArray cur).toList.take ts.length = ts.map enc := by
 apply List.ext_getElem?
 intro j
 by_cases hj : j < ts.length
 ·rw [List.getElem?_take_of_lt hj, Array.getElem?_toList]
  simp [putCells, hj, show j < cur.size by omega]
 ·rw [List.getElem?_take_eq_none (by omega), List.getElem?_eq_none (by simp; omega)]
theorem srt.own {α : Type} [Inhabited α] (enc : α → Value) {w : World} {base g cap n : Nat} {e : TypeId} {os : Array Obj} {cur : Array Value} {ss ts : List α} (hl : ts.length = ss.length) (hbase : base ≤ g) (hb : w.heap[g]? = some (.cells cur e (0, 0)))
  (h1 : ss.length ≤ cap) (h2 : cap ≤ maxLen) (h3 : cur.size = cap * 1) :
  (sortWorld enc w g 0 n ts.toArray os).ownsRow base e 1 (.slice (some ⟨g, 0, none⟩) ss.length cap) ss.length (ts.map enc) :=
 ⟨by simp [hl], .inr ⟨g, cap, _, rfl, hbase, srt.heap enc _ hb, h1, h2, by simp [putCells, h3], by rw [Nat.mul_one, ← hl]; exact srt.take enc cur ts (by omega)⟩⟩
theorem srt.reads (w : World) (gB : Nat) [Inhabited (SrtP w gB)] (size : Nat) (hg : gB < w.heap.size) : CmpReads Try.prog 47 #[] (srtEnc (w:=w) (gB:=gB)) srtCf gB 0 size w := by
 intro m os dk hs x y
 refine srt.cmp w gB x y _ fun ad v hne hc => ?_
 have hl := World.block_lt_of_cell? w _ hc
 unfold sortWorld
 rw [cell?_grow _ _ _ (by simpa using hl), cell?_putRow_other _ _ _ _ _ _ (.inl hne)]
 exact hc
theorem srt.swo (w : World) (gB : Nat) : SWO (ltOf (srtCf (w:=w) (gB:=gB))) where
 irrefl := fun x => decide_eq_false (show ¬ (rd x.1.2.1 0 - rd x.1.2.1 0 < 0) by omega)
 trans := fun x y z h1 h2 => by
  have h1 : rd x.1.2.1 0 - rd y.1.2.1 0 < 0 := of_decide_eq_true h1
  have h2 : rd y.1.2.1 0 - rd z.1.2.1 0 < 0 := of_decide_eq_true h2
  exact decide_eq_true (show rd x.1.2.1 0 - rd z.1.2.1 0 < 0 by omega)
 ntrans := fun x y z h1 h2 => by
  have h1 : ¬ (rd x.1.2.1 0 - rd y.1.2.1 0 < 0) := of_decide_eq_false h1
  have h2 : ¬ (rd y.1.2.1 0 - rd z.1.2.1 0 < 0) := of_decide_eq_false h2
  exact decide_eq_false (show ¬ (rd x.1.2.1 0 - rd z.1.2.1 0 < 0) by omega)
theorem srt.perm (w : World) (gB : Nat) [Inhabited (SrtP w gB)] (d : List (SrtP w gB)) :
  ((pdq (ltOf (srtCf (w:=w) (gB:=gB))) d.toArray 0 d.toArray.size (Lib.bitLen d.toArray.size) true true).toList).Perm d ∧
  ((pdq (ltOf (srtCf (w:=w) (gB:=gB))) d.toArray 0 d.toArray.size (Lib.bitLen d.toArray.size) true true).toList).Pairwise (fun x y => rd x.1.2.1 0 ≤ rd y.1.2.1 0) := by
 obtain ⟨⟨hs, _, hp⟩, hS⟩ := pdq_sorts _ (srt.swo w gB) d.toArray 0 d.toArray.size (Lib.bitLen d.toArray.size) true true (Nat.zero_le _) (Nat.le_refl _) (.inl rfl)
 generalize pdq (ltOf (srtCf (w:=w) (gB:=gB))) d.toArray 0 d.toArray.size (Lib.bitLen d.toArray.size) true true = d' at hs hp hS
 constructor
 ·have e1 : d'.extract 0 d.toArray.size = d' := by rw [← hs]; simp
  have e2 : d.toArray.extract 0 d.toArray.size = d.toArray := by simp
  rw [e1, e2] at hp
  simpa using hp
 ·rw [List.pairwise_iff_getElem]
  intro i j hi hj hij
  have hj' : j < d'.size := by simpa using hj
  have h := hS i j (Nat.zero_le _) hij (by omega)
  rw [getElem!_pos d' j hj', getElem!_pos d' i (by omega)] at h
  have h : ¬ (rd (d'[j]).1.2.1 0 - rd (d'[i]).1.2.1 0 < 0) := of_decide_eq_false h
  simp only [Array.getElem_toList]
  omega
theorem srt_inj {α β : Type} (f : α → β) : ∀ (l : List α), (l.map f).Nodup → ∀ a b, a ∈ l → b ∈ l → f a = f b → a = b
 | [], _, a, _, ha, _, _ => by cases ha
 | x :: l, h, a, b, ha, hb, e => by
  rw [zMc, List.nodup_cons] at h
  rcases List.mem_cons.1 ha with h1 | h1
  ·rcases List.mem_cons.1 hb with h2 | h2
   ·rw [h1, h2]
   ·exact absurd (show f x ∈ l.map f by rw [← h1, e]; exact List.mem_map_of_mem h2) h.1
  ·rcases List.mem_cons.1 hb with h2 | h2
   ·exact absurd (show f x ∈ l.map f by rw [← h2, ← e]; exact List.mem_map_of_mem h1) h.1
   ·exact srt_inj f l h.2 a b h1 h2 e
theorem wkSortB_eq {bs ys : List (List Int)} (hp : ys.Perm bs) (hs : ys.Pairwise (fun a b => rd a 0 ≤ rd b 0)) (hn : (bs.map fun b => rd b 0).Nodup) : ys = wkSortB bs := by
 have h1 : (wkSortB bs).Perm bs := isortBy_perm _ _
 have h2 : (wkSortB bs).Pairwise (fun a b => rd a 0 ≤ rd b 0) := isortBy_sorted _ _
 refine List.Perm.eq_of_pairwise (le:=fun a b : List Int => rd a 0 ≤ rd b 0) (fun a b ha hb e1 e2 => ?_) hs h2 (hp.trans h1.symm)
 exact srt_inj (fun b => rd b 0) bs hn a b (hp.mem_iff.1 ha) (h1.mem_iff.1 hb) (by show rd a 0 = rd b 0; omega)
theorem srt.list (w : World) (gB : Nat) (ps : List (List Int × Nat)) (inner : List Value) (hl : inner.length = ps.length) (Q : Value × (List Int × Nat) → Prop) (H : ∀ (j : Nat) p v, ps[j]? = some p → inner[j]? = some v → Q (v, p)) : ∃ d : List { q // Q q }, d.map (fun x => x.1.2) = ps ∧ d.map (fun x => x.1.1) = inner := by
 have hQ : ∀ q ∈ inner.zip ps, Q q := by
  rintro ⟨v, p⟩ hq
  obtain ⟨j, hj⟩ := List.getElem?_of_mem hq
  rw [List.getElem?_zip_eq_some] at hj
  exact H j p v hj.2 hj.1
 refine ⟨(inner.zip ps).attachWith Q hQ, ?_, ?_⟩
 ·have h1 : ((inner.zip ps).attachWith Q hQ).map (fun x => x.1) = inner.zip ps := List.attachWith_map_subtype_val _
  have h2 : ((inner.zip ps).attachWith Q hQ).map (fun x => x.1.2) = (inner.zip ps).map (fun q => q.2) := by
   conv => rhs; rw [← h1]
   rw [List.map_map]; rfl
  rw [h2]; exact List.map_snd_zip (by omega)
 ·have h1 : ((inner.zip ps).attachWith Q hQ).map (fun x => x.1) = inner.zip ps := List.attachWith_map_subtype_val _
  have h2 : ((inner.zip ps).attachWith Q hQ).map (fun x => x.1.1) = (inner.zip ps).map (fun q => q.1) := by
   conv => rhs; rw [← h1]
   rw [List.map_map]; rfl
  rw [h2]; exact List.map_fst_zip (by omega)
theorem wkSorts.calls (w0 wn w : World) (gw : Nat) (vn : Value) (V : WkV) (s s' : Wk) (A : Option Addr) (c : Nat) (h : WkW w0 wn w gw vn V s) (hv : V.vB = .slice A s.blocks.length c) (he : wkSorts s = some s') :
  Calls Try.prog 46 #[.slice A s.blocks.length c, .func (.func 47) #[] #[]] w fun e w' => e = .returned (.tuple #[]) ∧ WkW w0 wn w' gw vn V s' := by
 unfold wkSorts at he
 by_cases hc : (s.blocks.all fun b => decide (b ≠ [] ∧ 0 ≤ rd b 0 ∧ rd b 0 < 4611686018427387904)) = true ∧ (s.blocks.map fun b => rd b 0).Nodup ∧ s.blocks.length < 4611686018427387904
 rotate_left
 ·rw [if_neg hc] at he; cases he
 rw [if_pos hc] at he
 obtain rfl := zOi he
 obtain ⟨hall, hnd, hmx⟩ := hc
 by_cases hb : s.blocks.length = 0
 ·rw [hb]
  refine (Try.slices_SortFunc_none (α:=Nat) A c _ w).mono ?_
  rintro e w' ⟨rfl, rfl⟩
  have hb2 : s.blocks = [] := List.eq_nil_of_length_eq_zero hb
  refine ⟨rfl, ?_⟩
  have : ({ s with blocks := wkSortB s.blocks } : Wk) = s := by
   rw [hb2]
   cases s
   dsimp only at hb2
   subst hb2
   rfl
  rw [this]
  exact h
 have hSB := h.hB
 obtain ⟨f, h0, inner, ho, hr⟩ := hSB
 rw [List.length_zipIdx] at ho
 rcases ho.2 with ⟨-, hz⟩ | ⟨g, cap, cur, ev, hbase, hg, r1, r2, r3, r4⟩
 ·exact absurd hz hb
 have hA : A = some ⟨g, 0, none⟩ ∧ c = cap := by
  rw [hv] at ev
  injection ev with e1 _ e3
  exact ⟨e1, e3⟩
 obtain ⟨rfl, rfl⟩ := hA
 have hown : V.vB.ownBlock = some g := by rw [hv]; exact wk_own
 have hil : inner.length = s.blocks.length := by have := ho.1; rw [this]; exact Nat.mul_one _
 have hlt : g < w.heap.size := blk_lt hg
 obtain ⟨okB, hokB⟩ : ∃ okB : Nat → Prop, okB = (fun k => some k ≠ V.v1.ownBlock ∧ some k ≠ V.v2.ownBlock ∧ some k ≠ V.v3.ownBlock ∧ some k ≠ V.vE.ownBlock) := ⟨_, rfl⟩
 rw [← hokB] at h0 hr
 have hM : ∀ (j : Nat) p v, s.blocks.zipIdx[j]? = some p → inner[j]? = some v → Kd.R wkI 3 w w0.heap.size (fun k => (okB k ∧ some k ≠ V.vB.ownBlock) ∧ f k = p.2) v p.1 := by
  intro j p v hp hi
  have h1 := hr.2 j p hp
  have e1 : (inner.drop (j * 1)).take 1 = [v] := by
   rw [Nat.mul_one]
   obtain ⟨hj, rfl⟩ := List.getElem?_eq_some_iff.1 hi
   rw [List.drop_eq_getElem_cons hj]; rfl
  have e2 : (Kd.tag f (Kd.slice 3 wkI)).sz = 1 := rfl
  rw [e2, e1] at h1
  obtain ⟨v2, e3, hR⟩ := h1
  obtain rfl : v = v2 := by simpa using e3
  exact hR
 have hQ : ∀ (j : Nat) p v, s.blocks.zipIdx[j]? = some p → inner[j]? = some v → SrtQ w g (v, p) := by
  intro j p v hp hi
  have hR := hM j p v hp hi
  have hmem : p.1 ∈ s.blocks := by
   have h1 := List.mem_map_of_mem (f:=Prod.fst) (List.mem_of_getElem? hp)
   rwa [List.zipIdx_map_fst] at h1
  have hb1 := of_decide_eq_true (List.all_eq_true.1 hall _ hmem)
  have hpos : 0 < p.1.length := List.length_pos_iff.2 hb1.1
  obtain ⟨g2, c2, e2, -, -, -⟩ := Kd.R_form hR hpos
  subst e2
  have hcl := (Kd.R_celln (0 : Int) hR 0 (Int.le_refl _) (by omega)).1
  refine ⟨hb1.2.1, hb1.2.2, ⟨g2, 0, none⟩, _, _, rfl, hpos, ?_, hcl⟩
  intro e
  have e : g2 = g := e
  exact hR.1 g2 wk_own |>.1.2 (by rw [hown, e])
 obtain ⟨d, hd2, hd1⟩ := srt.list w g s.blocks.zipIdx inner (by rw [hil, List.length_zipIdx]) (SrtQ w g) hQ
 have hdl : d.length = s.blocks.length := by rw [← List.length_zipIdx (l:=s.blocks) (i:=0), ← hd2, List.length_map]
 have hdM : ∀ x ∈ d, Kd.R wkI 3 w w0.heap.size (fun k => (okB k ∧ some k ≠ V.vB.ownBlock) ∧ f k = x.1.2.2) x.1.1 x.1.2.1 := by
  intro x hx
  obtain ⟨j, hj⟩ := List.getElem?_of_mem hx
  exact hM j x.1.2 x.1.1 (by rw [← hd2, List.getElem?_map, hj]; rfl) (by rw [← hd1, List.getElem?_map, hj]; rfl)
 haveI : Inhabited (SrtP w g) := ⟨d[0]'(by omega)⟩
 obtain ⟨hperm, hsort⟩ := srt.perm w g d
 have hsz : d.toArray.size = s.blocks.length := by simpa using hdl
 have hC := Try.slices_SortFunc_eq (srtEnc (w:=w) (gB:=g)) (fun x => by obtain ⟨-, -, ad, n, c, e, -⟩ := x.2; show (x.1.1).oneCell' = true; rw [e]; rfl) srtCf (srt.swo w g) 47 #[] g 0 c d.toArray w (enters_of Try.func47 (by kernel_rfl) rfl) (srt.reads w g d.toArray.size hlt).lays
  (srt.holds srtEnc hg (by rw [hdl, ← Nat.mul_one s.blocks.length]; exact (show List.take (s.blocks.length * 1) cur.toList = inner from r4).trans hd1.symm)) hlt (by omega)
 rw [hsz] at hC hperm hsort
 refine hC.mono ?_
 rintro e w' ⟨rfl, n, os, rfl⟩
 refine ⟨rfl, ?_⟩
 clear hC
 generalize pdq (ltOf (srtCf (w:=w) (gB:=g))) d.toArray 0 s.blocks.length (Lib.bitLen s.blocks.length) true true = td at hperm hsort ⊢
 obtain ⟨ts, rfl⟩ : ∃ ts : List (SrtP w g), td = ts.toArray := ⟨td.toList, by simp⟩
 rw [List.toList_toArray] at hperm hsort
 have hgr : w.grownBy (sortWorld (srtEnc (w:=w) (gB:=g)) w g 0 n ts.toArray os) V.vB.ownBlock := by rw [hown]; exact srt.grown _ _
 have hto := srt.own (n:=n) (os:=os) (srtEnc (w:=w) (gB:=g)) (ss:=d) (ts:=ts) hperm.length_eq hbase hg (by omega) r2 r3
 generalize sortWorld (srtEnc (w:=w) (gB:=g)) w g 0 n ts.toArray os = W1 at hgr hto
 have ty := Kd.S_typed h.hB
 have hbs : ts.map (fun x => x.1.2.1) = wkSortB s.blocks := by
  refine wkSortB_eq ?_ ?_ hnd
  ·have h1 := hperm.map (fun x => x.1.2.1)
   have h2 : d.map (fun x => x.1.2.1) = s.blocks := by
    have h3 := congrArg (List.map Prod.fst) hd2
    rw [List.zipIdx_map_fst, List.map_map] at h3
    exact h3
   rwa [h2] at h1
  ·rw [List.pairwise_map]
   exact hsort
 have htn : (ts.map (fun x => x.1.2.2)).Nodup := by
  have h1 := hperm.map (fun x => x.1.2.2)
  have h2 : d.map (fun x => x.1.2.2) = List.range' 0 s.blocks.length := by
   have h3 := congrArg (List.map Prod.snd) hd2
   rw [List.zipIdx_map_snd, List.map_map] at h3
   exact h3
  rw [h2] at h1
  exact h1.nodup_iff.2 List.nodup_range'
 have hlen : (wkSortB s.blocks).length = s.blocks.length := by rw [← hbs, List.length_map, hperm.length_eq, hdl]
 have hB : Kd.S (Kd.slice 3 wkI) 33 W1 w0.heap.size okB V.vB (wkSortB s.blocks) := by
  refine ⟨fun k => (ts.map (fun x => x.1.2.2)).idxOf (f k), h0, ts.map srtEnc, ?_, ?_, ?_⟩
  ·rw [List.length_zipIdx, hlen, hv, ← hdl]
   exact hto
  ·rw [List.length_map, List.length_zipIdx, hlen, hperm.length_eq, hdl]
   exact (Nat.mul_one _).symm
  ·intro j p hp
   rw [List.getElem?_zipIdx, Nat.zero_add, ← hbs, List.getElem?_map] at hp
   obtain ⟨b, hb1, hb2⟩ := Option.map_eq_some_iff.1 hp
   obtain ⟨x, hx, rfl⟩ := Option.map_eq_some_iff.1 hb1
   subst hb2
   obtain ⟨hj, rfl⟩ := List.getElem?_eq_some_iff.1 hx
   have hj2 : j < (ts.map srtEnc).length := by simpa using hj
   have e1 : ((ts.map srtEnc).drop (j * 1)).take 1 = [srtEnc ts[j]] := by
    rw [Nat.mul_one, List.drop_eq_getElem_cons hj2, List.getElem_map]; rfl
   have e2 : (Kd.tag (fun k => (ts.map (fun x => x.1.2.2)).idxOf (f k)) (Kd.slice 3 wkI)).sz = 1 := rfl
   rw [e2, e1]
   refine ⟨_, rfl, ?_⟩
   have h1 := hdM ts[j] (hperm.mem_iff.1 (List.getElem_mem hj))
   have h2 := Kd.R_grown h1 hgr (fun k hk => hk.1.2)
   refine zRm h2 (fun k hk => ⟨hk.1, ?_⟩)
   show (ts.map (fun x => x.1.2.2)).idxOf (f k) = j
   rw [hk.2]
   have h3 := htn.idxOf_getElem j (by simpa using hj)
   rwa [List.getElem_map] at h3
 rw [hokB] at hB
 exact { h with hBl := h.hBl.grown hgr h.hBl.size (fun k e => by rw [hown] at e; cases e; exact hbase), hK := h.hK.grown ty (by decide) hgr, hw := blk_grown h.hw hgr (Kd.S_ne h.hB h.hw (by decide)), h1 := Kd.R_over' h.h1 ty (by decide) hgr, h2 := Kd.R_over' h.h2 ty (by decide) hgr, h3 := Kd.R_over' h.h3 ty (by decide) hgr, hE := Kd.R_over' h.hE ty (by decide) hgr, h5 := Kd.R_over' h.h5 ty (by decide) hgr, h6 := Kd.R_over' h.h6 ty (by decide) hgr, hB := hB, hS := Kd.R_over' h.hS ty (by decide) hgr }
end
end Go.Proofs.Ytkiemlbobcklpaa.A
namespace Go.Proofs
open Go.Shelf
def Try.lays83_ren : Go.Shelf.Ren := ⟨fun | 6 => 83 | 8 => 90 | 9 => 29 | 11 => 94 | 13 => 44 | 12 => 43 | 23 => 60 | 24 => 61 | 14 => 51 | 15 => 52 | 16 => 53 | 17 => 54 | 18 => 55 | 19 => 56 | 20 => 57 | 21 => 58 | 22 => 59 | 25 => 66 | 26 => 67 | 27 => 68 | 28 => 69 | 29 => 70 | 30 => 65 | 31 => 81 | n => n, fun | 26 => 3 | 28 => 109 | 24 => 33 | 0 => 0 | 3 => 3 | 37 => 69 | 48 => 84 | 50 => 86 | 4 => 4 | 40 => 77 | 39 => 76 | 45 => 61 | 5 => 5 | 9 => 9 | 51 => 92 | 55 => 96 | 57 => 103 | 58 => 104 | 33 => 91 | n => n, fun | n => n⟩
theorem Try.lays83 : Go.Proofs.SlLaysZI.n6 Try.prog Try.lays83_ren := {
  mixed := by kernel_rfl
  f6 := ⟨Try.f83.name, by decide, Try.func83.trans (congrArg some (by kernel_rfl))⟩
  f8 := ⟨Try.f90.name, by decide, Try.func90.trans (congrArg some (by kernel_rfl))⟩
  f11 := ⟨Try.f94.name, by decide, Try.func94.trans (congrArg some (by kernel_rfl))⟩
  t0 := Try.underlying0
  a0 := Try.isAgg0
  z0 := Try.sizeOf0
  v0 := Try.zeroValue0
  t24 := Try.underlying33
  a24 := Try.isAgg33
  z24 := Try.sizeOf33
  v24 := Try.zeroValue33
  t26 := Try.underlying3
  a26 := Try.isAgg3
  z26 := Try.sizeOf3
  v26 := Try.zeroValue3
  t28 := Try.underlying109
  a28 := Try.isAgg109
  z28 := Try.sizeOf109
  v28 := Try.zeroValue109
  i26 := by kernel_rfl }
def Try.lays85_ren : Go.Shelf.Ren := ⟨fun | 8 => 85 | 6 => 92 | n => n, fun | 22 => 49 | 23 => 51 | 25 => 112 | 4 => 4 | 3 => 3 | 0 => 0 | n => n, fun | n => n⟩
theorem Try.lays85 : Go.Proofs.SlLaysH0.n8 Try.prog Try.lays85_ren := {
  mixed := by kernel_rfl
  f6 := ⟨Try.f92.name, by decide, Try.func92.trans (congrArg some (by kernel_rfl))⟩
  f8 := ⟨Try.f85.name, by decide, Try.func85.trans (congrArg some (by kernel_rfl))⟩
  t0 := Try.underlying0
  a0 := Try.isAgg0
  z0 := Try.sizeOf0
  v0 := Try.zeroValue0
  t3 := Try.underlying3
  a3 := Try.isAgg3
  z3 := Try.sizeOf3
  v3 := Try.zeroValue3
  t4 := Try.underlying4
  a4 := Try.isAgg4
  z4 := Try.sizeOf4
  v4 := Try.zeroValue4
  t22 := Try.underlying49
  a22 := Try.isAgg49
  z22 := Try.sizeOf49
  v22 := Try.zeroValue49
  t25 := Try.underlying112
  a25 := Try.isAgg112
  z25 := Try.sizeOf112
  v25 := Try.zeroValue112 }
end Go.Proofs
namespace Go.Proofs.Ytkiemlbobcklpaa.A
open Go Go.RowKit Go.Proofs.YtkiemlbobcklpaaW.PrintWords Go.Proofs.YtkiemlbobcklpaaW.PrintLast Go.Proofs.YtkiemlbobcklpaaW.PrintMore
attribute [local go_sem] max2_int min2_int max_two min_two max_three min_three max_four min_four
open Go.Proofs.YtkiemlbobcklpaaW.PrintWords.Kd renaming R_alloc → zRa, R_drewN → zRn, R_drew → zRd, C_alloc → zCa, C_drewN → zCn, C_drew → zCd, R_mono → zRm, at_int → zAi, R_elder' → zRe, R_lower → zRl, R_new' → zRw, R_lt → zRt, R_below → zRb, R_base → zRz, R_reads' → zRr, R_slice → zRs
open Go.Proofs.YtkiemlbobcklpaaW.PrintWords renaming pw_below_drewN → zBn, below_alloc → zBa, below_drew1 → zBd, below_size → zBs, below_step → zBt, blk_drewN → zKn, blk_drew → zKd, blk_alloc → zKa, blk_below → zKb, blk_cell → zKc, blk_frozen → zKf
open List renaming setIfInBounds_toArray → zSa, set_cons_zero → zSb, set_cons_succ → zSc, length_drop → zLd, length_take → zLt, map_toArray → zMa, map_cons → zMc, map_nil → zMn, length_cons → zLc, length_nil → zLn
open Go.Proofs.YtkiemlbobcklpaaW.PrintWords.Aside0 renaming mk → zMk
open Option renaming bind_eq_some_iff → zBi, bind_some → zOb
open Option.some renaming inj → zOi
open Int renaming toNat_natCast → zTn
section
open Go.Maps Go.Sort Go.Shelf
def GivesB {α : Type} (F : Fence) (n : Nat) (P : Program) (g : Nat) (lb : Array Value) (enc : α → Value) (S : List α → Prop) (N : Nat) (w : World) : Prop :=
  ∀ (l : Nat) (J : List α → World → Prop) (W : World), Below w.heap.size w W → AbidesFrom W.heap.size J → (∀ s W1, J s W1 → Below w.heap.size w W1) →
    (∀ pre x W1, J pre W1 → pre.length < N → YieldAt F (n - 1) P l #[enc x] W1 fun e W' => e = .returned (.bool true) ∧ J (pre ++ [x]) W' ∧ KeepsWalks W1 W') →
    J [] W →
    CallsIn F n P g (#[.func (.yield l) #[] #[]] ++ lb) W fun e W' => (∃ v, e = .returned v) ∧ ∃ xs, S xs ∧ J xs W'
theorem encZ_def (x : Int) : encZ x = .int .i64 x := rfl
section
attribute [local go_sem] Oper.semAt_some
theorem soValues.gives (F : Fence) (n : Nat) (h91 : F.fn 91) (hro : F.round = none) (hn : 1 ≤ n) (Bs cap : Nat) (A : Option Addr) (zs : List Int) (hcap : zs.length ≤ cap) (w : World) (hBs : Bs < w.heap.size)
    (hc : w.cell? ⟨Bs, 0, none⟩ = some (.slice A zs.length cap)) (hC : Kd.C wkI w A zs.length zs) :
    GivesB F n Try.prog 91 #[.pointer (some ⟨Bs, 0, none⟩)] encZ (fun ss => ss = zs) zs.length w := fun l J W hW _ hJB hY h0 => by
  have HC := zMk hC
  have HJ0 := zMk h0
  have HJB := zMk hJB
  have HY := zMk hY
  have hmax : zs.length ≤ 9223372036854775807 := Kd.C_max hC
  have hc' := (hW.cell (p:=⟨Bs, 0, none⟩) hBs).trans hc
  clear hC h0 hJB hY
  refine callsIn_of_wp Try.func91 rfl h91 ?_ hro
  simp only [Try.ntmps91, List.size_toArray, zLc, zLn, Nat.reduceAdd, Nat.reduceSub, Array.replicate_succ, Array.replicate_zero, List.push_toArray, List.append_toArray, List.nil_append, List.cons_append]
  gi_wp2
  gi_loopw [7] (fun i wr => ∃ k : Nat, k ≤ zs.length ∧ i = .int .i64 k ∧ Aside0 (J (zs.take k) wr))
    (fun i _ => zs.length - (intOf i).toNat)
  case atStart => exact ⟨0, Nat.zero_le _, by simp, ⟨by simpa using HJ0.out⟩⟩
  case round =>
    obtain ⟨k, hk, rfl, hJs⟩ := hrel
    by_cases hlt : k < zs.length
    · obtain ⟨fn, tmps, assign, body, hy, hR⟩ := HY.out _ (rd zs (k : Int)) wr hJs.out (by rw [zLt]; omega)
      have hC2 := Kd.C_below HC.out (HJB.out _ _ hJs.out)
      obtain ⟨ad, e, hx⟩ := zAi hC2 (k : Int) (by omega) (by omega)
      subst e
      rw [zTn] at hx
      have HR := zMk hR
      have hk1 : (k : Int) < (zs.length : Int) := by omega
      have Hlt := zMk hlt
      rw [encZ_def] at hy
      clear hC2 hR hlt
      have p4 : decide ((k : Int) < (zs.length : Int)) = true := decide_eq_true hk1
      have ht : zs.take k ++ [rd zs (k : Int)] = zs.take (k + 1) := by
        have := Hlt.out
        rw [List.take_succ_eq_append_getElem this]
        have e2 : rd zs (k : Int) = zs[k] := by
          show zs.getD (k : Int).toNat 0 = zs[k]
          rw [zTn, List.getD_eq_getElem?_getD, List.getElem?_eq_getElem this, Option.getD_some]
        rw [e2]
      rw [ht] at HR
      clear ht
      gi_wp2
      refine HR.out.mono ?_
      rintro e W3 ⟨rfl, hJ3, hk3⟩
      have HJ3 := zMk hJ3
      clear hJ3
      gi_wp2
      go_roundw
      case rel => exact ⟨k + 1, by have := Hlt.out; omega, by simp, HJ3⟩
      case measure => have := Hlt.out; simp [intOf]; omega
    · obtain rfl : k = zs.length := by omega
      gi_wp2
      go_end0
      exact ⟨⟨_, rfl⟩, zs, rfl, by simpa using hJs.out⟩
end
section
variable {P : Program} {ρ : Ren}
theorem soAppend.gives (L : SlLaysZI.n11 P ρ) (F : Fence) (n : Nat) (h11 : F.fn (ρ.f 11)) (hro : F.round = none) (hn : 2 ≤ n) (g : Nat) (lb : Array Value) (hFg : F.fn g) (eg : ∀ args w, (callFunc g args).run P w = .ok (.enter g args) w)
    (S : List Int → Prop) (N : Nat) (hN : N ≤ maxLen) (hNb : N * 8 ≤ 140737488355328) (w0 w : World) (hw : Below w0.heap.size w0 w) (hseq : GivesB F (n - 1) P g lb encZ S N w0) :
    CallsIn F n P (ρ.f 11) #[.slice none 0 0, .func (.func g) #[] lb] w fun e w' => ∃ (v : Value) (ss : List Int), e = .returned v ∧ S ss ∧ w'.ownsRow w.heap.size (ρ.t 26) 1 v ss.length (ss.map encZ) ∧ (v = .slice none 0 0 ↔ ss = []) ∧ Below w.heap.size w w' := by
  have h1 : 1 ≤ n := by omega
  have mixed := L.mixed; have t0 := L.t0; have a0 := L.a0; have z0 := L.z0; have v0 := L.v0; have t24 := L.t24; have a24 := L.a24; have z24 := L.z24; have v24 := L.v24; have t26 := L.t26; have a26 := L.a26; have z26 := L.z26; have v26 := L.v26; have t28 := L.t28; have a28 := L.a28; have z28 := L.z28; have v28 := L.v28
  have hne : ρ.t 24 ≠ ρ.t 26 := fun e => by have h := L.t24; rw [e, L.t26] at h; cases h
  have u0 := run_underlying L.t0; have u24 := run_underlying L.t24; have u26 := run_underlying L.t26; have u28 := run_underlying L.t28
  obtain ⟨_, _, FG⟩ := L.f11
  refine callsIn_of_wp_marks FG rfl h11 ?_ hro
  simp only [SlBodyZ.n11_ntmps ρ, List.size_toArray, zLc, zLn, Nat.reduceAdd, Nat.reduceSub, Array.replicate_succ, Array.replicate_zero, List.push_toArray, List.append_toArray, List.nil_append, List.cons_append]
  gi_wp2
  refine wpIn_rangeFunc ?_
  intro fn hfn
  rw [hro]
  obtain ⟨W0, hW0⟩ : ∃ W0, w.alloc (.cells #[.slice none 0 0] (ρ.t 24)) = W0 := ⟨_, rfl⟩
  have hs0 : W0.heap.size = w.heap.size + 1 := by rw [← hW0]; simp
  have hv0 : W0.heap[w.heap.size]? = some (.cells #[.slice none 0 0] (ρ.t 24) (0, 0)) := by rw [← hW0]; exact World.alloc_heap_new w _
  have hb0 : Below w.heap.size w W0 := by rw [← hW0]; exact (Below.refl _ w).alloc (Nat.le_refl _) _
  rw [hW0]
  obtain ⟨W1, hW1⟩ : ∃ W1, (W0.alloc (.deferred (some []))).alloc (.loop (AnyZI.apRec ρ fn (.func (.func g) #[] lb) w.heap.size W0.heap.size .ready none)) = W1 := ⟨_, rfl⟩
  have hold : ∀ k, k < W0.heap.size → W1.heap[k]? = W0.heap[k]? := fun k hk => by
    rw [← hW1]; exact (Below.heap_alloc _ _ k (by simp; omega)).trans (Below.heap_alloc _ _ k hk)
  have hb1 : Below w.heap.size w W1 := by rw [← hW1]; exact (hb0.alloc hb0.size _).alloc (by have := hb0.size; simp; omega) _
  have hs1 : W1.heap.size = W0.heap.size + 2 := by rw [← hW1]; simp
  have hM : AnyZI.ApAt ρ w fn (.func (.func g) #[] lb) w.heap.size (W0.heap.size + 1) W0.heap.size [] W1 :=
    ⟨⟨_, (hold w.heap.size (by omega)).trans hv0, ⟨rfl, .inl ⟨rfl, rfl⟩⟩, by simp⟩,
     by rw [← hW1]; have := World.alloc_heap_new (W0.alloc (.deferred (some []))) (.loop (AnyZI.apRec ρ fn (.func (.func g) #[] lb) w.heap.size W0.heap.size .ready none)); rwa [World.size_alloc] at this,
     by rw [← hW1]; exact (Below.heap_alloc _ _ _ (by simp)).trans (World.alloc_heap_new W0 _), hb1⟩
  refine ⟨W0.heap.size + 1, [{ target := .collected W0.heap.size, args := #[] }], W1, { target := .fn (.func g) lb, args := #[.func (.yield (W0.heap.size + 1)) #[] #[]] }, W1, g,
    #[.func (.yield (W0.heap.size + 1)) #[] #[]] ++ lb, W1, ?_, ?_, ?_, ?_, fun _ => h1, ?_⟩
  · rw [← hW1]; exact run_enterLoop_outer _ _ _ _ _
  · simp [resolve, go_sem]
  · intro f' hf'; simp [Target.leads] at hf'; subst hf'; exact hFg
  · simp [invoke, go_sem, eg]
  · refine (hseq (W0.heap.size + 1) (AnyZI.ApAt ρ w fn (.func (.func g) #[] lb) w.heap.size (W0.heap.size + 1) W0.heap.size) W1 (hw.trans (hb1.mono hw.size)) (AnyZI.ap_abides ρ _ _ _ _ _ _ _ hb1.size)
      (fun s W2 h2 => hw.trans (h2.below.mono hw.size))
      (fun pre x W hJ hl => AnyZI.apYield { L with } F (n - 1 - 1) w fn hfn _ w.heap.size (W0.heap.size + 1) W0.heap.size (by omega) (by omega) (by omega) (Nat.le_refl _) (by omega) N hN hNb pre x W hJ hl) hM).mono ?_
    rintro e W2 ⟨⟨v0, rfl⟩, ss, hS, h2⟩
    obtain ⟨v, hv, hrow, hnil⟩ := h2.box
    have hend := run_endLoop (P:=P) h2.L (by simp [AnyZI.apRec])
    obtain ⟨W3, hW3⟩ : ∃ W3, W2.putObj (W0.heap.size + 1) (.loop { AnyZI.apRec ρ fn (.func (.func g) #[] lb) w.heap.size W0.heap.size .ready none with state := .exhausted }) = W3 := ⟨_, rfl⟩
    rw [hW3] at hend
    have hg3 : W2.grownBy W3 (some (W0.heap.size + 1)) := by rw [← hW3]; exact grownBy_putObj_a _ _ _
    have hv3 : W3.heap[w.heap.size]? = some (.cells #[v] (ρ.t 24) (0, 0)) := by rw [← hW3]; exact (World.putObj_heap_other (by omega)).trans hv
    have hK3 : W3.heap[W0.heap.size]? = some (.deferred (some [])) := by rw [← hW3]; exact (World.putObj_heap_other (by omega)).trans h2.K
    have hrow3 := hrow.kept hg3 (ownsRow_ne_a hrow h2.L (fun cur e => by first | cases e | exact hne (Obj.cells.inj e).2.1))
    have hb3 : Below w.heap.size w W3 := h2.below.grown hg3 h2.below.size (fun k e => by cases e; omega)
    obtain ⟨hc3, hf3⟩ := cell_of_box_a hv3
    clear hW3
    refine ⟨none, W3, hend, ?_⟩
    gi_wp2
    rw [← hs0]
    refine ⟨by simp, .inl ⟨_, _, rfl, run_takeDeferred hK3, ?_⟩⟩
    exact ⟨_, results_tmp rfl _ _ _, v, ss, rfl, hS, hrow3.kept (grownBy_putObj_a _ _ _) (ownsRow_ne_a hrow3 hK3 (fun cur e => by first | cases e | exact hne (Obj.cells.inj e).2.1)), hnil, hb3.grown (grownBy_putObj_a _ _ _) hb3.size (fun k e => by cases e; omega)⟩
end
theorem soCollect.calls (F : Fence) (n : Nat) (h90 : F.fn 90) (h91 : F.fn 91) (h94 : F.fn 94) (hro : F.round = none) (hn : 4 ≤ n) (Bs cap : Nat) (A : Option Addr) (zs : List Int) (hcap : zs.length ≤ cap) (hN : zs.length ≤ maxLen) (hNb : zs.length * 8 ≤ 140737488355328)
    (w : World) (hBs : Bs < w.heap.size) (hc : w.cell? ⟨Bs, 0, none⟩ = some (.slice A zs.length cap)) (hC : Kd.C wkI w A zs.length zs) :
    CallsIn F n Try.prog 90 #[.func (.func 91) #[] #[.pointer (some ⟨Bs, 0, none⟩)]] w fun e w' => ∃ v, e = .returned v ∧ w'.ownsRow w.heap.size 3 1 v zs.length (zs.map encZ) ∧ Below w.heap.size w w' := by
  have h1 : 1 ≤ n := by omega
  have e91 : ∀ args w, (callFunc 91 args).run Try.prog w = .ok (.enter 91 args) w := enters_of Try.func91 (by kernel_rfl) rfl
  have cA : CallsIn F (n - 1) Try.prog 94 #[.slice none 0 0, .func (.func 91) #[] #[.pointer (some ⟨Bs, 0, none⟩)]] w fun e w' => ∃ v, e = .returned v ∧ w'.ownsRow w.heap.size 3 1 v zs.length (zs.map encZ) ∧ Below w.heap.size w w' := by
    refine (soAppend.gives (ρ:=Try.lays83_ren) { Try.lays83 with } F (n - 1) h94 hro (by omega) 91 _ h91 e91 (fun ss => ss = zs) zs.length hN hNb w w (Below.refl _ _) (soValues.gives F (n - 1 - 1) h91 hro (by omega) Bs cap A zs hcap w hBs hc hC)).mono ?_
    rintro e w' ⟨v, ss, rfl, rfl, h, -, hb⟩
    exact ⟨v, rfl, h, hb⟩
  clear hc hC
  refine callsIn_of_wp Try.func90 rfl h90 ?_ hro
  simp only [Try.ntmps90, List.size_toArray, zLc, zLn, Nat.reduceAdd, Nat.reduceSub, Array.replicate_succ, Array.replicate_zero, List.push_toArray, List.append_toArray, List.nil_append, List.cons_append]
  gi_wp2_with (gi_at_call 94; refine cA.mono ?_; rintro e w' ⟨v, rfl, hrow, hb⟩)
  go_ret
  exact ⟨v, rfl, hrow, hb⟩
theorem soSorted.calls (Bs cap : Nat) (A : Option Addr) (zs : List Int) (hcap : zs.length ≤ cap) (hN : zs.length ≤ maxLen) (hNb : zs.length * 8 ≤ 140737488355328)
    (w : World) (hBs : Bs < w.heap.size) (hc : w.cell? ⟨Bs, 0, none⟩ = some (.slice A zs.length cap)) (hC : Kd.C wkI w A zs.length zs) :
    Calls Try.prog 83 #[.func (.func 91) #[] #[.pointer (some ⟨Bs, 0, none⟩)]] w fun e w' => ∃ v, e = .returned v ∧ Kd.R wkI 3 w' w.heap.size (fun _ => True) v (wkSorted zs) ∧ Below w.heap.size w w' := by
  rw [← wkSorted_eq]
  have cC := (callsIn_wide (n:=6)).1 (soCollect.calls Fence.wide 6 trivial trivial trivial rfl (by omega) Bs cap A zs hcap hN hNb w hBs hc hC)
  clear hc hC
  go_enter Try.func83, Try.ntmps83
  go_wp2_with (go_at_call 90; refine cC.mono ?_; rintro e W ⟨v, rfl, hrow, hb⟩)
  have hlen : (zs.mergeSort (fun x y => decide (x ≤ y))).length = zs.length := List.length_mergeSort zs
  rcases hrow.2 with ⟨rfl, hz⟩ | ⟨gb, c1, cur, rfl, hbase, hgb, r1, r2, r3, r4⟩
  · have hss : zs = [] := List.eq_nil_of_length_eq_zero hz
    subst hss
    go_wp2_with (go_at_call 29; refine (Try.slices_Sort_int_none none 0 W).mono ?_; rintro e w' ⟨rfl, rfl⟩)
    go_ret
    exact ⟨_, rfl, (List.mergeSort_nil (r:=fun x y : Int => decide (x ≤ y))).symm ▸ Kd.R_nil wkI 3 _ _ _, hb⟩
  · have hH : Holds encZ W gb 0 zs.toArray := holds_of_block_i hgb (by simpa using r4)
    have hgl : gb < W.heap.size := (Array.getElem?_eq_some_iff.1 hgb).1
    have cS := Try.slices_Sort_int gb 0 c1 zs W hH hgl (by omega)
    go_wp2_with (go_at_call 29; refine cS.mono ?_; rintro e w' ⟨rfl, nn, os, rfl⟩)
    go_ret
    refine ⟨_, rfl, ?_, hb.grown (grownBy_sorted_i _) hb.size (fun j hj => by cases hj; exact hbase)⟩
    have ho := ownsRow_sorted_i (w:=W) (n:=nn) (os:=os) hlen hbase hgb r1 r2 r3
    refine Kd.R_of_own (enc:=Value.int .i64) (h1:=fun _ => rfl) (by rw [hlen]; exact ho) (fun _ _ => trivial)
end
theorem WkW.fedges {w0 wn W : World} {gw : Nat} {vn : Value} {V : WkV} {s : Wk} {vE : Value} {es : List Int} (h : WkW w0 wn W gw vn V s) (hE : Kd.R wkI 3 W w0.heap.size (fun _ => True) vE es) (ho : vE.ownBlock = V.vE.ownBlock) : WkW w0 wn (W.setCell ⟨gw, 4, none⟩ vE) gw vn { V with vE := vE } { s with edges := es } :=
 { h with hK := h.hK.set h.hw (by decide) _ _, hBl := below_set h.hBl h.hgw, hw := blk_put (cs:=wkCells vn V s.clock) h.hw 4 _ rfl, h1 := Kd.R_set h.h1 h.hw (by decide) _ _, h2 := Kd.R_set h.h2 h.hw (by decide) _ _, h3 := Kd.R_set h.h3 h.hw (by decide) _ _, hE := Kd.R_set hE h.hw (by decide) _ _, h5 := Kd.R_set h.h5 h.hw (by decide) _ _, h6 := Kd.R_set h.h6 h.hw (by decide) _ _, hB := Kd.S_mono (Kd.S_set h.hB h.hw (by decide) _ _) (fun k hk => ⟨hk.1, hk.2.1, hk.2.2.1, by show some k ≠ vE.ownBlock; rw [ho]; exact hk.2.2.2⟩), hS := Kd.R_set h.hS h.hw (by decide) _ _, dE1 := fun k hk => h.dE1 k (ho ▸ hk), dE2 := fun k hk => h.dE2 k (ho ▸ hk), dE3 := fun k hk => h.dE3 k (ho ▸ hk) }
theorem WkW.gblocks {w0 wn W W1 : World} {gw : Nat} {vn : Value} {V : WkV} {s : Wk} (h : WkW w0 wn W gw vn V s) (hb : Below w0.heap.size w0 W1) (hg : W.grownBy W1 V.vB.ownBlock) {vB : Value} {bs : List (List Int)}
  (hB : Kd.S (Kd.slice 3 wkI) 33 W1 w0.heap.size (fun k => some k ≠ V.v1.ownBlock ∧ some k ≠ V.v2.ownBlock ∧ some k ≠ V.v3.ownBlock ∧ some k ≠ V.vE.ownBlock) vB bs) : WkW w0 wn (W1.setCell ⟨gw, 7, none⟩ vB) gw vn { V with vB := vB } { s with blocks := bs } := by
 have ty := Kd.S_typed h.hB
 have hw1 := blk_grown h.hw hg (Kd.S_ne h.hB h.hw (by decide))
 exact { h with hK := (h.hK.grown ty (by decide) hg).set hw1 (by decide) _ _, hBl := below_set hb h.hgw, hw := blk_put (cs:=wkCells vn V s.clock) hw1 7 _ rfl, h1 := Kd.R_set (Kd.R_over' h.h1 ty (by decide) hg) hw1 (by decide) _ _, h2 := Kd.R_set (Kd.R_over' h.h2 ty (by decide) hg) hw1 (by decide) _ _, h3 := Kd.R_set (Kd.R_over' h.h3 ty (by decide) hg) hw1 (by decide) _ _, hE := Kd.R_set (Kd.R_over' h.hE ty (by decide) hg) hw1 (by decide) _ _, h5 := Kd.R_set (Kd.R_over' h.h5 ty (by decide) hg) hw1 (by decide) _ _, h6 := Kd.R_set (Kd.R_over' h.h6 ty (by decide) hg) hw1 (by decide) _ _, hB := Kd.S_set hB hw1 (by decide) _ _, hS := Kd.R_set (Kd.R_over' h.hS ty (by decide) hg) hw1 (by decide) _ _ }
theorem soVals.calls (A : Option Addr) (n c : Nat) (w : World) :
  Calls Try.prog 84 #[.slice A n c] w fun e w' => e = .returned (.func (.func 91) #[] #[.pointer (some ⟨w.heap.size, 0, none⟩)]) ∧ w' = w.alloc (.cells #[.slice A n c] 33) := by
 go_enter Try.func84, Try.ntmps84
 go_wp2
 go_ret
 exact ⟨rfl, rfl⟩
def wkOff (s : Wk) (x : Int) : Option Wk :=
 if 0 ≤ Lib.idxOf s.edges x ∧ Lib.idxOf s.edges x < (s.edges.length : Int) ∧ s.edges.length ≤ 17592186044416 ∧ s.blocks.length < 5864062014805 then
  some { s with edges := s.edges.take (Lib.idxOf s.edges x).toNat, blocks := s.blocks ++ [wkSorted (s.edges.drop (Lib.idxOf s.edges x).toNat)] }
 else none
theorem wkOff.calls (w0 wn w : World) (gw : Nat) (vn : Value) (V : WkV) (s s' : Wk) (x : Int) (h : WkW w0 wn w gw vn V s) (he : wkOff s x = some s') :
  Calls Try.prog 71 #[.pointer (some ⟨gw, 0, none⟩), .int .i64 x] w fun e W' => e = .returned (.tuple #[]) ∧ Below w0.heap.size w0 W' ∧ ∃ V', WkW w0 wn W' gw vn V' s' := by
 have hu55 := Try.underlying55
 have HW := zMk h
 unfold wkOff at he
 by_cases hc : 0 ≤ Lib.idxOf s.edges x ∧ Lib.idxOf s.edges x < (s.edges.length : Int) ∧ s.edges.length ≤ 17592186044416 ∧ s.blocks.length < 5864062014805
 rotate_left
 ·rw [if_neg hc] at he; cases he
 rw [if_pos hc] at he
 obtain rfl := zOi he
 clear he
 obtain ⟨c0, c1, c2, c3⟩ := hc
 obtain ⟨k, hk⟩ : ∃ k : Nat, Lib.idxOf s.edges x = (k : Int) := ⟨(Lib.idxOf s.edges x).toNat, by omega⟩
 rw [hk] at c0 c1 ⊢
 rw [zTn]
 obtain ⟨gE, cE, eE, -, -, -⟩ := Kd.R_form HW.out.hE (by omega)
 have EE := zMk eE
 have hE := HW.out.hE
 rw [eE] at hE
 obtain ⟨-, hcE, hCE⟩ := zRr hE
 have hml : s.edges.length ≤ 9223372036854775807 := Kd.C_max hCE
 have HCE := zMk hCE
 have hIx := Try.slices_Index_int gE 0 s.edges.length cE s.edges x w (Nat.le_refl _) hml (fun j hj => by
  obtain ⟨hx, -⟩ := Kd.R_celln (0 : Int) hE (j : Int) (by omega) (by omega)
  rw [zTn] at hx
  rw [Nat.zero_add]
  exact hx)
 rw [List.take_length, hk] at hIx
 have HIX := zMk hIx
 have C3 := zMk c3
 have C2 := zMk c2
 clear hE hCE hIx hk eE c3 h
 have z4 : w.cell? ⟨gw, 4, none⟩ = some (.slice (some ⟨gE, 0, none⟩) s.edges.length cE) := (zKc HW.out.hw 4).trans (congrArg some EE.out)
 go_enter Try.func71, Try.ntmps71
 go_upto_region 1 with (go_at_call 82; refine HIX.out.mono ?_; rintro e w' ⟨rfl, rfl⟩)
 have k1 : (0 ≤ (k : Int)) = True := eq_true (by omega)
 have k2 : ((k : Int) ≤ (s.edges.length : Int)) = True := eq_true (by omega)
 have k3 : (k ≤ s.edges.length) = True := eq_true (by omega)
 have k4 : (s.edges.length ≤ cE) = True := eq_true hcE
 have k5 : (cE = k) = False := eq_false (by omega)
 have k6 : (k ≤ cE) = True := eq_true (by omega)
 have hld : (s.edges.drop k).length = s.edges.length - k := zLd
 have HCD := zMk (show Kd.C wkI (w'.alloc (.cells #[.slice (some ⟨gE, k, none⟩) (s.edges.length - k) (cE - k)] 33)) (some ⟨gE, k, none⟩) (s.edges.drop k).length (s.edges.drop k) from by
  have h1 := Kd.C_drop (m:=k) (c:=cE) HCE.out (by omega) hcE
  rw [if_neg (by omega)] at h1
  have h2 : (Option.map (fun x : Addr => x.add (k * wkI.sz)) (some ⟨gE, 0, none⟩)) = some ⟨gE, k, none⟩ := by
   show some (Addr.add ⟨gE, 0, none⟩ (k * 1)) = _
   rw [Nat.mul_one]
   simp [Addr.add]
   first | omega | (intro h; exact h.symm)
  rw [h2] at h1
  exact zCa h1 _)
 have hmx : 17592186044416 ≤ maxLen := by decide
 have cS := soSorted.calls w'.heap.size (cE - k) (some ⟨gE, k, none⟩) (s.edges.drop k) (by omega) (by omega) (by omega) (w'.alloc (.cells #[.slice (some ⟨gE, k, none⟩) (s.edges.length - k) (cE - k)] 33)) (by simp) (by
  rw [hld]
  exact zKc (World.alloc_heap_new _ _) 0) HCD.out
 have CS := zMk cS
 clear cS hld hmx
 go_upto_region 2 with (first | (go_at_call 84; refine (soVals.calls _ _ _ w').mono ?_; rintro e w1 ⟨rfl, rfl⟩) | (go_at_call 83; refine CS.out.mono ?_; rintro e w2 ⟨vb, rfl, hrb, hb2⟩; have HRB := zMk hrb; have HB2 := zMk hb2; clear hrb hb2))
 obtain ⟨Ab, cb, eb⟩ := zRs HRB.out
 generalize (wkSorted (s.edges.drop k)).length = nb at eb
 subst eb
 have BLa := zMk (zBa (Below.refl w'.heap.size w') (.cells #[.slice (some ⟨gE, k, none⟩) (s.edges.length - k) (cE - k)] 33))
 have HB3 := zMk (zBt BLa.out HB2.out)
 have HW2 := zMk (HW.out.below HB3.out)
 have hold : w'.heap.size ≤ (w'.alloc (.cells #[.slice (some ⟨gE, k, none⟩) (s.edges.length - k) (cE - k)] 33)).heap.size := zBs BLa.out
 have HNEW := zMk (show ∀ k_, (.slice Ab nb cb : Value).ownBlock = some k_ → w'.heap.size ≤ k_ from fun k_ hk_ => Nat.le_trans hold (zRz HRB.out k_ hk_))
 have HSB := zMk (Kd.S_mono (Kd.S_elder' HW.out.hB (v:=.slice Ab nb cb) HNEW.out HB3.out) (fun _ hk => hk))
 have HN1 := zMk (show ∀ k_, some k_ = (.slice Ab nb cb : Value).ownBlock → some k_ ≠ V.v1.ownBlock ∧ some k_ ≠ V.v2.ownBlock ∧ some k_ ≠ V.v3.ownBlock ∧ some k_ ≠ V.vE.ownBlock from fun k_ hk_ => by
  have hge := HNEW.out k_ hk_.symm
  exact ⟨fun e => absurd (zRt HW.out.h1 k_ e.symm) (by omega), fun e => absurd (zRt HW.out.h2 k_ e.symm) (by omega), fun e => absurd (zRt HW.out.h3 k_ e.symm) (by omega), fun e => absurd (zRt HW.out.hE k_ e.symm) (by omega)⟩)
 have HNB := zMk (show ∀ k_, some k_ = (.slice Ab nb cb : Value).ownBlock → some k_ ≠ V.vB.ownBlock from fun k_ hk_ e => absurd (Kd.S_lt HW.out.hB k_ e.symm) (by have := HNEW.out k_ hk_.symm; omega))
 clear CS HCD HCE HIX hold BLa HB2 z4
 have HRL := zMk (Kd.R_tight rfl (zRl HRB.out (show w0.heap.size ≤ (w'.alloc (.cells #[.slice (some ⟨gE, k, none⟩) (s.edges.length - k) (cE - k)] 33)).heap.size from Nat.le_trans (zBs HW.out.hBl) (by simp))))
 clear HRB HW HB3 HNEW
 have z4 : w2.cell? ⟨gw, 4, none⟩ = some (.slice (some ⟨gE, 0, none⟩) s.edges.length cE) := (zKc HW2.out.hw 4).trans (congrArg some EE.out)
 have f4 := zKf HW2.out.hw 4
 go_upto_region 3 with (fail)
 have HW3 := zMk (HW2.out.fedges (vE:=.slice (some ⟨gE, 0, none⟩) k cE) (es:=s.edges.take k) (by
  have h3 := HW2.out.hE
  rw [EE.out] at h3
  exact Kd.R_take h3 (by omega)) (by rw [EE.out]; rfl))
 have OE := zMk (show (Value.slice (some ⟨gE, 0, none⟩) k cE).ownBlock = V.vE.ownBlock by rw [EE.out]; rfl)
 have HSB3 := zMk (Kd.S_set HSB.out HW2.out.hw (by decide) 4 (.slice (some ⟨gE, 0, none⟩) k cE))
 have HRL3 := zMk (Kd.R_set HRL.out HW2.out.hw (by decide) 4 (.slice (some ⟨gE, 0, none⟩) k cE))
 clear HSB HRL HW2 z4 f4
 generalize w2.setCell ⟨gw, 4, none⟩ (.slice (some ⟨gE, 0, none⟩) k cE) = w3 at HW3 HSB3 HRL3 ⊢
 have z7 : w3.cell? ⟨gw, 7, none⟩ = some V.vB := (zKc HW3.out.hw 7).trans rfl
 obtain ⟨AB, cB, eB⟩ := Kd.S_slice HSB3.out
 rw [eB] at z7
 have EB := zMk eB
 clear eB
 go_wp2_with ((with_reducible refine gate_builtin (b:=.append) (xs:=#[.tmp 33, .tmp 35]) rfl ?_); at_builtin; refine Kd.S_append (Kd.slice 3 wkI) (w0:=w0) w0.heap.size rfl (.tmp 33) (.tmp 35) 29 33 (.slice none 0 0) 24 rfl Try.underlying29 info33 rfl (by decide) (by omega) V.vB s.blocks (wkSorted (s.edges.drop k)) [.slice Ab nb cb] (fun k_ => some k_ ≠ V.v1.ownBlock ∧ some k_ ≠ V.v2.ownBlock ∧ some k_ ≠ V.v3.ownBlock ∧ some k_ ≠ V.vE.ownBlock) (fun k_ => some k_ = (.slice Ab nb cb : Value).ownBlock) EB.out.symm rfl ?aP (fun k_ hk_ => ⟨HN1.out k_ hk_, HNB.out k_ hk_⟩) ?aF ?aO ?aB ?aS ?aL ?_; (case aP => exact Kd.M_row (zRm (Kd.R_tight rfl HRL3.out) (fun _ h_ => h_))); (case aB => exact HW3.out.hBl); (case aF => exact fun k_ hk_ => ⟨fun e => absurd (zRt HW3.out.h1 k_ e.symm) (by omega), fun e => absurd (zRt HW3.out.h2 k_ e.symm) (by omega), fun e => absurd (zRt HW3.out.h3 k_ e.symm) (by omega), fun e => absurd (zRt HW3.out.hE k_ (OE.out.trans e.symm)) (by omega)⟩); (case aO => exact Kd.S_mono HSB3.out (fun k_ hk => ⟨hk.1, fun e_ => hk.2 e_⟩)); (case aS => exact zBs HW3.out.hBl); (case aL => have := C3.out; omega); intro vN w7 ho hb hg hat; have RN := zMk ho; have HB7 := zMk hb; have HG7 := zMk hg; obtain ⟨AN, cN, eN⟩ := Kd.S_slice ho; generalize (s.blocks ++ [wkSorted (s.edges.drop k)]).length = nN at eN; subst eN; clear ho hb hg hat; have f7 := zKf (blk_grown HW3.out.hw HG7.out (Kd.S_ne HW3.out.hB HW3.out.hw (by decide))) 7; have z7 : w7.cell? ⟨gw, 7, none⟩ = some V.vB := (zKc (blk_grown HW3.out.hw HG7.out (Kd.S_ne HW3.out.hB HW3.out.hw (by decide))) 7).trans rfl)
 first | go_end0 | ((try simp only [Exit.inBlock, Exit.then]); refine bodyPost_ret (results_none rfl _ _ _) rfl ?_)
 have HF := HW3.out.gblocks HB7.out HG7.out (Kd.S_mono RN.out (fun k_ hk => ⟨hk.1, hk.2.1, hk.2.2.1, by show some k_ ≠ (Value.slice (some ⟨gE, 0, none⟩) k cE).ownBlock; rw [OE.out]; exact hk.2.2.2⟩))
 exact ⟨rfl, HF.hBl, _, HF⟩
section
open Go.Shelf
def wkMore (near : List (List S51)) (s : Wk) (p : Int) : Option Bool :=
 if 0 ≤ p ∧ p < (s.next.length : Int) ∧ p < (near.length : Int) ∧ 0 ≤ rd s.next p ∧ rd s.next p < ((rd_L3 near p).length : Int) ∧ ((rd_L3 near p).all fun a => decide (0 ≤ a.f1 ∧ a.f1 < (s.taken.length : Int))) = true then
  some (((rd_L3 near p).drop (rd s.next p).toNat).any fun a => !rdOf false s.taken a.f1)
 else none
def encArc (a : S51) : List Value := [.int .i64 a.f0, .int .i64 a.f1]
abbrev ArcIn (n : Nat) : Type := { a : S51 // 0 ≤ a.f1 ∧ a.f1 < (n : Int) }
theorem wkMore.pred (w0 wn w : World) (gw Bx : Nat) (vn : Value) (V : WkV) (s : Wk) (h : WkW w0 wn w gw vn V s) (hB : Bx < w.heap.size) (hb : w.cell? ⟨Bx, 0, none⟩ = some (.pointer (some ⟨gw, 0, none⟩))) :
  PredBelow Try.prog 86 #[.pointer (some ⟨Bx, 0, none⟩)] (fun x : ArcIn s.taken.length => .agg (encArc x.1).toArray) (fun x => !rdOf false s.taken x.1.f1) w := fun W x hbl => by
 have hu55 := Try.underlying55
 have hu51 := Try.underlying51
 obtain ⟨a, ha0, ha1⟩ := x
 have HW := zMk h
 have hcb := (hbl.cell (p:=⟨Bx, 0, none⟩) hB).trans hb
 obtain ⟨g5, c5, e5, -, -, -⟩ := Kd.R_form HW.out.h5 (by omega)
 have h5 := HW.out.h5
 rw [e5] at h5
 obtain ⟨hx, -⟩ := Kd.R_celln false h5 a.f1 ha0 ha1
 have z5 : w.cell? ⟨gw, 5, none⟩ = some (.slice (some ⟨g5, 0, none⟩) s.taken.length c5) := (zKc HW.out.hw 5).trans (congrArg some e5)
 have z5' := (hbl.cell (World.block_lt_of_cell? w _ z5)).trans z5
 have zx' : W.cell? ⟨g5, a.f1.toNat, none⟩ = some (.bool (rdOf false s.taken a.f1)) := (hbl.cell (World.block_lt_of_cell? w _ hx)).trans hx
 have lB := World.block_lt_of_cell? W _ hcb
 have l5 := World.block_lt_of_cell? W _ z5'
 have lx := World.block_lt_of_cell? W _ zx'
 have HBL := zMk hbl
 clear hx z5 h5 hbl hb h
 show Calls Try.prog 86 #[.agg #[.int .i64 a.f0, .int .i64 a.f1], .pointer (some ⟨Bx, 0, none⟩)] W fun e w' => e = .returned (.bool (!rdOf false s.taken a.f1)) ∧ Below w.heap.size w w'
 generalize rdOf false s.taken a.f1 = bt at zx' ⊢
 go_enter Try.func86, Try.ntmps86
 go_upto_region 1 with (fail)
 have HB1 := zMk (zBa (Below.refl W.heap.size W) (.cells #[.int .i64 a.f0, .int .i64 a.f1] 51))
 have y0 := (HB1.out.cell lB).trans hcb
 have y5 := (HB1.out.cell l5).trans z5'
 have yx := (HB1.out.cell lx).trans zx'
 have ya := zKc (World.alloc_heap_new W (.cells #[.int .i64 a.f0, .int .i64 a.f1] 51)) 1
 clear hcb z5' zx' lB l5 lx
 generalize W.alloc (.cells #[.int .i64 a.f0, .int .i64 a.f1] 51) = w1 at HB1 y0 y5 yx ya ⊢
 have HB2 := zMk (zBd HB1.out)
 have x0 : w1.drew.cell? ⟨Bx, 0, none⟩ = some (.pointer (some ⟨gw, 0, none⟩)) := y0
 have x5 : w1.drew.cell? ⟨gw, 5, none⟩ = some (.slice (some ⟨g5, 0, none⟩) s.taken.length c5) := y5
 have xx : w1.drew.cell? ⟨g5, a.f1.toNat, none⟩ = some (.bool bt) := yx
 have xa : w1.drew.cell? ⟨W.heap.size, 1, none⟩ = some (.int .i64 a.f1) := ya
 have p1 : (0 ≤ a.f1) = True := eq_true ha0
 have p2 : (a.f1 < (s.taken.length : Int)) = True := eq_true ha1
 clear y0 y5 yx ya HB1
 refine wp_region_still_tail 9 (by kernel_rfl) (by kernel_rfl) ?_
 generalize hw2 : w1.drew = w2 at x0 x5 xx xa HB2
 show wpStill _ _ w1.drew (fun a' => wpList _ _ _ _ a' w1.drew) _ _
 rw [hw2]
 clear hw2
 simp only [List.take_succ_cons, List.take_zero, List.drop_succ_cons, List.drop_zero]
 repeat still_step
 refine wpStill_nil ?_
 go_wp2
 go_ret
 exact ⟨rfl, zBt HBL.out HB2.out⟩
theorem arcs_in (n : Nat) (L : List S51) (h : ∀ a, a ∈ L → 0 ≤ a.f1 ∧ a.f1 < (n : Int)) : ∃ zs : List (ArcIn n), zs.map (fun z => z.1) = L := ⟨L.attach.map (fun a => ⟨a.1, h a.1 a.2⟩), by simp⟩
theorem spot_none {w : World} {ad : Addr} {u : Value} (h : w.cell? ad = some u) : ad.spot = none := by
 obtain ⟨b, o, sp⟩ := ad
 cases sp with
 | none => rfl
 | some q =>
  unfold World.cell? at h
  split at h
  ·simp at h
  ·cases h
theorem add_none (g o m : Nat) : (⟨g, o, none⟩ : Addr).add m = ⟨g, o + m, none⟩ := by
 unfold Addr.add
 split
 ·subst_vars; rfl
 ·rfl
theorem wkMore.calls (near : List (List S51)) (w0 wn w : World) (gw : Nat) (An : Option Addr) (cn : Nat) (V : WkV) (s : Wk) (x : Int) (b : Bool)
  (nb : Nat) (okn : Nat → Prop) (hn : Kd.S (Kd.slice 51 k51) 49 wn nb okn (.slice An near.length cn) near) (h : WkW w0 wn w gw (.slice An near.length cn) V s) (he : wkMore near s x = some b) :
  Calls Try.prog 72 #[.pointer (some ⟨gw, 0, none⟩), .int .i64 x] w fun e w' => e = .returned (.bool b) ∧ Below w.heap.size w w' := by
 have hu55 := Try.underlying55
 have HW := zMk h
 unfold wkMore at he
 by_cases hc : 0 ≤ x ∧ x < (s.next.length : Int) ∧ x < (near.length : Int) ∧ 0 ≤ rd s.next x ∧ rd s.next x < ((rd_L3 near x).length : Int) ∧ ((rd_L3 near x).all fun a => decide (0 ≤ a.f1 ∧ a.f1 < (s.taken.length : Int))) = true
 rotate_left
 ·rw [if_neg hc] at he; cases he
 rw [if_pos hc] at he
 have hbv := zOi he
 clear he
 obtain ⟨c0, c1, c2, c3, c4, c5⟩ := hc
 obtain ⟨adn, Ai, ci, ea, hcl, hci, hCI⟩ := at_L3 (HW.out.near hn) x c0 c2
 cases ea
 obtain ⟨L, hL⟩ : ∃ L, L = rd_L3 near x := ⟨_, rfl⟩
 rw [← hL] at hcl hci hCI c4 c5 hbv
 obtain ⟨k, hk⟩ : ∃ k : Nat, rd s.next x = (k : Int) := ⟨(rd s.next x).toNat, by omega⟩
 rw [hk, zTn] at hbv
 rw [hk] at c3 c4
 obtain ⟨aI, e0, hx0, -⟩ := at_T51 hCI 0 (by omega) (by omega)
 cases e0
 have hsp := spot_none hx0
 obtain ⟨gi, oi, sp⟩ := aI
 obtain rfl : sp = none := by simpa [Addr.add] using hsp
 have HCI := zMk hCI
 have hLm : L.length ≤ 9223372036854775807 := Kd.C_max hCI
 have HAL := zMk (show ∀ a, a ∈ L → 0 ≤ a.f1 ∧ a.f1 < (s.taken.length : Int) from fun a ha => of_decide_eq_true (List.all_eq_true.1 c5 a ha))
 obtain ⟨g3, cc3, e3, -, -, -⟩ := Kd.R_form HW.out.h3 (by omega)
 have h3 := HW.out.h3
 rw [e3] at h3
 obtain ⟨hx3, -⟩ := Kd.R_celln (0 : Int) h3 x c0 c1
 have z3 : w.cell? ⟨gw, 3, none⟩ = some (.slice (some ⟨g3, 0, none⟩) s.next.length cc3) := (zKc HW.out.hw 3).trans (congrArg some e3)
 have z0 : w.cell? ⟨gw, 0, none⟩ = some (.slice (some adn) near.length cn) := (zKc HW.out.hw 0).trans rfl
 have zn : w.cell? (adn.add x.toNat) = some (.slice (some ⟨gi, oi, none⟩) L.length ci) := hcl
 have zx : w.cell? ⟨g3, x.toNat, none⟩ = some (.int .i64 (k : Int)) := hx3.trans (congrArg (fun q => some (Value.int .i64 q)) hk)
 have HBV := zMk hbv
 clear hx0 hsp hcl hCI hL h3 hx3 hk c5 hbv e3 hn h
 have HL := zMk (show (k : Int) < (L.length : Int) from c4)
 have HB1 := zMk (zBa (Below.refl w.heap.size w) (.cells #[.pointer (some ⟨gw, 0, none⟩)] 56))
 have HW1 := zMk (HW.out.below HB1.out)
 have y3 := (HB1.out.cell (World.block_lt_of_cell? w _ z3)).trans z3
 have y0 := (HB1.out.cell (World.block_lt_of_cell? w _ z0)).trans z0
 have yn := (HB1.out.cell (World.block_lt_of_cell? w _ zn)).trans zn
 have yx := (HB1.out.cell (World.block_lt_of_cell? w _ zx)).trans zx
 have yb := zKc (World.alloc_heap_new w (.cells #[.pointer (some ⟨gw, 0, none⟩)] 56)) 0
 have lb : w.heap.size < (w.alloc (.cells #[.pointer (some ⟨gw, 0, none⟩)] 56)).heap.size := by simp
 have HLB := zMk lb
 clear z3 z0 zn zx lb
 go_enter Try.func72, Try.ntmps72
 go_upto_region 1 with (fail)
 generalize w.alloc (.cells #[.pointer (some ⟨gw, 0, none⟩)] 56) = w1 at HB1 HW1 y3 y0 yn yx yb HLB ⊢
 have HB2 := zMk (zBd HB1.out)
 have HW2 := zMk (HW1.out.below (zBd (Below.refl w1.heap.size w1)))
 have HLB2 := zMk (show w.heap.size < w1.drew.heap.size from HLB.out)
 have x3 : w1.drew.cell? ⟨g3, x.toNat, none⟩ = some (.int .i64 (k : Int)) := yx
 have x4 : w1.drew.cell? ⟨gw, 3, none⟩ = some (.slice (some ⟨g3, 0, none⟩) s.next.length cc3) := y3
 have x0 : w1.drew.cell? ⟨gw, 0, none⟩ = some (.slice (some adn) near.length cn) := y0
 have xn : w1.drew.cell? (adn.add x.toNat) = some (.slice (some ⟨gi, oi, none⟩) L.length ci) := yn
 have xb : w1.drew.cell? ⟨w.heap.size, 0, none⟩ = some (.pointer (some ⟨gw, 0, none⟩)) := yb
 have HXB := zMk xb
 clear HB1 HW1 y3 y0 yn yx yb HLB
 have p1 : (0 ≤ x) = True := eq_true c0
 have p2 : (x < (s.next.length : Int)) = True := eq_true c1
 have p3 : (x < (near.length : Int)) = True := eq_true c2
 have k1 : (0 ≤ (k : Int)) = True := eq_true (by omega)
 have k2 : ((k : Int) ≤ (L.length : Int)) = True := eq_true (by omega)
 have k3 : (k ≤ L.length) = True := eq_true (by omega)
 have k4 : (L.length ≤ ci) = True := eq_true hci
 have k5 : (ci = k) = False := eq_false (by omega)
 refine wp_region_still_tail 16 (by kernel_rfl) (by kernel_rfl) ?_
 generalize hw2 : w1.drew = w2 at x0 x3 x4 xn xb HXB HB2 HW2 HLB2
 show wpStill _ _ w1.drew (fun a' => wpList _ _ _ _ a' w1.drew) _ _
 rw [hw2]
 clear hw2
 simp only [List.take_succ_cons, List.take_zero, List.drop_succ_cons, List.drop_zero]
 repeat still_step
 refine wpStill_nil ?_
 obtain ⟨zs, hzs⟩ := arcs_in s.taken.length (L.drop k) (fun a ha => HAL.out a (List.mem_of_mem_drop ha))
 have hzl : zs.length = L.length - k := by rw [← zLd, ← hzs, List.length_map]
 haveI : Inhabited (ArcIn s.taken.length) := ⟨zs[0]'(by omega)⟩
 have hcell : ∀ j, j < zs.length → ∀ (i : Nat) (v : Value), (encArc (zs[j]!).1)[i]? = some v → w2.cell? ⟨gi, oi + k * 2 + j * 2 + i, none⟩ = some v := by
  intro j hj i v hv
  have hz1 : (zs[j]!).1 = rd_T51 L ((k + j : Nat) : Int) := by
   rw [getElem!_pos zs j hj]
   have h1 : (zs.map (fun z => z.1))[j]? = (L.drop k)[j]? := by rw [hzs]
   rw [List.getElem?_map, List.getElem?_eq_getElem hj, List.getElem?_drop] at h1
   show _ = L.getD ((k + j : Nat) : Int).toNat z51
   rw [zTn, List.getD_eq_getElem?_getD, ← h1]
   rfl
  rw [hz1] at hv
  obtain ⟨ad, e, h0, h1⟩ := at_T51 (Kd.C_below HCI.out HB2.out) ((k + j : Nat) : Int) (by omega) (by omega)
  cases e
  rw [zTn, add_none, Nat.add_mul, ← Nat.add_assoc] at h0 h1
  match i, hv with
  | 0, hv => obtain rfl := zOi hv; exact h0
  | 1, hv => obtain rfl := zOi hv; exact h1
  | i + 2, hv => simp [encArc] at hv
 have cC := AnyQ.slices_ContainsFunc Try.lays85 2 Try.isAgg51 Try.sizeOf51 (fun x : ArcIn s.taken.length => encArc x.1) (fun _ => rfl) (fun x => !rdOf false s.taken x.1.f1) 86 #[.pointer (some ⟨w.heap.size, 0, none⟩)] (enters_of Try.func86 (by kernel_rfl) rfl) gi (oi + k * 2) zs.length (ci - k) zs w2
  (wkMore.pred w0 wn w2 gw w.heap.size _ V s HW2.out HLB2.out HXB.out) (Nat.le_refl _) (by omega) (by
   have h1 := at_T51 (Kd.C_below HCI.out HB2.out) (k : Int) (by omega) (by omega)
   obtain ⟨ad, e, h0, -⟩ := h1
   cases e
   rw [zTn, add_none] at h0
   exact World.block_lt_of_cell? w2 _ h0) hcell
 change Calls Try.prog 85 _ _ _ at cC
 have hany : (zs.take zs.length).any (fun x => !rdOf false s.taken x.1.f1) = b := by
  rw [List.take_length, ← HBV.out, ← hzs, List.any_map]
  rfl
 rw [hany, hzl] at cC
 have CC := zMk cC
 clear cC hany hcell hzs
 go_wp2_with (go_at_call 85; refine CC.out.mono ?_; rintro e w3 ⟨rfl, hb3⟩; have HB3 := zMk hb3; clear hb3)
 go_ret
 exact ⟨rfl, zBt HB2.out HB3.out⟩
end
-- LEAVE
theorem wk_add (g n : Nat) : (⟨g, 0, none⟩ : Addr).add n = ⟨g, n, none⟩ := by
 unfold Addr.add
 split
 ·simp_all
 ·simp
def wkCut (more : Wk → Int → Option Bool) (near : List (List S51)) (p : Int) (s3 : Wk) : Option Wk :=
 (if 1 < s3.stack.length then some true else if p < (s3.next.length : Int) ∧ p < (near.length : Int) then (if rd s3.next p < ((rd_L3 near p).length : Int) then more s3 p else some false) else none).bind fun c =>
  if c = true then (if p < (s3.cut.length : Int) then some { s3 with cut := s3.cut.set p.toNat true } else none) else some s3
def wkTail (off : Wk → Int → Option Wk) (more : Wk → Int → Option Bool) (near : List (List S51)) (o p : Int) (f : S51) (s2 : Wk) : Option Wk :=
 if o ≤ rd s2.low f.f0 then (off s2 f.f1).bind (wkCut more near p) else some s2
def wkLeave (off : Wk → Int → Option Wk) (more : Wk → Int → Option Bool) (near : List (List S51)) (s : Wk) : Option Wk :=
 if s.stack.length = 0 then none
 else if s.stack.length = 1 then some { s with stack := s.stack.take 0 }
 else
  let m := s.stack.length - 1
  let f := rd_T51 s.stack (m : Int)
  let p := (rd_T51 s.stack ((m - 1 : Nat) : Int)).f0
  if 0 ≤ p ∧ p < (s.low.length : Int) ∧ p < (s.ord.length : Int) ∧ 0 ≤ f.f0 ∧ f.f0 < (s.low.length : Int) then
   wkTail off more near (rd s.ord p) p f { s with stack := s.stack.take m, low := s.low.set p.toNat (if rd s.low f.f0 < rd s.low p then rd s.low f.f0 else rd s.low p) }
  else none
theorem wkLeave.calls (off : Wk → Int → Option Wk) (more : Wk → Int → Option Bool) (near : List (List S51)) (w0 wn w : World) (gw : Nat) (An : Option Addr) (cn : Nat) (V : WkV) (s s' : Wk)
  (hoff : ∀ (W : World) (V : WkV) (s s' : Wk) (x : Int), WkW w0 wn W gw (.slice An near.length cn) V s → off s x = some s' → Calls Try.prog 71 #[.pointer (some ⟨gw, 0, none⟩), .int .i64 x] W fun e W' => e = .returned (.tuple #[]) ∧ Below w0.heap.size w0 W' ∧ ∃ V', WkW w0 wn W' gw (.slice An near.length cn) V' s')
  (hmore : ∀ (W : World) (V : WkV) (s : Wk) (x : Int) (b : Bool), WkW w0 wn W gw (.slice An near.length cn) V s → more s x = some b → Calls Try.prog 72 #[.pointer (some ⟨gw, 0, none⟩), .int .i64 x] W fun e W' => e = .returned (.bool b) ∧ Below W.heap.size W W')
  (nb : Nat) (okn : Nat → Prop) (hn : Kd.S (Kd.slice 51 k51) 49 wn nb okn (.slice An near.length cn) near) (h : WkW w0 wn w gw (.slice An near.length cn) V s) (he : wkLeave off more near s = some s') :
  Calls Try.prog 63 #[.pointer (some ⟨gw, 0, none⟩)] w fun e w' => e = .returned (.tuple #[]) ∧ ∃ V', WkW w0 wn w' gw (.slice An near.length cn) V' s' := by
 have hu55 := Try.underlying55
 have hu89 := Try.underlying89
 have HOFF := zMk hoff
 have HMORE := zMk hmore
 have HN := zMk hn
 have HW := zMk h
 have HE := zMk he
 clear hoff hmore hn h he
 obtain ⟨m, hm⟩ : ∃ m, s.stack.length = m + 1 := by
  have he := HE.out
  unfold wkLeave at he
  by_cases h0 : s.stack.length = 0
  ·rw [if_pos h0] at he; cases he
  ·exact ⟨s.stack.length - 1, by omega⟩
 have hs := HW.out.hS
 obtain ⟨gs, cS, eS, -, -, -⟩ := Kd.R_form hs (by omega)
 rw [hm] at eS
 have ES := zMk eS
 rw [eS] at hs
 have hlm := wk_len hs
 rw [hm] at hlm
 have hmx : maxLen ≤ 9223372036854775807 := by decide
 have HMX := zMk (show m + 1 ≤ 9223372036854775807 by omega)
 have hfx := at_T51 (by have hc := (zRr hs).2.2; rw [hm] at hc; exact hc) (m : Int) (by omega) (by omega)
 obtain ⟨ad, ea, hx0, hx1⟩ := hfx
 cases ea
 simp only [zTn] at hx0 hx1
 obtain ⟨f, hf⟩ : ∃ f, f = rd_T51 s.stack (m : Int) := ⟨_, rfl⟩
 rw [← hf] at hx0 hx1
 rw [wk_add] at hx0 hx1
 have X0 := zMk (show w.cell? ⟨gs, m * 2, none⟩ = some (.int .i64 f.f0) from hx0)
 have X1 := zMk (show w.cell? ⟨gs, m * 2 + 1, none⟩ = some (.int .i64 f.f1) from hx1)
 clear hx0 hx1
 have FF := zMk hf
 have HM := zMk hm
 have hcS : m + 1 ≤ cS := (zRr hs).2.1 |> (fun h => by omega)
 have qm : (m ≤ cS) = True := eq_true (by omega)
 have HCS := zMk hcS
 clear hf hm eS hlm hmx hs hcS
 go_enter Try.func63, Try.ntmps63
 go_upto_region 0 with (fail)
 have HWd := zMk (HW.out.below (zBd (Below.refl w.heap.size w)))
 have BL := zMk (zBd (Below.refl w.heap.size w))
 have p7 : (0 ≤ (m : Int)) = True := eq_true (by omega)
 have p8 : ((m : Int) < (m : Int) + 1) = True := eq_true (by omega)
 have hwj : IntKind.i64.wrap (m : Int) = (m : Int) := IntWalk.i64_in _ ⟨by omega, by have := HMX.out; omega⟩
 have hw64 : wrap64 (m : Int) = (m : Int) := by have := HMX.out; unfold wrap64; omega
 refine start_ (n:=14) (S:=fun w' => w'.cell? ⟨gw, 9, none⟩ = some (.slice (some ⟨gs, 0, none⟩) (m + 1) cS) ∧ w'.cell? ⟨gs, m * 2, none⟩ = some (.int .i64 f.f0) ∧ w'.cell? ⟨gs, m * 2 + 1, none⟩ = some (.int .i64 f.f1)) (ds:=[13]) #[false,false,false,false,false,false,false,false,false,false,false,false,false,false] (by kernel_rfl) rfl rfl ⟨(zKc HWd.out.hw 9).trans (congrArg some ES.out), (Below.cell BL.out (World.block_lt_of_cell? w _ X0.out)).trans X0.out, (Below.cell BL.out (World.block_lt_of_cell? w _ X1.out)).trans X1.out⟩ (fun hHeld => ?_)
 generalize w.drew = wd at HWd BL hHeld ⊢
 refine pure_ (i:=0) (N:=some 4) (v:=?_) (a' := ?_) #[true,false,false,false,false,false,false,false,false,false,false,false,false,false] rfl rfl (by kernel_rfl) (fun _ _ _ h => h) (Or.inl ⟨by rfl, ?_⟩) ?_ ?_
 rotate_left
 ·intro w'
  go_simp
  with_reducible rfl
 rotate_left
 ·simp only [Act.put, zSa, zSb, zSc, i64_w, i32_w]
  rfl
 refine pure_ (i:=1) (N:=some 5) (v:=?_) (a' := ?_) #[true,true,false,false,false,false,false,false,false,false,false,false,false,false] rfl rfl (by kernel_rfl) (fun _ _ _ h => h) (Or.inl ⟨by rfl, ?_⟩) ?_ ?_
 rotate_left
 ·intro w'
  go_simp
  with_reducible rfl
 rotate_left
 ·simp only [Act.put, zSa, zSb, zSc, i64_w, i32_w]
  rfl
 refine pure_ (i:=2) (N:=some 6) (v:=?_) (a' := ?_) #[true,true,true,false,false,false,false,false,false,false,false,false,false,false] rfl rfl (by kernel_rfl) (fun _ _ _ h => h) (Or.inl ⟨by rfl, ?_⟩) ?_ ?_
 rotate_left
 ·intro w'
  go_simp
  with_reducible rfl
 rotate_left
 ·simp only [Act.put, zSa, zSb, zSc, i64_w, i32_w]
  rfl
 refine pure_ (i:=4) (N:=some 8) (v:=?_) (a' := ?_) #[true,true,true,false,true,false,false,false,false,false,false,false,false,false] rfl rfl (by kernel_rfl) (fun _ _ _ h => h) (Or.inl ⟨by rfl, ?_⟩) ?_ ?_
 rotate_left
 ·intro w'
  go_simp
  with_reducible rfl
 rotate_left
 ·simp only [Act.put, zSa, zSb, zSc, i64_w, i32_w]
  rfl
 refine pure_ (i:=5) (N:=some 9) (v:=?_) (a' := ?_) #[true,true,true,false,true,true,false,false,false,false,false,false,false,false] rfl rfl (by kernel_rfl) (fun _ _ _ h => h) (Or.inl ⟨by rfl, ?_⟩) ?_ ?_
 rotate_left
 ·intro w'
  go_simp
  with_reducible rfl
 rotate_left
 ·simp only [Act.put, zSa, zSb, zSc, i64_w, i32_w]
  rfl
 refine pure_ (i:=6) (N:=some 10) (v:=?_) (a' := ?_) #[true,true,true,false,true,true,true,false,false,false,false,false,false,false] rfl rfl (by kernel_rfl) (fun _ _ _ h => h) (Or.inl ⟨by rfl, ?_⟩) ?_ ?_
 rotate_left
 ·intro w'
  go_simp
  with_reducible rfl
 rotate_left
 ·simp only [Act.put, zSa, zSb, zSc, i64_w, i32_w]
  rfl
 refine take_ (i:=3) (N:=some 7) (v:=?_) (a' := ?_) #[true,true,true,true,true,true,true,false,false,false,false,false,false,false] rfl rfl (by kernel_rfl) (fun _ _ _ h => h) (Or.inl ⟨by rfl, ?_⟩) hHeld ?_ ?_
 rotate_left
 ·rintro w' ⟨s0, s1, s2⟩
  go_simp
  with_reducible rfl
 rotate_left
 ·simp only [Act.put, zSa, zSb, zSc, i64_w, i32_w]
  rfl
 refine take_ (i:=7) (N:=some 11) (v:=?_) (a' := ?_) #[true,true,true,true,true,true,true,true,false,false,false,false,false,false] rfl rfl (by kernel_rfl) (fun _ _ _ h => h) (Or.inl ⟨by rfl, ?_⟩) hHeld ?_ ?_
 rotate_left
 ·rintro w' ⟨s0, s1, s2⟩
  go_simp
  with_reducible rfl
 rotate_left
 ·simp only [Act.put, zSa, zSb, zSc, i64_w, i32_w]
  rfl
 refine pure_ (i:=8) (N:=some 12) (v:=?_) (a' := ?_) #[true,true,true,true,true,true,true,true,true,false,false,false,false,false] rfl rfl (by kernel_rfl) (fun _ _ _ h => h) (Or.inl ⟨by rfl, ?_⟩) ?_ ?_
 rotate_left
 ·intro w'
  go_simp
  with_reducible rfl
 rotate_left
 ·simp only [Act.put, zSa, zSb, zSc, i64_w, i32_w]
  rfl
 refine pure_ (i:=9) (N:=some 13) (v:=?_) (a' := ?_) #[true,true,true,true,true,true,true,true,true,true,false,false,false,false] rfl rfl (by kernel_rfl) (fun _ _ _ h => h) (Or.inl ⟨by rfl, ?_⟩) ?_ ?_
 rotate_left
 ·intro w'
  go_simp
  with_reducible rfl
 rotate_left
 ·simp only [Act.put, zSa, zSb, zSc, i64_w, i32_w]
  rfl
 refine pure_ (i:=10) (N:=some 14) (v:=?_) (a' := ?_) #[true,true,true,true,true,true,true,true,true,true,true,false,false,false] rfl rfl (by kernel_rfl) (fun _ _ _ h => h) (Or.inl ⟨by rfl, ?_⟩) ?_ ?_
 rotate_left
 ·intro w'
  go_simp
  with_reducible rfl
 rotate_left
 ·simp only [Act.put, zSa, zSb, zSc, i64_w, i32_w]
  rfl
 refine take_ (i:=11) (N:=some 15) (v:=?_) (a' := ?_) #[true,true,true,true,true,true,true,true,true,true,true,true,false,false] rfl rfl (by kernel_rfl) (fun _ _ _ h => h) (Or.inl ⟨by rfl, ?_⟩) hHeld ?_ ?_
 rotate_left
 ·rintro w' ⟨s0, s1, s2⟩
  go_simp
  with_reducible rfl
 rotate_left
 ·simp only [Act.put, zSa, zSb, zSc, i64_w, i32_w]
  rfl
 refine one_ (i:=12) (N:=some 2) #[true,true,true,true,true,true,true,true,true,true,true,true,true,false] rfl rfl (by kernel_rfl) (by decide) (fun K hK => ?_)
 refine box_step ?hg (N:=2) ?hd (cs:=#[.int .i64 0, .int .i64 0]) (t:=89) ?hr ?_; (case hd => rfl); (case hg => rfl); (case hr => first | (go_simp; done) | (go_simp; rfl))
 intro bf hg wb hbox hb
 replace HWd := zMk (HWd.out.below hb)
 have BL0 := BL
 replace BL := zMk (zBt BL.out hb)
 have BF := zMk hbox
 have HBF := zMk (hg ▸ zBs BL0.out : w.heap.size ≤ bf)
 clear hg hbox hb
 refine hK.out _ _ ⟨(zKc HWd.out.hw 9).trans (congrArg some ES.out), (Below.cell BL.out (World.block_lt_of_cell? w _ X0.out)).trans X0.out, (Below.cell BL.out (World.block_lt_of_cell? w _ X1.out)).trans X1.out⟩ (fun hHeld => ?_)
 clear hK K
 refine norm_ (a' := ?_) ?_ ?_
 rotate_left
 ·show Act.put _ (some 2) _ = _
  simp only [Act.put, zSa, zSb, zSc, i64_w, i32_w]
  rfl
 refine last_ (i:=13) (N:=none) #[true,true,true,true,true,true,true,true,true,true,true,true,true,true] rfl rfl (by kernel_rfl) (by decide) (fun K hK => ?_)
 have hb0 : wb.cell? ⟨bf, 0, none⟩ = some (.int .i64 0) := (zKc BF.out 0).trans rfl
 have hb1 : wb.cell? ⟨bf, 1, none⟩ = some (.int .i64 0) := (zKc BF.out 1).trans rfl
 have hf0 := zKf BF.out 0
 have hf1 := zKf BF.out 1
 refine skip_ (w1:=?_) (by rfl) rfl ?_ ?_
 rotate_left
 ·go_simp
  rfl
 refine hK.out _ _ ?_
 clear hK K
 refine done_ (by kernel_rfl) ?_
 clear HWd X0 X1 hb0 hb1 hf0 hf1
 have HW1 := zMk (show WkW w0 wn ((wb.setCell ⟨bf, 0, none⟩ (.int .i64 f.f0)).setCell ⟨bf, 1, none⟩ (.int .i64 f.f1)) gw (.slice An near.length cn) V s from HW.out.below (below_set (below_set BL.out HBF.out) HBF.out))
 have BF1 := zMk (blk_put (cs:=#[.int .i64 f.f0, .int .i64 0]) (blk_put (cs:=#[.int .i64 0, .int .i64 0]) BF.out 0 (.int .i64 f.f0) rfl) 1 (.int .i64 f.f1) rfl)
 generalize ((wb.setCell ⟨bf, 0, none⟩ (.int .i64 f.f0)).setCell ⟨bf, 1, none⟩ (.int .i64 f.f1)) = w1 at HW1 BF1 ⊢
 clear BL BF HBF HW
 have z9 : w1.cell? ⟨gw, 9, none⟩ = some (.slice (some ⟨gs, 0, none⟩) (m + 1) cS) := (zKc HW1.out.hw 9).trans (congrArg some ES.out)
 have f9 := zKf HW1.out.hw 9
 go_upto_region 1 with (fail)
 clear z9 f9
 have HW1d := zMk (HW1.out.below (zBd (Below.refl w1.heap.size w1)))
 have BF1d := zMk (zKd BF1.out)
 refine start_ (n:=15) (S:=fun w' => w'.cell? ⟨gw, 9, none⟩ = some (.slice (some ⟨gs, 0, none⟩) (m + 1) cS)) (ds:=[14]) #[false,false,false,false,false,false,false,false,false,false,false,false,false,false,false] (by kernel_rfl) rfl rfl ((zKc HW1d.out.hw 9).trans (congrArg some ES.out)) (fun hHeld => ?_)
 generalize w1.drew = w2 at HW1d BF1d hHeld ⊢
 refine pure_ (i:=0) (N:=some 16) (v:=?_) (a' := ?_) #[true,false,false,false,false,false,false,false,false,false,false,false,false,false,false] rfl rfl (by kernel_rfl) (fun _ _ _ h => h) (Or.inl ⟨by rfl, ?_⟩) ?_ ?_
 rotate_left
 ·intro w'
  go_simp
  with_reducible rfl
 rotate_left
 ·simp only [Act.put, zSa, zSb, zSc, i64_w, i32_w]
  rfl
 refine pure_ (i:=1) (N:=some 17) (v:=?_) (a' := ?_) #[true,true,false,false,false,false,false,false,false,false,false,false,false,false,false] rfl rfl (by kernel_rfl) (fun _ _ _ h => h) (Or.inl ⟨by rfl, ?_⟩) ?_ ?_
 rotate_left
 ·intro w'
  go_simp
  with_reducible rfl
 rotate_left
 ·simp only [Act.put, zSa, zSb, zSc, i64_w, i32_w]
  rfl
 refine pure_ (i:=2) (N:=some 18) (v:=?_) (a' := ?_) #[true,true,true,false,false,false,false,false,false,false,false,false,false,false,false] rfl rfl (by kernel_rfl) (fun _ _ _ h => h) (Or.inl ⟨by rfl, ?_⟩) ?_ ?_
 rotate_left
 ·intro w'
  go_simp
  with_reducible rfl
 rotate_left
 ·simp only [Act.put, zSa, zSb, zSc, i64_w, i32_w]
  rfl
 refine pure_ (i:=3) (N:=some 19) (v:=?_) (a' := ?_) #[true,true,true,true,false,false,false,false,false,false,false,false,false,false,false] rfl rfl (by kernel_rfl) (fun _ _ _ h => h) (Or.inl ⟨by rfl, ?_⟩) ?_ ?_
 rotate_left
 ·intro w'
  go_simp
  with_reducible rfl
 rotate_left
 ·simp only [Act.put, zSa, zSb, zSc, i64_w, i32_w]
  rfl
 refine pure_ (i:=5) (N:=some 21) (v:=?_) (a' := ?_) #[true,true,true,true,false,true,false,false,false,false,false,false,false,false,false] rfl rfl (by kernel_rfl) (fun _ _ _ h => h) (Or.inl ⟨by rfl, ?_⟩) ?_ ?_
 rotate_left
 ·intro w'
  go_simp
  with_reducible rfl
 rotate_left
 ·simp only [Act.put, zSa, zSb, zSc, i64_w, i32_w]
  rfl
 refine pure_ (i:=6) (N:=some 22) (v:=?_) (a' := ?_) #[true,true,true,true,false,true,true,false,false,false,false,false,false,false,false] rfl rfl (by kernel_rfl) (fun _ _ _ h => h) (Or.inl ⟨by rfl, ?_⟩) ?_ ?_
 rotate_left
 ·intro w'
  go_simp
  with_reducible rfl
 rotate_left
 ·simp only [Act.put, zSa, zSb, zSc, i64_w, i32_w]
  rfl
 refine pure_ (i:=7) (N:=some 23) (v:=?_) (a' := ?_) #[true,true,true,true,false,true,true,true,false,false,false,false,false,false,false] rfl rfl (by kernel_rfl) (fun _ _ _ h => h) (Or.inl ⟨by rfl, ?_⟩) ?_ ?_
 rotate_left
 ·intro w'
  go_simp
  with_reducible rfl
 rotate_left
 ·simp only [Act.put, zSa, zSb, zSc, i64_w, i32_w]
  rfl
 refine take_ (i:=4) (N:=some 20) (v:=?_) (a' := ?_) #[true,true,true,true,true,true,true,true,false,false,false,false,false,false,false] rfl rfl (by kernel_rfl) (fun _ _ _ h => h) (Or.inl ⟨by rfl, ?_⟩) hHeld ?_ ?_
 rotate_left
 ·intro w' s0
  go_simp
  with_reducible rfl
 rotate_left
 ·simp only [Act.put, zSa, zSb, zSc, i64_w, i32_w]
  rfl
 refine take_ (i:=8) (N:=some 24) (v:=?_) (a' := ?_) #[true,true,true,true,true,true,true,true,true,false,false,false,false,false,false] rfl rfl (by kernel_rfl) (fun _ _ _ h => h) (Or.inl ⟨by rfl, ?_⟩) hHeld ?_ ?_
 rotate_left
 ·intro w' s0
  go_simp
  with_reducible rfl
 rotate_left
 ·simp only [Act.put, zSa, zSb, zSc, i64_w, i32_w]
  rfl
 refine pure_ (i:=9) (N:=some 25) (v:=?_) (a' := ?_) #[true,true,true,true,true,true,true,true,true,true,false,false,false,false,false] rfl rfl (by kernel_rfl) (fun _ _ _ h => h) (Or.inl ⟨by rfl, ?_⟩) ?_ ?_
 rotate_left
 ·intro w'
  go_simp
  with_reducible rfl
 rotate_left
 ·simp only [Act.put, zSa, zSb, zSc, i64_w, i32_w]
  rfl
 refine pure_ (i:=10) (N:=some 26) (v:=?_) (a' := ?_) #[true,true,true,true,true,true,true,true,true,true,true,false,false,false,false] rfl rfl (by kernel_rfl) (fun _ _ _ h => h) (Or.inl ⟨by rfl, ?_⟩) ?_ ?_
 rotate_left
 ·intro w'
  go_simp
  with_reducible rfl
 rotate_left
 ·simp only [Act.put, zSa, zSb, zSc, i64_w, i32_w]
  rfl
 refine pure_ (i:=11) (N:=some 27) (v:=?_) (a' := ?_) #[true,true,true,true,true,true,true,true,true,true,true,true,false,false,false] rfl rfl (by kernel_rfl) (fun _ _ _ h => h) (Or.inl ⟨by rfl, ?_⟩) ?_ ?_
 rotate_left
 ·intro w'
  go_simp
  with_reducible rfl
 rotate_left
 ·simp only [Act.put, zSa, zSb, zSc, i64_w, i32_w]
  rfl
 refine pure_ (i:=12) (N:=some 28) (v:=?_) (a' := ?_) #[true,true,true,true,true,true,true,true,true,true,true,true,true,false,false] rfl rfl (by kernel_rfl) (fun _ _ _ h => h) (Or.inl ⟨by rfl, ?_⟩) ?_ ?_
 rotate_left
 ·intro w'
  go_simp
  with_reducible rfl
 rotate_left
 ·simp only [Act.put, zSa, zSb, zSc, i64_w, i32_w]
  rfl
 refine pure_ (i:=13) (N:=some 29) (v:=?_) (a' := ?_) #[true,true,true,true,true,true,true,true,true,true,true,true,true,true,false] rfl rfl (by kernel_rfl) (fun _ _ _ h => h) (Or.inl ⟨by rfl, ?_⟩) ?_ ?_
 rotate_left
 ·intro w'
  go_simp
  with_reducible rfl
 rotate_left
 ·simp only [Act.put, zSa, zSb, zSc, i64_w, i32_w]
  rfl
 refine last_ (i:=14) (N:=none) #[true,true,true,true,true,true,true,true,true,true,true,true,true,true,true] rfl rfl (by kernel_rfl) (by decide) (fun K hK => ?_)
 have f9 := zKf HW1d.out.hw 9
 refine skip_ (w1:=?_) (by rfl) rfl ?_ ?_
 rotate_left
 ·go_simp
  rfl
 refine hK.out _ _ ?_
 clear hK K
 refine done_ (by kernel_rfl) ?_
 have HW2 := zMk (show WkW w0 wn (w2.setCell ⟨gw, 9, none⟩ (.slice (some ⟨gs, 0, none⟩) m cS)) gw (.slice An near.length cn) { V with vS := .slice (some ⟨gs, 0, none⟩) m cS } { s with stack := s.stack.take m } from HW1d.out.fstack (by
  have h3 := HW1d.out.hS
  rw [ES.out] at h3
  exact Kd.R_take h3 (by have := HM.out; omega)))
 have BF2 := zMk (blk_far (p:=⟨gw, 9, none⟩) BF1d.out (show bf ≠ gw from by
  rintro rfl
  have h3 := HW1d.out.hw
  rw [BF1d.out] at h3
  injection h3 with h3
  injection h3 with _ h3
  exact absurd h3 (by decide)) (.slice (some ⟨gs, 0, none⟩) m cS))
 clear HW1 HW1d BF1 BF1d f9
 generalize w2.setCell ⟨gw, 9, none⟩ (.slice (some ⟨gs, 0, none⟩) m cS) = w3 at HW2 BF2 ⊢
 have z9 : w3.cell? ⟨gw, 9, none⟩ = some (.slice (some ⟨gs, 0, none⟩) m cS) := (zKc HW2.out.hw 9).trans rfl
 go_upto_if 35 with (fail)
 clear z9
 have he := HE.out
 clear HE
 unfold wkLeave at he
 rw [if_neg (by have := HM.out; omega)] at he
 by_cases hm0 : m = 0
 ·subst hm0
  rw [if_pos HM.out] at he
  obtain rfl := zOi he
  go_wp2
  first | go_end0 | ((try simp only [Exit.inBlock, Exit.then]); refine bodyPost_ret (results_none rfl _ _ _) rfl ?_)
  exact ⟨rfl, _, HW2.out⟩
 rw [if_neg (by have := HM.out; omega)] at he
 obtain ⟨j, rfl⟩ : ∃ j, m = j + 1 := ⟨m - 1, by omega⟩
 have hq0 : (((j + 1 : Nat) : Int) == 0) = false := beq_eq_false_iff_ne.mpr (by omega)
 rw [show s.stack.length - 1 = j + 1 by have := HM.out; omega] at he
 dsimp only at he
 rw [← FF.out, Nat.add_sub_cancel] at he
 have hs := HW2.out.hS
 have hfx := at_T51 (by have hc := (zRr hs).2.2; rw [show (s.stack.take (j + 1)).length = j + 1 by rw [zLt]; have := HM.out; omega] at hc; exact hc) (j : Int) (by omega) (by omega)
 obtain ⟨ad, ea, hx0, hx1⟩ := hfx
 cases ea
 simp only [zTn] at hx0 hx1
 rw [wk_add] at hx0
 rw [show rd_T51 (s.stack.take (j + 1)) (j : Int) = rd_T51 s.stack (j : Int) by unfold rd_T51; rw [zTn, List.getD_eq_getElem?_getD, List.getD_eq_getElem?_getD, List.getElem?_take_of_lt (by omega)]] at hx0
 obtain ⟨p, hp⟩ : ∃ p, p = (rd_T51 s.stack (j : Int)).f0 := ⟨_, rfl⟩
 rw [← hp] at hx0 he
 have XP := zMk (show w3.cell? ⟨gs, j * 2, none⟩ = some (.int .i64 p) from hx0)
 have HE := zMk he
 clear he hp hx0 hx1 hs hm0 p7 p8 hwj hw64 qm FF
 go_upto_region 3 with (fail)
 have p7 : (0 ≤ (j : Int)) = True := eq_true (by omega)
 have p8 : ((j : Int) < (j : Int) + 1) = True := eq_true (by omega)
 have hwj : IntKind.i64.wrap (j : Int) = (j : Int) := IntWalk.i64_in _ ⟨by omega, by have := HMX.out; omega⟩
 have hw64 : wrap64 (j : Int) = (j : Int) := by have := HMX.out; unfold wrap64; omega
 have BL3 := zMk (zBd (Below.refl w3.heap.size w3))
 have HW3 := zMk (HW2.out.below BL3.out)
 have BF3 := zMk (zKd BF2.out)
 refine start_ (n:=14) (S:=fun w' => w'.cell? ⟨gw, 9, none⟩ = some (.slice (some ⟨gs, 0, none⟩) (j + 1) cS) ∧ w'.cell? ⟨gs, j * 2, none⟩ = some (.int .i64 p)) (ds:=[]) #[false,false,false,false,false,false,false,false,false,false,false,false,false,false] (by kernel_rfl) rfl rfl ⟨(zKc HW3.out.hw 9).trans rfl, (Below.cell BL3.out (World.block_lt_of_cell? w3 _ XP.out)).trans XP.out⟩ (fun hHeld => ?_)
 generalize w3.drew = w4 at HW3 BF3 BL3 hHeld ⊢
 refine pure_ (i:=0) (N:=some 36) (v:=?_) (a' := ?_) #[true,false,false,false,false,false,false,false,false,false,false,false,false,false] rfl rfl (by kernel_rfl) (fun _ _ _ h => h) (Or.inl ⟨by rfl, ?_⟩) ?_ ?_
 rotate_left
 ·intro w'
  go_simp
  with_reducible rfl
 rotate_left
 ·simp only [Act.put, zSa, zSb, zSc, i64_w, i32_w]
  rfl
 refine pure_ (i:=1) (N:=some 37) (v:=?_) (a' := ?_) #[true,true,false,false,false,false,false,false,false,false,false,false,false,false] rfl rfl (by kernel_rfl) (fun _ _ _ h => h) (Or.inl ⟨by rfl, ?_⟩) ?_ ?_
 rotate_left
 ·intro w'
  go_simp
  with_reducible rfl
 rotate_left
 ·simp only [Act.put, zSa, zSb, zSc, i64_w, i32_w]
  rfl
 refine pure_ (i:=2) (N:=some 38) (v:=?_) (a' := ?_) #[true,true,true,false,false,false,false,false,false,false,false,false,false,false] rfl rfl (by kernel_rfl) (fun _ _ _ h => h) (Or.inl ⟨by rfl, ?_⟩) ?_ ?_
 rotate_left
 ·intro w'
  go_simp
  with_reducible rfl
 rotate_left
 ·simp only [Act.put, zSa, zSb, zSc, i64_w, i32_w]
  rfl
 refine pure_ (i:=4) (N:=some 40) (v:=?_) (a' := ?_) #[true,true,true,false,true,false,false,false,false,false,false,false,false,false] rfl rfl (by kernel_rfl) (fun _ _ _ h => h) (Or.inl ⟨by rfl, ?_⟩) ?_ ?_
 rotate_left
 ·intro w'
  go_simp
  with_reducible rfl
 rotate_left
 ·simp only [Act.put, zSa, zSb, zSc, i64_w, i32_w]
  rfl
 refine pure_ (i:=5) (N:=some 41) (v:=?_) (a' := ?_) #[true,true,true,false,true,true,false,false,false,false,false,false,false,false] rfl rfl (by kernel_rfl) (fun _ _ _ h => h) (Or.inl ⟨by rfl, ?_⟩) ?_ ?_
 rotate_left
 ·intro w'
  go_simp
  with_reducible rfl
 rotate_left
 ·simp only [Act.put, zSa, zSb, zSc, i64_w, i32_w]
  rfl
 refine pure_ (i:=6) (N:=some 42) (v:=?_) (a' := ?_) #[true,true,true,false,true,true,true,false,false,false,false,false,false,false] rfl rfl (by kernel_rfl) (fun _ _ _ h => h) (Or.inl ⟨by rfl, ?_⟩) ?_ ?_
 rotate_left
 ·intro w'
  go_simp
  with_reducible rfl
 rotate_left
 ·simp only [Act.put, zSa, zSb, zSc, i64_w, i32_w]
  rfl
 refine take_ (i:=3) (N:=some 39) (v:=?_) (a' := ?_) #[true,true,true,true,true,true,true,false,false,false,false,false,false,false] rfl rfl (by kernel_rfl) (fun _ _ _ h => h) (Or.inl ⟨by rfl, ?_⟩) hHeld ?_ ?_
 rotate_left
 ·rintro w' ⟨s0, s1⟩
  go_simp
  with_reducible rfl
 rotate_left
 ·simp only [Act.put, zSa, zSb, zSc, i64_w, i32_w]
  rfl
 refine take_ (i:=7) (N:=some 43) (v:=?_) (a' := ?_) #[true,true,true,true,true,true,true,true,false,false,false,false,false,false] rfl rfl (by kernel_rfl) (fun _ _ _ h => h) (Or.inl ⟨by rfl, ?_⟩) hHeld ?_ ?_
 rotate_left
 ·rintro w' ⟨s0, s1⟩
  go_simp
  with_reducible rfl
 rotate_left
 ·simp only [Act.put, zSa, zSb, zSc, i64_w, i32_w]
  rfl
 refine pure_ (i:=8) (N:=some 44) (v:=?_) (a' := ?_) #[true,true,true,true,true,true,true,true,true,false,false,false,false,false] rfl rfl (by kernel_rfl) (fun _ _ _ h => h) (Or.inl ⟨by rfl, ?_⟩) ?_ ?_
 rotate_left
 ·intro w'
  go_simp
  with_reducible rfl
 rotate_left
 ·simp only [Act.put, zSa, zSb, zSc, i64_w, i32_w]
  rfl
 refine pure_ (i:=9) (N:=some 45) (v:=?_) (a' := ?_) #[true,true,true,true,true,true,true,true,true,true,false,false,false,false] rfl rfl (by kernel_rfl) (fun _ _ _ h => h) (Or.inl ⟨by rfl, ?_⟩) ?_ ?_
 rotate_left
 ·intro w'
  go_simp
  with_reducible rfl
 rotate_left
 ·simp only [Act.put, zSa, zSb, zSc, i64_w, i32_w]
  rfl
 refine pure_ (i:=10) (N:=some 46) (v:=?_) (a' := ?_) #[true,true,true,true,true,true,true,true,true,true,true,false,false,false] rfl rfl (by kernel_rfl) (fun _ _ _ h => h) (Or.inl ⟨by rfl, ?_⟩) ?_ ?_
 rotate_left
 ·intro w'
  go_simp
  with_reducible rfl
 rotate_left
 ·simp only [Act.put, zSa, zSb, zSc, i64_w, i32_w]
  rfl
 refine pure_ (i:=11) (N:=some 47) (v:=?_) (a' := ?_) #[true,true,true,true,true,true,true,true,true,true,true,true,false,false] rfl rfl (by kernel_rfl) (fun _ _ _ h => h) (Or.inl ⟨by rfl, ?_⟩) ?_ ?_
 rotate_left
 ·intro w'
  go_simp
  with_reducible rfl
 rotate_left
 ·simp only [Act.put, zSa, zSb, zSc, i64_w, i32_w]
  rfl
 refine take_ (i:=12) (N:=some 48) (v:=?_) (a' := ?_) #[true,true,true,true,true,true,true,true,true,true,true,true,true,false] rfl rfl (by kernel_rfl) (fun _ _ _ h => h) (Or.inl ⟨by rfl, ?_⟩) hHeld ?_ ?_
 rotate_left
 ·rintro w' ⟨s0, s1⟩
  go_simp
  with_reducible rfl
 rotate_left
 ·simp only [Act.put, zSa, zSb, zSc, i64_w, i32_w]
  rfl
 refine pure_ (i:=13) (N:=some 3) (v:=?_) (a' := ?_) #[true,true,true,true,true,true,true,true,true,true,true,true,true,true] rfl rfl (by kernel_rfl) (fun _ _ _ h => h) (Or.inl ⟨by rfl, ?_⟩) ?_ ?_
 rotate_left
 ·intro w'
  go_simp
  with_reducible rfl
 rotate_left
 ·simp only [Act.put, zSa, zSb, zSc, i64_w, i32_w]
  rfl
 refine done_ (by kernel_rfl) ?_
 clear HW2 BF2 BL3 XP
 have he := HE.out
 clear HE
 by_cases hb : 0 ≤ p ∧ p < (s.low.length : Int) ∧ p < (s.ord.length : Int) ∧ 0 ≤ f.f0 ∧ f.f0 < (s.low.length : Int)
 rotate_left
 ·rw [if_neg hb] at he; cases he
 rw [if_pos hb] at he
 have HB := zMk hb
 have HE := zMk he
 clear hb he p7 p8 hwj hw64
 obtain ⟨g2, c2, e2, -, -, -⟩ := Kd.R_form HW3.out.h2 (by have := HB.out; show 0 < s.low.length; omega)
 have E2 := zMk (show V.v2 = .slice (some ⟨g2, 0, none⟩) s.low.length c2 from e2)
 clear e2
 go_upto_region 4 with (fail)
 have HW4 := zMk (HW3.out.below (zBd (Below.refl w4.heap.size w4)))
 have BF4 := zMk (zKd BF3.out)
 have h2' := HW4.out.h2
 rw [show ({ V with vS := .slice (some ⟨gs, 0, none⟩) (j + 1) cS } : WkV).v2 = V.v2 from rfl, E2.out] at h2'
 obtain ⟨hxp, hfp⟩ := Kd.R_celln (0 : Int) h2' p HB.out.1 HB.out.2.1
 obtain ⟨hxf, -⟩ := Kd.R_celln (0 : Int) h2' f.f0 HB.out.2.2.2.1 HB.out.2.2.2.2
 have HXP := zMk (show w4.drew.cell? ⟨g2, p.toNat, none⟩ = some (.int .i64 (rd s.low p)) from hxp)
 have HXF := zMk (show w4.drew.cell? ⟨g2, f.f0.toNat, none⟩ = some (.int .i64 (rd s.low f.f0)) from hxf)
 clear h2' hxp hxf
 have b1 : (0 ≤ p) = True := eq_true HB.out.1
 have b2 : (p < (s.low.length : Int)) = True := eq_true HB.out.2.1
 have b3 : (0 ≤ f.f0) = True := eq_true HB.out.2.2.2.1
 have b4 : (f.f0 < (s.low.length : Int)) = True := eq_true HB.out.2.2.2.2
 refine start_ (n:=23) (S:=fun w' => w'.cell? ⟨gw, 2, none⟩ = some (.slice (some ⟨g2, 0, none⟩) s.low.length c2) ∧ w'.cell? ⟨bf, 0, none⟩ = some (.int .i64 f.f0) ∧ w'.cell? ⟨g2, p.toNat, none⟩ = some (.int .i64 (rd s.low p)) ∧ w'.cell? ⟨g2, f.f0.toNat, none⟩ = some (.int .i64 (rd s.low f.f0))) (ds:=[22]) #[false,false,false,false,false,false,false,false,false,false,false,false,false,false,false,false,false,false,false,false,false,false,false] (by kernel_rfl) rfl rfl ⟨(zKc HW4.out.hw 2).trans (congrArg some E2.out), (zKc BF4.out 0).trans rfl, HXP.out, HXF.out⟩ (fun hHeld => ?_)
 generalize w4.drew = w5 at HW4 BF4 HXP HXF hfp hHeld ⊢
 refine pure_ (i:=0) (N:=some 49) (v:=?_) (a' := ?_) #[true,false,false,false,false,false,false,false,false,false,false,false,false,false,false,false,false,false,false,false,false,false,false] rfl rfl (by kernel_rfl) (fun _ _ _ h => h) (Or.inl ⟨by rfl, ?_⟩) ?_ ?_
 rotate_left
 ·intro w'
  go_simp
  with_reducible rfl
 rotate_left
 ·simp only [Act.put, zSa, zSb, zSc, i64_w, i32_w]
  rfl
 refine pure_ (i:=1) (N:=some 50) (v:=?_) (a' := ?_) #[true,true,false,false,false,false,false,false,false,false,false,false,false,false,false,false,false,false,false,false,false,false,false] rfl rfl (by kernel_rfl) (fun _ _ _ h => h) (Or.inl ⟨by rfl, ?_⟩) ?_ ?_
 rotate_left
 ·intro w'
  go_simp
  with_reducible rfl
 rotate_left
 ·simp only [Act.put, zSa, zSb, zSc, i64_w, i32_w]
  rfl
 refine pure_ (i:=2) (N:=some 51) (v:=?_) (a' := ?_) #[true,true,true,false,false,false,false,false,false,false,false,false,false,false,false,false,false,false,false,false,false,false,false] rfl rfl (by kernel_rfl) (fun _ _ _ h => h) (Or.inl ⟨by rfl, ?_⟩) ?_ ?_
 rotate_left
 ·intro w'
  go_simp
  with_reducible rfl
 rotate_left
 ·simp only [Act.put, zSa, zSb, zSc, i64_w, i32_w]
  rfl
 refine pure_ (i:=4) (N:=some 53) (v:=?_) (a' := ?_) #[true,true,true,false,true,false,false,false,false,false,false,false,false,false,false,false,false,false,false,false,false,false,false] rfl rfl (by kernel_rfl) (fun _ _ _ h => h) (Or.inl ⟨by rfl, ?_⟩) ?_ ?_
 rotate_left
 ·intro w'
  go_simp
  with_reducible rfl
 rotate_left
 ·simp only [Act.put, zSa, zSb, zSc, i64_w, i32_w]
  rfl
 refine pure_ (i:=5) (N:=some 54) (v:=?_) (a' := ?_) #[true,true,true,false,true,true,false,false,false,false,false,false,false,false,false,false,false,false,false,false,false,false,false] rfl rfl (by kernel_rfl) (fun _ _ _ h => h) (Or.inl ⟨by rfl, ?_⟩) ?_ ?_
 rotate_left
 ·intro w'
  go_simp
  with_reducible rfl
 rotate_left
 ·simp only [Act.put, zSa, zSb, zSc, i64_w, i32_w]
  rfl
 refine pure_ (i:=6) (N:=some 55) (v:=?_) (a' := ?_) #[true,true,true,false,true,true,true,false,false,false,false,false,false,false,false,false,false,false,false,false,false,false,false] rfl rfl (by kernel_rfl) (fun _ _ _ h => h) (Or.inl ⟨by rfl, ?_⟩) ?_ ?_
 rotate_left
 ·intro w'
  go_simp
  with_reducible rfl
 rotate_left
 ·simp only [Act.put, zSa, zSb, zSc, i64_w, i32_w]
  rfl
 refine pure_ (i:=7) (N:=some 56) (v:=?_) (a' := ?_) #[true,true,true,false,true,true,true,true,false,false,false,false,false,false,false,false,false,false,false,false,false,false,false] rfl rfl (by kernel_rfl) (fun _ _ _ h => h) (Or.inl ⟨by rfl, ?_⟩) ?_ ?_
 rotate_left
 ·intro w'
  go_simp
  with_reducible rfl
 rotate_left
 ·simp only [Act.put, zSa, zSb, zSc, i64_w, i32_w]
  rfl
 refine pure_ (i:=9) (N:=some 58) (v:=?_) (a' := ?_) #[true,true,true,false,true,true,true,true,false,true,false,false,false,false,false,false,false,false,false,false,false,false,false] rfl rfl (by kernel_rfl) (fun _ _ _ h => h) (Or.inl ⟨by rfl, ?_⟩) ?_ ?_
 rotate_left
 ·intro w'
  go_simp
  with_reducible rfl
 rotate_left
 ·simp only [Act.put, zSa, zSb, zSc, i64_w, i32_w]
  rfl
 refine pure_ (i:=12) (N:=some 61) (v:=?_) (a' := ?_) #[true,true,true,false,true,true,true,true,false,true,false,false,true,false,false,false,false,false,false,false,false,false,false] rfl rfl (by kernel_rfl) (fun _ _ _ h => h) (Or.inl ⟨by rfl, ?_⟩) ?_ ?_
 rotate_left
 ·intro w'
  go_simp
  with_reducible rfl
 rotate_left
 ·simp only [Act.put, zSa, zSb, zSc, i64_w, i32_w]
  rfl
 refine pure_ (i:=13) (N:=some 62) (v:=?_) (a' := ?_) #[true,true,true,false,true,true,true,true,false,true,false,false,true,true,false,false,false,false,false,false,false,false,false] rfl rfl (by kernel_rfl) (fun _ _ _ h => h) (Or.inl ⟨by rfl, ?_⟩) ?_ ?_
 rotate_left
 ·intro w'
  go_simp
  with_reducible rfl
 rotate_left
 ·simp only [Act.put, zSa, zSb, zSc, i64_w, i32_w]
  rfl
 refine pure_ (i:=14) (N:=some 63) (v:=?_) (a' := ?_) #[true,true,true,false,true,true,true,true,false,true,false,false,true,true,true,false,false,false,false,false,false,false,false] rfl rfl (by kernel_rfl) (fun _ _ _ h => h) (Or.inl ⟨by rfl, ?_⟩) ?_ ?_
 rotate_left
 ·intro w'
  go_simp
  with_reducible rfl
 rotate_left
 ·simp only [Act.put, zSa, zSb, zSc, i64_w, i32_w]
  rfl
 refine pure_ (i:=16) (N:=some 65) (v:=?_) (a' := ?_) #[true,true,true,false,true,true,true,true,false,true,false,false,true,true,true,false,true,false,false,false,false,false,false] rfl rfl (by kernel_rfl) (fun _ _ _ h => h) (Or.inl ⟨by rfl, ?_⟩) ?_ ?_
 rotate_left
 ·intro w'
  go_simp
  with_reducible rfl
 rotate_left
 ·simp only [Act.put, zSa, zSb, zSc, i64_w, i32_w]
  rfl
 refine take_ (i:=3) (N:=some 52) (v:=?_) (a' := ?_) #[true,true,true,true,true,true,true,true,false,true,false,false,true,true,true,false,true,false,false,false,false,false,false] rfl rfl (by kernel_rfl) (fun _ _ _ h => h) (Or.inl ⟨by rfl, ?_⟩) hHeld ?_ ?_
 rotate_left
 ·rintro w' ⟨s0, s1, s2, s3⟩
  go_simp
  with_reducible rfl
 rotate_left
 ·simp only [Act.put, zSa, zSb, zSc, i64_w, i32_w]
  rfl
 refine take_ (i:=8) (N:=some 57) (v:=?_) (a' := ?_) #[true,true,true,true,true,true,true,true,true,true,false,false,true,true,true,false,true,false,false,false,false,false,false] rfl rfl (by kernel_rfl) (fun _ _ _ h => h) (Or.inl ⟨by rfl, ?_⟩) hHeld ?_ ?_
 rotate_left
 ·rintro w' ⟨s0, s1, s2, s3⟩
  go_simp
  with_reducible rfl
 rotate_left
 ·simp only [Act.put, zSa, zSb, zSc, i64_w, i32_w]
  rfl
 refine pure_ (i:=10) (N:=some 59) (v:=?_) (a' := ?_) #[true,true,true,true,true,true,true,true,true,true,true,false,true,true,true,false,true,false,false,false,false,false,false] rfl rfl (by kernel_rfl) (fun _ _ _ h => h) (Or.inl ⟨by rfl, ?_⟩) ?_ ?_
 rotate_left
 ·intro w'
  go_simp
  with_reducible rfl
 rotate_left
 ·simp only [Act.put, zSa, zSb, zSc, i64_w, i32_w]
  rfl
 refine take_ (i:=11) (N:=some 60) (v:=?_) (a' := ?_) #[true,true,true,true,true,true,true,true,true,true,true,true,true,true,true,false,true,false,false,false,false,false,false] rfl rfl (by kernel_rfl) (fun _ _ _ h => h) (Or.inl ⟨by rfl, ?_⟩) hHeld ?_ ?_
 rotate_left
 ·rintro w' ⟨s0, s1, s2, s3⟩
  go_simp
  with_reducible rfl
 rotate_left
 ·simp only [Act.put, zSa, zSb, zSc, i64_w, i32_w]
  rfl
 refine take_ (i:=15) (N:=some 64) (v:=?_) (a' := ?_) #[true,true,true,true,true,true,true,true,true,true,true,true,true,true,true,true,true,false,false,false,false,false,false] rfl rfl (by kernel_rfl) (fun _ _ _ h => h) (Or.inl ⟨by rfl, ?_⟩) hHeld ?_ ?_
 rotate_left
 ·rintro w' ⟨s0, s1, s2, s3⟩
  go_simp
  with_reducible rfl
 rotate_left
 ·simp only [Act.put, zSa, zSb, zSc, i64_w, i32_w]
  rfl
 refine take_ (i:=17) (N:=some 66) (v:=?_) (a' := ?_) #[true,true,true,true,true,true,true,true,true,true,true,true,true,true,true,true,true,true,false,false,false,false,false] rfl rfl (by kernel_rfl) (fun _ _ _ h => h) (Or.inl ⟨by rfl, ?_⟩) hHeld ?_ ?_
 rotate_left
 ·rintro w' ⟨s0, s1, s2, s3⟩
  go_simp
  with_reducible rfl
 rotate_left
 ·simp only [Act.put, zSa, zSb, zSc, i64_w, i32_w]
  rfl
 refine pure_ (i:=18) (N:=some 67) (v:=?_) (a' := ?_) #[true,true,true,true,true,true,true,true,true,true,true,true,true,true,true,true,true,true,true,false,false,false,false] rfl rfl (by kernel_rfl) (fun _ _ _ h => h) (Or.inl ⟨by rfl, ?_⟩) ?_ ?_
 rotate_left
 ·intro w'
  go_simp
  with_reducible rfl
 rotate_left
 ·simp only [Act.put, zSa, zSb, zSc, i64_w, i32_w]
  rfl
 refine take_ (i:=19) (N:=some 68) (v:=?_) (a' := ?_) #[true,true,true,true,true,true,true,true,true,true,true,true,true,true,true,true,true,true,true,true,false,false,false] rfl rfl (by kernel_rfl) (fun _ _ _ h => h) (Or.inl ⟨by rfl, ?_⟩) hHeld ?_ ?_
 rotate_left
 ·rintro w' ⟨s0, s1, s2, s3⟩
  go_simp
  with_reducible rfl
 rotate_left
 ·simp only [Act.put, zSa, zSb, zSc, i64_w, i32_w]
  rfl
 refine pure_ (i:=20) (N:=some 69) (v:=?_) (a' := ?_) #[true,true,true,true,true,true,true,true,true,true,true,true,true,true,true,true,true,true,true,true,true,false,false] rfl rfl (by kernel_rfl) (fun _ _ _ h => h) (Or.inl ⟨by rfl, ?_⟩) ?_ ?_
 rotate_left
 ·intro w'
  go_simp
  with_reducible rfl
 rotate_left
 ·simp only [Act.put, zSa, zSb, zSc, i64_w, i32_w]
  rfl
 refine pure_ (i:=21) (N:=some 70) (v:=?_) (a' := ?_) #[true,true,true,true,true,true,true,true,true,true,true,true,true,true,true,true,true,true,true,true,true,true,false] rfl rfl (by kernel_rfl) (fun _ _ _ h => h) (Or.inl ⟨by rfl, ?_⟩) ?_ ?_
 rotate_left
 ·intro w'
  go_simp
  with_reducible rfl
 rotate_left
 ·simp only [Act.put, zSa, zSb, zSc, i64_w, i32_w]
  rfl
 refine last_ (i:=22) (N:=none) #[true,true,true,true,true,true,true,true,true,true,true,true,true,true,true,true,true,true,true,true,true,true,true] rfl rfl (by kernel_rfl) (by decide) (fun K hK => ?_)
 have hxp := HXP.out
 refine skip_ (w1:=?_) (by rfl) rfl ?_ ?_
 rotate_left
 ·go_simp
  rfl
 refine hK.out _ _ ?_
 clear hK K
 refine done_ (by kernel_rfl) ?_
 have HW5 := zMk (HW4.out.put2 (show ({ V with vS := .slice (some ⟨gs, 0, none⟩) (j + 1) cS } : WkV).v2 = _ from E2.out) p (if rd s.low f.f0 < rd s.low p then rd s.low f.f0 else rd s.low p))
 have BF5 := zMk (blk_far (p:=⟨g2, p.toNat, none⟩) BF4.out (show bf ≠ g2 from by
  rintro rfl
  obtain ⟨cells, h3⟩ := Kd.R_typed HW4.out.h2 bf (by show V.v2.ownBlock = _; rw [E2.out]; exact wk_own)
  rw [BF4.out] at h3
  injection h3 with h3
  injection h3 with _ h3
  exact absurd h3 (by decide)) (.int .i64 (if rd s.low f.f0 < rd s.low p then rd s.low f.f0 else rd s.low p)))
 clear HW3 HW4 BF3 BF4 HXP HXF hfp hxp
 generalize w5.setCell ⟨g2, p.toNat, none⟩ (.int .i64 (if rd s.low f.f0 < rd s.low p then rd s.low f.f0 else rd s.low p)) = w6 at HW5 BF5 ⊢
 have he := HE.out
 clear HE
 generalize hx : (if rd s.low f.f0 < rd s.low p then rd s.low f.f0 else rd s.low p) = x at HW5 he
 clear hx
 obtain ⟨s2, hs2⟩ : ∃ s2 : Wk, s2 = { s with stack := s.stack.take (j + 1), low := s.low.set p.toNat x } := ⟨_, rfl⟩
 rw [← hs2] at he
 have HS2 := zMk (show WkW w0 wn w6 gw (.slice An near.length cn) { V with vS := .slice (some ⟨gs, 0, none⟩) (j + 1) cS } s2 from hs2 ▸ HW5.out)
 have L2 := zMk (show s2.low.length = s.low.length by rw [hs2]; exact List.length_set ..)
 have O2 := zMk (show s2.ord = s.ord by rw [hs2])
 have HE := zMk he
 clear HW5 he hs2
 obtain ⟨g1, c1, e1, -, -, -⟩ := Kd.R_form HS2.out.h1 (by rw [O2.out]; have := HB.out; omega)
 have E1 := zMk (show V.v1 = .slice (some ⟨g1, 0, none⟩) s.ord.length c1 from by rw [← O2.out]; exact e1)
 clear e1
 go_upto_region 5 with (fail)
 have HS5 := zMk (HS2.out.below (zBd (Below.refl w6.heap.size w6)))
 have BF6 := zMk (zKd BF5.out)
 have h2' := HS5.out.h2
 rw [show ({ V with vS := .slice (some ⟨gs, 0, none⟩) (j + 1) cS } : WkV).v2 = V.v2 from rfl, E2.out] at h2'
 obtain ⟨hxf, -⟩ := Kd.R_celln (0 : Int) h2' f.f0 HB.out.2.2.2.1 HB.out.2.2.2.2
 have h1' := HS5.out.h1
 rw [show ({ V with vS := .slice (some ⟨gs, 0, none⟩) (j + 1) cS } : WkV).v1 = V.v1 from rfl, E1.out] at h1'
 obtain ⟨hxo, -⟩ := Kd.R_celln (0 : Int) h1' p HB.out.1 HB.out.2.2.1
 rw [O2.out] at hxo
 have HXO := zMk (show w6.drew.cell? ⟨g1, p.toNat, none⟩ = some (.int .i64 (rd s.ord p)) from hxo)
 have HXF := zMk (show w6.drew.cell? ⟨g2, f.f0.toNat, none⟩ = some (.int .i64 (rd s2.low f.f0)) from hxf)
 clear h2' h1' hxo hxf
 have b5 : (p < (s.ord.length : Int)) = True := eq_true HB.out.2.2.1
 refine start_ (n:=16) (S:=fun w' => w'.cell? ⟨gw, 2, none⟩ = some (.slice (some ⟨g2, 0, none⟩) s.low.length c2) ∧ w'.cell? ⟨bf, 0, none⟩ = some (.int .i64 f.f0) ∧ w'.cell? ⟨gw, 1, none⟩ = some (.slice (some ⟨g1, 0, none⟩) s.ord.length c1) ∧ w'.cell? ⟨g1, p.toNat, none⟩ = some (.int .i64 (rd s.ord p)) ∧ w'.cell? ⟨g2, f.f0.toNat, none⟩ = some (.int .i64 (rd s2.low f.f0))) (ds:=[]) #[false,false,false,false,false,false,false,false,false,false,false,false,false,false,false,false] (by kernel_rfl) rfl rfl ⟨(zKc HS5.out.hw 2).trans (congrArg some E2.out), (zKc BF6.out 0).trans rfl, (zKc HS5.out.hw 1).trans (congrArg some E1.out), HXO.out, HXF.out⟩ (fun hHeld => ?_)
 generalize w6.drew = w7 at HS5 BF6 HXO HXF hHeld ⊢
 refine pure_ (i:=0) (N:=some 71) (v:=?_) (a' := ?_) #[true,false,false,false,false,false,false,false,false,false,false,false,false,false,false,false] rfl rfl (by kernel_rfl) (fun _ _ _ h => h) (Or.inl ⟨by rfl, ?_⟩) ?_ ?_
 rotate_left
 ·intro w'
  go_simp
  with_reducible rfl
 rotate_left
 ·simp only [Act.put, zSa, zSb, zSc, i64_w, i32_w]
  rfl
 refine pure_ (i:=1) (N:=some 72) (v:=?_) (a' := ?_) #[true,true,false,false,false,false,false,false,false,false,false,false,false,false,false,false] rfl rfl (by kernel_rfl) (fun _ _ _ h => h) (Or.inl ⟨by rfl, ?_⟩) ?_ ?_
 rotate_left
 ·intro w'
  go_simp
  with_reducible rfl
 rotate_left
 ·simp only [Act.put, zSa, zSb, zSc, i64_w, i32_w]
  rfl
 refine pure_ (i:=2) (N:=some 73) (v:=?_) (a' := ?_) #[true,true,true,false,false,false,false,false,false,false,false,false,false,false,false,false] rfl rfl (by kernel_rfl) (fun _ _ _ h => h) (Or.inl ⟨by rfl, ?_⟩) ?_ ?_
 rotate_left
 ·intro w'
  go_simp
  with_reducible rfl
 rotate_left
 ·simp only [Act.put, zSa, zSb, zSc, i64_w, i32_w]
  rfl
 refine pure_ (i:=4) (N:=some 75) (v:=?_) (a' := ?_) #[true,true,true,false,true,false,false,false,false,false,false,false,false,false,false,false] rfl rfl (by kernel_rfl) (fun _ _ _ h => h) (Or.inl ⟨by rfl, ?_⟩) ?_ ?_
 rotate_left
 ·intro w'
  go_simp
  with_reducible rfl
 rotate_left
 ·simp only [Act.put, zSa, zSb, zSc, i64_w, i32_w]
  rfl
 refine pure_ (i:=8) (N:=some 79) (v:=?_) (a' := ?_) #[true,true,true,false,true,false,false,false,true,false,false,false,false,false,false,false] rfl rfl (by kernel_rfl) (fun _ _ _ h => h) (Or.inl ⟨by rfl, ?_⟩) ?_ ?_
 rotate_left
 ·intro w'
  go_simp
  with_reducible rfl
 rotate_left
 ·simp only [Act.put, zSa, zSb, zSc, i64_w, i32_w]
  rfl
 refine pure_ (i:=9) (N:=some 80) (v:=?_) (a' := ?_) #[true,true,true,false,true,false,false,false,true,true,false,false,false,false,false,false] rfl rfl (by kernel_rfl) (fun _ _ _ h => h) (Or.inl ⟨by rfl, ?_⟩) ?_ ?_
 rotate_left
 ·intro w'
  go_simp
  with_reducible rfl
 rotate_left
 ·simp only [Act.put, zSa, zSb, zSc, i64_w, i32_w]
  rfl
 refine pure_ (i:=10) (N:=some 81) (v:=?_) (a' := ?_) #[true,true,true,false,true,false,false,false,true,true,true,false,false,false,false,false] rfl rfl (by kernel_rfl) (fun _ _ _ h => h) (Or.inl ⟨by rfl, ?_⟩) ?_ ?_
 rotate_left
 ·intro w'
  go_simp
  with_reducible rfl
 rotate_left
 ·simp only [Act.put, zSa, zSb, zSc, i64_w, i32_w]
  rfl
 refine pure_ (i:=12) (N:=some 83) (v:=?_) (a' := ?_) #[true,true,true,false,true,false,false,false,true,true,true,false,true,false,false,false] rfl rfl (by kernel_rfl) (fun _ _ _ h => h) (Or.inl ⟨by rfl, ?_⟩) ?_ ?_
 rotate_left
 ·intro w'
  go_simp
  with_reducible rfl
 rotate_left
 ·simp only [Act.put, zSa, zSb, zSc, i64_w, i32_w]
  rfl
 refine take_ (i:=3) (N:=some 74) (v:=?_) (a' := ?_) #[true,true,true,true,true,false,false,false,true,true,true,false,true,false,false,false] rfl rfl (by kernel_rfl) (fun _ _ _ h => h) (Or.inl ⟨by rfl, ?_⟩) hHeld ?_ ?_
 rotate_left
 ·rintro w' ⟨s0, s1, s2, s3, s4⟩
  go_simp
  with_reducible rfl
 rotate_left
 ·simp only [Act.put, zSa, zSb, zSc, i64_w, i32_w]
  rfl
 refine take_ (i:=5) (N:=some 76) (v:=?_) (a' := ?_) #[true,true,true,true,true,true,false,false,true,true,true,false,true,false,false,false] rfl rfl (by kernel_rfl) (fun _ _ _ h => h) (Or.inl ⟨by rfl, ?_⟩) hHeld ?_ ?_
 rotate_left
 ·rintro w' ⟨s0, s1, s2, s3, s4⟩
  go_simp
  with_reducible rfl
 rotate_left
 ·simp only [Act.put, zSa, zSb, zSc, i64_w, i32_w]
  rfl
 refine pure_ (i:=6) (N:=some 77) (v:=?_) (a' := ?_) #[true,true,true,true,true,true,true,false,true,true,true,false,true,false,false,false] rfl rfl (by kernel_rfl) (fun _ _ _ h => h) (Or.inl ⟨by rfl, ?_⟩) ?_ ?_
 rotate_left
 ·intro w'
  go_simp
  with_reducible rfl
 rotate_left
 ·simp only [Act.put, zSa, zSb, zSc, i64_w, i32_w]
  rfl
 refine take_ (i:=7) (N:=some 78) (v:=?_) (a' := ?_) #[true,true,true,true,true,true,true,true,true,true,true,false,true,false,false,false] rfl rfl (by kernel_rfl) (fun _ _ _ h => h) (Or.inl ⟨by rfl, ?_⟩) hHeld ?_ ?_
 rotate_left
 ·rintro w' ⟨s0, s1, s2, s3, s4⟩
  go_simp
  with_reducible rfl
 rotate_left
 ·simp only [Act.put, zSa, zSb, zSc, i64_w, i32_w]
  rfl
 refine take_ (i:=11) (N:=some 82) (v:=?_) (a' := ?_) #[true,true,true,true,true,true,true,true,true,true,true,true,true,false,false,false] rfl rfl (by kernel_rfl) (fun _ _ _ h => h) (Or.inl ⟨by rfl, ?_⟩) hHeld ?_ ?_
 rotate_left
 ·rintro w' ⟨s0, s1, s2, s3, s4⟩
  go_simp
  with_reducible rfl
 rotate_left
 ·simp only [Act.put, zSa, zSb, zSc, i64_w, i32_w]
  rfl
 refine pure_ (i:=13) (N:=some 84) (v:=?_) (a' := ?_) #[true,true,true,true,true,true,true,true,true,true,true,true,true,true,false,false] rfl rfl (by kernel_rfl) (fun _ _ _ h => h) (Or.inl ⟨by rfl, ?_⟩) ?_ ?_
 rotate_left
 ·intro w'
  go_simp
  with_reducible rfl
 rotate_left
 ·simp only [Act.put, zSa, zSb, zSc, i64_w, i32_w]
  rfl
 refine take_ (i:=14) (N:=some 85) (v:=?_) (a' := ?_) #[true,true,true,true,true,true,true,true,true,true,true,true,true,true,true,false] rfl rfl (by kernel_rfl) (fun _ _ _ h => h) (Or.inl ⟨by rfl, ?_⟩) hHeld ?_ ?_
 rotate_left
 ·rintro w' ⟨s0, s1, s2, s3, s4⟩
  go_simp
  with_reducible rfl
 rotate_left
 ·simp only [Act.put, zSa, zSb, zSc, i64_w, i32_w]
  rfl
 refine pure_ (i:=15) (N:=some 86) (v:=?_) (a' := ?_) #[true,true,true,true,true,true,true,true,true,true,true,true,true,true,true,true] rfl rfl (by kernel_rfl) (fun _ _ _ h => h) (Or.inl ⟨by rfl, ?_⟩) ?_ ?_
 rotate_left
 ·intro w'
  go_simp
  with_reducible rfl
 rotate_left
 ·simp only [Act.put, zSa, zSb, zSc, i64_w, i32_w]
  rfl
 refine done_ (by kernel_rfl) ?_
 have HS6 := HS5
 have hfb0 : w7.cell? ⟨bf, 1, none⟩ = some (.int .i64 f.f1) := (zKc BF6.out 1).trans rfl
 clear HXO HXF HS2 BF5 b1 b2 b3 b4 b5
 have he := HE.out
 clear HE
 unfold wkTail at he
 by_cases hle : rd s.ord p ≤ rd s2.low f.f0
 rotate_left
 ·rw [if_neg hle] at he
  obtain rfl := zOi he
  have hd : decide (rd s.ord p ≤ rd s2.low f.f0) = false := decide_eq_false hle
  go_upto_if 86 with (fail)
  first | rw [hd] | skip
  clear hle
  go_wp2
  first | go_end0 | ((try simp only [Exit.inBlock, Exit.then]); refine bodyPost_ret (results_none rfl _ _ _) rfl ?_)
  exact ⟨rfl, _, HS6.out⟩
 rw [if_pos hle] at he
 have hd : decide (rd s.ord p ≤ rd s2.low f.f0) = true := decide_eq_true hle
 obtain ⟨s3, ho, he⟩ := Option.bind_eq_some_iff.1 he
 have HO3 := zMk ho
 have HE := zMk he
 clear ho he hle
 go_upto_if 86 with (fail)
 first | rw [hd] | skip
 clear hd
 go_upto_region 7 with (go_at_call 71; refine (HOFF.out _ _ _ _ _ HS6.out HO3.out).mono ?_; rintro e w8 ⟨rfl, hb8, V3, h8⟩; have HS8 := zMk h8; clear hb8 h8)
 clear HS6 HS5 BF6 hfb0 HO3 E1 E2 L2 O2
 have he := HE.out
 clear HE
 unfold wkCut at he
 obtain ⟨c, hcn, he⟩ := Option.bind_eq_some_iff.1 he
 have HCN := zMk hcn
 have HE := zMk he
 clear hcn he
 obtain ⟨A9, c9, e9⟩ := zRs HS8.out.hS
 have E9 := zMk e9
 clear e9
 have P0 := zMk HB.out.1
 go_cut [119] from 91 to 118 (fun v119 wc => v119 = .bool c ∧ Aside0 (WkW w0 wn wc gw (.slice An near.length cn) V3 s3))
 case first =>
  have HS9 := zMk (HS8.out.below (zBd (Below.refl w8.heap.size w8)))
  by_cases h1 : 1 < s3.stack.length
  ·have hcn := HCN.out
   rw [if_pos h1] at hcn
   obtain rfl := zOi hcn
   have hd : decide ((1 : Int) < (s3.stack.length : Int)) = true := decide_eq_true (by omega)
   have HH1 := zMk h1
   clear hcn h1
   refine start_ (n:=29) (S:=fun w' => w'.cell? ⟨gw, 9, none⟩ = some (.slice A9 s3.stack.length c9)) (ds:=[]) #[false,false,false,false,false,false,false,false,false,false,false,false,false,false,false,false,false,false,false,false,false,false,false,false,false,false,false,false,false] (by kernel_rfl) rfl rfl ((zKc HS9.out.hw 9).trans (congrArg some E9.out)) (fun hHeld => ?_)
   generalize w8.drew = w9 at HS9 hHeld ⊢
   refine pure_ (i:=0) (N:=some 91) (v:=?_) (a' := ?_) #[true,false,false,false,false,false,false,false,false,false,false,false,false,false,false,false,false,false,false,false,false,false,false,false,false,false,false,false,false] rfl rfl (by kernel_rfl) (fun _ _ _ h => h) (Or.inl ⟨by rfl, ?_⟩) ?_ ?_
   rotate_left
   ·intro w'
    go_simp
    with_reducible rfl
   rotate_left
   ·simp only [Act.put, zSa, zSb, zSc, i64_w, i32_w]
    rfl
   refine pure_ (i:=1) (N:=some 92) (v:=?_) (a' := ?_) #[true,true,false,false,false,false,false,false,false,false,false,false,false,false,false,false,false,false,false,false,false,false,false,false,false,false,false,false,false] rfl rfl (by kernel_rfl) (fun _ _ _ h => h) (Or.inl ⟨by rfl, ?_⟩) ?_ ?_
   rotate_left
   ·intro w'
    go_simp
    with_reducible rfl
   rotate_left
   ·simp only [Act.put, zSa, zSb, zSc, i64_w, i32_w]
    rfl
   refine pure_ (i:=2) (N:=some 93) (v:=?_) (a' := ?_) #[true,true,true,false,false,false,false,false,false,false,false,false,false,false,false,false,false,false,false,false,false,false,false,false,false,false,false,false,false] rfl rfl (by kernel_rfl) (fun _ _ _ h => h) (Or.inl ⟨by rfl, ?_⟩) ?_ ?_
   rotate_left
   ·intro w'
    go_simp
    with_reducible rfl
   rotate_left
   ·simp only [Act.put, zSa, zSb, zSc, i64_w, i32_w]
    rfl
   refine take_ (i:=3) (N:=some 94) (v:=?_) (a' := ?_) #[true,true,true,true,false,false,false,false,false,false,false,false,false,false,false,false,false,false,false,false,false,false,false,false,false,false,false,false,false] rfl rfl (by kernel_rfl) (fun _ _ _ h => h) (Or.inl ⟨by rfl, ?_⟩) hHeld ?_ ?_
   rotate_left
   ·intro w' s0
    go_simp
    with_reducible rfl
   rotate_left
   ·simp only [Act.put, zSa, zSb, zSc, i64_w, i32_w]
    rfl
   refine pure_ (i:=4) (N:=some 95) (v:=?_) (a' := ?_) #[true,true,true,true,true,false,false,false,false,false,false,false,false,false,false,false,false,false,false,false,false,false,false,false,false,false,false,false,false] rfl rfl (by kernel_rfl) (fun _ _ _ h => h) (Or.inl ⟨by rfl, ?_⟩) ?_ ?_
   rotate_left
   ·intro w'
    go_simp
    with_reducible rfl
   rotate_left
   ·simp only [Act.put, zSa, zSb, zSc, i64_w, i32_w]
    rfl
   refine pure_ (i:=5) (N:=some 96) (v:=?_) (a' := ?_) #[true,true,true,true,true,true,false,false,false,false,false,false,false,false,false,false,false,false,false,false,false,false,false,false,false,false,false,false,false] rfl rfl (by kernel_rfl) (fun _ _ _ h => h) (Or.inl ⟨by rfl, ?_⟩) ?_ ?_
   rotate_left
   ·intro w'
    go_simp
    with_reducible rfl
   rotate_left
   ·simp only [Act.put, zSa, zSb, zSc, i64_w, i32_w]
    rfl
   refine pure_ (i:=6) (N:=some 97) (v:=?_) (a' := ?_) #[true,true,true,true,true,true,true,false,false,false,false,false,false,false,false,false,false,false,false,false,false,false,false,false,false,false,false,false,false] rfl rfl (by kernel_rfl) (fun _ _ _ h => h) (Or.inl ⟨by rfl, ?_⟩) ?_ ?_
   rotate_left
   ·intro w'
    go_simp
    with_reducible rfl
   rotate_left
   ·simp only [Act.put, zSa, zSb, zSc, i64_w, i32_w]
    rfl
   refine pure_ (i:=7) (N:=some 98) (v:=undef) (a' := ?_) #[true,true,true,true,true,true,true,true,false,false,false,false,false,false,false,false,false,false,false,false,false,false,false,false,false,false,false,false,false] rfl rfl (by kernel_rfl) (fun _ _ _ h => h) (Or.inr ⟨by rfl, rfl⟩) ?_ ?_
   rotate_left
   ·simp only [Act.put, zSa, zSb, zSc, i64_w, i32_w]
    rfl
   refine pure_ (i:=8) (N:=some 99) (v:=undef) (a' := ?_) #[true,true,true,true,true,true,true,true,true,false,false,false,false,false,false,false,false,false,false,false,false,false,false,false,false,false,false,false,false] rfl rfl (by kernel_rfl) (fun _ _ _ h => h) (Or.inr ⟨by rfl, rfl⟩) ?_ ?_
   rotate_left
   ·simp only [Act.put, zSa, zSb, zSc, i64_w, i32_w]
    rfl
   refine pure_ (i:=9) (N:=some 100) (v:=undef) (a' := ?_) #[true,true,true,true,true,true,true,true,true,true,false,false,false,false,false,false,false,false,false,false,false,false,false,false,false,false,false,false,false] rfl rfl (by kernel_rfl) (fun _ _ _ h => h) (Or.inr ⟨by rfl, rfl⟩) ?_ ?_
   rotate_left
   ·simp only [Act.put, zSa, zSb, zSc, i64_w, i32_w]
    rfl
   refine pure_ (i:=10) (N:=some 101) (v:=undef) (a' := ?_) #[true,true,true,true,true,true,true,true,true,true,true,false,false,false,false,false,false,false,false,false,false,false,false,false,false,false,false,false,false] rfl rfl (by kernel_rfl) (fun _ _ _ h => h) (Or.inr ⟨by rfl, rfl⟩) ?_ ?_
   rotate_left
   ·simp only [Act.put, zSa, zSb, zSc, i64_w, i32_w]
    rfl
   refine pure_ (i:=11) (N:=some 102) (v:=undef) (a' := ?_) #[true,true,true,true,true,true,true,true,true,true,true,true,false,false,false,false,false,false,false,false,false,false,false,false,false,false,false,false,false] rfl rfl (by kernel_rfl) (fun _ _ _ h => h) (Or.inr ⟨by rfl, rfl⟩) ?_ ?_
   rotate_left
   ·simp only [Act.put, zSa, zSb, zSc, i64_w, i32_w]
    rfl
   refine pure_ (i:=12) (N:=some 103) (v:=undef) (a' := ?_) #[true,true,true,true,true,true,true,true,true,true,true,true,true,false,false,false,false,false,false,false,false,false,false,false,false,false,false,false,false] rfl rfl (by kernel_rfl) (fun _ _ _ h => h) (Or.inr ⟨by rfl, rfl⟩) ?_ ?_
   rotate_left
   ·simp only [Act.put, zSa, zSb, zSc, i64_w, i32_w]
    rfl
   refine pure_ (i:=13) (N:=some 104) (v:=undef) (a' := ?_) #[true,true,true,true,true,true,true,true,true,true,true,true,true,true,false,false,false,false,false,false,false,false,false,false,false,false,false,false,false] rfl rfl (by kernel_rfl) (fun _ _ _ h => h) (Or.inr ⟨by rfl, rfl⟩) ?_ ?_
   rotate_left
   ·simp only [Act.put, zSa, zSb, zSc, i64_w, i32_w]
    rfl
   refine pure_ (i:=14) (N:=some 105) (v:=undef) (a' := ?_) #[true,true,true,true,true,true,true,true,true,true,true,true,true,true,true,false,false,false,false,false,false,false,false,false,false,false,false,false,false] rfl rfl (by kernel_rfl) (fun _ _ _ h => h) (Or.inr ⟨by rfl, rfl⟩) ?_ ?_
   rotate_left
   ·simp only [Act.put, zSa, zSb, zSc, i64_w, i32_w]
    rfl
   refine pure_ (i:=15) (N:=some 106) (v:=undef) (a' := ?_) #[true,true,true,true,true,true,true,true,true,true,true,true,true,true,true,true,false,false,false,false,false,false,false,false,false,false,false,false,false] rfl rfl (by kernel_rfl) (fun _ _ _ h => h) (Or.inr ⟨by rfl, rfl⟩) ?_ ?_
   rotate_left
   ·simp only [Act.put, zSa, zSb, zSc, i64_w, i32_w]
    rfl
   refine pure_ (i:=16) (N:=some 107) (v:=undef) (a' := ?_) #[true,true,true,true,true,true,true,true,true,true,true,true,true,true,true,true,true,false,false,false,false,false,false,false,false,false,false,false,false] rfl rfl (by kernel_rfl) (fun _ _ _ h => h) (Or.inr ⟨by rfl, rfl⟩) ?_ ?_
   rotate_left
   ·simp only [Act.put, zSa, zSb, zSc, i64_w, i32_w]
    rfl
   refine pure_ (i:=17) (N:=some 108) (v:=undef) (a' := ?_) #[true,true,true,true,true,true,true,true,true,true,true,true,true,true,true,true,true,true,false,false,false,false,false,false,false,false,false,false,false] rfl rfl (by kernel_rfl) (fun _ _ _ h => h) (Or.inr ⟨by rfl, rfl⟩) ?_ ?_
   rotate_left
   ·simp only [Act.put, zSa, zSb, zSc, i64_w, i32_w]
    rfl
   refine pure_ (i:=18) (N:=some 109) (v:=undef) (a' := ?_) #[true,true,true,true,true,true,true,true,true,true,true,true,true,true,true,true,true,true,true,false,false,false,false,false,false,false,false,false,false] rfl rfl (by kernel_rfl) (fun _ _ _ h => h) (Or.inr ⟨by rfl, rfl⟩) ?_ ?_
   rotate_left
   ·simp only [Act.put, zSa, zSb, zSc, i64_w, i32_w]
    rfl
   refine pure_ (i:=19) (N:=some 110) (v:=undef) (a' := ?_) #[true,true,true,true,true,true,true,true,true,true,true,true,true,true,true,true,true,true,true,true,false,false,false,false,false,false,false,false,false] rfl rfl (by kernel_rfl) (fun _ _ _ h => h) (Or.inr ⟨by rfl, rfl⟩) ?_ ?_
   rotate_left
   ·simp only [Act.put, zSa, zSb, zSc, i64_w, i32_w]
    rfl
   refine pure_ (i:=20) (N:=some 111) (v:=undef) (a' := ?_) #[true,true,true,true,true,true,true,true,true,true,true,true,true,true,true,true,true,true,true,true,true,false,false,false,false,false,false,false,false] rfl rfl (by kernel_rfl) (fun _ _ _ h => h) (Or.inr ⟨by rfl, rfl⟩) ?_ ?_
   rotate_left
   ·simp only [Act.put, zSa, zSb, zSc, i64_w, i32_w]
    rfl
   refine pure_ (i:=21) (N:=some 112) (v:=undef) (a' := ?_) #[true,true,true,true,true,true,true,true,true,true,true,true,true,true,true,true,true,true,true,true,true,true,false,false,false,false,false,false,false] rfl rfl (by kernel_rfl) (fun _ _ _ h => h) (Or.inr ⟨by rfl, rfl⟩) ?_ ?_
   rotate_left
   ·simp only [Act.put, zSa, zSb, zSc, i64_w, i32_w]
    rfl
   refine pure_ (i:=22) (N:=some 113) (v:=undef) (a' := ?_) #[true,true,true,true,true,true,true,true,true,true,true,true,true,true,true,true,true,true,true,true,true,true,true,false,false,false,false,false,false] rfl rfl (by kernel_rfl) (fun _ _ _ h => h) (Or.inr ⟨by rfl, rfl⟩) ?_ ?_
   rotate_left
   ·simp only [Act.put, zSa, zSb, zSc, i64_w, i32_w]
    rfl
   refine pure_ (i:=23) (N:=some 114) (v:=undef) (a' := ?_) #[true,true,true,true,true,true,true,true,true,true,true,true,true,true,true,true,true,true,true,true,true,true,true,true,false,false,false,false,false] rfl rfl (by kernel_rfl) (fun _ _ _ h => h) (Or.inr ⟨by rfl, rfl⟩) ?_ ?_
   rotate_left
   ·simp only [Act.put, zSa, zSb, zSc, i64_w, i32_w]
    rfl
   refine pure_ (i:=24) (N:=some 115) (v:=undef) (a' := ?_) #[true,true,true,true,true,true,true,true,true,true,true,true,true,true,true,true,true,true,true,true,true,true,true,true,true,false,false,false,false] rfl rfl (by kernel_rfl) (fun _ _ _ h => h) (Or.inr ⟨by rfl, rfl⟩) ?_ ?_
   rotate_left
   ·simp only [Act.put, zSa, zSb, zSc, i64_w, i32_w]
    rfl
   refine pure_ (i:=25) (N:=some 116) (v:=undef) (a' := ?_) #[true,true,true,true,true,true,true,true,true,true,true,true,true,true,true,true,true,true,true,true,true,true,true,true,true,true,false,false,false] rfl rfl (by kernel_rfl) (fun _ _ _ h => h) (Or.inr ⟨by rfl, rfl⟩) ?_ ?_
   rotate_left
   ·simp only [Act.put, zSa, zSb, zSc, i64_w, i32_w]
    rfl
   refine pure_ (i:=26) (N:=some 117) (v:=undef) (a' := ?_) #[true,true,true,true,true,true,true,true,true,true,true,true,true,true,true,true,true,true,true,true,true,true,true,true,true,true,true,false,false] rfl rfl (by kernel_rfl) (fun _ _ _ h => h) (Or.inr ⟨by rfl, rfl⟩) ?_ ?_
   rotate_left
   ·simp only [Act.put, zSa, zSb, zSc, i64_w, i32_w]
    rfl
   refine pure_ (i:=27) (N:=some 118) (v:=undef) (a' := ?_) #[true,true,true,true,true,true,true,true,true,true,true,true,true,true,true,true,true,true,true,true,true,true,true,true,true,true,true,true,false] rfl rfl (by kernel_rfl) (fun _ _ _ h => h) (Or.inr ⟨by rfl, rfl⟩) ?_ ?_
   rotate_left
   ·simp only [Act.put, zSa, zSb, zSc, i64_w, i32_w]
    rfl
   refine pure_ (i:=28) (N:=some 119) (v:=?_) (a' := ?_) #[true,true,true,true,true,true,true,true,true,true,true,true,true,true,true,true,true,true,true,true,true,true,true,true,true,true,true,true,true] rfl rfl (by kernel_rfl) (fun _ _ _ h => h) (Or.inl ⟨by rfl, ?_⟩) ?_ ?_
   rotate_left
   ·intro w'
    go_simp
    with_reducible rfl
   rotate_left
   ·simp only [Act.put, zSa, zSb, zSc, i64_w, i32_w]
    rfl
   refine done_ (by kernel_rfl) ?_
   try go_wp2
   go_meet
   case rel => exact ⟨rfl, HS9⟩
  ·have hcn := HCN.out
   rw [if_neg h1] at hcn
   by_cases hpn : p < (s3.next.length : Int) ∧ p < (near.length : Int)
   rotate_left
   ·rw [if_neg hpn] at hcn; cases hcn
   rw [if_pos hpn] at hcn
   have hd : decide ((1 : Int) < (s3.stack.length : Int)) = false := decide_eq_false (by omega)
   obtain ⟨g3, c3, e3, -, -, -⟩ := Kd.R_form HS9.out.h3 (by have := P0.out; omega)
   have E3 := zMk e3
   have h3' := HS9.out.h3
   rw [e3] at h3'
   obtain ⟨hxn, -⟩ := Kd.R_celln (0 : Int) h3' p P0.out hpn.1
   have HXN := zMk (show w8.drew.cell? ⟨g3, p.toNat, none⟩ = some (.int .i64 (rd s3.next p)) from hxn)
   obtain ⟨adn, Ai, ci, ea, hcl, -, -⟩ := at_L3 (HS9.out.near HN.out) p P0.out hpn.2
   cases ea
   have HCL := zMk hcl
   have p1 : (0 ≤ p) = True := eq_true P0.out
   have p2 : (p < (s3.next.length : Int)) = True := eq_true hpn.1
   have p3 : (p < (near.length : Int)) = True := eq_true hpn.2
   clear h1 hpn e3 h3' hxn hcl
   generalize rd_L3 near p = L at HCL hcn
   by_cases hnl : rd s3.next p < (L.length : Int)
   ·rw [if_pos hnl] at hcn
    have hd2 : decide (rd s3.next p < (L.length : Int)) = true := decide_eq_true hnl
    have HMC := zMk hcn
    clear hcn hnl
    refine wp_region_still_tail 26 (by kernel_rfl) (by kernel_rfl) ?_
    generalize hw9 : w8.drew = w9 at HS9 HXN HCL
    show wpStill _ _ w8.drew (fun a' => wpList _ _ _ _ a' w8.drew) _ _
    rw [hw9]
    clear hw9
    have z9 : w9.cell? ⟨gw, 9, none⟩ = some (.slice A9 s3.stack.length c9) := (zKc HS9.out.hw 9).trans (congrArg some E9.out)
    have z3 : w9.cell? ⟨gw, 3, none⟩ = some (.slice (some ⟨g3, 0, none⟩) s3.next.length c3) := (zKc HS9.out.hw 3).trans (congrArg some E3.out)
    have z0 : w9.cell? ⟨gw, 0, none⟩ = some (.slice (some adn) near.length cn) := (zKc HS9.out.hw 0).trans rfl
    have zx := HXN.out
    have zl := HCL.out
    simp only [List.take_succ_cons, List.take_zero, List.drop_succ_cons, List.drop_zero]
    repeat still_step
    refine wpStill_nil ?_
    clear z9 z3 z0 zx zl
    go_wp2_with (go_at_call 72; refine (HMORE.out _ _ _ _ _ HS9.out HMC.out).mono ?_; rintro e w10 ⟨rfl, hb⟩; have HS10 := zMk (HS9.out.below hb); clear hb)
    try go_wp2
    go_meet
    case rel => exact ⟨rfl, HS10⟩
   ·rw [if_neg hnl] at hcn
    obtain rfl := zOi hcn
    have hd2 : decide (rd s3.next p < (L.length : Int)) = false := decide_eq_false hnl
    clear hcn hnl
    refine start_ (n:=29) (S:=fun w' => w'.cell? ⟨gw, 9, none⟩ = some (.slice A9 s3.stack.length c9) ∧ w'.cell? ⟨gw, 3, none⟩ = some (.slice (some ⟨g3, 0, none⟩) s3.next.length c3) ∧ w'.cell? ⟨g3, p.toNat, none⟩ = some (.int .i64 (rd s3.next p)) ∧ w'.cell? ⟨gw, 0, none⟩ = some (.slice (some adn) near.length cn) ∧ w'.cell? (adn.add p.toNat) = some (.slice Ai L.length ci)) (ds:=[]) #[false,false,false,false,false,false,false,false,false,false,false,false,false,false,false,false,false,false,false,false,false,false,false,false,false,false,false,false,false] (by kernel_rfl) rfl rfl ⟨(zKc HS9.out.hw 9).trans (congrArg some E9.out), (zKc HS9.out.hw 3).trans (congrArg some E3.out), HXN.out, (zKc HS9.out.hw 0).trans rfl, HCL.out⟩ (fun hHeld => ?_)
    generalize w8.drew = w9 at HS9 HXN HCL hHeld ⊢
    refine pure_ (i:=0) (N:=some 91) (v:=?_) (a' := ?_) #[true,false,false,false,false,false,false,false,false,false,false,false,false,false,false,false,false,false,false,false,false,false,false,false,false,false,false,false,false] rfl rfl (by kernel_rfl) (fun _ _ _ h => h) (Or.inl ⟨by rfl, ?_⟩) ?_ ?_
    rotate_left
    ·intro w'
     go_simp
     with_reducible rfl
    rotate_left
    ·simp only [Act.put, zSa, zSb, zSc, i64_w, i32_w]
     rfl
    refine pure_ (i:=1) (N:=some 92) (v:=?_) (a' := ?_) #[true,true,false,false,false,false,false,false,false,false,false,false,false,false,false,false,false,false,false,false,false,false,false,false,false,false,false,false,false] rfl rfl (by kernel_rfl) (fun _ _ _ h => h) (Or.inl ⟨by rfl, ?_⟩) ?_ ?_
    rotate_left
    ·intro w'
     go_simp
     with_reducible rfl
    rotate_left
    ·simp only [Act.put, zSa, zSb, zSc, i64_w, i32_w]
     rfl
    refine pure_ (i:=2) (N:=some 93) (v:=?_) (a' := ?_) #[true,true,true,false,false,false,false,false,false,false,false,false,false,false,false,false,false,false,false,false,false,false,false,false,false,false,false,false,false] rfl rfl (by kernel_rfl) (fun _ _ _ h => h) (Or.inl ⟨by rfl, ?_⟩) ?_ ?_
    rotate_left
    ·intro w'
     go_simp
     with_reducible rfl
    rotate_left
    ·simp only [Act.put, zSa, zSb, zSc, i64_w, i32_w]
     rfl
    refine take_ (i:=3) (N:=some 94) (v:=?_) (a' := ?_) #[true,true,true,true,false,false,false,false,false,false,false,false,false,false,false,false,false,false,false,false,false,false,false,false,false,false,false,false,false] rfl rfl (by kernel_rfl) (fun _ _ _ h => h) (Or.inl ⟨by rfl, ?_⟩) hHeld ?_ ?_
    rotate_left
    ·rintro w' ⟨s0, s1, s2, s3, s4⟩
     go_simp
     with_reducible rfl
    rotate_left
    ·simp only [Act.put, zSa, zSb, zSc, i64_w, i32_w]
     rfl
    refine pure_ (i:=4) (N:=some 95) (v:=?_) (a' := ?_) #[true,true,true,true,true,false,false,false,false,false,false,false,false,false,false,false,false,false,false,false,false,false,false,false,false,false,false,false,false] rfl rfl (by kernel_rfl) (fun _ _ _ h => h) (Or.inl ⟨by rfl, ?_⟩) ?_ ?_
    rotate_left
    ·intro w'
     go_simp
     with_reducible rfl
    rotate_left
    ·simp only [Act.put, zSa, zSb, zSc, i64_w, i32_w]
     rfl
    refine pure_ (i:=5) (N:=some 96) (v:=?_) (a' := ?_) #[true,true,true,true,true,true,false,false,false,false,false,false,false,false,false,false,false,false,false,false,false,false,false,false,false,false,false,false,false] rfl rfl (by kernel_rfl) (fun _ _ _ h => h) (Or.inl ⟨by rfl, ?_⟩) ?_ ?_
    rotate_left
    ·intro w'
     go_simp
     with_reducible rfl
    rotate_left
    ·simp only [Act.put, zSa, zSb, zSc, i64_w, i32_w]
     rfl
    refine pure_ (i:=6) (N:=some 97) (v:=?_) (a' := ?_) #[true,true,true,true,true,true,true,false,false,false,false,false,false,false,false,false,false,false,false,false,false,false,false,false,false,false,false,false,false] rfl rfl (by kernel_rfl) (fun _ _ _ h => h) (Or.inl ⟨by rfl, ?_⟩) ?_ ?_
    rotate_left
    ·intro w'
     go_simp
     with_reducible rfl
    rotate_left
    ·simp only [Act.put, zSa, zSb, zSc, i64_w, i32_w]
     rfl
    refine pure_ (i:=7) (N:=some 98) (v:=?_) (a' := ?_) #[true,true,true,true,true,true,true,true,false,false,false,false,false,false,false,false,false,false,false,false,false,false,false,false,false,false,false,false,false] rfl rfl (by kernel_rfl) (fun _ _ _ h => h) (Or.inl ⟨by rfl, ?_⟩) ?_ ?_
    rotate_left
    ·intro w'
     go_simp
     with_reducible rfl
    rotate_left
    ·simp only [Act.put, zSa, zSb, zSc, i64_w, i32_w]
     rfl
    refine pure_ (i:=8) (N:=some 99) (v:=?_) (a' := ?_) #[true,true,true,true,true,true,true,true,true,false,false,false,false,false,false,false,false,false,false,false,false,false,false,false,false,false,false,false,false] rfl rfl (by kernel_rfl) (fun _ _ _ h => h) (Or.inl ⟨by rfl, ?_⟩) ?_ ?_
    rotate_left
    ·intro w'
     go_simp
     with_reducible rfl
    rotate_left
    ·simp only [Act.put, zSa, zSb, zSc, i64_w, i32_w]
     rfl
    refine pure_ (i:=9) (N:=some 100) (v:=?_) (a' := ?_) #[true,true,true,true,true,true,true,true,true,true,false,false,false,false,false,false,false,false,false,false,false,false,false,false,false,false,false,false,false] rfl rfl (by kernel_rfl) (fun _ _ _ h => h) (Or.inl ⟨by rfl, ?_⟩) ?_ ?_
    rotate_left
    ·intro w'
     go_simp
     with_reducible rfl
    rotate_left
    ·simp only [Act.put, zSa, zSb, zSc, i64_w, i32_w]
     rfl
    refine pure_ (i:=11) (N:=some 102) (v:=?_) (a' := ?_) #[true,true,true,true,true,true,true,true,true,true,false,true,false,false,false,false,false,false,false,false,false,false,false,false,false,false,false,false,false] rfl rfl (by kernel_rfl) (fun _ _ _ h => h) (Or.inl ⟨by rfl, ?_⟩) ?_ ?_
    rotate_left
    ·intro w'
     go_simp
     with_reducible rfl
    rotate_left
    ·simp only [Act.put, zSa, zSb, zSc, i64_w, i32_w]
     rfl
    refine pure_ (i:=14) (N:=some 105) (v:=?_) (a' := ?_) #[true,true,true,true,true,true,true,true,true,true,false,true,false,false,true,false,false,false,false,false,false,false,false,false,false,false,false,false,false] rfl rfl (by kernel_rfl) (fun _ _ _ h => h) (Or.inl ⟨by rfl, ?_⟩) ?_ ?_
    rotate_left
    ·intro w'
     go_simp
     with_reducible rfl
    rotate_left
    ·simp only [Act.put, zSa, zSb, zSc, i64_w, i32_w]
     rfl
    refine pure_ (i:=15) (N:=some 106) (v:=?_) (a' := ?_) #[true,true,true,true,true,true,true,true,true,true,false,true,false,false,true,true,false,false,false,false,false,false,false,false,false,false,false,false,false] rfl rfl (by kernel_rfl) (fun _ _ _ h => h) (Or.inl ⟨by rfl, ?_⟩) ?_ ?_
    rotate_left
    ·intro w'
     go_simp
     with_reducible rfl
    rotate_left
    ·simp only [Act.put, zSa, zSb, zSc, i64_w, i32_w]
     rfl
    refine pure_ (i:=16) (N:=some 107) (v:=?_) (a' := ?_) #[true,true,true,true,true,true,true,true,true,true,false,true,false,false,true,true,true,false,false,false,false,false,false,false,false,false,false,false,false] rfl rfl (by kernel_rfl) (fun _ _ _ h => h) (Or.inl ⟨by rfl, ?_⟩) ?_ ?_
    rotate_left
    ·intro w'
     go_simp
     with_reducible rfl
    rotate_left
    ·simp only [Act.put, zSa, zSb, zSc, i64_w, i32_w]
     rfl
    refine pure_ (i:=18) (N:=some 109) (v:=?_) (a' := ?_) #[true,true,true,true,true,true,true,true,true,true,false,true,false,false,true,true,true,false,true,false,false,false,false,false,false,false,false,false,false] rfl rfl (by kernel_rfl) (fun _ _ _ h => h) (Or.inl ⟨by rfl, ?_⟩) ?_ ?_
    rotate_left
    ·intro w'
     go_simp
     with_reducible rfl
    rotate_left
    ·simp only [Act.put, zSa, zSb, zSc, i64_w, i32_w]
     rfl
    refine take_ (i:=10) (N:=some 101) (v:=?_) (a' := ?_) #[true,true,true,true,true,true,true,true,true,true,true,true,false,false,true,true,true,false,true,false,false,false,false,false,false,false,false,false,false] rfl rfl (by kernel_rfl) (fun _ _ _ h => h) (Or.inl ⟨by rfl, ?_⟩) hHeld ?_ ?_
    rotate_left
    ·rintro w' ⟨s0, s1, s2, s3, s4⟩
     go_simp
     with_reducible rfl
    rotate_left
    ·simp only [Act.put, zSa, zSb, zSc, i64_w, i32_w]
     rfl
    refine pure_ (i:=12) (N:=some 103) (v:=?_) (a' := ?_) #[true,true,true,true,true,true,true,true,true,true,true,true,true,false,true,true,true,false,true,false,false,false,false,false,false,false,false,false,false] rfl rfl (by kernel_rfl) (fun _ _ _ h => h) (Or.inl ⟨by rfl, ?_⟩) ?_ ?_
    rotate_left
    ·intro w'
     go_simp
     with_reducible rfl
    rotate_left
    ·simp only [Act.put, zSa, zSb, zSc, i64_w, i32_w]
     rfl
    refine take_ (i:=13) (N:=some 104) (v:=?_) (a' := ?_) #[true,true,true,true,true,true,true,true,true,true,true,true,true,true,true,true,true,false,true,false,false,false,false,false,false,false,false,false,false] rfl rfl (by kernel_rfl) (fun _ _ _ h => h) (Or.inl ⟨by rfl, ?_⟩) hHeld ?_ ?_
    rotate_left
    ·rintro w' ⟨s0, s1, s2, s3, s4⟩
     go_simp
     with_reducible rfl
    rotate_left
    ·simp only [Act.put, zSa, zSb, zSc, i64_w, i32_w]
     rfl
    refine take_ (i:=17) (N:=some 108) (v:=?_) (a' := ?_) #[true,true,true,true,true,true,true,true,true,true,true,true,true,true,true,true,true,true,true,false,false,false,false,false,false,false,false,false,false] rfl rfl (by kernel_rfl) (fun _ _ _ h => h) (Or.inl ⟨by rfl, ?_⟩) hHeld ?_ ?_
    rotate_left
    ·rintro w' ⟨s0, s1, s2, s3, s4⟩
     go_simp
     with_reducible rfl
    rotate_left
    ·simp only [Act.put, zSa, zSb, zSc, i64_w, i32_w]
     rfl
    refine pure_ (i:=19) (N:=some 110) (v:=?_) (a' := ?_) #[true,true,true,true,true,true,true,true,true,true,true,true,true,true,true,true,true,true,true,true,false,false,false,false,false,false,false,false,false] rfl rfl (by kernel_rfl) (fun _ _ _ h => h) (Or.inl ⟨by rfl, ?_⟩) ?_ ?_
    rotate_left
    ·intro w'
     go_simp
     with_reducible rfl
    rotate_left
    ·simp only [Act.put, zSa, zSb, zSc, i64_w, i32_w]
     rfl
    refine take_ (i:=20) (N:=some 111) (v:=?_) (a' := ?_) #[true,true,true,true,true,true,true,true,true,true,true,true,true,true,true,true,true,true,true,true,true,false,false,false,false,false,false,false,false] rfl rfl (by kernel_rfl) (fun _ _ _ h => h) (Or.inl ⟨by rfl, ?_⟩) hHeld ?_ ?_
    rotate_left
    ·rintro w' ⟨s0, s1, s2, s3, s4⟩
     go_simp
     with_reducible rfl
    rotate_left
    ·simp only [Act.put, zSa, zSb, zSc, i64_w, i32_w]
     rfl
    refine pure_ (i:=21) (N:=some 112) (v:=?_) (a' := ?_) #[true,true,true,true,true,true,true,true,true,true,true,true,true,true,true,true,true,true,true,true,true,true,false,false,false,false,false,false,false] rfl rfl (by kernel_rfl) (fun _ _ _ h => h) (Or.inl ⟨by rfl, ?_⟩) ?_ ?_
    rotate_left
    ·intro w'
     go_simp
     with_reducible rfl
    rotate_left
    ·simp only [Act.put, zSa, zSb, zSc, i64_w, i32_w]
     rfl
    refine pure_ (i:=22) (N:=some 113) (v:=?_) (a' := ?_) #[true,true,true,true,true,true,true,true,true,true,true,true,true,true,true,true,true,true,true,true,true,true,true,false,false,false,false,false,false] rfl rfl (by kernel_rfl) (fun _ _ _ h => h) (Or.inl ⟨by rfl, ?_⟩) ?_ ?_
    rotate_left
    ·intro w'
     go_simp
     with_reducible rfl
    rotate_left
    ·simp only [Act.put, zSa, zSb, zSc, i64_w, i32_w]
     rfl
    refine pure_ (i:=23) (N:=some 114) (v:=?_) (a' := ?_) #[true,true,true,true,true,true,true,true,true,true,true,true,true,true,true,true,true,true,true,true,true,true,true,true,false,false,false,false,false] rfl rfl (by kernel_rfl) (fun _ _ _ h => h) (Or.inl ⟨by rfl, ?_⟩) ?_ ?_
    rotate_left
    ·intro w'
     go_simp
     with_reducible rfl
    rotate_left
    ·simp only [Act.put, zSa, zSb, zSc, i64_w, i32_w]
     rfl
    refine pure_ (i:=24) (N:=some 115) (v:=undef) (a' := ?_) #[true,true,true,true,true,true,true,true,true,true,true,true,true,true,true,true,true,true,true,true,true,true,true,true,true,false,false,false,false] rfl rfl (by kernel_rfl) (fun _ _ _ h => h) (Or.inr ⟨by rfl, rfl⟩) ?_ ?_
    rotate_left
    ·simp only [Act.put, zSa, zSb, zSc, i64_w, i32_w]
     rfl
    refine pure_ (i:=25) (N:=some 116) (v:=undef) (a' := ?_) #[true,true,true,true,true,true,true,true,true,true,true,true,true,true,true,true,true,true,true,true,true,true,true,true,true,true,false,false,false] rfl rfl (by kernel_rfl) (fun _ _ _ h => h) (Or.inr ⟨by rfl, rfl⟩) ?_ ?_
    rotate_left
    ·simp only [Act.put, zSa, zSb, zSc, i64_w, i32_w]
     rfl
    refine pure_ (i:=26) (N:=some 117) (v:=undef) (a' := ?_) #[true,true,true,true,true,true,true,true,true,true,true,true,true,true,true,true,true,true,true,true,true,true,true,true,true,true,true,false,false] rfl rfl (by kernel_rfl) (fun _ _ _ h => h) (Or.inr ⟨by rfl, rfl⟩) ?_ ?_
    rotate_left
    ·simp only [Act.put, zSa, zSb, zSc, i64_w, i32_w]
     rfl
    refine pure_ (i:=27) (N:=some 118) (v:=?_) (a' := ?_) #[true,true,true,true,true,true,true,true,true,true,true,true,true,true,true,true,true,true,true,true,true,true,true,true,true,true,true,true,false] rfl rfl (by kernel_rfl) (fun _ _ _ h => h) (Or.inl ⟨by rfl, ?_⟩) ?_ ?_
    rotate_left
    ·intro w'
     go_simp
     with_reducible rfl
    rotate_left
    ·simp only [Act.put, zSa, zSb, zSc, i64_w, i32_w]
     rfl
    refine pure_ (i:=28) (N:=some 119) (v:=?_) (a' := ?_) #[true,true,true,true,true,true,true,true,true,true,true,true,true,true,true,true,true,true,true,true,true,true,true,true,true,true,true,true,true] rfl rfl (by kernel_rfl) (fun _ _ _ h => h) (Or.inl ⟨by rfl, ?_⟩) ?_ ?_
    rotate_left
    ·intro w'
     go_simp
     with_reducible rfl
    rotate_left
    ·simp only [Act.put, zSa, zSb, zSc, i64_w, i32_w]
     rfl
    refine done_ (by kernel_rfl) ?_
    try go_wp2
    go_meet
    case rel => exact ⟨rfl, HS9⟩
 case rest =>
  clear HS8
  obtain ⟨rfl, HS9⟩ := hcut
  have he := HE.out
  clear HE HCN
  cases c with
  | false =>
   rw [if_neg Bool.false_ne_true] at he
   obtain rfl := zOi he
   go_wp2
   first | go_end0 | ((try simp only [Exit.inBlock, Exit.then]); refine bodyPost_ret (results_none rfl _ _ _) rfl ?_)
   exact ⟨rfl, _, HS9.out⟩
  | true =>
   rw [if_pos rfl] at he
   by_cases hpc : p < (s3.cut.length : Int)
   rotate_left
   ·rw [if_neg hpc] at he; cases he
   rw [if_pos hpc] at he
   obtain rfl := zOi he
   obtain ⟨g6, c6, e6, -, -, -⟩ := Kd.R_form HS9.out.h6 (by have := P0.out; omega)
   have z6 : wc.cell? ⟨gw, 6, none⟩ = some (.slice (some ⟨g6, 0, none⟩) s3.cut.length c6) := (zKc HS9.out.hw 6).trans (congrArg some e6)
   have h6' := HS9.out.h6
   rw [e6] at h6'
   obtain ⟨hxc, hfc⟩ := Kd.R_celln false h6' p P0.out hpc
   have p1 : (0 ≤ p) = True := eq_true P0.out
   have p2 : (p < (s3.cut.length : Int)) = True := eq_true hpc
   have HF := zMk (HS9.out.put6 e6 p true)
   clear he h6' hpc e6
   go_wp2
   first | go_end0 | ((try simp only [Exit.inBlock, Exit.then]); refine bodyPost_ret (results_none rfl _ _ _) rfl ?_)
   exact ⟨rfl, _, HF.out⟩
end Go.Proofs.Ytkiemlbobcklpaa.A
