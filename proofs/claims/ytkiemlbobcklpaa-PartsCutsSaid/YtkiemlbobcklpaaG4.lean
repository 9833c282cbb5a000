/- Lemmas for the statement: the walks of the functions that it reaches, and plain laws. -/
import Derived.Test.YtkiemlbobcklpaaG1
import Derived.Test.YtkiemlbobcklpaaG3
import Derived.Test.YtkiemlbobcklpaaG2
set_option linter.unusedVariables false
set_option linter.unusedSimpArgs false
set_option maxHeartbeats 8000000
set_option maxRecDepth 100000
namespace Go.Proofs.Ytkiemlbobcklpaa.A
open Go Go.RowKit Go.Proofs.YtkiemlbobcklpaaW.PrintWords Go.Proofs.YtkiemlbobcklpaaW.PrintLast Go.Proofs.YtkiemlbobcklpaaW.PrintMore
attribute [local go_sem] max2_int min2_int max_two min_two max_three min_three max_four min_four
open Go.Proofs.YtkiemlbobcklpaaW.PrintWords.Kd renaming R_alloc → zRa, R_drewN → zRn, R_drew → zRd, C_alloc → zCa, C_drewN → zCn, C_drew → zCd, R_mono → zRm, at_int → zAi, R_elder' → zRe, R_lower → zRl, R_new' → zRw, R_lt → zRt, R_below → zRb, R_base → zRz, R_reads' → zRr, R_slice → zRs
open Go.Proofs.YtkiemlbobcklpaaW.PrintWords renaming pw_below_drewN → zBn, below_alloc → zBa, below_drew1 → zBd, below_size → zBs, below_step → zBt, blk_drewN → zKn, blk_drew → zKd, blk_alloc → zKa, blk_below → zKb, blk_cell → zKc, blk_frozen → zKf
open List renaming setIfInBounds_toArray → zSa, set_cons_zero → zSb, set_cons_succ → zSc, length_drop → zLd, length_take → zLt, map_toArray → zMa, map_cons → zMc, map_nil → zMn, length_cons → zLc, length_nil → zLn
open Go.Proofs.YtkiemlbobcklpaaW.PrintWords.Aside0 renaming mk → zMk
open Option renaming bind_eq_some_iff → zBi, bind_some → zOb
open Option.some renaming inj → zOi
open Int renaming toNat_natCast → zTn

mutual
def r6_Labels.l0 : Nat → List Int → Int → Int → List (S43) → Option (List Int)
 | 0, _, _, _, _ => none
 | k + 1, x3, x4, x376000, x376001 => if x4 < x376000 then (if 0 ≤ x4 then (if x4 < (x3.length : Int) then (r6_Labels.l0 k (x3.set (x4 : Int).toNat x4) (wrap64 (x4 + 1)) x376000 x376001) else (none)) else (none)) else (r6_Labels.l1 k x3 0 x376000 x376001)
def r6_Labels.l1 : Nat → List Int → Int → Int → List (S43) → Option (List Int)
 | 0, _, _, _, _ => none
 | k + 1, x3, x5, x376000, x376001 => if x5 < x376000 then (r6_Labels.l2 k x3 x5 0 x376000 x376001) else (some x3)
def r6_Labels.l2 : Nat → List Int → Int → Int → Int → List (S43) → Option (List Int)
 | 0, _, _, _, _, _ => none
 | k + 1, x3, x5, x6, x376000, x376001 => if x6 < (x376001.length : Int) then (if 0 ≤ x6 then (if 0 ≤ ((rd_T43 x376001 x6).f0) then (if ((rd_T43 x376001 x6).f0) < (x3.length : Int) then (if 0 ≤ ((rd_T43 x376001 x6).f1) then (if ((rd_T43 x376001 x6).f1) < (x3.length : Int) then (r6_Labels.l2 k ((x3.set (((rd_T43 x376001 x6).f0) : Int).toNat (mn (rd x3 ((rd_T43 x376001 x6).f0)) (rd x3 ((rd_T43 x376001 x6).f1)))).set (((rd_T43 x376001 x6).f1) : Int).toNat (mn (rd x3 ((rd_T43 x376001 x6).f0)) (rd x3 ((rd_T43 x376001 x6).f1)))) x5 (wrap64 (x6 + 1)) x376000 x376001) else (none)) else (none)) else (none)) else (none)) else (none)) else (r6_Labels.l1 k x3 (wrap64 (x5 + 1)) x376000 x376001)
end
def r6_Labels.f (k : Nat) (a0_0 : Int) (l0_1 : List (S43)) : Option (List Int) := if 0 ≤ a0_0 then (if (a0_0 : Int).toNat ≤ 35184372088832 then (r6_Labels.l0 k (List.replicate (a0_0 : Int).toNat 0) 0 a0_0 l0_1) else (none)) else (none)
theorem r6_Labels.calls (k : Nat) (a0_0 : Int) (A0_1 : Option Addr) (c0_1 : Nat) (l0_1 : List (S43)) (r : List Int) (w : World) (hr0_1 : Kd.C k43 w A0_1 l0_1.length l0_1) (hc0_1 : l0_1.length ≤ c0_1) (h : r6_Labels.f k a0_0 l0_1 = some r) :
  Calls Try.prog 30 #[.agg #[.int .i64 a0_0, .slice A0_1 l0_1.length c0_1]] w fun e w' => ∃ v0_ : Value, e = .returned (v0_) ∧ Kd.R (Kd.int .i64) 3 w' w.heap.size (fun _ => True) v0_ r ∧ Below w.heap.size w w' := by
 have hu24 := Try.underlying24
 have HR0_1 := zMk hr0_1
 have HC0_1 := zMk hc0_1
 clear hr0_1 hc0_1
 have HB := zMk (Below.refl w.heap.size w)
 have H : (if 0 ≤ a0_0 then (if (a0_0 : Int).toNat ≤ 35184372088832 then (r6_Labels.l0 k (List.replicate (a0_0 : Int).toNat 0) 0 a0_0 l0_1) else (none)) else (none)) = some r := h
 clear h
 by_cases c2 : 0 ≤ a0_0
 ·rw [if_pos c2] at H
  have c2b0 := eq_true c2
  have c2b1 : decide (0 ≤ a0_0) = true := decide_eq_true c2
  clear c2
  by_cases c3 : (a0_0 : Int).toNat ≤ 35184372088832
  rotate_left
  ·rw [if_neg c3] at H; exact absurd H (by simp)
  rw [if_pos c3] at H
  have c3b0 := eq_true c3
  have c3b1 : decide ((a0_0 : Int).toNat ≤ 35184372088832) = true := decide_eq_true c3
  clear c3
  obtain ⟨y376, hy376⟩ : ∃ y_ : List Int, y_ = (List.replicate (a0_0 : Int).toNat 0) := ⟨_, rfl⟩
  replace H : (r6_Labels.l0 k y376 0 a0_0 l0_1) = some r := by first | (rw [hy376]; with_reducible exact H) | (have H2_ := bsm H; first | (rw [hy376]; with_reducible exact H2_) | with_reducible exact H2_) | with_reducible exact H | (rw [hy376]; exact H) | exact H
  have Ny376 := zMk hy376
  clear hy376
  have H' := zMk H
  clear H
  go_enter Try.func30, Try.ntmps30
  go_wp2_with (first | ((with_reducible refine gate_dst (N:=1) rfl ?_); refine box_event ?hg (N:=1) ?hd (cs:=#[.int .i64 a0_0, .slice A0_1 l0_1.length c0_1]) (t:=24) ?hr ?_; (case hd => rfl); (case hg => rfl); (case hr => first | (go_simp; done)|(go_simp; rfl)|(go_simp; rw [show ∀ x : Int, IntKind.u32.wrap (IntKind.u8.wrap x) = x % 256 from fun x => (by show (x % 256) % 4294967296 = x % 256; omega)])); intro gb375 hg w4 hbox hb; have BK375 := zMk (hbox); have GW375 := zMk ((by rw [hg]; exact (zBs (by exact uT HB.out)) : w.heap.size ≤ gb375)); have GE375 := zMk ((by rw [hg]; exact (zBs (by exact uT HB.out)) : w.heap.size ≤ gb375)); have IGE375 := ownGe GE375.out; replace HB := zMk (zBt (by exact uT HB.out) hb); clear hb hbox hg; have hcz5_0 : w4.cell? ⟨gb375, 0, none⟩ = some (.int .i64 a0_0) := (zKc BK375.out 0).trans rfl; have hcz5_1 : w4.cell? ⟨gb375, 1, none⟩ = some (.slice A0_1 l0_1.length c0_1) := (zKc BK375.out 1).trans rfl; have hfz5_0 := zKf BK375.out 0; have hfz5_1 := zKf BK375.out 1)|((with_reducible refine gate_dst (N:=10) rfl ?_); refine Kd.R_make (Kd.int .i64) _ 3 rfl (N:=10) rfl 33 _ _ rfl a0_0 rfl rfl Try.underlying33 (.int .i64 0) 8 info3 rfl (by decide) (by omega) 0 (ok:=fun _ => True) (okp:=fun _ => True) rfl (fun _ hk => hk) trivial (of_decide_eq_true (by first | (with_reducible assumption)|  assumption)) (Nat.le_trans (Nat.mul_le_mul_right _ (of_decide_eq_true (by first | (with_reducible assumption)|  assumption) : a0_0.toNat ≤ 35184372088832)) (by omega)) (Below.refl _ _) (Nat.le_refl _) ?_; intro v377 w6 ho7 hb hg_ hnew_; clear hg_ hnew_; (first |  rw [← Ny376.out] at ho7|  (simp only [Int.reduceToNat] at ho7; rw [← Ny376.out] at ho7)); have HO378 := zMk (zRl ho7 (zBs (by exact uT HB.out))); replace BK375 := zMk (zKb (g:=gb375) (o:=.cells #[.int .i64 a0_0, .slice A0_1 l0_1.length c0_1] 24 (0, 0)) (by (with_reducible repeat (first |  refine zKn ?_ _|  refine zKd ?_|  refine zKa ?_ _)); exact BK375.out) hb); replace HB := zMk (zBt (by exact uT HB.out) hb); clear hb ho7))
  repeat (go_quiet (first | ((with_reducible refine gate_dst (N:=1) rfl ?_); refine box_event ?hg (N:=1) ?hd (cs:=#[.int .i64 a0_0, .slice A0_1 l0_1.length c0_1]) (t:=24) ?hr ?_; (case hd => rfl); (case hg => rfl); (case hr => first | (go_simp; done)|(go_simp; rfl)|(go_simp; rw [show ∀ x : Int, IntKind.u32.wrap (IntKind.u8.wrap x) = x % 256 from fun x => (by show (x % 256) % 4294967296 = x % 256; omega)])); intro gb375 hg w4 hbox hb; have BK375 := zMk (hbox); have GW375 := zMk ((by rw [hg]; exact (zBs (by exact uT HB.out)) : w.heap.size ≤ gb375)); have GE375 := zMk ((by rw [hg]; exact (zBs (by exact uT HB.out)) : w.heap.size ≤ gb375)); have IGE375 := ownGe GE375.out; replace HB := zMk (zBt (by exact uT HB.out) hb); clear hb hbox hg; have hcz5_0 : w4.cell? ⟨gb375, 0, none⟩ = some (.int .i64 a0_0) := (zKc BK375.out 0).trans rfl; have hcz5_1 : w4.cell? ⟨gb375, 1, none⟩ = some (.slice A0_1 l0_1.length c0_1) := (zKc BK375.out 1).trans rfl; have hfz5_0 := zKf BK375.out 0; have hfz5_1 := zKf BK375.out 1)|((with_reducible refine gate_dst (N:=10) rfl ?_); refine Kd.R_make (Kd.int .i64) _ 3 rfl (N:=10) rfl 33 _ _ rfl a0_0 rfl rfl Try.underlying33 (.int .i64 0) 8 info3 rfl (by decide) (by omega) 0 (ok:=fun _ => True) (okp:=fun _ => True) rfl (fun _ hk => hk) trivial (of_decide_eq_true (by first | (with_reducible assumption)|  assumption)) (Nat.le_trans (Nat.mul_le_mul_right _ (of_decide_eq_true (by first | (with_reducible assumption)|  assumption) : a0_0.toNat ≤ 35184372088832)) (by omega)) (Below.refl _ _) (Nat.le_refl _) ?_; intro v377 w6 ho7 hb hg_ hnew_; clear hg_ hnew_; (first |  rw [← Ny376.out] at ho7|  (simp only [Int.reduceToNat] at ho7; rw [← Ny376.out] at ho7)); have HO378 := zMk (zRl ho7 (zBs (by exact uT HB.out))); replace BK375 := zMk (zKb (g:=gb375) (o:=.cells #[.int .i64 a0_0, .slice A0_1 l0_1.length c0_1] 24 (0, 0)) (by (with_reducible repeat (first |  refine zKn ?_ _|  refine zKd ?_|  refine zKa ?_ _)); exact BK375.out) hb); replace HB := zMk (zBt (by exact uT HB.out) hb); clear hb ho7)); try go_wp2_with (first | ((with_reducible refine gate_dst (N:=1) rfl ?_); refine box_event ?hg (N:=1) ?hd (cs:=#[.int .i64 a0_0, .slice A0_1 l0_1.length c0_1]) (t:=24) ?hr ?_; (case hd => rfl); (case hg => rfl); (case hr => first | (go_simp; done)|(go_simp; rfl)|(go_simp; rw [show ∀ x : Int, IntKind.u32.wrap (IntKind.u8.wrap x) = x % 256 from fun x => (by show (x % 256) % 4294967296 = x % 256; omega)])); intro gb375 hg w4 hbox hb; have BK375 := zMk (hbox); have GW375 := zMk ((by rw [hg]; exact (zBs (by exact uT HB.out)) : w.heap.size ≤ gb375)); have GE375 := zMk ((by rw [hg]; exact (zBs (by exact uT HB.out)) : w.heap.size ≤ gb375)); have IGE375 := ownGe GE375.out; replace HB := zMk (zBt (by exact uT HB.out) hb); clear hb hbox hg; have hcz5_0 : w4.cell? ⟨gb375, 0, none⟩ = some (.int .i64 a0_0) := (zKc BK375.out 0).trans rfl; have hcz5_1 : w4.cell? ⟨gb375, 1, none⟩ = some (.slice A0_1 l0_1.length c0_1) := (zKc BK375.out 1).trans rfl; have hfz5_0 := zKf BK375.out 0; have hfz5_1 := zKf BK375.out 1)|((with_reducible refine gate_dst (N:=10) rfl ?_); refine Kd.R_make (Kd.int .i64) _ 3 rfl (N:=10) rfl 33 _ _ rfl a0_0 rfl rfl Try.underlying33 (.int .i64 0) 8 info3 rfl (by decide) (by omega) 0 (ok:=fun _ => True) (okp:=fun _ => True) rfl (fun _ hk => hk) trivial (of_decide_eq_true (by first | (with_reducible assumption)|  assumption)) (Nat.le_trans (Nat.mul_le_mul_right _ (of_decide_eq_true (by first | (with_reducible assumption)|  assumption) : a0_0.toNat ≤ 35184372088832)) (by omega)) (Below.refl _ _) (Nat.le_refl _) ?_; intro v377 w6 ho7 hb hg_ hnew_; clear hg_ hnew_; (first |  rw [← Ny376.out] at ho7|  (simp only [Int.reduceToNat] at ho7; rw [← Ny376.out] at ho7)); have HO378 := zMk (zRl ho7 (zBs (by exact uT HB.out))); replace BK375 := zMk (zKb (g:=gb375) (o:=.cells #[.int .i64 a0_0, .slice A0_1 l0_1.length c0_1] 24 (0, 0)) (by (with_reducible repeat (first |  refine zKn ?_ _|  refine zKd ?_|  refine zKa ?_ _)); exact BK375.out) hb); replace HB := zMk (zBt (by exact uT HB.out) hb); clear hb ho7)))
  go_loopg [4] k (fun kq v4 w' => ∃ (x3_1 : List Int) (x4_1 : Int), v4 = .int .i64 x4_1 ∧ Aside0 (r6_Labels.l0 kq x3_1 x4_1 a0_0 l0_1 = some r) ∧ Aside0 (kq ≤ k) ∧ Aside0 (Kd.R (Kd.int .i64) 3 w' w.heap.size (fun _ => True) v377 x3_1) ∧ Aside0 (w'.heap[gb375]? = some (.cells #[.int .i64 a0_0, (.slice A0_1 l0_1.length c0_1)] 24 (0, 0))) ∧ Aside0 (Below w.heap.size w w'))
  case atStart => exact ⟨(y376), (0), (by first | rfl | (simp; done) | (simp [*]; done)), H', ⟨Nat.le_refl _⟩, ⟨by exact uR HO378.out⟩, ⟨by (with_reducible repeat (first | refine zKn ?_ _ | refine zKd ?_ | refine zKa ?_ _)); exact BK375.out⟩, ⟨by exact uT HB.out⟩⟩
  clear H'
  obtain ⟨x3_1, x4_1, rfl, HA, HK1, HO_3, BK375, HB⟩ := hrel
  rcases gk with _ | k1
  ·exact absurd HA.out (by simp [r6_Labels.l0])
  have H := HA.out
  clear HA
  simp only [r6_Labels.l0] at H
  by_cases c8 : x4_1 < a0_0
  ·rw [if_pos c8] at H
   have c8b0 : decide (x4_1 < a0_0) = true := decide_eq_true c8
   clear c8
   by_cases c9 : 0 ≤ x4_1
   rotate_left
   ·rw [if_neg c9] at H; exact absurd H (by simp)
   rw [if_pos c9] at H
   have c9b0 : decide (0 ≤ x4_1) = true := decide_eq_true c9
   clear c9
   by_cases c10 : x4_1 < (x3_1.length : Int)
   rotate_left
   ·rw [if_neg c10] at H; exact absurd H (by simp)
   rw [if_pos c10] at H
   have c10b0 : decide (x4_1 < (x3_1.length : Int)) = true := decide_eq_true c10
   clear c10
   obtain ⟨y379, hy379⟩ : ∃ y_ : List Int, y_ = (x3_1.set (x4_1 : Int).toNat x4_1) := ⟨_, rfl⟩
   replace H : (r6_Labels.l0 k1 y379 (wrap64 (x4_1 + 1)) a0_0 l0_1) = some r := by first | (rw [hy379]; with_reducible exact H) | (have H2_ := bsm H; first | (rw [hy379]; with_reducible exact H2_) | with_reducible exact H2_) | with_reducible exact H | (rw [hy379]; exact H) | exact H
   have Ny379 := zMk hy379
   clear hy379
   have H' := zMk H
   clear H
   have hcz12_0 : wr.cell? ⟨gb375, 0, none⟩ = some (.int .i64 a0_0) := (zKc BK375.out 0).trans rfl
   have hcz12_1 : wr.cell? ⟨gb375, 1, none⟩ = some (.slice A0_1 l0_1.length c0_1) := (zKc BK375.out 1).trans rfl
   have hfz12_0 := zKf BK375.out 0
   have hfz12_1 := zKf BK375.out 1
   have p11 : 0 ≤ (x4_1 : Int) := of_decide_eq_true (by assumption)
   have q11 : (x4_1 : Int) < ((x3_1.length : Int) : Int) := of_decide_eq_true (by assumption)
   obtain ⟨go11, co11, eo11, gb11, gl11, cl11, HG11⟩ := Kd.R_form HO_3.out (by omega)
   (first |  cases eo11|  (injection eo11 with ea_ en_ ec_; (first |  subst ea_|  (injection ea_ with ea_; subst ea_)); subst ec_; clear en_))
   have GB11 := zMk gb11
   have IGB11 := ownGe GB11.out
   have GG11 := zMk HG11
   clear gb11 gl11 HG11
   obtain ⟨hx11_0, hf11_0⟩ := Kd.R_celln 0 HO_3.out (x4_1 : Int) p11 q11
   replace p11 := eq_true p11
   replace q11 := eq_true q11
   have HP13 := Kd.R_putg HO_3.out (x4_1 : Int) x4_1
   go_wp2_with (first | ((with_reducible refine gate_store (t:=3) (p:=20) rfl ?_); (try (rw [drewN_self wr]; generalize hq_ : World.drewN wr _ = wr; replace HO_3 := zMk (Kd.R_at hq_ HO_3.out); replace BK375 := zMk (blk_at hq_ BK375.out); replace HB := zMk (below_at hq_ HB.out); clear hq_; (try (obtain ⟨hy13_, hz13_⟩ := Kd.R_celln 0 HO_3.out (x4_1 : Int) (of_decide_eq_true (by assumption)) (of_decide_eq_true (by assumption)))); (try (have HP13 := Kd.R_putg HO_3.out (x4_1 : Int) x4_1)))); refine store_event (t:=3) (p:=20) (v:=?vo_w14) (w1:=(wr.setCell ⟨go11, (x4_1 : Int).toNat, none⟩ (.int .i64 x4_1))) ?hg ?ho ?hn ?hr ?_; (case ho => rfl); (case hg => rfl); (case hn => rfl); (case hr => first | (go_simp; done)|(go_simp; rfl)|(go_simp; rw [show ∀ x : Int, IntKind.u32.wrap (IntKind.u8.wrap x) = x % 256 from fun x => (by show (x % 256) % 4294967296 = x % 256; omega)])); intro w14 hw; have hg : wr.grownBy w14 (some go11) := (by rw [hw]; exact HP13.2); have hp_ : Kd.R (Kd.int .i64) 3 w14 w.heap.size (fun _ => True) (.slice (some ⟨go11, 0, none⟩) x3_1.length co11) y379 := (by rw [hw, Ny379.out]; exact HP13.1); clear HP13; replace BK375 := zMk (blk_grown (g:=gb375) (o:=.cells #[.int .i64 a0_0, .slice A0_1 l0_1.length c0_1] 24 (0, 0)) (by (with_reducible repeat (first |  refine zKn ?_ _|  refine zKd ?_|  refine zKa ?_ _)); exact BK375.out) hg (Kd.R_ne HO_3.out BK375.out (by decide))); replace HO_3 := zMk (hp_); replace HB := zMk ((by rw [hw]; exact below_set (HB.out) GB11.out : Below w.heap.size w w14)); clear hg hw hp_))
   repeat (go_quiet (first | ((with_reducible refine gate_store (t:=3) (p:=20) rfl ?_); (try (rw [drewN_self wr]; generalize hq_ : World.drewN wr _ = wr; replace HO_3 := zMk (Kd.R_at hq_ HO_3.out); replace BK375 := zMk (blk_at hq_ BK375.out); replace HB := zMk (below_at hq_ HB.out); clear hq_; (try (obtain ⟨hy13_, hz13_⟩ := Kd.R_celln 0 HO_3.out (x4_1 : Int) (of_decide_eq_true (by assumption)) (of_decide_eq_true (by assumption)))); (try (have HP13 := Kd.R_putg HO_3.out (x4_1 : Int) x4_1)))); refine store_event (t:=3) (p:=20) (v:=?vo_w14) (w1:=(wr.setCell ⟨go11, (x4_1 : Int).toNat, none⟩ (.int .i64 x4_1))) ?hg ?ho ?hn ?hr ?_; (case ho => rfl); (case hg => rfl); (case hn => rfl); (case hr => first | (go_simp; done)|(go_simp; rfl)|(go_simp; rw [show ∀ x : Int, IntKind.u32.wrap (IntKind.u8.wrap x) = x % 256 from fun x => (by show (x % 256) % 4294967296 = x % 256; omega)])); intro w14 hw; have hg : wr.grownBy w14 (some go11) := (by rw [hw]; exact HP13.2); have hp_ : Kd.R (Kd.int .i64) 3 w14 w.heap.size (fun _ => True) (.slice (some ⟨go11, 0, none⟩) x3_1.length co11) y379 := (by rw [hw, Ny379.out]; exact HP13.1); clear HP13; replace BK375 := zMk (blk_grown (g:=gb375) (o:=.cells #[.int .i64 a0_0, .slice A0_1 l0_1.length c0_1] 24 (0, 0)) (by (with_reducible repeat (first |  refine zKn ?_ _|  refine zKd ?_|  refine zKa ?_ _)); exact BK375.out) hg (Kd.R_ne HO_3.out BK375.out (by decide))); replace HO_3 := zMk (hp_); replace HB := zMk ((by rw [hw]; exact below_set (HB.out) GB11.out : Below w.heap.size w w14)); clear hg hw hp_)); try go_wp2_with (first | ((with_reducible refine gate_store (t:=3) (p:=20) rfl ?_); (try (rw [drewN_self wr]; generalize hq_ : World.drewN wr _ = wr; replace HO_3 := zMk (Kd.R_at hq_ HO_3.out); replace BK375 := zMk (blk_at hq_ BK375.out); replace HB := zMk (below_at hq_ HB.out); clear hq_; (try (obtain ⟨hy13_, hz13_⟩ := Kd.R_celln 0 HO_3.out (x4_1 : Int) (of_decide_eq_true (by assumption)) (of_decide_eq_true (by assumption)))); (try (have HP13 := Kd.R_putg HO_3.out (x4_1 : Int) x4_1)))); refine store_event (t:=3) (p:=20) (v:=?vo_w14) (w1:=(wr.setCell ⟨go11, (x4_1 : Int).toNat, none⟩ (.int .i64 x4_1))) ?hg ?ho ?hn ?hr ?_; (case ho => rfl); (case hg => rfl); (case hn => rfl); (case hr => first | (go_simp; done)|(go_simp; rfl)|(go_simp; rw [show ∀ x : Int, IntKind.u32.wrap (IntKind.u8.wrap x) = x % 256 from fun x => (by show (x % 256) % 4294967296 = x % 256; omega)])); intro w14 hw; have hg : wr.grownBy w14 (some go11) := (by rw [hw]; exact HP13.2); have hp_ : Kd.R (Kd.int .i64) 3 w14 w.heap.size (fun _ => True) (.slice (some ⟨go11, 0, none⟩) x3_1.length co11) y379 := (by rw [hw, Ny379.out]; exact HP13.1); clear HP13; replace BK375 := zMk (blk_grown (g:=gb375) (o:=.cells #[.int .i64 a0_0, .slice A0_1 l0_1.length c0_1] 24 (0, 0)) (by (with_reducible repeat (first |  refine zKn ?_ _|  refine zKd ?_|  refine zKa ?_ _)); exact BK375.out) hg (Kd.R_ne HO_3.out BK375.out (by decide))); replace HO_3 := zMk (hp_); replace HB := zMk ((by rw [hw]; exact below_set (HB.out) GB11.out : Below w.heap.size w w14)); clear hg hw hp_)))
   go_roundg k1
   case measure => have := HK1.out; omega
   case rel => exact ⟨(y379), (wrap64 (x4_1 + 1)), (by first | rfl | (simp; done) | (simp [*]; done)), H', ⟨by have := HK1.out; omega⟩, ⟨by exact uR HO_3.out⟩, ⟨by (with_reducible repeat (first | refine zKn ?_ _ | refine zKd ?_ | refine zKa ?_ _)); exact BK375.out⟩, ⟨by exact uT HB.out⟩⟩
  ·rw [if_neg c8] at H
   have c8b0 : decide (x4_1 < a0_0) = false := decide_eq_false c8
   clear c8
   have H' := zMk H
   clear H
   have hcz15_0 : wr.cell? ⟨gb375, 0, none⟩ = some (.int .i64 a0_0) := (zKc BK375.out 0).trans rfl
   have hcz15_1 : wr.cell? ⟨gb375, 1, none⟩ = some (.slice A0_1 l0_1.length c0_1) := (zKc BK375.out 1).trans rfl
   have hfz15_0 := zKf BK375.out 0
   have hfz15_1 := zKf BK375.out 1
   go_wp2
   repeat (go_quiet (fail); try go_wp2)
   go_loopg [5] k1 (fun kq v5 w' => ∃ (x3_2 : List Int) (x5_2 : Int), v5 = .int .i64 x5_2 ∧ Aside0 (r6_Labels.l1 kq x3_2 x5_2 a0_0 l0_1 = some r) ∧ Aside0 (kq ≤ k1) ∧ Aside0 (Kd.R (Kd.int .i64) 3 w' w.heap.size (fun _ => True) v377 x3_2) ∧ Aside0 (w'.heap[gb375]? = some (.cells #[.int .i64 a0_0, (.slice A0_1 l0_1.length c0_1)] 24 (0, 0))) ∧ Aside0 (Below w.heap.size w w'))
   case atStart => exact ⟨(x3_1), (0), (by first | rfl | (simp; done) | (simp [*]; done)), H', ⟨Nat.le_refl _⟩, ⟨by exact uR HO_3.out⟩, ⟨by (with_reducible repeat (first | refine zKn ?_ _ | refine zKd ?_ | refine zKa ?_ _)); exact BK375.out⟩, ⟨by exact uT HB.out⟩⟩
   clear H'
   obtain ⟨x3_2, x5_2, rfl, HA, HK2, HO_3, BK375, HB⟩ := hrel
   rcases gk with _ | k2
   ·exact absurd HA.out (by simp [r6_Labels.l1])
   have H := HA.out
   clear HA
   simp only [r6_Labels.l1] at H
   by_cases c16 : x5_2 < a0_0
   ·rw [if_pos c16] at H
    have c16b0 : decide (x5_2 < a0_0) = true := decide_eq_true c16
    clear c16
    have H' := zMk H
    clear H
    have hcz17_0 : wr.cell? ⟨gb375, 0, none⟩ = some (.int .i64 a0_0) := (zKc BK375.out 0).trans rfl
    have hcz17_1 : wr.cell? ⟨gb375, 1, none⟩ = some (.slice A0_1 l0_1.length c0_1) := (zKc BK375.out 1).trans rfl
    have hfz17_0 := zKf BK375.out 0
    have hfz17_1 := zKf BK375.out 1
    go_wp2
    repeat (go_quiet (fail); try go_wp2)
    go_loopg [6] k2 (fun kq v6 w' => ∃ (x3_3 : List Int) (x6_3 : Int), v6 = .int .i64 x6_3 ∧ Aside0 (r6_Labels.l2 kq x3_3 x5_2 x6_3 a0_0 l0_1 = some r) ∧ Aside0 (kq ≤ k2) ∧ Aside0 (Kd.R (Kd.int .i64) 3 w' w.heap.size (fun _ => True) v377 x3_3) ∧ Aside0 (w'.heap[gb375]? = some (.cells #[.int .i64 a0_0, (.slice A0_1 l0_1.length c0_1)] 24 (0, 0))) ∧ Aside0 (Below w.heap.size w w'))
    case atStart => exact ⟨(x3_2), (0), (by first | rfl | (simp; done) | (simp [*]; done)), H', ⟨Nat.le_refl _⟩, ⟨by exact uR HO_3.out⟩, ⟨by (with_reducible repeat (first | refine zKn ?_ _ | refine zKd ?_ | refine zKa ?_ _)); exact BK375.out⟩, ⟨by exact uT HB.out⟩⟩
    clear H'
    obtain ⟨x3_3, x6_3, rfl, HA, HK3, HO_3, BK375, HB⟩ := hrel
    rcases gk with _ | k3
    ·exact absurd HA.out (by simp [r6_Labels.l2])
    have H := HA.out
    clear HA
    simp only [r6_Labels.l2] at H
    by_cases c18 : x6_3 < (l0_1.length : Int)
    ·rw [if_pos c18] at H
     have c18b0 : decide (x6_3 < (l0_1.length : Int)) = true := decide_eq_true c18
     clear c18
     by_cases c19 : 0 ≤ x6_3
     rotate_left
     ·rw [if_neg c19] at H; exact absurd H (by simp)
     rw [if_pos c19] at H
     have c19b0 : decide (0 ≤ x6_3) = true := decide_eq_true c19
     clear c19
     by_cases c20 : 0 ≤ ((rd_T43 l0_1 x6_3).f0)
     rotate_left
     ·rw [if_neg c20] at H; exact absurd H (by simp)
     rw [if_pos c20] at H
     have c20b0 : decide (0 ≤ ((rd_T43 l0_1 x6_3).f0)) = true := decide_eq_true c20
     clear c20
     by_cases c21 : ((rd_T43 l0_1 x6_3).f0) < (x3_3.length : Int)
     rotate_left
     ·rw [if_neg c21] at H; exact absurd H (by simp)
     rw [if_pos c21] at H
     have c21b0 : decide (((rd_T43 l0_1 x6_3).f0) < (x3_3.length : Int)) = true := decide_eq_true c21
     clear c21
     by_cases c22 : 0 ≤ ((rd_T43 l0_1 x6_3).f1)
     rotate_left
     ·rw [if_neg c22] at H; exact absurd H (by simp)
     rw [if_pos c22] at H
     have c22b0 : decide (0 ≤ ((rd_T43 l0_1 x6_3).f1)) = true := decide_eq_true c22
     clear c22
     by_cases c23 : ((rd_T43 l0_1 x6_3).f1) < (x3_3.length : Int)
     rotate_left
     ·rw [if_neg c23] at H; exact absurd H (by simp)
     rw [if_pos c23] at H
     have c23b0 : decide (((rd_T43 l0_1 x6_3).f1) < (x3_3.length : Int)) = true := decide_eq_true c23
     clear c23
     obtain ⟨ji24, hji24⟩ : ∃ j_ : Int, (mn (rd x3_3 ((rd_T43 l0_1 x6_3).f0)) (rd x3_3 ((rd_T43 l0_1 x6_3).f1))) = j_ := ⟨_, rfl⟩
     replace H : (r6_Labels.l2 k3 ((x3_3.set (((rd_T43 l0_1 x6_3).f0) : Int).toNat (ji24)).set (((rd_T43 l0_1 x6_3).f1) : Int).toNat (ji24)) x5_2 (wrap64 (x6_3 + 1)) a0_0 l0_1) = some r := by first | (rw [hji24] at H; exact H) | (simp only [hji24] at H ⊢; exact H)
     have hji24_ : (if (rd x3_3 ((rd_T43 l0_1 x6_3).f1)) < (rd x3_3 ((rd_T43 l0_1 x6_3).f0)) then (rd x3_3 ((rd_T43 l0_1 x6_3).f1)) else (rd x3_3 ((rd_T43 l0_1 x6_3).f0))) = ji24 := hji24
     obtain ⟨y385, hy385⟩ : ∃ y_ : List Int, y_ = (x3_3.set (((rd_T43 l0_1 x6_3).f0) : Int).toNat (ji24)) := ⟨_, rfl⟩
     replace H : (r6_Labels.l2 k3 (y385.set (((rd_T43 l0_1 x6_3).f1) : Int).toNat (ji24)) x5_2 (wrap64 (x6_3 + 1)) a0_0 l0_1) = some r := by first | (rw [hy385]; with_reducible exact H) | (have H2_ := bsm H; first | (rw [hy385]; with_reducible exact H2_) | with_reducible exact H2_) | with_reducible exact H | (rw [hy385]; exact H) | exact H
     have Ny385 := zMk hy385
     clear hy385
     obtain ⟨y387, hy387⟩ : ∃ y_ : List Int, y_ = (y385.set (((rd_T43 l0_1 x6_3).f1) : Int).toNat (ji24)) := ⟨_, rfl⟩
     replace H : (r6_Labels.l2 k3 y387 x5_2 (wrap64 (x6_3 + 1)) a0_0 l0_1) = some r := by first | (rw [hy387]; with_reducible exact H) | (have H2_ := bsm H; first | (rw [hy387]; with_reducible exact H2_) | with_reducible exact H2_) | with_reducible exact H | (rw [hy387]; exact H) | exact H
     have Ny387 := zMk hy387
     clear hy387
     have H' := zMk H
     clear H
     have hcz27_0 : wr.cell? ⟨gb375, 0, none⟩ = some (.int .i64 a0_0) := (zKc BK375.out 0).trans rfl
     have hcz27_1 : wr.cell? ⟨gb375, 1, none⟩ = some (.slice A0_1 l0_1.length c0_1) := (zKc BK375.out 1).trans rfl
     have hfz27_0 := zKf BK375.out 0
     have hfz27_1 := zKf BK375.out 1
     have p380 : 0 ≤ (x6_3 : Int) := of_decide_eq_true (by assumption)
     have q380 : x6_3 < (l0_1.length : Int) := of_decide_eq_true (by assumption)
     obtain ⟨ad380, e380, hx380_0, hx380_1, hx380_2⟩ := at_T43 HR0_1.out x6_3 p380 q380
     cases e380
     replace hx380_0 := pw_cell_below HB.out hx380_0
     replace hx380_1 := pw_cell_below HB.out hx380_1
     replace hx380_2 := pw_cell_below HB.out hx380_2
     replace p380 := eq_true p380
     replace q380 := eq_true q380
     obtain ⟨Ao28, co28, eo28⟩ := zRs HO_3.out
     subst eo28
     have p381 : 0 ≤ (((rd_T43 l0_1 x6_3).f0) : Int) := of_decide_eq_true (by assumption)
     have q381 : ((rd_T43 l0_1 x6_3).f0) < (x3_3.length : Int) := of_decide_eq_true (by assumption)
     obtain ⟨ad381, e381, hx381_0⟩ := zAi (zRr HO_3.out).2.2 ((rd_T43 l0_1 x6_3).f0) p381 q381
     cases e381
     replace p381 := eq_true p381
     replace q381 := eq_true q381
     have p382 : 0 ≤ (x6_3 : Int) := of_decide_eq_true (by assumption)
     have q382 : x6_3 < (l0_1.length : Int) := of_decide_eq_true (by assumption)
     obtain ⟨ad382, e382, hx382_0, hx382_1, hx382_2⟩ := at_T43 HR0_1.out x6_3 p382 q382
     obtain rfl : ad380 = ad382 := (by injection e382)
     replace hx382_0 := pw_cell_below HB.out hx382_0
     replace hx382_1 := pw_cell_below HB.out hx382_1
     replace hx382_2 := pw_cell_below HB.out hx382_2
     replace p382 := eq_true p382
     replace q382 := eq_true q382
     have p383 : 0 ≤ (((rd_T43 l0_1 x6_3).f1) : Int) := of_decide_eq_true (by assumption)
     have q383 : ((rd_T43 l0_1 x6_3).f1) < (x3_3.length : Int) := of_decide_eq_true (by assumption)
     obtain ⟨ad383, e383, hx383_0⟩ := zAi (zRr HO_3.out).2.2 ((rd_T43 l0_1 x6_3).f1) p383 q383
     obtain rfl : ad381 = ad383 := (by injection e383)
     replace p383 := eq_true p383
     replace q383 := eq_true q383
     have p384 : 0 ≤ (x6_3 : Int) := of_decide_eq_true (by assumption)
     have q384 : x6_3 < (l0_1.length : Int) := of_decide_eq_true (by assumption)
     obtain ⟨ad384, e384, hx384_0, hx384_1, hx384_2⟩ := at_T43 HR0_1.out x6_3 p384 q384
     obtain rfl : ad380 = ad384 := (by injection e384)
     replace hx384_0 := pw_cell_below HB.out hx384_0
     replace hx384_1 := pw_cell_below HB.out hx384_1
     replace hx384_2 := pw_cell_below HB.out hx384_2
     replace p384 := eq_true p384
     replace q384 := eq_true q384
     have p25 : 0 ≤ (((rd_T43 l0_1 x6_3).f0) : Int) := of_decide_eq_true (by assumption)
     have q25 : (((rd_T43 l0_1 x6_3).f0) : Int) < ((x3_3.length : Int) : Int) := of_decide_eq_true (by assumption)
     obtain ⟨go25, co25, eo25, gb25, gl25, cl25, HG25⟩ := Kd.R_form HO_3.out (by omega)
     (first |  cases eo25|  (injection eo25 with ea_ en_ ec_; (first |  subst ea_|  (injection ea_ with ea_; subst ea_)); subst ec_; clear en_))
     have GB25 := zMk gb25
     have IGB25 := ownGe GB25.out
     have GG25 := zMk HG25
     clear gb25 gl25 HG25
     (first | simp only [add_plain] at hx381_0 | skip)
     (first | simp only [add_plain] at hx383_0 | skip)
     obtain ⟨hx25_0, hf25_0⟩ := Kd.R_celln 0 HO_3.out (((rd_T43 l0_1 x6_3).f0) : Int) p25 q25
     replace p25 := eq_true p25
     replace q25 := eq_true q25
     have HP29 := Kd.R_putg HO_3.out (((rd_T43 l0_1 x6_3).f0) : Int) ji24
     go_wp2_with (first | ((with_reducible refine gate_store (t:=3) (p:=61) rfl ?_); (try (rw [drewN_self wr]; generalize hq_ : World.drewN wr _ = wr; replace HO_3 := zMk (Kd.R_at hq_ HO_3.out); replace BK375 := zMk (blk_at hq_ BK375.out); replace HB := zMk (below_at hq_ HB.out); clear hq_; (try (obtain ⟨hy29_, hz29_⟩ := Kd.R_celln 0 HO_3.out (((rd_T43 l0_1 x6_3).f0) : Int) (of_decide_eq_true (by assumption)) (of_decide_eq_true (by assumption)))); (try (have HP29 := Kd.R_putg HO_3.out (((rd_T43 l0_1 x6_3).f0) : Int) ji24)))); refine store_event (t:=3) (p:=61) (v:=?vo_w30) (w1:=(wr.setCell ⟨go25, (((rd_T43 l0_1 x6_3).f0) : Int).toNat, none⟩ (.int .i64 ji24))) ?hg ?ho ?hn ?hr ?_; (case ho => rfl); (case hg => rfl); (case hn => rfl); (case hr => first | (go_simp; done)|(go_simp; rfl)|(go_simp; rw [show ∀ x : Int, IntKind.u32.wrap (IntKind.u8.wrap x) = x % 256 from fun x => (by show (x % 256) % 4294967296 = x % 256; omega)])); intro w30 hw; have hg : wr.grownBy w30 (some go25) := (by rw [hw]; exact HP29.2); have hp_ : Kd.R (Kd.int .i64) 3 w30 w.heap.size (fun _ => True) (.slice (some ⟨go25, 0, none⟩) x3_3.length co28) y385 := (by rw [hw, Ny385.out]; exact HP29.1); clear HP29; replace BK375 := zMk (blk_grown (g:=gb375) (o:=.cells #[.int .i64 a0_0, .slice (some ad380) l0_1.length c0_1] 24 (0, 0)) (by (with_reducible repeat (first |  refine zKn ?_ _|  refine zKd ?_|  refine zKa ?_ _)); exact BK375.out) hg (Kd.R_ne HO_3.out BK375.out (by decide))); replace HO_3 := zMk (hp_); replace HB := zMk ((by rw [hw]; exact below_set (HB.out) GB25.out : Below w.heap.size w w30)); clear hg hw hp_; have hcz31_0 : w30.cell? ⟨gb375, 0, none⟩ = some (.int .i64 a0_0) := (zKc BK375.out 0).trans rfl; have hcz31_1 : w30.cell? ⟨gb375, 1, none⟩ = some (.slice (some ad380) l0_1.length c0_1) := (zKc BK375.out 1).trans rfl; have hfz31_0 := zKf BK375.out 0; have hfz31_1 := zKf BK375.out 1; have p386 : 0 ≤ (x6_3 : Int) := of_decide_eq_true (by first | (with_reducible assumption)|  assumption); have q386 : x6_3 < (l0_1.length : Int) := of_decide_eq_true (by first | (with_reducible assumption)|  assumption); obtain ⟨ad386, e386, hx386_0, hx386_1, hx386_2⟩ := at_T43 HR0_1.out x6_3 p386 q386; obtain rfl : ad380 = ad386 := (by injection e386); replace hx386_0 := pw_cell_below HB.out hx386_0; replace hx386_1 := pw_cell_below HB.out hx386_1; replace hx386_2 := pw_cell_below HB.out hx386_2; replace p386 := eq_true p386; replace q386 := eq_true q386; have p26 : 0 ≤ (((rd_T43 l0_1 x6_3).f1) : Int) := of_decide_eq_true (by first | (with_reducible assumption)|  assumption); have q26 : (((rd_T43 l0_1 x6_3).f1) : Int) < ((x3_3.length : Int) : Int) := of_decide_eq_true (by first | (with_reducible assumption)|  assumption); obtain ⟨hx26_0, hf26_0⟩ := Kd.R_celln 0 HO_3.out (((rd_T43 l0_1 x6_3).f1) : Int) p26 q26; replace p26 := eq_true p26; replace q26 := eq_true q26; obtain ⟨hy32_, hz32_⟩ := Kd.R_celln 0 HO_3.out (((rd_T43 l0_1 x6_3).f1) : Int) (of_decide_eq_true (by first | (with_reducible assumption)|  assumption)) (of_decide_eq_true (by first | (with_reducible assumption)|  assumption)); have HP32 := Kd.R_putg HO_3.out (((rd_T43 l0_1 x6_3).f1) : Int) ji24)|((with_reducible refine gate_store (t:=3) (p:=70) rfl ?_); (try (rw [drewN_self w30]; generalize hq_ : World.drewN w30 _ = w30; replace HO_3 := zMk (Kd.R_at hq_ HO_3.out); replace BK375 := zMk (blk_at hq_ BK375.out); replace HB := zMk (below_at hq_ HB.out); clear hq_; (try (obtain ⟨hy32_, hz32_⟩ := Kd.R_celln 0 HO_3.out (((rd_T43 l0_1 x6_3).f1) : Int) (of_decide_eq_true (by first | (with_reducible assumption)|  assumption)) (of_decide_eq_true (by first | (with_reducible assumption)|  assumption)))); (try (have HP32 := Kd.R_putg HO_3.out (((rd_T43 l0_1 x6_3).f1) : Int) ji24)))); refine store_event (t:=3) (p:=70) (v:=?vo_w33) (w1:=(w30.setCell ⟨go25, (((rd_T43 l0_1 x6_3).f1) : Int).toNat, none⟩ (.int .i64 ji24))) ?hg ?ho ?hn ?hr ?_; (case ho => rfl); (case hg => rfl); (case hn => rfl); (case hr => first | (go_simp; done)|(go_simp; rfl)|(go_simp; rw [show ∀ x : Int, IntKind.u32.wrap (IntKind.u8.wrap x) = x % 256 from fun x => (by show (x % 256) % 4294967296 = x % 256; omega)])); intro w33 hw; have hg : w30.grownBy w33 (some go25) := (by rw [hw]; exact HP32.2); have hp_ : Kd.R (Kd.int .i64) 3 w33 w.heap.size (fun _ => True) (.slice (some ⟨go25, 0, none⟩) x3_3.length co28) y387 := (by rw [hw, Ny387.out]; exact HP32.1); clear HP32; replace BK375 := zMk (blk_grown (g:=gb375) (o:=.cells #[.int .i64 a0_0, .slice (some ad380) l0_1.length c0_1] 24 (0, 0)) (by (with_reducible repeat (first |  refine zKn ?_ _|  refine zKd ?_|  refine zKa ?_ _)); exact BK375.out) hg (Kd.R_ne HO_3.out BK375.out (by decide))); replace HO_3 := zMk (hp_); replace HB := zMk ((by rw [hw]; exact below_set (HB.out) GB25.out : Below w.heap.size w w33)); clear hg hw hp_))
     repeat (go_quiet (first | ((with_reducible refine gate_store (t:=3) (p:=61) rfl ?_); (try (rw [drewN_self wr]; generalize hq_ : World.drewN wr _ = wr; replace HO_3 := zMk (Kd.R_at hq_ HO_3.out); replace BK375 := zMk (blk_at hq_ BK375.out); replace HB := zMk (below_at hq_ HB.out); clear hq_; (try (obtain ⟨hy29_, hz29_⟩ := Kd.R_celln 0 HO_3.out (((rd_T43 l0_1 x6_3).f0) : Int) (of_decide_eq_true (by assumption)) (of_decide_eq_true (by assumption)))); (try (have HP29 := Kd.R_putg HO_3.out (((rd_T43 l0_1 x6_3).f0) : Int) ji24)))); refine store_event (t:=3) (p:=61) (v:=?vo_w30) (w1:=(wr.setCell ⟨go25, (((rd_T43 l0_1 x6_3).f0) : Int).toNat, none⟩ (.int .i64 ji24))) ?hg ?ho ?hn ?hr ?_; (case ho => rfl); (case hg => rfl); (case hn => rfl); (case hr => first | (go_simp; done)|(go_simp; rfl)|(go_simp; rw [show ∀ x : Int, IntKind.u32.wrap (IntKind.u8.wrap x) = x % 256 from fun x => (by show (x % 256) % 4294967296 = x % 256; omega)])); intro w30 hw; have hg : wr.grownBy w30 (some go25) := (by rw [hw]; exact HP29.2); have hp_ : Kd.R (Kd.int .i64) 3 w30 w.heap.size (fun _ => True) (.slice (some ⟨go25, 0, none⟩) x3_3.length co28) y385 := (by rw [hw, Ny385.out]; exact HP29.1); clear HP29; replace BK375 := zMk (blk_grown (g:=gb375) (o:=.cells #[.int .i64 a0_0, .slice (some ad380) l0_1.length c0_1] 24 (0, 0)) (by (with_reducible repeat (first |  refine zKn ?_ _|  refine zKd ?_|  refine zKa ?_ _)); exact BK375.out) hg (Kd.R_ne HO_3.out BK375.out (by decide))); replace HO_3 := zMk (hp_); replace HB := zMk ((by rw [hw]; exact below_set (HB.out) GB25.out : Below w.heap.size w w30)); clear hg hw hp_; have hcz31_0 : w30.cell? ⟨gb375, 0, none⟩ = some (.int .i64 a0_0) := (zKc BK375.out 0).trans rfl; have hcz31_1 : w30.cell? ⟨gb375, 1, none⟩ = some (.slice (some ad380) l0_1.length c0_1) := (zKc BK375.out 1).trans rfl; have hfz31_0 := zKf BK375.out 0; have hfz31_1 := zKf BK375.out 1; have p386 : 0 ≤ (x6_3 : Int) := of_decide_eq_true (by first | (with_reducible assumption)|  assumption); have q386 : x6_3 < (l0_1.length : Int) := of_decide_eq_true (by first | (with_reducible assumption)|  assumption); obtain ⟨ad386, e386, hx386_0, hx386_1, hx386_2⟩ := at_T43 HR0_1.out x6_3 p386 q386; obtain rfl : ad380 = ad386 := (by injection e386); replace hx386_0 := pw_cell_below HB.out hx386_0; replace hx386_1 := pw_cell_below HB.out hx386_1; replace hx386_2 := pw_cell_below HB.out hx386_2; replace p386 := eq_true p386; replace q386 := eq_true q386; have p26 : 0 ≤ (((rd_T43 l0_1 x6_3).f1) : Int) := of_decide_eq_true (by first | (with_reducible assumption)|  assumption); have q26 : (((rd_T43 l0_1 x6_3).f1) : Int) < ((x3_3.length : Int) : Int) := of_decide_eq_true (by first | (with_reducible assumption)|  assumption); obtain ⟨hx26_0, hf26_0⟩ := Kd.R_celln 0 HO_3.out (((rd_T43 l0_1 x6_3).f1) : Int) p26 q26; replace p26 := eq_true p26; replace q26 := eq_true q26; obtain ⟨hy32_, hz32_⟩ := Kd.R_celln 0 HO_3.out (((rd_T43 l0_1 x6_3).f1) : Int) (of_decide_eq_true (by first | (with_reducible assumption)|  assumption)) (of_decide_eq_true (by first | (with_reducible assumption)|  assumption)); have HP32 := Kd.R_putg HO_3.out (((rd_T43 l0_1 x6_3).f1) : Int) ji24)|((with_reducible refine gate_store (t:=3) (p:=70) rfl ?_); (try (rw [drewN_self w30]; generalize hq_ : World.drewN w30 _ = w30; replace HO_3 := zMk (Kd.R_at hq_ HO_3.out); replace BK375 := zMk (blk_at hq_ BK375.out); replace HB := zMk (below_at hq_ HB.out); clear hq_; (try (obtain ⟨hy32_, hz32_⟩ := Kd.R_celln 0 HO_3.out (((rd_T43 l0_1 x6_3).f1) : Int) (of_decide_eq_true (by first | (with_reducible assumption)|  assumption)) (of_decide_eq_true (by first | (with_reducible assumption)|  assumption)))); (try (have HP32 := Kd.R_putg HO_3.out (((rd_T43 l0_1 x6_3).f1) : Int) ji24)))); refine store_event (t:=3) (p:=70) (v:=?vo_w33) (w1:=(w30.setCell ⟨go25, (((rd_T43 l0_1 x6_3).f1) : Int).toNat, none⟩ (.int .i64 ji24))) ?hg ?ho ?hn ?hr ?_; (case ho => rfl); (case hg => rfl); (case hn => rfl); (case hr => first | (go_simp; done)|(go_simp; rfl)|(go_simp; rw [show ∀ x : Int, IntKind.u32.wrap (IntKind.u8.wrap x) = x % 256 from fun x => (by show (x % 256) % 4294967296 = x % 256; omega)])); intro w33 hw; have hg : w30.grownBy w33 (some go25) := (by rw [hw]; exact HP32.2); have hp_ : Kd.R (Kd.int .i64) 3 w33 w.heap.size (fun _ => True) (.slice (some ⟨go25, 0, none⟩) x3_3.length co28) y387 := (by rw [hw, Ny387.out]; exact HP32.1); clear HP32; replace BK375 := zMk (blk_grown (g:=gb375) (o:=.cells #[.int .i64 a0_0, .slice (some ad380) l0_1.length c0_1] 24 (0, 0)) (by (with_reducible repeat (first |  refine zKn ?_ _|  refine zKd ?_|  refine zKa ?_ _)); exact BK375.out) hg (Kd.R_ne HO_3.out BK375.out (by decide))); replace HO_3 := zMk (hp_); replace HB := zMk ((by rw [hw]; exact below_set (HB.out) GB25.out : Below w.heap.size w w33)); clear hg hw hp_)); try go_wp2_with (first | ((with_reducible refine gate_store (t:=3) (p:=61) rfl ?_); (try (rw [drewN_self wr]; generalize hq_ : World.drewN wr _ = wr; replace HO_3 := zMk (Kd.R_at hq_ HO_3.out); replace BK375 := zMk (blk_at hq_ BK375.out); replace HB := zMk (below_at hq_ HB.out); clear hq_; (try (obtain ⟨hy29_, hz29_⟩ := Kd.R_celln 0 HO_3.out (((rd_T43 l0_1 x6_3).f0) : Int) (of_decide_eq_true (by assumption)) (of_decide_eq_true (by assumption)))); (try (have HP29 := Kd.R_putg HO_3.out (((rd_T43 l0_1 x6_3).f0) : Int) ji24)))); refine store_event (t:=3) (p:=61) (v:=?vo_w30) (w1:=(wr.setCell ⟨go25, (((rd_T43 l0_1 x6_3).f0) : Int).toNat, none⟩ (.int .i64 ji24))) ?hg ?ho ?hn ?hr ?_; (case ho => rfl); (case hg => rfl); (case hn => rfl); (case hr => first | (go_simp; done)|(go_simp; rfl)|(go_simp; rw [show ∀ x : Int, IntKind.u32.wrap (IntKind.u8.wrap x) = x % 256 from fun x => (by show (x % 256) % 4294967296 = x % 256; omega)])); intro w30 hw; have hg : wr.grownBy w30 (some go25) := (by rw [hw]; exact HP29.2); have hp_ : Kd.R (Kd.int .i64) 3 w30 w.heap.size (fun _ => True) (.slice (some ⟨go25, 0, none⟩) x3_3.length co28) y385 := (by rw [hw, Ny385.out]; exact HP29.1); clear HP29; replace BK375 := zMk (blk_grown (g:=gb375) (o:=.cells #[.int .i64 a0_0, .slice (some ad380) l0_1.length c0_1] 24 (0, 0)) (by (with_reducible repeat (first |  refine zKn ?_ _|  refine zKd ?_|  refine zKa ?_ _)); exact BK375.out) hg (Kd.R_ne HO_3.out BK375.out (by decide))); replace HO_3 := zMk (hp_); replace HB := zMk ((by rw [hw]; exact below_set (HB.out) GB25.out : Below w.heap.size w w30)); clear hg hw hp_; have hcz31_0 : w30.cell? ⟨gb375, 0, none⟩ = some (.int .i64 a0_0) := (zKc BK375.out 0).trans rfl; have hcz31_1 : w30.cell? ⟨gb375, 1, none⟩ = some (.slice (some ad380) l0_1.length c0_1) := (zKc BK375.out 1).trans rfl; have hfz31_0 := zKf BK375.out 0; have hfz31_1 := zKf BK375.out 1; have p386 : 0 ≤ (x6_3 : Int) := of_decide_eq_true (by first | (with_reducible assumption)|  assumption); have q386 : x6_3 < (l0_1.length : Int) := of_decide_eq_true (by first | (with_reducible assumption)|  assumption); obtain ⟨ad386, e386, hx386_0, hx386_1, hx386_2⟩ := at_T43 HR0_1.out x6_3 p386 q386; obtain rfl : ad380 = ad386 := (by injection e386); replace hx386_0 := pw_cell_below HB.out hx386_0; replace hx386_1 := pw_cell_below HB.out hx386_1; replace hx386_2 := pw_cell_below HB.out hx386_2; replace p386 := eq_true p386; replace q386 := eq_true q386; have p26 : 0 ≤ (((rd_T43 l0_1 x6_3).f1) : Int) := of_decide_eq_true (by first | (with_reducible assumption)|  assumption); have q26 : (((rd_T43 l0_1 x6_3).f1) : Int) < ((x3_3.length : Int) : Int) := of_decide_eq_true (by first | (with_reducible assumption)|  assumption); obtain ⟨hx26_0, hf26_0⟩ := Kd.R_celln 0 HO_3.out (((rd_T43 l0_1 x6_3).f1) : Int) p26 q26; replace p26 := eq_true p26; replace q26 := eq_true q26; obtain ⟨hy32_, hz32_⟩ := Kd.R_celln 0 HO_3.out (((rd_T43 l0_1 x6_3).f1) : Int) (of_decide_eq_true (by first | (with_reducible assumption)|  assumption)) (of_decide_eq_true (by first | (with_reducible assumption)|  assumption)); have HP32 := Kd.R_putg HO_3.out (((rd_T43 l0_1 x6_3).f1) : Int) ji24)|((with_reducible refine gate_store (t:=3) (p:=70) rfl ?_); (try (rw [drewN_self w30]; generalize hq_ : World.drewN w30 _ = w30; replace HO_3 := zMk (Kd.R_at hq_ HO_3.out); replace BK375 := zMk (blk_at hq_ BK375.out); replace HB := zMk (below_at hq_ HB.out); clear hq_; (try (obtain ⟨hy32_, hz32_⟩ := Kd.R_celln 0 HO_3.out (((rd_T43 l0_1 x6_3).f1) : Int) (of_decide_eq_true (by first | (with_reducible assumption)|  assumption)) (of_decide_eq_true (by first | (with_reducible assumption)|  assumption)))); (try (have HP32 := Kd.R_putg HO_3.out (((rd_T43 l0_1 x6_3).f1) : Int) ji24)))); refine store_event (t:=3) (p:=70) (v:=?vo_w33) (w1:=(w30.setCell ⟨go25, (((rd_T43 l0_1 x6_3).f1) : Int).toNat, none⟩ (.int .i64 ji24))) ?hg ?ho ?hn ?hr ?_; (case ho => rfl); (case hg => rfl); (case hn => rfl); (case hr => first | (go_simp; done)|(go_simp; rfl)|(go_simp; rw [show ∀ x : Int, IntKind.u32.wrap (IntKind.u8.wrap x) = x % 256 from fun x => (by show (x % 256) % 4294967296 = x % 256; omega)])); intro w33 hw; have hg : w30.grownBy w33 (some go25) := (by rw [hw]; exact HP32.2); have hp_ : Kd.R (Kd.int .i64) 3 w33 w.heap.size (fun _ => True) (.slice (some ⟨go25, 0, none⟩) x3_3.length co28) y387 := (by rw [hw, Ny387.out]; exact HP32.1); clear HP32; replace BK375 := zMk (blk_grown (g:=gb375) (o:=.cells #[.int .i64 a0_0, .slice (some ad380) l0_1.length c0_1] 24 (0, 0)) (by (with_reducible repeat (first |  refine zKn ?_ _|  refine zKd ?_|  refine zKa ?_ _)); exact BK375.out) hg (Kd.R_ne HO_3.out BK375.out (by decide))); replace HO_3 := zMk (hp_); replace HB := zMk ((by rw [hw]; exact below_set (HB.out) GB25.out : Below w.heap.size w w33)); clear hg hw hp_)))
     go_roundg k3
     case measure => have := HK1.out; have := HK2.out; have := HK3.out; omega
     case rel => exact ⟨(y387), (wrap64 (x6_3 + 1)), (by first | rfl | (simp; done) | (simp [*]; done)), H', ⟨by have := HK1.out; have := HK2.out; have := HK3.out; omega⟩, ⟨by exact uR HO_3.out⟩, ⟨by (with_reducible repeat (first | refine zKn ?_ _ | refine zKd ?_ | refine zKa ?_ _)); exact BK375.out⟩, ⟨by exact uT HB.out⟩⟩
    ·rw [if_neg c18] at H
     have c18b0 : decide (x6_3 < (l0_1.length : Int)) = false := decide_eq_false c18
     clear c18
     have H' := zMk H
     clear H
     have hcz34_0 : wr.cell? ⟨gb375, 0, none⟩ = some (.int .i64 a0_0) := (zKc BK375.out 0).trans rfl
     have hcz34_1 : wr.cell? ⟨gb375, 1, none⟩ = some (.slice A0_1 l0_1.length c0_1) := (zKc BK375.out 1).trans rfl
     have hfz34_0 := zKf BK375.out 0
     have hfz34_1 := zKf BK375.out 1
     go_wp2
     repeat (go_quiet (fail); try go_wp2)
     go_roundg k3
     case measure => have := HK1.out; have := HK2.out; have := HK3.out; omega
     case rel => exact ⟨(x3_3), (wrap64 (x5_2 + 1)), (by first | rfl | (simp; done) | (simp [*]; done)), H', ⟨by have := HK1.out; have := HK2.out; have := HK3.out; omega⟩, ⟨by exact uR HO_3.out⟩, ⟨by (with_reducible repeat (first | refine zKn ?_ _ | refine zKd ?_ | refine zKa ?_ _)); exact BK375.out⟩, ⟨by exact uT HB.out⟩⟩
   ·rw [if_neg c16] at H
    have c16b0 : decide (x5_2 < a0_0) = false := decide_eq_false c16
    clear c16
    obtain rfl := zOi H
    have hcz35_0 : wr.cell? ⟨gb375, 0, none⟩ = some (.int .i64 a0_0) := (zKc BK375.out 0).trans rfl
    have hcz35_1 : wr.cell? ⟨gb375, 1, none⟩ = some (.slice A0_1 l0_1.length c0_1) := (zKc BK375.out 1).trans rfl
    have hfz35_0 := zKf BK375.out 0
    have hfz35_1 := zKf BK375.out 1
    go_wp2
    repeat (go_quiet (fail); try go_wp2)
    go_ret
    exact ⟨_, by first | rfl | (simp [errW_none, errW_some] <;> rfl) | (simp [*, errW_none, errW_some] <;> rfl), by exact uR HO_3.out, by exact uT HB.out⟩
 ·rw [if_neg c2] at H
  exact absurd H (by simp)

def stepL (l : List Int) (e : S43) : List Int := (l.set e.f0.toNat (mn (rd l e.f0) (rd l e.f1))).set e.f1.toNat (mn (rd l e.f0) (rd l e.f1))
def roundL (E : List S43) (l : List Int) : List Int := E.foldl stepL l
def itL (E : List S43) : Nat → List Int → List Int
 | 0, l => l
 | d + 1, l => itL E d (roundL E l)
theorem stepL_len (l : List Int) (e : S43) : (stepL l e).length = l.length := by simp [stepL]
theorem foldL_len (E : List S43) : ∀ l : List Int, (E.foldl stepL l).length = l.length := by
 induction E with
 | nil => intro l; rfl
 | cons e E ih => intro l; rw [List.foldl_cons, ih, stepL_len]
theorem itL_len (E : List S43) : ∀ (d : Nat) (l : List Int), (itL E d l).length = l.length
 | 0, _ => rfl
 | d + 1, l => by rw [itL, itL_len E d]; exact foldL_len E l
theorem Lab_l2 (N : Nat) (E : List S43) (hE : Ends N E) (hm : E.length ≤ 1000000000) (x5 : Int) (r : List Int) (d : Nat) : ∀ (i : Nat) (l : List Int), E.length - i = d → i ≤ E.length → l.length = N →
  Ev (fun k => r6_Labels.l1 k ((E.drop i).foldl stepL l) (wrap64 (x5 + 1)) N E) r → Ev (fun k => r6_Labels.l2 k l x5 i N E) r := by
 induction d with
 | zero =>
  intro i l hd hi hl h
  obtain rfl : i = E.length := by omega
  rw [List.drop_length] at h
  refine Ev.step (fun k => ?_) h
  simp only [r6_Labels.l2]
  rw [if_neg (by omega)]; rfl
 | succ d ih =>
  intro i l hd hi hl h
  have hlt : i < E.length := by omega
  rw [dropE E i hlt, List.foldl_cons] at h
  have hx := hE _ (show rd_T43 E (i : Int) ∈ E by rw [rdE_get E i hlt]; exact List.getElem_mem hlt)
  refine Ev.step (fun k => ?_) (ih (i + 1) _ (by omega) (by omega) (by rw [stepL_len]; exact hl) h)
  simp only [r6_Labels.l2]
  rw [if_pos (by omega), if_pos (by omega), if_pos hx.1, if_pos (by rw [hl]; exact hx.2.1), if_pos hx.2.2.1, if_pos (by rw [hl]; exact hx.2.2.2), w64n i (by omega)]
  rfl
theorem Lab_l1 (N : Nat) (E : List S43) (hE : Ends N E) (hm : E.length ≤ 1000000000) (hN : N ≤ 1000000000) (d : Nat) : ∀ (i : Nat) (l : List Int), N - i = d → i ≤ N → l.length = N →
  Ev (fun k => r6_Labels.l1 k l i N E) (itL E d l) := by
 induction d with
 | zero =>
  intro i l hd hi hl
  refine Ev.step (fun k => ?_) (Ev.now _)
  simp only [r6_Labels.l1]
  rw [if_neg (by omega)]; rfl
 | succ d ih =>
  intro i l hd hi hl
  have h1 := ih (i + 1) (roundL E l) (by omega) (by omega) (by rw [roundL, foldL_len]; exact hl)
  have h2 := Lab_l2 N E hE hm (i : Int) (itL E d (roundL E l)) E.length 0 l rfl (Nat.zero_le _) hl (by
   rw [List.drop_zero, w64n i (by omega)]; exact h1)
  refine Ev.step (fun k => ?_) h2
  simp only [r6_Labels.l1]
  rw [if_pos (by omega)]; rfl
theorem Lab_l0 (N : Nat) (E : List S43) (hE : Ends N E) (hm : E.length ≤ 1000000000) (hN : N ≤ 1000000000) (d : Nat) : ∀ (i : Nat) (l : List Int), N - i = d → i ≤ N → l.length = N → (∀ j : Nat, j < i → rd l j = j) →
  Ev (fun k => r6_Labels.l0 k l i N E) (itL E N (ups N)) := by
 induction d with
 | zero =>
  intro i l hd hi hl hr
  obtain rfl : i = N := by omega
  have e : l = ups i := by
   apply List.ext_getElem (by rw [ups_len]; exact hl)
   intro j h1 h2
   have h3 := hr j (by omega)
   rw [rd_nat l j h1] at h3
   rw [h3]
   simp [ups]
  subst e
  refine Ev.step (fun k => ?_) (Lab_l1 i E hE hm hN i 0 _ rfl (Nat.zero_le _) hl)
  simp only [r6_Labels.l0]
  rw [if_neg (by omega)]; rfl
 | succ d ih =>
  intro i l hd hi hl hr
  refine Ev.step (fun k => ?_) (ih (i + 1) (l.set i i) (by omega) (by omega) (by rw [List.length_set]; exact hl) (fun j hj => ?_))
  ·simp only [r6_Labels.l0]
   rw [if_pos (by omega), if_pos (by omega), if_pos (by omega), w64n i (by omega), zTn]
  ·have := rd_set l i j i (by omega) (by omega) (by omega)
   rw [zTn] at this
   rw [this]
   split
   ·omega
   ·exact hr j (by omega)
theorem Labels_ev (N : Nat) (E : List S43) (hE : Ends N E) (hm : E.length ≤ 1000000000) (hN : N ≤ 1000000000) : Ev (fun k => r6_Labels.f k N E) (itL E N (ups N)) := by
 refine Ev.congr (fun k => ?_) (Lab_l0 N E hE hm hN N 0 (List.replicate N 0) rfl (Nat.zero_le _) List.length_replicate (fun j hj => by omega))
 unfold r6_Labels.f
 rw [if_pos (by omega), zTn, if_pos (by omega)]; rfl
structure LabI (N : Nat) (E : List S43) (l : List Int) : Prop where
 len : l.length = N
 ok : ∀ v : Int, 0 ≤ v → v < (N : Int) → 0 ≤ rd l v ∧ rd l v ≤ v ∧ Cn E v (rd l v)
theorem LabI.start (N : Nat) (E : List S43) : LabI N E (ups N) := by
 refine ⟨ups_len N, fun v h0 h1 => ?_⟩
 obtain ⟨i, rfl⟩ := Int.eq_ofNat_of_zero_le h0
 have : rd (ups N) (i : Int) = i := by rw [rd_nat _ i (by rw [ups_len]; omega)]; simp [ups]
 rw [this]
 exact ⟨h0, Int.le_refl _, .refl _⟩
theorem mn_cases (a b : Int) : (mn a b = a ∧ a ≤ b) ∨ (mn a b = b ∧ b ≤ a) := by unfold mn; split <;> omega
theorem rd_step {N : Nat} {l : List Int} {e : S43} (hl : l.length = N) (he : 0 ≤ e.f0 ∧ e.f0 < (N : Int) ∧ 0 ≤ e.f1 ∧ e.f1 < (N : Int)) (v : Int) (hv : 0 ≤ v) : rd (stepL l e) v = if v = e.f1 ∨ v = e.f0 then mn (rd l e.f0) (rd l e.f1) else rd l v := by
 unfold stepL
 rw [rd_set _ _ _ _ he.2.2.1 (by rw [List.length_set, hl]; exact he.2.2.2) hv, rd_set _ _ _ _ he.1 (by rw [hl]; exact he.2.1) hv]
 by_cases a : v = e.f1
 ·rw [if_pos a, if_pos (.inl a)]
 ·rw [if_neg a]
  by_cases b : v = e.f0
  ·rw [if_pos b, if_pos (.inr b)]
  ·rw [if_neg b, if_neg (by rintro (h | h); exact a h; exact b h)]
theorem LabI.step {N : Nat} {E : List S43} (hE : Ends N E) {l : List Int} (h : LabI N E l) {e : S43} (he : e ∈ E) : LabI N E (stepL l e) := by
 refine ⟨by rw [stepL_len]; exact h.len, fun v h0 h1 => ?_⟩
 have hx := hE e he
 rw [rd_step h.len hx v h0]
 have a := h.ok e.f0 hx.1 hx.2.1
 have b := h.ok e.f1 hx.2.2.1 hx.2.2.2
 have c01 : Cn E e.f0 e.f1 := .fwd e he (.refl _)
 split
 ·rename_i hv
  rcases mn_cases (rd l e.f0) (rd l e.f1) with ⟨e1, e2⟩ | ⟨e1, e2⟩ <;> rw [e1] <;> rcases hv with rfl | rfl
  ·exact ⟨a.1, by omega, c01.symm.trans a.2.2⟩
  ·exact a
  ·exact b
  ·exact ⟨b.1, by omega, c01.trans b.2.2⟩
 ·exact h.ok v h0 h1
theorem step_gain {N : Nat} {E : List S43} (hE : Ends N E) {l : List Int} (h : LabI N E l) {e : S43} (he : e ∈ E) {r : Int} (hr : Root E r) (hd : rd l e.f0 = r ∨ rd l e.f1 = r) : rd (stepL l e) e.f0 = r ∧ rd (stepL l e) e.f1 = r := by
 have hx := hE e he
 have a := h.ok e.f0 hx.1 hx.2.1
 have b := h.ok e.f1 hx.2.2.1 hx.2.2.2
 have c01 : Cn E e.f0 e.f1 := .fwd e he (.refl _)
 have key : mn (rd l e.f0) (rd l e.f1) = r := by
  have hra : r ≤ rd l e.f0 := by
   rcases hd with hd | hd
   ·omega
   ·exact hr _ a.1 ((hd ▸ b.2.2.symm).trans (c01.symm.trans a.2.2))
  have hrb : r ≤ rd l e.f1 := by
   rcases hd with hd | hd
   ·exact hr _ b.1 ((hd ▸ a.2.2.symm).trans (c01.trans b.2.2))
   ·omega
  rcases mn_cases (rd l e.f0) (rd l e.f1) with ⟨e1, e2⟩ | ⟨e1, e2⟩ <;> rcases hd with hd | hd <;> omega
 rw [rd_step h.len hx _ hx.1, rd_step h.len hx _ hx.2.2.1, if_pos (.inr rfl), if_pos (.inl rfl)]
 exact ⟨key, key⟩
theorem step_keep {N : Nat} {E : List S43} (hE : Ends N E) {l : List Int} (h : LabI N E l) {e : S43} (he : e ∈ E) {r : Int} (hr : Root E r) {v : Int} (h0 : 0 ≤ v) (hv : rd l v = r) : rd (stepL l e) v = r := by
 have hx := hE e he
 by_cases a : v = e.f0
 ·subst a; exact (step_gain hE h he hr (.inl hv)).1
 ·by_cases b : v = e.f1
  ·subst b; exact (step_gain hE h he hr (.inr hv)).2
  ·rw [rd_step h.len hx v h0, if_neg (by rintro (h | h); exact b h; exact a h)]
   exact hv
theorem fold_keep {N : Nat} {E : List S43} (hE : Ends N E) {r : Int} (hr : Root E r) : ∀ (F : List S43), (∀ e ∈ F, e ∈ E) → ∀ l : List Int, LabI N E l → LabI N E (F.foldl stepL l) ∧ (∀ v, 0 ≤ v → rd l v = r → rd (F.foldl stepL l) v = r) ∧ ∀ e ∈ F, (rd l e.f0 = r ∨ rd l e.f1 = r) → rd (F.foldl stepL l) e.f0 = r ∧ rd (F.foldl stepL l) e.f1 = r
 | [], _, l, h => ⟨h, fun _ _ hv => hv, fun e he => by cases he⟩
 | f :: F, hF, l, h => by
  have hf : f ∈ E := hF f (List.mem_cons_self ..)
  obtain ⟨h1, h2, h3⟩ := fold_keep hE hr F (fun e he => hF e (List.mem_cons_of_mem _ he)) (stepL l f) (h.step hE hf)
  rw [List.foldl_cons]
  refine ⟨h1, fun v h0 hv => h2 v h0 (step_keep hE h hf hr h0 hv), fun e he hd => ?_⟩
  have hx := hE e (hF e he)
  rcases List.mem_cons.1 he with rfl | he
  ·obtain ⟨a, b⟩ := step_gain hE h hf hr hd
   exact ⟨h2 _ hx.1 a, h2 _ hx.2.2.1 b⟩
  ·exact h3 e he (hd.imp (step_keep hE h hf hr hx.1) (step_keep hE h hf hr hx.2.2.1))
def DoneL (E : List S43) (r : Int) (l : List Int) : Prop := ∀ v, Cn E r v → rd l v = r
theorem not_done {E : List S43} {r : Int} {l : List Int} (h0 : rd l r = r) (h : ¬ DoneL E r l) : ∃ e ∈ E, (rd l e.f0 = r ∧ rd l e.f1 ≠ r) ∨ (rd l e.f0 ≠ r ∧ rd l e.f1 = r) := by
 refine Classical.byContradiction fun hn => h fun v hc => ?_
 induction hc with
 | refl => exact h0
 | fwd e he _ ih => exact Classical.byContradiction fun h1 => hn ⟨e, he, .inl ⟨ih, h1⟩⟩
 | bwd e he _ ih => exact Classical.byContradiction fun h1 => hn ⟨e, he, .inr ⟨h1, ih⟩⟩
theorem it_keep {N : Nat} {E : List S43} (hE : Ends N E) {r : Int} (hr : Root E r) : ∀ (d : Nat) (l : List Int), LabI N E l → LabI N E (itL E d l) ∧ ∀ v, 0 ≤ v → rd l v = r → rd (itL E d l) v = r
 | 0, _, h => ⟨h, fun _ _ hv => hv⟩
 | d + 1, l, h => by
  obtain ⟨h1, h2, _⟩ := fold_keep hE hr E (fun _ he => he) l h
  obtain ⟨h3, h4⟩ := it_keep hE hr d (roundL E l) h1
  exact ⟨h3, fun v h0 hv => h4 v h0 (h2 v h0 hv)⟩
theorem it_done {N : Nat} {E : List S43} (hE : Ends N E) {r : Int} (hr : Root E r) (hr0 : 0 ≤ r) : ∀ (d : Nat) (l : List Int), LabI N E l → rd l r = r → DoneL E r (itL E d l) ∨ l.count r + d ≤ (itL E d l).count r
 | 0, _, _, _ => .inr (Nat.le_refl _)
 | d + 1, l, h, h0 => by
  obtain ⟨h1, h2, h3⟩ := fold_keep hE hr E (fun _ he => he) l h
  by_cases hd : DoneL E r l
  ·refine .inl fun v hc => ?_
   have hv0 : 0 ≤ v := by
    cases hc with
    | refl => exact hr0
    | fwd e he _ => exact (hE e he).2.2.1
    | bwd e he _ => exact (hE e he).1
   exact (it_keep hE hr (d + 1) l h).2 v hv0 (hd v hc)
  ·rcases it_done hE hr hr0 d (roundL E l) h1 (h2 r hr0 h0) with h4 | h4
   ·exact .inl h4
   ·right
    have hlt : l.count r < (roundL E l).count r := by
     refine count_lt r l _ (by rw [roundL, foldL_len]) (fun i hi hv => h2 i (by omega) hv) ?_
     obtain ⟨e, he, hx⟩ := not_done h0 hd
     have hb := hE e he
     rcases hx with ⟨a, b⟩ | ⟨a, b⟩
     ·refine ⟨e.f1.toNat, by rw [h.len]; omega, ?_, ?_⟩
      ·rwa [Int.toNat_of_nonneg hb.2.2.1]
      ·rw [Int.toNat_of_nonneg hb.2.2.1]; exact (h3 e he (.inl a)).2
     ·refine ⟨e.f0.toNat, by rw [h.len]; omega, ?_, ?_⟩
      ·rwa [Int.toNat_of_nonneg hb.1]
      ·rw [Int.toNat_of_nonneg hb.1]; exact (h3 e he (.inr b)).1
    show l.count r + (d + 1) ≤ (itL E d (roundL E l)).count r
    omega
def labs (N : Nat) (E : List S43) : List Int := itL E N (ups N)
theorem labs_len (N : Nat) (E : List S43) : (labs N E).length = N := by rw [labs, itL_len, ups_len]
theorem labs_root {N : Nat} {E : List S43} (hE : Ends N E) {r v : Int} (hr : Root E r) (hr0 : 0 ≤ r) (hr1 : r < (N : Int)) (hc : Cn E r v) : rd (labs N E) v = r := by
 have hs := LabI.start N E
 have h0 : rd (ups N) r = r := by
  obtain ⟨i, rfl⟩ := Int.eq_ofNat_of_zero_le hr0
  rw [rd_nat _ i (by rw [ups_len]; omega)]; simp [ups]
 rcases it_done hE hr hr0 N (ups N) hs h0 with h | h
 ·exact h v hc
 ·exfalso
  have h1 : (itL E N (ups N)).count r ≤ N := by
   have := List.count_le_length (a:=r) (l:=itL E N (ups N))
   rwa [itL_len, ups_len] at this
  have h2 : 0 < (ups N).count r := by
   rw [List.count_pos_iff]
   exact mem_ups.2 ⟨hr0, hr1⟩
  omega
theorem labs_iff {N : Nat} {E : List S43} (hE : Ends N E) {u v : Int} (hu : 0 ≤ u ∧ u < (N : Int)) (hv : 0 ≤ v ∧ v < (N : Int)) : rd (labs N E) u = rd (labs N E) v ↔ Cn E u v := by
 obtain ⟨r, r0, r1, hr, hur⟩ := root_of E u hu.1
 obtain ⟨s, s0, s1, hs, hvs⟩ := root_of E v hv.1
 rw [labs_root hE hr r0 (by omega) hur.symm, labs_root hE hs s0 (by omega) hvs.symm]
 constructor
 ·rintro rfl; exact hur.trans hvs.symm
 ·intro h; exact root_eq r0 s0 hr hs (hur.symm.trans (h.trans hvs))

mutual
def r6_Components.l0 : Nat → List Int → List (List Int) → Int → Int → List (S43) → Option ((List (List Int)))
 | 0, _, _, _, _, _ => none
 | k + 1, x3, x4, x5, x459000, x459001 => if x5 < x459000 then (if 0 ≤ x5 then (if x5 < (x3.length : Int) then (if (rd x3 x5) = x5 then (r6_Components.l1 k x3 x4 x5 ([] : List Int) x5 x459000 x459001) else (r6_Components.l0 k x3 x4 (wrap64 (x5 + 1)) x459000 x459001)) else (none)) else (none)) else (some x4)
def r6_Components.l1 : Nat → List Int → List (List Int) → Int → List Int → Int → Int → List (S43) → Option ((List (List Int)))
 | 0, _, _, _, _, _, _, _ => none
 | k + 1, x3, x4, x5, x6, x7, x459000, x459001 => if x7 < x459000 then (if 0 ≤ x7 then (if x7 < (x3.length : Int) then (if (rd x3 x7) = x5 then (if x6.length < 17592186044416 then (r6_Components.l1 k x3 x4 x5 (x6 ++ [x7]) (wrap64 (x7 + 1)) x459000 x459001) else (none)) else (r6_Components.l1 k x3 x4 x5 x6 (wrap64 (x7 + 1)) x459000 x459001)) else (none)) else (none)) else (if x4.length < 5864062014805 then (r6_Components.l0 k x3 (x4 ++ [x6]) (wrap64 (x5 + 1)) x459000 x459001) else (none))
end
def r6_Components.f (k : Nat) (a0_0 : Int) (l0_1 : List (S43)) : Option ((List (List Int))) := (r6_Labels.f k a0_0 l0_1).bind fun t459 => (r6_Components.l0 k t459 ([] : List (List Int)) 0 a0_0 l0_1)
theorem r6_Components.calls (k : Nat) (a0_0 : Int) (A0_1 : Option Addr) (c0_1 : Nat) (l0_1 : List (S43)) (r : List (List Int)) (w : World) (hr0_1 : Kd.C k43 w A0_1 l0_1.length l0_1) (hc0_1 : l0_1.length ≤ c0_1) (h : r6_Components.f k a0_0 l0_1 = some r) :
  Calls Try.prog 13 #[.agg #[.int .i64 a0_0, .slice A0_1 l0_1.length c0_1]] w fun e w' => ∃ v0_ : Value, e = .returned (v0_) ∧ Kd.S (Kd.slice 3 (Kd.int .i64)) 33 w' w.heap.size (fun _ => True) v0_ r ∧ Below w.heap.size w w' := by
 have hu24 := Try.underlying24
 have HR0_1 := zMk hr0_1
 have HC0_1 := zMk hc0_1
 clear hr0_1 hc0_1
 have HB := zMk (Below.refl w.heap.size w)
 have H : ((r6_Labels.f k a0_0 l0_1).bind fun t459 => (r6_Components.l0 k t459 ([] : List (List Int)) 0 a0_0 l0_1)) = some r := h
 clear h
 replace H := bnd H
 obtain ⟨t459, A20, H⟩ := H
 have A2 := zMk A20
 clear A20
 have H' := zMk H
 clear H
 go_enter Try.func13, Try.ntmps13
 go_wp2_with (first | ((with_reducible refine gate_dst (N:=1) rfl ?_); refine box_event ?hg (N:=1) ?hd (cs:=#[.int .i64 a0_0, .slice A0_1 l0_1.length c0_1]) (t:=24) ?hr ?_; (case hd => rfl); (case hg => rfl); (case hr => first | (go_simp; done)|(go_simp; rfl)|(go_simp; rw [show ∀ x : Int, IntKind.u32.wrap (IntKind.u8.wrap x) = x % 256 from fun x => (by show (x % 256) % 4294967296 = x % 256; omega)])); intro gb458 hg w3 hbox hb; have BK458 := zMk (hbox); have GW458 := zMk ((by rw [hg]; exact (zBs (uT HB.out)) : w.heap.size ≤ gb458)); have GE458 := zMk ((by rw [hg]; exact (zBs (uT HB.out)) : w.heap.size ≤ gb458)); have IGE458 := ownGe GE458.out; replace HB := zMk (zBt (uT HB.out) hb); clear hb hbox hg; have hcz4_0 : w3.cell? ⟨gb458, 0, none⟩ = some (.int .i64 a0_0) := (zKc BK458.out 0).trans rfl; have hcz4_1 : w3.cell? ⟨gb458, 1, none⟩ = some (.slice A0_1 l0_1.length c0_1) := (zKc BK458.out 1).trans rfl; have hfz4_0 := zKf BK458.out 0; have hfz4_1 := zKf BK458.out 1)|((with_reducible refine gate_callee (f:=30) rfl ?_); refine goesL_ (some 9) rfl rfl Try.func30 (by kernel_rfl) rfl #[.agg #[.int .i64 a0_0, .slice A0_1 l0_1.length c0_1]] rfl (by (try simp only [zMa, zMc, zMn]); first |  done|  rfl|  (simp only [zLd, zLt]; rfl)) ?_; (with_reducible refine (r6_Labels.calls k a0_0 _ _ l0_1 t459 _ ?side1 ?side2 A2.out).mono ?_); (case side1 => repeat (first |  exact (Kd.C_below HR0_1.out HB.out)|(with_reducible refine zCa ?_ _)|(with_reducible refine zCn ?_ _)|(with_reducible refine zCd ?_))); (case side2 => exact HC0_1.out); rintro e w5 ⟨v460, rfl, ho0, hb⟩; refine ⟨_, rfl, ?_⟩; have HO461 := zMk (zRl ho0 (zBs (uT HB.out))); replace BK458 := zMk (zKb BK458.out hb); replace HB := zMk (zBt (uT HB.out) hb)))
 go_loopg [4, 5] k (fun kq v4 v5 w' => ∃ (x4_1 : List (List Int)) (x5_1 : Int), v5 = .int .i64 x5_1 ∧ Aside0 (r6_Components.l0 kq t459 x4_1 x5_1 a0_0 l0_1 = some r) ∧ Aside0 (kq ≤ k) ∧ Aside0 (Kd.R (Kd.int .i64) 3 w' w.heap.size (fun _ => True) v460 t459) ∧ Aside0 (Kd.S (Kd.slice 3 (Kd.int .i64)) 33 w' w.heap.size (fun k_ => some k_ ≠ (v460 : Value).ownBlock) v4 x4_1) ∧ Aside0 (w'.heap[gb458]? = some (.cells #[.int .i64 a0_0, (.slice A0_1 l0_1.length c0_1)] 24 (0, 0))) ∧ Aside0 (Below w.heap.size w w'))
 case atStart => exact ⟨(([] : List (List Int))), (0), (by first | rfl | (simp; done) | (simp [*]; done)), H', ⟨Nat.le_refl _⟩, ⟨by exact uR HO461.out⟩, ⟨by first | exact Kd.S_nil _ _ _ _ _ | exact Kd.N_nil _ _ _ _ _ | exact Kd.V_nil _ _ _ _ _ | exact Kd.Q_nil _ _ _ _ _ | exact Kd.R_nil _ _ _ _ _⟩, ⟨by (with_reducible repeat (first | refine zKn ?_ _ | refine zKd ?_ | refine zKa ?_ _)); exact BK458.out⟩, ⟨by exact uT HB.out⟩⟩
 clear H'
 obtain ⟨x4_1, x5_1, rfl, HA, HK1, HO_3, HO_4, BK458, HB⟩ := hrel
 rcases gk with _ | k1
 ·exact absurd HA.out (by simp [r6_Components.l0])
 have H := HA.out
 clear HA
 simp only [r6_Components.l0] at H
 by_cases c6 : x5_1 < a0_0
 ·rw [if_pos c6] at H
  have c6b0 : decide (x5_1 < a0_0) = true := decide_eq_true c6
  clear c6
  by_cases c7 : 0 ≤ x5_1
  rotate_left
  ·rw [if_neg c7] at H; exact absurd H (by simp)
  rw [if_pos c7] at H
  have c7b0 : decide (0 ≤ x5_1) = true := decide_eq_true c7
  clear c7
  by_cases c8 : x5_1 < (t459.length : Int)
  rotate_left
  ·rw [if_neg c8] at H; exact absurd H (by simp)
  rw [if_pos c8] at H
  have c8b0 : decide (x5_1 < (t459.length : Int)) = true := decide_eq_true c8
  clear c8
  by_cases c9 : (rd t459 x5_1) = x5_1
  ·rw [if_pos c9] at H
   have c9b0 : ((rd t459 x5_1) == x5_1) = true := beq_iff_eq.mpr c9
   have c9b1 : ((rd t459 x5_1) != x5_1) = false := bne_eq_false_iff_eq.mpr c9
   clear c9
   have H' := zMk H
   clear H
   have hcz10_0 : wr.cell? ⟨gb458, 0, none⟩ = some (.int .i64 a0_0) := (zKc BK458.out 0).trans rfl
   have hcz10_1 : wr.cell? ⟨gb458, 1, none⟩ = some (.slice A0_1 l0_1.length c0_1) := (zKc BK458.out 1).trans rfl
   have hfz10_0 := zKf BK458.out 0
   have hfz10_1 := zKf BK458.out 1
   obtain ⟨Ao11, co11, eo11⟩ := zRs HO_3.out
   subst eo11
   have p462 : 0 ≤ (x5_1 : Int) := of_decide_eq_true (by assumption)
   have q462 : x5_1 < (t459.length : Int) := of_decide_eq_true (by assumption)
   obtain ⟨ad462, e462, hx462_0⟩ := zAi (zRr HO_3.out).2.2 x5_1 p462 q462
   cases e462
   replace p462 := eq_true p462
   replace q462 := eq_true q462
   go_wp2
   go_loopg [6, 7] k1 (fun kq v6 v7 w' => ∃ (x6_2 : List Int) (x7_2 : Int), v7 = .int .i64 x7_2 ∧ Aside0 (r6_Components.l1 kq t459 x4_1 x5_1 x6_2 x7_2 a0_0 l0_1 = some r) ∧ Aside0 (kq ≤ k1) ∧ Aside0 (Kd.R (Kd.int .i64) 3 w' w.heap.size (fun k_ => some k_ ≠ (v6 : Value).ownBlock) (.slice (some ad462) t459.length co11) t459) ∧ Aside0 (Kd.S (Kd.slice 3 (Kd.int .i64)) 33 w' w.heap.size (fun k_ => some k_ ≠ ((.slice (some ad462) t459.length co11) : Value).ownBlock ∧ some k_ ≠ (v6 : Value).ownBlock) u4 x4_1) ∧ Aside0 (Kd.R (Kd.int .i64) 3 w' w.heap.size (fun k_ => some k_ ≠ ((.slice (some ad462) t459.length co11) : Value).ownBlock) v6 x6_2) ∧ Aside0 (w'.heap[gb458]? = some (.cells #[.int .i64 a0_0, (.slice A0_1 l0_1.length c0_1)] 24 (0, 0))) ∧ Aside0 (Below w.heap.size w w'))
   case atStart => exact ⟨(([] : List Int)), (x5_1), (by first | rfl | (simp; done) | (simp [*]; done)), H', ⟨Nat.le_refl _⟩, ⟨by (with_reducible repeat (first | apply zRa | apply zRn | apply zRd)); exact zRm HO_3.out (fun _ hk => (by simp [Value.ownBlock]))⟩, ⟨by (with_reducible repeat (first | apply Kd.S_alloc | apply Kd.S_drewN | apply Kd.S_drew)); exact Kd.S_mono HO_4.out (fun _ hk => ⟨hk, (by simp [Value.ownBlock])⟩)⟩, ⟨by first | exact Kd.R_nil _ _ _ _ _ | exact Kd.N_nil _ _ _ _ _ | exact Kd.V_nil _ _ _ _ _ | exact Kd.Q_nil _ _ _ _ _ | exact Kd.S_nil _ _ _ _ _⟩, ⟨by (with_reducible repeat (first | refine zKn ?_ _ | refine zKd ?_ | refine zKa ?_ _)); exact BK458.out⟩, ⟨by exact uT HB.out⟩⟩
   clear H'
   obtain ⟨x6_2, x7_2, rfl, HA, HK2, HO_3, HO_4, HO_6, BK458, HB⟩ := hrel
   rcases gk with _ | k2
   ·exact absurd HA.out (by simp [r6_Components.l1])
   have H := HA.out
   clear HA
   simp only [r6_Components.l1] at H
   by_cases c12 : x7_2 < a0_0
   ·rw [if_pos c12] at H
    have c12b0 : decide (x7_2 < a0_0) = true := decide_eq_true c12
    clear c12
    by_cases c13 : 0 ≤ x7_2
    rotate_left
    ·rw [if_neg c13] at H; exact absurd H (by simp)
    rw [if_pos c13] at H
    have c13b0 : decide (0 ≤ x7_2) = true := decide_eq_true c13
    clear c13
    by_cases c14 : x7_2 < (t459.length : Int)
    rotate_left
    ·rw [if_neg c14] at H; exact absurd H (by simp)
    rw [if_pos c14] at H
    have c14b0 : decide (x7_2 < (t459.length : Int)) = true := decide_eq_true c14
    clear c14
    by_cases c15 : (rd t459 x7_2) = x5_1
    ·rw [if_pos c15] at H
     have c15b0 : ((rd t459 x7_2) == x5_1) = true := beq_iff_eq.mpr c15
     have c15b1 : ((rd t459 x7_2) != x5_1) = false := bne_eq_false_iff_eq.mpr c15
     clear c15
     by_cases c16 : x6_2.length < 17592186044416
     rotate_left
     ·rw [if_neg c16] at H; exact absurd H (by simp)
     rw [if_pos c16] at H
     have LMc16 := zMk c16
     clear c16
     obtain ⟨y464, hy464⟩ : ∃ y_ : List Int, y_ = (x6_2 ++ [x7_2]) := ⟨_, rfl⟩
     replace H : (r6_Components.l1 k2 t459 x4_1 x5_1 y464 (wrap64 (x7_2 + 1)) a0_0 l0_1) = some r := by first | (rw [hy464]; with_reducible exact H) | (have H2_ := bsm H; first | (rw [hy464]; with_reducible exact H2_) | with_reducible exact H2_) | with_reducible exact H | (rw [hy464]; exact H) | exact H
     have Ny464 := zMk hy464
     clear hy464
     have H' := zMk H
     clear H
     have hcz17_0 : wr.cell? ⟨gb458, 0, none⟩ = some (.int .i64 a0_0) := (zKc BK458.out 0).trans rfl
     have hcz17_1 : wr.cell? ⟨gb458, 1, none⟩ = some (.slice A0_1 l0_1.length c0_1) := (zKc BK458.out 1).trans rfl
     have hfz17_0 := zKf BK458.out 0
     have hfz17_1 := zKf BK458.out 1
     have p463 : 0 ≤ (x7_2 : Int) := of_decide_eq_true (by assumption)
     have q463 : x7_2 < (t459.length : Int) := of_decide_eq_true (by assumption)
     obtain ⟨ad463, e463, hx463_0⟩ := zAi (zRr HO_3.out).2.2 x7_2 p463 q463
     obtain rfl : ad462 = ad463 := (by injection e463)
     replace p463 := eq_true p463
     replace q463 := eq_true q463
     go_wp2_with (first | ((with_reducible refine gate_builtin (b:=.append) (xs:=#[.tmp 35, .tmp 37]) rfl ?_); at_builtin; refine Kd.R_append (Kd.int .i64) (w0:=w) w.heap.size rfl (.tmp 35) (.tmp 37) 33 3 (.int .i64 0) 8 rfl Try.underlying33 info3 rfl (by decide) (by omega) u6 x6_2 x7_2 [.int .i64 x7_2] (fun k_ => some k_ ≠ (.slice (some ad462) t459.length co11 : Value).ownBlock) (fun _ => False) rfl rfl ?aP (fun _ hk => hk.elim) ?aF ?aO ?aB ?aS ?aL ?_; (case aP => exact rfl); (case aB => exact (uT HB.out)); (case aF => exact (fun k_ hk => Kd.fresh' (zRt (uR HO_3.out)) k_ hk)); (case aO => exact (uR HO_6.out)); (case aS => exact (zBs (uT HB.out))); (case aL => have := LMc16.out; omega); intro v465 w18 ho hb hg hat; rw [← Ny464.out] at ho; replace HO_3 := zMk (Kd.R_after (ok:=(fun _ => True)) (zRm HO_3.out (fun _ hk => ⟨trivial, hk⟩)) hg hat); replace HO_4 := zMk (Kd.S_after (ok:=(fun k_ => some k_ ≠ (.slice (some ad462) t459.length co11 : Value).ownBlock)) (by (with_reducible repeat (first |  apply Kd.S_alloc|  apply Kd.S_drewN|  apply Kd.S_drew)); exact HO_4.out) hg hat); replace BK458 := zMk (blk_grown (g:=gb458) (o:=.cells #[.int .i64 a0_0, .slice A0_1 l0_1.length c0_1] 24 (0, 0)) BK458.out hg (Kd.R_ne HO_6.out BK458.out (by decide))); replace HB := zMk (hb); have HO466 := zMk (ho); clear HO_6 ho hb hg hat))
     go_roundg k2
     case measure => have := HK1.out; have := HK2.out; omega
     case rel => exact ⟨(y464), (wrap64 (x7_2 + 1)), (by first | rfl | (simp; done) | (simp [*]; done)), H', ⟨by have := HK1.out; have := HK2.out; omega⟩, ⟨by (with_reducible repeat (first | apply zRa | apply zRn | apply zRd)); exact zRm HO_3.out (fun _ hk => hk.2)⟩, ⟨by (with_reducible repeat (first | apply Kd.S_alloc | apply Kd.S_drewN | apply Kd.S_drew)); exact HO_4.out⟩, ⟨by exact uR HO466.out⟩, ⟨by (with_reducible repeat (first | refine zKn ?_ _ | refine zKd ?_ | refine zKa ?_ _)); exact BK458.out⟩, ⟨by exact uT HB.out⟩⟩
    ·rw [if_neg c15] at H
     have c15b0 : ((rd t459 x7_2) == x5_1) = false := beq_eq_false_iff_ne.mpr c15
     have c15b1 : ((rd t459 x7_2) != x5_1) = true := bne_iff_ne.mpr c15
     have H' := zMk H
     clear H
     have hcz19_0 : wr.cell? ⟨gb458, 0, none⟩ = some (.int .i64 a0_0) := (zKc BK458.out 0).trans rfl
     have hcz19_1 : wr.cell? ⟨gb458, 1, none⟩ = some (.slice A0_1 l0_1.length c0_1) := (zKc BK458.out 1).trans rfl
     have hfz19_0 := zKf BK458.out 0
     have hfz19_1 := zKf BK458.out 1
     have p463 : 0 ≤ (x7_2 : Int) := of_decide_eq_true (by assumption)
     have q463 : x7_2 < (t459.length : Int) := of_decide_eq_true (by assumption)
     obtain ⟨ad463, e463, hx463_0⟩ := zAi (zRr HO_3.out).2.2 x7_2 p463 q463
     obtain rfl : ad462 = ad463 := (by injection e463)
     replace p463 := eq_true p463
     replace q463 := eq_true q463
     go_wp2
     go_roundg k2
     case measure => have := HK1.out; have := HK2.out; omega
     case rel => exact ⟨(x6_2), (wrap64 (x7_2 + 1)), (by first | rfl | (simp; done) | (simp [*]; done)), H', ⟨by have := HK1.out; have := HK2.out; omega⟩, ⟨by exact uR HO_3.out⟩, ⟨by (with_reducible repeat (first | apply Kd.S_alloc | apply Kd.S_drewN | apply Kd.S_drew)); exact HO_4.out⟩, ⟨by exact uR HO_6.out⟩, ⟨by (with_reducible repeat (first | refine zKn ?_ _ | refine zKd ?_ | refine zKa ?_ _)); exact BK458.out⟩, ⟨by exact uT HB.out⟩⟩
   ·rw [if_neg c12] at H
    have c12b0 : decide (x7_2 < a0_0) = false := decide_eq_false c12
    clear c12
    by_cases c20 : x4_1.length < 5864062014805
    rotate_left
    ·rw [if_neg c20] at H; exact absurd H (by simp)
    rw [if_pos c20] at H
    have LMc20 := zMk c20
    clear c20
    obtain ⟨y467, hy467⟩ : ∃ y_ : List (List Int), y_ = (x4_1 ++ [x6_2]) := ⟨_, rfl⟩
    replace H : (r6_Components.l0 k2 t459 y467 (wrap64 (x5_1 + 1)) a0_0 l0_1) = some r := by first | (rw [hy467]; with_reducible exact H) | (have H2_ := bsm H; first | (rw [hy467]; with_reducible exact H2_) | with_reducible exact H2_) | with_reducible exact H | (rw [hy467]; exact H) | exact H
    have Ny467 := zMk hy467
    clear hy467
    have H' := zMk H
    clear H
    have hcz21_0 : wr.cell? ⟨gb458, 0, none⟩ = some (.int .i64 a0_0) := (zKc BK458.out 0).trans rfl
    have hcz21_1 : wr.cell? ⟨gb458, 1, none⟩ = some (.slice A0_1 l0_1.length c0_1) := (zKc BK458.out 1).trans rfl
    have hfz21_0 := zKf BK458.out 0
    have hfz21_1 := zKf BK458.out 1
    obtain ⟨Ao23, co23, eo23⟩ := zRs HO_6.out
    subst eo23
    go_wp2_with (first | ((with_reducible refine gate_builtin (b:=.append) (xs:=#[.tmp 39, .tmp 41]) rfl ?_); at_builtin; refine Kd.S_append (Kd.slice 3 (Kd.int .i64)) (w0:=w) w.heap.size rfl (.tmp 39) (.tmp 41) 29 33 (.slice none 0 0) 24 rfl Try.underlying29 info33 rfl (by decide) (by omega) u4 x4_1 x6_2 [.slice Ao23 x6_2.length co23] (fun k_ => some k_ ≠ (.slice (some ad462) t459.length co11 : Value).ownBlock) (fun k_ => some k_ = (.slice Ao23 x6_2.length co23 : Value).ownBlock) rfl rfl ?aP (fun k_ hk_ => ((zRm (ok' := fun k_ => ((fun k_ => some k_ ≠ (.slice (some ad462) t459.length co11 : Value).ownBlock)) k_ ∧ some k_ ≠ (u4 : Value).ownBlock) (Kd.R_apart' (HO_6.out) (Kd.S_typed HO_4.out) (by decide)) (fun k_ hk => ⟨hk.1, hk.2⟩))).1 k_ hk_.symm) ?aF ?aO ?aB ?aS ?aL ?_; (case aP => exact Kd.M_row (zRm (Kd.R_tight rfl (zRm (ok' := fun k_ => ((fun k_ => some k_ ≠ (.slice (some ad462) t459.length co11 : Value).ownBlock)) k_ ∧ some k_ ≠ (u4 : Value).ownBlock) (Kd.R_apart' (HO_6.out) (Kd.S_typed HO_4.out) (by decide)) (fun k_ hk => ⟨hk.1, hk.2⟩))) (fun _ h_ => h_))); (case aB => exact (uT HB.out)); (case aF => exact (fun k_ hk => Kd.fresh' (zRt (uR HO_3.out)) k_ hk)); (case aO => exact (by (with_reducible repeat (first |  apply Kd.S_alloc|  apply Kd.S_drewN|  apply Kd.S_drew)); exact Kd.S_mono HO_4.out (fun k_ hk => ⟨hk.1, fun e_ => hk.2 e_⟩))); (case aS => exact (zBs (uT HB.out))); (case aL => have := LMc20.out; omega); intro v468 w22 ho hb hg hat; rw [← Ny467.out] at ho; replace HO_3 := zMk (Kd.R_over' (uR HO_3.out) (Kd.S_typed (by (with_reducible repeat (first |  apply Kd.S_alloc|  apply Kd.S_drewN|  apply Kd.S_drew)); exact HO_4.out)) (by decide) hg); replace BK458 := zMk (blk_grown (g:=gb458) (o:=.cells #[.int .i64 a0_0, .slice A0_1 l0_1.length c0_1] 24 (0, 0)) BK458.out hg (Kd.S_ne HO_4.out BK458.out (by decide))); replace HB := zMk (hb); have HO469 := zMk (ho); clear HO_4 HO_6 ho hb hg hat))
    go_roundg k2
    case measure => have := HK1.out; have := HK2.out; omega
    case rel => exact ⟨(y467), (wrap64 (x5_1 + 1)), (by first | rfl | (simp; done) | (simp [*]; done)), H', ⟨by have := HK1.out; have := HK2.out; omega⟩, ⟨by (with_reducible repeat (first | apply zRa | apply zRn | apply zRd)); exact zRm HO_3.out (fun _ hk => trivial)⟩, ⟨by (with_reducible repeat (first | apply Kd.S_alloc | apply Kd.S_drewN | apply Kd.S_drew)); exact HO469.out⟩, ⟨by (with_reducible repeat (first | refine zKn ?_ _ | refine zKd ?_ | refine zKa ?_ _)); exact BK458.out⟩, ⟨by exact uT HB.out⟩⟩
  ·rw [if_neg c9] at H
   have c9b0 : ((rd t459 x5_1) == x5_1) = false := beq_eq_false_iff_ne.mpr c9
   have c9b1 : ((rd t459 x5_1) != x5_1) = true := bne_iff_ne.mpr c9
   have H' := zMk H
   clear H
   have hcz24_0 : wr.cell? ⟨gb458, 0, none⟩ = some (.int .i64 a0_0) := (zKc BK458.out 0).trans rfl
   have hcz24_1 : wr.cell? ⟨gb458, 1, none⟩ = some (.slice A0_1 l0_1.length c0_1) := (zKc BK458.out 1).trans rfl
   have hfz24_0 := zKf BK458.out 0
   have hfz24_1 := zKf BK458.out 1
   obtain ⟨Ao25, co25, eo25⟩ := zRs HO_3.out
   subst eo25
   have p462 : 0 ≤ (x5_1 : Int) := of_decide_eq_true (by assumption)
   have q462 : x5_1 < (t459.length : Int) := of_decide_eq_true (by assumption)
   obtain ⟨ad462, e462, hx462_0⟩ := zAi (zRr HO_3.out).2.2 x5_1 p462 q462
   cases e462
   replace p462 := eq_true p462
   replace q462 := eq_true q462
   go_wp2
   go_roundg k1
   case measure => have := HK1.out; omega
   case rel => exact ⟨(x4_1), (wrap64 (x5_1 + 1)), (by first | rfl | (simp; done) | (simp [*]; done)), H', ⟨by have := HK1.out; omega⟩, ⟨by exact uR HO_3.out⟩, ⟨by (with_reducible repeat (first | apply Kd.S_alloc | apply Kd.S_drewN | apply Kd.S_drew)); exact HO_4.out⟩, ⟨by (with_reducible repeat (first | refine zKn ?_ _ | refine zKd ?_ | refine zKa ?_ _)); exact BK458.out⟩, ⟨by exact uT HB.out⟩⟩
 ·rw [if_neg c6] at H
  have c6b0 : decide (x5_1 < a0_0) = false := decide_eq_false c6
  clear c6
  obtain rfl := zOi H
  have hcz26_0 : wr.cell? ⟨gb458, 0, none⟩ = some (.int .i64 a0_0) := (zKc BK458.out 0).trans rfl
  have hcz26_1 : wr.cell? ⟨gb458, 1, none⟩ = some (.slice A0_1 l0_1.length c0_1) := (zKc BK458.out 1).trans rfl
  have hfz26_0 := zKf BK458.out 0
  have hfz26_1 := zKf BK458.out 1
  go_wp2
  go_ret
  exact ⟨_, by first | rfl | (simp [errW_none, errW_some] <;> rfl) | (simp [*, errW_none, errW_some] <;> rfl), by (with_reducible repeat (first | apply Kd.S_alloc | apply Kd.S_drewN | apply Kd.S_drew)); exact Kd.S_mono HO_4.out (fun _ hk => trivial), by exact uT HB.out⟩

def clsL (N : Nat) (l : List Int) (v : Int) : List Int := (ups N).filter fun u => rd l u == v
def compsL (N : Nat) (l : List Int) : List (List Int) := ((ups N).filter fun v => rd l v == v).map (clsL N l)
theorem ups_drop (N i : Nat) (h : i < N) : (ups N).drop i = (i : Int) :: (ups N).drop (i + 1) := by
 rw [List.drop_eq_getElem_cons (by rw [ups_len]; exact h)]
 simp [ups]
theorem ups_drop_end (N : Nat) : (ups N).drop N = [] := by rw [List.drop_eq_nil_iff, ups_len]; exact Nat.le_refl _
theorem Comp_l1 (N : Nat) (l : List Int) (hl : l.length = N) (hN : N ≤ 1000000000) (x4 : List (List Int)) (hx4 : x4.length ≤ 1000000000) (v : Int) (x45 : List S43) (r : List (List Int)) (d : Nat) : ∀ (j : Nat) (x6 : List Int), N - j = d → j ≤ N → x6.length ≤ j →
  Ev (fun k => r6_Components.l0 k l (x4 ++ [x6 ++ ((ups N).drop j).filter fun u => rd l u == v]) (wrap64 (v + 1)) N x45) r → Ev (fun k => r6_Components.l1 k l x4 v x6 j N x45) r := by
 induction d with
 | zero =>
  intro j x6 hd hj hx h
  obtain rfl : j = N := by omega
  rw [ups_drop_end, List.filter_nil, List.append_nil] at h
  refine Ev.step (fun k => ?_) h
  simp only [r6_Components.l1]
  rw [if_neg (by omega), if_pos (by omega)]
 | succ d ih =>
  intro j x6 hd hj hx h
  have hlt : j < N := by omega
  rw [ups_drop N j hlt] at h
  by_cases hc : rd l (j : Int) = v
  ·rw [List.filter_cons_of_pos (by simpa using hc)] at h
   refine Ev.step (fun k => ?_) (ih (j + 1) (x6 ++ [(j : Int)]) (by omega) (by omega) (by rw [List.length_append]; simp; omega) (by rw [List.append_assoc]; exact h))
   simp only [r6_Components.l1]
   rw [if_pos (by omega), if_pos (by omega), if_pos (by omega), if_pos hc, if_pos (by omega), w64n j (by omega)]
  ·rw [List.filter_cons_of_neg (by simpa using hc)] at h
   refine Ev.step (fun k => ?_) (ih (j + 1) x6 (by omega) (by omega) (by omega) h)
   simp only [r6_Components.l1]
   rw [if_pos (by omega), if_pos (by omega), if_pos (by omega), if_neg hc, w64n j (by omega)]
theorem cls_from {N : Nat} {l : List Int} (hle : ∀ u : Int, 0 ≤ u → u < (N : Int) → rd l u ≤ u) (v : Nat) (hv : v ≤ N) : ((ups N).drop v).filter (fun u => rd l u == (v : Int)) = clsL N l v := by
 have h1 : ups N = (ups N).take v ++ (ups N).drop v := (List.take_append_drop v _).symm
 unfold clsL
 conv => rhs; rw [h1]
 rw [List.filter_append]
 have h2 : ((ups N).take v).filter (fun u => rd l u == (v : Int)) = [] := by
  rw [List.filter_eq_nil_iff]
  intro u hu hc
  obtain ⟨j, hj⟩ := List.getElem?_of_mem hu
  rw [List.getElem?_take] at hj
  split at hj
  ·obtain ⟨h3, h4⟩ := List.getElem?_eq_some_iff.1 hj
   have h5 : u = (j : Int) := by rw [← h4]; simp [ups]
   rw [ups_len] at h3
   have := hle u (by omega) (by omega)
   have hc : rd l u = (v : Int) := by simpa using hc
   omega
  ·cases hj
 rw [h2, List.nil_append]
theorem Comp_l0 (N : Nat) (l : List Int) (hl : l.length = N) (hN : N ≤ 1000000000) (hle : ∀ u : Int, 0 ≤ u → u < (N : Int) → rd l u ≤ u) (x45 : List S43) (d : Nat) : ∀ (i : Nat) (x4 : List (List Int)), N - i = d → i ≤ N → x4.length ≤ i →
  Ev (fun k => r6_Components.l0 k l x4 i N x45) (x4 ++ (((ups N).drop i).filter fun v => rd l v == v).map (clsL N l)) := by
 induction d with
 | zero =>
  intro i x4 hd hi hx
  obtain rfl : i = N := by omega
  rw [ups_drop_end, List.filter_nil, zMn, List.append_nil]
  refine Ev.step (fun k => ?_) (Ev.now _)
  simp only [r6_Components.l0]
  rw [if_neg (by omega)]
 | succ d ih =>
  intro i x4 hd hi hx
  have hlt : i < N := by omega
  rw [ups_drop N i hlt]
  by_cases hc : rd l (i : Int) = i
  ·rw [List.filter_cons_of_pos (by simpa using hc), zMc]
   have h1 := ih (i + 1) (x4 ++ [clsL N l i]) (by omega) (by omega) (by rw [List.length_append]; simp; omega)
   rw [List.append_assoc, List.singleton_append] at h1
   have h2 := Comp_l1 N l hl hN x4 (by omega) (i : Int) x45 _ (N - i) i [] rfl hi (Nat.zero_le _) (by
    rw [List.nil_append, cls_from hle i hi, w64n i (by omega)]; exact h1)
   refine Ev.step (fun k => ?_) h2
   simp only [r6_Components.l0]
   rw [if_pos (by omega), if_pos (by omega), if_pos (by omega), if_pos hc]
  ·rw [List.filter_cons_of_neg (by simpa using hc)]
   refine Ev.step (fun k => ?_) (ih (i + 1) x4 (by omega) (by omega) (by omega))
   simp only [r6_Components.l0]
   rw [if_pos (by omega), if_pos (by omega), if_pos (by omega), if_neg hc, w64n i (by omega)]
theorem labs_le {N : Nat} {E : List S43} (hE : Ends N E) (u : Int) (h0 : 0 ≤ u) (h1 : u < (N : Int)) : rd (labs N E) u ≤ u := by
 obtain ⟨r, r0, r1, hr, hc⟩ := root_of E u h0
 rw [labs_root hE hr r0 (by omega) hc.symm]
 exact r1
theorem refComp_ev (N : Nat) (E : List S43) (hE : Ends N E) (hm : E.length ≤ 1000000000) (hN : N ≤ 1000000000) : Ev (fun k => r6_Components.f k N E) (compsL N (labs N E)) := by
 have h := Ev.bind (f:=fun k t => r6_Components.l0 k t ([] : List (List Int)) 0 N E) (Labels_ev N E hE hm hN) (Comp_l0 N (labs N E) (labs_len N E) hN (labs_le hE) E N 0 [] rfl (Nat.zero_le _) (Nat.zero_le _))
 exact h

def r4_Only.l0 : Nat → List Bool → Int → Int → List (S43) → Int → List (S43) → Option (Int × (List (S43)))
 | 0, _, _, _, _, _, _ => none
 | k + 1, x1, x6, x389000, x389001, x391000, x391001 => if x6 < (x389001.length : Int) then (if 0 ≤ x6 then (if ((rd_T43 x389001 x6).f0) < (x1.length : Int) then (if 0 ≤ ((rd_T43 x389001 x6).f0) then (if rdOf false x1 ((rd_T43 x389001 x6).f0) = true then (if ((rd_T43 x389001 x6).f1) < (x1.length : Int) then (if 0 ≤ ((rd_T43 x389001 x6).f1) then (if rdOf false x1 ((rd_T43 x389001 x6).f1) = true then (if x391001.length < 5864062014805 then (r4_Only.l0 k x1 (wrap64 (x6 + 1)) x389000 x389001 x391000 (x391001 ++ [(⟨(rd_T43 x389001 x6).f0, (rd_T43 x389001 x6).f1, (rd_T43 x389001 x6).f2⟩ : S43)])) else (none)) else (r4_Only.l0 k x1 (wrap64 (x6 + 1)) x389000 x389001 x391000 x391001)) else (none)) else (r4_Only.l0 k x1 (wrap64 (x6 + 1)) x389000 x389001 x391000 x391001)) else (r4_Only.l0 k x1 (wrap64 (x6 + 1)) x389000 x389001 x391000 x391001)) else (none)) else (r4_Only.l0 k x1 (wrap64 (x6 + 1)) x389000 x389001 x391000 x391001)) else (none)) else (some (x391000, x391001))
def r4_Only.f (k : Nat) (a0_0 : Int) (l0_1 : List (S43)) (l1 : List Bool) : Option (Int × (List (S43))) := r4_Only.l0 k l1 0 a0_0 l0_1 a0_0 ([] : List (S43))
theorem r4_Only.calls (k : Nat) (a0_0 : Int) (A0_1 : Option Addr) (c0_1 : Nat) (l0_1 : List (S43)) (A1 : Option Addr) (c1 : Nat) (l1 : List Bool) (r1 : Int) (r2 : List (S43)) (w : World) (hr0_1 : Kd.C k43 w A0_1 l0_1.length l0_1) (hc0_1 : l0_1.length ≤ c0_1) (hr1 : Kd.C Kd.bool w A1 l1.length l1) (hc1 : l1.length ≤ c1) (h : r4_Only.f k a0_0 l0_1 l1 = some (r1, r2)) :
  Calls Try.prog 33 #[.agg #[.int .i64 a0_0, .slice A0_1 l0_1.length c0_1], .slice A1 l1.length c1] w fun e w' => ∃ v1_ : Value, e = .returned (.agg #[.int .i64 r1, v1_]) ∧ Kd.R k43 43 w' w.heap.size (fun _ => True) v1_ r2 ∧ Below w.heap.size w w' := by
 have hu24 := Try.underlying24
 have hu43 := Try.underlying43
 have HR0_1 := zMk hr0_1
 have HC0_1 := zMk hc0_1
 clear hr0_1 hc0_1
 have HR1 := zMk hr1
 have HC1 := zMk hc1
 clear hr1 hc1
 have HB := zMk (Below.refl w.heap.size w)
 have H : (r4_Only.l0 k l1 0 a0_0 l0_1 a0_0 ([] : List (S43))) = some (r1, r2) := h
 clear h
 have H' := zMk H
 clear H
 go_enter Try.func33, Try.ntmps33
 go_wp2_with (first | ((with_reducible refine gate_dst (N:=2) rfl ?_); (try (refine gate_guard (by rfl) ?_; dsimp only)); refine box_event ?hg (N:=2) ?hd (cs:=#[.int .i64 a0_0, .slice A0_1 l0_1.length c0_1]) (t:=24) ?hr ?_; (case hd => rfl); (case hg => rfl); (case hr => first | (go_simp; done)|(go_simp; rfl)|(go_simp; rw [show ∀ x : Int, IntKind.u32.wrap (IntKind.u8.wrap x) = x % 256 from fun x => (by show (x % 256) % 4294967296 = x % 256; omega)])); intro gb388 hg w3 hbox hb; have BK388 := zMk (hbox); have GW388 := zMk ((by rw [hg]; exact (zBs (uT HB.out)) : w.heap.size ≤ gb388)); have GE388 := zMk ((by rw [hg]; exact (zBs (uT HB.out)) : w.heap.size ≤ gb388)); have IGE388 := ownGe GE388.out; replace HB := zMk (zBt (uT HB.out) hb); clear hb hbox hg)|((with_reducible refine gate_dst (N:=4) rfl ?_); (try (refine gate_guard (by rfl) ?_; dsimp only)); refine box_event ?hg (N:=4) ?hd (cs:=#[.int .i64 0, .slice none 0 0]) (t:=24) ?hr ?_; (case hd => rfl); (case hg => rfl); (case hr => first | (go_simp; done)|(go_simp; rfl)|(go_simp; rw [show ∀ x : Int, IntKind.u32.wrap (IntKind.u8.wrap x) = x % 256 from fun x => (by show (x % 256) % 4294967296 = x % 256; omega)])); intro gb389 hg w4 hbox hb; have BK389 := zMk (hbox); have GW389 := zMk ((by rw [hg]; exact (zBs (uT HB.out)) : w.heap.size ≤ gb389)); have GE389 := zMk ((by rw [hg]; exact (zBs (uT HB.out)) : w.heap.size ≤ gb389)); have IGE389 := ownGe GE389.out; replace HB := zMk (zBt (uT HB.out) hb); have NB388_389 := zMk ((by rw [hg]; exact Nat.ne_of_lt (blk_lt BK388.out) : gb388 ≠ gb389)); have NB389_388 := zMk ((by rw [hg]; exact Nat.ne_of_gt (blk_lt BK388.out) : gb389 ≠ gb388)); replace BK388 := zMk (zKb BK388.out hb); clear hb hbox hg; have hnb5 := NB388_389.out; have hnc5 := NB389_388.out; have hcz6_0 : w4.cell? ⟨gb388, 0, none⟩ = some (.int .i64 a0_0) := (zKc BK388.out 0).trans rfl; have hcz6_1 : w4.cell? ⟨gb388, 1, none⟩ = some (.slice A0_1 l0_1.length c0_1) := (zKc BK388.out 1).trans rfl; have hfz6_0 := zKf BK388.out 0; have hfz6_1 := zKf BK388.out 1)|((with_reducible refine gate_dst (N:=5) rfl ?_); (try (refine gate_guard (by rfl) ?_; dsimp only)); refine box_event ?hg (N:=5) ?hd (cs:=#[.int .i64 0, .slice none 0 0]) (t:=24) ?hr ?_; (case hd => rfl); (case hg => rfl); (case hr => first | (go_simp; done)|(go_simp; rfl)|(go_simp; rw [show ∀ x : Int, IntKind.u32.wrap (IntKind.u8.wrap x) = x % 256 from fun x => (by show (x % 256) % 4294967296 = x % 256; omega)])); intro gb390 hg w7 hbox hb; have BK390 := zMk (hbox); have GW390 := zMk ((by rw [hg]; exact (zBs (uT HB.out)) : w.heap.size ≤ gb390)); have GE390 := zMk ((by rw [hg]; exact (zBs (uT HB.out)) : w.heap.size ≤ gb390)); have IGE390 := ownGe GE390.out; replace HB := zMk (zBt (uT HB.out) hb); have NB388_390 := zMk ((by rw [hg]; exact Nat.ne_of_lt (blk_lt BK388.out) : gb388 ≠ gb390)); have NB390_388 := zMk ((by rw [hg]; exact Nat.ne_of_gt (blk_lt BK388.out) : gb390 ≠ gb388)); replace BK388 := zMk (zKb BK388.out hb); have NB389_390 := zMk ((by rw [hg]; exact Nat.ne_of_lt (blk_lt BK389.out) : gb389 ≠ gb390)); have NB390_389 := zMk ((by rw [hg]; exact Nat.ne_of_gt (blk_lt BK389.out) : gb390 ≠ gb389)); replace BK389 := zMk (zKb BK389.out hb); clear hb hbox hg; have hnb8 := NB390_388.out; have hnc8 := NB388_390.out; have hnb9 := NB390_389.out; have hnc9 := NB389_390.out; have hcz10_0 : w7.cell? ⟨gb390, 0, none⟩ = some (.int .i64 0) := (zKc BK390.out 0).trans rfl; have hcz10_1 : w7.cell? ⟨gb390, 1, none⟩ = some (.slice none 0 0) := (zKc BK390.out 1).trans rfl; have hfz10_0 := zKf BK390.out 0; have hfz10_1 := zKf BK390.out 1))
 go_loopg [6] k (fun kq v6 w' => ∃ (x6_1 : Int) (x391001_1 : List (S43)) (u391001 : Value), v6 = .int .i64 x6_1 ∧ Aside0 (r4_Only.l0 kq l1 x6_1 a0_0 l0_1 a0_0 x391001_1 = some (r1, r2)) ∧ Aside0 (kq ≤ k) ∧ Aside0 (Kd.R k43 43 w' w.heap.size (fun _ => True) u391001 x391001_1) ∧ Aside0 (w'.heap[gb388]? = some (.cells #[.int .i64 a0_0, (.slice A0_1 l0_1.length c0_1)] 24 (0, 0))) ∧ Aside0 (w'.heap[gb389]? = some (.cells #[.int .i64 0, (.slice none 0 0)] 24 (0, 0))) ∧ Aside0 (w'.heap[gb390]? = some (.cells #[.int .i64 a0_0, u391001] 24 (0, 0))) ∧ Aside0 (Below w.heap.size w w'))
 case atStart => exact ⟨(0), (([] : List (S43))), (.slice none 0 0), (by first | rfl | (simp; done) | (simp [*]; done)), H', ⟨Nat.le_refl _⟩, ⟨by first | exact Kd.R_nil _ _ _ _ _ | exact Kd.N_nil _ _ _ _ _ | exact Kd.V_nil _ _ _ _ _ | exact Kd.Q_nil _ _ _ _ _ | exact Kd.S_nil _ _ _ _ _⟩, ⟨by (with_reducible repeat (first | refine zKn ?_ _ | refine zKd ?_ | refine zKa ?_ _)); refine blk_far ?_ NB388_390.out _; (with_reducible repeat (first | refine zKn ?_ _ | refine zKd ?_ | refine zKa ?_ _)); refine blk_far ?_ NB388_390.out _; (with_reducible repeat (first | refine zKn ?_ _ | refine zKd ?_ | refine zKa ?_ _)); exact BK388.out⟩, ⟨by (with_reducible repeat (first | refine zKn ?_ _ | refine zKd ?_ | refine zKa ?_ _)); refine blk_far ?_ NB389_390.out _; (with_reducible repeat (first | refine zKn ?_ _ | refine zKd ?_ | refine zKa ?_ _)); refine blk_far ?_ NB389_390.out _; (with_reducible repeat (first | refine zKn ?_ _ | refine zKd ?_ | refine zKa ?_ _)); exact BK389.out⟩, ⟨by (with_reducible repeat (first | refine zKn ?_ _ | refine zKd ?_ | refine zKa ?_ _)); refine blk_put (cs:=#[.int .i64 a0_0, .slice none 0 0]) ?_ 1 _ rfl; (with_reducible repeat (first | refine zKn ?_ _ | refine zKd ?_ | refine zKa ?_ _)); refine blk_put (cs:=#[.int .i64 0, .slice none 0 0]) ?_ 0 _ rfl; (with_reducible repeat (first | refine zKn ?_ _ | refine zKd ?_ | refine zKa ?_ _)); exact BK390.out⟩, ⟨by exact uT HB.out⟩⟩
 clear H'
 obtain ⟨x6_1, x391001_1, u391001, rfl, HA, HK1, HO_391001, BK388, BK389, BK390, HB⟩ := hrel
 rcases gk with _ | k1
 ·exact absurd HA.out (by simp [r4_Only.l0])
 have H := HA.out
 clear HA
 simp only [r4_Only.l0] at H
 by_cases c11 : x6_1 < (l0_1.length : Int)
 ·rw [if_pos c11] at H
  have c11b0 : decide (x6_1 < (l0_1.length : Int)) = true := decide_eq_true c11
  clear c11
  by_cases c12 : 0 ≤ x6_1
  rotate_left
  ·rw [if_neg c12] at H; exact absurd H (by simp)
  rw [if_pos c12] at H
  have c12b0 : decide (0 ≤ x6_1) = true := decide_eq_true c12
  clear c12
  by_cases c13 : ((rd_T43 l0_1 x6_1).f0) < (l1.length : Int)
  ·rw [if_pos c13] at H
   have c13b0 : decide (((rd_T43 l0_1 x6_1).f0) < (l1.length : Int)) = true := decide_eq_true c13
   clear c13
   by_cases c14 : 0 ≤ ((rd_T43 l0_1 x6_1).f0)
   rotate_left
   ·rw [if_neg c14] at H; exact absurd H (by simp)
   rw [if_pos c14] at H
   have c14b0 : decide (0 ≤ ((rd_T43 l0_1 x6_1).f0)) = true := decide_eq_true c14
   clear c14
   obtain ⟨bq15, hbq15⟩ : ∃ b_ : Bool, b_ = (rdOf false l1 ((rd_T43 l0_1 x6_1).f0)) := ⟨_, rfl⟩
   replace H : (if bq15 = true then (if ((rd_T43 l0_1 x6_1).f1) < (l1.length : Int) then (if 0 ≤ ((rd_T43 l0_1 x6_1).f1) then (if rdOf false l1 ((rd_T43 l0_1 x6_1).f1) = true then (if x391001_1.length < 5864062014805 then (r4_Only.l0 k1 l1 (wrap64 (x6_1 + 1)) a0_0 l0_1 a0_0 (x391001_1 ++ [(⟨(rd_T43 l0_1 x6_1).f0, (rd_T43 l0_1 x6_1).f1, (rd_T43 l0_1 x6_1).f2⟩ : S43)])) else (none)) else (r4_Only.l0 k1 l1 (wrap64 (x6_1 + 1)) a0_0 l0_1 a0_0 x391001_1)) else (none)) else (r4_Only.l0 k1 l1 (wrap64 (x6_1 + 1)) a0_0 l0_1 a0_0 x391001_1)) else (r4_Only.l0 k1 l1 (wrap64 (x6_1 + 1)) a0_0 l0_1 a0_0 x391001_1)) = some (r1, r2) := by rw [← hbq15] at H; exact H
   have Nbq15 := zMk hbq15
   clear hbq15
   by_cases c16 : bq15 = true
   ·subst c16
    replace H : (if ((rd_T43 l0_1 x6_1).f1) < (l1.length : Int) then (if 0 ≤ ((rd_T43 l0_1 x6_1).f1) then (if rdOf false l1 ((rd_T43 l0_1 x6_1).f1) = true then (if x391001_1.length < 5864062014805 then (r4_Only.l0 k1 l1 (wrap64 (x6_1 + 1)) a0_0 l0_1 a0_0 (x391001_1 ++ [(⟨(rd_T43 l0_1 x6_1).f0, (rd_T43 l0_1 x6_1).f1, (rd_T43 l0_1 x6_1).f2⟩ : S43)])) else (none)) else (r4_Only.l0 k1 l1 (wrap64 (x6_1 + 1)) a0_0 l0_1 a0_0 x391001_1)) else (none)) else (r4_Only.l0 k1 l1 (wrap64 (x6_1 + 1)) a0_0 l0_1 a0_0 x391001_1)) = some (r1, r2) := by rw [if_pos rfl] at H; exact H
    by_cases c17 : ((rd_T43 l0_1 x6_1).f1) < (l1.length : Int)
    ·rw [if_pos c17] at H
     have c17b0 : decide (((rd_T43 l0_1 x6_1).f1) < (l1.length : Int)) = true := decide_eq_true c17
     clear c17
     by_cases c18 : 0 ≤ ((rd_T43 l0_1 x6_1).f1)
     rotate_left
     ·rw [if_neg c18] at H; exact absurd H (by simp)
     rw [if_pos c18] at H
     have c18b0 : decide (0 ≤ ((rd_T43 l0_1 x6_1).f1)) = true := decide_eq_true c18
     clear c18
     obtain ⟨bq19, hbq19⟩ : ∃ b_ : Bool, b_ = (rdOf false l1 ((rd_T43 l0_1 x6_1).f1)) := ⟨_, rfl⟩
     replace H : (if bq19 = true then (if x391001_1.length < 5864062014805 then (r4_Only.l0 k1 l1 (wrap64 (x6_1 + 1)) a0_0 l0_1 a0_0 (x391001_1 ++ [(⟨(rd_T43 l0_1 x6_1).f0, (rd_T43 l0_1 x6_1).f1, (rd_T43 l0_1 x6_1).f2⟩ : S43)])) else (none)) else (r4_Only.l0 k1 l1 (wrap64 (x6_1 + 1)) a0_0 l0_1 a0_0 x391001_1)) = some (r1, r2) := by rw [← hbq19] at H; exact H
     have Nbq19 := zMk hbq19
     clear hbq19
     by_cases c20 : bq19 = true
     ·subst c20
      replace H : (if x391001_1.length < 5864062014805 then (r4_Only.l0 k1 l1 (wrap64 (x6_1 + 1)) a0_0 l0_1 a0_0 (x391001_1 ++ [(⟨(rd_T43 l0_1 x6_1).f0, (rd_T43 l0_1 x6_1).f1, (rd_T43 l0_1 x6_1).f2⟩ : S43)])) else (none)) = some (r1, r2) := by rw [if_pos rfl] at H; exact H
      by_cases c21 : x391001_1.length < 5864062014805
      rotate_left
      ·rw [if_neg c21] at H; exact absurd H (by simp)
      rw [if_pos c21] at H
      have LMc21 := zMk c21
      clear c21
      obtain ⟨y395, hy395⟩ : ∃ y_ : List (S43), y_ = (x391001_1 ++ [(⟨(rd_T43 l0_1 x6_1).f0, (rd_T43 l0_1 x6_1).f1, (rd_T43 l0_1 x6_1).f2⟩ : S43)]) := ⟨_, rfl⟩
      replace H : (r4_Only.l0 k1 l1 (wrap64 (x6_1 + 1)) a0_0 l0_1 a0_0 y395) = some (r1, r2) := by first | (rw [hy395]; with_reducible exact H) | (have H2_ := bsm H; first | (rw [hy395]; with_reducible exact H2_) | with_reducible exact H2_) | with_reducible exact H | (rw [hy395]; exact H) | exact H
      have Ny395 := zMk hy395
      clear hy395
      have H' := zMk H
      clear H
      have hnb22 := NB388_389.out
      have hnc22 := NB389_388.out
      have hnb23 := NB388_390.out
      have hnc23 := NB390_388.out
      have hcz24_0 : wr.cell? ⟨gb388, 0, none⟩ = some (.int .i64 a0_0) := (zKc BK388.out 0).trans rfl
      have hcz24_1 : wr.cell? ⟨gb388, 1, none⟩ = some (.slice A0_1 l0_1.length c0_1) := (zKc BK388.out 1).trans rfl
      have hfz24_0 := zKf BK388.out 0
      have hfz24_1 := zKf BK388.out 1
      have p391 : 0 ≤ (x6_1 : Int) := of_decide_eq_true (by assumption)
      have q391 : x6_1 < (l0_1.length : Int) := of_decide_eq_true (by assumption)
      obtain ⟨ad391, e391, hx391_0, hx391_1, hx391_2⟩ := at_T43 HR0_1.out x6_1 p391 q391
      cases e391
      replace hx391_0 := pw_cell_below HB.out hx391_0
      replace hx391_1 := pw_cell_below HB.out hx391_1
      replace hx391_2 := pw_cell_below HB.out hx391_2
      replace p391 := eq_true p391
      replace q391 := eq_true q391
      go_wp2_with (first | ((with_reducible refine gate_dst (N:=7) rfl ?_); (try (refine gate_guard (by rfl) ?_; dsimp only)); refine box_event ?hg (N:=7) ?hd (cs:=#[.int .i64 0, .int .i64 0, .int .i64 0]) (t:=43) ?hr ?_; (case hd => rfl); (case hg => rfl); (case hr => first | (go_simp; done)|(go_simp; rfl)|(go_simp; rw [show ∀ x : Int, IntKind.u32.wrap (IntKind.u8.wrap x) = x % 256 from fun x => (by show (x % 256) % 4294967296 = x % 256; omega)])); intro gb392 hg w25 hbox hb; replace HO_391001 := zMk (zRb (Kd.R_elderB (uR HO_391001.out) gb392 (Nat.le_of_eq hg.symm)) hb); have BK392 := zMk (hbox); have GW392 := zMk ((by rw [hg]; exact (zBs (uT HB.out)) : w.heap.size ≤ gb392)); have GE392 := zMk ((by rw [hg]; exact (zBs (uT HB.out)) : w.heap.size ≤ gb392)); have IGE392 := ownGe GE392.out; replace HB := zMk (zBt (uT HB.out) hb); have NB388_392 := zMk ((by rw [hg]; exact Nat.ne_of_lt (blk_lt BK388.out) : gb388 ≠ gb392)); have NB392_388 := zMk ((by rw [hg]; exact Nat.ne_of_gt (blk_lt BK388.out) : gb392 ≠ gb388)); replace BK388 := zMk (zKb BK388.out hb); have NB389_392 := zMk ((by rw [hg]; exact Nat.ne_of_lt (blk_lt BK389.out) : gb389 ≠ gb392)); have NB392_389 := zMk ((by rw [hg]; exact Nat.ne_of_gt (blk_lt BK389.out) : gb392 ≠ gb389)); replace BK389 := zMk (zKb BK389.out hb); have NB390_392 := zMk ((by rw [hg]; exact Nat.ne_of_lt (blk_lt BK390.out) : gb390 ≠ gb392)); have NB392_390 := zMk ((by rw [hg]; exact Nat.ne_of_gt (blk_lt BK390.out) : gb392 ≠ gb390)); replace BK390 := zMk (zKb BK390.out hb); clear hb hbox hg; have hnb26 := NB392_388.out; have hnc26 := NB388_392.out; have hnb27 := NB392_389.out; have hnc27 := NB389_392.out; have hnb28 := NB392_390.out; have hnc28 := NB390_392.out; have hcz29_0 : w25.cell? ⟨gb392, 0, none⟩ = some (.int .i64 0) := (zKc BK392.out 0).trans rfl; have hcz29_1 : w25.cell? ⟨gb392, 1, none⟩ = some (.int .i64 0) := (zKc BK392.out 1).trans rfl; have hcz29_2 : w25.cell? ⟨gb392, 2, none⟩ = some (.int .i64 0) := (zKc BK392.out 2).trans rfl; have hfz29_0 := zKf BK392.out 0; have hfz29_1 := zKf BK392.out 1; have hfz29_2 := zKf BK392.out 2; have p393 : 0 ≤ (((rd_T43 l0_1 x6_1).f0) : Int) := of_decide_eq_true (by first | (with_reducible assumption)|  assumption); have q393 : ((rd_T43 l0_1 x6_1).f0) < (l1.length : Int) := of_decide_eq_true (by first | (with_reducible assumption)|  assumption); obtain ⟨ad393, e393, hx393_0⟩ := Kd.at_bool HR1.out ((rd_T43 l0_1 x6_1).f0) p393 q393; (try rw [← Nbq15.out] at hx393_0); (try rw [← Nbq19.out] at hx393_0); cases e393; have hn393_0 : ad393.block ≠ gb392 := Nat.ne_of_lt (Nat.lt_of_lt_of_le (by have := World.block_lt_of_cell? _ _ hx393_0; first |  rwa [add_block] at this|  exact this) GW392.out); have hn393_1 : ad393.block ≠ gb392 := Nat.ne_of_lt (Nat.lt_of_lt_of_le (by have := World.block_lt_of_cell? _ _ hx393_0; first |  rwa [add_block] at this|  exact this) GW392.out); have hn393_2 : ad393.block ≠ gb392 := Nat.ne_of_lt (Nat.lt_of_lt_of_le (by have := World.block_lt_of_cell? _ _ hx393_0; first |  rwa [add_block] at this|  exact this) GW392.out); replace hx393_0 := pw_cell_below HB.out hx393_0; replace hx393_0 := (cell_far (p:=⟨gb392, 0, none⟩) (by first | (rw [add_block]; exact hn393_0)|(show (Addr.add _ _).block ≠ _; rw [add_block]; exact hn393_0)|  exact hn393_0) (.int .i64 ((rd_T43 l0_1 x6_1).f0))).trans hx393_0; replace hx393_0 := (cell_far (p:=⟨gb392, 1, none⟩) (by first | (rw [add_block]; exact hn393_1)|(show (Addr.add _ _).block ≠ _; rw [add_block]; exact hn393_1)|  exact hn393_1) (.int .i64 ((rd_T43 l0_1 x6_1).f1))).trans hx393_0; replace hx393_0 := (cell_far (p:=⟨gb392, 2, none⟩) (by first | (rw [add_block]; exact hn393_2)|(show (Addr.add _ _).block ≠ _; rw [add_block]; exact hn393_2)|  exact hn393_2) (.int .i64 ((rd_T43 l0_1 x6_1).f2))).trans hx393_0; clear hn393_0 hn393_1 hn393_2; replace p393 := eq_true p393; replace q393 := eq_true q393; have p394 : 0 ≤ (((rd_T43 l0_1 x6_1).f1) : Int) := of_decide_eq_true (by first | (with_reducible assumption)|  assumption); have q394 : ((rd_T43 l0_1 x6_1).f1) < (l1.length : Int) := of_decide_eq_true (by first | (with_reducible assumption)|  assumption); obtain ⟨ad394, e394, hx394_0⟩ := Kd.at_bool HR1.out ((rd_T43 l0_1 x6_1).f1) p394 q394; (try rw [← Nbq15.out] at hx394_0); (try rw [← Nbq19.out] at hx394_0); obtain rfl : ad393 = ad394 := (by injection e394); have hn394_0 : ad393.block ≠ gb392 := Nat.ne_of_lt (Nat.lt_of_lt_of_le (by have := World.block_lt_of_cell? _ _ hx394_0; first |  rwa [add_block] at this|  exact this) GW392.out); have hn394_1 : ad393.block ≠ gb392 := Nat.ne_of_lt (Nat.lt_of_lt_of_le (by have := World.block_lt_of_cell? _ _ hx394_0; first |  rwa [add_block] at this|  exact this) GW392.out); have hn394_2 : ad393.block ≠ gb392 := Nat.ne_of_lt (Nat.lt_of_lt_of_le (by have := World.block_lt_of_cell? _ _ hx394_0; first |  rwa [add_block] at this|  exact this) GW392.out); replace hx394_0 := pw_cell_below HB.out hx394_0; replace hx394_0 := (cell_far (p:=⟨gb392, 0, none⟩) (by first | (rw [add_block]; exact hn394_0)|(show (Addr.add _ _).block ≠ _; rw [add_block]; exact hn394_0)|  exact hn394_0) (.int .i64 ((rd_T43 l0_1 x6_1).f0))).trans hx394_0; replace hx394_0 := (cell_far (p:=⟨gb392, 1, none⟩) (by first | (rw [add_block]; exact hn394_1)|(show (Addr.add _ _).block ≠ _; rw [add_block]; exact hn394_1)|  exact hn394_1) (.int .i64 ((rd_T43 l0_1 x6_1).f1))).trans hx394_0; replace hx394_0 := (cell_far (p:=⟨gb392, 2, none⟩) (by first | (rw [add_block]; exact hn394_2)|(show (Addr.add _ _).block ≠ _; rw [add_block]; exact hn394_2)|  exact hn394_2) (.int .i64 ((rd_T43 l0_1 x6_1).f2))).trans hx394_0; clear hn394_0 hn394_1 hn394_2; replace p394 := eq_true p394; replace q394 := eq_true q394; have hnb30 := NB390_389.out; have hnc30 := NB389_390.out; have hcz31_0 : w25.cell? ⟨gb390, 0, none⟩ = some (.int .i64 a0_0) := (zKc BK390.out 0).trans rfl; have hcz31_1 : w25.cell? ⟨gb390, 1, none⟩ = some (u391001) := (zKc BK390.out 1).trans rfl; have hfz31_0 := zKf BK390.out 0; have hfz31_1 := zKf BK390.out 1)|((with_reducible refine gate_builtin (b:=.append) (xs:=#[.tmp 50, .tmp 52]) rfl ?_); (try (refine gate_guard (by rfl) ?_; dsimp only)); at_builtin; refine Kd.R_append k43 (w0:=w) w.heap.size rfl (.tmp 50) (.tmp 52) 22 43 (.agg #[(.int .i64 0), (.int .i64 0), (.int .i64 0)]) 24 rfl Try.underlying22 info43 rfl (by decide) (by omega) u391001 x391001_1 (⟨(rd_T43 l0_1 x6_1).f0, (rd_T43 l0_1 x6_1).f1, (rd_T43 l0_1 x6_1).f2⟩ : S43) [.int .i64 ((rd_T43 l0_1 x6_1).f0), .int .i64 ((rd_T43 l0_1 x6_1).f1), .int .i64 ((rd_T43 l0_1 x6_1).f2)] (fun k_ => k_ ≠ gb392) (fun _ => False) rfl (by first | (go_simp; done)|(go_simp; rfl)) ?aP (fun _ hk => hk.elim) ?aF ?aO ?aB ?aS ?aL ?_; (case aP => exact k43_mkM _ _ _ (⟨(rd_T43 l0_1 x6_1).f0, (rd_T43 l0_1 x6_1).f1, (rd_T43 l0_1 x6_1).f2⟩ : S43)); (case aB => exact (uT HB.out)); (case aF => exact (fun k_ hk => Kd.freshB (g:=gb392) (o:=.cells #[.int .i64 ((rd_T43 l0_1 x6_1).f0), .int .i64 ((rd_T43 l0_1 x6_1).f1), .int .i64 ((rd_T43 l0_1 x6_1).f2)] 43 (0, 0)) (by (with_reducible repeat (first |  refine zKn ?_ _|  refine zKd ?_|  refine zKa ?_ _)); refine blk_put (cs:=#[.int .i64 ((rd_T43 l0_1 x6_1).f0), .int .i64 ((rd_T43 l0_1 x6_1).f1), .int .i64 0]) ?_ 2 _ rfl; (with_reducible repeat (first |  refine zKn ?_ _|  refine zKd ?_|  refine zKa ?_ _)); refine blk_put (cs:=#[.int .i64 ((rd_T43 l0_1 x6_1).f0), .int .i64 0, .int .i64 0]) ?_ 1 _ rfl; (with_reducible repeat (first |  refine zKn ?_ _|  refine zKd ?_|  refine zKa ?_ _)); refine blk_put (cs:=#[.int .i64 0, .int .i64 0, .int .i64 0]) ?_ 0 _ rfl; (with_reducible repeat (first |  refine zKn ?_ _|  refine zKd ?_|  refine zKa ?_ _)); exact BK392.out) k_ hk)); (case aO => exact (zRm (Kd.R_far (p:=⟨gb392, 2, none⟩) (Kd.R_far (p:=⟨gb392, 1, none⟩) (Kd.R_far (p:=⟨gb392, 0, none⟩) (zRm HO_391001.out (fun k_ hk => (⟨hk, hk.2⟩ : _ ∧ k_ ≠ gb392))) (fun _ hk => hk.2) (.int .i64 ((rd_T43 l0_1 x6_1).f0))) (fun _ hk => hk.2) (.int .i64 ((rd_T43 l0_1 x6_1).f1))) (fun _ hk => hk.2) (.int .i64 ((rd_T43 l0_1 x6_1).f2))) (fun _ hk => hk.1.2))); (case aS => exact (zBs (uT HB.out))); (case aL => have := LMc21.out; omega); intro v396 w32 ho hb hg hat; rw [← Ny395.out] at ho; replace BK388 := zMk (blk_grown (g:=gb388) (o:=.cells #[.int .i64 a0_0, .slice (some ad391) l0_1.length c0_1] 24 (0, 0)) (by (with_reducible repeat (first |  refine zKn ?_ _|  refine zKd ?_|  refine zKa ?_ _)); refine blk_far ?_ NB388_392.out _; (with_reducible repeat (first |  refine zKn ?_ _|  refine zKd ?_|  refine zKa ?_ _)); refine blk_far ?_ NB388_392.out _; (with_reducible repeat (first |  refine zKn ?_ _|  refine zKd ?_|  refine zKa ?_ _)); refine blk_far ?_ NB388_392.out _; (with_reducible repeat (first |  refine zKn ?_ _|  refine zKd ?_|  refine zKa ?_ _)); exact BK388.out) hg (Kd.R_ne HO_391001.out BK388.out (by decide))); replace BK389 := zMk (blk_grown (g:=gb389) (o:=.cells #[.int .i64 0, .slice none 0 0] 24 (0, 0)) (by (with_reducible repeat (first |  refine zKn ?_ _|  refine zKd ?_|  refine zKa ?_ _)); refine blk_far ?_ NB389_392.out _; (with_reducible repeat (first |  refine zKn ?_ _|  refine zKd ?_|  refine zKa ?_ _)); refine blk_far ?_ NB389_392.out _; (with_reducible repeat (first |  refine zKn ?_ _|  refine zKd ?_|  refine zKa ?_ _)); refine blk_far ?_ NB389_392.out _; (with_reducible repeat (first |  refine zKn ?_ _|  refine zKd ?_|  refine zKa ?_ _)); exact BK389.out) hg (Kd.R_ne HO_391001.out BK389.out (by decide))); replace BK390 := zMk (blk_grown (g:=gb390) (o:=.cells #[.int .i64 a0_0, u391001] 24 (0, 0)) (by (with_reducible repeat (first |  refine zKn ?_ _|  refine zKd ?_|  refine zKa ?_ _)); refine blk_far ?_ NB390_392.out _; (with_reducible repeat (first |  refine zKn ?_ _|  refine zKd ?_|  refine zKa ?_ _)); refine blk_far ?_ NB390_392.out _; (with_reducible repeat (first |  refine zKn ?_ _|  refine zKd ?_|  refine zKa ?_ _)); refine blk_far ?_ NB390_392.out _; (with_reducible repeat (first |  refine zKn ?_ _|  refine zKd ?_|  refine zKa ?_ _)); exact BK390.out) hg (Kd.R_ne HO_391001.out BK390.out (by decide))); replace BK392 := zMk (blk_grown (g:=gb392) (o:=.cells #[.int .i64 ((rd_T43 l0_1 x6_1).f0), .int .i64 ((rd_T43 l0_1 x6_1).f1), .int .i64 ((rd_T43 l0_1 x6_1).f2)] 43 (0, 0)) (by (with_reducible repeat (first |  refine zKn ?_ _|  refine zKd ?_|  refine zKa ?_ _)); refine blk_put (cs:=#[.int .i64 ((rd_T43 l0_1 x6_1).f0), .int .i64 ((rd_T43 l0_1 x6_1).f1), .int .i64 0]) ?_ 2 _ rfl; (with_reducible repeat (first |  refine zKn ?_ _|  refine zKd ?_|  refine zKa ?_ _)); refine blk_put (cs:=#[.int .i64 ((rd_T43 l0_1 x6_1).f0), .int .i64 0, .int .i64 0]) ?_ 1 _ rfl; (with_reducible repeat (first |  refine zKn ?_ _|  refine zKd ?_|  refine zKa ?_ _)); refine blk_put (cs:=#[.int .i64 0, .int .i64 0, .int .i64 0]) ?_ 0 _ rfl; (with_reducible repeat (first |  refine zKn ?_ _|  refine zKd ?_|  refine zKa ?_ _)); exact BK392.out) hg (Kd.R_away HO_391001.out (fun _ hk => hk.2))); replace HB := zMk (hb); have HO397 := zMk (ho); clear HO_391001 ho hb hg hat; obtain ⟨Ao33, co33, eo33⟩ := zRs HO397.out; subst eo33; have hcz34_0 : w32.cell? ⟨gb390, 0, none⟩ = some (.int .i64 a0_0) := (zKc BK390.out 0).trans rfl; have hcz34_1 : w32.cell? ⟨gb390, 1, none⟩ = some (u391001) := (zKc BK390.out 1).trans rfl; have hfz34_0 := zKf BK390.out 0; have hfz34_1 := zKf BK390.out 1))
      go_roundg k1
      case measure => have := HK1.out; omega
      case rel => exact ⟨(wrap64 (x6_1 + 1)), (y395), (.slice Ao33 y395.length co33), (by first | rfl | (simp; done) | (simp [*]; done)), H', ⟨by have := HK1.out; omega⟩, ⟨by (with_reducible repeat (first | apply zRa | apply zRn | apply zRd)); exact zRm (Kd.R_far (p:=⟨gb390, 1, none⟩) (Kd.R_types HO397.out BK390.out (by decide)) (fun _ hk => hk.2) (.slice Ao33 y395.length co33)) (fun _ hk => trivial)⟩, ⟨by (with_reducible repeat (first | refine zKn ?_ _ | refine zKd ?_ | refine zKa ?_ _)); refine blk_far ?_ NB388_390.out _; (with_reducible repeat (first | refine zKn ?_ _ | refine zKd ?_ | refine zKa ?_ _)); exact BK388.out⟩, ⟨by (with_reducible repeat (first | refine zKn ?_ _ | refine zKd ?_ | refine zKa ?_ _)); refine blk_far ?_ NB389_390.out _; (with_reducible repeat (first | refine zKn ?_ _ | refine zKd ?_ | refine zKa ?_ _)); exact BK389.out⟩, ⟨by (with_reducible repeat (first | refine zKn ?_ _ | refine zKd ?_ | refine zKa ?_ _)); refine blk_put (cs:=#[.int .i64 a0_0, u391001]) ?_ 1 _ rfl; (with_reducible repeat (first | refine zKn ?_ _ | refine zKd ?_ | refine zKa ?_ _)); exact BK390.out⟩, ⟨by exact uT HB.out⟩⟩
     ·replace c20 := Bool.eq_false_iff.mpr c20
      subst c20
      replace H : (r4_Only.l0 k1 l1 (wrap64 (x6_1 + 1)) a0_0 l0_1 a0_0 x391001_1) = some (r1, r2) := by rw [if_neg (show ¬ (false = true) by decide)] at H; exact H
      have H' := zMk H
      clear H
      have hnb35 := NB388_389.out
      have hnc35 := NB389_388.out
      have hnb36 := NB388_390.out
      have hnc36 := NB390_388.out
      have hcz37_0 : wr.cell? ⟨gb388, 0, none⟩ = some (.int .i64 a0_0) := (zKc BK388.out 0).trans rfl
      have hcz37_1 : wr.cell? ⟨gb388, 1, none⟩ = some (.slice A0_1 l0_1.length c0_1) := (zKc BK388.out 1).trans rfl
      have hfz37_0 := zKf BK388.out 0
      have hfz37_1 := zKf BK388.out 1
      have p391 : 0 ≤ (x6_1 : Int) := of_decide_eq_true (by assumption)
      have q391 : x6_1 < (l0_1.length : Int) := of_decide_eq_true (by assumption)
      obtain ⟨ad391, e391, hx391_0, hx391_1, hx391_2⟩ := at_T43 HR0_1.out x6_1 p391 q391
      cases e391
      replace hx391_0 := pw_cell_below HB.out hx391_0
      replace hx391_1 := pw_cell_below HB.out hx391_1
      replace hx391_2 := pw_cell_below HB.out hx391_2
      replace p391 := eq_true p391
      replace q391 := eq_true q391
      go_wp2_with (first | ((with_reducible refine gate_dst (N:=7) rfl ?_); (try (refine gate_guard (by rfl) ?_; dsimp only)); refine box_event ?hg (N:=7) ?hd (cs:=#[.int .i64 0, .int .i64 0, .int .i64 0]) (t:=43) ?hr ?_; (case hd => rfl); (case hg => rfl); (case hr => first | (go_simp; done)|(go_simp; rfl)|(go_simp; rw [show ∀ x : Int, IntKind.u32.wrap (IntKind.u8.wrap x) = x % 256 from fun x => (by show (x % 256) % 4294967296 = x % 256; omega)])); intro gb392 hg w38 hbox hb; replace HO_391001 := zMk (zRb (Kd.R_elderB (uR HO_391001.out) gb392 (Nat.le_of_eq hg.symm)) hb); have BK392 := zMk (hbox); have GW392 := zMk ((by rw [hg]; exact (zBs (uT HB.out)) : w.heap.size ≤ gb392)); have GE392 := zMk ((by rw [hg]; exact (zBs (uT HB.out)) : w.heap.size ≤ gb392)); have IGE392 := ownGe GE392.out; replace HB := zMk (zBt (uT HB.out) hb); have NB388_392 := zMk ((by rw [hg]; exact Nat.ne_of_lt (blk_lt BK388.out) : gb388 ≠ gb392)); have NB392_388 := zMk ((by rw [hg]; exact Nat.ne_of_gt (blk_lt BK388.out) : gb392 ≠ gb388)); replace BK388 := zMk (zKb BK388.out hb); have NB389_392 := zMk ((by rw [hg]; exact Nat.ne_of_lt (blk_lt BK389.out) : gb389 ≠ gb392)); have NB392_389 := zMk ((by rw [hg]; exact Nat.ne_of_gt (blk_lt BK389.out) : gb392 ≠ gb389)); replace BK389 := zMk (zKb BK389.out hb); have NB390_392 := zMk ((by rw [hg]; exact Nat.ne_of_lt (blk_lt BK390.out) : gb390 ≠ gb392)); have NB392_390 := zMk ((by rw [hg]; exact Nat.ne_of_gt (blk_lt BK390.out) : gb392 ≠ gb390)); replace BK390 := zMk (zKb BK390.out hb); clear hb hbox hg; have hnb39 := NB392_388.out; have hnc39 := NB388_392.out; have hnb40 := NB392_389.out; have hnc40 := NB389_392.out; have hnb41 := NB392_390.out; have hnc41 := NB390_392.out; have hcz42_0 : w38.cell? ⟨gb392, 0, none⟩ = some (.int .i64 0) := (zKc BK392.out 0).trans rfl; have hcz42_1 : w38.cell? ⟨gb392, 1, none⟩ = some (.int .i64 0) := (zKc BK392.out 1).trans rfl; have hcz42_2 : w38.cell? ⟨gb392, 2, none⟩ = some (.int .i64 0) := (zKc BK392.out 2).trans rfl; have hfz42_0 := zKf BK392.out 0; have hfz42_1 := zKf BK392.out 1; have hfz42_2 := zKf BK392.out 2; have p393 : 0 ≤ (((rd_T43 l0_1 x6_1).f0) : Int) := of_decide_eq_true (by first | (with_reducible assumption)|  assumption); have q393 : ((rd_T43 l0_1 x6_1).f0) < (l1.length : Int) := of_decide_eq_true (by first | (with_reducible assumption)|  assumption); obtain ⟨ad393, e393, hx393_0⟩ := Kd.at_bool HR1.out ((rd_T43 l0_1 x6_1).f0) p393 q393; (try rw [← Nbq15.out] at hx393_0); (try rw [← Nbq19.out] at hx393_0); cases e393; have hn393_0 : ad393.block ≠ gb392 := Nat.ne_of_lt (Nat.lt_of_lt_of_le (by have := World.block_lt_of_cell? _ _ hx393_0; first |  rwa [add_block] at this|  exact this) GW392.out); have hn393_1 : ad393.block ≠ gb392 := Nat.ne_of_lt (Nat.lt_of_lt_of_le (by have := World.block_lt_of_cell? _ _ hx393_0; first |  rwa [add_block] at this|  exact this) GW392.out); have hn393_2 : ad393.block ≠ gb392 := Nat.ne_of_lt (Nat.lt_of_lt_of_le (by have := World.block_lt_of_cell? _ _ hx393_0; first |  rwa [add_block] at this|  exact this) GW392.out); replace hx393_0 := pw_cell_below HB.out hx393_0; replace hx393_0 := (cell_far (p:=⟨gb392, 0, none⟩) (by first | (rw [add_block]; exact hn393_0)|(show (Addr.add _ _).block ≠ _; rw [add_block]; exact hn393_0)|  exact hn393_0) (.int .i64 ((rd_T43 l0_1 x6_1).f0))).trans hx393_0; replace hx393_0 := (cell_far (p:=⟨gb392, 1, none⟩) (by first | (rw [add_block]; exact hn393_1)|(show (Addr.add _ _).block ≠ _; rw [add_block]; exact hn393_1)|  exact hn393_1) (.int .i64 ((rd_T43 l0_1 x6_1).f1))).trans hx393_0; replace hx393_0 := (cell_far (p:=⟨gb392, 2, none⟩) (by first | (rw [add_block]; exact hn393_2)|(show (Addr.add _ _).block ≠ _; rw [add_block]; exact hn393_2)|  exact hn393_2) (.int .i64 ((rd_T43 l0_1 x6_1).f2))).trans hx393_0; clear hn393_0 hn393_1 hn393_2; replace p393 := eq_true p393; replace q393 := eq_true q393; have p394 : 0 ≤ (((rd_T43 l0_1 x6_1).f1) : Int) := of_decide_eq_true (by first | (with_reducible assumption)|  assumption); have q394 : ((rd_T43 l0_1 x6_1).f1) < (l1.length : Int) := of_decide_eq_true (by first | (with_reducible assumption)|  assumption); obtain ⟨ad394, e394, hx394_0⟩ := Kd.at_bool HR1.out ((rd_T43 l0_1 x6_1).f1) p394 q394; (try rw [← Nbq15.out] at hx394_0); (try rw [← Nbq19.out] at hx394_0); obtain rfl : ad393 = ad394 := (by injection e394); have hn394_0 : ad393.block ≠ gb392 := Nat.ne_of_lt (Nat.lt_of_lt_of_le (by have := World.block_lt_of_cell? _ _ hx394_0; first |  rwa [add_block] at this|  exact this) GW392.out); have hn394_1 : ad393.block ≠ gb392 := Nat.ne_of_lt (Nat.lt_of_lt_of_le (by have := World.block_lt_of_cell? _ _ hx394_0; first |  rwa [add_block] at this|  exact this) GW392.out); have hn394_2 : ad393.block ≠ gb392 := Nat.ne_of_lt (Nat.lt_of_lt_of_le (by have := World.block_lt_of_cell? _ _ hx394_0; first |  rwa [add_block] at this|  exact this) GW392.out); replace hx394_0 := pw_cell_below HB.out hx394_0; replace hx394_0 := (cell_far (p:=⟨gb392, 0, none⟩) (by first | (rw [add_block]; exact hn394_0)|(show (Addr.add _ _).block ≠ _; rw [add_block]; exact hn394_0)|  exact hn394_0) (.int .i64 ((rd_T43 l0_1 x6_1).f0))).trans hx394_0; replace hx394_0 := (cell_far (p:=⟨gb392, 1, none⟩) (by first | (rw [add_block]; exact hn394_1)|(show (Addr.add _ _).block ≠ _; rw [add_block]; exact hn394_1)|  exact hn394_1) (.int .i64 ((rd_T43 l0_1 x6_1).f1))).trans hx394_0; replace hx394_0 := (cell_far (p:=⟨gb392, 2, none⟩) (by first | (rw [add_block]; exact hn394_2)|(show (Addr.add _ _).block ≠ _; rw [add_block]; exact hn394_2)|  exact hn394_2) (.int .i64 ((rd_T43 l0_1 x6_1).f2))).trans hx394_0; clear hn394_0 hn394_1 hn394_2; replace p394 := eq_true p394; replace q394 := eq_true q394))
      go_roundg k1
      case measure => have := HK1.out; omega
      case rel => exact ⟨(wrap64 (x6_1 + 1)), (x391001_1), (u391001), (by first | rfl | (simp; done) | (simp [*]; done)), H', ⟨by have := HK1.out; omega⟩, ⟨by (with_reducible repeat (first | apply zRa | apply zRn | apply zRd)); exact zRm (Kd.R_far (p:=⟨gb392, 2, none⟩) (Kd.R_far (p:=⟨gb392, 1, none⟩) (Kd.R_far (p:=⟨gb392, 0, none⟩) (zRm HO_391001.out (fun k_ hk => (⟨hk, hk.2⟩ : _ ∧ k_ ≠ gb392))) (fun _ hk => hk.2) (.int .i64 ((rd_T43 l0_1 x6_1).f0))) (fun _ hk => hk.2) (.int .i64 ((rd_T43 l0_1 x6_1).f1))) (fun _ hk => hk.2) (.int .i64 ((rd_T43 l0_1 x6_1).f2))) (fun _ hk => trivial)⟩, ⟨by (with_reducible repeat (first | refine zKn ?_ _ | refine zKd ?_ | refine zKa ?_ _)); refine blk_far ?_ NB388_392.out _; (with_reducible repeat (first | refine zKn ?_ _ | refine zKd ?_ | refine zKa ?_ _)); refine blk_far ?_ NB388_392.out _; (with_reducible repeat (first | refine zKn ?_ _ | refine zKd ?_ | refine zKa ?_ _)); refine blk_far ?_ NB388_392.out _; (with_reducible repeat (first | refine zKn ?_ _ | refine zKd ?_ | refine zKa ?_ _)); exact BK388.out⟩, ⟨by (with_reducible repeat (first | refine zKn ?_ _ | refine zKd ?_ | refine zKa ?_ _)); refine blk_far ?_ NB389_392.out _; (with_reducible repeat (first | refine zKn ?_ _ | refine zKd ?_ | refine zKa ?_ _)); refine blk_far ?_ NB389_392.out _; (with_reducible repeat (first | refine zKn ?_ _ | refine zKd ?_ | refine zKa ?_ _)); refine blk_far ?_ NB389_392.out _; (with_reducible repeat (first | refine zKn ?_ _ | refine zKd ?_ | refine zKa ?_ _)); exact BK389.out⟩, ⟨by (with_reducible repeat (first | refine zKn ?_ _ | refine zKd ?_ | refine zKa ?_ _)); refine blk_far ?_ NB390_392.out _; (with_reducible repeat (first | refine zKn ?_ _ | refine zKd ?_ | refine zKa ?_ _)); refine blk_far ?_ NB390_392.out _; (with_reducible repeat (first | refine zKn ?_ _ | refine zKd ?_ | refine zKa ?_ _)); refine blk_far ?_ NB390_392.out _; (with_reducible repeat (first | refine zKn ?_ _ | refine zKd ?_ | refine zKa ?_ _)); exact BK390.out⟩, ⟨by exact uT HB.out⟩⟩
    ·rw [if_neg c17] at H
     have c17b0 : decide (((rd_T43 l0_1 x6_1).f1) < (l1.length : Int)) = false := decide_eq_false c17
     clear c17
     have H' := zMk H
     clear H
     have hnb43 := NB388_389.out
     have hnc43 := NB389_388.out
     have hnb44 := NB388_390.out
     have hnc44 := NB390_388.out
     have hcz45_0 : wr.cell? ⟨gb388, 0, none⟩ = some (.int .i64 a0_0) := (zKc BK388.out 0).trans rfl
     have hcz45_1 : wr.cell? ⟨gb388, 1, none⟩ = some (.slice A0_1 l0_1.length c0_1) := (zKc BK388.out 1).trans rfl
     have hfz45_0 := zKf BK388.out 0
     have hfz45_1 := zKf BK388.out 1
     have p391 : 0 ≤ (x6_1 : Int) := of_decide_eq_true (by assumption)
     have q391 : x6_1 < (l0_1.length : Int) := of_decide_eq_true (by assumption)
     obtain ⟨ad391, e391, hx391_0, hx391_1, hx391_2⟩ := at_T43 HR0_1.out x6_1 p391 q391
     cases e391
     replace hx391_0 := pw_cell_below HB.out hx391_0
     replace hx391_1 := pw_cell_below HB.out hx391_1
     replace hx391_2 := pw_cell_below HB.out hx391_2
     replace p391 := eq_true p391
     replace q391 := eq_true q391
     go_wp2_with (first | ((with_reducible refine gate_dst (N:=7) rfl ?_); (try (refine gate_guard (by rfl) ?_; dsimp only)); refine box_event ?hg (N:=7) ?hd (cs:=#[.int .i64 0, .int .i64 0, .int .i64 0]) (t:=43) ?hr ?_; (case hd => rfl); (case hg => rfl); (case hr => first | (go_simp; done)|(go_simp; rfl)|(go_simp; rw [show ∀ x : Int, IntKind.u32.wrap (IntKind.u8.wrap x) = x % 256 from fun x => (by show (x % 256) % 4294967296 = x % 256; omega)])); intro gb392 hg w46 hbox hb; replace HO_391001 := zMk (zRb (Kd.R_elderB (uR HO_391001.out) gb392 (Nat.le_of_eq hg.symm)) hb); have BK392 := zMk (hbox); have GW392 := zMk ((by rw [hg]; exact (zBs (uT HB.out)) : w.heap.size ≤ gb392)); have GE392 := zMk ((by rw [hg]; exact (zBs (uT HB.out)) : w.heap.size ≤ gb392)); have IGE392 := ownGe GE392.out; replace HB := zMk (zBt (uT HB.out) hb); have NB388_392 := zMk ((by rw [hg]; exact Nat.ne_of_lt (blk_lt BK388.out) : gb388 ≠ gb392)); have NB392_388 := zMk ((by rw [hg]; exact Nat.ne_of_gt (blk_lt BK388.out) : gb392 ≠ gb388)); replace BK388 := zMk (zKb BK388.out hb); have NB389_392 := zMk ((by rw [hg]; exact Nat.ne_of_lt (blk_lt BK389.out) : gb389 ≠ gb392)); have NB392_389 := zMk ((by rw [hg]; exact Nat.ne_of_gt (blk_lt BK389.out) : gb392 ≠ gb389)); replace BK389 := zMk (zKb BK389.out hb); have NB390_392 := zMk ((by rw [hg]; exact Nat.ne_of_lt (blk_lt BK390.out) : gb390 ≠ gb392)); have NB392_390 := zMk ((by rw [hg]; exact Nat.ne_of_gt (blk_lt BK390.out) : gb392 ≠ gb390)); replace BK390 := zMk (zKb BK390.out hb); clear hb hbox hg; have hnb47 := NB392_388.out; have hnc47 := NB388_392.out; have hnb48 := NB392_389.out; have hnc48 := NB389_392.out; have hnb49 := NB392_390.out; have hnc49 := NB390_392.out; have hcz50_0 : w46.cell? ⟨gb392, 0, none⟩ = some (.int .i64 0) := (zKc BK392.out 0).trans rfl; have hcz50_1 : w46.cell? ⟨gb392, 1, none⟩ = some (.int .i64 0) := (zKc BK392.out 1).trans rfl; have hcz50_2 : w46.cell? ⟨gb392, 2, none⟩ = some (.int .i64 0) := (zKc BK392.out 2).trans rfl; have hfz50_0 := zKf BK392.out 0; have hfz50_1 := zKf BK392.out 1; have hfz50_2 := zKf BK392.out 2; have p393 : 0 ≤ (((rd_T43 l0_1 x6_1).f0) : Int) := of_decide_eq_true (by first | (with_reducible assumption)|  assumption); have q393 : ((rd_T43 l0_1 x6_1).f0) < (l1.length : Int) := of_decide_eq_true (by first | (with_reducible assumption)|  assumption); obtain ⟨ad393, e393, hx393_0⟩ := Kd.at_bool HR1.out ((rd_T43 l0_1 x6_1).f0) p393 q393; (try rw [← Nbq15.out] at hx393_0); cases e393; have hn393_0 : ad393.block ≠ gb392 := Nat.ne_of_lt (Nat.lt_of_lt_of_le (by have := World.block_lt_of_cell? _ _ hx393_0; first |  rwa [add_block] at this|  exact this) GW392.out); have hn393_1 : ad393.block ≠ gb392 := Nat.ne_of_lt (Nat.lt_of_lt_of_le (by have := World.block_lt_of_cell? _ _ hx393_0; first |  rwa [add_block] at this|  exact this) GW392.out); have hn393_2 : ad393.block ≠ gb392 := Nat.ne_of_lt (Nat.lt_of_lt_of_le (by have := World.block_lt_of_cell? _ _ hx393_0; first |  rwa [add_block] at this|  exact this) GW392.out); replace hx393_0 := pw_cell_below HB.out hx393_0; replace hx393_0 := (cell_far (p:=⟨gb392, 0, none⟩) (by first | (rw [add_block]; exact hn393_0)|(show (Addr.add _ _).block ≠ _; rw [add_block]; exact hn393_0)|  exact hn393_0) (.int .i64 ((rd_T43 l0_1 x6_1).f0))).trans hx393_0; replace hx393_0 := (cell_far (p:=⟨gb392, 1, none⟩) (by first | (rw [add_block]; exact hn393_1)|(show (Addr.add _ _).block ≠ _; rw [add_block]; exact hn393_1)|  exact hn393_1) (.int .i64 ((rd_T43 l0_1 x6_1).f1))).trans hx393_0; replace hx393_0 := (cell_far (p:=⟨gb392, 2, none⟩) (by first | (rw [add_block]; exact hn393_2)|(show (Addr.add _ _).block ≠ _; rw [add_block]; exact hn393_2)|  exact hn393_2) (.int .i64 ((rd_T43 l0_1 x6_1).f2))).trans hx393_0; clear hn393_0 hn393_1 hn393_2; replace p393 := eq_true p393; replace q393 := eq_true q393))
     go_roundg k1
     case measure => have := HK1.out; omega
     case rel => exact ⟨(wrap64 (x6_1 + 1)), (x391001_1), (u391001), (by first | rfl | (simp; done) | (simp [*]; done)), H', ⟨by have := HK1.out; omega⟩, ⟨by (with_reducible repeat (first | apply zRa | apply zRn | apply zRd)); exact zRm (Kd.R_far (p:=⟨gb392, 2, none⟩) (Kd.R_far (p:=⟨gb392, 1, none⟩) (Kd.R_far (p:=⟨gb392, 0, none⟩) (zRm HO_391001.out (fun k_ hk => (⟨hk, hk.2⟩ : _ ∧ k_ ≠ gb392))) (fun _ hk => hk.2) (.int .i64 ((rd_T43 l0_1 x6_1).f0))) (fun _ hk => hk.2) (.int .i64 ((rd_T43 l0_1 x6_1).f1))) (fun _ hk => hk.2) (.int .i64 ((rd_T43 l0_1 x6_1).f2))) (fun _ hk => trivial)⟩, ⟨by (with_reducible repeat (first | refine zKn ?_ _ | refine zKd ?_ | refine zKa ?_ _)); refine blk_far ?_ NB388_392.out _; (with_reducible repeat (first | refine zKn ?_ _ | refine zKd ?_ | refine zKa ?_ _)); refine blk_far ?_ NB388_392.out _; (with_reducible repeat (first | refine zKn ?_ _ | refine zKd ?_ | refine zKa ?_ _)); refine blk_far ?_ NB388_392.out _; (with_reducible repeat (first | refine zKn ?_ _ | refine zKd ?_ | refine zKa ?_ _)); exact BK388.out⟩, ⟨by (with_reducible repeat (first | refine zKn ?_ _ | refine zKd ?_ | refine zKa ?_ _)); refine blk_far ?_ NB389_392.out _; (with_reducible repeat (first | refine zKn ?_ _ | refine zKd ?_ | refine zKa ?_ _)); refine blk_far ?_ NB389_392.out _; (with_reducible repeat (first | refine zKn ?_ _ | refine zKd ?_ | refine zKa ?_ _)); refine blk_far ?_ NB389_392.out _; (with_reducible repeat (first | refine zKn ?_ _ | refine zKd ?_ | refine zKa ?_ _)); exact BK389.out⟩, ⟨by (with_reducible repeat (first | refine zKn ?_ _ | refine zKd ?_ | refine zKa ?_ _)); refine blk_far ?_ NB390_392.out _; (with_reducible repeat (first | refine zKn ?_ _ | refine zKd ?_ | refine zKa ?_ _)); refine blk_far ?_ NB390_392.out _; (with_reducible repeat (first | refine zKn ?_ _ | refine zKd ?_ | refine zKa ?_ _)); refine blk_far ?_ NB390_392.out _; (with_reducible repeat (first | refine zKn ?_ _ | refine zKd ?_ | refine zKa ?_ _)); exact BK390.out⟩, ⟨by exact uT HB.out⟩⟩
   ·replace c16 := Bool.eq_false_iff.mpr c16
    subst c16
    replace H : (r4_Only.l0 k1 l1 (wrap64 (x6_1 + 1)) a0_0 l0_1 a0_0 x391001_1) = some (r1, r2) := by rw [if_neg (show ¬ (false = true) by decide)] at H; exact H
    have H' := zMk H
    clear H
    have hnb51 := NB388_389.out
    have hnc51 := NB389_388.out
    have hnb52 := NB388_390.out
    have hnc52 := NB390_388.out
    have hcz53_0 : wr.cell? ⟨gb388, 0, none⟩ = some (.int .i64 a0_0) := (zKc BK388.out 0).trans rfl
    have hcz53_1 : wr.cell? ⟨gb388, 1, none⟩ = some (.slice A0_1 l0_1.length c0_1) := (zKc BK388.out 1).trans rfl
    have hfz53_0 := zKf BK388.out 0
    have hfz53_1 := zKf BK388.out 1
    have p391 : 0 ≤ (x6_1 : Int) := of_decide_eq_true (by assumption)
    have q391 : x6_1 < (l0_1.length : Int) := of_decide_eq_true (by assumption)
    obtain ⟨ad391, e391, hx391_0, hx391_1, hx391_2⟩ := at_T43 HR0_1.out x6_1 p391 q391
    cases e391
    replace hx391_0 := pw_cell_below HB.out hx391_0
    replace hx391_1 := pw_cell_below HB.out hx391_1
    replace hx391_2 := pw_cell_below HB.out hx391_2
    replace p391 := eq_true p391
    replace q391 := eq_true q391
    go_wp2_with (first | ((with_reducible refine gate_dst (N:=7) rfl ?_); (try (refine gate_guard (by rfl) ?_; dsimp only)); refine box_event ?hg (N:=7) ?hd (cs:=#[.int .i64 0, .int .i64 0, .int .i64 0]) (t:=43) ?hr ?_; (case hd => rfl); (case hg => rfl); (case hr => first | (go_simp; done)|(go_simp; rfl)|(go_simp; rw [show ∀ x : Int, IntKind.u32.wrap (IntKind.u8.wrap x) = x % 256 from fun x => (by show (x % 256) % 4294967296 = x % 256; omega)])); intro gb392 hg w54 hbox hb; replace HO_391001 := zMk (zRb (Kd.R_elderB (uR HO_391001.out) gb392 (Nat.le_of_eq hg.symm)) hb); have BK392 := zMk (hbox); have GW392 := zMk ((by rw [hg]; exact (zBs (uT HB.out)) : w.heap.size ≤ gb392)); have GE392 := zMk ((by rw [hg]; exact (zBs (uT HB.out)) : w.heap.size ≤ gb392)); have IGE392 := ownGe GE392.out; replace HB := zMk (zBt (uT HB.out) hb); have NB388_392 := zMk ((by rw [hg]; exact Nat.ne_of_lt (blk_lt BK388.out) : gb388 ≠ gb392)); have NB392_388 := zMk ((by rw [hg]; exact Nat.ne_of_gt (blk_lt BK388.out) : gb392 ≠ gb388)); replace BK388 := zMk (zKb BK388.out hb); have NB389_392 := zMk ((by rw [hg]; exact Nat.ne_of_lt (blk_lt BK389.out) : gb389 ≠ gb392)); have NB392_389 := zMk ((by rw [hg]; exact Nat.ne_of_gt (blk_lt BK389.out) : gb392 ≠ gb389)); replace BK389 := zMk (zKb BK389.out hb); have NB390_392 := zMk ((by rw [hg]; exact Nat.ne_of_lt (blk_lt BK390.out) : gb390 ≠ gb392)); have NB392_390 := zMk ((by rw [hg]; exact Nat.ne_of_gt (blk_lt BK390.out) : gb392 ≠ gb390)); replace BK390 := zMk (zKb BK390.out hb); clear hb hbox hg; have hnb55 := NB392_388.out; have hnc55 := NB388_392.out; have hnb56 := NB392_389.out; have hnc56 := NB389_392.out; have hnb57 := NB392_390.out; have hnc57 := NB390_392.out; have hcz58_0 : w54.cell? ⟨gb392, 0, none⟩ = some (.int .i64 0) := (zKc BK392.out 0).trans rfl; have hcz58_1 : w54.cell? ⟨gb392, 1, none⟩ = some (.int .i64 0) := (zKc BK392.out 1).trans rfl; have hcz58_2 : w54.cell? ⟨gb392, 2, none⟩ = some (.int .i64 0) := (zKc BK392.out 2).trans rfl; have hfz58_0 := zKf BK392.out 0; have hfz58_1 := zKf BK392.out 1; have hfz58_2 := zKf BK392.out 2; have p393 : 0 ≤ (((rd_T43 l0_1 x6_1).f0) : Int) := of_decide_eq_true (by first | (with_reducible assumption)|  assumption); have q393 : ((rd_T43 l0_1 x6_1).f0) < (l1.length : Int) := of_decide_eq_true (by first | (with_reducible assumption)|  assumption); obtain ⟨ad393, e393, hx393_0⟩ := Kd.at_bool HR1.out ((rd_T43 l0_1 x6_1).f0) p393 q393; (try rw [← Nbq15.out] at hx393_0); cases e393; have hn393_0 : ad393.block ≠ gb392 := Nat.ne_of_lt (Nat.lt_of_lt_of_le (by have := World.block_lt_of_cell? _ _ hx393_0; first |  rwa [add_block] at this|  exact this) GW392.out); have hn393_1 : ad393.block ≠ gb392 := Nat.ne_of_lt (Nat.lt_of_lt_of_le (by have := World.block_lt_of_cell? _ _ hx393_0; first |  rwa [add_block] at this|  exact this) GW392.out); have hn393_2 : ad393.block ≠ gb392 := Nat.ne_of_lt (Nat.lt_of_lt_of_le (by have := World.block_lt_of_cell? _ _ hx393_0; first |  rwa [add_block] at this|  exact this) GW392.out); replace hx393_0 := pw_cell_below HB.out hx393_0; replace hx393_0 := (cell_far (p:=⟨gb392, 0, none⟩) (by first | (rw [add_block]; exact hn393_0)|(show (Addr.add _ _).block ≠ _; rw [add_block]; exact hn393_0)|  exact hn393_0) (.int .i64 ((rd_T43 l0_1 x6_1).f0))).trans hx393_0; replace hx393_0 := (cell_far (p:=⟨gb392, 1, none⟩) (by first | (rw [add_block]; exact hn393_1)|(show (Addr.add _ _).block ≠ _; rw [add_block]; exact hn393_1)|  exact hn393_1) (.int .i64 ((rd_T43 l0_1 x6_1).f1))).trans hx393_0; replace hx393_0 := (cell_far (p:=⟨gb392, 2, none⟩) (by first | (rw [add_block]; exact hn393_2)|(show (Addr.add _ _).block ≠ _; rw [add_block]; exact hn393_2)|  exact hn393_2) (.int .i64 ((rd_T43 l0_1 x6_1).f2))).trans hx393_0; clear hn393_0 hn393_1 hn393_2; replace p393 := eq_true p393; replace q393 := eq_true q393))
    go_roundg k1
    case measure => have := HK1.out; omega
    case rel => exact ⟨(wrap64 (x6_1 + 1)), (x391001_1), (u391001), (by first | rfl | (simp; done) | (simp [*]; done)), H', ⟨by have := HK1.out; omega⟩, ⟨by (with_reducible repeat (first | apply zRa | apply zRn | apply zRd)); exact zRm (Kd.R_far (p:=⟨gb392, 2, none⟩) (Kd.R_far (p:=⟨gb392, 1, none⟩) (Kd.R_far (p:=⟨gb392, 0, none⟩) (zRm HO_391001.out (fun k_ hk => (⟨hk, hk.2⟩ : _ ∧ k_ ≠ gb392))) (fun _ hk => hk.2) (.int .i64 ((rd_T43 l0_1 x6_1).f0))) (fun _ hk => hk.2) (.int .i64 ((rd_T43 l0_1 x6_1).f1))) (fun _ hk => hk.2) (.int .i64 ((rd_T43 l0_1 x6_1).f2))) (fun _ hk => trivial)⟩, ⟨by (with_reducible repeat (first | refine zKn ?_ _ | refine zKd ?_ | refine zKa ?_ _)); refine blk_far ?_ NB388_392.out _; (with_reducible repeat (first | refine zKn ?_ _ | refine zKd ?_ | refine zKa ?_ _)); refine blk_far ?_ NB388_392.out _; (with_reducible repeat (first | refine zKn ?_ _ | refine zKd ?_ | refine zKa ?_ _)); refine blk_far ?_ NB388_392.out _; (with_reducible repeat (first | refine zKn ?_ _ | refine zKd ?_ | refine zKa ?_ _)); exact BK388.out⟩, ⟨by (with_reducible repeat (first | refine zKn ?_ _ | refine zKd ?_ | refine zKa ?_ _)); refine blk_far ?_ NB389_392.out _; (with_reducible repeat (first | refine zKn ?_ _ | refine zKd ?_ | refine zKa ?_ _)); refine blk_far ?_ NB389_392.out _; (with_reducible repeat (first | refine zKn ?_ _ | refine zKd ?_ | refine zKa ?_ _)); refine blk_far ?_ NB389_392.out _; (with_reducible repeat (first | refine zKn ?_ _ | refine zKd ?_ | refine zKa ?_ _)); exact BK389.out⟩, ⟨by (with_reducible repeat (first | refine zKn ?_ _ | refine zKd ?_ | refine zKa ?_ _)); refine blk_far ?_ NB390_392.out _; (with_reducible repeat (first | refine zKn ?_ _ | refine zKd ?_ | refine zKa ?_ _)); refine blk_far ?_ NB390_392.out _; (with_reducible repeat (first | refine zKn ?_ _ | refine zKd ?_ | refine zKa ?_ _)); refine blk_far ?_ NB390_392.out _; (with_reducible repeat (first | refine zKn ?_ _ | refine zKd ?_ | refine zKa ?_ _)); exact BK390.out⟩, ⟨by exact uT HB.out⟩⟩
  ·rw [if_neg c13] at H
   have c13b0 : decide (((rd_T43 l0_1 x6_1).f0) < (l1.length : Int)) = false := decide_eq_false c13
   clear c13
   have H' := zMk H
   clear H
   have hnb59 := NB388_389.out
   have hnc59 := NB389_388.out
   have hnb60 := NB388_390.out
   have hnc60 := NB390_388.out
   have hcz61_0 : wr.cell? ⟨gb388, 0, none⟩ = some (.int .i64 a0_0) := (zKc BK388.out 0).trans rfl
   have hcz61_1 : wr.cell? ⟨gb388, 1, none⟩ = some (.slice A0_1 l0_1.length c0_1) := (zKc BK388.out 1).trans rfl
   have hfz61_0 := zKf BK388.out 0
   have hfz61_1 := zKf BK388.out 1
   have p391 : 0 ≤ (x6_1 : Int) := of_decide_eq_true (by assumption)
   have q391 : x6_1 < (l0_1.length : Int) := of_decide_eq_true (by assumption)
   obtain ⟨ad391, e391, hx391_0, hx391_1, hx391_2⟩ := at_T43 HR0_1.out x6_1 p391 q391
   cases e391
   replace hx391_0 := pw_cell_below HB.out hx391_0
   replace hx391_1 := pw_cell_below HB.out hx391_1
   replace hx391_2 := pw_cell_below HB.out hx391_2
   replace p391 := eq_true p391
   replace q391 := eq_true q391
   go_wp2_with (first | ((with_reducible refine gate_dst (N:=7) rfl ?_); (try (refine gate_guard (by rfl) ?_; dsimp only)); refine box_event ?hg (N:=7) ?hd (cs:=#[.int .i64 0, .int .i64 0, .int .i64 0]) (t:=43) ?hr ?_; (case hd => rfl); (case hg => rfl); (case hr => first | (go_simp; done)|(go_simp; rfl)|(go_simp; rw [show ∀ x : Int, IntKind.u32.wrap (IntKind.u8.wrap x) = x % 256 from fun x => (by show (x % 256) % 4294967296 = x % 256; omega)])); intro gb392 hg w62 hbox hb; replace HO_391001 := zMk (zRb (Kd.R_elderB (uR HO_391001.out) gb392 (Nat.le_of_eq hg.symm)) hb); have BK392 := zMk (hbox); have GW392 := zMk ((by rw [hg]; exact (zBs (uT HB.out)) : w.heap.size ≤ gb392)); have GE392 := zMk ((by rw [hg]; exact (zBs (uT HB.out)) : w.heap.size ≤ gb392)); have IGE392 := ownGe GE392.out; replace HB := zMk (zBt (uT HB.out) hb); have NB388_392 := zMk ((by rw [hg]; exact Nat.ne_of_lt (blk_lt BK388.out) : gb388 ≠ gb392)); have NB392_388 := zMk ((by rw [hg]; exact Nat.ne_of_gt (blk_lt BK388.out) : gb392 ≠ gb388)); replace BK388 := zMk (zKb BK388.out hb); have NB389_392 := zMk ((by rw [hg]; exact Nat.ne_of_lt (blk_lt BK389.out) : gb389 ≠ gb392)); have NB392_389 := zMk ((by rw [hg]; exact Nat.ne_of_gt (blk_lt BK389.out) : gb392 ≠ gb389)); replace BK389 := zMk (zKb BK389.out hb); have NB390_392 := zMk ((by rw [hg]; exact Nat.ne_of_lt (blk_lt BK390.out) : gb390 ≠ gb392)); have NB392_390 := zMk ((by rw [hg]; exact Nat.ne_of_gt (blk_lt BK390.out) : gb392 ≠ gb390)); replace BK390 := zMk (zKb BK390.out hb); clear hb hbox hg; have hnb63 := NB392_388.out; have hnc63 := NB388_392.out; have hnb64 := NB392_389.out; have hnc64 := NB389_392.out; have hnb65 := NB392_390.out; have hnc65 := NB390_392.out; have hcz66_0 : w62.cell? ⟨gb392, 0, none⟩ = some (.int .i64 0) := (zKc BK392.out 0).trans rfl; have hcz66_1 : w62.cell? ⟨gb392, 1, none⟩ = some (.int .i64 0) := (zKc BK392.out 1).trans rfl; have hcz66_2 : w62.cell? ⟨gb392, 2, none⟩ = some (.int .i64 0) := (zKc BK392.out 2).trans rfl; have hfz66_0 := zKf BK392.out 0; have hfz66_1 := zKf BK392.out 1; have hfz66_2 := zKf BK392.out 2))
   go_roundg k1
   case measure => have := HK1.out; omega
   case rel => exact ⟨(wrap64 (x6_1 + 1)), (x391001_1), (u391001), (by first | rfl | (simp; done) | (simp [*]; done)), H', ⟨by have := HK1.out; omega⟩, ⟨by (with_reducible repeat (first | apply zRa | apply zRn | apply zRd)); exact zRm (Kd.R_far (p:=⟨gb392, 2, none⟩) (Kd.R_far (p:=⟨gb392, 1, none⟩) (Kd.R_far (p:=⟨gb392, 0, none⟩) (zRm HO_391001.out (fun k_ hk => (⟨hk, hk.2⟩ : _ ∧ k_ ≠ gb392))) (fun _ hk => hk.2) (.int .i64 ((rd_T43 l0_1 x6_1).f0))) (fun _ hk => hk.2) (.int .i64 ((rd_T43 l0_1 x6_1).f1))) (fun _ hk => hk.2) (.int .i64 ((rd_T43 l0_1 x6_1).f2))) (fun _ hk => trivial)⟩, ⟨by (with_reducible repeat (first | refine zKn ?_ _ | refine zKd ?_ | refine zKa ?_ _)); refine blk_far ?_ NB388_392.out _; (with_reducible repeat (first | refine zKn ?_ _ | refine zKd ?_ | refine zKa ?_ _)); refine blk_far ?_ NB388_392.out _; (with_reducible repeat (first | refine zKn ?_ _ | refine zKd ?_ | refine zKa ?_ _)); refine blk_far ?_ NB388_392.out _; (with_reducible repeat (first | refine zKn ?_ _ | refine zKd ?_ | refine zKa ?_ _)); exact BK388.out⟩, ⟨by (with_reducible repeat (first | refine zKn ?_ _ | refine zKd ?_ | refine zKa ?_ _)); refine blk_far ?_ NB389_392.out _; (with_reducible repeat (first | refine zKn ?_ _ | refine zKd ?_ | refine zKa ?_ _)); refine blk_far ?_ NB389_392.out _; (with_reducible repeat (first | refine zKn ?_ _ | refine zKd ?_ | refine zKa ?_ _)); refine blk_far ?_ NB389_392.out _; (with_reducible repeat (first | refine zKn ?_ _ | refine zKd ?_ | refine zKa ?_ _)); exact BK389.out⟩, ⟨by (with_reducible repeat (first | refine zKn ?_ _ | refine zKd ?_ | refine zKa ?_ _)); refine blk_far ?_ NB390_392.out _; (with_reducible repeat (first | refine zKn ?_ _ | refine zKd ?_ | refine zKa ?_ _)); refine blk_far ?_ NB390_392.out _; (with_reducible repeat (first | refine zKn ?_ _ | refine zKd ?_ | refine zKa ?_ _)); refine blk_far ?_ NB390_392.out _; (with_reducible repeat (first | refine zKn ?_ _ | refine zKd ?_ | refine zKa ?_ _)); exact BK390.out⟩, ⟨by exact uT HB.out⟩⟩
 ·rw [if_neg c11] at H
  have c11b0 : decide (x6_1 < (l0_1.length : Int)) = false := decide_eq_false c11
  clear c11
  simp only [Option.some.injEq, Prod.mk.injEq] at H
  obtain ⟨rfl, rfl⟩ := H
  have hnb67 := NB388_389.out
  have hnc67 := NB389_388.out
  have hnb68 := NB388_390.out
  have hnc68 := NB390_388.out
  have hcz69_0 : wr.cell? ⟨gb388, 0, none⟩ = some (.int .i64 a0_0) := (zKc BK388.out 0).trans rfl
  have hcz69_1 : wr.cell? ⟨gb388, 1, none⟩ = some (.slice A0_1 l0_1.length c0_1) := (zKc BK388.out 1).trans rfl
  have hfz69_0 := zKf BK388.out 0
  have hfz69_1 := zKf BK388.out 1
  have hnb70 := NB390_389.out
  have hnc70 := NB389_390.out
  have hcz71_0 : wr.cell? ⟨gb390, 0, none⟩ = some (.int .i64 a0_0) := (zKc BK390.out 0).trans rfl
  have hcz71_1 : wr.cell? ⟨gb390, 1, none⟩ = some (u391001) := (zKc BK390.out 1).trans rfl
  have hfz71_0 := zKf BK390.out 0
  have hfz71_1 := zKf BK390.out 1
  have hcz72_0 : wr.cell? ⟨gb389, 0, none⟩ = some (.int .i64 0) := (zKc BK389.out 0).trans rfl
  have hcz72_1 : wr.cell? ⟨gb389, 1, none⟩ = some (.slice none 0 0) := (zKc BK389.out 1).trans rfl
  have hfz72_0 := zKf BK389.out 0
  have hfz72_1 := zKf BK389.out 1
  obtain ⟨Ao73, co73, eo73⟩ := zRs HO_391001.out
  subst eo73
  go_wp2
  refine bodyPost_ret (results_cell_row rfl _ _ gb389 24 #[.int .i64 a0_0, .slice Ao73 x391001_1.length co73] (0, 0) _ rfl (by (with_reducible repeat (first | refine zKn ?_ _ | refine zKd ?_ | refine zKa ?_ _)); refine blk_put (cs:=#[.int .i64 a0_0, .slice none 0 0]) ?_ 1 _ rfl; (with_reducible repeat (first | refine zKn ?_ _ | refine zKd ?_ | refine zKa ?_ _)); refine blk_put (cs:=#[.int .i64 0, .slice none 0 0]) ?_ 0 _ rfl; (with_reducible repeat (first | refine zKn ?_ _ | refine zKd ?_ | refine zKa ?_ _)); exact BK389.out) Try.underlying24 rfl (by kernel_rfl)) rfl ?_
  exact ⟨_, by first | rfl | (simp [errW_none, errW_some] <;> rfl) | (simp [*, errW_none, errW_some] <;> rfl), by (with_reducible repeat (first | apply zRa | apply zRn | apply zRd)); exact zRm (Kd.R_far (p:=⟨gb389, 1, none⟩) (Kd.R_far (p:=⟨gb389, 0, none⟩) (Kd.R_types HO_391001.out BK389.out (by decide)) (fun _ hk => hk.2) (.int .i64 a0_0)) (fun _ hk => hk.2) (.slice Ao73 x391001_1.length co73)) (fun _ hk => trivial), by exact uT HB.out⟩


def r6_all.l0 : Nat → Int → Int → List Bool → Int → Option (List Bool)
 | 0, _, _, _, _ => none
 | k + 1, x0, x1, x5, x6 => if x6 < x0 then (if 0 ≤ x6 then (if x6 < (x5.length : Int) then (r6_all.l0 k x0 x1 (x5.set (x6 : Int).toNat (x6 != x1)) (wrap64 (x6 + 1))) else (none)) else (none)) else (some x5)
def r6_all.f (k : Nat) (a0 : Int) (a1 : Int) : Option (List Bool) := if 0 ≤ a0 then (if (a0 : Int).toNat ≤ 281474976710656 then (r6_all.l0 k a0 a1 (List.replicate (a0 : Int).toNat false) 0) else (none)) else (none)
theorem r6_all.calls (k : Nat) (a0 : Int) (a1 : Int) (r : List Bool) (w : World) (h : r6_all.f k a0 a1 = some r) :
  Calls Try.prog 34 #[.int .i64 a0, .int .i64 a1] w fun e w' => ∃ v0_ : Value, e = .returned (v0_) ∧ Kd.R Kd.bool 4 w' w.heap.size (fun _ => True) v0_ r ∧ Below w.heap.size w w' := by
 have HB := zMk (Below.refl w.heap.size w)
 have H : (if 0 ≤ a0 then (if (a0 : Int).toNat ≤ 281474976710656 then (r6_all.l0 k a0 a1 (List.replicate (a0 : Int).toNat false) 0) else (none)) else (none)) = some r := h
 clear h
 by_cases c3 : 0 ≤ a0
 ·rw [if_pos c3] at H
  have c3b0 := eq_true c3
  have c3b1 : decide (0 ≤ a0) = true := decide_eq_true c3
  clear c3
  by_cases c4 : (a0 : Int).toNat ≤ 281474976710656
  rotate_left
  ·rw [if_neg c4] at H; exact absurd H (by simp)
  rw [if_pos c4] at H
  have c4b0 := eq_true c4
  have c4b1 : decide ((a0 : Int).toNat ≤ 281474976710656) = true := decide_eq_true c4
  clear c4
  obtain ⟨y398, hy398⟩ : ∃ y_ : List Bool, y_ = (List.replicate (a0 : Int).toNat false) := ⟨_, rfl⟩
  replace H : (r6_all.l0 k a0 a1 y398 0) = some r := by first | (rw [hy398]; with_reducible exact H) | (have H2_ := bsm H; first | (rw [hy398]; with_reducible exact H2_) | with_reducible exact H2_) | with_reducible exact H | (rw [hy398]; exact H) | exact H
  have Ny398 := zMk hy398
  clear hy398
  have H' := zMk H
  clear H
  go_enter Try.func34, Try.ntmps34
  go_wp2_with (first | ((with_reducible refine gate_dst (N:=8) rfl ?_); refine Kd.R_make Kd.bool _ 4 rfl (N:=8) rfl 36 _ _ rfl a0 rfl rfl Try.underlying36 (.bool false) 1 info4 rfl (by decide) (by omega) false (ok:=fun _ => True) (okp:=fun _ => True) rfl (fun _ hk => hk) trivial (of_decide_eq_true (by first | (with_reducible assumption)|  assumption)) (Nat.le_trans (Nat.mul_le_mul_right _ (of_decide_eq_true (by first | (with_reducible assumption)|  assumption) : a0.toNat ≤ 281474976710656)) (by omega)) (Below.refl _ _) (Nat.le_refl _) ?_; intro v399 w5 ho6 hb hg_ hnew_; clear hg_ hnew_; (first |  rw [← Ny398.out] at ho6|  (simp only [Int.reduceToNat] at ho6; rw [← Ny398.out] at ho6)); have HO400 := zMk (zRl ho6 (zBs (by exact uT HB.out))); replace HB := zMk (zBt (by exact uT HB.out) hb); clear hb ho6))
  go_loopg [6] k (fun kq v6 w' => ∃ (x5_1 : List Bool) (x6_1 : Int), v6 = .int .i64 x6_1 ∧ Aside0 (r6_all.l0 kq a0 a1 x5_1 x6_1 = some r) ∧ Aside0 (kq ≤ k) ∧ Aside0 (Kd.R Kd.bool 4 w' w.heap.size (fun _ => True) v399 x5_1) ∧ Aside0 (Below w.heap.size w w'))
  case atStart => exact ⟨(y398), (0), (by first | rfl | (simp; done) | (simp [*]; done)), H', ⟨Nat.le_refl _⟩, ⟨by exact uR HO400.out⟩, ⟨by exact uT HB.out⟩⟩
  clear H'
  obtain ⟨x5_1, x6_1, rfl, HA, HK1, HO_5, HB⟩ := hrel
  rcases gk with _ | k1
  ·exact absurd HA.out (by simp [r6_all.l0])
  have H := HA.out
  clear HA
  simp only [r6_all.l0] at H
  by_cases c7 : x6_1 < a0
  ·rw [if_pos c7] at H
   have c7b0 : decide (x6_1 < a0) = true := decide_eq_true c7
   clear c7
   by_cases c8 : 0 ≤ x6_1
   rotate_left
   ·rw [if_neg c8] at H; exact absurd H (by simp)
   rw [if_pos c8] at H
   have c8b0 : decide (0 ≤ x6_1) = true := decide_eq_true c8
   clear c8
   by_cases c9 : x6_1 < (x5_1.length : Int)
   rotate_left
   ·rw [if_neg c9] at H; exact absurd H (by simp)
   rw [if_pos c9] at H
   have c9b0 : decide (x6_1 < (x5_1.length : Int)) = true := decide_eq_true c9
   clear c9
   obtain ⟨y401, hy401⟩ : ∃ y_ : List Bool, y_ = (x5_1.set (x6_1 : Int).toNat (x6_1 != a1)) := ⟨_, rfl⟩
   replace H : (r6_all.l0 k1 a0 a1 y401 (wrap64 (x6_1 + 1))) = some r := by first | (rw [hy401]; with_reducible exact H) | (have H2_ := bsm H; first | (rw [hy401]; with_reducible exact H2_) | with_reducible exact H2_) | with_reducible exact H | (rw [hy401]; exact H) | exact H
   have Ny401 := zMk hy401
   clear hy401
   have H' := zMk H
   clear H
   have p10 : 0 ≤ (x6_1 : Int) := of_decide_eq_true (by assumption)
   have q10 : (x6_1 : Int) < ((x5_1.length : Int) : Int) := of_decide_eq_true (by assumption)
   obtain ⟨go10, co10, eo10, gb10, gl10, cl10, HG10⟩ := Kd.R_form HO_5.out (by omega)
   (first |  cases eo10|  (injection eo10 with ea_ en_ ec_; (first |  subst ea_|  (injection ea_ with ea_; subst ea_)); subst ec_; clear en_))
   have GB10 := zMk gb10
   have IGB10 := ownGe GB10.out
   have GG10 := zMk HG10
   clear gb10 gl10 HG10
   obtain ⟨hx10_0, hf10_0⟩ := Kd.R_celln false HO_5.out (x6_1 : Int) p10 q10
   replace p10 := eq_true p10
   replace q10 := eq_true q10
   have HP11 := Kd.R_putg HO_5.out (x6_1 : Int) (x6_1 != a1)
   go_wp2_with (first | ((with_reducible refine gate_store (t:=4) (p:=19) rfl ?_); refine store_event (t:=4) (p:=19) (v:=?vo_w12) (w1:=(wr.setCell ⟨go10, (x6_1 : Int).toNat, none⟩ (.bool (x6_1 != a1)))) ?hg ?ho ?hn ?hr ?_; (case ho => rfl); (case hg => rfl); (case hn => rfl); (case hr => first | (go_simp; done)|(go_simp; rfl)|(go_simp; rw [show ∀ x : Int, IntKind.u32.wrap (IntKind.u8.wrap x) = x % 256 from fun x => (by show (x % 256) % 4294967296 = x % 256; omega)])); intro w12 hw; have hg : wr.grownBy w12 (some go10) := (by rw [hw]; exact HP11.2); have hp_ : Kd.R Kd.bool 4 w12 w.heap.size (fun _ => True) (.slice (some ⟨go10, 0, none⟩) x5_1.length co10) y401 := (by rw [hw, Ny401.out]; exact HP11.1); clear HP11; replace HO_5 := zMk (hp_); replace HB := zMk ((by rw [hw]; exact below_set (HB.out) GB10.out : Below w.heap.size w w12)); clear hg hw hp_))
   go_roundg k1
   case measure => have := HK1.out; omega
   case rel => exact ⟨(y401), (wrap64 (x6_1 + 1)), (by first | rfl | (simp; done) | (simp [*]; done)), H', ⟨by have := HK1.out; omega⟩, ⟨by exact uR HO_5.out⟩, ⟨by exact uT HB.out⟩⟩
  ·rw [if_neg c7] at H
   have c7b0 : decide (x6_1 < a0) = false := decide_eq_false c7
   clear c7
   obtain rfl := zOi H
   go_wp2
   go_ret
   exact ⟨_, by first | rfl | (simp [errW_none, errW_some] <;> rfl) | (simp [*, errW_none, errW_some] <;> rfl), by exact uR HO_5.out, by exact uT HB.out⟩
 ·rw [if_neg c3] at H
  exact absurd H (by simp)



def keepB (N : Nat) (x : Int) : List Bool := (ups N).map fun u => u != x
theorem keepB_len (N : Nat) (x : Int) : (keepB N x).length = N := by rw [keepB, List.length_map, ups_len]
theorem rdb_nat (l : List Bool) (i : Nat) (h : i < l.length) : rdOf false l (i : Int) = l[i] := by unfold rdOf; rw [zTn]; simp [h]
theorem keepB_rd (N : Nat) (x v : Int) (v0 : 0 ≤ v) (v1 : v < (N : Int)) : rdOf false (keepB N x) v = (v != x) := by
 obtain ⟨i, rfl⟩ := Int.eq_ofNat_of_zero_le v0
 rw [rdb_nat _ i (by rw [keepB_len]; omega)]
 simp [keepB, ups]
theorem all_l0 (N : Nat) (x : Int) (hN : N ≤ 1000000000) (d : Nat) : ∀ (i : Nat) (l : List Bool), N - i = d → i ≤ N → l.length = N → (∀ j : Nat, j < i → rdOf false l j = ((j : Int) != x)) → Ev (fun k => r6_all.l0 k N x l i) (keepB N x) := by
 induction d with
 | zero =>
  intro i l hd hi hl hr
  obtain rfl : i = N := by omega
  have e : l = keepB i x := by
   apply List.ext_getElem (by rw [keepB_len]; exact hl)
   intro j h1 h2
   have h3 := hr j (by omega)
   rw [rdb_nat l j h1] at h3
   rw [h3]
   simp [keepB, ups]
  subst e
  refine Ev.step (fun k => ?_) (Ev.now _)
  simp only [r6_all.l0]
  rw [if_neg (by omega)]
 | succ d ih =>
  intro i l hd hi hl hr
  refine Ev.step (fun k => ?_) (ih (i + 1) (l.set i ((i : Int) != x)) (by omega) (by omega) (by rw [List.length_set]; exact hl) (fun j hj => ?_))
  ·simp only [r6_all.l0]
   rw [if_pos (by omega), if_pos (by omega), if_pos (by omega), w64n i (by omega), zTn]
  ·have := rdb_set l (i : Int) (j : Int) ((i : Int) != x) (by omega) (by omega) (by omega)
   rw [zTn] at this
   rw [this]
   split
   ·rename_i e; rw [e]
   ·exact hr j (by omega)
theorem all_ev2 (N : Nat) (x : Int) (hN : N ≤ 1000000000) : Ev (fun k => r6_all.f k N x) (keepB N x) := by
 refine Ev.congr (fun k => ?_) (all_l0 N x hN N 0 (List.replicate N false) rfl (Nat.zero_le _) List.length_replicate (fun j hj => by omega))
 unfold r6_all.f
 rw [if_pos (by omega), zTn, if_pos (by omega)]; rfl
theorem Only_l0 (N : Nat) (E : List S43) (x : Int) (hE : Ends N E) (hm : E.length ≤ 1000000000) (d : Nat) : ∀ (i : Nat) (acc : List S43), E.length - i = d → i ≤ E.length → acc.length ≤ i →
  Ev (fun k => r4_Only.l0 k (keepB N x) i N E N acc) ((N : Int), acc ++ dropV (E.drop i) x) := by
 induction d with
 | zero =>
  intro i acc hd hi ha
  obtain rfl : i = E.length := by omega
  rw [List.drop_length]
  refine Ev.step (fun k => ?_) (Ev.now _)
  simp only [r4_Only.l0]
  rw [if_neg (by omega)]
  simp [dropV]
 | succ d ih =>
  intro i acc hd hi ha
  have hlt : i < E.length := by omega
  obtain ⟨a0, a1, b0, b1⟩ := hE _ (rdE_mem E i hlt)
  rw [dropE E i hlt]
  generalize he : rd_T43 E (i : Int) = e at *
  have hd1 : dropV (e :: E.drop (i + 1)) x = if e.f0 ≠ x ∧ e.f1 ≠ x then e :: dropV (E.drop (i + 1)) x else dropV (E.drop (i + 1)) x := by
   unfold dropV
   rw [List.filter_cons]
   by_cases h1 : e.f0 = x
   ·rw [if_neg (by simp [h1]), if_neg (by simp [h1])]
   ·by_cases h2 : e.f1 = x
    ·rw [if_neg (by simp [h2]), if_neg (by simp [h2])]
    ·rw [if_pos (by simp [h1, h2]), if_pos ⟨h1, h2⟩]
  rw [hd1]
  have hcond : ∀ k, r4_Only.l0 (k + 1) (keepB N x) i N E N acc = if e.f0 ≠ x ∧ e.f1 ≠ x then r4_Only.l0 k (keepB N x) ((i + 1 : Nat) : Int) N E N (acc ++ [e]) else r4_Only.l0 k (keepB N x) ((i + 1 : Nat) : Int) N E N acc := fun k => by
   simp only [r4_Only.l0]
   rw [if_pos (by omega), if_pos (by omega), he, if_pos (by rw [keepB_len]; exact a1), if_pos a0, keepB_rd N x _ a0 a1, w64n i (by omega)]
   by_cases h1 : e.f0 = x
   ·rw [if_neg (by simp [h1]), if_neg (fun h => h.1 h1)]
   ·rw [if_pos (by simp [h1]), if_pos (by rw [keepB_len]; exact b1), if_pos b0, keepB_rd N x _ b0 b1]
    by_cases h2 : e.f1 = x
    ·rw [if_neg (by simp [h2]), if_neg (fun h => h.2 h2)]
    ·rw [if_pos (by simp [h2]), if_pos (by omega), if_pos ⟨h1, h2⟩]
  by_cases hc : e.f0 ≠ x ∧ e.f1 ≠ x
  ·rw [if_pos hc]
   have h1 := ih (i + 1) (acc ++ [e]) (by omega) (by omega) (by rw [List.length_append]; simp; omega)
   rw [List.append_assoc, List.singleton_append] at h1
   exact Ev.step (fun k => by rw [hcond k, if_pos hc]) h1
  ·rw [if_neg hc]
   exact Ev.step (fun k => by rw [hcond k, if_neg hc]) (ih (i + 1) acc (by omega) (by omega) (by omega))
theorem Only_ev (N : Nat) (E : List S43) (x : Int) (hE : Ends N E) (hm : E.length ≤ 1000000000) : Ev (fun k => r4_Only.f k N E (keepB N x)) ((N : Int), dropV E x) := by
 have h := Only_l0 N E x hE hm E.length 0 [] rfl (Nat.zero_le _) (Nat.zero_le _)
 rw [List.drop_zero, List.nil_append] at h
 exact h
theorem dropV_ends {N : Nat} {E : List S43} (hE : Ends N E) (x : Int) : Ends N (dropV E x) := fun e he => hE e (mem_dropV.1 he).1
theorem dropV_len (E : List S43) (x : Int) : (dropV E x).length ≤ E.length := List.length_filter_le _ _
def Mono (E : List S43) (l m : List Int) : Prop := ∀ i j, 0 ≤ i → i < (E.length : Int) → 0 ≤ j → j < (E.length : Int) → rd l i = rd l j → rd m i = rd m j
def MgV (E : List S43) (v : Int) (l : List Int) : Prop := ∀ w, 0 ≤ w → w < v → ∀ i k a b, At E i w a → At E k w b → Cn (dropV E w) a b → k < i → rd l i = rd l k
def MgI (E : List S43) (v i : Int) (l : List Int) : Prop := ∀ i' k a b, i' < i → k < i' → At E i' v a → At E k v b → Cn (dropV E v) a b → rd l i' = rd l k
def MgK (E : List S43) (v i k : Int) (l : List Int) : Prop := ∀ k' a b, k' < k → k' < i → At E i v a → At E k' v b → Cn (dropV E v) a b → rd l i = rd l k'
theorem MgV.mono {E : List S43} {v : Int} {l m : List Int} (h : MgV E v l) (hm : Mono E l m) : MgV E v m := fun w w0 w1 i k a b h1 h2 h3 h4 => hm i k h1.rng.1 h1.rng.2 h2.rng.1 h2.rng.2 (h w w0 w1 i k a b h1 h2 h3 h4)
theorem MgI.mono {E : List S43} {v i : Int} {l m : List Int} (h : MgI E v i l) (hm : Mono E l m) : MgI E v i m := fun i' k a b e1 e2 h1 h2 h3 => hm i' k h1.rng.1 h1.rng.2 h2.rng.1 h2.rng.2 (h i' k a b e1 e2 h1 h2 h3)
theorem MgK.mono {E : List S43} {v i k : Int} {l m : List Int} (h : MgK E v i k l) (hm : Mono E l m) : MgK E v i k m := fun k' a b e1 e2 h1 h2 h3 => hm i k' h1.rng.1 h1.rng.2 h2.rng.1 h2.rng.2 (h k' a b e1 e2 h1 h2 h3)
def rootsL (N : Nat) (l : List Int) : List Int := (ups N).filter fun v => rd l v == v
def rootsE (N : Nat) (E : List S43) : List Int := rootsL N (labs N E)
theorem comps_roots (N : Nat) (E : List S43) : (compsL N (labs N E)).length = (rootsE N E).length := by unfold compsL rootsE rootsL; rw [List.length_map]
theorem roots_len (N : Nat) (E : List S43) : (rootsE N E).length ≤ N := by
 have := List.length_filter_le (fun v => rd (labs N E) v == v) (ups N)
 rwa [ups_len] at this
theorem mem_roots {N : Nat} {E : List S43} {v : Int} : v ∈ rootsE N E ↔ (0 ≤ v ∧ v < (N : Int)) ∧ rd (labs N E) v = v := by
 unfold rootsE rootsL
 rw [List.mem_filter, mem_ups]
 simp
theorem roots_nodup (N : Nat) (E : List S43) : (rootsE N E).Nodup := ((ups_up N).imp (fun {a b} h e => by rw [e] at h; omega)).filter _
theorem lab_of {N : Nat} {E : List S43} (hE : Ends N E) {u : Int} (h : 0 ≤ u ∧ u < (N : Int)) : (0 ≤ rd (labs N E) u ∧ rd (labs N E) u < (N : Int)) ∧ Cn E (rd (labs N E) u) u ∧ rd (labs N E) (rd (labs N E) u) = rd (labs N E) u := by
 obtain ⟨r, r0, r1, hr, hc⟩ := root_of E u h.1
 rw [labs_root hE hr r0 (by omega) hc.symm]
 exact ⟨⟨r0, by omega⟩, hc.symm, labs_root hE hr r0 (by omega) (.refl _)⟩
theorem root_sub {N : Nat} {E F : List S43} (hE : Ends N E) (hF : Ends N F) (hs : ∀ u w, Cn F u w → Cn E u w) {x : Int} (h : x ∈ rootsE N E) : x ∈ rootsE N F := by
 obtain ⟨hx, e⟩ := mem_roots.1 h
 obtain ⟨hy, hc, -⟩ := lab_of hF hx
 have h1 := (labs_iff hE hy hx).2 (hs _ _ hc)
 have h2 := labs_le hE _ hy.1 hy.2
 have h3 := labs_le hF x hx.1 hx.2
 exact mem_roots.2 ⟨hx, by omega⟩
theorem roots_more {N : Nat} {E F : List S43} (hE : Ends N E) (hF : Ends N F) (hs : ∀ u w, Cn F u w → Cn E u w) {p : Int} (hp : p ∈ rootsE N E) {S : List Int} (hn : S.Nodup) (hS : ∀ x ∈ S, x ∈ rootsE N F ∧ Cn E x p) : (rootsE N E).length + S.length ≤ (rootsE N F).length + 1 := by
 have hnd := roots_nodup N E
 have h1 : ((rootsE N E).erase p ++ S).Nodup := by
  rw [List.nodup_append]
  refine ⟨hnd.erase p, hn, fun x hx y hy e => ?_⟩
  subst e
  rw [hnd.mem_erase_iff] at hx
  have h2 := mem_roots.1 hx.2
  have h3 := mem_roots.1 hp
  have := (labs_iff hE h2.1 h3.1).2 (hS x hy).2
  exact hx.1 (by omega)
 have h2 := List.Nodup.length_le_of_subset h1 (l₂:=rootsE N F) (fun x hx => by
  rcases List.mem_append.1 hx with hx | hx
  ·exact root_sub hE hF hs (List.mem_of_mem_erase hx)
  ·exact (hS x hx).1)
 rw [List.length_append, List.length_erase_of_mem hp] at h2
 have := List.length_pos_of_mem hp
 omega
theorem roots_less {N : Nat} {E F : List S43} {p : Int} (hp : p ∈ rootsE N E) {S : List Int} (hS : ∀ x ∈ rootsE N F, (x ∈ rootsE N E ∧ x ≠ p) ∨ x ∈ S) : (rootsE N F).length + 1 ≤ (rootsE N E).length + S.length := by
 have hnd := roots_nodup N E
 have h2 := List.Nodup.length_le_of_subset (roots_nodup N F) (l₂:=(rootsE N E).erase p ++ S) (fun x hx => by
  rw [List.mem_append]
  rcases hS x hx with h | h
  ·exact .inl (hnd.mem_erase_iff.2 ⟨h.2, h.1⟩)
  ·exact .inr h)
 rw [List.length_append, List.length_erase_of_mem hp] at h2
 have := List.length_pos_of_mem hp
 omega
theorem at_of {E : List S43} {e : S43} (he : e ∈ E) : ∃ j, At E j e.f0 e.f1 := by
 obtain ⟨j, hj, rfl⟩ := List.mem_iff_getElem.1 he
 exact ⟨j, j, hj, rfl, .inl ⟨rfl, rfl⟩⟩
theorem drop_cn {E : List S43} {q u w : Int} (h : Cn (dropV E q) u w) : Cn E u w := h.mono fun e he => (mem_dropV.1 he).1
theorem last_step {E : List S43} {v r : Int} (hr : r ≠ v) (h : Cn E r v) : ∃ j a, At E j v a ∧ Cn (dropV E v) r a := by
 have key : ∀ x, Cn E r x → (x ≠ v ∧ Cn (dropV E v) r x) ∨ ∃ j a, At E j v a ∧ Cn (dropV E v) r a := fun x h => by
  induction h with
  | refl => exact .inl ⟨hr, .refl _⟩
  | fwd e he _ ih =>
   rcases ih with ⟨h1, h2⟩ | h1
   ·by_cases h3 : e.f1 = v
    ·obtain ⟨j, hj⟩ := at_of he
     exact .inr ⟨j, e.f0, h3 ▸ hj.swap, h2⟩
    ·exact .inl ⟨h3, .fwd e (mem_dropV.2 ⟨he, h1, h3⟩) h2⟩
   ·exact .inr h1
  | bwd e he _ ih =>
   rcases ih with ⟨h1, h2⟩ | h1
   ·by_cases h3 : e.f0 = v
    ·obtain ⟨j, hj⟩ := at_of he
     exact .inr ⟨j, e.f1, h3 ▸ hj, h2⟩
    ·exact .inl ⟨h3, .bwd e (mem_dropV.2 ⟨he, h3, h1⟩) h2⟩
   ·exact .inr h1
 rcases key v h with ⟨h1, -⟩ | h1
 ·exact absurd rfl h1
 ·exact h1
theorem drop_alone {E : List S43} {v x : Int} (h : Cn (dropV E v) v x) : x = v := by
 induction h with
 | refl => rfl
 | fwd e he _ ih => exact absurd ih (mem_dropV.1 he).2.1
 | bwd e he _ ih => exact absurd ih (mem_dropV.1 he).2.2
theorem drop_far {E : List S43} {v r x : Int} (hr : ¬ Cn E r v) (h : Cn E r x) : Cn (dropV E v) r x := by
 induction h with
 | refl => exact .refl _
 | fwd e he hc ih => exact .fwd e (mem_dropV.2 ⟨he, fun e1 => hr (e1 ▸ hc), fun e1 => hr (e1 ▸ Cn.fwd e he hc)⟩) ih
 | bwd e he hc ih => exact .bwd e (mem_dropV.2 ⟨he, fun e1 => hr (e1 ▸ Cn.bwd e he hc), fun e1 => hr (e1 ▸ hc)⟩) ih
section
variable {N : Nat} {E : List S43}
theorem cut_more (hR : Rt N E) {v i k a b : Int} (h1 : At E i v a) (h2 : At E k v b) (hc : ¬ Cn (dropV E v) a b) : (rootsE N E).length + 2 ≤ (rootsE N (dropV E v)).length := by
 have hE := hR.ends
 have hD := dropV_ends hE v
 obtain ⟨hv, ha⟩ := h1.inn hE
 obtain ⟨-, hb⟩ := h2.inn hE
 obtain ⟨ra, ca, ia⟩ := lab_of hD ha
 obtain ⟨rb, cb, ib⟩ := lab_of hD hb
 obtain ⟨rv, cv, iv⟩ := lab_of hE hv
 have nv : ∀ {j c z}, At E j v c → Cn (dropV E v) z c → v ≠ z := fun hj hh e => hj.ne hR (drop_alone (by rw [← e] at hh; exact hh)).symm
 have hvv : rd (labs N (dropV E v)) v = v := by
  obtain ⟨-, c, -⟩ := lab_of hD hv
  exact drop_alone c.symm
 have h3 := roots_more hE hD (fun u w => drop_cn) (mem_roots.2 ⟨rv, iv⟩) (S:=[v, rd (labs N (dropV E v)) a, rd (labs N (dropV E v)) b]) (by
  have := nv h1 ca
  have := nv h2 cb
  have h5 : rd (labs N (dropV E v)) a ≠ rd (labs N (dropV E v)) b := fun e => hc ((labs_iff hD ha hb).1 e)
  simp only [List.nodup_cons, List.mem_cons, List.not_mem_nil, or_false, not_false_eq_true, List.nodup_nil, and_true]
  exact ⟨fun h => h.elim (nv h1 ca) (nv h2 cb), h5⟩) (fun x hx => by
  simp only [List.mem_cons, List.not_mem_nil, or_false] at hx
  rcases hx with rfl | rfl | rfl
  ·exact ⟨mem_roots.2 ⟨hv, hvv⟩, cv.symm⟩
  ·exact ⟨mem_roots.2 ⟨ra, ia⟩, ((drop_cn ca).trans h1.cn.symm).trans cv.symm⟩
  ·exact ⟨mem_roots.2 ⟨rb, ib⟩, ((drop_cn cb).trans h2.cn.symm).trans cv.symm⟩)
 simp only [zLc, zLn] at h3
 omega
theorem cut_less (hR : Rt N E) {v : Int} (hv : 0 ≤ v ∧ v < (N : Int)) (h : ∀ i k a b, At E i v a → At E k v b → Cn (dropV E v) a b) : (rootsE N (dropV E v)).length ≤ (rootsE N E).length + 1 := by
 have hE := hR.ends
 have hD := dropV_ends hE v
 obtain ⟨rv, cv, iv⟩ := lab_of hE hv
 obtain ⟨z, hz⟩ : ∃ z, ∀ j a, At E j v a → rd (labs N (dropV E v)) a = z := by
  by_cases he : ∃ j a, At E j v a
  ·obtain ⟨j, a, ha⟩ := he
   exact ⟨_, fun k b hb => (labs_iff hD (hb.inn hE).2 (ha.inn hE).2).2 (h _ _ _ _ hb ha)⟩
  ·exact ⟨0, fun j a ha => absurd ⟨j, a, ha⟩ he⟩
 have h3 := roots_less (F:=dropV E v) (mem_roots.2 ⟨rv, iv⟩) (S:=[v, z]) (fun x hx => by
  obtain ⟨xr, xi⟩ := mem_roots.1 hx
  by_cases hc : Cn E x v
  ·right
   by_cases e : x = v
   ·rw [e]; simp
   ·obtain ⟨j, a, hj, hxa⟩ := last_step e hc
    have h1 := (labs_iff hD xr (hj.inn hE).2).2 hxa
    have h2 := hz j a hj
    have h4 : x = z := by omega
    rw [h4]; simp
  ·left
   obtain ⟨yr, yc, -⟩ := lab_of hE xr
   have h1 := (labs_iff hD yr xr).2 (drop_far (fun h2 => hc (yc.symm.trans h2)) yc)
   have h2 := labs_le hD _ yr.1 yr.2
   have h4 := labs_le hE x xr.1 xr.2
   refine ⟨mem_roots.2 ⟨xr, by omega⟩, fun e => hc (e ▸ cv)⟩)
 simp only [zLc, zLn] at h3
 omega
def dropE2 (E : List S43) (a b : Int) : List S43 := E.filter fun e => !(e.f0 == a && e.f1 == b)
theorem mem_dropE2 {a b : Int} {e : S43} : e ∈ dropE2 E a b ↔ e ∈ E ∧ ¬ (e.f0 = a ∧ e.f1 = b) := by
 unfold dropE2
 rw [List.mem_filter]
 by_cases h1 : e.f0 = a <;> by_cases h2 : e.f1 = b <;> simp [h1, h2]
theorem dropE2_ends (hE : Ends N E) (a b : Int) : Ends N (dropE2 E a b) := fun e he => hE e (mem_dropE2.1 he).1
theorem dropE2_len (E : List S43) (a b : Int) : (dropE2 E a b).length ≤ E.length := List.length_filter_le _ _
theorem dropE2_cn {a b u w : Int} (h : Cn (dropE2 E a b) u w) : Cn E u w := h.mono fun e he => (mem_dropE2.1 he).1
theorem bridge_more (hE : Ends N E) {a b : Int} {e : S43} (he : e ∈ E) (ea : e.f0 = a) (eb : e.f1 = b) (hc : ¬ Cn (dropE2 E a b) a b) : (rootsE N E).length + 1 ≤ (rootsE N (dropE2 E a b)).length := by
 have hD := dropE2_ends hE a b
 have hb := hE e he
 have ha' : 0 ≤ a ∧ a < (N : Int) := by omega
 have hb' : 0 ≤ b ∧ b < (N : Int) := by omega
 obtain ⟨ra, ca, ia⟩ := lab_of hD ha'
 obtain ⟨rb, cb, ib⟩ := lab_of hD hb'
 obtain ⟨rv, cv, iv⟩ := lab_of hE ha'
 have hab : Cn E a b := by rw [← ea, ← eb]; exact .fwd e he (.refl _)
 have h3 := roots_more hE hD (fun u w => dropE2_cn) (mem_roots.2 ⟨rv, iv⟩) (S:=[rd (labs N (dropE2 E a b)) a, rd (labs N (dropE2 E a b)) b]) (by
  have h5 : rd (labs N (dropE2 E a b)) a ≠ rd (labs N (dropE2 E a b)) b := fun e => hc ((labs_iff hD ha' hb').1 e)
  simpa using h5) (fun x hx => by
  simp only [List.mem_cons, List.not_mem_nil, or_false] at hx
  rcases hx with rfl | rfl
  ·exact ⟨mem_roots.2 ⟨ra, ia⟩, (dropE2_cn ca).trans cv.symm⟩
  ·exact ⟨mem_roots.2 ⟨rb, ib⟩, ((dropE2_cn cb).trans hab.symm).trans cv.symm⟩)
 simp only [zLc, zLn] at h3
 omega
theorem bridge_less (hE : Ends N E) {a b : Int} (hc : Cn (dropE2 E a b) a b) : (rootsE N (dropE2 E a b)).length ≤ (rootsE N E).length := by
 have hD := dropE2_ends hE a b
 refine List.Nodup.length_le_of_subset (roots_nodup N _) (fun x hx => root_sub hD hE (fun u w h => ?_) hx)
 induction h with
 | refl => exact .refl _
 | fwd e he _ ih =>
  by_cases h1 : e.f0 = a ∧ e.f1 = b
  ·rw [h1.1] at ih; rw [h1.2]; exact ih.trans hc
  ·exact .fwd e (mem_dropE2.2 ⟨he, h1⟩) ih
 | bwd e he _ ih =>
  by_cases h1 : e.f0 = a ∧ e.f1 = b
  ·rw [h1.2] at ih; rw [h1.1]; exact ih.trans hc.symm
  ·exact .bwd e (mem_dropE2.2 ⟨he, h1⟩) ih
theorem cut_iff (hR : Rt N E) {s : Wk} (hF : Fin N E s) {v : Int} (v0 : 0 ≤ v) (v1 : v < (N : Int)) : rdOf false s.cut v = true ↔ (rootsE N E).length + 2 ≤ (rootsE N (dropV E v)).length := by
 rw [hF.ct v v0 v1]
 constructor
 ·rintro ⟨b, hb, i, a, k, a', hi, h1, h2, hk⟩
  exact cut_more hR h1 h2 (fun hc => hk ((hF.bk b hb).1 i hi k ⟨v, a, a', h1, h2, hc⟩))
 ·intro hle
  by_cases hall : ∀ i k a b, At E i v a → At E k v b → Cn (dropV E v) a b
  ·have := cut_less hR ⟨v0, v1⟩ hall
   omega
  obtain ⟨i, k, a, a', h1, h2, hc⟩ : ∃ i k a b, At E i v a ∧ At E k v b ∧ ¬ Cn (dropV E v) a b := by
   refine Classical.byContradiction fun hn => hall fun i k a b h1 h2 => ?_
   exact Classical.byContradiction fun h3 => hn ⟨i, k, a, b, h1, h2, h3⟩
  obtain ⟨b, hb, hib⟩ := hF.all i h1.rng.1 h1.rng.2
  refine ⟨b, hb, i, a, k, a', hib, h1, h2, fun hkb => ?_⟩
  have hrc := (hF.bk b hb).2 i hib k hkb
  have key : ∀ j, RC E i j → ∃ u w, At E j u w ∧ u ≠ v ∧ Cn (dropV E v) u a := fun j hj => by
   induction hj with
   | refl => exact ⟨a, v, h1.swap, fun e => h1.ne hR e.symm, .refl _⟩
   | step _ hrel ih =>
    obtain ⟨u, w, hu, huv, hua⟩ := ih
    obtain ⟨p, x, y, hx, hy, hxy⟩ := hrel
    by_cases hp : p = v
    ·subst hp
     have hux : u = x := by
      rcases hx.two hu with ⟨h3, -⟩ | ⟨h3, -⟩
      ·exact absurd h3 huv
      ·exact h3
     subst hux
     exact ⟨y, p, hy.swap, fun e => hy.ne hR e.symm, hxy.symm.trans hua⟩
    ·refine ⟨p, y, hy, hp, ?_⟩
     rcases hx.two hu with ⟨h3, -⟩ | ⟨h3, -⟩
     ·rw [← h3]; exact hua
     ·subst h3
      exact (hx.avoid hp huv).trans hua
  obtain ⟨u, w, hu, huv, hua⟩ := key k hrc
  rcases h2.two hu with ⟨h3, -⟩ | ⟨h3, -⟩
  ·exact huv h3
  ·subst h3; exact hc hua.symm
theorem at_same (hR : Rt N E) {i j a b : Int} {e : S43} (hi : At E i a b) (hj : At E j e.f0 e.f1) (hij : j ≠ i) (hab : a < b) (he : e ∈ E) : e ∈ dropE2 E a b := mem_dropE2.2 ⟨he, fun h => hij (At.one hR (by rw [← h.1, ← h.2]; exact hj) hi)⟩
theorem bridge_iff (hR : Rt N E) {s : Wk} (hF : Fin N E s) (i : Nat) (hi : i < E.length) : [(i : Int)] ∈ s.blocks ↔ ¬ Cn (dropE2 E E[i].f0 E[i].f1) E[i].f0 E[i].f1 := by
 have hA : At E (i : Int) E[i].f0 E[i].f1 := ⟨i, hi, rfl, .inl ⟨rfl, rfl⟩⟩
 have hlt := hR.lt _ (List.getElem_mem hi)
 generalize E[i].f0 = x at *
 generalize E[i].f1 = y at *
 constructor
 ·intro hb hc
  obtain ⟨j, c, hj, hyc⟩ := last_step (E:=dropE2 E x y) (v:=x) (r:=y) (by omega) hc.symm
  obtain ⟨q, hq, -, hjq⟩ := hj
  have hm := List.getElem_mem hq
  obtain ⟨hm1, hm2⟩ := mem_dropE2.1 hm
  obtain ⟨k, hk⟩ := at_of hm1
  have hkx : At E k x c := by
   rcases hjq with ⟨h1, h2⟩ | ⟨h1, h2⟩
   ·rw [← h1, ← h2]; exact hk
   ·rw [← h1, ← h2]; exact hk.swap
  have hki : k ≠ (i : Int) := fun e => by
   subst e
   rcases hA.two hk with ⟨h1, h2⟩ | ⟨h1, h2⟩
   ·exact hm2 ⟨h1, h2⟩
   ·have := hR.lt _ hm1; omega
  have h1 := (hF.bk _ hb).1 i (List.mem_singleton.2 rfl) k ⟨x, y, c, hA, hkx, hyc.mono fun e he => (by
   obtain ⟨h2, h3⟩ := mem_dropV.1 he
   exact mem_dropV.2 ⟨(mem_dropE2.1 h2).1, h3⟩)⟩
  exact hki (List.mem_singleton.1 h1)
 ·intro hc
  obtain ⟨b, hb, hib⟩ := hF.all i (by omega) (by omega)
  have key : ∀ k, RC E i k → k = (i : Int) := fun k hk => by
   induction hk with
   | refl => rfl
   | @step j k _ hrel ih =>
    rw [ih] at hrel
    obtain ⟨p, c, d, h1, h2, h3⟩ := hrel
    refine Classical.byContradiction fun hne => ?_
    have hpd : Cn (dropE2 E x y) p d := by
     obtain ⟨q, hq, eq, h4⟩ := h2
     have h5 : At E k E[q].f0 E[q].f1 := ⟨q, hq, eq, .inl ⟨rfl, rfl⟩⟩
     have h6 := at_same hR hA h5 hne hlt (List.getElem_mem hq)
     rcases h4 with ⟨h7, h8⟩ | ⟨h7, h8⟩
     ·rw [← h7, ← h8]; exact .fwd _ h6 (.refl _)
     ·rw [← h7, ← h8]; exact .bwd _ h6 (.refl _)
    have hcd : Cn (dropE2 E x y) c d := h3.mono fun e he => by
     obtain ⟨h4, h5, h6⟩ := mem_dropV.1 he
     refine mem_dropE2.2 ⟨h4, fun h7 => ?_⟩
     rcases hA.two h1 with ⟨h8, -⟩ | ⟨h8, -⟩
     ·exact h5 (h7.1.trans h8.symm)
     ·exact h6 (h7.2.trans h8.symm)
    rcases hA.two h1 with ⟨h8, h9⟩ | ⟨h8, h9⟩
    ·subst h8; subst h9; exact hc (hpd.trans hcd.symm)
    ·subst h8; subst h9; exact hc (hcd.trans hpd.symm)
  have hb2 : b = [(i : Int)] := up_eq (hF.bl b hb).2 (List.pairwise_singleton _ _) (fun z => by
   rw [List.mem_singleton]
   exact ⟨fun hz => key z ((hF.bk b hb).2 i hib z hz), fun hz => by rw [hz]; exact hib⟩)
  rw [← hb2]; exact hb
end
section
variable {N : Nat} {E : List S43}
theorem RC.eq {l : List Int} (h : ∀ i k, Rel E i k → rd l i = rd l k) {i k : Int} (hr : RC E i k) : rd l i = rd l k := by
  induction hr with
  | refl => rfl
  | step _ hr ih => exact ih.trans (h _ _ hr)
end

section
open Go.Sort hiding Below
theorem reps_ints {l : List Int} {inner : List Value} {w : World} {base : Nat} {ok : Nat → Prop} (h : Reps ((Kd.int .i64).M w base ok) 1 l inner) : inner = l.map (.int .i64) := by
 apply List.ext_getElem?
 intro t
 rcases Nat.lt_or_ge t l.length with ht | ht
 ·have h2 := h.2 t l[t] (by simp [ht])
  have h3 : ((inner.drop (t * 1)).take 1)[0]? = inner[t]? := by rw [List.getElem?_take_of_lt (by omega), List.getElem?_drop]; simp
  have h4 : (inner.drop (t * 1)).take 1 = [.int .i64 l[t]] := h2
  rw [← h3, h4]
  simp [ht]
 ·rw [List.getElem?_eq_none (by rw [h.1]; omega), List.getElem?_eq_none (by simpa using ht)]
theorem ints_reps (l : List Int) {w : World} {base : Nat} {ok : Nat → Prop} : Reps ((Kd.int .i64).M w base ok) 1 l (l.map (.int .i64)) := by
 refine ⟨by simp, fun j p hj => ?_⟩
 have hl : j < l.length := by
  rcases Nat.lt_or_ge j l.length with h | h
  ·exact h
  ·rw [List.getElem?_eq_none h] at hj; cases hj
 have e : l[j] = p := by rw [List.getElem?_eq_getElem hl] at hj; exact zOi hj
 show _ = _
 rw [List.drop_eq_getElem_cons (by simp; omega)]
 simp [e]
theorem sortI_held {w : World} {g : Nat} {cur : Array Value} {e : TypeId} {l0 : List Int} (hb : w.heap[g]? = some (.cells cur e (0, 0))) (h4 : cur.toList.take l0.length = l0.map (.int .i64)) : Holds (Value.int .i64) w g 0 l0.toArray := by
 intro j hj
 have hj' : j < l0.length := by simpa using hj
 refine ⟨?_, by simp [World.frozen?, hb]⟩
 have h5 : cur.toList[j]? = some (.int .i64 l0[j]) := by
  have h6 : (cur.toList.take l0.length)[j]? = some (.int .i64 l0[j]) := by rw [h4]; simp [hj']
  rwa [List.getElem?_take_of_lt hj'] at h6
 unfold World.cell?
 rw [Nat.zero_add, hb]
 simp only
 rw [← Array.getElem?_toList, h5]
 simp [hj']
theorem sortI_blk {w : World} {g n : Nat} {os : Array Obj} {cur : Array Value} {e : TypeId} (d : Array Int) (hb : w.heap[g]? = some (.cells cur e (0, 0))) :
  (grow (putRow (Value.int .i64) (Sort.ahead w n) g 0 d) os).heap[g]? = some (.cells (putCells (Value.int .i64) 0 d cur) e (0, 0)) := by
 have hg : g < w.heap.size := (Array.getElem?_eq_some_iff.1 hb).1
 rw [heap_grow_old _ _ (by simpa [putRow, mapBlock, Sort.ahead] using hg)]
 simp [putRow, mapBlock, Sort.ahead, Array.getElem?_modify, hb, onCells]
theorem sortI_grown {w : World} {g n : Nat} {os : Array Obj} (d : Array Int) : w.grownBy (grow (putRow (Value.int .i64) (Sort.ahead w n) g 0 d) os) (some g) := by
 refine ⟨rfl, rfl, rfl, by simp [putRow, mapBlock, Sort.ahead], fun k hk hne => ?_⟩
 rw [heap_grow_old _ _ (by simpa [putRow, mapBlock, Sort.ahead] using hk)]
 have : g ≠ k := fun e => hne (by rw [e])
 simp [putRow, mapBlock, Sort.ahead, Array.getElem?_modify, this]
theorem sortI_take (cur : Array Value) (ts : List Int) (h : ts.length ≤ cur.size) : (putCells (Value.int .i64) 0 ts.toArray cur).toList.take ts.length = ts.map (Value.int .i64) := by
 apply List.ext_getElem?
 intro j
 by_cases hj : j < ts.length
 ·rw [List.getElem?_take_of_lt hj, Array.getElem?_toList]
  simp [putCells, hj, show j < cur.size by omega]
 ·rw [List.getElem?_take_eq_none (by omega), List.getElem?_eq_none (by simp; omega)]
def slices_Sort_int_int.f (l0 : List Int) : Option (List Int) := if l0.length < 4611686018427387904 then some (l0.mergeSort fun x y => decide (x ≤ y)) else none
theorem slices_Sort_int_int.calls (P0_ : Nat → Prop) (u0 : Value) (l0 : List Int) (r : List Int) (w0 w : World) (hB : Below w0.heap.size w0 w) (ho0 : Kd.R (Kd.int .i64) 3 w w0.heap.size P0_ u0 l0) (h : slices_Sort_int_int.f l0 = some r) :
  Calls Try.prog 29 #[u0] w fun e w' => e = .returned (.tuple #[]) ∧ Kd.R (Kd.int .i64) 3 w' w0.heap.size (fun k_ => (P0_ k_ ∨ w.heap.size ≤ k_)) u0 r ∧ Below w0.heap.size w0 w' ∧ Kept w w' (fun k_ => P0_ k_) := by
 unfold slices_Sort_int_int.f at h
 by_cases hl : l0.length < 4611686018427387904
 ·rw [if_pos hl] at h
  obtain rfl := zOi h
  obtain ⟨hok, inner, ⟨hlen, ho⟩, hr⟩ := ho0
  rcases ho with ⟨rfl, h0⟩ | ⟨g, cap, cur, rfl, hg, hb, h1, h2, h3, h4⟩
  ·have : l0 = [] := List.length_eq_zero_iff.1 h0
   subst this
   refine (Try.slices_Sort_int_none none 0 w).mono ?_
   rintro e w' ⟨rfl, rfl⟩
   refine ⟨rfl, ?_, hB, Kept.refl _ _⟩
   have : (([] : List Int).mergeSort fun x y => decide (x ≤ y)) = [] := by simp
   rw [this]
   exact Kd.R_nil _ _ _ _ _
  ·have hblk : g < w.heap.size := (Array.getElem?_eq_some_iff.1 hb).1
   have hin := reps_ints hr
   subst hin
   have hH : Holds (Value.int .i64) w g 0 l0.toArray := by
    intro j hj
    have hj' : j < l0.length := by simpa using hj
    refine ⟨?_, by simp [World.frozen?, hb]⟩
    have h5 : cur.toList[j]? = some (.int .i64 l0[j]) := by
     have h6 : (cur.toList.take (l0.length * 1))[j]? = some (.int .i64 l0[j]) := by
      have h7 : cur.toList.take (l0.length * 1) = l0.map (.int .i64) := h4
      rw [h7]; simp [hj']
     rwa [List.getElem?_take_of_lt (by omega)] at h6
    unfold World.cell?
    rw [Nat.zero_add, hb]
    simp only
    rw [← Array.getElem?_toList, h5]
    simp [hj']
   refine (Try.slices_Sort_int g 0 cap l0 w hH hblk hl).mono ?_
   rintro e w' ⟨rfl, n, os, rfl⟩
   have hsl : (l0.mergeSort fun x y => decide (x ≤ y)).length = l0.length := List.length_mergeSort _
   have hgr : w.grownBy (grow (putRow (Value.int .i64) (Sort.ahead w n) g 0 (l0.mergeSort fun x y => decide (x ≤ y)).toArray) os) (some g) := sortI_grown _
   have hsz : (Kd.int .i64).sz = 1 := rfl
   have hcs : cur.size = cap := by rw [h3, hsz, Nat.mul_one]
   generalize (l0.mergeSort fun x y => decide (x ≤ y)) = m at hsl hgr ⊢
   refine ⟨rfl, ?_, hB.grown hgr hB.size (fun k hk => by cases hk; exact hg), ?_⟩
   ·rw [← hsl]
    refine ⟨fun k hk => ?_, m.map (.int .i64), ⟨by rw [List.length_map, hsz, Nat.mul_one], .inr ⟨g, cap, _, rfl, hg, sortI_blk _ hb, by omega, h2, ?_, ?_⟩⟩, ints_reps _⟩
    ·have : g = k := by simpa [Value.ownBlock] using hk
     exact .inl (this ▸ hok g (by simp [Value.ownBlock]))
    ·rw [hsz, Nat.mul_one]; simp [putCells, hcs]
    ·rw [hsz, Nat.mul_one]; exact sortI_take cur m (by omega)
   ·exact Kept.of_grown hgr (Kept.refl _ _) (fun k hk => .inl (by cases hk; exact hok g (by simp [Value.ownBlock])))
 ·rw [if_neg hl] at h
  cases h
theorem slices_Sort_int_int.row (P0_ : Nat → Prop) (u0 : Value) (l0 : List Int) (base : Nat) (w : World) (ho0 : Kd.R (Kd.int .i64) 3 w base P0_ u0 l0) (hl : l0.length < 4611686018427387904) :
  Calls Try.prog 29 #[u0] w fun e w' => e = .returned (.tuple #[]) ∧ ∃ row, w.grownBy w' row ∧ (∀ k, row = some k → P0_ k ∧ base ≤ k) ∧ Kd.R (Kd.int .i64) 3 w' base P0_ u0 (l0.mergeSort fun x y => decide (x ≤ y)) := by
 obtain ⟨hok, inner, ⟨hlen, ho⟩, hr⟩ := ho0
 rcases ho with ⟨rfl, h0⟩ | ⟨g, cap, cur, rfl, hg, hb, h1, h2, h3, h4⟩
 ·have : l0 = [] := List.length_eq_zero_iff.1 h0
  subst this
  refine (Try.slices_Sort_int_none none 0 w).mono ?_
  rintro e w' ⟨rfl, rfl⟩
  have : (([] : List Int).mergeSort fun x y => decide (x ≤ y)) = [] := by simp
  rw [this]
  exact ⟨rfl, none, ⟨rfl, rfl, rfl, Nat.le_refl _, fun _ _ _ => rfl⟩, fun k hk => by (cases hk), Kd.R_nil _ _ _ _ _⟩
 ·have hblk : g < w.heap.size := (Array.getElem?_eq_some_iff.1 hb).1
  have hin := reps_ints hr
  subst hin
  have hsz : (Kd.int .i64).sz = 1 := rfl
  have hH : Holds (Value.int .i64) w g 0 l0.toArray := sortI_held hb (by rw [hsz, Nat.mul_one] at h4; exact h4)
  refine (Try.slices_Sort_int g 0 cap l0 w hH hblk hl).mono ?_
  rintro e w' ⟨rfl, n, os, rfl⟩
  have hsl : (l0.mergeSort fun x y => decide (x ≤ y)).length = l0.length := List.length_mergeSort _
  have hcs : cur.size = cap := by rw [h3, hsz, Nat.mul_one]
  generalize (l0.mergeSort fun x y => decide (x ≤ y)) = m at hsl ⊢
  have hP : P0_ g := hok g (by simp [Value.ownBlock])
  refine ⟨rfl, some g, sortI_grown _, fun k hk => by (cases hk; exact ⟨hP, hg⟩), ?_⟩
  rw [← hsl]
  refine ⟨fun k hk => ?_, m.map (.int .i64), ⟨by rw [List.length_map, hsz, Nat.mul_one], .inr ⟨g, cap, _, rfl, hg, sortI_blk _ hb, by omega, h2, ?_, ?_⟩⟩, ints_reps _⟩
  ·have : g = k := by simpa [Value.ownBlock] using hk
   exact this ▸ hP
  ·rw [hsz, Nat.mul_one]; simp [putCells, hcs]
  ·rw [hsz, Nat.mul_one]; exact sortI_take cur m (by omega)
end


-- beside graph_Right, parts_arcs, slices_Sort_int_int
def pcArc (met : List Bool) (part : List Int) (a : S51) : Option (List Bool × List Int) :=
 if 0 ≤ a.f0 ∧ a.f0 < (met.length : Int) then (if rdOf false met a.f0 = true then some (met, part) else if part.length < 17592186044416 then some (met.set a.f0.toNat true, part ++ [a.f0]) else none) else none
def pcArcs : List Bool → List Int → List S51 → Option (List Bool × List Int)
 | met, part, [] => some (met, part)
 | met, part, a :: l => (pcArc met part a).bind fun t => pcArcs t.1 t.2 l
def pcBfs (near : List (List S51)) : Nat → List Bool → List Int → Nat → Option (List Bool × List Int)
 | 0, _, _, _ => none
 | k + 1, met, part, at_ => if at_ < part.length then (if 0 ≤ rd part (at_ : Int) ∧ rd part (at_ : Int) < (near.length : Int) ∧ (rd_L3 near (rd part (at_ : Int))).length ≤ 17592186044416 then (pcArcs met part (rd_L3 near (rd part (at_ : Int)))).bind fun t => pcBfs near k t.1 t.2 (at_ + 1) else none) else some (met, part)
def pcAll (near : List (List S51)) (k : Nat) : Nat → Nat → List Bool → List (List Int) → Option (List (List Int))
 | 0, _, _, out => some out
 | d + 1, v, met, out => if v < met.length then (if rdOf false met (v : Int) = true then pcAll near k d (v + 1) met out else (pcBfs near k (met.set v true) [(v : Int)] 0).bind fun t => (slices_Sort_int_int.f t.2).bind fun s => if out.length < 5864062014805 then pcAll near k d (v + 1) t.1 (out ++ [s]) else none) else none
def parts_Components.f (k : Nat) (n : Int) (E : List S43) : Option (List (List Int)) :=
 (graph_Right.f k n E).bind fun q => if q = 0 then (parts_arcs.f k n E).bind fun near => if 0 ≤ n ∧ n ≤ 9223372036854775807 ∧ n.toNat ≤ 281474976710656 then pcAll near k n.toNat 0 (List.replicate n.toNat false) [] else none else some []
theorem pcArc_len {met m : List Bool} {part p : List Int} {a : S51} (h : pcArc met part a = some (m, p)) : m.length = met.length := by
 unfold pcArc at h
 split at h
 ·split at h
  ·cases h; rfl
  ·split at h
   ·cases h; exact List.length_set ..
   ·cases h
 ·cases h
structure PcS (wa W : World) (met : List Bool) (vM vO : Value) (out : List (List Int)) : Prop where
 hB : Below wa.heap.size wa W
 hM : Kd.R Kd.bool 4 W wa.heap.size (fun _ => True) vM met
 hO : Kd.S (Kd.slice 3 (Kd.int .i64)) 33 W wa.heap.size (fun _ => True) vO out
structure PcP (wa W : World) (met : List Bool) (vM : Value) (part : List Int) (vP vO : Value) (out : List (List Int)) : Prop where
 hB : Below wa.heap.size wa W
 hM : Kd.R Kd.bool 4 W wa.heap.size (fun _ => True) vM met
 hP : Kd.R (Kd.int .i64) 3 W wa.heap.size (fun _ => True) vP part
 hO : Kd.S (Kd.slice 3 (Kd.int .i64)) 33 W wa.heap.size (fun k => some k ≠ vP.ownBlock) vO out
theorem PcP.below {wa W W' : World} {met : List Bool} {vM vP vO : Value} {part : List Int} {out : List (List Int)} (h : PcP wa W met vM part vP vO out) (hb : Below W.heap.size W W') : PcP wa W' met vM part vP vO out :=
 ⟨zBt h.hB hb, zRb h.hM hb, zRb h.hP hb, Kd.S_below h.hO hb⟩
theorem PcS.below {wa W W' : World} {met : List Bool} {vM vO : Value} {out : List (List Int)} (h : PcS wa W met vM vO out) (hb : Below W.heap.size W W') : PcS wa W' met vM vO out :=
 ⟨zBt h.hB hb, zRb h.hM hb, Kd.S_below h.hO hb⟩
theorem PcS.put {wa W : World} {met : List Bool} {g n cap : Nat} {vO : Value} {out : List (List Int)} (h : PcS wa W met (.slice (some ⟨g, 0, none⟩) n cap) vO out) (i : Int) : PcS wa (W.setCell ⟨g, i.toNat, none⟩ (.bool true)) (met.set i.toNat true) (.slice (some ⟨g, 0, none⟩) n cap) vO out := by
 obtain ⟨cells, hb⟩ := Kd.R_typed h.hM g (by simp [Value.ownBlock])
 have hg := zRz h.hM g (by simp [Value.ownBlock])
 exact ⟨below_set h.hB hg, (Kd.R_putg h.hM i true).1, Kd.S_set h.hO hb (by decide) _ _⟩
theorem PcP.put {wa W : World} {met : List Bool} {g n cap : Nat} {part : List Int} {vP vO : Value} {out : List (List Int)} (h : PcP wa W met (.slice (some ⟨g, 0, none⟩) n cap) part vP vO out) (i : Int) : PcP wa (W.setCell ⟨g, i.toNat, none⟩ (.bool true)) (met.set i.toNat true) (.slice (some ⟨g, 0, none⟩) n cap) part vP vO out := by
 obtain ⟨cells, hb⟩ := Kd.R_typed h.hM g (by simp [Value.ownBlock])
 have hg := zRz h.hM g (by simp [Value.ownBlock])
 exact ⟨below_set h.hB hg, (Kd.R_putg h.hM i true).1, Kd.R_set h.hP hb (by decide) _ _, Kd.S_set h.hO hb (by decide) _ _⟩
theorem PcP.grown {wa W W1 : World} {met : List Bool} {vM : Value} {part part' : List Int} {vP vP' vO : Value} {out : List (List Int)} (h : PcP wa W met vM part vP vO out) (ho : Kd.R (Kd.int .i64) 3 W1 wa.heap.size (fun _ => True) vP' part') (hb : Below wa.heap.size wa W1) (hg : W.grownBy W1 vP.ownBlock) (hat : vP'.ownBlock = vP.ownBlock ∨ ∃ b, vP'.ownBlock = some b ∧ W.heap.size ≤ b) : PcP wa W1 met vM part' vP' vO out :=
 ⟨hb, Kd.R_over' h.hM (Kd.R_typed h.hP) (by decide) hg, ho, Kd.S_mono (Kd.S_after (ok:=fun _ => True) (Kd.S_mono h.hO (fun _ hk => ⟨trivial, hk⟩)) hg hat) (fun _ hk => hk.2)⟩
theorem pc_len {α : Type} {d : Kd α} {e : Nat} {w : World} {base : Nat} {ok : Nat → Prop} {v : Value} {xs : List α} (h : d.R e w base ok v xs) : xs.length ≤ maxLen := by
 obtain ⟨inner, h1, h2⟩ := Kd.R_own h
 rcases h2 with ⟨h0, _⟩ | ⟨g, cap, cur, _, _, _, hnc, hcm, _⟩ <;> omega
theorem pc_rd51 (l : List S51) (i : Nat) (h : i < l.length) : rd_T51 l (i : Int) = l[i] := by
 unfold rd_T51
 rw [zTn]
 simp [h]
theorem parts_Components.calls (k : Nat) (n : Int) (A0 : Option Addr) (c0 : Nat) (E : List S43) (r : List (List Int)) (w : World) (hr0 : Kd.C k43 w A0 E.length E) (hc0 : E.length ≤ c0) (h : parts_Components.f k n E = some r) :
  Calls Try.prog 11 #[.agg #[.int .i64 n, .slice A0 E.length c0]] w fun e w' => ∃ v0_ : Value, e = .returned v0_ ∧ Kd.S (Kd.slice 3 (Kd.int .i64)) 33 w' w.heap.size (fun _ => True) v0_ r ∧ Below w.heap.size w w' := by
 have hu24 := Try.underlying24
 have hu51 := Try.underlying51
 have HR := zMk hr0
 have HC := zMk hc0
 unfold parts_Components.f at h
 obtain ⟨q, hq, h⟩ := Option.bind_eq_some_iff.1 h
 have HQ := zMk hq
 have HH := zMk h
 clear hr0 hc0 hq h
 go_enter Try.func11, Try.ntmps11
 go_upto_region 1 with (fail)
 have BM := zMk (heap_alloc_new w (.cells #[.int .i64 n, .slice A0 E.length c0] 24))
 have HB := zMk (zBa (Below.refl w.heap.size w) (.cells #[.int .i64 n, .slice A0 E.length c0] 24))
 generalize w.alloc (.cells #[.int .i64 n, .slice A0 E.length c0] 24) = w0 at BM HB ⊢
 obtain ⟨gb, hgb⟩ : ∃ gb, gb = w.heap.size := ⟨_, rfl⟩
 rw [← hgb] at BM ⊢
 clear hgb
 have z0 : w0.cell? ⟨gb, 0, none⟩ = some (.int .i64 n) := (zKc BM.out 0).trans rfl
 have z1 : w0.cell? ⟨gb, 1, none⟩ = some (.slice A0 E.length c0) := (zKc BM.out 1).trans rfl
 go_upto_if 12 with (go_at_call 27; refine (graph_Right.calls k n A0 c0 E q _ (Kd.C_below HR.out HB.out) HC.out HQ.out).mono ?_; rintro e w1 ⟨rfl, hb⟩; have BM1 := zMk (zKb BM.out hb); have HB1 := zMk (zBt HB.out hb); clear hb)
 clear z0 z1 BM HB HQ
 have h := HH.out
 clear HH
 by_cases hq0 : q = 0
 rotate_left
 ·rw [if_neg hq0] at h
  have qb : (q != 0) = true := bne_iff_ne.mpr hq0
  obtain rfl := zOi h
  first | rw [qb] | skip
  go_wp2
  go_ret
  exact ⟨_, rfl, Kd.S_nil _ _ _ _ _, HB1.out⟩
 subst hq0
 rw [if_pos rfl] at h
 have qb : ((0 : Int) != 0) = false := rfl
 first | rw [qb] | skip
 obtain ⟨near, hN, h⟩ := Option.bind_eq_some_iff.1 h
 by_cases hn : 0 ≤ n ∧ n ≤ 9223372036854775807 ∧ n.toNat ≤ 281474976710656
 rotate_left
 ·rw [if_neg hn] at h; cases h
 rw [if_pos hn] at h
 have HN := zMk hN
 have HH := zMk h
 have HNN := zMk hn
 clear hN h hn
 have z0 : w1.cell? ⟨gb, 0, none⟩ = some (.int .i64 n) := (zKc BM1.out 0).trans rfl
 have z1 : w1.cell? ⟨gb, 1, none⟩ = some (.slice A0 E.length c0) := (zKc BM1.out 1).trans rfl
 go_upto_region 4 with (go_at_call 28; refine (parts_arcs.calls k n A0 c0 E near _ (Kd.C_below HR.out HB1.out) HC.out HN.out).mono ?_; rintro e wa ⟨vn, rfl, hs, hb⟩; have BM := zMk (zKb BM1.out hb); have HB := zMk (zBt HB1.out hb); have HS := zMk hs; clear hb hs)
 clear z0 z1 BM1 HB1 HN
 obtain ⟨An, cn, en⟩ := Kd.S_slice HS.out
 subst en
 have HNC := zMk (Kd.S_reads' HS.out).2.2
 clear HS
 have z0 : wa.cell? ⟨gb, 0, none⟩ = some (.int .i64 n) := (zKc BM.out 0).trans rfl
 go_upto_region 5 with ((with_reducible refine gate_dst (N:=17) rfl ?_); refine Kd.R_make Kd.bool _ 4 rfl (N:=17) rfl 36 _ _ rfl n rfl rfl Try.underlying36 (.bool false) 1 info4 rfl (by decide) (by omega) false (ok:=fun _ => True) (okp:=fun _ => True) rfl (fun _ hk => hk) trivial HNN.out.1 (Nat.le_trans (Nat.mul_le_mul_right _ HNN.out.2.2) (by omega)) (Below.refl _ _) (Nat.le_refl _) ?_; intro vM w2 ho hb hg_ hnew_; clear hg_ hnew_; have HM := zMk ho; have HB2 := zMk hb; clear ho hb)
 clear z0
 obtain ⟨nn, rfl⟩ : ∃ nn : Nat, n = (nn : Int) := ⟨n.toNat, by have := HNN.out.1; omega⟩
 have hM := HM.out
 have hh := HH.out
 rw [zTn] at hM hh
 have hnb : nn ≤ 281474976710656 := by have := HNN.out.2.2; rw [zTn] at this; exact this
 clear HM HH HNN
 obtain ⟨AM, cM, eM⟩ := zRs hM
 rw [List.length_replicate] at eM
 subst eM
 have PS := zMk (show PcS wa w2 (List.replicate nn false) (.slice AM nn cM) (.slice none 0 0) [] from ⟨HB2.out, hM, Kd.S_nil _ _ _ _ _⟩)
 have HH := zMk hh
 have HML := zMk (List.length_replicate (n:=nn) (a:=false))
 have HNB := zMk hnb
 have z0 : w2.cell? ⟨gb, 0, none⟩ = some (.int .i64 (nn : Int)) := (zKc (zKb BM.out HB2.out) 0).trans rfl
 generalize List.replicate nn false = met0 at PS HH HML
 clear hM hh hnb HB2
 go_wp2
 clear z0
 go_loopg [2, 20] nn (fun kx s2 s20 wr => ∃ (v : Nat) (met : List Bool) (out : List (List Int)) (vO : Value), s2 = vO ∧ s20 = .int .i64 (v : Int) ∧ v ≤ nn ∧ nn - v ≤ kx ∧ Aside0 (met.length = nn) ∧ Aside0 (PcS wa wr met (.slice AM nn cM) vO out) ∧ Aside0 (pcAll near k (nn - v) v met out = some r))
 case atStart => exact ⟨0, met0, [], .slice none 0 0, rfl, rfl, Nat.zero_le _, Nat.le_refl _, HML, PS, HH⟩
 clear PS HH HML
 obtain ⟨v, met, out, vO, hs2, rfl, hv, hg3, HML, PS, HH⟩ := hrel
 obtain ⟨s2, e2⟩ : ∃ s2 : Value, s2 = vO := ⟨_, rfl⟩
 subst hs2
 subst e2
 by_cases hlt : v < nn
 rotate_left
 ·have h := HH.out
  rw [show nn - v = 0 by omega, pcAll] at h
  obtain rfl := zOi h
  have hvn : ((v : Int) < (nn : Int)) = False := eq_false (by omega)
  clear h HH
  go_wp2
  go_ret
  exact ⟨_, rfl, Kd.S_lower PS.out.hO (zBs HB.out), zBt HB.out PS.out.hB⟩
 have h := HH.out
 clear HH
 rw [show nn - v = (nn - (v + 1)) + 1 by omega, pcAll, if_pos (by rw [HML.out]; exact hlt)] at h
 obtain ⟨gm, cm, em, hgm, hgl, hcl, HG⟩ := Kd.R_form PS.out.hM (by rw [HML.out]; omega)
 injection em with ea en ec
 subst ea
 subst ec
 clear HG hcl en
 have HGM := zMk hgm
 clear hgm hgl
 have p0 : 0 ≤ (v : Int) := Int.natCast_nonneg v
 have q0 : (v : Int) < (nn : Int) := by omega
 obtain ⟨hx, hf⟩ := Kd.R_celln false PS.out.hM (v : Int) p0 q0
 rw [zTn] at hx hf
 have hi64 : wrap64 ((v : Int) + 1) = ((v + 1 : Nat) : Int) := by have := HNB.out; unfold wrap64; omega
 replace p0 := eq_true p0
 replace q0 := eq_true q0
 by_cases hmet : rdOf false met (v : Int) = true
 ·rw [if_pos hmet] at h
  have HH := zMk h
  have hx2 : wr.cell? ⟨gm, v, none⟩ = some (.bool true) := by rw [hx]; exact congrArg (fun z => some (Value.bool z)) hmet
  clear hx h hmet
  go_wp2
  go_roundg (nn - (v + 1))
  case measure => omega
  case rel => exact ⟨v + 1, met, out, s2, rfl, by first | rfl | exact congrArg (Value.int .i64) (by omega) | exact congrArg (Value.int .i64) hi64 | exact congrArg (Value.int .i64) (by simp only [i64_w]; exact hi64), by omega, Nat.le_refl _, HML, PS, HH⟩
 ·rw [if_neg hmet] at h
  have hx2 : wr.cell? ⟨gm, v, none⟩ = some (.bool false) := by rw [hx]; exact congrArg (fun z => some (Value.bool z)) (Bool.eq_false_iff.mpr hmet)
  clear hx hmet
  obtain ⟨⟨m2, p2⟩, hbf, h⟩ := Option.bind_eq_some_iff.1 h
  obtain ⟨s, hso, h⟩ := Option.bind_eq_some_iff.1 h
  by_cases hol : out.length < 5864062014805
  rotate_left
  ·rw [if_neg hol] at h; cases h
  rw [if_pos hol] at h
  have HBF := zMk hbf
  have HSO := zMk hso
  have HOL := zMk hol
  have HH := zMk h
  clear hbf hso hol h
  go_upto_region 10 with (fail)
  have PS2 := zMk (PS.out.put (v : Int))
  rw [zTn] at PS2
  generalize wr.setCell ⟨gm, v, none⟩ (.bool true) = w3 at PS2 ⊢
  have HM2 := zMk (show (met.set v true).length = nn by rw [List.length_set]; exact HML.out)
  generalize met.set v true = met1 at PS2 HBF HM2
  clear hx2 hf PS HML
  go_upto_region 11 with ((with_reducible refine gate_dst (N:=31) rfl ?_); refine Kd.R_lit (Kd.int .i64) _ 3 ?hg (N:=31) ?hd (xs:=([(v : Int)] : List Int)) (inner:=[.int .i64 (v : Int)]) (ok:=fun _ => True) (okp:=fun _ => True) ?hr ?hp (fun _ hk => hk) trivial (Below.refl _ _) (Nat.le_refl _) (by simp) ?_; (case hd => rfl); (case hg => rfl); (case hr => first | (go_simp; done)|(go_simp; rfl)); (case hp => exact (Reps.one (show Kd.M (Kd.int .i64) _ _ _ (v : Int) [.int .i64 (v : Int)] from rfl) (Reps.none _ _))); intro vP w4 ho hb hg_ hnew_; clear hg_ hnew_; have HPR := zMk ho; have HB4 := zMk hb; clear ho hb)
  obtain ⟨AP0, cP0, eP0⟩ := zRs HPR.out
  subst eP0
  have PP := zMk (show PcP wa w4 met1 (.slice (some ⟨gm, 0, none⟩) nn cM) [(v : Int)] (.slice AP0 [(v : Int)].length cP0) s2 out from ⟨zBt PS2.out.hB HB4.out, zRb PS2.out.hM HB4.out, zRl HPR.out (zBs PS2.out.hB), Kd.S_mono (Kd.S_elder' PS2.out.hO (zRz HPR.out) HB4.out) (fun _ hk => hk.2)⟩)
  clear PS2 HPR HB4
  generalize [(v : Int)] = part0 at PP HBF ⊢
  go_wp2
  go_loopg [6, 7] k (fun kq s6 s7 w' => ∃ (met : List Bool) (part : List Int) (AP : Option Addr) (cP : Nat) (at_ : Nat), s6 = .slice AP part.length cP ∧ s7 = .int .i64 (at_ : Int) ∧ Aside0 (met.length = nn) ∧ Aside0 (PcP wa w' met (.slice (some ⟨gm, 0, none⟩) nn cM) part (.slice AP part.length cP) s2 out) ∧ Aside0 (pcBfs near kq met part at_ = some (m2, p2)))
  case atStart => exact ⟨met1, part0, AP0, cP0, 0, rfl, rfl, HM2, PP, HBF⟩
  clear PP HBF HM2
  obtain ⟨met, part, AP, cP, at_, rfl, rfl, HML, PP, HBF⟩ := hrel
  rcases gk with _ | k1
  ·exact absurd HBF.out (by simp [pcBfs])
  have hb := HBF.out
  clear HBF
  rw [pcBfs] at hb
  by_cases hat : at_ < part.length
  rotate_left
  ·rw [if_neg hat] at hb
   obtain ⟨rfl, rfl⟩ : met = m2 ∧ part = p2 := by simpa using hb
   clear hb
   have haf : ((at_ : Int) < (part.length : Int)) = False := eq_false (by omega)
   have PK := zMk (zRm (Kd.R_tight rfl PP.out.hP) (fun _ h_ => h_) : Kd.R (Kd.int .i64) 3 wr wa.heap.size (fun k_ => some k_ = (.slice AP part.length cP : Value).ownBlock) (.slice AP part.length cP) part)
   go_upto_region 22 with (go_at_call 29; refine (slices_Sort_int_int.calls (fun k_ => some k_ = (.slice AP part.length cP : Value).ownBlock) _ part s wa _ PP.out.hB PK.out HSO.out).mono ?_; rintro e w6 ⟨rfl, hR6, hB6, hK6⟩; have RS := zMk hR6; have HB6 := zMk hB6; have KK := zMk hK6; clear hR6 hB6 hK6)
   have RM := zMk (zRm (Kd.R_kept (Kd.R_apart' PP.out.hM (Kd.R_typed PP.out.hP) (by decide)) KK.out (fun k_ hk h => hk.2 h)) (fun _ _ => trivial) : Kd.R Kd.bool 4 w6 wa.heap.size (fun _ => True) (.slice (some ⟨gm, 0, none⟩) nn cM) met)
   have RO := zMk (Kd.S_kept PP.out.hO KK.out (fun k_ hk h => hk h))
   have RA := zMk (Kd.R_reok rfl RS.out (Kd.R_apart' PP.out.hP (Kd.S_typed PP.out.hO) (by decide)).1)
   clear RS PK KK PP
   go_upto_region 23 with ((with_reducible refine gate_builtin (b:=.append) (xs:=#[.tmp 68, .tmp 70]) rfl ?_); at_builtin; refine Kd.S_append (Kd.slice 3 (Kd.int .i64)) (w0:=wa) wa.heap.size rfl (.tmp 68) (.tmp 70) 29 33 (.slice none 0 0) 24 rfl Try.underlying29 info33 rfl (by decide) (by omega) s2 out s [.slice AP part.length cP] (fun _ => True) (fun k_ => some k_ = (.slice AP part.length cP : Value).ownBlock) rfl rfl ?aP (fun k_ hk_ => RA.out.1 k_ hk_.symm) ?aF ?aO ?aB ?aS ?aL ?_; (case aP => exact Kd.M_row (zRm (Kd.R_tight rfl RA.out) (fun _ h_ => h_))); (case aB => exact HB6.out); (case aF => exact (fun _ _ => trivial)); (case aO => exact Kd.S_mono RO.out (fun k_ hk => ⟨trivial, fun e_ => hk e_⟩)); (case aS => exact (zBs HB6.out)); (case aL => have := HOL.out; omega); intro vN w7 ho hb hg hat; have RN := zMk ho; have HB7 := zMk hb; have RM7 := zMk (Kd.R_over' RM.out (Kd.S_typed RO.out) (by decide) hg); clear ho hb hg hat)
   have PN := zMk (show PcS wa w7 met (.slice (some ⟨gm, 0, none⟩) nn cM) vN (out ++ [s]) from ⟨HB7.out, RM7.out, RN.out⟩)
   clear RM RO RA RN RM7 HB7 HB6
   go_wp2
   go_roundg (nn - (v + 1))
   case measure => omega
   case rel => exact ⟨v + 1, met, out ++ [s], vN, rfl, by first | rfl | exact congrArg (Value.int .i64) (by omega) | exact congrArg (Value.int .i64) hi64 | exact congrArg (Value.int .i64) (by simp only [i64_w]; exact hi64), by omega, Nat.le_refl _, HML, PN, HH⟩
  ·rw [if_pos hat] at hb
   by_cases hu : 0 ≤ rd part (at_ : Int) ∧ rd part (at_ : Int) < (near.length : Int) ∧ (rd_L3 near (rd part (at_ : Int))).length ≤ 17592186044416
   rotate_left
   ·rw [if_neg hu] at hb; cases hb
   rw [if_pos hu] at hb
   have HU := zMk hu
   clear hu
   obtain ⟨⟨m3, p3⟩, har, hb⟩ := Option.bind_eq_some_iff.1 hb
   have HAR := zMk har
   have HBF := zMk hb
   clear har hb
   have hat2 : at_ < 9223372036854775807 := by have := pc_len PP.out.hP; have : maxLen ≤ 9223372036854775807 := (by decide); omega
   have hia : wrap64 ((at_ : Int) + 1) = ((at_ + 1 : Nat) : Int) := by unfold wrap64; omega
   have HIA := zMk hia
   clear hia hat2
   have a0 : 0 ≤ (at_ : Int) := Int.natCast_nonneg at_
   have a1 : (at_ : Int) < (part.length : Int) := by omega
   obtain ⟨gp, cp, ep, -, -, -⟩ := Kd.R_form PP.out.hP (by omega)
   injection ep with ea en ec
   subst ea
   subst ec
   clear en
   obtain ⟨hx, hfx⟩ := Kd.R_celln (0 : Int) PP.out.hP (at_ : Int) a0 a1
   rw [zTn] at hx hfx
   obtain ⟨u, hue⟩ : ∃ u, u = rd part (at_ : Int) := ⟨_, rfl⟩
   rw [show rdOf 0 part (at_ : Int) = rd part (at_ : Int) from rfl, ← hue] at hx
   have hu := HU.out
   clear HU
   rw [← hue] at hu HAR
   obtain ⟨adn, Ai, ci, e, hcn, -, hCi⟩ := at_L3 HNC.out u hu.1 hu.2.1
   cases e
   replace hcn := (PP.out.hB.cell (World.block_lt_of_cell? wa _ hcn)).trans hcn
   have hu0 : (0 ≤ u) = True := eq_true hu.1
   have hu1 : (u < (near.length : Int)) = True := eq_true hu.2.1
   have HLM := zMk hu.2.2
   generalize rd_L3 near u = L at HAR hcn hCi HLM
   have HCI := zMk hCi
   clear hCi hue hu
   replace a0 := eq_true a0
   replace a1 := eq_true a1
   go_wp2
   clear hx hfx hcn hu0 hu1 a0 a1
   go_loopg [6, 46] L.length (fun kx s6 s46 w' => ∃ (met : List Bool) (part : List Int) (AP : Option Addr) (cP : Nat) (j : Nat), s6 = .slice AP part.length cP ∧ s46 = .int .i64 (j : Int) ∧ j ≤ L.length ∧ L.length - j ≤ kx ∧ Aside0 (met.length = nn) ∧ Aside0 (PcP wa w' met (.slice (some ⟨gm, 0, none⟩) nn cM) part (.slice AP part.length cP) s2 out) ∧ Aside0 (pcArcs met part (L.drop j) = some (m3, p3)))
   case atStart => exact ⟨met, part, some ⟨gp, 0, none⟩, cP, 0, rfl, rfl, Nat.zero_le _, Nat.le_refl _, HML, PP, HAR⟩
   clear PP HAR HML hat
   obtain ⟨met, part, AP, cP, j, rfl, rfl, hj, hjx, HML, PP, HAR⟩ := hrel
   by_cases hjl : j < L.length
   rotate_left
   ·have ha := HAR.out
    rw [List.drop_eq_nil_of_le (by omega), pcArcs] at ha
    obtain ⟨rfl, rfl⟩ : met = m3 ∧ part = p3 := by simpa using ha
    have hjf : ((j : Int) < (L.length : Int)) = False := eq_false (by omega)
    clear ha HAR
    have hia := HIA.out
    go_wp2
    go_roundg k1
    case measure => omega
    case rel => exact ⟨met, part, AP, cP, at_ + 1, rfl, by first | rfl | exact congrArg (Value.int .i64) (by omega) | exact congrArg (Value.int .i64) hia | exact congrArg (Value.int .i64) (by simp only [i64_w]; exact hia), HML, PP, HBF⟩
   ·have ha := HAR.out
    rw [List.drop_eq_getElem_cons hjl, ← pc_rd51 L j hjl, pcArcs] at ha
    obtain ⟨⟨m4, p4⟩, h1, ha⟩ := Option.bind_eq_some_iff.1 ha
    have HML4 := zMk ((pcArc_len h1).trans HML.out)
    have HAR := zMk ha
    clear ha
    have a0 : 0 ≤ (j : Int) := Int.natCast_nonneg j
    have a1 : (j : Int) < (L.length : Int) := by omega
    obtain ⟨ad, e, hx0, hx1⟩ := at_T51 HCI.out (j : Int) a0 a1
    cases e
    replace hx0 := (PP.out.hB.cell (World.block_lt_of_cell? wa _ hx0)).trans hx0
    replace hx1 := (PP.out.hB.cell (World.block_lt_of_cell? wa _ hx1)).trans hx1
    simp only [zTn] at hx0 hx1
    generalize rd_T51 L (j : Int) = a at hx0 hx1 h1
    have hLm := HLM.out
    have hij : wrap64 ((j : Int) + 1) = ((j + 1 : Nat) : Int) := by unfold wrap64; omega
    have HIJ := zMk hij
    clear hij hLm
    replace a0 := eq_true a0
    replace a1 := eq_true a1
    unfold pcArc at h1
    by_cases hab : 0 ≤ a.f0 ∧ a.f0 < (met.length : Int)
    rotate_left
    ·rw [if_neg hab] at h1; cases h1
    rw [if_pos hab] at h1
    have H1 := zMk h1
    have HAB := zMk hab
    clear h1 hab
    go_upto_region 17 with (fail)
    clear hx0 hx1 a0 a1
    have BE := zMk (heap_alloc_new wr (.cells #[.int .i64 a.f0, .int .i64 a.f1] 51))
    have PP5 := zMk (PP.out.below (zBa (Below.refl wr.heap.size wr) (.cells #[.int .i64 a.f0, .int .i64 a.f1] 51)))
    generalize wr.alloc (.cells #[.int .i64 a.f0, .int .i64 a.f1] 51) = w5 at BE PP5 ⊢
    generalize wr.heap.size = be at BE ⊢
    clear PP
    have hz0 : w5.cell? ⟨be, 0, none⟩ = some (.int .i64 a.f0) := (zKc BE.out 0).trans rfl
    have hz1 : w5.cell? ⟨be, 1, none⟩ = some (.int .i64 a.f1) := (zKc BE.out 1).trans rfl
    have b0 := HAB.out.1
    have b1 : a.f0 < (nn : Int) := by have := HAB.out.2; have := HML.out; omega
    obtain ⟨hy, hfy⟩ := Kd.R_celln false PP5.out.hM a.f0 b0 b1
    replace b0 := eq_true b0
    replace b1 := eq_true b1
    have h1 := H1.out
    clear H1
    by_cases hm : rdOf false met a.f0 = true
    ·rw [if_pos hm] at h1
     obtain ⟨rfl, rfl⟩ : met = m4 ∧ part = p4 := by simpa using h1
     have hy2 : w5.cell? ⟨gm, a.f0.toNat, none⟩ = some (.bool true) := by rw [hy]; exact congrArg (fun z => some (Value.bool z)) hm
     have hij := HIJ.out
     clear hy h1 hm
     go_wp2
     go_roundg (L.length - (j + 1))
     case measure => omega
     case rel => exact ⟨met, part, AP, cP, j + 1, rfl, by first | rfl | exact congrArg (Value.int .i64) (by omega) | exact congrArg (Value.int .i64) hij | exact congrArg (Value.int .i64) (by simp only [i64_w]; exact hij), by omega, Nat.le_refl _, HML, PP5, HAR⟩
    ·rw [if_neg hm] at h1
     by_cases hpl : part.length < 17592186044416
     rotate_left
     ·rw [if_neg hpl] at h1; cases h1
     rw [if_pos hpl] at h1
     obtain ⟨rfl, rfl⟩ : met.set a.f0.toNat true = m4 ∧ part ++ [a.f0] = p4 := by simpa using h1
     have hy2 : w5.cell? ⟨gm, a.f0.toNat, none⟩ = some (.bool false) := by rw [hy]; exact congrArg (fun z => some (Value.bool z)) (Bool.eq_false_iff.mpr hm)
     have HPL := zMk hpl
     clear hy h1 hm hpl
     go_upto_region 19 with (fail)
     have PP6 := zMk (PP5.out.put a.f0)
     have BE6 := zMk (show (w5.setCell ⟨gm, a.f0.toNat, none⟩ (.bool true)).heap[be]? = some (.cells #[.int .i64 a.f0, .int .i64 a.f1] 51 (0, 0)) from by
      obtain ⟨cells, hbm⟩ := Kd.R_typed PP5.out.hM gm (by simp [Value.ownBlock])
      refine (Below.heap_setCell _ _ _ _ ?_).trans BE.out
      rintro rfl
      have h2 := BE.out
      rw [hbm] at h2
      injection h2 with h2
      injection h2 with _ h2
      exact absurd h2 (by decide))
     clear hz0 hz1 hy2 hfy b0 b1 BE PP5
     generalize w5.setCell ⟨gm, a.f0.toNat, none⟩ (.bool true) = w6 at PP6 BE6 ⊢
     have hz0 : w6.cell? ⟨be, 0, none⟩ = some (.int .i64 a.f0) := (zKc BE6.out 0).trans rfl
     have hz1 : w6.cell? ⟨be, 1, none⟩ = some (.int .i64 a.f1) := (zKc BE6.out 1).trans rfl
     have HMS := zMk (show (met.set a.f0.toNat true).length = nn by rw [List.length_set]; exact HML.out)
     generalize met.set a.f0.toNat true = met5 at PP6 HAR HMS HML4
     go_upto_region 20 with ((with_reducible refine gate_builtin (b:=.append) (xs:=#[.tmp 60, .tmp 63]) rfl ?_); at_builtin; refine Kd.R_append (Kd.int .i64) (w0:=wa) wa.heap.size rfl (.tmp 60) (.tmp 63) 33 3 (.int .i64 0) 8 rfl Try.underlying33 info3 rfl (by decide) (by omega) (.slice AP part.length cP) part a.f0 [.int .i64 a.f0] (fun _ => True) (fun _ => False) rfl rfl ?aP (fun _ hk => hk.elim) ?aF ?aO ?aB ?aS ?aL ?_; (case aP => exact rfl); (case aB => exact PP6.out.hB); (case aF => exact (fun _ _ => trivial)); (case aO => exact PP6.out.hP); (case aS => exact (zBs PP6.out.hB)); (case aL => have := HPL.out; omega); intro vQ w7 ho hb hg hat; have RQ := zMk ho; have PQ := zMk (PP6.out.grown ho hb hg hat); clear ho hb hg hat)
     obtain ⟨AQ, cQ, eQ⟩ := zRs RQ.out
     subst eQ
     clear RQ PP6 BE6 hz0 hz1
     generalize part ++ [a.f0] = partn at PQ HAR ⊢
     have hij := HIJ.out
     go_wp2
     go_roundg (L.length - (j + 1))
     case measure => omega
     case rel => exact ⟨met5, partn, AQ, cQ, j + 1, rfl, by first | rfl | exact congrArg (Value.int .i64) (by omega) | exact congrArg (Value.int .i64) hij | exact congrArg (Value.int .i64) (by simp only [i64_w]; exact hij), by omega, Nat.le_refl _, HMS, PQ, HAR⟩


def parts_Bridges.l0 : Nat → List Int → List (List Int) → Int → Int → Option (List Int)
 | 0, _, _, _, _ => none
 | k + 1, x2, x6, x7, x8 => if x8 < x7 then (if 0 ≤ x8 then (if x8 < (x6.length : Int) then (if ((rd_L4 x6 x8).length : Int) = 1 then (if 0 < ((rd_L4 x6 x8).length : Int) then (if x2.length < 17592186044416 then (parts_Bridges.l0 k (x2 ++ [rd (rd_L4 x6 x8) 0]) x6 x7 (wrap64 (x8 + 1))) else (none)) else (none)) else (parts_Bridges.l0 k x2 x6 x7 (wrap64 (x8 + 1)))) else (none)) else (none)) else (some x2)
def parts_Bridges.f (k : Nat) (a0_0 : Int) (l0_1 : List (S43)) : Option (List Int) := (parts_Blocks.f k a0_0 l0_1).bind fun t277 => (parts_Bridges.l0 k ([] : List Int) t277 (t277.length : Int) 0)
theorem parts_Bridges.calls (k : Nat) (a0_0 : Int) (A0_1 : Option Addr) (c0_1 : Nat) (l0_1 : List (S43)) (r : List Int) (w : World) (hr0_1 : Kd.C k43 w A0_1 l0_1.length l0_1) (hc0_1 : l0_1.length ≤ c0_1) (h : parts_Bridges.f k a0_0 l0_1 = some r) :
  Calls Try.prog 15 #[.agg #[.int .i64 a0_0, .slice A0_1 l0_1.length c0_1]] w fun e w' => ∃ v0_ : Value, e = .returned (v0_) ∧ Kd.R (Kd.int .i64) 3 w' w.heap.size (fun _ => True) v0_ r ∧ Below w.heap.size w w' := by
 have hu24 := Try.underlying24
 have HR0_1 := zMk hr0_1
 have HC0_1 := zMk hc0_1
 clear hr0_1 hc0_1
 have HB := zMk (Below.refl w.heap.size w)
 have H : ((parts_Blocks.f k a0_0 l0_1).bind fun t277 => (parts_Bridges.l0 k ([] : List Int) t277 (t277.length : Int) 0)) = some r := h
 clear h
 replace H := bnd H
 obtain ⟨t277, A20, H⟩ := H
 have A2 := zMk A20
 clear A20
 have H' := zMk H
 clear H
 go_enter Try.func15, Try.ntmps15
 go_wp2_with (first | ((with_reducible refine gate_dst (N:=1) rfl ?_); refine box_event ?hg (N:=1) ?hd (cs:=#[.int .i64 a0_0, .slice A0_1 l0_1.length c0_1]) (t:=24) ?hr ?_; (case hd => rfl); (case hg => rfl); (case hr => first | (go_simp; done)|(go_simp; rfl)|(go_simp; rw [show ∀ x : Int, IntKind.u32.wrap (IntKind.u8.wrap x) = x % 256 from fun x => (by show (x % 256) % 4294967296 = x % 256; omega)])); intro gb276 hg w3 hbox hb; have BK276 := zMk (hbox); have GW276 := zMk ((by rw [hg]; exact (zBs (by exact uT HB.out)) : w.heap.size ≤ gb276)); have GE276 := zMk ((by rw [hg]; exact (zBs (by exact uT HB.out)) : w.heap.size ≤ gb276)); have IGE276 := ownGe GE276.out; replace HB := zMk (zBt (by exact uT HB.out) hb); clear hb hbox hg; have hcz4_0 : w3.cell? ⟨gb276, 0, none⟩ = some (.int .i64 a0_0) := (zKc BK276.out 0).trans rfl; have hcz4_1 : w3.cell? ⟨gb276, 1, none⟩ = some (.slice A0_1 l0_1.length c0_1) := (zKc BK276.out 1).trans rfl; have hfz4_0 := zKf BK276.out 0; have hfz4_1 := zKf BK276.out 1)|((with_reducible refine gate_callee (f:=19) rfl ?_); refine goesL_ (some 6) rfl rfl Try.func19 (by kernel_rfl) rfl #[.agg #[.int .i64 a0_0, .slice A0_1 l0_1.length c0_1]] rfl (by (try simp only [zMa, zMc, zMn]); first |  done|  rfl|  (simp only [zLd, zLt]; rfl)) ?_; (with_reducible refine (parts_Blocks.calls k a0_0 _ _ l0_1 t277 _ ?side1 ?side2 A2.out).mono ?_); (case side1 => repeat (first |  exact (Kd.C_below HR0_1.out HB.out)|(with_reducible refine zCa ?_ _)|(with_reducible refine zCn ?_ _)|(with_reducible refine zCd ?_))); (case side2 => exact HC0_1.out); rintro e w5 ⟨v278, rfl, ho0, hb⟩; refine ⟨_, rfl, ?_⟩; have HO279 := zMk (Kd.S_lower ho0 (zBs (by exact uT HB.out))); replace BK276 := zMk (zKb (g:=gb276) (o:=.cells #[.int .i64 a0_0, .slice A0_1 l0_1.length c0_1] 24 (0, 0)) (by (with_reducible repeat (first |  refine zKn ?_ _|  refine zKd ?_|  refine zKa ?_ _)); exact BK276.out) hb); replace HB := zMk (zBt (by exact uT HB.out) hb); obtain ⟨Ao6, co6, eo6⟩ := Kd.S_slice HO279.out; subst eo6))
 go_loopg [2, 8] k (fun kq v2 v8 w' => ∃ (x2_1 : List Int) (x8_1 : Int), v8 = .int .i64 x8_1 ∧ Aside0 (parts_Bridges.l0 kq x2_1 t277 (t277.length : Int) x8_1 = some r) ∧ Aside0 (kq ≤ k) ∧ Aside0 (Kd.R (Kd.int .i64) 3 w' w.heap.size (fun _ => True) v2 x2_1) ∧ Aside0 (Kd.S (Kd.slice 3 (Kd.int .i64)) 33 w' w.heap.size (fun k_ => some k_ ≠ (v2 : Value).ownBlock) (.slice Ao6 t277.length co6) t277) ∧ Aside0 (w'.heap[gb276]? = some (.cells #[.int .i64 a0_0, (.slice A0_1 l0_1.length c0_1)] 24 (0, 0))) ∧ Aside0 (Below w.heap.size w w'))
 case atStart => exact ⟨(([] : List Int)), (0), (by first | rfl | (simp; done) | (simp [*]; done)), H', ⟨Nat.le_refl _⟩, ⟨by first | exact Kd.R_nil _ _ _ _ _ | exact Kd.N_nil _ _ _ _ _ | exact Kd.V_nil _ _ _ _ _ | exact Kd.Q_nil _ _ _ _ _ | exact Kd.S_nil _ _ _ _ _⟩, ⟨by (with_reducible repeat (first | apply Kd.S_alloc | apply Kd.S_drewN | apply Kd.S_drew)); exact Kd.S_mono HO279.out (fun _ hk => (by simp [Value.ownBlock]))⟩, ⟨by (with_reducible repeat (first | refine zKn ?_ _ | refine zKd ?_ | refine zKa ?_ _)); exact BK276.out⟩, ⟨by exact uT HB.out⟩⟩
 clear H'
 obtain ⟨x2_1, x8_1, rfl, HA, HK1, HO_2, HO_6, BK276, HB⟩ := hrel
 rcases gk with _ | k1
 ·exact absurd HA.out (by simp [parts_Bridges.l0])
 have H := HA.out
 clear HA
 simp only [parts_Bridges.l0] at H
 by_cases c7 : x8_1 < (t277.length : Int)
 ·rw [if_pos c7] at H
  have c7b0 : decide (x8_1 < (t277.length : Int)) = true := decide_eq_true c7
  clear c7
  by_cases c8 : 0 ≤ x8_1
  rotate_left
  ·rw [if_neg c8] at H; exact absurd H (by simp)
  rw [if_pos c8] at H
  have c8b0 : decide (0 ≤ x8_1) = true := decide_eq_true c8
  clear c8
  by_cases c9 : x8_1 < (t277.length : Int)
  rotate_left
  ·rw [if_neg c9] at H; exact absurd H (by simp)
  rw [if_pos c9] at H
  have c9b0 : decide (x8_1 < (t277.length : Int)) = true := decide_eq_true c9
  clear c9
  by_cases c10 : ((rd_L4 t277 x8_1).length : Int) = 1
  ·rw [if_pos c10] at H
   have c10b0 : (((rd_L4 t277 x8_1).length : Int) == 1) = true := beq_iff_eq.mpr c10
   have c10b1 : (((rd_L4 t277 x8_1).length : Int) != 1) = false := bne_eq_false_iff_eq.mpr c10
   clear c10
   by_cases c11 : 0 < ((rd_L4 t277 x8_1).length : Int)
   rotate_left
   ·rw [if_neg c11] at H; exact absurd H (by simp)
   rw [if_pos c11] at H
   have c11b0 : decide (0 < ((rd_L4 t277 x8_1).length : Int)) = true := decide_eq_true c11
   have c11b1 : decide (0 < (rd_L4 t277 x8_1).length) = true := decide_eq_true (by omega)
   clear c11
   by_cases c12 : x2_1.length < 17592186044416
   rotate_left
   ·rw [if_neg c12] at H; exact absurd H (by simp)
   rw [if_pos c12] at H
   have LMc12 := zMk c12
   clear c12
   obtain ⟨y282, hy282⟩ : ∃ y_ : List Int, y_ = (x2_1 ++ [rd (rd_L4 t277 x8_1) 0]) := ⟨_, rfl⟩
   replace H : (parts_Bridges.l0 k1 y282 t277 (t277.length : Int) (wrap64 (x8_1 + 1))) = some r := by first | (rw [hy282]; with_reducible exact H) | (have H2_ := bsm H; first | (rw [hy282]; with_reducible exact H2_) | with_reducible exact H2_) | with_reducible exact H | (rw [hy282]; exact H) | exact H
   have Ny282 := zMk hy282
   clear hy282
   have H' := zMk H
   clear H
   have p280 : 0 ≤ (x8_1 : Int) := of_decide_eq_true (by assumption)
   have q280 : x8_1 < (t277.length : Int) := of_decide_eq_true (by assumption)
   obtain ⟨ad280, A280_0, c280_0, e280, hx280_0, hl280_0, hi280_0⟩ := at_L4 (Kd.S_reads' HO_6.out).2.2 x8_1 p280 q280
   cases e280
   obtain ⟨ce280, hce280, hMe280, hcc280⟩ := Kd.S_get HO_6.out [] x8_1 p280 (by first | exact q280 | exact of_decide_eq_true (by assumption) | (have e_ := (Kd.S_reads' HO_6.out).1; omega))
   obtain ⟨ve280_0, rfl, ge280_0⟩ := hMe280
   have hv280_0 := hcc280 0 _ rfl
   rw [Nat.add_zero, show ((Kd.slice 3 (Kd.int .i64))).sz = 1 from rfl, Nat.mul_one] at hv280_0
   replace hv280_0 := zOi (hv280_0.symm.trans hx280_0)
   rw [hv280_0] at ge280_0
   have HL280_0 := zMk (show Kd.R (Kd.int .i64) 3 _ _ _ _ (rd_L4 t277 x8_1) from ge280_0)
   clear hv280_0 ge280_0 hcc280 hce280
   have HR280_0 := zMk hi280_0
   have HC280_0 := zMk hl280_0
   clear hi280_0 hl280_0
   replace p280 := eq_true p280
   replace q280 := eq_true q280
   have p281 : 0 ≤ (0 : Int) := (by omega)
   have q281 : 0 < ((rd_L4 t277 x8_1).length : Int) := of_decide_eq_true (by assumption)
   obtain ⟨ad281, e281, hx281_0⟩ := zAi (by repeat (first | (with_reducible exact HR280_0.out) | (with_reducible refine zCa ?_ _) | (with_reducible refine zCn ?_ _) | (with_reducible refine zCd ?_) | exact HR280_0.out)) 0 p281 q281
   cases e281
   have qi281 : (0 < (rd_L4 t277 x8_1).length) = True := eq_true (by omega)
   (try rw [show ((0 : Int)).toNat = 0 from rfl] at hx281_0)
   (try rw [Addr.add_zero'] at hx281_0)
   replace p281 := eq_true p281
   replace q281 := eq_true q281
   go_wp2_with (first | ((with_reducible refine gate_builtin (b:=.append) (xs:=#[.tmp 15, .tmp 19]) rfl ?_); at_builtin; refine Kd.R_append (Kd.int .i64) (w0:=w) w.heap.size rfl (.tmp 15) (.tmp 19) 33 3 (.int .i64 0) 8 rfl Try.underlying33 info3 rfl (by decide) (by omega) u2 x2_1 (rd (rd_L4 t277 x8_1) 0) [.int .i64 (rd (rd_L4 t277 x8_1) 0)] (fun _ => True) (fun _ => False) rfl rfl ?aP (fun _ hk => hk.elim) ?aF ?aO ?aB ?aS ?aL ?_; (case aP => exact rfl); (case aB => exact (by exact uT HB.out)); (case aF => exact (fun _ _ => trivial)); (case aO => exact (by exact uR HO_2.out)); (case aS => exact (zBs (by exact uT HB.out))); (case aL => have := LMc12.out; omega); intro v283 w13 ho hb hg hat; rw [← Ny282.out] at ho; replace HO_6 := zMk (Kd.S_after (ok:=(fun _ => True)) (by (with_reducible repeat (first |  apply Kd.S_alloc|  apply Kd.S_drewN|  apply Kd.S_drew)); exact Kd.S_mono HO_6.out (fun _ hk => ⟨trivial, hk⟩)) hg hat); replace BK276 := zMk (blk_grown (g:=gb276) (o:=.cells #[.int .i64 a0_0, .slice A0_1 l0_1.length c0_1] 24 (0, 0)) (by (with_reducible repeat (first |  refine zKn ?_ _|  refine zKd ?_|  refine zKa ?_ _)); exact BK276.out) hg (Kd.R_ne HO_2.out BK276.out (by decide))); replace HL280_0 := zMk (Kd.R_after (ok:=(fun k_ => some k_ ≠ (.slice (some ad280) t277.length co6 : Value).ownBlock)) (by (with_reducible repeat (first |  apply zRa|  apply zRn|  apply zRd)); exact zRm HL280_0.out (fun _ hk => ⟨hk.2, hk.1⟩)) hg hat); replace HB := zMk (hb); have HO284 := zMk (ho); clear HO_2 ho hb hg hat))
   go_roundg k1
   case measure => have := HK1.out; omega
   case rel => exact ⟨(y282), (wrap64 (x8_1 + 1)), (by first | rfl | (simp; done) | (simp [*]; done)), H', ⟨by have := HK1.out; omega⟩, ⟨by exact uR HO284.out⟩, ⟨by (with_reducible repeat (first | apply Kd.S_alloc | apply Kd.S_drewN | apply Kd.S_drew)); exact Kd.S_mono HO_6.out (fun _ hk => hk.2)⟩, ⟨by (with_reducible repeat (first | refine zKn ?_ _ | refine zKd ?_ | refine zKa ?_ _)); exact BK276.out⟩, ⟨by exact uT HB.out⟩⟩
  ·rw [if_neg c10] at H
   have c10b0 : (((rd_L4 t277 x8_1).length : Int) == 1) = false := beq_eq_false_iff_ne.mpr c10
   have c10b1 : (((rd_L4 t277 x8_1).length : Int) != 1) = true := bne_iff_ne.mpr c10
   have H' := zMk H
   clear H
   have p280 : 0 ≤ (x8_1 : Int) := of_decide_eq_true (by assumption)
   have q280 : x8_1 < (t277.length : Int) := of_decide_eq_true (by assumption)
   obtain ⟨ad280, A280_0, c280_0, e280, hx280_0, hl280_0, hi280_0⟩ := at_L4 (Kd.S_reads' HO_6.out).2.2 x8_1 p280 q280
   cases e280
   obtain ⟨ce280, hce280, hMe280, hcc280⟩ := Kd.S_get HO_6.out [] x8_1 p280 (by first | exact q280 | exact of_decide_eq_true (by assumption) | (have e_ := (Kd.S_reads' HO_6.out).1; omega))
   obtain ⟨ve280_0, rfl, ge280_0⟩ := hMe280
   have hv280_0 := hcc280 0 _ rfl
   rw [Nat.add_zero, show ((Kd.slice 3 (Kd.int .i64))).sz = 1 from rfl, Nat.mul_one] at hv280_0
   replace hv280_0 := zOi (hv280_0.symm.trans hx280_0)
   rw [hv280_0] at ge280_0
   have HL280_0 := zMk (show Kd.R (Kd.int .i64) 3 _ _ _ _ (rd_L4 t277 x8_1) from ge280_0)
   clear hv280_0 ge280_0 hcc280 hce280
   have HR280_0 := zMk hi280_0
   have HC280_0 := zMk hl280_0
   clear hi280_0 hl280_0
   replace p280 := eq_true p280
   replace q280 := eq_true q280
   go_wp2
   go_roundg k1
   case measure => have := HK1.out; omega
   case rel => exact ⟨(x2_1), (wrap64 (x8_1 + 1)), (by first | rfl | (simp; done) | (simp [*]; done)), H', ⟨by have := HK1.out; omega⟩, ⟨by exact uR HO_2.out⟩, ⟨by (with_reducible repeat (first | apply Kd.S_alloc | apply Kd.S_drewN | apply Kd.S_drew)); exact HO_6.out⟩, ⟨by (with_reducible repeat (first | refine zKn ?_ _ | refine zKd ?_ | refine zKa ?_ _)); exact BK276.out⟩, ⟨by exact uT HB.out⟩⟩
 ·rw [if_neg c7] at H
  have c7b0 : decide (x8_1 < (t277.length : Int)) = false := decide_eq_false c7
  clear c7
  obtain rfl := zOi H
  go_wp2
  go_ret
  exact ⟨_, by first | rfl | (simp [errW_none, errW_some] <;> rfl) | (simp [*, errW_none, errW_some] <;> rfl), by exact uR HO_2.out, by exact uT HB.out⟩


def w6_alive.f (k : Nat)  : Option (Bool) := (some (([(⟨0, 1, 0⟩ : S43), (⟨0, 2, 0⟩ : S43), (⟨1, 2, 0⟩ : S43), (⟨2, 3, 0⟩ : S43), (⟨2, 4, 0⟩ : S43), (⟨3, 4, 0⟩ : S43)] : List (S43)) : List (S43))).bind fun y287 => ((parts_Components.f k 5 y287).bind fun t291 => (if (t291.length : Int) = 1 then ((parts_Cuts.f k 5 y287).bind fun t294 => ((r4_Ints.f k t294 (([2] : List Int))).bind fun t300 => (if t300 = true then ((parts_Bridges.f k 5 y287).bind fun t301 => (if (t301.length : Int) = 0 then ((parts_Blocks.f k 5 y287).bind fun t304 => (some ((t304.length : Int) == 2))) else (some false))) else (some false)))) else (some false)))
theorem w6_alive.calls (k : Nat)  (r : Bool) (w : World) (h : w6_alive.f k  = some r) :
  Calls Try.prog 9 #[] w fun e w' => e = .returned (.bool r) ∧ Below w.heap.size w w' := by
 have hu43 := Try.underlying43
 have hu24 := Try.underlying24
 have HB := zMk (Below.refl w.heap.size w)
 have H : ((some (([(⟨0, 1, 0⟩ : S43), (⟨0, 2, 0⟩ : S43), (⟨1, 2, 0⟩ : S43), (⟨2, 3, 0⟩ : S43), (⟨2, 4, 0⟩ : S43), (⟨3, 4, 0⟩ : S43)] : List (S43)) : List (S43))).bind fun y287 => ((parts_Components.f k 5 y287).bind fun t291 => (if (t291.length : Int) = 1 then ((parts_Cuts.f k 5 y287).bind fun t294 => ((r4_Ints.f k t294 (([2] : List Int))).bind fun t300 => (if t300 = true then ((parts_Bridges.f k 5 y287).bind fun t301 => (if (t301.length : Int) = 0 then ((parts_Blocks.f k 5 y287).bind fun t304 => (some ((t304.length : Int) == 2))) else (some false))) else (some false)))) else (some false)))) = some r := h
 clear h
 obtain ⟨y287, hy287⟩ : ∃ y_ : List (S43), y_ = (([(⟨0, 1, 0⟩ : S43), (⟨0, 2, 0⟩ : S43), (⟨1, 2, 0⟩ : S43), (⟨2, 3, 0⟩ : S43), (⟨2, 4, 0⟩ : S43), (⟨3, 4, 0⟩ : S43)] : List (S43))) := ⟨_, rfl⟩
 replace H : ((parts_Components.f k 5 y287).bind fun t291 => (if (t291.length : Int) = 1 then ((parts_Cuts.f k 5 y287).bind fun t294 => ((r4_Ints.f k t294 (([2] : List Int))).bind fun t300 => (if t300 = true then ((parts_Bridges.f k 5 y287).bind fun t301 => (if (t301.length : Int) = 0 then ((parts_Blocks.f k 5 y287).bind fun t304 => (some ((t304.length : Int) == 2))) else (some false))) else (some false)))) else (some false))) = some r := by first | (rw [hy287]; with_reducible exact H) | (have H2_ := bsm H; first | (rw [hy287]; with_reducible exact H2_) | with_reducible exact H2_) | with_reducible exact H | (rw [hy287]; exact H) | exact H
 have Ny287 := zMk hy287
 clear hy287
 replace H := bnd H
 obtain ⟨t291, A10, H⟩ := H
 have A1 := zMk A10
 clear A10
 by_cases c2 : (t291.length : Int) = 1
 ·rw [if_pos c2] at H
  have c2b0 : ((t291.length : Int) == 1) = true := beq_iff_eq.mpr c2
  have c2b1 : ((t291.length : Int) != 1) = false := bne_eq_false_iff_eq.mpr c2
  clear c2
  replace H := bnd H
  obtain ⟨t294, A30, H⟩ := H
  have A3 := zMk A30
  clear A30
  obtain ⟨y297, hy297⟩ : ∃ y_ : List Int, y_ = (([2] : List Int)) := ⟨_, rfl⟩
  replace H : ((r4_Ints.f k t294 y297).bind fun t300 => (if t300 = true then ((parts_Bridges.f k 5 y287).bind fun t301 => (if (t301.length : Int) = 0 then ((parts_Blocks.f k 5 y287).bind fun t304 => (some ((t304.length : Int) == 2))) else (some false))) else (some false))) = some r := by first | (rw [hy297]; with_reducible exact H) | (have H2_ := bsm H; first | (rw [hy297]; with_reducible exact H2_) | with_reducible exact H2_) | with_reducible exact H | (rw [hy297]; exact H) | exact H
  have Ny297 := zMk hy297
  clear hy297
  replace H := bnd H
  obtain ⟨t300, A40, H⟩ := H
  have A4 := zMk A40
  clear A40
  by_cases c5 : t300 = true
  ·subst c5
   replace H : ((parts_Bridges.f k 5 y287).bind fun t301 => (if (t301.length : Int) = 0 then ((parts_Blocks.f k 5 y287).bind fun t304 => (some ((t304.length : Int) == 2))) else (some false))) = some r := by rw [if_pos rfl] at H; exact H
   replace H := bnd H
   obtain ⟨t301, A60, H⟩ := H
   have A6 := zMk A60
   clear A60
   by_cases c7 : (t301.length : Int) = 0
   ·rw [if_pos c7] at H
    have c7b0 : ((t301.length : Int) == 0) = true := beq_iff_eq.mpr c7
    have c7b1 : ((t301.length : Int) != 0) = false := bne_eq_false_iff_eq.mpr c7
    clear c7
    replace H := bnd H
    obtain ⟨t304, A80, H⟩ := H
    have A8 := zMk A80
    clear A80
    obtain rfl := zOi H
    go_enter Try.func9, Try.ntmps9
    go_wp2_with (first | ((with_reducible refine gate_dst (N:=8) rfl ?_); (try (refine gate_guard (by rfl) ?_; dsimp only)); refine Kd.R_lit k43 _ 43 ?hg (N:=8) ?hd (xs:=([(⟨0, 1, 0⟩ : S43), (⟨0, 2, 0⟩ : S43), (⟨1, 2, 0⟩ : S43), (⟨2, 3, 0⟩ : S43), (⟨2, 4, 0⟩ : S43), (⟨3, 4, 0⟩ : S43)] : List (S43))) (inner:=[.int .i64 0, .int .i64 1, .int .i64 0, .int .i64 0, .int .i64 2, .int .i64 0, .int .i64 1, .int .i64 2, .int .i64 0, .int .i64 2, .int .i64 3, .int .i64 0, .int .i64 2, .int .i64 4, .int .i64 0, .int .i64 3, .int .i64 4, .int .i64 0]) (ok:=fun _ => True) (okp:=fun _ => True) ?hr ?hp (fun _ hk => hk) trivial (Below.refl _ _) (Nat.le_refl _) (by simp) ?_; (case hd => rfl); (case hg => rfl); (case hr => first | (go_simp; done)|(go_simp; rfl)|(go_simp; rw [show ∀ x : Int, IntKind.u32.wrap (IntKind.u8.wrap x) = x % 256 from fun x => (by show (x % 256) % 4294967296 = x % 256; omega)])); (case hp => exact (Reps.c3 (show Kd.M k43 _ _ _ (⟨0, 1, 0⟩ : S43) [.int .i64 0, .int .i64 1, .int .i64 0] from (k43_mkM _ _ _ (⟨0, 1, 0⟩ : S43) )) (Reps.c3 (show Kd.M k43 _ _ _ (⟨0, 2, 0⟩ : S43) [.int .i64 0, .int .i64 2, .int .i64 0] from (k43_mkM _ _ _ (⟨0, 2, 0⟩ : S43) )) (Reps.c3 (show Kd.M k43 _ _ _ (⟨1, 2, 0⟩ : S43) [.int .i64 1, .int .i64 2, .int .i64 0] from (k43_mkM _ _ _ (⟨1, 2, 0⟩ : S43) )) (Reps.c3 (show Kd.M k43 _ _ _ (⟨2, 3, 0⟩ : S43) [.int .i64 2, .int .i64 3, .int .i64 0] from (k43_mkM _ _ _ (⟨2, 3, 0⟩ : S43) )) (Reps.c3 (show Kd.M k43 _ _ _ (⟨2, 4, 0⟩ : S43) [.int .i64 2, .int .i64 4, .int .i64 0] from (k43_mkM _ _ _ (⟨2, 4, 0⟩ : S43) )) (Reps.c3 (show Kd.M k43 _ _ _ (⟨3, 4, 0⟩ : S43) [.int .i64 3, .int .i64 4, .int .i64 0] from (k43_mkM _ _ _ (⟨3, 4, 0⟩ : S43) )) (Reps.none _ _)))))))); intro v288 w9 ho10 hb hg_ hnew_; clear hg_ hnew_; (first |  rw [← Ny287.out] at ho10|  (simp only [Int.reduceToNat] at ho10; rw [← Ny287.out] at ho10)); have HO289 := zMk (zRl ho10 (zBs (by exact uT HB.out))); replace HB := zMk (zBt (by exact uT HB.out) hb); clear hb ho10; obtain ⟨Ao11, co11, eo11⟩ := zRs HO289.out; subst eo11)|((with_reducible refine gate_dst (N:=1) rfl ?_); (try (refine gate_guard (by rfl) ?_; dsimp only)); refine box_event ?hg (N:=1) ?hd (cs:=#[.int .i64 0, .slice none 0 0]) (t:=24) ?hr ?_; (case hd => rfl); (case hg => rfl); (case hr => first | (go_simp; done)|(go_simp; rfl)|(go_simp; rw [show ∀ x : Int, IntKind.u32.wrap (IntKind.u8.wrap x) = x % 256 from fun x => (by show (x % 256) % 4294967296 = x % 256; omega)])); intro gb290 hg w12 hbox hb; replace HO289 := zMk (zRb (by exact uR HO289.out) hb); have BK290 := zMk (hbox); have GW290 := zMk ((by rw [hg]; exact (zBs (by exact uT HB.out)) : w.heap.size ≤ gb290)); have GE290 := zMk ((by rw [hg]; exact (zBs (by exact uT HB.out)) : w.heap.size ≤ gb290)); have IGE290 := ownGe GE290.out; replace HB := zMk (zBt (by exact uT HB.out) hb); clear hb hbox hg; have hcz13_0 : w12.cell? ⟨gb290, 0, none⟩ = some (.int .i64 0) := (zKc BK290.out 0).trans rfl; have hcz13_1 : w12.cell? ⟨gb290, 1, none⟩ = some (.slice none 0 0) := (zKc BK290.out 1).trans rfl; have hfz13_0 := zKf BK290.out 0; have hfz13_1 := zKf BK290.out 1)|((with_reducible refine gate_callee (f:=11) rfl ?_); refine goesL_ (some 11) rfl rfl Try.func11 (by kernel_rfl) rfl #[.agg #[.int .i64 5, .slice Ao11 y287.length co11]] rfl (by (try simp only [zMa, zMc, zMn]); first |  done|  rfl|  (simp only [zLd, zLt]; rfl)) ?_; (with_reducible refine (parts_Components.calls k 5 _ _ y287 t291 _ ?side1 ?side2 A1.out).mono ?_); (case side1 => refine (zRr (e:=43) (base:=w.heap.size) (ok:=fun k_ => True) (n:=y287.length) (c:=co11) ?_).2.2; exact (by (with_reducible repeat (first |  apply zRa|  apply zRn|  apply zRd)); exact (zRm (Kd.R_far (p:=⟨gb290, 1, none⟩) (Kd.R_far (p:=⟨gb290, 0, none⟩) (Kd.R_types HO289.out BK290.out (by decide)) (fun _ hk => hk.2) (.int .i64 5)) (fun _ hk => hk.2) (.slice Ao11 y287.length co11)) (fun _ h_ => h_.1)))); (case side2 => exact (zRr HO289.out).2.1); rintro e w14 ⟨v292, rfl, ho0, hb⟩; refine ⟨_, rfl, ?_⟩; replace HO289 := zMk (zRb (by (with_reducible repeat (first |  apply zRa|  apply zRn|  apply zRd)); exact (zRm (Kd.R_far (p:=⟨gb290, 1, none⟩) (Kd.R_far (p:=⟨gb290, 0, none⟩) (Kd.R_types HO289.out BK290.out (by decide)) (fun _ hk => hk.2) (.int .i64 5)) (fun _ hk => hk.2) (.slice Ao11 y287.length co11)) (fun _ h_ => h_.1))) hb); have HO293 := zMk (Kd.S_lower ho0 (zBs (by exact uT HB.out))); replace BK290 := zMk (zKb (g:=gb290) (o:=.cells #[.int .i64 5, .slice Ao11 y287.length co11] 24 (0, 0)) (by (with_reducible repeat (first |  refine zKn ?_ _|  refine zKd ?_|  refine zKa ?_ _)); refine blk_put (cs:=#[.int .i64 5, .slice none 0 0]) ?_ 1 _ rfl; (with_reducible repeat (first |  refine zKn ?_ _|  refine zKd ?_|  refine zKa ?_ _)); refine blk_put (cs:=#[.int .i64 0, .slice none 0 0]) ?_ 0 _ rfl; (with_reducible repeat (first |  refine zKn ?_ _|  refine zKd ?_|  refine zKa ?_ _)); exact BK290.out) hb); replace HB := zMk (zBt (by exact uT HB.out) hb); obtain ⟨Ao15, co15, eo15⟩ := Kd.S_slice HO293.out; subst eo15; have hcz16_0 : w14.cell? ⟨gb290, 0, none⟩ = some (.int .i64 5) := (zKc BK290.out 0).trans rfl; have hcz16_1 : w14.cell? ⟨gb290, 1, none⟩ = some (.slice Ao11 y287.length co11) := (zKc BK290.out 1).trans rfl; have hfz16_0 := zKf BK290.out 0; have hfz16_1 := zKf BK290.out 1)|(go_at_call 14; (with_reducible refine (parts_Cuts.calls k 5 _ _ y287 t294 _ ?side1 ?side2 A3.out).mono ?_); (case side1 => exact uC (zRr HO289.out).2.2); (case side2 => exact (zRr HO289.out).2.1); rintro e w17 ⟨v295, rfl, ho0, hb⟩; replace HO289 := zMk (zRb (by exact uR HO289.out) hb); replace HO293 := zMk (Kd.S_elder' (by (with_reducible repeat (first |  apply Kd.S_alloc|  apply Kd.S_drewN|  apply Kd.S_drew)); exact HO293.out) (zRz ho0) hb); have HO296 := zMk (zRl ho0 (zBs (by exact uT HB.out))); replace BK290 := zMk (zKb (g:=gb290) (o:=.cells #[.int .i64 5, .slice Ao11 y287.length co11] 24 (0, 0)) (by (with_reducible repeat (first |  refine zKn ?_ _|  refine zKd ?_|  refine zKa ?_ _)); exact BK290.out) hb); replace HB := zMk (zBt (by exact uT HB.out) hb))|((with_reducible refine gate_dst (N:=17) rfl ?_); (try (refine gate_guard (by rfl) ?_; dsimp only)); refine Kd.R_lit (Kd.int .i64) _ 3 ?hg (N:=17) ?hd (xs:=([2] : List Int)) (inner:=[.int .i64 2]) (ok:=fun _ => True) (okp:=fun _ => True) ?hr ?hp (fun _ hk => hk) trivial (Below.refl _ _) (Nat.le_refl _) (by simp) ?_; (case hd => rfl); (case hg => rfl); (case hr => first | (go_simp; done)|(go_simp; rfl)|(go_simp; rw [show ∀ x : Int, IntKind.u32.wrap (IntKind.u8.wrap x) = x % 256 from fun x => (by show (x % 256) % 4294967296 = x % 256; omega)])); (case hp => exact (Reps.one (show Kd.M (Kd.int .i64) _ _ _ 2 [.int .i64 2] from rfl) (Reps.none _ _))); intro v298 w18 ho19 hb hg_ hnew_; clear hg_ hnew_; (first |  rw [← Ny297.out] at ho19|  (simp only [Int.reduceToNat] at ho19; rw [← Ny297.out] at ho19)); replace HO289 := zMk (zRb (by exact uR HO289.out) hb); replace HO293 := zMk (Kd.S_elder' (by (with_reducible repeat (first |  apply Kd.S_alloc|  apply Kd.S_drewN|  apply Kd.S_drew)); exact HO293.out) (zRz ho19) hb); have HO299 := zMk (zRl (zRw ho19 (zRt (by exact uR HO296.out))) (zBs (by exact uT HB.out))); replace HO296 := zMk (zRe (by exact uR HO296.out) (zRz ho19) hb); replace BK290 := zMk (zKb (g:=gb290) (o:=.cells #[.int .i64 5, .slice Ao11 y287.length co11] 24 (0, 0)) (by (with_reducible repeat (first |  refine zKn ?_ _|  refine zKd ?_|  refine zKa ?_ _)); exact BK290.out) hb); replace HB := zMk (zBt (by exact uT HB.out) hb); clear hb ho19; obtain ⟨Ao20, co20, eo20⟩ := zRs HO296.out; subst eo20; obtain ⟨Ao21, co21, eo21⟩ := zRs HO299.out; subst eo21)|(go_at_call 16; (with_reducible refine (r4_Ints.calls k _ _ t294 _ _ y297 true _ ?side1 ?side2 ?side3 ?side4 A4.out).mono ?_); (case side1 => exact uC (zRr HO296.out).2.2); (case side2 => exact (zRr HO296.out).2.1); (case side3 => exact uC (zRr HO299.out).2.2); (case side4 => exact (zRr HO299.out).2.1); rintro e w' ⟨rfl, ⟨nd, rfl⟩⟩; have hcz22_0 : w18.cell? ⟨gb290, 0, none⟩ = some (.int .i64 5) := (zKc BK290.out 0).trans rfl; have hcz22_1 : w18.cell? ⟨gb290, 1, none⟩ = some (.slice Ao11 y287.length co11) := (zKc BK290.out 1).trans rfl; have hfz22_0 := zKf BK290.out 0; have hfz22_1 := zKf BK290.out 1)|(go_at_call 15; (with_reducible refine (parts_Bridges.calls k 5 _ _ y287 t301 _ ?side1 ?side2 A6.out).mono ?_); (case side1 => exact uC (zRr HO289.out).2.2); (case side2 => exact (zRr HO289.out).2.1); rintro e w23 ⟨v302, rfl, ho0, hb⟩; replace HO289 := zMk (zRb (by exact uR HO289.out) hb); replace HO293 := zMk (Kd.S_elder' (by (with_reducible repeat (first |  apply Kd.S_alloc|  apply Kd.S_drewN|  apply Kd.S_drew)); exact HO293.out) (zRz ho0) hb); have HO303 := zMk (zRl (zRw (zRw ho0 (zRt (by exact uR HO296.out))) (zRt (by exact uR HO299.out))) (zBs (by exact uT HB.out))); replace HO296 := zMk (zRe (by exact uR HO296.out) (zRz ho0) hb); replace HO299 := zMk (zRe (by exact uR HO299.out) (zRz ho0) hb); replace BK290 := zMk (zKb (g:=gb290) (o:=.cells #[.int .i64 5, .slice Ao11 y287.length co11] 24 (0, 0)) (by (with_reducible repeat (first |  refine zKn ?_ _|  refine zKd ?_|  refine zKa ?_ _)); exact BK290.out) hb); replace HB := zMk (zBt (by exact uT HB.out) hb); obtain ⟨Ao24, co24, eo24⟩ := zRs HO303.out; subst eo24; have hcz25_0 : w23.cell? ⟨gb290, 0, none⟩ = some (.int .i64 5) := (zKc BK290.out 0).trans rfl; have hcz25_1 : w23.cell? ⟨gb290, 1, none⟩ = some (.slice Ao11 y287.length co11) := (zKc BK290.out 1).trans rfl; have hfz25_0 := zKf BK290.out 0; have hfz25_1 := zKf BK290.out 1)|(go_at_call 19; (with_reducible refine (parts_Blocks.calls k 5 _ _ y287 t304 _ ?side1 ?side2 A8.out).mono ?_); (case side1 => exact uC (zRr HO289.out).2.2); (case side2 => exact (zRr HO289.out).2.1); rintro e w26 ⟨v305, rfl, ho0, hb⟩; replace HO289 := zMk (zRb (by exact uR HO289.out) hb); have HO306 := zMk (Kd.S_lower (Kd.S_new' (Kd.S_new' (Kd.S_new' (Kd.S_new' ho0 (Kd.S_lt (by (with_reducible repeat (first |  apply Kd.S_alloc|  apply Kd.S_drewN|  apply Kd.S_drew)); exact HO293.out))) (zRt (by exact uR HO296.out))) (zRt (by exact uR HO299.out))) (zRt (by exact uR HO303.out))) (zBs (by exact uT HB.out))); replace HO293 := zMk (Kd.S_elder' (by (with_reducible repeat (first |  apply Kd.S_alloc|  apply Kd.S_drewN|  apply Kd.S_drew)); exact HO293.out) (Kd.S_base ho0) hb); replace HO296 := zMk (zRb (by exact uR HO296.out) hb); replace HO299 := zMk (zRb (by exact uR HO299.out) hb); replace HO303 := zMk (zRb (by exact uR HO303.out) hb); replace BK290 := zMk (zKb (g:=gb290) (o:=.cells #[.int .i64 5, .slice Ao11 y287.length co11] 24 (0, 0)) (by (with_reducible repeat (first |  refine zKn ?_ _|  refine zKd ?_|  refine zKa ?_ _)); exact BK290.out) hb); replace HB := zMk (zBt (by exact uT HB.out) hb); obtain ⟨Ao27, co27, eo27⟩ := Kd.S_slice HO306.out; subst eo27))
    go_ret
    exact ⟨by first | rfl | (simp [errW_none, errW_some] <;> rfl) | (simp [*, errW_none, errW_some] <;> rfl), by exact uT HB.out⟩
   ·rw [if_neg c7] at H
    have c7b0 : ((t301.length : Int) == 0) = false := beq_eq_false_iff_ne.mpr c7
    have c7b1 : ((t301.length : Int) != 0) = true := bne_iff_ne.mpr c7
    have c7b2 : ¬ (t301 = []) := fun h_ => c7 (by rw [h_]; rfl)
    obtain rfl := zOi H
    go_enter Try.func9, Try.ntmps9
    go_wp2_with (first | ((with_reducible refine gate_dst (N:=8) rfl ?_); (try (refine gate_guard (by rfl) ?_; dsimp only)); refine Kd.R_lit k43 _ 43 ?hg (N:=8) ?hd (xs:=([(⟨0, 1, 0⟩ : S43), (⟨0, 2, 0⟩ : S43), (⟨1, 2, 0⟩ : S43), (⟨2, 3, 0⟩ : S43), (⟨2, 4, 0⟩ : S43), (⟨3, 4, 0⟩ : S43)] : List (S43))) (inner:=[.int .i64 0, .int .i64 1, .int .i64 0, .int .i64 0, .int .i64 2, .int .i64 0, .int .i64 1, .int .i64 2, .int .i64 0, .int .i64 2, .int .i64 3, .int .i64 0, .int .i64 2, .int .i64 4, .int .i64 0, .int .i64 3, .int .i64 4, .int .i64 0]) (ok:=fun _ => True) (okp:=fun _ => True) ?hr ?hp (fun _ hk => hk) trivial (Below.refl _ _) (Nat.le_refl _) (by simp) ?_; (case hd => rfl); (case hg => rfl); (case hr => first | (go_simp; done)|(go_simp; rfl)|(go_simp; rw [show ∀ x : Int, IntKind.u32.wrap (IntKind.u8.wrap x) = x % 256 from fun x => (by show (x % 256) % 4294967296 = x % 256; omega)])); (case hp => exact (Reps.c3 (show Kd.M k43 _ _ _ (⟨0, 1, 0⟩ : S43) [.int .i64 0, .int .i64 1, .int .i64 0] from (k43_mkM _ _ _ (⟨0, 1, 0⟩ : S43) )) (Reps.c3 (show Kd.M k43 _ _ _ (⟨0, 2, 0⟩ : S43) [.int .i64 0, .int .i64 2, .int .i64 0] from (k43_mkM _ _ _ (⟨0, 2, 0⟩ : S43) )) (Reps.c3 (show Kd.M k43 _ _ _ (⟨1, 2, 0⟩ : S43) [.int .i64 1, .int .i64 2, .int .i64 0] from (k43_mkM _ _ _ (⟨1, 2, 0⟩ : S43) )) (Reps.c3 (show Kd.M k43 _ _ _ (⟨2, 3, 0⟩ : S43) [.int .i64 2, .int .i64 3, .int .i64 0] from (k43_mkM _ _ _ (⟨2, 3, 0⟩ : S43) )) (Reps.c3 (show Kd.M k43 _ _ _ (⟨2, 4, 0⟩ : S43) [.int .i64 2, .int .i64 4, .int .i64 0] from (k43_mkM _ _ _ (⟨2, 4, 0⟩ : S43) )) (Reps.c3 (show Kd.M k43 _ _ _ (⟨3, 4, 0⟩ : S43) [.int .i64 3, .int .i64 4, .int .i64 0] from (k43_mkM _ _ _ (⟨3, 4, 0⟩ : S43) )) (Reps.none _ _)))))))); intro v288 w28 ho29 hb hg_ hnew_; clear hg_ hnew_; (first |  rw [← Ny287.out] at ho29|  (simp only [Int.reduceToNat] at ho29; rw [← Ny287.out] at ho29)); have HO289 := zMk (zRl ho29 (zBs (by exact uT HB.out))); replace HB := zMk (zBt (by exact uT HB.out) hb); clear hb ho29; obtain ⟨Ao30, co30, eo30⟩ := zRs HO289.out; subst eo30)|((with_reducible refine gate_dst (N:=1) rfl ?_); (try (refine gate_guard (by rfl) ?_; dsimp only)); refine box_event ?hg (N:=1) ?hd (cs:=#[.int .i64 0, .slice none 0 0]) (t:=24) ?hr ?_; (case hd => rfl); (case hg => rfl); (case hr => first | (go_simp; done)|(go_simp; rfl)|(go_simp; rw [show ∀ x : Int, IntKind.u32.wrap (IntKind.u8.wrap x) = x % 256 from fun x => (by show (x % 256) % 4294967296 = x % 256; omega)])); intro gb290 hg w31 hbox hb; replace HO289 := zMk (zRb (by exact uR HO289.out) hb); have BK290 := zMk (hbox); have GW290 := zMk ((by rw [hg]; exact (zBs (by exact uT HB.out)) : w.heap.size ≤ gb290)); have GE290 := zMk ((by rw [hg]; exact (zBs (by exact uT HB.out)) : w.heap.size ≤ gb290)); have IGE290 := ownGe GE290.out; replace HB := zMk (zBt (by exact uT HB.out) hb); clear hb hbox hg; have hcz32_0 : w31.cell? ⟨gb290, 0, none⟩ = some (.int .i64 0) := (zKc BK290.out 0).trans rfl; have hcz32_1 : w31.cell? ⟨gb290, 1, none⟩ = some (.slice none 0 0) := (zKc BK290.out 1).trans rfl; have hfz32_0 := zKf BK290.out 0; have hfz32_1 := zKf BK290.out 1)|((with_reducible refine gate_callee (f:=11) rfl ?_); refine goesL_ (some 11) rfl rfl Try.func11 (by kernel_rfl) rfl #[.agg #[.int .i64 5, .slice Ao30 y287.length co30]] rfl (by (try simp only [zMa, zMc, zMn]); first |  done|  rfl|  (simp only [zLd, zLt]; rfl)) ?_; (with_reducible refine (parts_Components.calls k 5 _ _ y287 t291 _ ?side1 ?side2 A1.out).mono ?_); (case side1 => refine (zRr (e:=43) (base:=w.heap.size) (ok:=fun k_ => True) (n:=y287.length) (c:=co30) ?_).2.2; exact (by (with_reducible repeat (first |  apply zRa|  apply zRn|  apply zRd)); exact (zRm (Kd.R_far (p:=⟨gb290, 1, none⟩) (Kd.R_far (p:=⟨gb290, 0, none⟩) (Kd.R_types HO289.out BK290.out (by decide)) (fun _ hk => hk.2) (.int .i64 5)) (fun _ hk => hk.2) (.slice Ao30 y287.length co30)) (fun _ h_ => h_.1)))); (case side2 => exact (zRr HO289.out).2.1); rintro e w33 ⟨v292, rfl, ho0, hb⟩; refine ⟨_, rfl, ?_⟩; replace HO289 := zMk (zRb (by (with_reducible repeat (first |  apply zRa|  apply zRn|  apply zRd)); exact (zRm (Kd.R_far (p:=⟨gb290, 1, none⟩) (Kd.R_far (p:=⟨gb290, 0, none⟩) (Kd.R_types HO289.out BK290.out (by decide)) (fun _ hk => hk.2) (.int .i64 5)) (fun _ hk => hk.2) (.slice Ao30 y287.length co30)) (fun _ h_ => h_.1))) hb); have HO293 := zMk (Kd.S_lower ho0 (zBs (by exact uT HB.out))); replace BK290 := zMk (zKb (g:=gb290) (o:=.cells #[.int .i64 5, .slice Ao30 y287.length co30] 24 (0, 0)) (by (with_reducible repeat (first |  refine zKn ?_ _|  refine zKd ?_|  refine zKa ?_ _)); refine blk_put (cs:=#[.int .i64 5, .slice none 0 0]) ?_ 1 _ rfl; (with_reducible repeat (first |  refine zKn ?_ _|  refine zKd ?_|  refine zKa ?_ _)); refine blk_put (cs:=#[.int .i64 0, .slice none 0 0]) ?_ 0 _ rfl; (with_reducible repeat (first |  refine zKn ?_ _|  refine zKd ?_|  refine zKa ?_ _)); exact BK290.out) hb); replace HB := zMk (zBt (by exact uT HB.out) hb); obtain ⟨Ao34, co34, eo34⟩ := Kd.S_slice HO293.out; subst eo34; have hcz35_0 : w33.cell? ⟨gb290, 0, none⟩ = some (.int .i64 5) := (zKc BK290.out 0).trans rfl; have hcz35_1 : w33.cell? ⟨gb290, 1, none⟩ = some (.slice Ao30 y287.length co30) := (zKc BK290.out 1).trans rfl; have hfz35_0 := zKf BK290.out 0; have hfz35_1 := zKf BK290.out 1)|(go_at_call 14; (with_reducible refine (parts_Cuts.calls k 5 _ _ y287 t294 _ ?side1 ?side2 A3.out).mono ?_); (case side1 => exact uC (zRr HO289.out).2.2); (case side2 => exact (zRr HO289.out).2.1); rintro e w36 ⟨v295, rfl, ho0, hb⟩; replace HO289 := zMk (zRb (by exact uR HO289.out) hb); replace HO293 := zMk (Kd.S_elder' (by (with_reducible repeat (first |  apply Kd.S_alloc|  apply Kd.S_drewN|  apply Kd.S_drew)); exact HO293.out) (zRz ho0) hb); have HO296 := zMk (zRl ho0 (zBs (by exact uT HB.out))); replace BK290 := zMk (zKb (g:=gb290) (o:=.cells #[.int .i64 5, .slice Ao30 y287.length co30] 24 (0, 0)) (by (with_reducible repeat (first |  refine zKn ?_ _|  refine zKd ?_|  refine zKa ?_ _)); exact BK290.out) hb); replace HB := zMk (zBt (by exact uT HB.out) hb))|((with_reducible refine gate_dst (N:=17) rfl ?_); (try (refine gate_guard (by rfl) ?_; dsimp only)); refine Kd.R_lit (Kd.int .i64) _ 3 ?hg (N:=17) ?hd (xs:=([2] : List Int)) (inner:=[.int .i64 2]) (ok:=fun _ => True) (okp:=fun _ => True) ?hr ?hp (fun _ hk => hk) trivial (Below.refl _ _) (Nat.le_refl _) (by simp) ?_; (case hd => rfl); (case hg => rfl); (case hr => first | (go_simp; done)|(go_simp; rfl)|(go_simp; rw [show ∀ x : Int, IntKind.u32.wrap (IntKind.u8.wrap x) = x % 256 from fun x => (by show (x % 256) % 4294967296 = x % 256; omega)])); (case hp => exact (Reps.one (show Kd.M (Kd.int .i64) _ _ _ 2 [.int .i64 2] from rfl) (Reps.none _ _))); intro v298 w37 ho38 hb hg_ hnew_; clear hg_ hnew_; (first |  rw [← Ny297.out] at ho38|  (simp only [Int.reduceToNat] at ho38; rw [← Ny297.out] at ho38)); replace HO289 := zMk (zRb (by exact uR HO289.out) hb); replace HO293 := zMk (Kd.S_elder' (by (with_reducible repeat (first |  apply Kd.S_alloc|  apply Kd.S_drewN|  apply Kd.S_drew)); exact HO293.out) (zRz ho38) hb); have HO299 := zMk (zRl (zRw ho38 (zRt (by exact uR HO296.out))) (zBs (by exact uT HB.out))); replace HO296 := zMk (zRe (by exact uR HO296.out) (zRz ho38) hb); replace BK290 := zMk (zKb (g:=gb290) (o:=.cells #[.int .i64 5, .slice Ao30 y287.length co30] 24 (0, 0)) (by (with_reducible repeat (first |  refine zKn ?_ _|  refine zKd ?_|  refine zKa ?_ _)); exact BK290.out) hb); replace HB := zMk (zBt (by exact uT HB.out) hb); clear hb ho38; obtain ⟨Ao39, co39, eo39⟩ := zRs HO296.out; subst eo39; obtain ⟨Ao40, co40, eo40⟩ := zRs HO299.out; subst eo40)|(go_at_call 16; (with_reducible refine (r4_Ints.calls k _ _ t294 _ _ y297 true _ ?side1 ?side2 ?side3 ?side4 A4.out).mono ?_); (case side1 => exact uC (zRr HO296.out).2.2); (case side2 => exact (zRr HO296.out).2.1); (case side3 => exact uC (zRr HO299.out).2.2); (case side4 => exact (zRr HO299.out).2.1); rintro e w' ⟨rfl, ⟨nd, rfl⟩⟩; have hcz41_0 : w37.cell? ⟨gb290, 0, none⟩ = some (.int .i64 5) := (zKc BK290.out 0).trans rfl; have hcz41_1 : w37.cell? ⟨gb290, 1, none⟩ = some (.slice Ao30 y287.length co30) := (zKc BK290.out 1).trans rfl; have hfz41_0 := zKf BK290.out 0; have hfz41_1 := zKf BK290.out 1)|(go_at_call 15; (with_reducible refine (parts_Bridges.calls k 5 _ _ y287 t301 _ ?side1 ?side2 A6.out).mono ?_); (case side1 => exact uC (zRr HO289.out).2.2); (case side2 => exact (zRr HO289.out).2.1); rintro e w42 ⟨v302, rfl, ho0, hb⟩; replace HO289 := zMk (zRb (by exact uR HO289.out) hb); replace HO293 := zMk (Kd.S_elder' (by (with_reducible repeat (first |  apply Kd.S_alloc|  apply Kd.S_drewN|  apply Kd.S_drew)); exact HO293.out) (zRz ho0) hb); have HO303 := zMk (zRl (zRw (zRw ho0 (zRt (by exact uR HO296.out))) (zRt (by exact uR HO299.out))) (zBs (by exact uT HB.out))); replace HO296 := zMk (zRe (by exact uR HO296.out) (zRz ho0) hb); replace HO299 := zMk (zRe (by exact uR HO299.out) (zRz ho0) hb); replace BK290 := zMk (zKb (g:=gb290) (o:=.cells #[.int .i64 5, .slice Ao30 y287.length co30] 24 (0, 0)) (by (with_reducible repeat (first |  refine zKn ?_ _|  refine zKd ?_|  refine zKa ?_ _)); exact BK290.out) hb); replace HB := zMk (zBt (by exact uT HB.out) hb); obtain ⟨Ao43, co43, eo43⟩ := zRs HO303.out; subst eo43))
    go_ret
    exact ⟨by first | rfl | (simp [errW_none, errW_some] <;> rfl) | (simp [*, errW_none, errW_some] <;> rfl), by exact uT HB.out⟩
  ·replace c5 := Bool.eq_false_iff.mpr c5
   subst c5
   replace H : (some false) = some r := by rw [if_neg (show ¬ (false = true) by decide)] at H; exact H
   obtain rfl := zOi H
   go_enter Try.func9, Try.ntmps9
   go_wp2_with (first | ((with_reducible refine gate_dst (N:=8) rfl ?_); (try (refine gate_guard (by rfl) ?_; dsimp only)); refine Kd.R_lit k43 _ 43 ?hg (N:=8) ?hd (xs:=([(⟨0, 1, 0⟩ : S43), (⟨0, 2, 0⟩ : S43), (⟨1, 2, 0⟩ : S43), (⟨2, 3, 0⟩ : S43), (⟨2, 4, 0⟩ : S43), (⟨3, 4, 0⟩ : S43)] : List (S43))) (inner:=[.int .i64 0, .int .i64 1, .int .i64 0, .int .i64 0, .int .i64 2, .int .i64 0, .int .i64 1, .int .i64 2, .int .i64 0, .int .i64 2, .int .i64 3, .int .i64 0, .int .i64 2, .int .i64 4, .int .i64 0, .int .i64 3, .int .i64 4, .int .i64 0]) (ok:=fun _ => True) (okp:=fun _ => True) ?hr ?hp (fun _ hk => hk) trivial (Below.refl _ _) (Nat.le_refl _) (by simp) ?_; (case hd => rfl); (case hg => rfl); (case hr => first | (go_simp; done)|(go_simp; rfl)|(go_simp; rw [show ∀ x : Int, IntKind.u32.wrap (IntKind.u8.wrap x) = x % 256 from fun x => (by show (x % 256) % 4294967296 = x % 256; omega)])); (case hp => exact (Reps.c3 (show Kd.M k43 _ _ _ (⟨0, 1, 0⟩ : S43) [.int .i64 0, .int .i64 1, .int .i64 0] from (k43_mkM _ _ _ (⟨0, 1, 0⟩ : S43) )) (Reps.c3 (show Kd.M k43 _ _ _ (⟨0, 2, 0⟩ : S43) [.int .i64 0, .int .i64 2, .int .i64 0] from (k43_mkM _ _ _ (⟨0, 2, 0⟩ : S43) )) (Reps.c3 (show Kd.M k43 _ _ _ (⟨1, 2, 0⟩ : S43) [.int .i64 1, .int .i64 2, .int .i64 0] from (k43_mkM _ _ _ (⟨1, 2, 0⟩ : S43) )) (Reps.c3 (show Kd.M k43 _ _ _ (⟨2, 3, 0⟩ : S43) [.int .i64 2, .int .i64 3, .int .i64 0] from (k43_mkM _ _ _ (⟨2, 3, 0⟩ : S43) )) (Reps.c3 (show Kd.M k43 _ _ _ (⟨2, 4, 0⟩ : S43) [.int .i64 2, .int .i64 4, .int .i64 0] from (k43_mkM _ _ _ (⟨2, 4, 0⟩ : S43) )) (Reps.c3 (show Kd.M k43 _ _ _ (⟨3, 4, 0⟩ : S43) [.int .i64 3, .int .i64 4, .int .i64 0] from (k43_mkM _ _ _ (⟨3, 4, 0⟩ : S43) )) (Reps.none _ _)))))))); intro v288 w44 ho45 hb hg_ hnew_; clear hg_ hnew_; (first |  rw [← Ny287.out] at ho45|  (simp only [Int.reduceToNat] at ho45; rw [← Ny287.out] at ho45)); have HO289 := zMk (zRl ho45 (zBs (uT HB.out))); replace HB := zMk (zBt (uT HB.out) hb); clear hb ho45; obtain ⟨Ao46, co46, eo46⟩ := zRs HO289.out; subst eo46)|((with_reducible refine gate_dst (N:=1) rfl ?_); (try (refine gate_guard (by rfl) ?_; dsimp only)); refine box_event ?hg (N:=1) ?hd (cs:=#[.int .i64 0, .slice none 0 0]) (t:=24) ?hr ?_; (case hd => rfl); (case hg => rfl); (case hr => first | (go_simp; done)|(go_simp; rfl)|(go_simp; rw [show ∀ x : Int, IntKind.u32.wrap (IntKind.u8.wrap x) = x % 256 from fun x => (by show (x % 256) % 4294967296 = x % 256; omega)])); intro gb290 hg w47 hbox hb; replace HO289 := zMk (zRb (uR HO289.out) hb); have BK290 := zMk (hbox); have GW290 := zMk ((by rw [hg]; exact (zBs (uT HB.out)) : w.heap.size ≤ gb290)); have GE290 := zMk ((by rw [hg]; exact (zBs (uT HB.out)) : w.heap.size ≤ gb290)); have IGE290 := ownGe GE290.out; replace HB := zMk (zBt (uT HB.out) hb); clear hb hbox hg; have hcz48_0 : w47.cell? ⟨gb290, 0, none⟩ = some (.int .i64 0) := (zKc BK290.out 0).trans rfl; have hcz48_1 : w47.cell? ⟨gb290, 1, none⟩ = some (.slice none 0 0) := (zKc BK290.out 1).trans rfl; have hfz48_0 := zKf BK290.out 0; have hfz48_1 := zKf BK290.out 1)|((with_reducible refine gate_callee (f:=11) rfl ?_); refine goesL_ (some 11) rfl rfl Try.func11 (by kernel_rfl) rfl #[.agg #[.int .i64 5, .slice Ao46 y287.length co46]] rfl (by (try simp only [zMa, zMc, zMn]); first |  done|  rfl|  (simp only [zLd, zLt]; rfl)) ?_; (with_reducible refine (parts_Components.calls k 5 _ _ y287 t291 _ ?side1 ?side2 A1.out).mono ?_); (case side1 => refine (zRr (e:=43) (base:=w.heap.size) (ok:=fun k_ => True) (n:=y287.length) (c:=co46) ?_).2.2; exact (zRm (Kd.R_far (p:=⟨gb290, 1, none⟩) (Kd.R_far (p:=⟨gb290, 0, none⟩) (Kd.R_types HO289.out BK290.out (by decide)) (fun _ hk => hk.2) (.int .i64 5)) (fun _ hk => hk.2) (.slice Ao46 y287.length co46)) (fun _ h_ => h_.1))); (case side2 => exact (zRr HO289.out).2.1); rintro e w49 ⟨v292, rfl, ho0, hb⟩; refine ⟨_, rfl, ?_⟩; replace HO289 := zMk (zRb (zRm (Kd.R_far (p:=⟨gb290, 1, none⟩) (Kd.R_far (p:=⟨gb290, 0, none⟩) (Kd.R_types HO289.out BK290.out (by decide)) (fun _ hk => hk.2) (.int .i64 5)) (fun _ hk => hk.2) (.slice Ao46 y287.length co46)) (fun _ h_ => h_.1)) hb); have HO293 := zMk (Kd.S_lower ho0 (zBs (uT HB.out))); replace BK290 := zMk (zKb (g:=gb290) (o:=.cells #[.int .i64 5, .slice Ao46 y287.length co46] 24 (0, 0)) (by (with_reducible repeat (first |  refine zKn ?_ _|  refine zKd ?_|  refine zKa ?_ _)); refine blk_put (cs:=#[.int .i64 5, .slice none 0 0]) ?_ 1 _ rfl; (with_reducible repeat (first |  refine zKn ?_ _|  refine zKd ?_|  refine zKa ?_ _)); refine blk_put (cs:=#[.int .i64 0, .slice none 0 0]) ?_ 0 _ rfl; (with_reducible repeat (first |  refine zKn ?_ _|  refine zKd ?_|  refine zKa ?_ _)); exact BK290.out) hb); replace HB := zMk (zBt (uT HB.out) hb); obtain ⟨Ao50, co50, eo50⟩ := Kd.S_slice HO293.out; subst eo50; have hcz51_0 : w49.cell? ⟨gb290, 0, none⟩ = some (.int .i64 5) := (zKc BK290.out 0).trans rfl; have hcz51_1 : w49.cell? ⟨gb290, 1, none⟩ = some (.slice Ao46 y287.length co46) := (zKc BK290.out 1).trans rfl; have hfz51_0 := zKf BK290.out 0; have hfz51_1 := zKf BK290.out 1)|(go_at_call 14; (with_reducible refine (parts_Cuts.calls k 5 _ _ y287 t294 _ ?side1 ?side2 A3.out).mono ?_); (case side1 => exact uC (zRr HO289.out).2.2); (case side2 => exact (zRr HO289.out).2.1); rintro e w52 ⟨v295, rfl, ho0, hb⟩; replace HO289 := zMk (zRb (uR HO289.out) hb); replace HO293 := zMk (Kd.S_elder' (by (with_reducible repeat (first |  apply Kd.S_alloc|  apply Kd.S_drewN|  apply Kd.S_drew)); exact HO293.out) (zRz ho0) hb); have HO296 := zMk (zRl ho0 (zBs (uT HB.out))); replace BK290 := zMk (zKb BK290.out hb); replace HB := zMk (zBt (uT HB.out) hb))|((with_reducible refine gate_dst (N:=17) rfl ?_); (try (refine gate_guard (by rfl) ?_; dsimp only)); refine Kd.R_lit (Kd.int .i64) _ 3 ?hg (N:=17) ?hd (xs:=([2] : List Int)) (inner:=[.int .i64 2]) (ok:=fun _ => True) (okp:=fun _ => True) ?hr ?hp (fun _ hk => hk) trivial (Below.refl _ _) (Nat.le_refl _) (by simp) ?_; (case hd => rfl); (case hg => rfl); (case hr => first | (go_simp; done)|(go_simp; rfl)|(go_simp; rw [show ∀ x : Int, IntKind.u32.wrap (IntKind.u8.wrap x) = x % 256 from fun x => (by show (x % 256) % 4294967296 = x % 256; omega)])); (case hp => exact (Reps.one (show Kd.M (Kd.int .i64) _ _ _ 2 [.int .i64 2] from rfl) (Reps.none _ _))); intro v298 w53 ho54 hb hg_ hnew_; clear hg_ hnew_; (first |  rw [← Ny297.out] at ho54|  (simp only [Int.reduceToNat] at ho54; rw [← Ny297.out] at ho54)); replace HO289 := zMk (zRb (uR HO289.out) hb); replace HO293 := zMk (Kd.S_elder' (by (with_reducible repeat (first |  apply Kd.S_alloc|  apply Kd.S_drewN|  apply Kd.S_drew)); exact HO293.out) (zRz ho54) hb); have HO299 := zMk (zRl (zRw ho54 (zRt (uR HO296.out))) (zBs (uT HB.out))); replace HO296 := zMk (zRe (uR HO296.out) (zRz ho54) hb); replace BK290 := zMk (zKb BK290.out hb); replace HB := zMk (zBt (uT HB.out) hb); clear hb ho54; obtain ⟨Ao55, co55, eo55⟩ := zRs HO296.out; subst eo55; obtain ⟨Ao56, co56, eo56⟩ := zRs HO299.out; subst eo56)|(go_at_call 16; (with_reducible refine (r4_Ints.calls k _ _ t294 _ _ y297 false _ ?side1 ?side2 ?side3 ?side4 A4.out).mono ?_); (case side1 => exact uC (zRr HO296.out).2.2); (case side2 => exact (zRr HO296.out).2.1); (case side3 => exact uC (zRr HO299.out).2.2); (case side4 => exact (zRr HO299.out).2.1); rintro e w' ⟨rfl, ⟨nd, rfl⟩⟩))
   go_ret
   exact ⟨by first | rfl | (simp [errW_none, errW_some] <;> rfl) | (simp [*, errW_none, errW_some] <;> rfl), by exact uT HB.out⟩
 ·rw [if_neg c2] at H
  have c2b0 : ((t291.length : Int) == 1) = false := beq_eq_false_iff_ne.mpr c2
  have c2b1 : ((t291.length : Int) != 1) = true := bne_iff_ne.mpr c2
  obtain rfl := zOi H
  go_enter Try.func9, Try.ntmps9
  go_wp2_with (first | ((with_reducible refine gate_dst (N:=8) rfl ?_); (try (refine gate_guard (by rfl) ?_; dsimp only)); refine Kd.R_lit k43 _ 43 ?hg (N:=8) ?hd (xs:=([(⟨0, 1, 0⟩ : S43), (⟨0, 2, 0⟩ : S43), (⟨1, 2, 0⟩ : S43), (⟨2, 3, 0⟩ : S43), (⟨2, 4, 0⟩ : S43), (⟨3, 4, 0⟩ : S43)] : List (S43))) (inner:=[.int .i64 0, .int .i64 1, .int .i64 0, .int .i64 0, .int .i64 2, .int .i64 0, .int .i64 1, .int .i64 2, .int .i64 0, .int .i64 2, .int .i64 3, .int .i64 0, .int .i64 2, .int .i64 4, .int .i64 0, .int .i64 3, .int .i64 4, .int .i64 0]) (ok:=fun _ => True) (okp:=fun _ => True) ?hr ?hp (fun _ hk => hk) trivial (Below.refl _ _) (Nat.le_refl _) (by simp) ?_; (case hd => rfl); (case hg => rfl); (case hr => first | (go_simp; done)|(go_simp; rfl)|(go_simp; rw [show ∀ x : Int, IntKind.u32.wrap (IntKind.u8.wrap x) = x % 256 from fun x => (by show (x % 256) % 4294967296 = x % 256; omega)])); (case hp => exact (Reps.c3 (show Kd.M k43 _ _ _ (⟨0, 1, 0⟩ : S43) [.int .i64 0, .int .i64 1, .int .i64 0] from (k43_mkM _ _ _ (⟨0, 1, 0⟩ : S43) )) (Reps.c3 (show Kd.M k43 _ _ _ (⟨0, 2, 0⟩ : S43) [.int .i64 0, .int .i64 2, .int .i64 0] from (k43_mkM _ _ _ (⟨0, 2, 0⟩ : S43) )) (Reps.c3 (show Kd.M k43 _ _ _ (⟨1, 2, 0⟩ : S43) [.int .i64 1, .int .i64 2, .int .i64 0] from (k43_mkM _ _ _ (⟨1, 2, 0⟩ : S43) )) (Reps.c3 (show Kd.M k43 _ _ _ (⟨2, 3, 0⟩ : S43) [.int .i64 2, .int .i64 3, .int .i64 0] from (k43_mkM _ _ _ (⟨2, 3, 0⟩ : S43) )) (Reps.c3 (show Kd.M k43 _ _ _ (⟨2, 4, 0⟩ : S43) [.int .i64 2, .int .i64 4, .int .i64 0] from (k43_mkM _ _ _ (⟨2, 4, 0⟩ : S43) )) (Reps.c3 (show Kd.M k43 _ _ _ (⟨3, 4, 0⟩ : S43) [.int .i64 3, .int .i64 4, .int .i64 0] from (k43_mkM _ _ _ (⟨3, 4, 0⟩ : S43) )) (Reps.none _ _)))))))); intro v288 w57 ho58 hb hg_ hnew_; clear hg_ hnew_; (first |  rw [← Ny287.out] at ho58|  (simp only [Int.reduceToNat] at ho58; rw [← Ny287.out] at ho58)); have HO289 := zMk (zRl ho58 (zBs (uT HB.out))); replace HB := zMk (zBt (uT HB.out) hb); clear hb ho58; obtain ⟨Ao59, co59, eo59⟩ := zRs HO289.out; subst eo59)|((with_reducible refine gate_dst (N:=1) rfl ?_); (try (refine gate_guard (by rfl) ?_; dsimp only)); refine box_event ?hg (N:=1) ?hd (cs:=#[.int .i64 0, .slice none 0 0]) (t:=24) ?hr ?_; (case hd => rfl); (case hg => rfl); (case hr => first | (go_simp; done)|(go_simp; rfl)|(go_simp; rw [show ∀ x : Int, IntKind.u32.wrap (IntKind.u8.wrap x) = x % 256 from fun x => (by show (x % 256) % 4294967296 = x % 256; omega)])); intro gb290 hg w60 hbox hb; replace HO289 := zMk (zRb (uR HO289.out) hb); have BK290 := zMk (hbox); have GW290 := zMk ((by rw [hg]; exact (zBs (uT HB.out)) : w.heap.size ≤ gb290)); have GE290 := zMk ((by rw [hg]; exact (zBs (uT HB.out)) : w.heap.size ≤ gb290)); have IGE290 := ownGe GE290.out; replace HB := zMk (zBt (uT HB.out) hb); clear hb hbox hg; have hcz61_0 : w60.cell? ⟨gb290, 0, none⟩ = some (.int .i64 0) := (zKc BK290.out 0).trans rfl; have hcz61_1 : w60.cell? ⟨gb290, 1, none⟩ = some (.slice none 0 0) := (zKc BK290.out 1).trans rfl; have hfz61_0 := zKf BK290.out 0; have hfz61_1 := zKf BK290.out 1)|((with_reducible refine gate_callee (f:=11) rfl ?_); refine goesL_ (some 11) rfl rfl Try.func11 (by kernel_rfl) rfl #[.agg #[.int .i64 5, .slice Ao59 y287.length co59]] rfl (by (try simp only [zMa, zMc, zMn]); first |  done|  rfl|  (simp only [zLd, zLt]; rfl)) ?_; (with_reducible refine (parts_Components.calls k 5 _ _ y287 t291 _ ?side1 ?side2 A1.out).mono ?_); (case side1 => refine (zRr (e:=43) (base:=w.heap.size) (ok:=fun k_ => True) (n:=y287.length) (c:=co59) ?_).2.2; exact (zRm (Kd.R_far (p:=⟨gb290, 1, none⟩) (Kd.R_far (p:=⟨gb290, 0, none⟩) (Kd.R_types HO289.out BK290.out (by decide)) (fun _ hk => hk.2) (.int .i64 5)) (fun _ hk => hk.2) (.slice Ao59 y287.length co59)) (fun _ h_ => h_.1))); (case side2 => exact (zRr HO289.out).2.1); rintro e w62 ⟨v292, rfl, ho0, hb⟩; refine ⟨_, rfl, ?_⟩; replace HO289 := zMk (zRb (zRm (Kd.R_far (p:=⟨gb290, 1, none⟩) (Kd.R_far (p:=⟨gb290, 0, none⟩) (Kd.R_types HO289.out BK290.out (by decide)) (fun _ hk => hk.2) (.int .i64 5)) (fun _ hk => hk.2) (.slice Ao59 y287.length co59)) (fun _ h_ => h_.1)) hb); have HO293 := zMk (Kd.S_lower ho0 (zBs (uT HB.out))); replace BK290 := zMk (zKb (g:=gb290) (o:=.cells #[.int .i64 5, .slice Ao59 y287.length co59] 24 (0, 0)) (by (with_reducible repeat (first |  refine zKn ?_ _|  refine zKd ?_|  refine zKa ?_ _)); refine blk_put (cs:=#[.int .i64 5, .slice none 0 0]) ?_ 1 _ rfl; (with_reducible repeat (first |  refine zKn ?_ _|  refine zKd ?_|  refine zKa ?_ _)); refine blk_put (cs:=#[.int .i64 0, .slice none 0 0]) ?_ 0 _ rfl; (with_reducible repeat (first |  refine zKn ?_ _|  refine zKd ?_|  refine zKa ?_ _)); exact BK290.out) hb); replace HB := zMk (zBt (uT HB.out) hb); obtain ⟨Ao63, co63, eo63⟩ := Kd.S_slice HO293.out; subst eo63))
  go_ret
  exact ⟨by first | rfl | (simp [errW_none, errW_some] <;> rfl) | (simp [*, errW_none, errW_some] <;> rfl), by exact uT HB.out⟩

theorem alive_at (k : Nat) : w6_alive.f (k + 200) = some true := by kernel_rfl
theorem alive_ev : Ev (fun k => w6_alive.f k) true := ⟨200, fun k hk => by
  obtain ⟨m, rfl⟩ : ∃ m, k = m + 200 := ⟨k - 200, by omega⟩
  exact alive_at m⟩
end Go.Proofs.Ytkiemlbobcklpaa.A
