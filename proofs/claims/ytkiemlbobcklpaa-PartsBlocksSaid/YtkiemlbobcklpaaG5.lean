/- Lemmas for the statement: the walks of the functions that it reaches, and plain laws. -/
import Derived.Test.YtkiemlbobcklpaaG1
import Derived.Test.YtkiemlbobcklpaaG4
import Derived.Test.YtkiemlbobcklpaaG2
set_option linter.unusedVariables false
set_option linter.unusedSimpArgs false
set_option maxHeartbeats 8000000
set_option maxRecDepth 100000
namespace Go.Proofs.Ytkiemlbobcklpaa.A
open Go Go.RowKit Go.Proofs.YtkiemlbobcklpaaW.PrintWords Go.Proofs.YtkiemlbobcklpaaW.PrintLast Go.Proofs.YtkiemlbobcklpaaW.PrintMore
attribute [local go_sem] max2_int min2_int max_two min_two max_three min_three max_four min_four
open Go.Proofs.YtkiemlbobcklpaaW.PrintWords.Kd renaming R_alloc → zRa, R_drewN → zRn, R_drew → zRd, C_alloc → zCa, C_drewN → zCn, C_drew → zCd, R_mono → zRm, at_int → zAi, R_elder' → zRe, R_lower → zRl, R_new' → zRw, R_lt → zRt, R_below → zRb, R_base → zRz, R_reads' → zRr, R_slice → zRs
open Go.Proofs.YtkiemlbobcklpaaW.PrintWords renaming pw_below_drewN → zBn, below_alloc → zBa, below_drew1 → zBd, below_size → zBs, below_step → zBt, blk_drewN → zKn, blk_drew → zKd, blk_alloc → zKa, blk_below → zKb, blk_cell → zKc, blk_frozen → zKf
open List renaming setIfInBounds_toArray → zSa, set_cons_zero → zSb, set_cons_succ → zSc, length_drop → zLd, length_take → zLt, map_toArray → zMa, map_cons → zMc, map_nil → zMn, length_cons → zLc, length_nil → zLn
open Go.Proofs.YtkiemlbobcklpaaW.PrintWords.Aside0 renaming mk → zMk
open Option renaming bind_eq_some_iff → zBi, bind_some → zOb
open Option.some renaming inj → zOi
open Int renaming toNat_natCast → zTn

def filigreeref06_all.l0 : Nat → Int → Int → List Bool → Int → Option (List Bool)
  | 0, _, _, _, _ => none
  | k + 1, x0, x1, x5, x6 => if x6 < x0 then (if 0 ≤ x6 then (if x6 < (x5.length : Int) then (filigreeref06_all.l0 k x0 x1 (x5.set (x6 : Int).toNat (x6 != x1)) (wrap64 (x6 + 1))) else (none)) else (none)) else (some x5)
def filigreeref06_all.f (k : Nat) (a0 : Int) (a1 : Int) : Option (List Bool) := if 0 ≤ a0 then (if (a0 : Int).toNat ≤ 281474976710656 then (filigreeref06_all.l0 k a0 a1 (List.replicate (a0 : Int).toNat false) 0) else (none)) else (none)
theorem filigreeref06_all.calls (k : Nat) (a0 : Int) (a1 : Int) (r : List Bool) (w : World) (h : filigreeref06_all.f k a0 a1 = some r) :
    Calls Try.prog 34 #[.int .i64 a0, .int .i64 a1] w fun e w' => ∃ v0_ : Value, e = .returned (v0_) ∧ Kd.R Kd.bool 4 w' w.heap.size (fun _ => True) v0_ r ∧ Below w.heap.size w w' := by
  have HB := zMk (Below.refl w.heap.size w)
  have H : (if 0 ≤ a0 then (if (a0 : Int).toNat ≤ 281474976710656 then (filigreeref06_all.l0 k a0 a1 (List.replicate (a0 : Int).toNat false) 0) else (none)) else (none)) = some r := h
  clear h
  by_cases c3 : 0 ≤ a0
  · rw [if_pos c3] at H
    have c3b0 := eq_true c3
    have c3b1 : decide (0 ≤ a0) = true := decide_eq_true c3
    clear c3
    by_cases c4 : (a0 : Int).toNat ≤ 281474976710656
    rotate_left
    · rw [if_neg c4] at H; exact absurd H (by simp)
    rw [if_pos c4] at H
    have c4b0 := eq_true c4
    have c4b1 : decide ((a0 : Int).toNat ≤ 281474976710656) = true := decide_eq_true c4
    clear c4
    obtain ⟨y398, hy398⟩ : ∃ y_ : List Bool, y_ = (List.replicate (a0 : Int).toNat false) := ⟨_, rfl⟩
    replace H : (filigreeref06_all.l0 k a0 a1 y398 0) = some r := by first | (rw [hy398]; with_reducible exact H) | (have H2_ := bsm H; first | (rw [hy398]; with_reducible exact H2_) | with_reducible exact H2_) | with_reducible exact H | (rw [hy398]; exact H) | exact H
    have Ny398 := zMk hy398
    clear hy398
    have H' := zMk H
    clear H
    go_enter Try.func34, Try.ntmps34
    go_wp2_with (first | ((with_reducible refine gate_dst (N := 8) rfl ?_); refine Kd.R_make Kd.bool _ 4 rfl (N := 8) rfl 36 _ _ rfl a0 rfl rfl Try.underlying36 (.bool false) 1 info4 rfl (by decide) (by omega) false (ok := fun _ => True) (okp := fun _ => True) rfl (fun _ hk => hk) trivial (of_decide_eq_true (by first | (with_reducible assumption)|  assumption)) (Nat.le_trans (Nat.mul_le_mul_right _ (of_decide_eq_true (by first | (with_reducible assumption)|  assumption) : a0.toNat ≤ 281474976710656)) (by omega)) (Below.refl _ _) (Nat.le_refl _) ?_; intro v399 w5 ho6 hb hg_ hnew_; clear hg_ hnew_; (first |  rw [← Ny398.out] at ho6|  (simp only [Int.reduceToNat] at ho6; rw [← Ny398.out] at ho6)); have HO400 := zMk (zRl ho6 (zBs (by exact uT HB.out))); replace HB := zMk (zBt (by exact uT HB.out) hb); clear hb ho6))
    go_loopg [6] k (fun kq v6 w' => ∃ (x5_1 : List Bool) (x6_1 : Int), v6 = .int .i64 x6_1 ∧ Aside0 (filigreeref06_all.l0 kq a0 a1 x5_1 x6_1 = some r) ∧ Aside0 (kq ≤ k) ∧ Aside0 (Kd.R Kd.bool 4 w' w.heap.size (fun _ => True) v399 x5_1) ∧ Aside0 (Below w.heap.size w w'))
    case atStart => exact ⟨(y398), (0), (by first | rfl | (simp; done) | (simp [*]; done)), H', ⟨Nat.le_refl _⟩, ⟨by exact uR HO400.out⟩, ⟨by exact uT HB.out⟩⟩
    clear H'
    obtain ⟨x5_1, x6_1, rfl, HA, HK1, HO_5, HB⟩ := hrel
    rcases gk with _ | k1
    · exact absurd HA.out (by simp [filigreeref06_all.l0])
    have H := HA.out
    clear HA
    simp only [filigreeref06_all.l0] at H
    by_cases c7 : x6_1 < a0
    · rw [if_pos c7] at H
      have c7b0 : decide (x6_1 < a0) = true := decide_eq_true c7
      clear c7
      by_cases c8 : 0 ≤ x6_1
      rotate_left
      · rw [if_neg c8] at H; exact absurd H (by simp)
      rw [if_pos c8] at H
      have c8b0 : decide (0 ≤ x6_1) = true := decide_eq_true c8
      clear c8
      by_cases c9 : x6_1 < (x5_1.length : Int)
      rotate_left
      · rw [if_neg c9] at H; exact absurd H (by simp)
      rw [if_pos c9] at H
      have c9b0 : decide (x6_1 < (x5_1.length : Int)) = true := decide_eq_true c9
      clear c9
      obtain ⟨y401, hy401⟩ : ∃ y_ : List Bool, y_ = (x5_1.set (x6_1 : Int).toNat (x6_1 != a1)) := ⟨_, rfl⟩
      replace H : (filigreeref06_all.l0 k1 a0 a1 y401 (wrap64 (x6_1 + 1))) = some r := by first | (rw [hy401]; with_reducible exact H) | (have H2_ := bsm H; first | (rw [hy401]; with_reducible exact H2_) | with_reducible exact H2_) | with_reducible exact H | (rw [hy401]; exact H) | exact H
      have Ny401 := zMk hy401
      clear hy401
      have H' := zMk H
      clear H
      have p10 : 0 ≤ (x6_1 : Int) := of_decide_eq_true (by assumption)
      have q10 : (x6_1 : Int) < ((x5_1.length : Int) : Int) := of_decide_eq_true (by assumption)
      obtain ⟨go10, co10, eo10, gb10, gl10, cl10, HG10⟩ := Kd.R_form HO_5.out (by omega)
      (first |  cases eo10|  (injection eo10 with ea_ en_ ec_; (first |  subst ea_|  (injection ea_ with ea_; subst ea_)); subst ec_; clear en_))
      have GB10 := zMk gb10
      have IGB10 := ownGe GB10.out
      have GG10 := zMk HG10
      clear gb10 gl10 HG10
      obtain ⟨hx10_0, hf10_0⟩ := Kd.R_celln false HO_5.out (x6_1 : Int) p10 q10
      replace p10 := eq_true p10
      replace q10 := eq_true q10
      have HP11 := Kd.R_putg HO_5.out (x6_1 : Int) (x6_1 != a1)
      go_wp2_with (first | ((with_reducible refine gate_store (t := 4) (p := 19) rfl ?_); refine store_event (t := 4) (p := 19) (v := ?vo_w12) (w1 := (wr.setCell ⟨go10, (x6_1 : Int).toNat, none⟩ (.bool (x6_1 != a1)))) ?hg ?ho ?hn ?hr ?_; (case ho => rfl); (case hg => rfl); (case hn => rfl); (case hr => first | (go_simp; done)|(go_simp; rfl)|(go_simp; rw [show ∀ x : Int, IntKind.u32.wrap (IntKind.u8.wrap x) = x % 256 from fun x => (by show (x % 256) % 4294967296 = x % 256; omega)])); intro w12 hw; have hg : wr.grownBy w12 (some go10) := (by rw [hw]; exact HP11.2); have hp_ : Kd.R Kd.bool 4 w12 w.heap.size (fun _ => True) (.slice (some ⟨go10, 0, none⟩) x5_1.length co10) y401 := (by rw [hw, Ny401.out]; exact HP11.1); clear HP11; replace HO_5 := zMk (hp_); replace HB := zMk ((by rw [hw]; exact below_set (HB.out) GB10.out : Below w.heap.size w w12)); clear hg hw hp_))
      go_roundg k1
      case measure => have := HK1.out; omega
      case rel => exact ⟨(y401), (wrap64 (x6_1 + 1)), (by first | rfl | (simp; done) | (simp [*]; done)), H', ⟨by have := HK1.out; omega⟩, ⟨by exact uR HO_5.out⟩, ⟨by exact uT HB.out⟩⟩
    · rw [if_neg c7] at H
      have c7b0 : decide (x6_1 < a0) = false := decide_eq_false c7
      clear c7
      obtain rfl := zOi H
      go_wp2
      go_ret
      exact ⟨_, by first | rfl | (simp [errW_none, errW_some] <;> rfl) | (simp [*, errW_none, errW_some] <;> rfl), by exact uR HO_5.out, by exact uT HB.out⟩
  · rw [if_neg c3] at H
    exact absurd H (by simp)


def filigreeref06_other.f (a0_0 : Int) (a0_1 : Int) (a0_2 : Int) (a1 : Int) : Option (Int × Bool) := if a0_0 = a1 then (some (a0_1, true)) else (some (a0_0, (a0_1 == a1)))
theorem filigreeref06_other.calls (a0_0 : Int) (a0_1 : Int) (a0_2 : Int) (a1 : Int) (r1 : Int) (r2 : Bool) (w : World) (h : filigreeref06_other.f a0_0 a0_1 a0_2 a1 = some (r1, r2)) :
    Calls Try.prog 36 #[.agg #[.int .i64 a0_0, .int .i64 a0_1, .int .i64 a0_2], .int .i64 a1] w fun e w' => e = .returned (.tuple #[.int .i64 r1, .bool r2]) ∧ Below w.heap.size w w' := by
  have hu43 := Try.underlying43
  have HB := zMk (Below.refl w.heap.size w)
  have H : (if a0_0 = a1 then (some (a0_1, true)) else (some (a0_0, (a0_1 == a1)))) = some (r1, r2) := h
  clear h
  by_cases c3 : a0_0 = a1
  · rw [if_pos c3] at H
    have c3b0 : (a0_0 == a1) = true := beq_iff_eq.mpr c3
    have c3b1 : (a0_0 != a1) = false := bne_eq_false_iff_eq.mpr c3
    clear c3
    simp only [Option.some.injEq, Prod.mk.injEq] at H
    obtain ⟨rfl, rfl⟩ := H
    go_enter Try.func36, Try.ntmps36
    go_wp2_with (first | ((with_reducible refine gate_dst (N := 2) rfl ?_); refine box_event ?hg (N := 2) ?hd (cs := #[.int .i64 a0_0, .int .i64 a0_1, .int .i64 a0_2]) (t := 43) ?hr ?_; (case hd => rfl); (case hg => rfl); (case hr => first | (go_simp; done)|(go_simp; rfl)|(go_simp; rw [show ∀ x : Int, IntKind.u32.wrap (IntKind.u8.wrap x) = x % 256 from fun x => (by show (x % 256) % 4294967296 = x % 256; omega)])); intro gb402 hg w4 hbox hb; have BK402 := zMk (hbox); have GW402 := zMk ((by rw [hg]; exact (zBs (by exact uT HB.out)) : w.heap.size ≤ gb402)); have GE402 := zMk ((by rw [hg]; exact (zBs (by exact uT HB.out)) : w.heap.size ≤ gb402)); have IGE402 := ownGe GE402.out; replace HB := zMk (zBt (by exact uT HB.out) hb); clear hb hbox hg; have hcz5_0 : w4.cell? ⟨gb402, 0, none⟩ = some (.int .i64 a0_0) := (zKc BK402.out 0).trans rfl; have hcz5_1 : w4.cell? ⟨gb402, 1, none⟩ = some (.int .i64 a0_1) := (zKc BK402.out 1).trans rfl; have hcz5_2 : w4.cell? ⟨gb402, 2, none⟩ = some (.int .i64 a0_2) := (zKc BK402.out 2).trans rfl; have hfz5_0 := zKf BK402.out 0; have hfz5_1 := zKf BK402.out 1; have hfz5_2 := zKf BK402.out 2))
    repeat (go_quiet (first | ((with_reducible refine gate_dst (N := 2) rfl ?_); refine box_event ?hg (N := 2) ?hd (cs := #[.int .i64 a0_0, .int .i64 a0_1, .int .i64 a0_2]) (t := 43) ?hr ?_; (case hd => rfl); (case hg => rfl); (case hr => first | (go_simp; done)|(go_simp; rfl)|(go_simp; rw [show ∀ x : Int, IntKind.u32.wrap (IntKind.u8.wrap x) = x % 256 from fun x => (by show (x % 256) % 4294967296 = x % 256; omega)])); intro gb402 hg w4 hbox hb; have BK402 := zMk (hbox); have GW402 := zMk ((by rw [hg]; exact (zBs (by exact uT HB.out)) : w.heap.size ≤ gb402)); have GE402 := zMk ((by rw [hg]; exact (zBs (by exact uT HB.out)) : w.heap.size ≤ gb402)); have IGE402 := ownGe GE402.out; replace HB := zMk (zBt (by exact uT HB.out) hb); clear hb hbox hg; have hcz5_0 : w4.cell? ⟨gb402, 0, none⟩ = some (.int .i64 a0_0) := (zKc BK402.out 0).trans rfl; have hcz5_1 : w4.cell? ⟨gb402, 1, none⟩ = some (.int .i64 a0_1) := (zKc BK402.out 1).trans rfl; have hcz5_2 : w4.cell? ⟨gb402, 2, none⟩ = some (.int .i64 a0_2) := (zKc BK402.out 2).trans rfl; have hfz5_0 := zKf BK402.out 0; have hfz5_1 := zKf BK402.out 1; have hfz5_2 := zKf BK402.out 2)); try go_wp2_with (first | ((with_reducible refine gate_dst (N := 2) rfl ?_); refine box_event ?hg (N := 2) ?hd (cs := #[.int .i64 a0_0, .int .i64 a0_1, .int .i64 a0_2]) (t := 43) ?hr ?_; (case hd => rfl); (case hg => rfl); (case hr => first | (go_simp; done)|(go_simp; rfl)|(go_simp; rw [show ∀ x : Int, IntKind.u32.wrap (IntKind.u8.wrap x) = x % 256 from fun x => (by show (x % 256) % 4294967296 = x % 256; omega)])); intro gb402 hg w4 hbox hb; have BK402 := zMk (hbox); have GW402 := zMk ((by rw [hg]; exact (zBs (by exact uT HB.out)) : w.heap.size ≤ gb402)); have GE402 := zMk ((by rw [hg]; exact (zBs (by exact uT HB.out)) : w.heap.size ≤ gb402)); have IGE402 := ownGe GE402.out; replace HB := zMk (zBt (by exact uT HB.out) hb); clear hb hbox hg; have hcz5_0 : w4.cell? ⟨gb402, 0, none⟩ = some (.int .i64 a0_0) := (zKc BK402.out 0).trans rfl; have hcz5_1 : w4.cell? ⟨gb402, 1, none⟩ = some (.int .i64 a0_1) := (zKc BK402.out 1).trans rfl; have hcz5_2 : w4.cell? ⟨gb402, 2, none⟩ = some (.int .i64 a0_2) := (zKc BK402.out 2).trans rfl; have hfz5_0 := zKf BK402.out 0; have hfz5_1 := zKf BK402.out 1; have hfz5_2 := zKf BK402.out 2)))
    go_ret2
    exact ⟨by first | rfl | (simp [errW_none, errW_some] <;> rfl) | (simp [*, errW_none, errW_some] <;> rfl), by exact uT HB.out⟩
  · rw [if_neg c3] at H
    have c3b0 : (a0_0 == a1) = false := beq_eq_false_iff_ne.mpr c3
    have c3b1 : (a0_0 != a1) = true := bne_iff_ne.mpr c3
    simp only [Option.some.injEq, Prod.mk.injEq] at H
    obtain ⟨rfl, rfl⟩ := H
    go_enter Try.func36, Try.ntmps36
    go_wp2_with (first | ((with_reducible refine gate_dst (N := 2) rfl ?_); refine box_event ?hg (N := 2) ?hd (cs := #[.int .i64 a0_0, .int .i64 a0_1, .int .i64 a0_2]) (t := 43) ?hr ?_; (case hd => rfl); (case hg => rfl); (case hr => first | (go_simp; done)|(go_simp; rfl)|(go_simp; rw [show ∀ x : Int, IntKind.u32.wrap (IntKind.u8.wrap x) = x % 256 from fun x => (by show (x % 256) % 4294967296 = x % 256; omega)])); intro gb402 hg w6 hbox hb; have BK402 := zMk (hbox); have GW402 := zMk ((by rw [hg]; exact (zBs (by exact uT HB.out)) : w.heap.size ≤ gb402)); have GE402 := zMk ((by rw [hg]; exact (zBs (by exact uT HB.out)) : w.heap.size ≤ gb402)); have IGE402 := ownGe GE402.out; replace HB := zMk (zBt (by exact uT HB.out) hb); clear hb hbox hg; have hcz7_0 : w6.cell? ⟨gb402, 0, none⟩ = some (.int .i64 a0_0) := (zKc BK402.out 0).trans rfl; have hcz7_1 : w6.cell? ⟨gb402, 1, none⟩ = some (.int .i64 a0_1) := (zKc BK402.out 1).trans rfl; have hcz7_2 : w6.cell? ⟨gb402, 2, none⟩ = some (.int .i64 a0_2) := (zKc BK402.out 2).trans rfl; have hfz7_0 := zKf BK402.out 0; have hfz7_1 := zKf BK402.out 1; have hfz7_2 := zKf BK402.out 2))
    repeat (go_quiet (first | ((with_reducible refine gate_dst (N := 2) rfl ?_); refine box_event ?hg (N := 2) ?hd (cs := #[.int .i64 a0_0, .int .i64 a0_1, .int .i64 a0_2]) (t := 43) ?hr ?_; (case hd => rfl); (case hg => rfl); (case hr => first | (go_simp; done)|(go_simp; rfl)|(go_simp; rw [show ∀ x : Int, IntKind.u32.wrap (IntKind.u8.wrap x) = x % 256 from fun x => (by show (x % 256) % 4294967296 = x % 256; omega)])); intro gb402 hg w6 hbox hb; have BK402 := zMk (hbox); have GW402 := zMk ((by rw [hg]; exact (zBs (by exact uT HB.out)) : w.heap.size ≤ gb402)); have GE402 := zMk ((by rw [hg]; exact (zBs (by exact uT HB.out)) : w.heap.size ≤ gb402)); have IGE402 := ownGe GE402.out; replace HB := zMk (zBt (by exact uT HB.out) hb); clear hb hbox hg; have hcz7_0 : w6.cell? ⟨gb402, 0, none⟩ = some (.int .i64 a0_0) := (zKc BK402.out 0).trans rfl; have hcz7_1 : w6.cell? ⟨gb402, 1, none⟩ = some (.int .i64 a0_1) := (zKc BK402.out 1).trans rfl; have hcz7_2 : w6.cell? ⟨gb402, 2, none⟩ = some (.int .i64 a0_2) := (zKc BK402.out 2).trans rfl; have hfz7_0 := zKf BK402.out 0; have hfz7_1 := zKf BK402.out 1; have hfz7_2 := zKf BK402.out 2)); try go_wp2_with (first | ((with_reducible refine gate_dst (N := 2) rfl ?_); refine box_event ?hg (N := 2) ?hd (cs := #[.int .i64 a0_0, .int .i64 a0_1, .int .i64 a0_2]) (t := 43) ?hr ?_; (case hd => rfl); (case hg => rfl); (case hr => first | (go_simp; done)|(go_simp; rfl)|(go_simp; rw [show ∀ x : Int, IntKind.u32.wrap (IntKind.u8.wrap x) = x % 256 from fun x => (by show (x % 256) % 4294967296 = x % 256; omega)])); intro gb402 hg w6 hbox hb; have BK402 := zMk (hbox); have GW402 := zMk ((by rw [hg]; exact (zBs (by exact uT HB.out)) : w.heap.size ≤ gb402)); have GE402 := zMk ((by rw [hg]; exact (zBs (by exact uT HB.out)) : w.heap.size ≤ gb402)); have IGE402 := ownGe GE402.out; replace HB := zMk (zBt (by exact uT HB.out) hb); clear hb hbox hg; have hcz7_0 : w6.cell? ⟨gb402, 0, none⟩ = some (.int .i64 a0_0) := (zKc BK402.out 0).trans rfl; have hcz7_1 : w6.cell? ⟨gb402, 1, none⟩ = some (.int .i64 a0_1) := (zKc BK402.out 1).trans rfl; have hcz7_2 : w6.cell? ⟨gb402, 2, none⟩ = some (.int .i64 a0_2) := (zKc BK402.out 2).trans rfl; have hfz7_0 := zKf BK402.out 0; have hfz7_1 := zKf BK402.out 1; have hfz7_2 := zKf BK402.out 2)))
    go_ret2
    exact ⟨by first | rfl | (simp [errW_none, errW_some] <;> rfl) | (simp [*, errW_none, errW_some] <;> rfl), by exact uT HB.out⟩


mutual
def filigreeref06_Blocks.l0 : Nat → List Int → Int → Int → List (S43) → Option ((List (List Int)))
  | 0, _, _, _, _ => none
  | k + 1, x3, x4, x404000, x404001 => if x4 < (x3.length : Int) then (if 0 ≤ x4 then (filigreeref06_Blocks.l0 k (x3.set (x4 : Int).toNat x4) (wrap64 (x4 + 1)) x404000 x404001) else (none)) else (filigreeref06_Blocks.l1 k x3 0 x404000 x404001)
def filigreeref06_Blocks.l1 : Nat → List Int → Int → Int → List (S43) → Option ((List (List Int)))
  | 0, _, _, _, _ => none
  | k + 1, x3, x5, x404000, x404001 => if x5 < x404000 then ((filigreeref06_all.f k x404000 x5).bind fun t408 => ((filigreeref04_Only.f k x404000 x404001 t408).bind fun bt411 => ((filigreeref06_Labels.f k bt411.1 bt411.2).bind fun t415 => (filigreeref06_Blocks.l2 k x3 x5 t415 0 x404000 x404001)))) else (filigreeref06_Blocks.l5 k x3 ([] : List (List Int)) 0)
def filigreeref06_Blocks.l2 : Nat → List Int → Int → List Int → Int → Int → List (S43) → Option ((List (List Int)))
  | 0, _, _, _, _, _, _ => none
  | k + 1, x3, x5, x6, x7, x404000, x404001 => if x7 < (x404001.length : Int) then (filigreeref06_Blocks.l3 k x3 x5 x6 x7 0 x404000 x404001) else (filigreeref06_Blocks.l1 k x3 (wrap64 (x5 + 1)) x404000 x404001)
def filigreeref06_Blocks.l3 : Nat → List Int → Int → List Int → Int → Int → Int → List (S43) → Option ((List (List Int)))
  | 0, _, _, _, _, _, _, _ => none
  | k + 1, x3, x5, x6, x7, x8, x404000, x404001 => if x8 < x7 then (if 0 ≤ x7 then (if x7 < (x404001.length : Int) then ((filigreeref06_other.f ((rd_T43 x404001 x7).f0) ((rd_T43 x404001 x7).f1) ((rd_T43 x404001 x7).f2) x5).bind fun bt419 => (if 0 ≤ x8 then (if x8 < (x404001.length : Int) then ((filigreeref06_other.f ((rd_T43 x404001 x8).f0) ((rd_T43 x404001 x8).f1) ((rd_T43 x404001 x8).f2) x5).bind fun bt422 => (if bt419.2 = true then (if bt422.2 = true then (if 0 ≤ bt419.1 then (if bt419.1 < (x6.length : Int) then (if 0 ≤ bt422.1 then (if bt422.1 < (x6.length : Int) then (if (rd x6 bt419.1) = (rd x6 bt422.1) then (if x7 < (x3.length : Int) then (if x8 < (x3.length : Int) then (filigreeref06_Blocks.j4 k x3 x5 x6 x7 x8 ((rd x3 x7) != (rd x3 x8)) x404000 x404001) else (none)) else (none)) else (filigreeref06_Blocks.j4 k x3 x5 x6 x7 x8 false x404000 x404001)) else (none)) else (none)) else (none)) else (none)) else (filigreeref06_Blocks.j4 k x3 x5 x6 x7 x8 false x404000 x404001)) else (filigreeref06_Blocks.j4 k x3 x5 x6 x7 x8 false x404000 x404001))) else (none)) else (none))) else (none)) else (none)) else (filigreeref06_Blocks.l2 k x3 x5 x6 (wrap64 (x7 + 1)) x404000 x404001)
def filigreeref06_Blocks.j4 : Nat → List Int → Int → List Int → Int → Int → Bool → Int → List (S43) → Option ((List (List Int)))
  | 0, _, _, _, _, _, _, _, _ => none
  | k + 1, x3, x5, x6, x7, x8, x104, x404000, x404001 => if x104 = true then (if 0 ≤ x7 then (if x7 < (x3.length : Int) then (if 0 ≤ x8 then (if x8 < (x3.length : Int) then (filigreeref06_Blocks.l4 k x3 x5 x6 x7 x8 (mn (rd x3 x7) (rd x3 x8)) (mx (rd x3 x7) (rd x3 x8)) 0 x404000 x404001) else (none)) else (none)) else (none)) else (none)) else (filigreeref06_Blocks.l3 k x3 x5 x6 x7 (wrap64 (x8 + 1)) x404000 x404001)
def filigreeref06_Blocks.l4 : Nat → List Int → Int → List Int → Int → Int → Int → Int → Int → Int → List (S43) → Option ((List (List Int)))
  | 0, _, _, _, _, _, _, _, _, _, _ => none
  | k + 1, x3, x5, x6, x7, x8, x13, x14, x15, x404000, x404001 => if x15 < (x3.length : Int) then (if 0 ≤ x15 then (if (rd x3 x15) = x14 then (filigreeref06_Blocks.l4 k (x3.set (x15 : Int).toNat x13) x5 x6 x7 x8 x13 x14 (wrap64 (x15 + 1)) x404000 x404001) else (filigreeref06_Blocks.l4 k x3 x5 x6 x7 x8 x13 x14 (wrap64 (x15 + 1)) x404000 x404001)) else (none)) else (filigreeref06_Blocks.l3 k x3 x5 x6 x7 (wrap64 (x8 + 1)) x404000 x404001)
def filigreeref06_Blocks.l5 : Nat → List Int → List (List Int) → Int → Option ((List (List Int)))
  | 0, _, _, _ => none
  | k + 1, x3, x16, x17 => if x17 < (x3.length : Int) then (if 0 ≤ x17 then (if (rd x3 x17) = x17 then (filigreeref06_Blocks.l6 k x3 x16 x17 ([] : List Int) x17) else (filigreeref06_Blocks.l5 k x3 x16 (wrap64 (x17 + 1)))) else (none)) else (some x16)
def filigreeref06_Blocks.l6 : Nat → List Int → List (List Int) → Int → List Int → Int → Option ((List (List Int)))
  | 0, _, _, _, _, _ => none
  | k + 1, x3, x16, x17, x18, x19 => if x19 < (x3.length : Int) then (if 0 ≤ x19 then (if (rd x3 x19) = x17 then (if x18.length < 17592186044416 then (filigreeref06_Blocks.l6 k x3 x16 x17 (x18 ++ [x19]) (wrap64 (x19 + 1))) else (none)) else (filigreeref06_Blocks.l6 k x3 x16 x17 x18 (wrap64 (x19 + 1)))) else (none)) else (if x16.length < 5864062014805 then (filigreeref06_Blocks.l5 k x3 (x16 ++ [x18]) (wrap64 (x17 + 1))) else (none))
end
def filigreeref06_Blocks.f (k : Nat) (a0_0 : Int) (l0_1 : List (S43)) : Option ((List (List Int))) := if 0 ≤ (l0_1.length : Int) then (if ((l0_1.length : Int) : Int).toNat ≤ 35184372088832 then (filigreeref06_Blocks.l0 k (List.replicate ((l0_1.length : Int) : Int).toNat 0) 0 a0_0 l0_1) else (none)) else (none)
def filigreeref06_Blocks.T9 : Bool × List (List Nat × List Nat) := (true, [([], []), ([], []), ([1], [1]), ([], []), ([2, 3], [2, 3]), ([0, 4, 4], [0, 4]), ([5, 5], [5]), ([6, 6, 0, 1, 2, 3, 4, 5, 6], [6])])
def filigreeref06_Blocks.B9 : List Nat := [0, 0, 2, 0, 14, 31, 63, 127]
theorem filigreeref06_Blocks.tab9 : rtab .any (opsOf Try.f20 9) = filigreeref06_Blocks.T9 := by kernel_rfl
theorem filigreeref06_Blocks.bits9 : waitsOk filigreeref06_Blocks.T9.2 filigreeref06_Blocks.B9 = true := by kernel_rfl
def filigreeref06_Blocks.T18 : Bool × List (List Nat × List Nat) := (true, [([], []), ([0], [0]), ([1], [1]), ([1, 2], [1, 2]), ([3, 1], [3]), ([4], [4]), ([4], [4]), ([5, 6, 4], [4, 5, 6]), ([7, 4], [4, 7]), ([4], [4]), ([4], [4]), ([9, 10, 4], [4, 9, 10]), ([11, 4], [4, 11]), ([8, 12, 4], [4, 8, 12]), ([4, 13], [4, 13]), ([14, 4], [14]), ([15], [15]), ([15], [15]), ([16, 17, 15], [15, 16, 17]), ([18, 15], [15, 18]), ([15], [15]), ([15], [15]), ([20, 21, 15], [15, 20, 21]), ([22, 15], [15, 22]), ([19, 23, 15], [15, 19, 23]), ([15, 24], [15, 24])])
def filigreeref06_Blocks.B18 : List Nat := [0, 1, 3, 7, 15, 31, 31, 127, 255, 31, 31, 1567, 3615, 8191, 16383, 32767, 65535, 65535, 262143, 524287, 65535, 65535, 3211263, 7405567, 16777215, 33554431]
theorem filigreeref06_Blocks.tab18 : rtab .any (opsOf Try.f20 18) = filigreeref06_Blocks.T18 := by kernel_rfl
theorem filigreeref06_Blocks.bits18 : waitsOk filigreeref06_Blocks.T18.2 filigreeref06_Blocks.B18 = true := by kernel_rfl
def filigreeref06_Blocks.T19 : Bool × List (List Nat × List Nat) := (true, [([], []), ([], []), ([0, 1], [0, 1]), ([2], [2]), ([], []), ([], []), ([4, 5], [4, 5]), ([6], [6]), ([3, 7], [3, 7]), ([], []), ([], []), ([9, 10], [9, 10]), ([11], [11]), ([], []), ([], []), ([13, 14], [13, 14]), ([15], [15]), ([12, 16], [12, 16]), ([8, 0, 1, 2, 3, 4, 5, 6, 7, 8], [8]), ([17, 18, 0, 1, 2, 3, 4, 5, 6, 7, 8, 9, 10, 11, 12, 13, 14, 15, 16, 17, 18], [17])])
def filigreeref06_Blocks.B19 : List Nat := [0, 0, 3, 7, 0, 0, 48, 112, 255, 0, 0, 1536, 3584, 0, 0, 24576, 57344, 130560, 511, 524287]
theorem filigreeref06_Blocks.tab19 : rtab .any (opsOf Try.f20 19) = filigreeref06_Blocks.T19 := by kernel_rfl
theorem filigreeref06_Blocks.bits19 : waitsOk filigreeref06_Blocks.T19.2 filigreeref06_Blocks.B19 = true := by kernel_rfl
theorem filigreeref06_Blocks.calls (k : Nat) (a0_0 : Int) (A0_1 : Option Addr) (c0_1 : Nat) (l0_1 : List (S43)) (r : List (List Int)) (w : World) (hr0_1 : Kd.C k43 w A0_1 l0_1.length l0_1) (hc0_1 : l0_1.length ≤ c0_1) (h : filigreeref06_Blocks.f k a0_0 l0_1 = some r) :
    Calls Try.prog 20 #[.agg #[.int .i64 a0_0, .slice A0_1 l0_1.length c0_1]] w fun e w' => ∃ v0_ : Value, e = .returned (v0_) ∧ Kd.S (Kd.slice 3 (Kd.int .i64)) 33 w' w.heap.size (fun _ => True) v0_ r ∧ Below w.heap.size w w' := by
  have hu24 := Try.underlying24
  have hu43 := Try.underlying43
  have HR0_1 := zMk hr0_1
  have HC0_1 := zMk hc0_1
  clear hr0_1 hc0_1
  have HB := zMk (Below.refl w.heap.size w)
  have H : (if 0 ≤ (l0_1.length : Int) then (if ((l0_1.length : Int) : Int).toNat ≤ 35184372088832 then (filigreeref06_Blocks.l0 k (List.replicate ((l0_1.length : Int) : Int).toNat 0) 0 a0_0 l0_1) else (none)) else (none)) = some r := h
  clear h
  by_cases c2 : 0 ≤ (l0_1.length : Int)
  · rw [if_pos c2] at H
    have c2b0 := eq_true c2
    have c2b1 : decide (0 ≤ (l0_1.length : Int)) = true := decide_eq_true c2
    clear c2
    by_cases c3 : ((l0_1.length : Int) : Int).toNat ≤ 35184372088832
    rotate_left
    · rw [if_neg c3] at H; exact absurd H (by simp)
    rw [if_pos c3] at H
    have c3b0 := eq_true c3
    have c3b1 : decide (((l0_1.length : Int) : Int).toNat ≤ 35184372088832) = true := decide_eq_true c3
    clear c3
    obtain ⟨y404, hy404⟩ : ∃ y_ : List Int, y_ = (List.replicate ((l0_1.length : Int) : Int).toNat 0) := ⟨_, rfl⟩
    replace H : (filigreeref06_Blocks.l0 k y404 0 a0_0 l0_1) = some r := by first | (rw [hy404]; with_reducible exact H) | (have H2_ := bsm H; first | (rw [hy404]; with_reducible exact H2_) | with_reducible exact H2_) | with_reducible exact H | (rw [hy404]; exact H) | exact H
    have Ny404 := zMk hy404
    clear hy404
    have H' := zMk H
    clear H
    go_enter Try.func20, Try.ntmps20
    go_wp2_with (first | ((with_reducible refine gate_dst (N := 1) rfl ?_); refine box_event ?hg (N := 1) ?hd (cs := #[.int .i64 a0_0, .slice A0_1 l0_1.length c0_1]) (t := 24) ?hr ?_; (case hd => rfl); (case hg => rfl); (case hr => first | (go_simp; done)|(go_simp; rfl)|(go_simp; rw [show ∀ x : Int, IntKind.u32.wrap (IntKind.u8.wrap x) = x % 256 from fun x => (by show (x % 256) % 4294967296 = x % 256; omega)])); intro gb403 hg w4 hbox hb; have BK403 := zMk (hbox); have GW403 := zMk ((by rw [hg]; exact (zBs (by exact uT HB.out)) : w.heap.size ≤ gb403)); have GE403 := zMk ((by rw [hg]; exact (zBs (by exact uT HB.out)) : w.heap.size ≤ gb403)); have IGE403 := ownGe GE403.out; replace HB := zMk (zBt (by exact uT HB.out) hb); clear hb hbox hg; have hcz5_0 : w4.cell? ⟨gb403, 0, none⟩ = some (.int .i64 a0_0) := (zKc BK403.out 0).trans rfl; have hcz5_1 : w4.cell? ⟨gb403, 1, none⟩ = some (.slice A0_1 l0_1.length c0_1) := (zKc BK403.out 1).trans rfl; have hfz5_0 := zKf BK403.out 0; have hfz5_1 := zKf BK403.out 1)|((with_reducible refine gate_dst (N := 23) rfl ?_); refine Kd.R_make (Kd.int .i64) _ 3 rfl (N := 23) rfl 33 _ _ rfl (l0_1.length : Int) rfl rfl Try.underlying33 (.int .i64 0) 8 info3 rfl (by decide) (by omega) 0 (ok := fun _ => True) (okp := fun _ => True) rfl (fun _ hk => hk) trivial (of_decide_eq_true (by first | (with_reducible assumption)|  assumption)) (Nat.le_trans (Nat.mul_le_mul_right _ (of_decide_eq_true (by first | (with_reducible assumption)|  assumption) : (l0_1.length : Int).toNat ≤ 35184372088832)) (by omega)) (Below.refl _ _) (Nat.le_refl _) ?_; intro v405 w6 ho7 hb hg_ hnew_; clear hg_ hnew_; (first |  rw [← Ny404.out] at ho7|  (simp only [Int.reduceToNat] at ho7; rw [← Ny404.out] at ho7)); have HO406 := zMk (zRl ho7 (zBs (by exact uT HB.out))); replace BK403 := zMk (zKb (g := gb403) (o := .cells #[.int .i64 a0_0, .slice A0_1 l0_1.length c0_1] 24 (0, 0)) (by (with_reducible repeat (first |  refine zKn ?_ _|  refine zKd ?_|  refine zKa ?_ _)); exact BK403.out) hb); replace HB := zMk (zBt (by exact uT HB.out) hb); clear hb ho7))
    go_loopg [4] k (fun kq v4 w' => ∃ (x3_1 : List Int) (x4_1 : Int), v4 = .int .i64 x4_1 ∧ Aside0 (filigreeref06_Blocks.l0 kq x3_1 x4_1 a0_0 l0_1 = some r) ∧ Aside0 (kq ≤ k) ∧ Aside0 (Kd.R (Kd.int .i64) 3 w' w.heap.size (fun _ => True) v405 x3_1) ∧ Aside0 (w'.heap[gb403]? = some (.cells #[.int .i64 a0_0, (.slice A0_1 l0_1.length c0_1)] 24 (0, 0))) ∧ Aside0 (Below w.heap.size w w'))
    case atStart => exact ⟨(y404), (0), (by first | rfl | (simp; done) | (simp [*]; done)), H', ⟨Nat.le_refl _⟩, ⟨by exact uR HO406.out⟩, ⟨by (with_reducible repeat (first | refine zKn ?_ _ | refine zKd ?_ | refine zKa ?_ _)); exact BK403.out⟩, ⟨by exact uT HB.out⟩⟩
    clear H'
    obtain ⟨x3_1, x4_1, rfl, HA, HK1, HO_3, BK403, HB⟩ := hrel
    rcases gk with _ | k1
    · exact absurd HA.out (by simp [filigreeref06_Blocks.l0])
    have H := HA.out
    clear HA
    simp only [filigreeref06_Blocks.l0] at H
    by_cases c8 : x4_1 < (x3_1.length : Int)
    · rw [if_pos c8] at H
      have c8b0 : decide (x4_1 < (x3_1.length : Int)) = true := decide_eq_true c8
      clear c8
      by_cases c9 : 0 ≤ x4_1
      rotate_left
      · rw [if_neg c9] at H; exact absurd H (by simp)
      rw [if_pos c9] at H
      have c9b0 : decide (0 ≤ x4_1) = true := decide_eq_true c9
      clear c9
      obtain ⟨y407, hy407⟩ : ∃ y_ : List Int, y_ = (x3_1.set (x4_1 : Int).toNat x4_1) := ⟨_, rfl⟩
      replace H : (filigreeref06_Blocks.l0 k1 y407 (wrap64 (x4_1 + 1)) a0_0 l0_1) = some r := by first | (rw [hy407]; with_reducible exact H) | (have H2_ := bsm H; first | (rw [hy407]; with_reducible exact H2_) | with_reducible exact H2_) | with_reducible exact H | (rw [hy407]; exact H) | exact H
      have Ny407 := zMk hy407
      clear hy407
      have H' := zMk H
      clear H
      obtain ⟨Ao11, co11, eo11⟩ := zRs HO_3.out
      subst eo11
      have p10 : 0 ≤ (x4_1 : Int) := of_decide_eq_true (by assumption)
      have q10 : (x4_1 : Int) < ((x3_1.length : Int) : Int) := of_decide_eq_true (by assumption)
      obtain ⟨go10, co10, eo10, gb10, gl10, cl10, HG10⟩ := Kd.R_form HO_3.out (by omega)
      (first |  cases eo10|  (injection eo10 with ea_ en_ ec_; (first |  subst ea_|  (injection ea_ with ea_; subst ea_)); subst ec_; clear en_))
      have GB10 := zMk gb10
      have IGB10 := ownGe GB10.out
      have GG10 := zMk HG10
      clear gb10 gl10 HG10
      obtain ⟨hx10_0, hf10_0⟩ := Kd.R_celln 0 HO_3.out (x4_1 : Int) p10 q10
      replace p10 := eq_true p10
      replace q10 := eq_true q10
      have HP12 := Kd.R_putg HO_3.out (x4_1 : Int) x4_1
      go_wp2_with (first | ((with_reducible refine gate_store (t := 3) (p := 33) rfl ?_); refine store_event (t := 3) (p := 33) (v := ?vo_w13) (w1 := (wr.setCell ⟨go10, (x4_1 : Int).toNat, none⟩ (.int .i64 x4_1))) ?hg ?ho ?hn ?hr ?_; (case ho => rfl); (case hg => rfl); (case hn => rfl); (case hr => first | (go_simp; done)|(go_simp; rfl)|(go_simp; rw [show ∀ x : Int, IntKind.u32.wrap (IntKind.u8.wrap x) = x % 256 from fun x => (by show (x % 256) % 4294967296 = x % 256; omega)])); intro w13 hw; have hg : wr.grownBy w13 (some go10) := (by rw [hw]; exact HP12.2); have hp_ : Kd.R (Kd.int .i64) 3 w13 w.heap.size (fun _ => True) (.slice (some ⟨go10, 0, none⟩) x3_1.length co11) y407 := (by rw [hw, Ny407.out]; exact HP12.1); clear HP12; replace BK403 := zMk (blk_grown (g := gb403) (o := .cells #[.int .i64 a0_0, .slice A0_1 l0_1.length c0_1] 24 (0, 0)) (by (with_reducible repeat (first |  refine zKn ?_ _|  refine zKd ?_|  refine zKa ?_ _)); exact BK403.out) hg (Kd.R_ne HO_3.out BK403.out (by decide))); replace HO_3 := zMk (hp_); replace HB := zMk ((by rw [hw]; exact below_set (HB.out) GB10.out : Below w.heap.size w w13)); clear hg hw hp_))
      go_roundg k1
      case measure => have := HK1.out; omega
      case rel => exact ⟨(y407), (wrap64 (x4_1 + 1)), (by first | rfl | (simp; done) | (simp [*]; done)), H', ⟨by have := HK1.out; omega⟩, ⟨by exact uR HO_3.out⟩, ⟨by (with_reducible repeat (first | refine zKn ?_ _ | refine zKd ?_ | refine zKa ?_ _)); exact BK403.out⟩, ⟨by exact uT HB.out⟩⟩
    · rw [if_neg c8] at H
      have c8b0 : decide (x4_1 < (x3_1.length : Int)) = false := decide_eq_false c8
      clear c8
      have H' := zMk H
      clear H
      obtain ⟨Ao14, co14, eo14⟩ := zRs HO_3.out
      subst eo14
      go_wp2
      go_loopg [5] k1 (fun kq v5 w' => ∃ (x3_2 : List Int) (x5_2 : Int), v5 = .int .i64 x5_2 ∧ Aside0 (filigreeref06_Blocks.l1 kq x3_2 x5_2 a0_0 l0_1 = some r) ∧ Aside0 (kq ≤ k1) ∧ Aside0 (Kd.R (Kd.int .i64) 3 w' w.heap.size (fun _ => True) (.slice Ao14 x3_1.length co14) x3_2) ∧ Aside0 (w'.heap[gb403]? = some (.cells #[.int .i64 a0_0, (.slice A0_1 l0_1.length c0_1)] 24 (0, 0))) ∧ Aside0 (Below w.heap.size w w'))
      case atStart => exact ⟨(x3_1), (0), (by first | rfl | (simp; done) | (simp [*]; done)), H', ⟨Nat.le_refl _⟩, ⟨by exact uR HO_3.out⟩, ⟨by (with_reducible repeat (first | refine zKn ?_ _ | refine zKd ?_ | refine zKa ?_ _)); exact BK403.out⟩, ⟨by exact uT HB.out⟩⟩
      clear H'
      obtain ⟨x3_2, x5_2, rfl, HA, HK2, HO_3, BK403, HB⟩ := hrel
      have hl3_2 := (zRr HO_3.out).1
      rw [hl3_2] at HO_3
      (try simp only [hl3_2])
      (try simp only [hl3_2] at BK403)
      rcases gk with _ | k2
      · exact absurd HA.out (by simp [filigreeref06_Blocks.l1])
      have H := HA.out
      clear HA
      simp only [filigreeref06_Blocks.l1] at H
      by_cases c15 : x5_2 < a0_0
      · rw [if_pos c15] at H
        have c15b0 : decide (x5_2 < a0_0) = true := decide_eq_true c15
        (try (have c15b0l := c15b0; simp only [hl3_2] at c15b0l))
        clear c15
        replace H := bnd H
        obtain ⟨t408, A160, H⟩ := H
        have A16 := zMk A160
        clear A160
        replace H := bnd H
        obtain ⟨⟨t411, t412⟩, A170, H⟩ := H
        replace H : ((filigreeref06_Labels.f k2 t411 t412).bind fun t415 => (filigreeref06_Blocks.l2 k2 x3_2 x5_2 t415 0 a0_0 l0_1)) = some r := H
        have A17 := zMk A170
        clear A170
        replace H := bnd H
        obtain ⟨t415, A180, H⟩ := H
        have A18 := zMk A180
        clear A180
        have H' := zMk H
        clear H
        have hcz19_0 : wr.cell? ⟨gb403, 0, none⟩ = some (.int .i64 a0_0) := (zKc BK403.out 0).trans rfl
        have hcz19_1 : wr.cell? ⟨gb403, 1, none⟩ = some (.slice A0_1 l0_1.length c0_1) := (zKc BK403.out 1).trans rfl
        have hfz19_0 := zKf BK403.out 0
        have hfz19_1 := zKf BK403.out 1
        try go_wp2
        replace HO_3 := zMk (zRd HO_3.out)
        replace BK403 := zMk (zKd BK403.out)
        replace HB := zMk (zBd HB.out)
        refine start_ (n := 8) (S := fun w' => w'.cell? ⟨gb403, 0, none⟩ = some (.int .i64 a0_0) ∧ w'.cell? ⟨gb403, 1, none⟩ = some (.slice A0_1 l0_1.length c0_1)) (ds := []) #[false, false, false, false, false, false, false, false] (by kernel_rfl) rfl rfl ⟨(zKc BK403.out 0).trans rfl, (zKc BK403.out 1).trans rfl⟩ (fun hHeld => ?_); refine with_tabW filigreeref06_Blocks.tab9 filigreeref06_Blocks.bits9 (fun HT_ HW_ => ?_)
        generalize wr.drew = w20 at HO_3 BK403 HB hHeld ⊢
        refine pure_ (i := 1) (N := some 41) (v := ?_) (a' := ?_) #[false, true, false, false, false, false, false, false] rfl rfl (any_of HT_.out (by kernel_rfl)) (fun _ _ _ h => h) (Or.inl ⟨by rfl, ?_⟩) ?_ ?_
        rotate_left
        · intro w'
          go_simp
          with_reducible rfl
        rotate_left
        · simp only [Act.put, zSa, zSb, zSc, i64_w, i32_w]
          rfl
        refine pure_ (i := 3) (N := some 43) (v := ?_) (a' := ?_) #[false, true, false, true, false, false, false, false] rfl rfl (any_of HT_.out (by kernel_rfl)) (fun _ _ _ h => h) (Or.inl ⟨by rfl, ?_⟩) ?_ ?_
        rotate_left
        · intro w'
          go_simp
          with_reducible rfl
        rotate_left
        · simp only [Act.put, zSa, zSb, zSc, i64_w, i32_w]
          rfl
        refine take_ (i := 0) (N := some 40) (v := ?_) (a' := ?_) #[true, true, false, true, false, false, false, false] rfl rfl (take_ofW HT_.out HW_.out (by kernel_rfl)) (fun _ _ _ h => h) (Or.inl ⟨by rfl, ?_⟩) hHeld ?_ ?_
        rotate_left
        · rintro w' ⟨s0, s1⟩
          go_simp
          with_reducible rfl
        rotate_left
        · simp only [Act.put, zSa, zSb, zSc, i64_w, i32_w]
          rfl
        refine take_ (i := 2) (N := some 42) (v := ?_) (a' := ?_) #[true, true, true, true, false, false, false, false] rfl rfl (take_ofW HT_.out HW_.out (by kernel_rfl)) (fun _ _ _ h => h) (Or.inl ⟨by rfl, ?_⟩) hHeld ?_ ?_
        rotate_left
        · rintro w' ⟨s0, s1⟩
          go_simp
          with_reducible rfl
        rotate_left
        · simp only [Act.put, zSa, zSb, zSc, i64_w, i32_w]
          rfl
        refine one_ (i := 4) (N := some 44) #[true, true, true, true, true, false, false, false] rfl rfl (one_of HT_.out (by kernel_rfl)) (by decide) (fun K hK => ?_)
        refine goes_ Try.func34 (by kernel_rfl) rfl #[.int .i64 a0_0, .int .i64 x5_2] (by rfl) rfl rfl (by (try simp only [zMa, zMc, zMn]); first | done | rfl | (simp only [zLd, zLt]; rfl)) ?_
        with_reducible refine (filigreeref06_all.calls k2 a0_0 x5_2 t408 _ A16.out).mono ?_
        rintro e w21 ⟨v409, rfl, ho0, hb⟩
        refine ⟨_, rfl, ?_⟩
        replace HO_3 := zMk (zRb (by exact uR HO_3.out) hb)
        have HO410 := zMk (zRl ho0 (zBs (by exact uT HB.out)))
        replace BK403 := zMk (zKb (g := gb403) (o := .cells #[.int .i64 a0_0, .slice A0_1 l0_1.length c0_1] 24 (0, 0)) (by (with_reducible repeat (first | refine zKn ?_ _ | refine zKd ?_ | refine zKa ?_ _)); exact BK403.out) hb)
        replace HB := zMk (zBt (by exact uT HB.out) hb)
        obtain ⟨Ao22, co22, eo22⟩ := zRs HO410.out
        (first |  subst eo22|  (injection eo22 with f1_ f2_ f3_; have f4_ := f1_.symm; have f5_ := f3_.symm; clear f1_ f2_ f3_; subst f4_; subst f5_))
        refine hK.out _ _ ⟨(zKc BK403.out 0).trans rfl, (zKc BK403.out 1).trans rfl⟩ (fun hHeld => ?_)
        clear hK K
        refine norm_ (a' := ?_) ?_ ?_
        rotate_left
        · show Act.put _ (some 44) _ = _
          simp only [Act.put, zSa, zSb, zSc, i64_w, i32_w]
          rfl
        refine one_ (i := 5) (N := some 45) #[true, true, true, true, true, true, false, false] rfl rfl (one_of HT_.out (by kernel_rfl)) (by decide) (fun K hK => ?_)
        refine goes_ Try.func33 (by kernel_rfl) rfl #[.agg #[.int .i64 a0_0, .slice A0_1 l0_1.length c0_1], .slice Ao22 t408.length co22] (by rfl) rfl rfl (by (try simp only [zMa, zMc, zMn]); first | done | rfl | (simp only [zLd, zLt]; rfl)) ?_
        with_reducible refine (filigreeref04_Only.calls k2 a0_0 _ _ l0_1 _ _ t408 t411 t412 _ ?side1 ?side2 ?side3 ?side4 A17.out).mono ?_
        (case side1 => repeat (first | exact (Kd.C_below HR0_1.out HB.out) | (with_reducible refine zCa ?_ _) | (with_reducible refine zCn ?_ _) | (with_reducible refine zCd ?_)))
        (case side2 => exact HC0_1.out)
        (case side3 => exact uC (zRr HO410.out).2.2)
        (case side4 => exact (zRr HO410.out).2.1)
        rintro e w23 ⟨v413, rfl, ho0, hb⟩
        refine ⟨_, rfl, ?_⟩
        replace HO_3 := zMk (zRb (by exact uR HO_3.out) hb)
        replace HO410 := zMk (zRb (by exact uR HO410.out) hb)
        have HO414 := zMk (zRl ho0 (zBs (by exact uT HB.out)))
        replace BK403 := zMk (zKb (g := gb403) (o := .cells #[.int .i64 a0_0, .slice A0_1 l0_1.length c0_1] 24 (0, 0)) (by (with_reducible repeat (first | refine zKn ?_ _ | refine zKd ?_ | refine zKa ?_ _)); exact BK403.out) hb)
        replace HB := zMk (zBt (by exact uT HB.out) hb)
        obtain ⟨Ao24, co24, eo24⟩ := zRs HO414.out
        (first |  subst eo24|  (injection eo24 with f1_ f2_ f3_; have f4_ := f1_.symm; have f5_ := f3_.symm; clear f1_ f2_ f3_; subst f4_; subst f5_))
        refine hK.out _ _ ⟨(zKc BK403.out 0).trans rfl, (zKc BK403.out 1).trans rfl⟩ (fun hHeld => ?_)
        clear hK K
        refine norm_ (a' := ?_) ?_ ?_
        rotate_left
        · show Act.put _ (some 45) _ = _
          simp only [Act.put, zSa, zSb, zSc, i64_w, i32_w]
          rfl
        refine one_ (i := 6) (N := some 46) #[true, true, true, true, true, true, true, false] rfl rfl (one_of HT_.out (by kernel_rfl)) (by decide) (fun K hK => ?_)
        refine goes_ Try.func30 (by kernel_rfl) rfl #[.agg #[.int .i64 t411, .slice Ao24 t412.length co24]] (by rfl) rfl rfl (by (try simp only [zMa, zMc, zMn]); first | done | rfl | (simp only [zLd, zLt]; rfl)) ?_
        with_reducible refine (filigreeref06_Labels.calls k2 t411 _ _ t412 t415 _ ?side1 ?side2 A18.out).mono ?_
        (case side1 => exact uC (zRr HO414.out).2.2)
        (case side2 => exact (zRr HO414.out).2.1)
        rintro e w25 ⟨v416, rfl, ho0, hb⟩
        refine ⟨_, rfl, ?_⟩
        replace HO410 := zMk (zRb (by exact uR HO410.out) hb)
        replace HO414 := zMk (zRb (by exact uR HO414.out) hb)
        have HO417 := zMk (zRl (zRw ho0 (zRt (by exact uR HO_3.out))) (zBs (by exact uT HB.out)))
        replace HO_3 := zMk (zRe (by exact uR HO_3.out) (zRz ho0) hb)
        replace BK403 := zMk (zKb (g := gb403) (o := .cells #[.int .i64 a0_0, .slice A0_1 l0_1.length c0_1] 24 (0, 0)) (by (with_reducible repeat (first | refine zKn ?_ _ | refine zKd ?_ | refine zKa ?_ _)); exact BK403.out) hb)
        replace HB := zMk (zBt (by exact uT HB.out) hb)
        refine hK.out _ _ ⟨(zKc BK403.out 0).trans rfl, (zKc BK403.out 1).trans rfl⟩ (fun hHeld => ?_)
        clear hK K
        refine norm_ (a' := ?_) ?_ ?_
        rotate_left
        · show Act.put _ (some 46) _ = _
          simp only [Act.put, zSa, zSb, zSc, i64_w, i32_w]
          rfl
        refine pure_ (i := 7) (N := some 6) (v := ?_) (a' := ?_) #[true, true, true, true, true, true, true, true] rfl rfl (any_of HT_.out (by kernel_rfl)) (fun _ _ _ h => h) (Or.inl ⟨by rfl, ?_⟩) ?_ ?_
        rotate_left
        · intro w'
          go_simp
          with_reducible rfl
        rotate_left
        · simp only [Act.put, zSa, zSb, zSc, i64_w, i32_w]
          rfl
        refine done_ (done_of HT_.out (by kernel_rfl)) ?_
        try go_wp2
        go_loopg [7] k2 (fun kq v7 w' => ∃ (x3_3 : List Int) (x7_3 : Int), v7 = .int .i64 x7_3 ∧ Aside0 (filigreeref06_Blocks.l2 kq x3_3 x5_2 t415 x7_3 a0_0 l0_1 = some r) ∧ Aside0 (kq ≤ k2) ∧ Aside0 (Kd.R (Kd.int .i64) 3 w' w.heap.size (fun k_ => some k_ ≠ (v416 : Value).ownBlock) (.slice Ao14 x3_2.length co14) x3_3) ∧ Aside0 (Kd.R (Kd.int .i64) 3 w' w.heap.size (fun k_ => some k_ ≠ ((.slice Ao14 x3_2.length co14) : Value).ownBlock) v416 t415) ∧ Aside0 (w'.heap[gb403]? = some (.cells #[.int .i64 a0_0, (.slice A0_1 l0_1.length c0_1)] 24 (0, 0))) ∧ Aside0 (Below w.heap.size w w'))
        case atStart => exact ⟨(x3_2), (0), (by first | rfl | (simp; done) | (simp [*]; done)), H', ⟨Nat.le_refl _⟩, ⟨by (try simp only [hl3_2]); (with_reducible repeat (first | apply zRa | apply zRn | apply zRd)); exact zRm HO_3.out (fun _ hk => hk.2)⟩, ⟨by (try simp only [hl3_2]); (with_reducible repeat (first | apply zRa | apply zRn | apply zRd)); exact zRm HO417.out (fun _ hk => hk.2)⟩, ⟨by (try simp only [hl3_2]); (with_reducible repeat (first | refine zKn ?_ _ | refine zKd ?_ | refine zKa ?_ _)); exact BK403.out⟩, ⟨by exact uT HB.out⟩⟩
        clear H'
        obtain ⟨x3_3, x7_3, rfl, HA, HK3, HO_3, HO_6, BK403, HB⟩ := hrel
        have hl3_3 := (zRr HO_3.out).1
        rw [hl3_3] at HO_3
        (try simp only [hl3_3])
        (try simp only [hl3_3] at BK403)
        (try simp only [hl3_3] at HO_6)
        rcases gk with _ | k3
        · exact absurd HA.out (by simp [filigreeref06_Blocks.l2])
        have H := HA.out
        clear HA
        simp only [filigreeref06_Blocks.l2] at H
        by_cases c26 : x7_3 < (l0_1.length : Int)
        · rw [if_pos c26] at H
          have c26b0 : decide (x7_3 < (l0_1.length : Int)) = true := decide_eq_true c26
          (try (have c26b0l := c26b0; simp only [hl3_2, hl3_3] at c26b0l))
          clear c26
          have H' := zMk H
          clear H
          have hcz27_0 : wr.cell? ⟨gb403, 0, none⟩ = some (.int .i64 a0_0) := (zKc BK403.out 0).trans rfl
          have hcz27_1 : wr.cell? ⟨gb403, 1, none⟩ = some (.slice A0_1 l0_1.length c0_1) := (zKc BK403.out 1).trans rfl
          have hfz27_0 := zKf BK403.out 0
          have hfz27_1 := zKf BK403.out 1
          go_wp2
          go_loopg [8] k3 (fun kq v8 w' => ∃ (x3_4 : List Int) (x8_4 : Int), v8 = .int .i64 x8_4 ∧ Aside0 (filigreeref06_Blocks.l3 kq x3_4 x5_2 t415 x7_3 x8_4 a0_0 l0_1 = some r) ∧ Aside0 (kq ≤ k3) ∧ Aside0 (Kd.R (Kd.int .i64) 3 w' w.heap.size (fun k_ => some k_ ≠ (v416 : Value).ownBlock) (.slice Ao14 x3_3.length co14) x3_4) ∧ Aside0 (Kd.R (Kd.int .i64) 3 w' w.heap.size (fun k_ => some k_ ≠ ((.slice Ao14 x3_3.length co14) : Value).ownBlock) v416 t415) ∧ Aside0 (w'.heap[gb403]? = some (.cells #[.int .i64 a0_0, (.slice A0_1 l0_1.length c0_1)] 24 (0, 0))) ∧ Aside0 (Below w.heap.size w w'))
          case atStart => exact ⟨(x3_3), (0), (by first | rfl | (simp; done) | (simp [*]; done)), H', ⟨Nat.le_refl _⟩, ⟨by (try simp only [hl3_2]); (try simp only [hl3_3]); exact uR HO_3.out⟩, ⟨by (try simp only [hl3_2]); (try simp only [hl3_3]); exact uR HO_6.out⟩, ⟨by (try simp only [hl3_2]); (try simp only [hl3_3]); (with_reducible repeat (first | refine zKn ?_ _ | refine zKd ?_ | refine zKa ?_ _)); exact BK403.out⟩, ⟨by exact uT HB.out⟩⟩
          clear H'
          obtain ⟨x3_4, x8_4, rfl, HA, HK4, HO_3, HO_6, BK403, HB⟩ := hrel
          have hl3_4 := (zRr HO_3.out).1
          rw [hl3_4] at HO_3
          (try simp only [hl3_4])
          (try simp only [hl3_4] at BK403)
          (try simp only [hl3_4] at HO_6)
          rcases gk with _ | k4
          · exact absurd HA.out (by simp [filigreeref06_Blocks.l3])
          have H := HA.out
          clear HA
          simp only [filigreeref06_Blocks.l3] at H
          by_cases c28 : x8_4 < x7_3
          · rw [if_pos c28] at H
            have c28b0 : decide (x8_4 < x7_3) = true := decide_eq_true c28
            (try (have c28b0l := c28b0; simp only [hl3_2, hl3_3, hl3_4] at c28b0l))
            clear c28
            by_cases c29 : 0 ≤ x7_3
            rotate_left
            · rw [if_neg c29] at H; exact absurd H (by simp)
            rw [if_pos c29] at H
            have c29b0 : decide (0 ≤ x7_3) = true := decide_eq_true c29
            (try (have c29b0l := c29b0; simp only [hl3_2, hl3_3, hl3_4] at c29b0l))
            clear c29
            by_cases c30 : x7_3 < (l0_1.length : Int)
            rotate_left
            · rw [if_neg c30] at H; exact absurd H (by simp)
            rw [if_pos c30] at H
            have c30b0 : decide (x7_3 < (l0_1.length : Int)) = true := decide_eq_true c30
            (try (have c30b0l := c30b0; simp only [hl3_2, hl3_3, hl3_4] at c30b0l))
            clear c30
            replace H := bnd H
            obtain ⟨⟨t419, t420⟩, A310, H⟩ := H
            replace H : (if 0 ≤ x8_4 then (if x8_4 < (l0_1.length : Int) then ((filigreeref06_other.f ((rd_T43 l0_1 x8_4).f0) ((rd_T43 l0_1 x8_4).f1) ((rd_T43 l0_1 x8_4).f2) x5_2).bind fun bt422 => (if t420 = true then (if bt422.2 = true then (if 0 ≤ t419 then (if t419 < (t415.length : Int) then (if 0 ≤ bt422.1 then (if bt422.1 < (t415.length : Int) then (if (rd t415 t419) = (rd t415 bt422.1) then (if x7_3 < (x3_4.length : Int) then (if x8_4 < (x3_4.length : Int) then (filigreeref06_Blocks.j4 k4 x3_4 x5_2 t415 x7_3 x8_4 ((rd x3_4 x7_3) != (rd x3_4 x8_4)) a0_0 l0_1) else (none)) else (none)) else (filigreeref06_Blocks.j4 k4 x3_4 x5_2 t415 x7_3 x8_4 false a0_0 l0_1)) else (none)) else (none)) else (none)) else (none)) else (filigreeref06_Blocks.j4 k4 x3_4 x5_2 t415 x7_3 x8_4 false a0_0 l0_1)) else (filigreeref06_Blocks.j4 k4 x3_4 x5_2 t415 x7_3 x8_4 false a0_0 l0_1))) else (none)) else (none)) = some r := H
            have A31 := zMk A310
            clear A310
            by_cases c32 : 0 ≤ x8_4
            rotate_left
            · rw [if_neg c32] at H; exact absurd H (by simp)
            rw [if_pos c32] at H
            have c32b0 : decide (0 ≤ x8_4) = true := decide_eq_true c32
            (try (have c32b0l := c32b0; simp only [hl3_2, hl3_3, hl3_4] at c32b0l))
            clear c32
            by_cases c33 : x8_4 < (l0_1.length : Int)
            rotate_left
            · rw [if_neg c33] at H; exact absurd H (by simp)
            rw [if_pos c33] at H
            have c33b0 : decide (x8_4 < (l0_1.length : Int)) = true := decide_eq_true c33
            (try (have c33b0l := c33b0; simp only [hl3_2, hl3_3, hl3_4] at c33b0l))
            clear c33
            replace H := bnd H
            obtain ⟨⟨t422, t423⟩, A340, H⟩ := H
            replace H : (if t420 = true then (if t423 = true then (if 0 ≤ t419 then (if t419 < (t415.length : Int) then (if 0 ≤ t422 then (if t422 < (t415.length : Int) then (if (rd t415 t419) = (rd t415 t422) then (if x7_3 < (x3_4.length : Int) then (if x8_4 < (x3_4.length : Int) then (filigreeref06_Blocks.j4 k4 x3_4 x5_2 t415 x7_3 x8_4 ((rd x3_4 x7_3) != (rd x3_4 x8_4)) a0_0 l0_1) else (none)) else (none)) else (filigreeref06_Blocks.j4 k4 x3_4 x5_2 t415 x7_3 x8_4 false a0_0 l0_1)) else (none)) else (none)) else (none)) else (none)) else (filigreeref06_Blocks.j4 k4 x3_4 x5_2 t415 x7_3 x8_4 false a0_0 l0_1)) else (filigreeref06_Blocks.j4 k4 x3_4 x5_2 t415 x7_3 x8_4 false a0_0 l0_1)) = some r := H
            have A34 := zMk A340
            clear A340
            have HC35 := zMk H
            clear H
            have hcz36_0 : wr.cell? ⟨gb403, 0, none⟩ = some (.int .i64 a0_0) := (zKc BK403.out 0).trans rfl
            have hcz36_1 : wr.cell? ⟨gb403, 1, none⟩ = some (.slice A0_1 l0_1.length c0_1) := (zKc BK403.out 1).trans rfl
            have hfz36_0 := zKf BK403.out 0
            have hfz36_1 := zKf BK403.out 1
            have p418 : 0 ≤ (x7_3 : Int) := of_decide_eq_true (by assumption)
            have q418 : x7_3 < (l0_1.length : Int) := of_decide_eq_true (by assumption)
            obtain ⟨ad418, e418, hx418_0, hx418_1, hx418_2⟩ := at_T43 HR0_1.out x7_3 p418 q418
            cases e418
            replace hx418_0 := (HB.out.cell (World.block_lt_of_cell? w _ hx418_0)).trans hx418_0
            replace hx418_1 := (HB.out.cell (World.block_lt_of_cell? w _ hx418_1)).trans hx418_1
            replace hx418_2 := (HB.out.cell (World.block_lt_of_cell? w _ hx418_2)).trans hx418_2
            replace p418 := eq_true p418
            replace q418 := eq_true q418
            go_upto_region 18 with (first | ((with_reducible refine gate_callee (f := 36) rfl ?_); refine goesL_ (some 66) rfl rfl Try.func36 (by kernel_rfl) rfl #[.agg #[.int .i64 ((rd_T43 l0_1 x7_3).f0), .int .i64 ((rd_T43 l0_1 x7_3).f1), .int .i64 ((rd_T43 l0_1 x7_3).f2)], .int .i64 x5_2] rfl (by (try simp only [zMa, zMc, zMn]); first |  done|  rfl|  (simp only [zLd, zLt]; rfl)) ?_; (with_reducible refine (filigreeref06_other.calls ((rd_T43 l0_1 x7_3).f0) ((rd_T43 l0_1 x7_3).f1) ((rd_T43 l0_1 x7_3).f2) x5_2 t419 t420 _ A31.out).mono ?_); rintro e w37 ⟨rfl, hb⟩; refine ⟨_, rfl, ?_⟩; replace HO_3 := zMk (zRb (by exact uR HO_3.out) hb); replace HO_6 := zMk (zRb (by exact uR HO_6.out) hb); replace BK403 := zMk (zKb (g := gb403) (o := .cells #[.int .i64 a0_0, .slice (some ad418) l0_1.length c0_1] 24 (0, 0)) (by (with_reducible repeat (first |  refine zKn ?_ _|  refine zKd ?_|  refine zKa ?_ _)); exact BK403.out) hb); replace HB := zMk (zBt (by exact uT HB.out) hb); have hcz38_0 : w37.cell? ⟨gb403, 0, none⟩ = some (.int .i64 a0_0) := (zKc BK403.out 0).trans rfl; have hcz38_1 : w37.cell? ⟨gb403, 1, none⟩ = some (.slice (some ad418) l0_1.length c0_1) := (zKc BK403.out 1).trans rfl; have hfz38_0 := zKf BK403.out 0; have hfz38_1 := zKf BK403.out 1; have p421 : 0 ≤ (x8_4 : Int) := of_decide_eq_true (by first | (with_reducible assumption)|  assumption); have q421 : x8_4 < (l0_1.length : Int) := of_decide_eq_true (by first | (with_reducible assumption)|  assumption); obtain ⟨ad421, e421, hx421_0, hx421_1, hx421_2⟩ := at_T43 HR0_1.out x8_4 p421 q421; obtain rfl : ad418 = ad421 := (by injection e421); replace hx421_0 := (HB.out.cell (World.block_lt_of_cell? w _ hx421_0)).trans hx421_0; replace hx421_1 := (HB.out.cell (World.block_lt_of_cell? w _ hx421_1)).trans hx421_1; replace hx421_2 := (HB.out.cell (World.block_lt_of_cell? w _ hx421_2)).trans hx421_2; replace p421 := eq_true p421; replace q421 := eq_true q421)|((with_reducible refine gate_callee (f := 36) rfl ?_); refine goesL_ (some 76) rfl rfl Try.func36 (by kernel_rfl) rfl #[.agg #[.int .i64 ((rd_T43 l0_1 x8_4).f0), .int .i64 ((rd_T43 l0_1 x8_4).f1), .int .i64 ((rd_T43 l0_1 x8_4).f2)], .int .i64 x5_2] rfl (by (try simp only [zMa, zMc, zMn]); first |  done|  rfl|  (simp only [zLd, zLt]; rfl)) ?_; (with_reducible refine (filigreeref06_other.calls ((rd_T43 l0_1 x8_4).f0) ((rd_T43 l0_1 x8_4).f1) ((rd_T43 l0_1 x8_4).f2) x5_2 t422 t423 _ A34.out).mono ?_); rintro e w39 ⟨rfl, hb⟩; refine ⟨_, rfl, ?_⟩; replace HO_3 := zMk (zRb (by exact uR HO_3.out) hb); replace HO_6 := zMk (zRb (by exact uR HO_6.out) hb); replace BK403 := zMk (zKb (g := gb403) (o := .cells #[.int .i64 a0_0, .slice (some ad418) l0_1.length c0_1] 24 (0, 0)) (by (with_reducible repeat (first |  refine zKn ?_ _|  refine zKd ?_|  refine zKa ?_ _)); exact BK403.out) hb); replace HB := zMk (zBt (by exact uT HB.out) hb)))
            (try simp only [Act.put, zSa, zSb, zSc])
            go_cut [104] (fun v104 wc => ∃ (kq : Nat) (x104_34 : Bool), v104 = .bool x104_34 ∧ Aside0 (filigreeref06_Blocks.j4 kq x3_4 x5_2 t415 x7_3 x8_4 x104_34 a0_0 l0_1 = some r) ∧ Aside0 (kq ≤ k4) ∧ Aside0 (Kd.R (Kd.int .i64) 3 wc w.heap.size (fun k_ => some k_ ≠ (v416 : Value).ownBlock) (.slice Ao14 x3_4.length co14) x3_4) ∧ Aside0 (Kd.R (Kd.int .i64) 3 wc w.heap.size (fun k_ => some k_ ≠ ((.slice Ao14 x3_4.length co14) : Value).ownBlock) v416 t415) ∧ Aside0 (wc.heap[gb403]? = some (.cells #[.int .i64 a0_0, (.slice (some ad418) l0_1.length c0_1)] 24 (0, 0))) ∧ Aside0 (Below w.heap.size w wc))
            case first =>
              have H := HC35.out
              clear HC35
              by_cases c40 : t420 = true
              · subst c40
                replace H : (if t423 = true then (if 0 ≤ t419 then (if t419 < (t415.length : Int) then (if 0 ≤ t422 then (if t422 < (t415.length : Int) then (if (rd t415 t419) = (rd t415 t422) then (if x7_3 < (x3_4.length : Int) then (if x8_4 < (x3_4.length : Int) then (filigreeref06_Blocks.j4 k4 x3_4 x5_2 t415 x7_3 x8_4 ((rd x3_4 x7_3) != (rd x3_4 x8_4)) a0_0 l0_1) else (none)) else (none)) else (filigreeref06_Blocks.j4 k4 x3_4 x5_2 t415 x7_3 x8_4 false a0_0 l0_1)) else (none)) else (none)) else (none)) else (none)) else (filigreeref06_Blocks.j4 k4 x3_4 x5_2 t415 x7_3 x8_4 false a0_0 l0_1)) = some r := by rw [if_pos rfl] at H; exact H
                by_cases c41 : t423 = true
                · subst c41
                  replace H : (if 0 ≤ t419 then (if t419 < (t415.length : Int) then (if 0 ≤ t422 then (if t422 < (t415.length : Int) then (if (rd t415 t419) = (rd t415 t422) then (if x7_3 < (x3_4.length : Int) then (if x8_4 < (x3_4.length : Int) then (filigreeref06_Blocks.j4 k4 x3_4 x5_2 t415 x7_3 x8_4 ((rd x3_4 x7_3) != (rd x3_4 x8_4)) a0_0 l0_1) else (none)) else (none)) else (filigreeref06_Blocks.j4 k4 x3_4 x5_2 t415 x7_3 x8_4 false a0_0 l0_1)) else (none)) else (none)) else (none)) else (none)) = some r := by rw [if_pos rfl] at H; exact H
                  by_cases c42 : 0 ≤ t419
                  rotate_left
                  · rw [if_neg c42] at H; exact absurd H (by simp)
                  rw [if_pos c42] at H
                  have c42b0 : decide (0 ≤ t419) = true := decide_eq_true c42
                  (try (have c42b0l := c42b0; simp only [hl3_2, hl3_3, hl3_4] at c42b0l))
                  clear c42
                  (first | rw [c42b0] | (simp only [i64_w, i32_w]; rw [c42b0]) | rw [c42b1] | skip)
                  by_cases c43 : t419 < (t415.length : Int)
                  rotate_left
                  · rw [if_neg c43] at H; exact absurd H (by simp)
                  rw [if_pos c43] at H
                  have c43b0 : decide (t419 < (t415.length : Int)) = true := decide_eq_true c43
                  (try (have c43b0l := c43b0; simp only [hl3_2, hl3_3, hl3_4] at c43b0l))
                  clear c43
                  by_cases c44 : 0 ≤ t422
                  rotate_left
                  · rw [if_neg c44] at H; exact absurd H (by simp)
                  rw [if_pos c44] at H
                  have c44b0 : decide (0 ≤ t422) = true := decide_eq_true c44
                  (try (have c44b0l := c44b0; simp only [hl3_2, hl3_3, hl3_4] at c44b0l))
                  clear c44
                  by_cases c45 : t422 < (t415.length : Int)
                  rotate_left
                  · rw [if_neg c45] at H; exact absurd H (by simp)
                  rw [if_pos c45] at H
                  have c45b0 : decide (t422 < (t415.length : Int)) = true := decide_eq_true c45
                  (try (have c45b0l := c45b0; simp only [hl3_2, hl3_3, hl3_4] at c45b0l))
                  clear c45
                  by_cases c46 : (rd t415 t419) = (rd t415 t422)
                  · rw [if_pos c46] at H
                    have c46b0 : ((rd t415 t419) == (rd t415 t422)) = true := beq_iff_eq.mpr c46
                    (try (have c46b0l := c46b0; simp only [hl3_2, hl3_3, hl3_4] at c46b0l))
                    have c46b1 : ((rd t415 t419) != (rd t415 t422)) = false := bne_eq_false_iff_eq.mpr c46
                    (try (have c46b1l := c46b1; simp only [hl3_2, hl3_3, hl3_4] at c46b1l))
                    clear c46
                    by_cases c47 : x7_3 < (x3_4.length : Int)
                    rotate_left
                    · rw [if_neg c47] at H; exact absurd H (by simp)
                    rw [if_pos c47] at H
                    have c47b0 : decide (x7_3 < (x3_4.length : Int)) = true := decide_eq_true c47
                    (try (have c47b0l := c47b0; simp only [hl3_2, hl3_3, hl3_4] at c47b0l))
                    clear c47
                    by_cases c48 : x8_4 < (x3_4.length : Int)
                    rotate_left
                    · rw [if_neg c48] at H; exact absurd H (by simp)
                    rw [if_pos c48] at H
                    have c48b0 : decide (x8_4 < (x3_4.length : Int)) = true := decide_eq_true c48
                    (try (have c48b0l := c48b0; simp only [hl3_2, hl3_3, hl3_4] at c48b0l))
                    clear c48
                    have H' := zMk H
                    clear H
                    try go_wp2
                    replace HO_3 := zMk (zRd HO_3.out)
                    replace HO_6 := zMk (zRd HO_6.out)
                    replace BK403 := zMk (zKd BK403.out)
                    replace HB := zMk (zBd HB.out)
                    obtain ⟨Ao50, co50, eo50⟩ := zRs HO_6.out
                    (first |  subst eo50|  (injection eo50 with f1_ f2_ f3_; have f4_ := f1_.symm; have f5_ := f3_.symm; clear f1_ f2_ f3_; subst f4_; subst f5_))
                    have p424 : 0 ≤ (t419 : Int) := of_decide_eq_true (by assumption)
                    have q424 : t419 < (t415.length : Int) := of_decide_eq_true (by assumption)
                    obtain ⟨ad424, e424, hx424_0⟩ := zAi (zRr HO_6.out).2.2 t419 p424 q424
                    cases e424
                    replace p424 := eq_true p424
                    replace q424 := eq_true q424
                    have p425 : 0 ≤ (t422 : Int) := of_decide_eq_true (by assumption)
                    have q425 : t422 < (t415.length : Int) := of_decide_eq_true (by assumption)
                    obtain ⟨ad425, e425, hx425_0⟩ := zAi (zRr HO_6.out).2.2 t422 p425 q425
                    obtain rfl : ad424 = ad425 := (by injection e425)
                    replace p425 := eq_true p425
                    replace q425 := eq_true q425
                    have p426 : 0 ≤ (x7_3 : Int) := of_decide_eq_true (by assumption)
                    have q426 : x7_3 < (x3_4.length : Int) := of_decide_eq_true (by assumption)
                    obtain ⟨ad426, e426, hx426_0⟩ := zAi (zRr HO_3.out).2.2 x7_3 p426 q426
                    cases e426
                    replace p426 := eq_true p426
                    replace q426 := eq_true q426
                    have p427 : 0 ≤ (x8_4 : Int) := of_decide_eq_true (by assumption)
                    have q427 : x8_4 < (x3_4.length : Int) := of_decide_eq_true (by assumption)
                    obtain ⟨ad427, e427, hx427_0⟩ := zAi (zRr HO_3.out).2.2 x8_4 p427 q427
                    obtain rfl : ad426 = ad427 := (by injection e427)
                    replace p427 := eq_true p427
                    replace q427 := eq_true q427
                    refine start_ (n := 26) (S := fun w' => w'.cell? (ad424.add (t419).toNat) = some (.int .i64 (rd t415 t419)) ∧ w'.cell? (ad424.add (t422).toNat) = some (.int .i64 (rd t415 t422)) ∧ w'.cell? (ad426.add (x7_3).toNat) = some (.int .i64 (rd x3_4 x7_3)) ∧ w'.cell? (ad426.add (x8_4).toNat) = some (.int .i64 (rd x3_4 x8_4))) (ds := []) #[false, false, false, false, false, false, false, false, false, false, false, false, false, false, false, false, false, false, false, false, false, false, false, false, false, false] (by kernel_rfl) rfl rfl ⟨hx424_0, hx425_0, hx426_0, hx427_0⟩ (fun hHeld => ?_); refine with_tabW filigreeref06_Blocks.tab18 filigreeref06_Blocks.bits18 (fun HT_ HW_ => ?_)
                    generalize w39.drew = w49 at HO_3 HO_6 BK403 HB hx424_0 hx425_0 hx426_0 hx427_0 hHeld ⊢
                    refine pure_ (i := 0) (N := some 79) (v := ?_) (a' := ?_) #[true, false, false, false, false, false, false, false, false, false, false, false, false, false, false, false, false, false, false, false, false, false, false, false, false, false] rfl rfl (any_of HT_.out (by kernel_rfl)) (fun _ _ _ h => h) (Or.inl ⟨by rfl, ?_⟩) ?_ ?_
                    rotate_left
                    · intro w'
                      go_simp
                      with_reducible rfl
                    rotate_left
                    · simp only [Act.put, zSa, zSb, zSc, i64_w, i32_w]
                      rfl
                    refine pure_ (i := 1) (N := some 80) (v := ?_) (a' := ?_) #[true, true, false, false, false, false, false, false, false, false, false, false, false, false, false, false, false, false, false, false, false, false, false, false, false, false] rfl rfl (any_of HT_.out (by kernel_rfl)) (fun _ _ _ h => h) (Or.inl ⟨by rfl, ?_⟩) ?_ ?_
                    rotate_left
                    · intro w'
                      go_simp
                      with_reducible rfl
                    rotate_left
                    · simp only [Act.put, zSa, zSb, zSc, i64_w, i32_w]
                      rfl
                    refine pure_ (i := 2) (N := some 81) (v := ?_) (a' := ?_) #[true, true, true, false, false, false, false, false, false, false, false, false, false, false, false, false, false, false, false, false, false, false, false, false, false, false] rfl rfl (any_of HT_.out (by kernel_rfl)) (fun _ _ _ h => h) (Or.inl ⟨by rfl, ?_⟩) ?_ ?_
                    rotate_left
                    · intro w'
                      go_simp
                      with_reducible rfl
                    rotate_left
                    · simp only [Act.put, zSa, zSb, zSc, i64_w, i32_w]
                      rfl
                    refine pure_ (i := 3) (N := some 82) (v := ?_) (a' := ?_) #[true, true, true, true, false, false, false, false, false, false, false, false, false, false, false, false, false, false, false, false, false, false, false, false, false, false] rfl rfl (any_of HT_.out (by kernel_rfl)) (fun _ _ _ h => h) (Or.inl ⟨by rfl, ?_⟩) ?_ ?_
                    rotate_left
                    · intro w'
                      go_simp
                      with_reducible rfl
                    rotate_left
                    · simp only [Act.put, zSa, zSb, zSc, i64_w, i32_w]
                      rfl
                    refine pure_ (i := 4) (N := some 83) (v := ?_) (a' := ?_) #[true, true, true, true, true, false, false, false, false, false, false, false, false, false, false, false, false, false, false, false, false, false, false, false, false, false] rfl rfl (any_of HT_.out (by kernel_rfl)) (fun _ _ _ h => h) (Or.inl ⟨by rfl, ?_⟩) ?_ ?_
                    rotate_left
                    · intro w'
                      go_simp
                      with_reducible rfl
                    rotate_left
                    · simp only [Act.put, zSa, zSb, zSc, i64_w, i32_w]
                      rfl
                    refine pure_ (i := 5) (N := some 84) (v := ?_) (a' := ?_) #[true, true, true, true, true, true, false, false, false, false, false, false, false, false, false, false, false, false, false, false, false, false, false, false, false, false] rfl rfl (any_of HT_.out (by kernel_rfl)) (fun _ _ _ h => h) (Or.inl ⟨by rfl, ?_⟩) ?_ ?_
                    rotate_left
                    · intro w'
                      go_simp
                      with_reducible rfl
                    rotate_left
                    · simp only [Act.put, zSa, zSb, zSc, i64_w, i32_w]
                      rfl
                    refine pure_ (i := 6) (N := some 85) (v := ?_) (a' := ?_) #[true, true, true, true, true, true, true, false, false, false, false, false, false, false, false, false, false, false, false, false, false, false, false, false, false, false] rfl rfl (any_of HT_.out (by kernel_rfl)) (fun _ _ _ h => h) (Or.inl ⟨by rfl, ?_⟩) ?_ ?_
                    rotate_left
                    · intro w'
                      go_simp
                      with_reducible rfl
                    rotate_left
                    · simp only [Act.put, zSa, zSb, zSc, i64_w, i32_w]
                      rfl
                    refine pure_ (i := 7) (N := some 86) (v := ?_) (a' := ?_) #[true, true, true, true, true, true, true, true, false, false, false, false, false, false, false, false, false, false, false, false, false, false, false, false, false, false] rfl rfl (any_of HT_.out (by kernel_rfl)) (fun _ _ _ h => h) (Or.inl ⟨by rfl, ?_⟩) ?_ ?_
                    rotate_left
                    · intro w'
                      go_simp
                      with_reducible rfl
                    rotate_left
                    · simp only [Act.put, zSa, zSb, zSc, i64_w, i32_w]
                      rfl
                    refine pure_ (i := 9) (N := some 88) (v := ?_) (a' := ?_) #[true, true, true, true, true, true, true, true, false, true, false, false, false, false, false, false, false, false, false, false, false, false, false, false, false, false] rfl rfl (any_of HT_.out (by kernel_rfl)) (fun _ _ _ h => h) (Or.inl ⟨by rfl, ?_⟩) ?_ ?_
                    rotate_left
                    · intro w'
                      go_simp
                      with_reducible rfl
                    rotate_left
                    · simp only [Act.put, zSa, zSb, zSc, i64_w, i32_w]
                      rfl
                    refine pure_ (i := 10) (N := some 89) (v := ?_) (a' := ?_) #[true, true, true, true, true, true, true, true, false, true, true, false, false, false, false, false, false, false, false, false, false, false, false, false, false, false] rfl rfl (any_of HT_.out (by kernel_rfl)) (fun _ _ _ h => h) (Or.inl ⟨by rfl, ?_⟩) ?_ ?_
                    rotate_left
                    · intro w'
                      go_simp
                      with_reducible rfl
                    rotate_left
                    · simp only [Act.put, zSa, zSb, zSc, i64_w, i32_w]
                      rfl
                    refine pure_ (i := 11) (N := some 90) (v := ?_) (a' := ?_) #[true, true, true, true, true, true, true, true, false, true, true, true, false, false, false, false, false, false, false, false, false, false, false, false, false, false] rfl rfl (any_of HT_.out (by kernel_rfl)) (fun _ _ _ h => h) (Or.inl ⟨by rfl, ?_⟩) ?_ ?_
                    rotate_left
                    · intro w'
                      go_simp
                      with_reducible rfl
                    rotate_left
                    · simp only [Act.put, zSa, zSb, zSc, i64_w, i32_w]
                      rfl
                    refine take_ (i := 8) (N := some 87) (v := ?_) (a' := ?_) #[true, true, true, true, true, true, true, true, true, true, true, true, false, false, false, false, false, false, false, false, false, false, false, false, false, false] rfl rfl (take_ofW HT_.out HW_.out (by kernel_rfl)) (fun _ _ _ h => h) (Or.inl ⟨by rfl, ?_⟩) hHeld ?_ ?_
                    rotate_left
                    · rintro w' ⟨s0, s1, s2, s3⟩
                      go_simp
                      with_reducible rfl
                    rotate_left
                    · simp only [Act.put, zSa, zSb, zSc, i64_w, i32_w]
                      rfl
                    refine take_ (i := 12) (N := some 91) (v := ?_) (a' := ?_) #[true, true, true, true, true, true, true, true, true, true, true, true, true, false, false, false, false, false, false, false, false, false, false, false, false, false] rfl rfl (take_ofW HT_.out HW_.out (by kernel_rfl)) (fun _ _ _ h => h) (Or.inl ⟨by rfl, ?_⟩) hHeld ?_ ?_
                    rotate_left
                    · rintro w' ⟨s0, s1, s2, s3⟩
                      go_simp
                      with_reducible rfl
                    rotate_left
                    · simp only [Act.put, zSa, zSb, zSc, i64_w, i32_w]
                      rfl
                    refine pure_ (i := 13) (N := some 92) (v := ?_) (a' := ?_) #[true, true, true, true, true, true, true, true, true, true, true, true, true, true, false, false, false, false, false, false, false, false, false, false, false, false] rfl rfl (any_of HT_.out (by kernel_rfl)) (fun _ _ _ h => h) (Or.inl ⟨by rfl, ?_⟩) ?_ ?_
                    rotate_left
                    · intro w'
                      go_simp
                      with_reducible rfl
                    rotate_left
                    · simp only [Act.put, zSa, zSb, zSc, i64_w, i32_w]
                      rfl
                    refine pure_ (i := 14) (N := some 93) (v := ?_) (a' := ?_) #[true, true, true, true, true, true, true, true, true, true, true, true, true, true, true, false, false, false, false, false, false, false, false, false, false, false] rfl rfl (any_of HT_.out (by kernel_rfl)) (fun _ _ _ h => h) (Or.inl ⟨by rfl, ?_⟩) ?_ ?_
                    rotate_left
                    · intro w'
                      go_simp
                      with_reducible rfl
                    rotate_left
                    · simp only [Act.put, zSa, zSb, zSc, i64_w, i32_w]
                      rfl
                    refine pure_ (i := 15) (N := some 94) (v := ?_) (a' := ?_) #[true, true, true, true, true, true, true, true, true, true, true, true, true, true, true, true, false, false, false, false, false, false, false, false, false, false] rfl rfl (any_of HT_.out (by kernel_rfl)) (fun _ _ _ h => h) (Or.inl ⟨by rfl, ?_⟩) ?_ ?_
                    rotate_left
                    · intro w'
                      go_simp
                      with_reducible rfl
                    rotate_left
                    · simp only [Act.put, zSa, zSb, zSc, i64_w, i32_w]
                      rfl
                    refine pure_ (i := 16) (N := some 95) (v := ?_) (a' := ?_) #[true, true, true, true, true, true, true, true, true, true, true, true, true, true, true, true, true, false, false, false, false, false, false, false, false, false] rfl rfl (any_of HT_.out (by kernel_rfl)) (fun _ _ _ h => h) (Or.inl ⟨by rfl, ?_⟩) ?_ ?_
                    rotate_left
                    · intro w'
                      go_simp
                      with_reducible rfl
                    rotate_left
                    · simp only [Act.put, zSa, zSb, zSc, i64_w, i32_w]
                      rfl
                    refine pure_ (i := 17) (N := some 96) (v := ?_) (a' := ?_) #[true, true, true, true, true, true, true, true, true, true, true, true, true, true, true, true, true, true, false, false, false, false, false, false, false, false] rfl rfl (any_of HT_.out (by kernel_rfl)) (fun _ _ _ h => h) (Or.inl ⟨by rfl, ?_⟩) ?_ ?_
                    rotate_left
                    · intro w'
                      go_simp
                      with_reducible rfl
                    rotate_left
                    · simp only [Act.put, zSa, zSb, zSc, i64_w, i32_w]
                      rfl
                    refine pure_ (i := 18) (N := some 97) (v := ?_) (a' := ?_) #[true, true, true, true, true, true, true, true, true, true, true, true, true, true, true, true, true, true, true, false, false, false, false, false, false, false] rfl rfl (any_of HT_.out (by kernel_rfl)) (fun _ _ _ h => h) (Or.inl ⟨by rfl, ?_⟩) ?_ ?_
                    rotate_left
                    · intro w'
                      go_simp
                      with_reducible rfl
                    rotate_left
                    · simp only [Act.put, zSa, zSb, zSc, i64_w, i32_w]
                      rfl
                    refine pure_ (i := 20) (N := some 99) (v := ?_) (a' := ?_) #[true, true, true, true, true, true, true, true, true, true, true, true, true, true, true, true, true, true, true, false, true, false, false, false, false, false] rfl rfl (any_of HT_.out (by kernel_rfl)) (fun _ _ _ h => h) (Or.inl ⟨by rfl, ?_⟩) ?_ ?_
                    rotate_left
                    · intro w'
                      go_simp
                      with_reducible rfl
                    rotate_left
                    · simp only [Act.put, zSa, zSb, zSc, i64_w, i32_w]
                      rfl
                    refine pure_ (i := 21) (N := some 100) (v := ?_) (a' := ?_) #[true, true, true, true, true, true, true, true, true, true, true, true, true, true, true, true, true, true, true, false, true, true, false, false, false, false] rfl rfl (any_of HT_.out (by kernel_rfl)) (fun _ _ _ h => h) (Or.inl ⟨by rfl, ?_⟩) ?_ ?_
                    rotate_left
                    · intro w'
                      go_simp
                      with_reducible rfl
                    rotate_left
                    · simp only [Act.put, zSa, zSb, zSc, i64_w, i32_w]
                      rfl
                    refine pure_ (i := 22) (N := some 101) (v := ?_) (a' := ?_) #[true, true, true, true, true, true, true, true, true, true, true, true, true, true, true, true, true, true, true, false, true, true, true, false, false, false] rfl rfl (any_of HT_.out (by kernel_rfl)) (fun _ _ _ h => h) (Or.inl ⟨by rfl, ?_⟩) ?_ ?_
                    rotate_left
                    · intro w'
                      go_simp
                      with_reducible rfl
                    rotate_left
                    · simp only [Act.put, zSa, zSb, zSc, i64_w, i32_w]
                      rfl
                    refine take_ (i := 19) (N := some 98) (v := ?_) (a' := ?_) #[true, true, true, true, true, true, true, true, true, true, true, true, true, true, true, true, true, true, true, true, true, true, true, false, false, false] rfl rfl (take_ofW HT_.out HW_.out (by kernel_rfl)) (fun _ _ _ h => h) (Or.inl ⟨by rfl, ?_⟩) hHeld ?_ ?_
                    rotate_left
                    · rintro w' ⟨s0, s1, s2, s3⟩
                      go_simp
                      with_reducible rfl
                    rotate_left
                    · simp only [Act.put, zSa, zSb, zSc, i64_w, i32_w]
                      rfl
                    refine take_ (i := 23) (N := some 102) (v := ?_) (a' := ?_) #[true, true, true, true, true, true, true, true, true, true, true, true, true, true, true, true, true, true, true, true, true, true, true, true, false, false] rfl rfl (take_ofW HT_.out HW_.out (by kernel_rfl)) (fun _ _ _ h => h) (Or.inl ⟨by rfl, ?_⟩) hHeld ?_ ?_
                    rotate_left
                    · rintro w' ⟨s0, s1, s2, s3⟩
                      go_simp
                      with_reducible rfl
                    rotate_left
                    · simp only [Act.put, zSa, zSb, zSc, i64_w, i32_w]
                      rfl
                    refine pure_ (i := 24) (N := some 103) (v := ?_) (a' := ?_) #[true, true, true, true, true, true, true, true, true, true, true, true, true, true, true, true, true, true, true, true, true, true, true, true, true, false] rfl rfl (any_of HT_.out (by kernel_rfl)) (fun _ _ _ h => h) (Or.inl ⟨by rfl, ?_⟩) ?_ ?_
                    rotate_left
                    · intro w'
                      go_simp
                      with_reducible rfl
                    rotate_left
                    · simp only [Act.put, zSa, zSb, zSc, i64_w, i32_w]
                      rfl
                    refine pure_ (i := 25) (N := some 104) (v := ?_) (a' := ?_) #[true, true, true, true, true, true, true, true, true, true, true, true, true, true, true, true, true, true, true, true, true, true, true, true, true, true] rfl rfl (any_of HT_.out (by kernel_rfl)) (fun _ _ _ h => h) (Or.inl ⟨by rfl, ?_⟩) ?_ ?_
                    rotate_left
                    · intro w'
                      go_simp
                      with_reducible rfl
                    rotate_left
                    · simp only [Act.put, zSa, zSb, zSc, i64_w, i32_w]
                      rfl
                    refine done_ (done_of HT_.out (by kernel_rfl)) ?_
                    try go_wp2
                    go_meet
                    case rel => exact ⟨_, (((rd x3_4 x7_3) != (rd x3_4 x8_4))), (by first | rfl | (simp; done) | (simp [*]; done)), H', ⟨by have := HK1.out; have := HK2.out; have := HK3.out; have := HK4.out; first | omega | exact Nat.le_refl _⟩, ⟨by (try simp only [hl3_2]); (try simp only [hl3_3]); (try simp only [hl3_4]); exact uR HO_3.out⟩, ⟨by (try simp only [hl3_2]); (try simp only [hl3_3]); (try simp only [hl3_4]); exact uR HO_6.out⟩, ⟨by (try simp only [hl3_2]); (try simp only [hl3_3]); (try simp only [hl3_4]); (with_reducible repeat (first | refine zKn ?_ _ | refine zKd ?_ | refine zKa ?_ _)); exact BK403.out⟩, ⟨by exact uT HB.out⟩⟩
                  · rw [if_neg c46] at H
                    have c46b0 : ((rd t415 t419) == (rd t415 t422)) = false := beq_eq_false_iff_ne.mpr c46
                    (try (have c46b0l := c46b0; simp only [hl3_2, hl3_3, hl3_4] at c46b0l))
                    have c46b1 : ((rd t415 t419) != (rd t415 t422)) = true := bne_iff_ne.mpr c46
                    (try (have c46b1l := c46b1; simp only [hl3_2, hl3_3, hl3_4] at c46b1l))
                    have H' := zMk H
                    clear H
                    try go_wp2
                    replace HO_3 := zMk (zRd HO_3.out)
                    replace HO_6 := zMk (zRd HO_6.out)
                    replace BK403 := zMk (zKd BK403.out)
                    replace HB := zMk (zBd HB.out)
                    obtain ⟨Ao52, co52, eo52⟩ := zRs HO_6.out
                    (first |  subst eo52|  (injection eo52 with f1_ f2_ f3_; have f4_ := f1_.symm; have f5_ := f3_.symm; clear f1_ f2_ f3_; subst f4_; subst f5_))
                    have p424 : 0 ≤ (t419 : Int) := of_decide_eq_true (by assumption)
                    have q424 : t419 < (t415.length : Int) := of_decide_eq_true (by assumption)
                    obtain ⟨ad424, e424, hx424_0⟩ := zAi (zRr HO_6.out).2.2 t419 p424 q424
                    cases e424
                    replace p424 := eq_true p424
                    replace q424 := eq_true q424
                    have p425 : 0 ≤ (t422 : Int) := of_decide_eq_true (by assumption)
                    have q425 : t422 < (t415.length : Int) := of_decide_eq_true (by assumption)
                    obtain ⟨ad425, e425, hx425_0⟩ := zAi (zRr HO_6.out).2.2 t422 p425 q425
                    obtain rfl : ad424 = ad425 := (by injection e425)
                    replace p425 := eq_true p425
                    replace q425 := eq_true q425
                    refine start_ (n := 26) (S := fun w' => w'.cell? (ad424.add (t419).toNat) = some (.int .i64 (rd t415 t419)) ∧ w'.cell? (ad424.add (t422).toNat) = some (.int .i64 (rd t415 t422))) (ds := []) #[false, false, false, false, false, false, false, false, false, false, false, false, false, false, false, false, false, false, false, false, false, false, false, false, false, false] (by kernel_rfl) rfl rfl ⟨hx424_0, hx425_0⟩ (fun hHeld => ?_); refine with_tabW filigreeref06_Blocks.tab18 filigreeref06_Blocks.bits18 (fun HT_ HW_ => ?_)
                    generalize w39.drew = w51 at HO_3 HO_6 BK403 HB hx424_0 hx425_0 hHeld ⊢
                    refine pure_ (i := 0) (N := some 79) (v := ?_) (a' := ?_) #[true, false, false, false, false, false, false, false, false, false, false, false, false, false, false, false, false, false, false, false, false, false, false, false, false, false] rfl rfl (any_of HT_.out (by kernel_rfl)) (fun _ _ _ h => h) (Or.inl ⟨by rfl, ?_⟩) ?_ ?_
                    rotate_left
                    · intro w'
                      go_simp
                      with_reducible rfl
                    rotate_left
                    · simp only [Act.put, zSa, zSb, zSc, i64_w, i32_w]
                      rfl
                    refine pure_ (i := 1) (N := some 80) (v := ?_) (a' := ?_) #[true, true, false, false, false, false, false, false, false, false, false, false, false, false, false, false, false, false, false, false, false, false, false, false, false, false] rfl rfl (any_of HT_.out (by kernel_rfl)) (fun _ _ _ h => h) (Or.inl ⟨by rfl, ?_⟩) ?_ ?_
                    rotate_left
                    · intro w'
                      go_simp
                      with_reducible rfl
                    rotate_left
                    · simp only [Act.put, zSa, zSb, zSc, i64_w, i32_w]
                      rfl
                    refine pure_ (i := 2) (N := some 81) (v := ?_) (a' := ?_) #[true, true, true, false, false, false, false, false, false, false, false, false, false, false, false, false, false, false, false, false, false, false, false, false, false, false] rfl rfl (any_of HT_.out (by kernel_rfl)) (fun _ _ _ h => h) (Or.inl ⟨by rfl, ?_⟩) ?_ ?_
                    rotate_left
                    · intro w'
                      go_simp
                      with_reducible rfl
                    rotate_left
                    · simp only [Act.put, zSa, zSb, zSc, i64_w, i32_w]
                      rfl
                    refine pure_ (i := 3) (N := some 82) (v := ?_) (a' := ?_) #[true, true, true, true, false, false, false, false, false, false, false, false, false, false, false, false, false, false, false, false, false, false, false, false, false, false] rfl rfl (any_of HT_.out (by kernel_rfl)) (fun _ _ _ h => h) (Or.inl ⟨by rfl, ?_⟩) ?_ ?_
                    rotate_left
                    · intro w'
                      go_simp
                      with_reducible rfl
                    rotate_left
                    · simp only [Act.put, zSa, zSb, zSc, i64_w, i32_w]
                      rfl
                    refine pure_ (i := 4) (N := some 83) (v := ?_) (a' := ?_) #[true, true, true, true, true, false, false, false, false, false, false, false, false, false, false, false, false, false, false, false, false, false, false, false, false, false] rfl rfl (any_of HT_.out (by kernel_rfl)) (fun _ _ _ h => h) (Or.inl ⟨by rfl, ?_⟩) ?_ ?_
                    rotate_left
                    · intro w'
                      go_simp
                      with_reducible rfl
                    rotate_left
                    · simp only [Act.put, zSa, zSb, zSc, i64_w, i32_w]
                      rfl
                    refine pure_ (i := 5) (N := some 84) (v := ?_) (a' := ?_) #[true, true, true, true, true, true, false, false, false, false, false, false, false, false, false, false, false, false, false, false, false, false, false, false, false, false] rfl rfl (any_of HT_.out (by kernel_rfl)) (fun _ _ _ h => h) (Or.inl ⟨by rfl, ?_⟩) ?_ ?_
                    rotate_left
                    · intro w'
                      go_simp
                      with_reducible rfl
                    rotate_left
                    · simp only [Act.put, zSa, zSb, zSc, i64_w, i32_w]
                      rfl
                    refine pure_ (i := 6) (N := some 85) (v := ?_) (a' := ?_) #[true, true, true, true, true, true, true, false, false, false, false, false, false, false, false, false, false, false, false, false, false, false, false, false, false, false] rfl rfl (any_of HT_.out (by kernel_rfl)) (fun _ _ _ h => h) (Or.inl ⟨by rfl, ?_⟩) ?_ ?_
                    rotate_left
                    · intro w'
                      go_simp
                      with_reducible rfl
                    rotate_left
                    · simp only [Act.put, zSa, zSb, zSc, i64_w, i32_w]
                      rfl
                    refine pure_ (i := 7) (N := some 86) (v := ?_) (a' := ?_) #[true, true, true, true, true, true, true, true, false, false, false, false, false, false, false, false, false, false, false, false, false, false, false, false, false, false] rfl rfl (any_of HT_.out (by kernel_rfl)) (fun _ _ _ h => h) (Or.inl ⟨by rfl, ?_⟩) ?_ ?_
                    rotate_left
                    · intro w'
                      go_simp
                      with_reducible rfl
                    rotate_left
                    · simp only [Act.put, zSa, zSb, zSc, i64_w, i32_w]
                      rfl
                    refine pure_ (i := 9) (N := some 88) (v := ?_) (a' := ?_) #[true, true, true, true, true, true, true, true, false, true, false, false, false, false, false, false, false, false, false, false, false, false, false, false, false, false] rfl rfl (any_of HT_.out (by kernel_rfl)) (fun _ _ _ h => h) (Or.inl ⟨by rfl, ?_⟩) ?_ ?_
                    rotate_left
                    · intro w'
                      go_simp
                      with_reducible rfl
                    rotate_left
                    · simp only [Act.put, zSa, zSb, zSc, i64_w, i32_w]
                      rfl
                    refine pure_ (i := 10) (N := some 89) (v := ?_) (a' := ?_) #[true, true, true, true, true, true, true, true, false, true, true, false, false, false, false, false, false, false, false, false, false, false, false, false, false, false] rfl rfl (any_of HT_.out (by kernel_rfl)) (fun _ _ _ h => h) (Or.inl ⟨by rfl, ?_⟩) ?_ ?_
                    rotate_left
                    · intro w'
                      go_simp
                      with_reducible rfl
                    rotate_left
                    · simp only [Act.put, zSa, zSb, zSc, i64_w, i32_w]
                      rfl
                    refine pure_ (i := 11) (N := some 90) (v := ?_) (a' := ?_) #[true, true, true, true, true, true, true, true, false, true, true, true, false, false, false, false, false, false, false, false, false, false, false, false, false, false] rfl rfl (any_of HT_.out (by kernel_rfl)) (fun _ _ _ h => h) (Or.inl ⟨by rfl, ?_⟩) ?_ ?_
                    rotate_left
                    · intro w'
                      go_simp
                      with_reducible rfl
                    rotate_left
                    · simp only [Act.put, zSa, zSb, zSc, i64_w, i32_w]
                      rfl
                    refine take_ (i := 8) (N := some 87) (v := ?_) (a' := ?_) #[true, true, true, true, true, true, true, true, true, true, true, true, false, false, false, false, false, false, false, false, false, false, false, false, false, false] rfl rfl (take_ofW HT_.out HW_.out (by kernel_rfl)) (fun _ _ _ h => h) (Or.inl ⟨by rfl, ?_⟩) hHeld ?_ ?_
                    rotate_left
                    · rintro w' ⟨s0, s1⟩
                      go_simp
                      with_reducible rfl
                    rotate_left
                    · simp only [Act.put, zSa, zSb, zSc, i64_w, i32_w]
                      rfl
                    refine take_ (i := 12) (N := some 91) (v := ?_) (a' := ?_) #[true, true, true, true, true, true, true, true, true, true, true, true, true, false, false, false, false, false, false, false, false, false, false, false, false, false] rfl rfl (take_ofW HT_.out HW_.out (by kernel_rfl)) (fun _ _ _ h => h) (Or.inl ⟨by rfl, ?_⟩) hHeld ?_ ?_
                    rotate_left
                    · rintro w' ⟨s0, s1⟩
                      go_simp
                      with_reducible rfl
                    rotate_left
                    · simp only [Act.put, zSa, zSb, zSc, i64_w, i32_w]
                      rfl
                    refine pure_ (i := 13) (N := some 92) (v := ?_) (a' := ?_) #[true, true, true, true, true, true, true, true, true, true, true, true, true, true, false, false, false, false, false, false, false, false, false, false, false, false] rfl rfl (any_of HT_.out (by kernel_rfl)) (fun _ _ _ h => h) (Or.inl ⟨by rfl, ?_⟩) ?_ ?_
                    rotate_left
                    · intro w'
                      go_simp
                      with_reducible rfl
                    rotate_left
                    · simp only [Act.put, zSa, zSb, zSc, i64_w, i32_w]
                      rfl
                    refine pure_ (i := 14) (N := some 93) (v := ?_) (a' := ?_) #[true, true, true, true, true, true, true, true, true, true, true, true, true, true, true, false, false, false, false, false, false, false, false, false, false, false] rfl rfl (any_of HT_.out (by kernel_rfl)) (fun _ _ _ h => h) (Or.inl ⟨by rfl, ?_⟩) ?_ ?_
                    rotate_left
                    · intro w'
                      go_simp
                      with_reducible rfl
                    rotate_left
                    · simp only [Act.put, zSa, zSb, zSc, i64_w, i32_w]
                      rfl
                    refine pure_ (i := 15) (N := some 94) (v := ?_) (a' := ?_) #[true, true, true, true, true, true, true, true, true, true, true, true, true, true, true, true, false, false, false, false, false, false, false, false, false, false] rfl rfl (any_of HT_.out (by kernel_rfl)) (fun _ _ _ h => h) (Or.inl ⟨by rfl, ?_⟩) ?_ ?_
                    rotate_left
                    · intro w'
                      go_simp
                      with_reducible rfl
                    rotate_left
                    · simp only [Act.put, zSa, zSb, zSc, i64_w, i32_w]
                      rfl
                    refine pure_ (i := 16) (N := some 95) (v := undef) (a' := ?_) #[true, true, true, true, true, true, true, true, true, true, true, true, true, true, true, true, true, false, false, false, false, false, false, false, false, false] rfl rfl (any_of HT_.out (by kernel_rfl)) (fun _ _ _ h => h) (Or.inr ⟨by rfl, rfl⟩) ?_ ?_
                    rotate_left
                    · simp only [Act.put, zSa, zSb, zSc, i64_w, i32_w]
                      rfl
                    refine pure_ (i := 17) (N := some 96) (v := undef) (a' := ?_) #[true, true, true, true, true, true, true, true, true, true, true, true, true, true, true, true, true, true, false, false, false, false, false, false, false, false] rfl rfl (any_of HT_.out (by kernel_rfl)) (fun _ _ _ h => h) (Or.inr ⟨by rfl, rfl⟩) ?_ ?_
                    rotate_left
                    · simp only [Act.put, zSa, zSb, zSc, i64_w, i32_w]
                      rfl
                    refine pure_ (i := 18) (N := some 97) (v := undef) (a' := ?_) #[true, true, true, true, true, true, true, true, true, true, true, true, true, true, true, true, true, true, true, false, false, false, false, false, false, false] rfl rfl (any_of HT_.out (by kernel_rfl)) (fun _ _ _ h => h) (Or.inr ⟨by rfl, rfl⟩) ?_ ?_
                    rotate_left
                    · simp only [Act.put, zSa, zSb, zSc, i64_w, i32_w]
                      rfl
                    refine pure_ (i := 19) (N := some 98) (v := undef) (a' := ?_) #[true, true, true, true, true, true, true, true, true, true, true, true, true, true, true, true, true, true, true, true, false, false, false, false, false, false] rfl rfl (any_of HT_.out (by kernel_rfl)) (fun _ _ _ h => h) (Or.inr ⟨by rfl, rfl⟩) ?_ ?_
                    rotate_left
                    · simp only [Act.put, zSa, zSb, zSc, i64_w, i32_w]
                      rfl
                    refine pure_ (i := 20) (N := some 99) (v := undef) (a' := ?_) #[true, true, true, true, true, true, true, true, true, true, true, true, true, true, true, true, true, true, true, true, true, false, false, false, false, false] rfl rfl (any_of HT_.out (by kernel_rfl)) (fun _ _ _ h => h) (Or.inr ⟨by rfl, rfl⟩) ?_ ?_
                    rotate_left
                    · simp only [Act.put, zSa, zSb, zSc, i64_w, i32_w]
                      rfl
                    refine pure_ (i := 21) (N := some 100) (v := undef) (a' := ?_) #[true, true, true, true, true, true, true, true, true, true, true, true, true, true, true, true, true, true, true, true, true, true, false, false, false, false] rfl rfl (any_of HT_.out (by kernel_rfl)) (fun _ _ _ h => h) (Or.inr ⟨by rfl, rfl⟩) ?_ ?_
                    rotate_left
                    · simp only [Act.put, zSa, zSb, zSc, i64_w, i32_w]
                      rfl
                    refine pure_ (i := 22) (N := some 101) (v := undef) (a' := ?_) #[true, true, true, true, true, true, true, true, true, true, true, true, true, true, true, true, true, true, true, true, true, true, true, false, false, false] rfl rfl (any_of HT_.out (by kernel_rfl)) (fun _ _ _ h => h) (Or.inr ⟨by rfl, rfl⟩) ?_ ?_
                    rotate_left
                    · simp only [Act.put, zSa, zSb, zSc, i64_w, i32_w]
                      rfl
                    refine pure_ (i := 23) (N := some 102) (v := undef) (a' := ?_) #[true, true, true, true, true, true, true, true, true, true, true, true, true, true, true, true, true, true, true, true, true, true, true, true, false, false] rfl rfl (any_of HT_.out (by kernel_rfl)) (fun _ _ _ h => h) (Or.inr ⟨by rfl, rfl⟩) ?_ ?_
                    rotate_left
                    · simp only [Act.put, zSa, zSb, zSc, i64_w, i32_w]
                      rfl
                    refine pure_ (i := 24) (N := some 103) (v := undef) (a' := ?_) #[true, true, true, true, true, true, true, true, true, true, true, true, true, true, true, true, true, true, true, true, true, true, true, true, true, false] rfl rfl (any_of HT_.out (by kernel_rfl)) (fun _ _ _ h => h) (Or.inr ⟨by rfl, rfl⟩) ?_ ?_
                    rotate_left
                    · simp only [Act.put, zSa, zSb, zSc, i64_w, i32_w]
                      rfl
                    refine pure_ (i := 25) (N := some 104) (v := ?_) (a' := ?_) #[true, true, true, true, true, true, true, true, true, true, true, true, true, true, true, true, true, true, true, true, true, true, true, true, true, true] rfl rfl (any_of HT_.out (by kernel_rfl)) (fun _ _ _ h => h) (Or.inl ⟨by rfl, ?_⟩) ?_ ?_
                    rotate_left
                    · intro w'
                      go_simp
                      with_reducible rfl
                    rotate_left
                    · simp only [Act.put, zSa, zSb, zSc, i64_w, i32_w]
                      rfl
                    refine done_ (done_of HT_.out (by kernel_rfl)) ?_
                    try go_wp2
                    go_meet
                    case rel => exact ⟨_, (false), (by first | rfl | (simp; done) | (simp [*]; done)), H', ⟨by have := HK1.out; have := HK2.out; have := HK3.out; have := HK4.out; first | omega | exact Nat.le_refl _⟩, ⟨by (try simp only [hl3_2]); (try simp only [hl3_3]); (try simp only [hl3_4]); exact uR HO_3.out⟩, ⟨by (try simp only [hl3_2]); (try simp only [hl3_3]); (try simp only [hl3_4]); exact uR HO_6.out⟩, ⟨by (try simp only [hl3_2]); (try simp only [hl3_3]); (try simp only [hl3_4]); (with_reducible repeat (first | refine zKn ?_ _ | refine zKd ?_ | refine zKa ?_ _)); exact BK403.out⟩, ⟨by exact uT HB.out⟩⟩
                · replace c41 := Bool.eq_false_iff.mpr c41
                  subst c41
                  replace H : (filigreeref06_Blocks.j4 k4 x3_4 x5_2 t415 x7_3 x8_4 false a0_0 l0_1) = some r := by rw [if_neg (show ¬ (false = true) by decide)] at H; exact H
                  have H' := zMk H
                  clear H
                  try go_wp2
                  replace HO_3 := zMk (zRd HO_3.out)
                  replace HO_6 := zMk (zRd HO_6.out)
                  replace BK403 := zMk (zKd BK403.out)
                  replace HB := zMk (zBd HB.out)
                  refine start_ (n := 26) (S := fun w' => True) (ds := []) #[false, false, false, false, false, false, false, false, false, false, false, false, false, false, false, false, false, false, false, false, false, false, false, false, false, false] (by kernel_rfl) rfl rfl trivial (fun hHeld => ?_); refine with_tabW filigreeref06_Blocks.tab18 filigreeref06_Blocks.bits18 (fun HT_ HW_ => ?_)
                  generalize w39.drew = w53 at HO_3 HO_6 BK403 HB hHeld ⊢
                  refine pure_ (i := 0) (N := some 79) (v := ?_) (a' := ?_) #[true, false, false, false, false, false, false, false, false, false, false, false, false, false, false, false, false, false, false, false, false, false, false, false, false, false] rfl rfl (any_of HT_.out (by kernel_rfl)) (fun _ _ _ h => h) (Or.inl ⟨by rfl, ?_⟩) ?_ ?_
                  rotate_left
                  · intro w'
                    go_simp
                    with_reducible rfl
                  rotate_left
                  · simp only [Act.put, zSa, zSb, zSc, i64_w, i32_w]
                    rfl
                  refine pure_ (i := 1) (N := some 80) (v := ?_) (a' := ?_) #[true, true, false, false, false, false, false, false, false, false, false, false, false, false, false, false, false, false, false, false, false, false, false, false, false, false] rfl rfl (any_of HT_.out (by kernel_rfl)) (fun _ _ _ h => h) (Or.inl ⟨by rfl, ?_⟩) ?_ ?_
                  rotate_left
                  · intro w'
                    go_simp
                    with_reducible rfl
                  rotate_left
                  · simp only [Act.put, zSa, zSb, zSc, i64_w, i32_w]
                    rfl
                  refine pure_ (i := 2) (N := some 81) (v := ?_) (a' := ?_) #[true, true, true, false, false, false, false, false, false, false, false, false, false, false, false, false, false, false, false, false, false, false, false, false, false, false] rfl rfl (any_of HT_.out (by kernel_rfl)) (fun _ _ _ h => h) (Or.inl ⟨by rfl, ?_⟩) ?_ ?_
                  rotate_left
                  · intro w'
                    go_simp
                    with_reducible rfl
                  rotate_left
                  · simp only [Act.put, zSa, zSb, zSc, i64_w, i32_w]
                    rfl
                  refine pure_ (i := 3) (N := some 82) (v := ?_) (a' := ?_) #[true, true, true, true, false, false, false, false, false, false, false, false, false, false, false, false, false, false, false, false, false, false, false, false, false, false] rfl rfl (any_of HT_.out (by kernel_rfl)) (fun _ _ _ h => h) (Or.inl ⟨by rfl, ?_⟩) ?_ ?_
                  rotate_left
                  · intro w'
                    go_simp
                    with_reducible rfl
                  rotate_left
                  · simp only [Act.put, zSa, zSb, zSc, i64_w, i32_w]
                    rfl
                  refine pure_ (i := 4) (N := some 83) (v := ?_) (a' := ?_) #[true, true, true, true, true, false, false, false, false, false, false, false, false, false, false, false, false, false, false, false, false, false, false, false, false, false] rfl rfl (any_of HT_.out (by kernel_rfl)) (fun _ _ _ h => h) (Or.inl ⟨by rfl, ?_⟩) ?_ ?_
                  rotate_left
                  · intro w'
                    go_simp
                    with_reducible rfl
                  rotate_left
                  · simp only [Act.put, zSa, zSb, zSc, i64_w, i32_w]
                    rfl
                  refine pure_ (i := 5) (N := some 84) (v := undef) (a' := ?_) #[true, true, true, true, true, true, false, false, false, false, false, false, false, false, false, false, false, false, false, false, false, false, false, false, false, false] rfl rfl (any_of HT_.out (by kernel_rfl)) (fun _ _ _ h => h) (Or.inr ⟨by rfl, rfl⟩) ?_ ?_
                  rotate_left
                  · simp only [Act.put, zSa, zSb, zSc, i64_w, i32_w]
                    rfl
                  refine pure_ (i := 6) (N := some 85) (v := undef) (a' := ?_) #[true, true, true, true, true, true, true, false, false, false, false, false, false, false, false, false, false, false, false, false, false, false, false, false, false, false] rfl rfl (any_of HT_.out (by kernel_rfl)) (fun _ _ _ h => h) (Or.inr ⟨by rfl, rfl⟩) ?_ ?_
                  rotate_left
                  · simp only [Act.put, zSa, zSb, zSc, i64_w, i32_w]
                    rfl
                  refine pure_ (i := 7) (N := some 86) (v := undef) (a' := ?_) #[true, true, true, true, true, true, true, true, false, false, false, false, false, false, false, false, false, false, false, false, false, false, false, false, false, false] rfl rfl (any_of HT_.out (by kernel_rfl)) (fun _ _ _ h => h) (Or.inr ⟨by rfl, rfl⟩) ?_ ?_
                  rotate_left
                  · simp only [Act.put, zSa, zSb, zSc, i64_w, i32_w]
                    rfl
                  refine pure_ (i := 8) (N := some 87) (v := undef) (a' := ?_) #[true, true, true, true, true, true, true, true, true, false, false, false, false, false, false, false, false, false, false, false, false, false, false, false, false, false] rfl rfl (any_of HT_.out (by kernel_rfl)) (fun _ _ _ h => h) (Or.inr ⟨by rfl, rfl⟩) ?_ ?_
                  rotate_left
                  · simp only [Act.put, zSa, zSb, zSc, i64_w, i32_w]
                    rfl
                  refine pure_ (i := 9) (N := some 88) (v := undef) (a' := ?_) #[true, true, true, true, true, true, true, true, true, true, false, false, false, false, false, false, false, false, false, false, false, false, false, false, false, false] rfl rfl (any_of HT_.out (by kernel_rfl)) (fun _ _ _ h => h) (Or.inr ⟨by rfl, rfl⟩) ?_ ?_
                  rotate_left
                  · simp only [Act.put, zSa, zSb, zSc, i64_w, i32_w]
                    rfl
                  refine pure_ (i := 10) (N := some 89) (v := undef) (a' := ?_) #[true, true, true, true, true, true, true, true, true, true, true, false, false, false, false, false, false, false, false, false, false, false, false, false, false, false] rfl rfl (any_of HT_.out (by kernel_rfl)) (fun _ _ _ h => h) (Or.inr ⟨by rfl, rfl⟩) ?_ ?_
                  rotate_left
                  · simp only [Act.put, zSa, zSb, zSc, i64_w, i32_w]
                    rfl
                  refine pure_ (i := 11) (N := some 90) (v := undef) (a' := ?_) #[true, true, true, true, true, true, true, true, true, true, true, true, false, false, false, false, false, false, false, false, false, false, false, false, false, false] rfl rfl (any_of HT_.out (by kernel_rfl)) (fun _ _ _ h => h) (Or.inr ⟨by rfl, rfl⟩) ?_ ?_
                  rotate_left
                  · simp only [Act.put, zSa, zSb, zSc, i64_w, i32_w]
                    rfl
                  refine pure_ (i := 12) (N := some 91) (v := undef) (a' := ?_) #[true, true, true, true, true, true, true, true, true, true, true, true, true, false, false, false, false, false, false, false, false, false, false, false, false, false] rfl rfl (any_of HT_.out (by kernel_rfl)) (fun _ _ _ h => h) (Or.inr ⟨by rfl, rfl⟩) ?_ ?_
                  rotate_left
                  · simp only [Act.put, zSa, zSb, zSc, i64_w, i32_w]
                    rfl
                  refine pure_ (i := 13) (N := some 92) (v := undef) (a' := ?_) #[true, true, true, true, true, true, true, true, true, true, true, true, true, true, false, false, false, false, false, false, false, false, false, false, false, false] rfl rfl (any_of HT_.out (by kernel_rfl)) (fun _ _ _ h => h) (Or.inr ⟨by rfl, rfl⟩) ?_ ?_
                  rotate_left
                  · simp only [Act.put, zSa, zSb, zSc, i64_w, i32_w]
                    rfl
                  refine pure_ (i := 14) (N := some 93) (v := ?_) (a' := ?_) #[true, true, true, true, true, true, true, true, true, true, true, true, true, true, true, false, false, false, false, false, false, false, false, false, false, false] rfl rfl (any_of HT_.out (by kernel_rfl)) (fun _ _ _ h => h) (Or.inl ⟨by rfl, ?_⟩) ?_ ?_
                  rotate_left
                  · intro w'
                    go_simp
                    with_reducible rfl
                  rotate_left
                  · simp only [Act.put, zSa, zSb, zSc, i64_w, i32_w]
                    rfl
                  refine pure_ (i := 15) (N := some 94) (v := ?_) (a' := ?_) #[true, true, true, true, true, true, true, true, true, true, true, true, true, true, true, true, false, false, false, false, false, false, false, false, false, false] rfl rfl (any_of HT_.out (by kernel_rfl)) (fun _ _ _ h => h) (Or.inl ⟨by rfl, ?_⟩) ?_ ?_
                  rotate_left
                  · intro w'
                    go_simp
                    with_reducible rfl
                  rotate_left
                  · simp only [Act.put, zSa, zSb, zSc, i64_w, i32_w]
                    rfl
                  refine pure_ (i := 16) (N := some 95) (v := undef) (a' := ?_) #[true, true, true, true, true, true, true, true, true, true, true, true, true, true, true, true, true, false, false, false, false, false, false, false, false, false] rfl rfl (any_of HT_.out (by kernel_rfl)) (fun _ _ _ h => h) (Or.inr ⟨by rfl, rfl⟩) ?_ ?_
                  rotate_left
                  · simp only [Act.put, zSa, zSb, zSc, i64_w, i32_w]
                    rfl
                  refine pure_ (i := 17) (N := some 96) (v := undef) (a' := ?_) #[true, true, true, true, true, true, true, true, true, true, true, true, true, true, true, true, true, true, false, false, false, false, false, false, false, false] rfl rfl (any_of HT_.out (by kernel_rfl)) (fun _ _ _ h => h) (Or.inr ⟨by rfl, rfl⟩) ?_ ?_
                  rotate_left
                  · simp only [Act.put, zSa, zSb, zSc, i64_w, i32_w]
                    rfl
                  refine pure_ (i := 18) (N := some 97) (v := undef) (a' := ?_) #[true, true, true, true, true, true, true, true, true, true, true, true, true, true, true, true, true, true, true, false, false, false, false, false, false, false] rfl rfl (any_of HT_.out (by kernel_rfl)) (fun _ _ _ h => h) (Or.inr ⟨by rfl, rfl⟩) ?_ ?_
                  rotate_left
                  · simp only [Act.put, zSa, zSb, zSc, i64_w, i32_w]
                    rfl
                  refine pure_ (i := 19) (N := some 98) (v := undef) (a' := ?_) #[true, true, true, true, true, true, true, true, true, true, true, true, true, true, true, true, true, true, true, true, false, false, false, false, false, false] rfl rfl (any_of HT_.out (by kernel_rfl)) (fun _ _ _ h => h) (Or.inr ⟨by rfl, rfl⟩) ?_ ?_
                  rotate_left
                  · simp only [Act.put, zSa, zSb, zSc, i64_w, i32_w]
                    rfl
                  refine pure_ (i := 20) (N := some 99) (v := undef) (a' := ?_) #[true, true, true, true, true, true, true, true, true, true, true, true, true, true, true, true, true, true, true, true, true, false, false, false, false, false] rfl rfl (any_of HT_.out (by kernel_rfl)) (fun _ _ _ h => h) (Or.inr ⟨by rfl, rfl⟩) ?_ ?_
                  rotate_left
                  · simp only [Act.put, zSa, zSb, zSc, i64_w, i32_w]
                    rfl
                  refine pure_ (i := 21) (N := some 100) (v := undef) (a' := ?_) #[true, true, true, true, true, true, true, true, true, true, true, true, true, true, true, true, true, true, true, true, true, true, false, false, false, false] rfl rfl (any_of HT_.out (by kernel_rfl)) (fun _ _ _ h => h) (Or.inr ⟨by rfl, rfl⟩) ?_ ?_
                  rotate_left
                  · simp only [Act.put, zSa, zSb, zSc, i64_w, i32_w]
                    rfl
                  refine pure_ (i := 22) (N := some 101) (v := undef) (a' := ?_) #[true, true, true, true, true, true, true, true, true, true, true, true, true, true, true, true, true, true, true, true, true, true, true, false, false, false] rfl rfl (any_of HT_.out (by kernel_rfl)) (fun _ _ _ h => h) (Or.inr ⟨by rfl, rfl⟩) ?_ ?_
                  rotate_left
                  · simp only [Act.put, zSa, zSb, zSc, i64_w, i32_w]
                    rfl
                  refine pure_ (i := 23) (N := some 102) (v := undef) (a' := ?_) #[true, true, true, true, true, true, true, true, true, true, true, true, true, true, true, true, true, true, true, true, true, true, true, true, false, false] rfl rfl (any_of HT_.out (by kernel_rfl)) (fun _ _ _ h => h) (Or.inr ⟨by rfl, rfl⟩) ?_ ?_
                  rotate_left
                  · simp only [Act.put, zSa, zSb, zSc, i64_w, i32_w]
                    rfl
                  refine pure_ (i := 24) (N := some 103) (v := undef) (a' := ?_) #[true, true, true, true, true, true, true, true, true, true, true, true, true, true, true, true, true, true, true, true, true, true, true, true, true, false] rfl rfl (any_of HT_.out (by kernel_rfl)) (fun _ _ _ h => h) (Or.inr ⟨by rfl, rfl⟩) ?_ ?_
                  rotate_left
                  · simp only [Act.put, zSa, zSb, zSc, i64_w, i32_w]
                    rfl
                  refine pure_ (i := 25) (N := some 104) (v := ?_) (a' := ?_) #[true, true, true, true, true, true, true, true, true, true, true, true, true, true, true, true, true, true, true, true, true, true, true, true, true, true] rfl rfl (any_of HT_.out (by kernel_rfl)) (fun _ _ _ h => h) (Or.inl ⟨by rfl, ?_⟩) ?_ ?_
                  rotate_left
                  · intro w'
                    go_simp
                    with_reducible rfl
                  rotate_left
                  · simp only [Act.put, zSa, zSb, zSc, i64_w, i32_w]
                    rfl
                  refine done_ (done_of HT_.out (by kernel_rfl)) ?_
                  try go_wp2
                  go_meet
                  case rel => exact ⟨_, (false), (by first | rfl | (simp; done) | (simp [*]; done)), H', ⟨by have := HK1.out; have := HK2.out; have := HK3.out; have := HK4.out; first | omega | exact Nat.le_refl _⟩, ⟨by (try simp only [hl3_2]); (try simp only [hl3_3]); (try simp only [hl3_4]); exact uR HO_3.out⟩, ⟨by (try simp only [hl3_2]); (try simp only [hl3_3]); (try simp only [hl3_4]); exact uR HO_6.out⟩, ⟨by (try simp only [hl3_2]); (try simp only [hl3_3]); (try simp only [hl3_4]); (with_reducible repeat (first | refine zKn ?_ _ | refine zKd ?_ | refine zKa ?_ _)); exact BK403.out⟩, ⟨by exact uT HB.out⟩⟩
              · replace c40 := Bool.eq_false_iff.mpr c40
                subst c40
                replace H : (filigreeref06_Blocks.j4 k4 x3_4 x5_2 t415 x7_3 x8_4 false a0_0 l0_1) = some r := by rw [if_neg (show ¬ (false = true) by decide)] at H; exact H
                have H' := zMk H
                clear H
                try go_wp2
                replace HO_3 := zMk (zRd HO_3.out)
                replace HO_6 := zMk (zRd HO_6.out)
                replace BK403 := zMk (zKd BK403.out)
                replace HB := zMk (zBd HB.out)
                refine start_ (n := 26) (S := fun w' => True) (ds := []) #[false, false, false, false, false, false, false, false, false, false, false, false, false, false, false, false, false, false, false, false, false, false, false, false, false, false] (by kernel_rfl) rfl rfl trivial (fun hHeld => ?_); refine with_tabW filigreeref06_Blocks.tab18 filigreeref06_Blocks.bits18 (fun HT_ HW_ => ?_)
                generalize w39.drew = w54 at HO_3 HO_6 BK403 HB hHeld ⊢
                refine pure_ (i := 0) (N := some 79) (v := ?_) (a' := ?_) #[true, false, false, false, false, false, false, false, false, false, false, false, false, false, false, false, false, false, false, false, false, false, false, false, false, false] rfl rfl (any_of HT_.out (by kernel_rfl)) (fun _ _ _ h => h) (Or.inl ⟨by rfl, ?_⟩) ?_ ?_
                rotate_left
                · intro w'
                  go_simp
                  with_reducible rfl
                rotate_left
                · simp only [Act.put, zSa, zSb, zSc, i64_w, i32_w]
                  rfl
                refine pure_ (i := 1) (N := some 80) (v := ?_) (a' := ?_) #[true, true, false, false, false, false, false, false, false, false, false, false, false, false, false, false, false, false, false, false, false, false, false, false, false, false] rfl rfl (any_of HT_.out (by kernel_rfl)) (fun _ _ _ h => h) (Or.inl ⟨by rfl, ?_⟩) ?_ ?_
                rotate_left
                · intro w'
                  go_simp
                  with_reducible rfl
                rotate_left
                · simp only [Act.put, zSa, zSb, zSc, i64_w, i32_w]
                  rfl
                refine pure_ (i := 2) (N := some 81) (v := undef) (a' := ?_) #[true, true, true, false, false, false, false, false, false, false, false, false, false, false, false, false, false, false, false, false, false, false, false, false, false, false] rfl rfl (any_of HT_.out (by kernel_rfl)) (fun _ _ _ h => h) (Or.inr ⟨by rfl, rfl⟩) ?_ ?_
                rotate_left
                · simp only [Act.put, zSa, zSb, zSc, i64_w, i32_w]
                  rfl
                refine pure_ (i := 3) (N := some 82) (v := ?_) (a' := ?_) #[true, true, true, true, false, false, false, false, false, false, false, false, false, false, false, false, false, false, false, false, false, false, false, false, false, false] rfl rfl (any_of HT_.out (by kernel_rfl)) (fun _ _ _ h => h) (Or.inl ⟨by rfl, ?_⟩) ?_ ?_
                rotate_left
                · intro w'
                  go_simp
                  with_reducible rfl
                rotate_left
                · simp only [Act.put, zSa, zSb, zSc, i64_w, i32_w]
                  rfl
                refine pure_ (i := 4) (N := some 83) (v := ?_) (a' := ?_) #[true, true, true, true, true, false, false, false, false, false, false, false, false, false, false, false, false, false, false, false, false, false, false, false, false, false] rfl rfl (any_of HT_.out (by kernel_rfl)) (fun _ _ _ h => h) (Or.inl ⟨by rfl, ?_⟩) ?_ ?_
                rotate_left
                · intro w'
                  go_simp
                  with_reducible rfl
                rotate_left
                · simp only [Act.put, zSa, zSb, zSc, i64_w, i32_w]
                  rfl
                refine pure_ (i := 5) (N := some 84) (v := undef) (a' := ?_) #[true, true, true, true, true, true, false, false, false, false, false, false, false, false, false, false, false, false, false, false, false, false, false, false, false, false] rfl rfl (any_of HT_.out (by kernel_rfl)) (fun _ _ _ h => h) (Or.inr ⟨by rfl, rfl⟩) ?_ ?_
                rotate_left
                · simp only [Act.put, zSa, zSb, zSc, i64_w, i32_w]
                  rfl
                refine pure_ (i := 6) (N := some 85) (v := undef) (a' := ?_) #[true, true, true, true, true, true, true, false, false, false, false, false, false, false, false, false, false, false, false, false, false, false, false, false, false, false] rfl rfl (any_of HT_.out (by kernel_rfl)) (fun _ _ _ h => h) (Or.inr ⟨by rfl, rfl⟩) ?_ ?_
                rotate_left
                · simp only [Act.put, zSa, zSb, zSc, i64_w, i32_w]
                  rfl
                refine pure_ (i := 7) (N := some 86) (v := undef) (a' := ?_) #[true, true, true, true, true, true, true, true, false, false, false, false, false, false, false, false, false, false, false, false, false, false, false, false, false, false] rfl rfl (any_of HT_.out (by kernel_rfl)) (fun _ _ _ h => h) (Or.inr ⟨by rfl, rfl⟩) ?_ ?_
                rotate_left
                · simp only [Act.put, zSa, zSb, zSc, i64_w, i32_w]
                  rfl
                refine pure_ (i := 8) (N := some 87) (v := undef) (a' := ?_) #[true, true, true, true, true, true, true, true, true, false, false, false, false, false, false, false, false, false, false, false, false, false, false, false, false, false] rfl rfl (any_of HT_.out (by kernel_rfl)) (fun _ _ _ h => h) (Or.inr ⟨by rfl, rfl⟩) ?_ ?_
                rotate_left
                · simp only [Act.put, zSa, zSb, zSc, i64_w, i32_w]
                  rfl
                refine pure_ (i := 9) (N := some 88) (v := undef) (a' := ?_) #[true, true, true, true, true, true, true, true, true, true, false, false, false, false, false, false, false, false, false, false, false, false, false, false, false, false] rfl rfl (any_of HT_.out (by kernel_rfl)) (fun _ _ _ h => h) (Or.inr ⟨by rfl, rfl⟩) ?_ ?_
                rotate_left
                · simp only [Act.put, zSa, zSb, zSc, i64_w, i32_w]
                  rfl
                refine pure_ (i := 10) (N := some 89) (v := undef) (a' := ?_) #[true, true, true, true, true, true, true, true, true, true, true, false, false, false, false, false, false, false, false, false, false, false, false, false, false, false] rfl rfl (any_of HT_.out (by kernel_rfl)) (fun _ _ _ h => h) (Or.inr ⟨by rfl, rfl⟩) ?_ ?_
                rotate_left
                · simp only [Act.put, zSa, zSb, zSc, i64_w, i32_w]
                  rfl
                refine pure_ (i := 11) (N := some 90) (v := undef) (a' := ?_) #[true, true, true, true, true, true, true, true, true, true, true, true, false, false, false, false, false, false, false, false, false, false, false, false, false, false] rfl rfl (any_of HT_.out (by kernel_rfl)) (fun _ _ _ h => h) (Or.inr ⟨by rfl, rfl⟩) ?_ ?_
                rotate_left
                · simp only [Act.put, zSa, zSb, zSc, i64_w, i32_w]
                  rfl
                refine pure_ (i := 12) (N := some 91) (v := undef) (a' := ?_) #[true, true, true, true, true, true, true, true, true, true, true, true, true, false, false, false, false, false, false, false, false, false, false, false, false, false] rfl rfl (any_of HT_.out (by kernel_rfl)) (fun _ _ _ h => h) (Or.inr ⟨by rfl, rfl⟩) ?_ ?_
                rotate_left
                · simp only [Act.put, zSa, zSb, zSc, i64_w, i32_w]
                  rfl
                refine pure_ (i := 13) (N := some 92) (v := undef) (a' := ?_) #[true, true, true, true, true, true, true, true, true, true, true, true, true, true, false, false, false, false, false, false, false, false, false, false, false, false] rfl rfl (any_of HT_.out (by kernel_rfl)) (fun _ _ _ h => h) (Or.inr ⟨by rfl, rfl⟩) ?_ ?_
                rotate_left
                · simp only [Act.put, zSa, zSb, zSc, i64_w, i32_w]
                  rfl
                refine pure_ (i := 14) (N := some 93) (v := ?_) (a' := ?_) #[true, true, true, true, true, true, true, true, true, true, true, true, true, true, true, false, false, false, false, false, false, false, false, false, false, false] rfl rfl (any_of HT_.out (by kernel_rfl)) (fun _ _ _ h => h) (Or.inl ⟨by rfl, ?_⟩) ?_ ?_
                rotate_left
                · intro w'
                  go_simp
                  with_reducible rfl
                rotate_left
                · simp only [Act.put, zSa, zSb, zSc, i64_w, i32_w]
                  rfl
                refine pure_ (i := 15) (N := some 94) (v := ?_) (a' := ?_) #[true, true, true, true, true, true, true, true, true, true, true, true, true, true, true, true, false, false, false, false, false, false, false, false, false, false] rfl rfl (any_of HT_.out (by kernel_rfl)) (fun _ _ _ h => h) (Or.inl ⟨by rfl, ?_⟩) ?_ ?_
                rotate_left
                · intro w'
                  go_simp
                  with_reducible rfl
                rotate_left
                · simp only [Act.put, zSa, zSb, zSc, i64_w, i32_w]
                  rfl
                refine pure_ (i := 16) (N := some 95) (v := undef) (a' := ?_) #[true, true, true, true, true, true, true, true, true, true, true, true, true, true, true, true, true, false, false, false, false, false, false, false, false, false] rfl rfl (any_of HT_.out (by kernel_rfl)) (fun _ _ _ h => h) (Or.inr ⟨by rfl, rfl⟩) ?_ ?_
                rotate_left
                · simp only [Act.put, zSa, zSb, zSc, i64_w, i32_w]
                  rfl
                refine pure_ (i := 17) (N := some 96) (v := undef) (a' := ?_) #[true, true, true, true, true, true, true, true, true, true, true, true, true, true, true, true, true, true, false, false, false, false, false, false, false, false] rfl rfl (any_of HT_.out (by kernel_rfl)) (fun _ _ _ h => h) (Or.inr ⟨by rfl, rfl⟩) ?_ ?_
                rotate_left
                · simp only [Act.put, zSa, zSb, zSc, i64_w, i32_w]
                  rfl
                refine pure_ (i := 18) (N := some 97) (v := undef) (a' := ?_) #[true, true, true, true, true, true, true, true, true, true, true, true, true, true, true, true, true, true, true, false, false, false, false, false, false, false] rfl rfl (any_of HT_.out (by kernel_rfl)) (fun _ _ _ h => h) (Or.inr ⟨by rfl, rfl⟩) ?_ ?_
                rotate_left
                · simp only [Act.put, zSa, zSb, zSc, i64_w, i32_w]
                  rfl
                refine pure_ (i := 19) (N := some 98) (v := undef) (a' := ?_) #[true, true, true, true, true, true, true, true, true, true, true, true, true, true, true, true, true, true, true, true, false, false, false, false, false, false] rfl rfl (any_of HT_.out (by kernel_rfl)) (fun _ _ _ h => h) (Or.inr ⟨by rfl, rfl⟩) ?_ ?_
                rotate_left
                · simp only [Act.put, zSa, zSb, zSc, i64_w, i32_w]
                  rfl
                refine pure_ (i := 20) (N := some 99) (v := undef) (a' := ?_) #[true, true, true, true, true, true, true, true, true, true, true, true, true, true, true, true, true, true, true, true, true, false, false, false, false, false] rfl rfl (any_of HT_.out (by kernel_rfl)) (fun _ _ _ h => h) (Or.inr ⟨by rfl, rfl⟩) ?_ ?_
                rotate_left
                · simp only [Act.put, zSa, zSb, zSc, i64_w, i32_w]
                  rfl
                refine pure_ (i := 21) (N := some 100) (v := undef) (a' := ?_) #[true, true, true, true, true, true, true, true, true, true, true, true, true, true, true, true, true, true, true, true, true, true, false, false, false, false] rfl rfl (any_of HT_.out (by kernel_rfl)) (fun _ _ _ h => h) (Or.inr ⟨by rfl, rfl⟩) ?_ ?_
                rotate_left
                · simp only [Act.put, zSa, zSb, zSc, i64_w, i32_w]
                  rfl
                refine pure_ (i := 22) (N := some 101) (v := undef) (a' := ?_) #[true, true, true, true, true, true, true, true, true, true, true, true, true, true, true, true, true, true, true, true, true, true, true, false, false, false] rfl rfl (any_of HT_.out (by kernel_rfl)) (fun _ _ _ h => h) (Or.inr ⟨by rfl, rfl⟩) ?_ ?_
                rotate_left
                · simp only [Act.put, zSa, zSb, zSc, i64_w, i32_w]
                  rfl
                refine pure_ (i := 23) (N := some 102) (v := undef) (a' := ?_) #[true, true, true, true, true, true, true, true, true, true, true, true, true, true, true, true, true, true, true, true, true, true, true, true, false, false] rfl rfl (any_of HT_.out (by kernel_rfl)) (fun _ _ _ h => h) (Or.inr ⟨by rfl, rfl⟩) ?_ ?_
                rotate_left
                · simp only [Act.put, zSa, zSb, zSc, i64_w, i32_w]
                  rfl
                refine pure_ (i := 24) (N := some 103) (v := undef) (a' := ?_) #[true, true, true, true, true, true, true, true, true, true, true, true, true, true, true, true, true, true, true, true, true, true, true, true, true, false] rfl rfl (any_of HT_.out (by kernel_rfl)) (fun _ _ _ h => h) (Or.inr ⟨by rfl, rfl⟩) ?_ ?_
                rotate_left
                · simp only [Act.put, zSa, zSb, zSc, i64_w, i32_w]
                  rfl
                refine pure_ (i := 25) (N := some 104) (v := ?_) (a' := ?_) #[true, true, true, true, true, true, true, true, true, true, true, true, true, true, true, true, true, true, true, true, true, true, true, true, true, true] rfl rfl (any_of HT_.out (by kernel_rfl)) (fun _ _ _ h => h) (Or.inl ⟨by rfl, ?_⟩) ?_ ?_
                rotate_left
                · intro w'
                  go_simp
                  with_reducible rfl
                rotate_left
                · simp only [Act.put, zSa, zSb, zSc, i64_w, i32_w]
                  rfl
                refine done_ (done_of HT_.out (by kernel_rfl)) ?_
                try go_wp2
                go_meet
                case rel => exact ⟨_, (false), (by first | rfl | (simp; done) | (simp [*]; done)), H', ⟨by have := HK1.out; have := HK2.out; have := HK3.out; have := HK4.out; first | omega | exact Nat.le_refl _⟩, ⟨by (try simp only [hl3_2]); (try simp only [hl3_3]); (try simp only [hl3_4]); exact uR HO_3.out⟩, ⟨by (try simp only [hl3_2]); (try simp only [hl3_3]); (try simp only [hl3_4]); exact uR HO_6.out⟩, ⟨by (try simp only [hl3_2]); (try simp only [hl3_3]); (try simp only [hl3_4]); (with_reducible repeat (first | refine zKn ?_ _ | refine zKd ?_ | refine zKa ?_ _)); exact BK403.out⟩, ⟨by exact uT HB.out⟩⟩
            case rest =>
              clear HC35
              obtain ⟨kq, x104_34, rfl, HA, HJ34, HO_3, HO_6, BK403, HB⟩ := hcut
              rcases kq with _ | kj34
              · exact absurd HA.out (by simp [filigreeref06_Blocks.j4])
              have H := HA.out
              clear HA
              simp only [filigreeref06_Blocks.j4] at H
              by_cases c55 : x104_34 = true
              · subst c55
                replace H : (if 0 ≤ x7_3 then (if x7_3 < (x3_4.length : Int) then (if 0 ≤ x8_4 then (if x8_4 < (x3_4.length : Int) then (filigreeref06_Blocks.l4 kj34 x3_4 x5_2 t415 x7_3 x8_4 (mn (rd x3_4 x7_3) (rd x3_4 x8_4)) (mx (rd x3_4 x7_3) (rd x3_4 x8_4)) 0 a0_0 l0_1) else (none)) else (none)) else (none)) else (none)) = some r := by rw [if_pos rfl] at H; exact H
                by_cases c56 : 0 ≤ x7_3
                rotate_left
                · rw [if_neg c56] at H; exact absurd H (by simp)
                rw [if_pos c56] at H
                have c56b0 : decide (0 ≤ x7_3) = true := decide_eq_true c56
                (try (have c56b0l := c56b0; simp only [hl3_2, hl3_3, hl3_4] at c56b0l))
                clear c56
                by_cases c57 : x7_3 < (x3_4.length : Int)
                rotate_left
                · rw [if_neg c57] at H; exact absurd H (by simp)
                rw [if_pos c57] at H
                have c57b0 : decide (x7_3 < (x3_4.length : Int)) = true := decide_eq_true c57
                (try (have c57b0l := c57b0; simp only [hl3_2, hl3_3, hl3_4] at c57b0l))
                clear c57
                by_cases c58 : 0 ≤ x8_4
                rotate_left
                · rw [if_neg c58] at H; exact absurd H (by simp)
                rw [if_pos c58] at H
                have c58b0 : decide (0 ≤ x8_4) = true := decide_eq_true c58
                (try (have c58b0l := c58b0; simp only [hl3_2, hl3_3, hl3_4] at c58b0l))
                clear c58
                by_cases c59 : x8_4 < (x3_4.length : Int)
                rotate_left
                · rw [if_neg c59] at H; exact absurd H (by simp)
                rw [if_pos c59] at H
                have c59b0 : decide (x8_4 < (x3_4.length : Int)) = true := decide_eq_true c59
                (try (have c59b0l := c59b0; simp only [hl3_2, hl3_3, hl3_4] at c59b0l))
                clear c59
                obtain ⟨ji60, hji60⟩ : ∃ j_ : Int, (mn (rd x3_4 x7_3) (rd x3_4 x8_4)) = j_ := ⟨_, rfl⟩
                replace H : (filigreeref06_Blocks.l4 kj34 x3_4 x5_2 t415 x7_3 x8_4 ji60 (mx (rd x3_4 x7_3) (rd x3_4 x8_4)) 0 a0_0 l0_1) = some r := by first | (rw [hji60] at H; exact H) | (simp only [hji60] at H ⊢; exact H)
                (try (have hji60l := hji60; simp only [hl3_2, hl3_3, hl3_4] at hji60l))
                (try (have hji60wl := hji60w; simp only [hl3_2, hl3_3, hl3_4] at hji60wl))
                have hji60_ : (if (rd x3_4 x8_4) < (rd x3_4 x7_3) then (rd x3_4 x8_4) else (rd x3_4 x7_3)) = ji60 := hji60
                obtain ⟨ji61, hji61⟩ : ∃ j_ : Int, (mx (rd x3_4 x7_3) (rd x3_4 x8_4)) = j_ := ⟨_, rfl⟩
                replace H : (filigreeref06_Blocks.l4 kj34 x3_4 x5_2 t415 x7_3 x8_4 ji60 ji61 0 a0_0 l0_1) = some r := by first | (rw [hji61] at H; exact H) | (simp only [hji61] at H ⊢; exact H)
                (try (have hji61l := hji61; simp only [hl3_2, hl3_3, hl3_4] at hji61l))
                (try (have hji61wl := hji61w; simp only [hl3_2, hl3_3, hl3_4] at hji61wl))
                have hji61_ : (if (rd x3_4 x7_3) < (rd x3_4 x8_4) then (rd x3_4 x8_4) else (rd x3_4 x7_3)) = ji61 := hji61
                have H' := zMk H
                clear H
                try go_wp2
                replace HO_3 := zMk (zRd HO_3.out)
                replace HO_6 := zMk (zRd HO_6.out)
                replace BK403 := zMk (zKd BK403.out)
                replace HB := zMk (zBd HB.out)
                have p428 : 0 ≤ (x7_3 : Int) := of_decide_eq_true (by assumption)
                have q428 : x7_3 < (x3_4.length : Int) := of_decide_eq_true (by assumption)
                obtain ⟨ad428, e428, hx428_0⟩ := zAi (zRr HO_3.out).2.2 x7_3 p428 q428
                cases e428
                replace p428 := eq_true p428
                replace q428 := eq_true q428
                have p429 : 0 ≤ (x8_4 : Int) := of_decide_eq_true (by assumption)
                have q429 : x8_4 < (x3_4.length : Int) := of_decide_eq_true (by assumption)
                obtain ⟨ad429, e429, hx429_0⟩ := zAi (zRr HO_3.out).2.2 x8_4 p429 q429
                obtain rfl : ad428 = ad429 := (by injection e429)
                replace p429 := eq_true p429
                replace q429 := eq_true q429
                have p430 : 0 ≤ (x7_3 : Int) := of_decide_eq_true (by assumption)
                have q430 : x7_3 < (x3_4.length : Int) := of_decide_eq_true (by assumption)
                obtain ⟨ad430, e430, hx430_0⟩ := zAi (zRr HO_3.out).2.2 x7_3 p430 q430
                obtain rfl : ad428 = ad430 := (by injection e430)
                replace p430 := eq_true p430
                replace q430 := eq_true q430
                have p431 : 0 ≤ (x8_4 : Int) := of_decide_eq_true (by assumption)
                have q431 : x8_4 < (x3_4.length : Int) := of_decide_eq_true (by assumption)
                obtain ⟨ad431, e431, hx431_0⟩ := zAi (zRr HO_3.out).2.2 x8_4 p431 q431
                obtain rfl : ad428 = ad431 := (by injection e431)
                replace p431 := eq_true p431
                replace q431 := eq_true q431
                refine start_ (n := 20) (S := fun w' => w'.cell? (ad428.add (x7_3).toNat) = some (.int .i64 (rd x3_4 x7_3)) ∧ w'.cell? (ad428.add (x8_4).toNat) = some (.int .i64 (rd x3_4 x8_4)) ∧ w'.cell? (ad428.add (x7_3).toNat) = some (.int .i64 (rd x3_4 x7_3)) ∧ w'.cell? (ad428.add (x8_4).toNat) = some (.int .i64 (rd x3_4 x8_4))) (ds := []) #[false, false, false, false, false, false, false, false, false, false, false, false, false, false, false, false, false, false, false, false] (by kernel_rfl) rfl rfl ⟨hx428_0, hx429_0, hx430_0, hx431_0⟩ (fun hHeld => ?_); refine with_tabW filigreeref06_Blocks.tab19 filigreeref06_Blocks.bits19 (fun HT_ HW_ => ?_)
                generalize wc.drew = w62 at HO_3 HO_6 BK403 HB hx428_0 hx429_0 hx430_0 hx431_0 hHeld ⊢
                refine pure_ (i := 0) (N := some 105) (v := ?_) (a' := ?_) #[true, false, false, false, false, false, false, false, false, false, false, false, false, false, false, false, false, false, false, false] rfl rfl (any_of HT_.out (by kernel_rfl)) (fun _ _ _ h => h) (Or.inl ⟨by rfl, ?_⟩) ?_ ?_
                rotate_left
                · intro w'
                  go_simp
                  with_reducible rfl
                rotate_left
                · simp only [Act.put, zSa, zSb, zSc, i64_w, i32_w]
                  rfl
                refine pure_ (i := 1) (N := some 106) (v := ?_) (a' := ?_) #[true, true, false, false, false, false, false, false, false, false, false, false, false, false, false, false, false, false, false, false] rfl rfl (any_of HT_.out (by kernel_rfl)) (fun _ _ _ h => h) (Or.inl ⟨by rfl, ?_⟩) ?_ ?_
                rotate_left
                · intro w'
                  go_simp
                  with_reducible rfl
                rotate_left
                · simp only [Act.put, zSa, zSb, zSc, i64_w, i32_w]
                  rfl
                refine pure_ (i := 2) (N := some 107) (v := ?_) (a' := ?_) #[true, true, true, false, false, false, false, false, false, false, false, false, false, false, false, false, false, false, false, false] rfl rfl (any_of HT_.out (by kernel_rfl)) (fun _ _ _ h => h) (Or.inl ⟨by rfl, ?_⟩) ?_ ?_
                rotate_left
                · intro w'
                  go_simp
                  with_reducible rfl
                rotate_left
                · simp only [Act.put, zSa, zSb, zSc, i64_w, i32_w]
                  rfl
                refine pure_ (i := 4) (N := some 109) (v := ?_) (a' := ?_) #[true, true, true, false, true, false, false, false, false, false, false, false, false, false, false, false, false, false, false, false] rfl rfl (any_of HT_.out (by kernel_rfl)) (fun _ _ _ h => h) (Or.inl ⟨by rfl, ?_⟩) ?_ ?_
                rotate_left
                · intro w'
                  go_simp
                  with_reducible rfl
                rotate_left
                · simp only [Act.put, zSa, zSb, zSc, i64_w, i32_w]
                  rfl
                refine pure_ (i := 5) (N := some 110) (v := ?_) (a' := ?_) #[true, true, true, false, true, true, false, false, false, false, false, false, false, false, false, false, false, false, false, false] rfl rfl (any_of HT_.out (by kernel_rfl)) (fun _ _ _ h => h) (Or.inl ⟨by rfl, ?_⟩) ?_ ?_
                rotate_left
                · intro w'
                  go_simp
                  with_reducible rfl
                rotate_left
                · simp only [Act.put, zSa, zSb, zSc, i64_w, i32_w]
                  rfl
                refine pure_ (i := 6) (N := some 111) (v := ?_) (a' := ?_) #[true, true, true, false, true, true, true, false, false, false, false, false, false, false, false, false, false, false, false, false] rfl rfl (any_of HT_.out (by kernel_rfl)) (fun _ _ _ h => h) (Or.inl ⟨by rfl, ?_⟩) ?_ ?_
                rotate_left
                · intro w'
                  go_simp
                  with_reducible rfl
                rotate_left
                · simp only [Act.put, zSa, zSb, zSc, i64_w, i32_w]
                  rfl
                refine pure_ (i := 9) (N := some 114) (v := ?_) (a' := ?_) #[true, true, true, false, true, true, true, false, false, true, false, false, false, false, false, false, false, false, false, false] rfl rfl (any_of HT_.out (by kernel_rfl)) (fun _ _ _ h => h) (Or.inl ⟨by rfl, ?_⟩) ?_ ?_
                rotate_left
                · intro w'
                  go_simp
                  with_reducible rfl
                rotate_left
                · simp only [Act.put, zSa, zSb, zSc, i64_w, i32_w]
                  rfl
                refine pure_ (i := 10) (N := some 115) (v := ?_) (a' := ?_) #[true, true, true, false, true, true, true, false, false, true, true, false, false, false, false, false, false, false, false, false] rfl rfl (any_of HT_.out (by kernel_rfl)) (fun _ _ _ h => h) (Or.inl ⟨by rfl, ?_⟩) ?_ ?_
                rotate_left
                · intro w'
                  go_simp
                  with_reducible rfl
                rotate_left
                · simp only [Act.put, zSa, zSb, zSc, i64_w, i32_w]
                  rfl
                refine pure_ (i := 11) (N := some 116) (v := ?_) (a' := ?_) #[true, true, true, false, true, true, true, false, false, true, true, true, false, false, false, false, false, false, false, false] rfl rfl (any_of HT_.out (by kernel_rfl)) (fun _ _ _ h => h) (Or.inl ⟨by rfl, ?_⟩) ?_ ?_
                rotate_left
                · intro w'
                  go_simp
                  with_reducible rfl
                rotate_left
                · simp only [Act.put, zSa, zSb, zSc, i64_w, i32_w]
                  rfl
                refine pure_ (i := 13) (N := some 118) (v := ?_) (a' := ?_) #[true, true, true, false, true, true, true, false, false, true, true, true, false, true, false, false, false, false, false, false] rfl rfl (any_of HT_.out (by kernel_rfl)) (fun _ _ _ h => h) (Or.inl ⟨by rfl, ?_⟩) ?_ ?_
                rotate_left
                · intro w'
                  go_simp
                  with_reducible rfl
                rotate_left
                · simp only [Act.put, zSa, zSb, zSc, i64_w, i32_w]
                  rfl
                refine pure_ (i := 14) (N := some 119) (v := ?_) (a' := ?_) #[true, true, true, false, true, true, true, false, false, true, true, true, false, true, true, false, false, false, false, false] rfl rfl (any_of HT_.out (by kernel_rfl)) (fun _ _ _ h => h) (Or.inl ⟨by rfl, ?_⟩) ?_ ?_
                rotate_left
                · intro w'
                  go_simp
                  with_reducible rfl
                rotate_left
                · simp only [Act.put, zSa, zSb, zSc, i64_w, i32_w]
                  rfl
                refine pure_ (i := 15) (N := some 120) (v := ?_) (a' := ?_) #[true, true, true, false, true, true, true, false, false, true, true, true, false, true, true, true, false, false, false, false] rfl rfl (any_of HT_.out (by kernel_rfl)) (fun _ _ _ h => h) (Or.inl ⟨by rfl, ?_⟩) ?_ ?_
                rotate_left
                · intro w'
                  go_simp
                  with_reducible rfl
                rotate_left
                · simp only [Act.put, zSa, zSb, zSc, i64_w, i32_w]
                  rfl
                refine take_ (i := 3) (N := some 108) (v := ?_) (a' := ?_) #[true, true, true, true, true, true, true, false, false, true, true, true, false, true, true, true, false, false, false, false] rfl rfl (take_ofW HT_.out HW_.out (by kernel_rfl)) (fun _ _ _ h => h) (Or.inl ⟨by rfl, ?_⟩) hHeld ?_ ?_
                rotate_left
                · rintro w' ⟨s0, s1, s2, s3⟩
                  go_simp
                  with_reducible rfl
                rotate_left
                · simp only [Act.put, zSa, zSb, zSc, i64_w, i32_w]
                  rfl
                refine take_ (i := 7) (N := some 112) (v := ?_) (a' := ?_) #[true, true, true, true, true, true, true, true, false, true, true, true, false, true, true, true, false, false, false, false] rfl rfl (take_ofW HT_.out HW_.out (by kernel_rfl)) (fun _ _ _ h => h) (Or.inl ⟨by rfl, ?_⟩) hHeld ?_ ?_
                rotate_left
                · rintro w' ⟨s0, s1, s2, s3⟩
                  go_simp
                  with_reducible rfl
                rotate_left
                · simp only [Act.put, zSa, zSb, zSc, i64_w, i32_w]
                  rfl
                refine pure_ (i := 8) (N := some 113) (v := ?_) (a' := ?_) #[true, true, true, true, true, true, true, true, true, true, true, true, false, true, true, true, false, false, false, false] rfl rfl (any_of HT_.out (by kernel_rfl)) (fun _ _ _ h => h) (Or.inl ⟨by rfl, ?_⟩) ?_ ?_
                rotate_left
                · intro w'
                  go_simp
                  with_reducible rfl
                rotate_left
                · simp only [Act.put, zSa, zSb, zSc, i64_w, i32_w]
                  rfl
                refine pure_ (i := 18) (N := some 13) (v := ?_) (a' := ?_) #[true, true, true, true, true, true, true, true, true, true, true, true, false, true, true, true, false, false, true, false] rfl rfl (any_of HT_.out (by kernel_rfl)) (fun _ _ _ h => h) (Or.inl ⟨by rfl, ?_⟩) ?_ ?_
                rotate_left
                · intro w'
                  go_simp
                  with_reducible rfl
                rotate_left
                · simp only [Act.put, zSa, zSb, zSc, i64_w, i32_w]
                  rfl
                refine take_ (i := 12) (N := some 117) (v := ?_) (a' := ?_) #[true, true, true, true, true, true, true, true, true, true, true, true, true, true, true, true, false, false, true, false] rfl rfl (take_ofW HT_.out HW_.out (by kernel_rfl)) (fun _ _ _ h => h) (Or.inl ⟨by rfl, ?_⟩) hHeld ?_ ?_
                rotate_left
                · rintro w' ⟨s0, s1, s2, s3⟩
                  go_simp
                  with_reducible rfl
                rotate_left
                · simp only [Act.put, zSa, zSb, zSc, i64_w, i32_w]
                  rfl
                refine take_ (i := 16) (N := some 121) (v := ?_) (a' := ?_) #[true, true, true, true, true, true, true, true, true, true, true, true, true, true, true, true, true, false, true, false] rfl rfl (take_ofW HT_.out HW_.out (by kernel_rfl)) (fun _ _ _ h => h) (Or.inl ⟨by rfl, ?_⟩) hHeld ?_ ?_
                rotate_left
                · rintro w' ⟨s0, s1, s2, s3⟩
                  go_simp
                  with_reducible rfl
                rotate_left
                · simp only [Act.put, zSa, zSb, zSc, i64_w, i32_w]
                  rfl
                refine pure_ (i := 17) (N := some 122) (v := ?_) (a' := ?_) #[true, true, true, true, true, true, true, true, true, true, true, true, true, true, true, true, true, true, true, false] rfl rfl (any_of HT_.out (by kernel_rfl)) (fun _ _ _ h => h) (Or.inl ⟨by rfl, ?_⟩) ?_ ?_
                rotate_left
                · intro w'
                  go_simp
                  with_reducible rfl
                rotate_left
                · simp only [Act.put, zSa, zSb, zSc, i64_w, i32_w]
                  rfl
                refine pure_ (i := 19) (N := some 14) (v := ?_) (a' := ?_) #[true, true, true, true, true, true, true, true, true, true, true, true, true, true, true, true, true, true, true, true] rfl rfl (any_of HT_.out (by kernel_rfl)) (fun _ _ _ h => h) (Or.inl ⟨by rfl, ?_⟩) ?_ ?_
                rotate_left
                · intro w'
                  go_simp
                  with_reducible rfl
                rotate_left
                · simp only [Act.put, zSa, zSb, zSc, i64_w, i32_w]
                  rfl
                refine done_ (done_of HT_.out (by kernel_rfl)) ?_
                try go_wp2
                go_loopg [15] kj34 (fun kq v15 w' => ∃ (x3_6 : List Int) (x15_6 : Int), v15 = .int .i64 x15_6 ∧ Aside0 (filigreeref06_Blocks.l4 kq x3_6 x5_2 t415 x7_3 x8_4 ji60 ji61 x15_6 a0_0 l0_1 = some r) ∧ Aside0 (kq ≤ kj34) ∧ Aside0 (Kd.R (Kd.int .i64) 3 w' w.heap.size (fun k_ => some k_ ≠ (v416 : Value).ownBlock) (.slice (some ad428) x3_4.length co14) x3_6) ∧ Aside0 (Kd.R (Kd.int .i64) 3 w' w.heap.size (fun k_ => some k_ ≠ ((.slice (some ad428) x3_4.length co14) : Value).ownBlock) v416 t415) ∧ Aside0 (w'.heap[gb403]? = some (.cells #[.int .i64 a0_0, (.slice (some ad418) l0_1.length c0_1)] 24 (0, 0))) ∧ Aside0 (Below w.heap.size w w'))
                case atStart => exact ⟨(x3_4), (0), (by first | rfl | (simp; done) | (simp [*]; done)), H', ⟨Nat.le_refl _⟩, ⟨by (try simp only [hl3_2]); (try simp only [hl3_3]); (try simp only [hl3_4]); exact uR HO_3.out⟩, ⟨by (try simp only [hl3_2]); (try simp only [hl3_3]); (try simp only [hl3_4]); exact uR HO_6.out⟩, ⟨by (try simp only [hl3_2]); (try simp only [hl3_3]); (try simp only [hl3_4]); (with_reducible repeat (first | refine zKn ?_ _ | refine zKd ?_ | refine zKa ?_ _)); exact BK403.out⟩, ⟨by exact uT HB.out⟩⟩
                clear H'
                obtain ⟨x3_6, x15_6, rfl, HA, HK6, HO_3, HO_6, BK403, HB⟩ := hrel
                have hl3_6 := (zRr HO_3.out).1
                rw [hl3_6] at HO_3
                (try simp only [hl3_6])
                (try simp only [hl3_6] at BK403)
                (try simp only [hl3_6] at HO_6)
                rcases gk with _ | k6
                · exact absurd HA.out (by simp [filigreeref06_Blocks.l4])
                have H := HA.out
                clear HA
                simp only [filigreeref06_Blocks.l4] at H
                by_cases c63 : x15_6 < (x3_6.length : Int)
                · rw [if_pos c63] at H
                  have c63b0 : decide (x15_6 < (x3_6.length : Int)) = true := decide_eq_true c63
                  (try (have c63b0l := c63b0; simp only [hl3_2, hl3_3, hl3_4, hl3_6] at c63b0l))
                  clear c63
                  by_cases c64 : 0 ≤ x15_6
                  rotate_left
                  · rw [if_neg c64] at H; exact absurd H (by simp)
                  rw [if_pos c64] at H
                  have c64b0 : decide (0 ≤ x15_6) = true := decide_eq_true c64
                  (try (have c64b0l := c64b0; simp only [hl3_2, hl3_3, hl3_4, hl3_6] at c64b0l))
                  clear c64
                  by_cases c65 : (rd x3_6 x15_6) = ji61
                  · rw [if_pos c65] at H
                    have c65b0 : ((rd x3_6 x15_6) == ji61) = true := beq_iff_eq.mpr c65
                    (try (have c65b0l := c65b0; simp only [hl3_2, hl3_3, hl3_4, hl3_6] at c65b0l))
                    have c65b1 : ((rd x3_6 x15_6) != ji61) = false := bne_eq_false_iff_eq.mpr c65
                    (try (have c65b1l := c65b1; simp only [hl3_2, hl3_3, hl3_4, hl3_6] at c65b1l))
                    clear c65
                    obtain ⟨y433, hy433⟩ : ∃ y_ : List Int, y_ = (x3_6.set (x15_6 : Int).toNat ji60) := ⟨_, rfl⟩
                    replace H : (filigreeref06_Blocks.l4 k6 y433 x5_2 t415 x7_3 x8_4 ji60 ji61 (wrap64 (x15_6 + 1)) a0_0 l0_1) = some r := by first | (rw [hy433]; with_reducible exact H) | (have H2_ := bsm H; first | (rw [hy433]; with_reducible exact H2_) | with_reducible exact H2_) | with_reducible exact H | (rw [hy433]; exact H) | exact H
                    have Ny433 := zMk hy433
                    clear hy433
                    have H' := zMk H
                    clear H
                    have p432 : 0 ≤ (x15_6 : Int) := of_decide_eq_true (by assumption)
                    have q432 : x15_6 < (x3_6.length : Int) := of_decide_eq_true (by assumption)
                    obtain ⟨ad432, e432, hx432_0⟩ := zAi (zRr HO_3.out).2.2 x15_6 p432 q432
                    obtain rfl : ad428 = ad432 := (by injection e432)
                    replace p432 := eq_true p432
                    replace q432 := eq_true q432
                    have p66 : 0 ≤ (x15_6 : Int) := of_decide_eq_true (by assumption)
                    have q66 : (x15_6 : Int) < ((x3_6.length : Int) : Int) := of_decide_eq_true (by assumption)
                    obtain ⟨go66, co66, eo66, gb66, gl66, cl66, HG66⟩ := Kd.R_form HO_3.out (by omega)
                    (first |  cases eo66|  (injection eo66 with ea_ en_ ec_; (first |  subst ea_|  (injection ea_ with ea_; subst ea_)); subst ec_; clear en_))
                    have GB66 := zMk gb66
                    have IGB66 := ownGe GB66.out
                    have GG66 := zMk HG66
                    clear gb66 gl66 HG66
                    (first | simp only [add_plain] at hx428_0 | skip)
                    (first | simp only [add_plain] at hx429_0 | skip)
                    (first | simp only [add_plain] at hx430_0 | skip)
                    (first | simp only [add_plain] at hx431_0 | skip)
                    (first | simp only [add_plain] at hx432_0 | skip)
                    obtain ⟨hx66_0, hf66_0⟩ := Kd.R_celln 0 HO_3.out (x15_6 : Int) p66 q66
                    replace p66 := eq_true p66
                    replace q66 := eq_true q66
                    have HP67 := Kd.R_putg HO_3.out (x15_6 : Int) ji60
                    go_wp2_with (first | ((with_reducible refine gate_store (t := 3) (p := 138) rfl ?_); refine store_event (t := 3) (p := 138) (v := ?vo_w68) (w1 := (wr.setCell ⟨go66, (x15_6 : Int).toNat, none⟩ (.int .i64 ji60))) ?hg ?ho ?hn ?hr ?_; (case ho => rfl); (case hg => rfl); (case hn => rfl); (case hr => first | (go_simp; done)|(go_simp; rfl)|(go_simp; rw [show ∀ x : Int, IntKind.u32.wrap (IntKind.u8.wrap x) = x % 256 from fun x => (by show (x % 256) % 4294967296 = x % 256; omega)])); intro w68 hw; have hg : wr.grownBy w68 (some go66) := (by rw [hw]; exact HP67.2); have hp_ : Kd.R (Kd.int .i64) 3 w68 w.heap.size (fun k_ => some k_ ≠ (v416 : Value).ownBlock) (.slice (some ⟨go66, 0, none⟩) x3_6.length co14) y433 := (by rw [hw, Ny433.out]; exact HP67.1); clear HP67; replace HO_6 := zMk (Kd.R_after (v := (.slice (some ⟨go66, 0, none⟩) x3_6.length co14)) (v1 := (.slice (some ⟨go66, 0, none⟩) x3_6.length co14)) (ok := (fun _ => True)) (by (with_reducible repeat (first |  apply zRa|  apply zRn|  apply zRd)); exact zRm HO_6.out (fun _ hk => ⟨trivial, hk⟩)) hg (.inl rfl)); replace BK403 := zMk (blk_grown (g := gb403) (o := .cells #[.int .i64 a0_0, .slice (some ad418) l0_1.length c0_1] 24 (0, 0)) (by (with_reducible repeat (first |  refine zKn ?_ _|  refine zKd ?_|  refine zKa ?_ _)); exact BK403.out) hg (Kd.R_ne HO_3.out BK403.out (by decide))); replace HO_3 := zMk (hp_); replace HB := zMk ((by rw [hw]; exact below_set (HB.out) GB66.out : Below w.heap.size w w68)); clear hg hw hp_))
                    (try simp only [← hl3_6])
                    (try rw [show (⟨go66, (x7_3 : Int).toNat, none⟩ : Addr) = Addr.add ⟨go66, 0, none⟩ (x7_3 : Int).toNat from (add_plain _ _).symm])
                    (try rw [show (⟨go66, (x8_4 : Int).toNat, none⟩ : Addr) = Addr.add ⟨go66, 0, none⟩ (x8_4 : Int).toNat from (add_plain _ _).symm])
                    go_roundg k6
                    case measure => have := HK1.out; have := HK2.out; have := HK3.out; have := HK4.out; have := HJ34.out; have := HK6.out; omega
                    case rel => exact ⟨(y433), (wrap64 (x15_6 + 1)), (by first | rfl | (simp; done) | (simp [*]; done)), H', ⟨by have := HK1.out; have := HK2.out; have := HK3.out; have := HK4.out; have := HJ34.out; have := HK6.out; omega⟩, ⟨by (try simp only [hl3_2]); (try simp only [hl3_3]); (try simp only [hl3_4]); (try simp only [hl3_6]); exact uR HO_3.out⟩, ⟨by (try simp only [hl3_2]); (try simp only [hl3_3]); (try simp only [hl3_4]); (try simp only [hl3_6]); (with_reducible repeat (first | apply zRa | apply zRn | apply zRd)); exact zRm HO_6.out (fun _ hk => hk.2)⟩, ⟨by (try simp only [hl3_2]); (try simp only [hl3_3]); (try simp only [hl3_4]); (try simp only [hl3_6]); (with_reducible repeat (first | refine zKn ?_ _ | refine zKd ?_ | refine zKa ?_ _)); exact BK403.out⟩, ⟨by exact uT HB.out⟩⟩
                  · rw [if_neg c65] at H
                    have c65b0 : ((rd x3_6 x15_6) == ji61) = false := beq_eq_false_iff_ne.mpr c65
                    (try (have c65b0l := c65b0; simp only [hl3_2, hl3_3, hl3_4, hl3_6] at c65b0l))
                    have c65b1 : ((rd x3_6 x15_6) != ji61) = true := bne_iff_ne.mpr c65
                    (try (have c65b1l := c65b1; simp only [hl3_2, hl3_3, hl3_4, hl3_6] at c65b1l))
                    have H' := zMk H
                    clear H
                    have p432 : 0 ≤ (x15_6 : Int) := of_decide_eq_true (by assumption)
                    have q432 : x15_6 < (x3_6.length : Int) := of_decide_eq_true (by assumption)
                    obtain ⟨ad432, e432, hx432_0⟩ := zAi (zRr HO_3.out).2.2 x15_6 p432 q432
                    obtain rfl : ad428 = ad432 := (by injection e432)
                    replace p432 := eq_true p432
                    replace q432 := eq_true q432
                    go_wp2
                    (try simp only [← hl3_6])
                    go_roundg k6
                    case measure => have := HK1.out; have := HK2.out; have := HK3.out; have := HK4.out; have := HJ34.out; have := HK6.out; omega
                    case rel => exact ⟨(x3_6), (wrap64 (x15_6 + 1)), (by first | rfl | (simp; done) | (simp [*]; done)), H', ⟨by have := HK1.out; have := HK2.out; have := HK3.out; have := HK4.out; have := HJ34.out; have := HK6.out; omega⟩, ⟨by (try simp only [hl3_2]); (try simp only [hl3_3]); (try simp only [hl3_4]); (try simp only [hl3_6]); exact uR HO_3.out⟩, ⟨by (try simp only [hl3_2]); (try simp only [hl3_3]); (try simp only [hl3_4]); (try simp only [hl3_6]); exact uR HO_6.out⟩, ⟨by (try simp only [hl3_2]); (try simp only [hl3_3]); (try simp only [hl3_4]); (try simp only [hl3_6]); (with_reducible repeat (first | refine zKn ?_ _ | refine zKd ?_ | refine zKa ?_ _)); exact BK403.out⟩, ⟨by exact uT HB.out⟩⟩
                · rw [if_neg c63] at H
                  have c63b0 : decide (x15_6 < (x3_6.length : Int)) = false := decide_eq_false c63
                  (try (have c63b0l := c63b0; simp only [hl3_2, hl3_3, hl3_4, hl3_6] at c63b0l))
                  clear c63
                  have H' := zMk H
                  clear H
                  go_wp2
                  (try simp only [← hl3_4, ← hl3_6])
                  go_roundg k6
                  case measure => have := HK1.out; have := HK2.out; have := HK3.out; have := HK4.out; have := HJ34.out; have := HK6.out; omega
                  case rel => exact ⟨(x3_6), (wrap64 (x8_4 + 1)), (by first | rfl | (simp; done) | (simp [*]; done)), H', ⟨by have := HK1.out; have := HK2.out; have := HK3.out; have := HK4.out; have := HJ34.out; have := HK6.out; omega⟩, ⟨by (try simp only [hl3_2]); (try simp only [hl3_3]); (try simp only [hl3_4]); (try simp only [hl3_6]); exact uR HO_3.out⟩, ⟨by (try simp only [hl3_2]); (try simp only [hl3_3]); (try simp only [hl3_4]); (try simp only [hl3_6]); exact uR HO_6.out⟩, ⟨by (try simp only [hl3_2]); (try simp only [hl3_3]); (try simp only [hl3_4]); (try simp only [hl3_6]); (with_reducible repeat (first | refine zKn ?_ _ | refine zKd ?_ | refine zKa ?_ _)); exact BK403.out⟩, ⟨by exact uT HB.out⟩⟩
              · replace c55 := Bool.eq_false_iff.mpr c55
                subst c55
                replace H : (filigreeref06_Blocks.l3 kj34 x3_4 x5_2 t415 x7_3 (wrap64 (x8_4 + 1)) a0_0 l0_1) = some r := by rw [if_neg (show ¬ (false = true) by decide)] at H; exact H
                have H' := zMk H
                clear H
                go_wp2
                (try simp only [← hl3_4])
                go_roundg kj34
                case measure => have := HK1.out; have := HK2.out; have := HK3.out; have := HK4.out; have := HJ34.out; omega
                case rel => exact ⟨(x3_4), (wrap64 (x8_4 + 1)), (by first | rfl | (simp; done) | (simp [*]; done)), H', ⟨by have := HK1.out; have := HK2.out; have := HK3.out; have := HK4.out; have := HJ34.out; omega⟩, ⟨by (try simp only [hl3_2]); (try simp only [hl3_3]); (try simp only [hl3_4]); exact uR HO_3.out⟩, ⟨by (try simp only [hl3_2]); (try simp only [hl3_3]); (try simp only [hl3_4]); exact uR HO_6.out⟩, ⟨by (try simp only [hl3_2]); (try simp only [hl3_3]); (try simp only [hl3_4]); (with_reducible repeat (first | refine zKn ?_ _ | refine zKd ?_ | refine zKa ?_ _)); exact BK403.out⟩, ⟨by exact uT HB.out⟩⟩
          · rw [if_neg c28] at H
            have c28b0 : decide (x8_4 < x7_3) = false := decide_eq_false c28
            (try (have c28b0l := c28b0; simp only [hl3_2, hl3_3, hl3_4] at c28b0l))
            clear c28
            have H' := zMk H
            clear H
            go_wp2
            (try simp only [← hl3_3, ← hl3_4])
            go_roundg k4
            case measure => have := HK1.out; have := HK2.out; have := HK3.out; have := HK4.out; omega
            case rel => exact ⟨(x3_4), (wrap64 (x7_3 + 1)), (by first | rfl | (simp; done) | (simp [*]; done)), H', ⟨by have := HK1.out; have := HK2.out; have := HK3.out; have := HK4.out; omega⟩, ⟨by (try simp only [hl3_2]); (try simp only [hl3_3]); (try simp only [hl3_4]); exact uR HO_3.out⟩, ⟨by (try simp only [hl3_2]); (try simp only [hl3_3]); (try simp only [hl3_4]); exact uR HO_6.out⟩, ⟨by (try simp only [hl3_2]); (try simp only [hl3_3]); (try simp only [hl3_4]); (with_reducible repeat (first | refine zKn ?_ _ | refine zKd ?_ | refine zKa ?_ _)); exact BK403.out⟩, ⟨by exact uT HB.out⟩⟩
        · rw [if_neg c26] at H
          have c26b0 : decide (x7_3 < (l0_1.length : Int)) = false := decide_eq_false c26
          (try (have c26b0l := c26b0; simp only [hl3_2, hl3_3] at c26b0l))
          clear c26
          have H' := zMk H
          clear H
          have hcz69_0 : wr.cell? ⟨gb403, 0, none⟩ = some (.int .i64 a0_0) := (zKc BK403.out 0).trans rfl
          have hcz69_1 : wr.cell? ⟨gb403, 1, none⟩ = some (.slice A0_1 l0_1.length c0_1) := (zKc BK403.out 1).trans rfl
          have hfz69_0 := zKf BK403.out 0
          have hfz69_1 := zKf BK403.out 1
          go_wp2
          (try simp only [← hl3_2, ← hl3_3])
          go_roundg k3
          case measure => have := HK1.out; have := HK2.out; have := HK3.out; omega
          case rel => exact ⟨(x3_3), (wrap64 (x5_2 + 1)), (by first | rfl | (simp; done) | (simp [*]; done)), H', ⟨by have := HK1.out; have := HK2.out; have := HK3.out; omega⟩, ⟨by (try simp only [hl3_2]); (try simp only [hl3_3]); (with_reducible repeat (first | apply zRa | apply zRn | apply zRd)); exact zRm HO_3.out (fun _ hk => trivial)⟩, ⟨by (try simp only [hl3_2]); (try simp only [hl3_3]); (with_reducible repeat (first | refine zKn ?_ _ | refine zKd ?_ | refine zKa ?_ _)); exact BK403.out⟩, ⟨by exact uT HB.out⟩⟩
      · rw [if_neg c15] at H
        have c15b0 : decide (x5_2 < a0_0) = false := decide_eq_false c15
        (try (have c15b0l := c15b0; simp only [hl3_2] at c15b0l))
        clear c15
        have H' := zMk H
        clear H
        have hcz70_0 : wr.cell? ⟨gb403, 0, none⟩ = some (.int .i64 a0_0) := (zKc BK403.out 0).trans rfl
        have hcz70_1 : wr.cell? ⟨gb403, 1, none⟩ = some (.slice A0_1 l0_1.length c0_1) := (zKc BK403.out 1).trans rfl
        have hfz70_0 := zKf BK403.out 0
        have hfz70_1 := zKf BK403.out 1
        go_wp2
        go_loopg [16, 17] k2 (fun kq v16 v17 w' => ∃ (x16_3 : List (List Int)) (x17_3 : Int), v17 = .int .i64 x17_3 ∧ Aside0 (filigreeref06_Blocks.l5 kq x3_2 x16_3 x17_3 = some r) ∧ Aside0 (kq ≤ k2) ∧ Aside0 (Kd.R (Kd.int .i64) 3 w' w.heap.size (fun _ => True) (.slice Ao14 x3_2.length co14) x3_2) ∧ Aside0 (Kd.S (Kd.slice 3 (Kd.int .i64)) 33 w' w.heap.size (fun k_ => some k_ ≠ ((.slice Ao14 x3_2.length co14) : Value).ownBlock) v16 x16_3) ∧ Aside0 (w'.heap[gb403]? = some (.cells #[.int .i64 a0_0, (.slice A0_1 l0_1.length c0_1)] 24 (0, 0))) ∧ Aside0 (Below w.heap.size w w'))
        case atStart => exact ⟨(([] : List (List Int))), (0), (by first | rfl | (simp; done) | (simp [*]; done)), H', ⟨Nat.le_refl _⟩, ⟨by (try simp only [hl3_2]); exact uR HO_3.out⟩, ⟨by (try simp only [hl3_2]); first | exact Kd.S_nil _ _ _ _ _ | exact Kd.N_nil _ _ _ _ _ | exact Kd.V_nil _ _ _ _ _ | exact Kd.Q_nil _ _ _ _ _ | exact Kd.R_nil _ _ _ _ _⟩, ⟨by (try simp only [hl3_2]); (with_reducible repeat (first | refine zKn ?_ _ | refine zKd ?_ | refine zKa ?_ _)); exact BK403.out⟩, ⟨by exact uT HB.out⟩⟩
        clear H'
        obtain ⟨x16_3, x17_3, rfl, HA, HK3, HO_3, HO_16, BK403, HB⟩ := hrel
        rcases gk with _ | k3
        · exact absurd HA.out (by simp [filigreeref06_Blocks.l5])
        have H := HA.out
        clear HA
        simp only [filigreeref06_Blocks.l5] at H
        by_cases c71 : x17_3 < (x3_2.length : Int)
        · rw [if_pos c71] at H
          have c71b0 : decide (x17_3 < (x3_2.length : Int)) = true := decide_eq_true c71
          (try (have c71b0l := c71b0; simp only [hl3_2] at c71b0l))
          clear c71
          by_cases c72 : 0 ≤ x17_3
          rotate_left
          · rw [if_neg c72] at H; exact absurd H (by simp)
          rw [if_pos c72] at H
          have c72b0 : decide (0 ≤ x17_3) = true := decide_eq_true c72
          (try (have c72b0l := c72b0; simp only [hl3_2] at c72b0l))
          clear c72
          by_cases c73 : (rd x3_2 x17_3) = x17_3
          · rw [if_pos c73] at H
            have c73b0 : ((rd x3_2 x17_3) == x17_3) = true := beq_iff_eq.mpr c73
            (try (have c73b0l := c73b0; simp only [hl3_2] at c73b0l))
            have c73b1 : ((rd x3_2 x17_3) != x17_3) = false := bne_eq_false_iff_eq.mpr c73
            (try (have c73b1l := c73b1; simp only [hl3_2] at c73b1l))
            clear c73
            have H' := zMk H
            clear H
            have p434 : 0 ≤ (x17_3 : Int) := of_decide_eq_true (by assumption)
            have q434 : x17_3 < (x3_2.length : Int) := of_decide_eq_true (by assumption)
            obtain ⟨ad434, e434, hx434_0⟩ := zAi (zRr HO_3.out).2.2 x17_3 p434 q434
            cases e434
            replace p434 := eq_true p434
            replace q434 := eq_true q434
            go_wp2
            go_loopg [18, 19] k3 (fun kq v18 v19 w' => ∃ (x18_4 : List Int) (x19_4 : Int), v19 = .int .i64 x19_4 ∧ Aside0 (filigreeref06_Blocks.l6 kq x3_2 x16_3 x17_3 x18_4 x19_4 = some r) ∧ Aside0 (kq ≤ k3) ∧ Aside0 (Kd.R (Kd.int .i64) 3 w' w.heap.size (fun k_ => some k_ ≠ (v18 : Value).ownBlock) (.slice (some ad434) x3_2.length co14) x3_2) ∧ Aside0 (Kd.S (Kd.slice 3 (Kd.int .i64)) 33 w' w.heap.size (fun k_ => some k_ ≠ ((.slice (some ad434) x3_2.length co14) : Value).ownBlock ∧ some k_ ≠ (v18 : Value).ownBlock) u16 x16_3) ∧ Aside0 (Kd.R (Kd.int .i64) 3 w' w.heap.size (fun k_ => some k_ ≠ ((.slice (some ad434) x3_2.length co14) : Value).ownBlock) v18 x18_4) ∧ Aside0 (w'.heap[gb403]? = some (.cells #[.int .i64 a0_0, (.slice A0_1 l0_1.length c0_1)] 24 (0, 0))) ∧ Aside0 (Below w.heap.size w w'))
            case atStart => exact ⟨(([] : List Int)), (x17_3), (by first | rfl | (simp; done) | (simp [*]; done)), H', ⟨Nat.le_refl _⟩, ⟨by (try simp only [hl3_2]); (with_reducible repeat (first | apply zRa | apply zRn | apply zRd)); exact zRm HO_3.out (fun _ hk => (by simp [Value.ownBlock]))⟩, ⟨by (try simp only [hl3_2]); (with_reducible repeat (first | apply Kd.S_alloc | apply Kd.S_drewN | apply Kd.S_drew)); exact Kd.S_mono HO_16.out (fun _ hk => ⟨hk, (by simp [Value.ownBlock])⟩)⟩, ⟨by (try simp only [hl3_2]); first | exact Kd.R_nil _ _ _ _ _ | exact Kd.N_nil _ _ _ _ _ | exact Kd.V_nil _ _ _ _ _ | exact Kd.Q_nil _ _ _ _ _ | exact Kd.S_nil _ _ _ _ _⟩, ⟨by (try simp only [hl3_2]); (with_reducible repeat (first | refine zKn ?_ _ | refine zKd ?_ | refine zKa ?_ _)); exact BK403.out⟩, ⟨by exact uT HB.out⟩⟩
            clear H'
            obtain ⟨x18_4, x19_4, rfl, HA, HK4, HO_3, HO_16, HO_18, BK403, HB⟩ := hrel
            rcases gk with _ | k4
            · exact absurd HA.out (by simp [filigreeref06_Blocks.l6])
            have H := HA.out
            clear HA
            simp only [filigreeref06_Blocks.l6] at H
            by_cases c74 : x19_4 < (x3_2.length : Int)
            · rw [if_pos c74] at H
              have c74b0 : decide (x19_4 < (x3_2.length : Int)) = true := decide_eq_true c74
              (try (have c74b0l := c74b0; simp only [hl3_2] at c74b0l))
              clear c74
              by_cases c75 : 0 ≤ x19_4
              rotate_left
              · rw [if_neg c75] at H; exact absurd H (by simp)
              rw [if_pos c75] at H
              have c75b0 : decide (0 ≤ x19_4) = true := decide_eq_true c75
              (try (have c75b0l := c75b0; simp only [hl3_2] at c75b0l))
              clear c75
              by_cases c76 : (rd x3_2 x19_4) = x17_3
              · rw [if_pos c76] at H
                have c76b0 : ((rd x3_2 x19_4) == x17_3) = true := beq_iff_eq.mpr c76
                (try (have c76b0l := c76b0; simp only [hl3_2] at c76b0l))
                have c76b1 : ((rd x3_2 x19_4) != x17_3) = false := bne_eq_false_iff_eq.mpr c76
                (try (have c76b1l := c76b1; simp only [hl3_2] at c76b1l))
                clear c76
                by_cases c77 : x18_4.length < 17592186044416
                rotate_left
                · rw [if_neg c77] at H; exact absurd H (by simp)
                rw [if_pos c77] at H
                have LMc77 := zMk c77
                clear c77
                obtain ⟨y436, hy436⟩ : ∃ y_ : List Int, y_ = (x18_4 ++ [x19_4]) := ⟨_, rfl⟩
                replace H : (filigreeref06_Blocks.l6 k4 x3_2 x16_3 x17_3 y436 (wrap64 (x19_4 + 1))) = some r := by first | (rw [hy436]; with_reducible exact H) | (have H2_ := bsm H; first | (rw [hy436]; with_reducible exact H2_) | with_reducible exact H2_) | with_reducible exact H | (rw [hy436]; exact H) | exact H
                have Ny436 := zMk hy436
                clear hy436
                have H' := zMk H
                clear H
                have p435 : 0 ≤ (x19_4 : Int) := of_decide_eq_true (by assumption)
                have q435 : x19_4 < (x3_2.length : Int) := of_decide_eq_true (by assumption)
                obtain ⟨ad435, e435, hx435_0⟩ := zAi (zRr HO_3.out).2.2 x19_4 p435 q435
                obtain rfl : ad434 = ad435 := (by injection e435)
                replace p435 := eq_true p435
                replace q435 := eq_true q435
                go_wp2_with (first | ((with_reducible refine gate_builtin (b := .append) (xs := #[.tmp 164, .tmp 166]) rfl ?_); at_builtin; refine Kd.R_append (Kd.int .i64) (w0 := w) w.heap.size rfl (.tmp 164) (.tmp 166) 33 3 (.int .i64 0) 8 rfl Try.underlying33 info3 rfl (by decide) (by omega) u18 x18_4 x19_4 [.int .i64 x19_4] (fun k_ => some k_ ≠ (.slice (some ad434) x3_2.length co14 : Value).ownBlock) (fun _ => False) rfl rfl ?aP (fun _ hk => hk.elim) ?aF ?aO ?aB ?aS ?aL ?_; (case aP => exact rfl); (case aB => exact (by exact uT HB.out)); (case aF => exact (fun k_ hk => Kd.fresh' (zRt (by exact uR HO_3.out)) k_ hk)); (case aO => exact (by exact uR HO_18.out)); (case aS => exact (zBs (by exact uT HB.out))); (case aL => have := LMc77.out; omega); intro v437 w78 ho hb hg hat; rw [← Ny436.out] at ho; replace HO_3 := zMk (Kd.R_after (ok := (fun _ => True)) (by (with_reducible repeat (first |  apply zRa|  apply zRn|  apply zRd)); exact zRm HO_3.out (fun _ hk => ⟨trivial, hk⟩)) hg hat); replace HO_16 := zMk (Kd.S_after (ok := (fun k_ => some k_ ≠ (.slice (some ad434) x3_2.length co14 : Value).ownBlock)) (by (with_reducible repeat (first |  apply Kd.S_alloc|  apply Kd.S_drewN|  apply Kd.S_drew)); exact HO_16.out) hg hat); replace BK403 := zMk (blk_grown (g := gb403) (o := .cells #[.int .i64 a0_0, .slice A0_1 l0_1.length c0_1] 24 (0, 0)) (by (with_reducible repeat (first |  refine zKn ?_ _|  refine zKd ?_|  refine zKa ?_ _)); exact BK403.out) hg (Kd.R_ne HO_18.out BK403.out (by decide))); replace HB := zMk (hb); have HO438 := zMk (ho); clear HO_18 ho hb hg hat))
                go_roundg k4
                case measure => have := HK1.out; have := HK2.out; have := HK3.out; have := HK4.out; omega
                case rel => exact ⟨(y436), (wrap64 (x19_4 + 1)), (by first | rfl | (simp; done) | (simp [*]; done)), H', ⟨by have := HK1.out; have := HK2.out; have := HK3.out; have := HK4.out; omega⟩, ⟨by (try simp only [hl3_2]); (with_reducible repeat (first | apply zRa | apply zRn | apply zRd)); exact zRm HO_3.out (fun _ hk => hk.2)⟩, ⟨by (try simp only [hl3_2]); (with_reducible repeat (first | apply Kd.S_alloc | apply Kd.S_drewN | apply Kd.S_drew)); exact HO_16.out⟩, ⟨by (try simp only [hl3_2]); exact uR HO438.out⟩, ⟨by (try simp only [hl3_2]); (with_reducible repeat (first | refine zKn ?_ _ | refine zKd ?_ | refine zKa ?_ _)); exact BK403.out⟩, ⟨by exact uT HB.out⟩⟩
              · rw [if_neg c76] at H
                have c76b0 : ((rd x3_2 x19_4) == x17_3) = false := beq_eq_false_iff_ne.mpr c76
                (try (have c76b0l := c76b0; simp only [hl3_2] at c76b0l))
                have c76b1 : ((rd x3_2 x19_4) != x17_3) = true := bne_iff_ne.mpr c76
                (try (have c76b1l := c76b1; simp only [hl3_2] at c76b1l))
                have H' := zMk H
                clear H
                have p435 : 0 ≤ (x19_4 : Int) := of_decide_eq_true (by assumption)
                have q435 : x19_4 < (x3_2.length : Int) := of_decide_eq_true (by assumption)
                obtain ⟨ad435, e435, hx435_0⟩ := zAi (zRr HO_3.out).2.2 x19_4 p435 q435
                obtain rfl : ad434 = ad435 := (by injection e435)
                replace p435 := eq_true p435
                replace q435 := eq_true q435
                go_wp2
                go_roundg k4
                case measure => have := HK1.out; have := HK2.out; have := HK3.out; have := HK4.out; omega
                case rel => exact ⟨(x18_4), (wrap64 (x19_4 + 1)), (by first | rfl | (simp; done) | (simp [*]; done)), H', ⟨by have := HK1.out; have := HK2.out; have := HK3.out; have := HK4.out; omega⟩, ⟨by (try simp only [hl3_2]); exact uR HO_3.out⟩, ⟨by (try simp only [hl3_2]); (with_reducible repeat (first | apply Kd.S_alloc | apply Kd.S_drewN | apply Kd.S_drew)); exact HO_16.out⟩, ⟨by (try simp only [hl3_2]); exact uR HO_18.out⟩, ⟨by (try simp only [hl3_2]); (with_reducible repeat (first | refine zKn ?_ _ | refine zKd ?_ | refine zKa ?_ _)); exact BK403.out⟩, ⟨by exact uT HB.out⟩⟩
            · rw [if_neg c74] at H
              have c74b0 : decide (x19_4 < (x3_2.length : Int)) = false := decide_eq_false c74
              (try (have c74b0l := c74b0; simp only [hl3_2] at c74b0l))
              clear c74
              by_cases c79 : x16_3.length < 5864062014805
              rotate_left
              · rw [if_neg c79] at H; exact absurd H (by simp)
              rw [if_pos c79] at H
              have LMc79 := zMk c79
              clear c79
              obtain ⟨y439, hy439⟩ : ∃ y_ : List (List Int), y_ = (x16_3 ++ [x18_4]) := ⟨_, rfl⟩
              replace H : (filigreeref06_Blocks.l5 k4 x3_2 y439 (wrap64 (x17_3 + 1))) = some r := by first | (rw [hy439]; with_reducible exact H) | (have H2_ := bsm H; first | (rw [hy439]; with_reducible exact H2_) | with_reducible exact H2_) | with_reducible exact H | (rw [hy439]; exact H) | exact H
              have Ny439 := zMk hy439
              clear hy439
              have H' := zMk H
              clear H
              obtain ⟨Ao81, co81, eo81⟩ := zRs HO_18.out
              subst eo81
              go_wp2_with (first | ((with_reducible refine gate_builtin (b := .append) (xs := #[.tmp 168, .tmp 170]) rfl ?_); at_builtin; refine Kd.S_append (Kd.slice 3 (Kd.int .i64)) (w0 := w) w.heap.size rfl (.tmp 168) (.tmp 170) 29 33 (.slice none 0 0) 24 rfl Try.underlying29 info33 rfl (by decide) (by omega) u16 x16_3 x18_4 [.slice Ao81 x18_4.length co81] (fun k_ => some k_ ≠ (.slice (some ad434) x3_2.length co14 : Value).ownBlock) (fun k_ => some k_ = (.slice Ao81 x18_4.length co81 : Value).ownBlock) rfl rfl ?aP (fun k_ hk_ => ((zRm (ok' := fun k_ => ((fun k_ => some k_ ≠ (.slice (some ad434) x3_2.length co14 : Value).ownBlock)) k_ ∧ some k_ ≠ (u16 : Value).ownBlock) (Kd.R_apart' (HO_18.out) (Kd.S_typed HO_16.out) (by decide)) (fun k_ hk => ⟨hk.1, hk.2⟩))).1 k_ hk_.symm) ?aF ?aO ?aB ?aS ?aL ?_; (case aP => exact Kd.M_row (zRm (Kd.R_tight rfl (zRm (ok' := fun k_ => ((fun k_ => some k_ ≠ (.slice (some ad434) x3_2.length co14 : Value).ownBlock)) k_ ∧ some k_ ≠ (u16 : Value).ownBlock) (Kd.R_apart' (HO_18.out) (Kd.S_typed HO_16.out) (by decide)) (fun k_ hk => ⟨hk.1, hk.2⟩))) (fun _ h_ => h_))); (case aB => exact (by exact uT HB.out)); (case aF => exact (fun k_ hk => Kd.fresh' (zRt (by exact uR HO_3.out)) k_ hk)); (case aO => exact (by (with_reducible repeat (first |  apply Kd.S_alloc|  apply Kd.S_drewN|  apply Kd.S_drew)); exact Kd.S_mono HO_16.out (fun k_ hk => ⟨hk.1, fun e_ => hk.2 e_⟩))); (case aS => exact (zBs (by exact uT HB.out))); (case aL => have := LMc79.out; omega); intro v440 w80 ho hb hg hat; rw [← Ny439.out] at ho; replace HO_3 := zMk (Kd.R_over' (by exact uR HO_3.out) (Kd.S_typed (by (with_reducible repeat (first |  apply Kd.S_alloc|  apply Kd.S_drewN|  apply Kd.S_drew)); exact HO_16.out)) (by decide) hg); replace BK403 := zMk (blk_grown (g := gb403) (o := .cells #[.int .i64 a0_0, .slice A0_1 l0_1.length c0_1] 24 (0, 0)) (by (with_reducible repeat (first |  refine zKn ?_ _|  refine zKd ?_|  refine zKa ?_ _)); exact BK403.out) hg (Kd.S_ne HO_16.out BK403.out (by decide))); replace HB := zMk (hb); have HO441 := zMk (ho); clear HO_16 HO_18 ho hb hg hat))
              go_roundg k4
              case measure => have := HK1.out; have := HK2.out; have := HK3.out; have := HK4.out; omega
              case rel => exact ⟨(y439), (wrap64 (x17_3 + 1)), (by first | rfl | (simp; done) | (simp [*]; done)), H', ⟨by have := HK1.out; have := HK2.out; have := HK3.out; have := HK4.out; omega⟩, ⟨by (try simp only [hl3_2]); (with_reducible repeat (first | apply zRa | apply zRn | apply zRd)); exact zRm HO_3.out (fun _ hk => trivial)⟩, ⟨by (try simp only [hl3_2]); (with_reducible repeat (first | apply Kd.S_alloc | apply Kd.S_drewN | apply Kd.S_drew)); exact HO441.out⟩, ⟨by (try simp only [hl3_2]); (with_reducible repeat (first | refine zKn ?_ _ | refine zKd ?_ | refine zKa ?_ _)); exact BK403.out⟩, ⟨by exact uT HB.out⟩⟩
          · rw [if_neg c73] at H
            have c73b0 : ((rd x3_2 x17_3) == x17_3) = false := beq_eq_false_iff_ne.mpr c73
            (try (have c73b0l := c73b0; simp only [hl3_2] at c73b0l))
            have c73b1 : ((rd x3_2 x17_3) != x17_3) = true := bne_iff_ne.mpr c73
            (try (have c73b1l := c73b1; simp only [hl3_2] at c73b1l))
            have H' := zMk H
            clear H
            have p434 : 0 ≤ (x17_3 : Int) := of_decide_eq_true (by assumption)
            have q434 : x17_3 < (x3_2.length : Int) := of_decide_eq_true (by assumption)
            obtain ⟨ad434, e434, hx434_0⟩ := zAi (zRr HO_3.out).2.2 x17_3 p434 q434
            cases e434
            replace p434 := eq_true p434
            replace q434 := eq_true q434
            go_wp2
            go_roundg k3
            case measure => have := HK1.out; have := HK2.out; have := HK3.out; omega
            case rel => exact ⟨(x16_3), (wrap64 (x17_3 + 1)), (by first | rfl | (simp; done) | (simp [*]; done)), H', ⟨by have := HK1.out; have := HK2.out; have := HK3.out; omega⟩, ⟨by (try simp only [hl3_2]); exact uR HO_3.out⟩, ⟨by (try simp only [hl3_2]); (with_reducible repeat (first | apply Kd.S_alloc | apply Kd.S_drewN | apply Kd.S_drew)); exact HO_16.out⟩, ⟨by (try simp only [hl3_2]); (with_reducible repeat (first | refine zKn ?_ _ | refine zKd ?_ | refine zKa ?_ _)); exact BK403.out⟩, ⟨by exact uT HB.out⟩⟩
        · rw [if_neg c71] at H
          have c71b0 : decide (x17_3 < (x3_2.length : Int)) = false := decide_eq_false c71
          (try (have c71b0l := c71b0; simp only [hl3_2] at c71b0l))
          clear c71
          obtain rfl := zOi H
          go_wp2
          go_ret
          exact ⟨_, by first | rfl | (simp [errW_none, errW_some] <;> rfl) | (simp [*, errW_none, errW_some] <;> rfl), by (with_reducible repeat (first | apply Kd.S_alloc | apply Kd.S_drewN | apply Kd.S_drew)); exact Kd.S_mono HO_16.out (fun _ hk => trivial), by exact uT HB.out⟩
  · rw [if_neg c2] at H
    exact absurd H (by simp)

def keepB (N : Nat) (x : Int) : List Bool := (ups N).map fun u => u != x
theorem keepB_len (N : Nat) (x : Int) : (keepB N x).length = N := by rw [keepB, List.length_map, ups_len]
theorem rdb_nat (l : List Bool) (i : Nat) (h : i < l.length) : rdOf false l (i : Int) = l[i] := by unfold rdOf; rw [zTn]; simp [h]
theorem keepB_rd (N : Nat) (x v : Int) (v0 : 0 ≤ v) (v1 : v < (N : Int)) : rdOf false (keepB N x) v = (v != x) := by
  obtain ⟨i, rfl⟩ := Int.eq_ofNat_of_zero_le v0
  rw [rdb_nat _ i (by rw [keepB_len]; omega)]
  simp [keepB, ups]
theorem all_l0 (N : Nat) (x : Int) (hN : N ≤ 1000000000) (d : Nat) : ∀ (i : Nat) (l : List Bool), N - i = d → i ≤ N → l.length = N → (∀ j : Nat, j < i → rdOf false l j = ((j : Int) != x)) → Ev (fun k => filigreeref06_all.l0 k N x l i) (keepB N x) := by
  induction d with
  | zero =>
    intro i l hd hi hl hr
    obtain rfl : i = N := by omega
    have e : l = keepB i x := by
      apply List.ext_getElem (by rw [keepB_len]; exact hl)
      intro j h1 h2
      have h3 := hr j (by omega)
      rw [rdb_nat l j h1] at h3
      rw [h3]
      simp [keepB, ups]
    subst e
    refine Ev.step (fun k => ?_) (Ev.now _)
    simp only [filigreeref06_all.l0]
    rw [if_neg (by omega)]
  | succ d ih =>
    intro i l hd hi hl hr
    refine Ev.step (fun k => ?_) (ih (i + 1) (l.set i ((i : Int) != x)) (by omega) (by omega) (by rw [List.length_set]; exact hl) (fun j hj => ?_))
    · simp only [filigreeref06_all.l0]
      rw [if_pos (by omega), if_pos (by omega), if_pos (by omega), w64n i (by omega), zTn]
    · have := rdb_set l (i : Int) (j : Int) ((i : Int) != x) (by omega) (by omega) (by omega)
      rw [zTn] at this
      rw [this]
      split
      · rename_i e; rw [e]
      · exact hr j (by omega)
theorem all_ev2 (N : Nat) (x : Int) (hN : N ≤ 1000000000) : Ev (fun k => filigreeref06_all.f k N x) (keepB N x) := by
  refine Ev.congr (fun k => ?_) (all_l0 N x hN N 0 (List.replicate N false) rfl (Nat.zero_le _) List.length_replicate (fun j hj => by omega))
  unfold filigreeref06_all.f
  rw [if_pos (by omega), zTn, if_pos (by omega)]; rfl
theorem Only_l0 (N : Nat) (E : List S43) (x : Int) (hE : Ends N E) (hm : E.length ≤ 1000000000) (d : Nat) : ∀ (i : Nat) (acc : List S43), E.length - i = d → i ≤ E.length → acc.length ≤ i →
    Ev (fun k => filigreeref04_Only.l0 k (keepB N x) i N E N acc) ((N : Int), acc ++ dropV (E.drop i) x) := by
  induction d with
  | zero =>
    intro i acc hd hi ha
    obtain rfl : i = E.length := by omega
    rw [List.drop_length]
    refine Ev.step (fun k => ?_) (Ev.now _)
    simp only [filigreeref04_Only.l0]
    rw [if_neg (by omega)]
    simp [dropV]
  | succ d ih =>
    intro i acc hd hi ha
    have hlt : i < E.length := by omega
    obtain ⟨a0, a1, b0, b1⟩ := hE _ (rdE_mem E i hlt)
    rw [dropE E i hlt]
    generalize he : rd_T43 E (i : Int) = e at *
    have hd1 : dropV (e :: E.drop (i + 1)) x = if e.f0 ≠ x ∧ e.f1 ≠ x then e :: dropV (E.drop (i + 1)) x else dropV (E.drop (i + 1)) x := by
      unfold dropV
      rw [List.filter_cons]
      by_cases h1 : e.f0 = x
      · rw [if_neg (by simp [h1]), if_neg (by simp [h1])]
      · by_cases h2 : e.f1 = x
        · rw [if_neg (by simp [h2]), if_neg (by simp [h2])]
        · rw [if_pos (by simp [h1, h2]), if_pos ⟨h1, h2⟩]
    rw [hd1]
    have hcond : ∀ k, filigreeref04_Only.l0 (k + 1) (keepB N x) i N E N acc = if e.f0 ≠ x ∧ e.f1 ≠ x then filigreeref04_Only.l0 k (keepB N x) ((i + 1 : Nat) : Int) N E N (acc ++ [e]) else filigreeref04_Only.l0 k (keepB N x) ((i + 1 : Nat) : Int) N E N acc := fun k => by
      simp only [filigreeref04_Only.l0]
      rw [if_pos (by omega), if_pos (by omega), he, if_pos (by rw [keepB_len]; exact a1), if_pos a0, keepB_rd N x _ a0 a1, w64n i (by omega)]
      by_cases h1 : e.f0 = x
      · rw [if_neg (by simp [h1]), if_neg (fun h => h.1 h1)]
      · rw [if_pos (by simp [h1]), if_pos (by rw [keepB_len]; exact b1), if_pos b0, keepB_rd N x _ b0 b1]
        by_cases h2 : e.f1 = x
        · rw [if_neg (by simp [h2]), if_neg (fun h => h.2 h2)]
        · rw [if_pos (by simp [h2]), if_pos (by omega), if_pos ⟨h1, h2⟩]
    by_cases hc : e.f0 ≠ x ∧ e.f1 ≠ x
    · rw [if_pos hc]
      have h1 := ih (i + 1) (acc ++ [e]) (by omega) (by omega) (by rw [List.length_append]; simp; omega)
      rw [List.append_assoc, List.singleton_append] at h1
      exact Ev.step (fun k => by rw [hcond k, if_pos hc]) h1
    · rw [if_neg hc]
      exact Ev.step (fun k => by rw [hcond k, if_neg hc]) (ih (i + 1) acc (by omega) (by omega) (by omega))
theorem Only_ev (N : Nat) (E : List S43) (x : Int) (hE : Ends N E) (hm : E.length ≤ 1000000000) : Ev (fun k => filigreeref04_Only.f k N E (keepB N x)) ((N : Int), dropV E x) := by
  have h := Only_l0 N E x hE hm E.length 0 [] rfl (Nat.zero_le _) (Nat.zero_le _)
  rw [List.drop_zero, List.nil_append] at h
  exact h
theorem dropV_ends {N : Nat} {E : List S43} (hE : Ends N E) (x : Int) : Ends N (dropV E x) := fun e he => hE e (mem_dropV.1 he).1
theorem dropV_len (E : List S43) (x : Int) : (dropV E x).length ≤ E.length := List.length_filter_le _ _
theorem other_at {N : Nat} {E : List S43} (hR : Rt N E) (i : Nat) (hi : i < E.length) (v : Int) : ∃ a p, filigreeref06_other.f (rd_T43 E i).f0 (rd_T43 E i).f1 (rd_T43 E i).f2 v = some (a, p) ∧ (p = true → At E i v a) ∧ (p = false → ∀ b, ¬ At E i v b) ∧ 0 ≤ a ∧ a < (N : Int) := by
  rw [rdE_get E i hi]
  have hb := hR.ends _ (List.getElem_mem hi)
  have hlt := hR.lt _ (List.getElem_mem hi)
  unfold filigreeref06_other.f
  by_cases h : E[i].f0 = v
  · rw [if_pos h]
    exact ⟨_, _, rfl, fun _ => ⟨i, hi, rfl, .inl ⟨h, rfl⟩⟩, (fun e => (by cases e)), hb.2.2.1, hb.2.2.2⟩
  · rw [if_neg h]
    refine ⟨_, _, rfl, fun e => ⟨i, hi, rfl, .inr ⟨by simpa using e, rfl⟩⟩, fun e b hA => ?_, hb.1, hb.2.1⟩
    obtain ⟨j, hj, e2, hA⟩ := hA
    obtain rfl : i = j := by omega
    have e3 : E[i].f1 ≠ v := by simpa using e
    rcases hA with ⟨h1, -⟩ | ⟨h1, -⟩
    · exact h h1
    · exact e3 h1
structure OfI (E : List S43) (l : List Int) : Prop where
  len : l.length = E.length
  ok : ∀ i, 0 ≤ i → i < (E.length : Int) → 0 ≤ rd l i ∧ rd l i ≤ i ∧ rd l (rd l i) = rd l i ∧ RC E i (rd l i)
def Mono (E : List S43) (l m : List Int) : Prop := ∀ i j, 0 ≤ i → i < (E.length : Int) → 0 ≤ j → j < (E.length : Int) → rd l i = rd l j → rd m i = rd m j
def MgV (E : List S43) (v : Int) (l : List Int) : Prop := ∀ w, 0 ≤ w → w < v → ∀ i k a b, At E i w a → At E k w b → Cn (dropV E w) a b → k < i → rd l i = rd l k
def MgI (E : List S43) (v i : Int) (l : List Int) : Prop := ∀ i' k a b, i' < i → k < i' → At E i' v a → At E k v b → Cn (dropV E v) a b → rd l i' = rd l k
def MgK (E : List S43) (v i k : Int) (l : List Int) : Prop := ∀ k' a b, k' < k → k' < i → At E i v a → At E k' v b → Cn (dropV E v) a b → rd l i = rd l k'
theorem MgV.mono {E : List S43} {v : Int} {l m : List Int} (h : MgV E v l) (hm : Mono E l m) : MgV E v m := fun w w0 w1 i k a b h1 h2 h3 h4 => hm i k h1.rng.1 h1.rng.2 h2.rng.1 h2.rng.2 (h w w0 w1 i k a b h1 h2 h3 h4)
theorem MgI.mono {E : List S43} {v i : Int} {l m : List Int} (h : MgI E v i l) (hm : Mono E l m) : MgI E v i m := fun i' k a b e1 e2 h1 h2 h3 => hm i' k h1.rng.1 h1.rng.2 h2.rng.1 h2.rng.2 (h i' k a b e1 e2 h1 h2 h3)
theorem MgK.mono {E : List S43} {v i k : Int} {l m : List Int} (h : MgK E v i k l) (hm : Mono E l m) : MgK E v i k m := fun k' a b e1 e2 h1 h2 h3 => hm i k' h1.rng.1 h1.rng.2 h2.rng.1 h2.rng.2 (h k' a b e1 e2 h1 h2 h3)
def relab (x y : Int) (l : List Int) : List Int := l.map fun z => if z = y then x else z
theorem relab_rd (x y : Int) (l : List Int) (i : Int) (h0 : 0 ≤ i) (h1 : i < (l.length : Int)) : rd (relab x y l) i = if rd l i = y then x else rd l i := by
  obtain ⟨i, rfl⟩ := Int.eq_ofNat_of_zero_le h0
  rw [rd_nat _ i (by rw [relab, List.length_map]; omega), rd_nat l i (by omega)]
  simp [relab]
theorem relab_mono {E : List S43} {l : List Int} (h : OfI E l) (x y : Int) : Mono E l (relab x y l) := fun i j i0 i1 j0 j1 e => by
  rw [relab_rd _ _ _ _ i0 (by rw [h.len]; exact i1), relab_rd _ _ _ _ j0 (by rw [h.len]; exact j1), e]
theorem OfI.relab {E : List S43} {l : List Int} (h : OfI E l) {i k : Int} (i0 : 0 ≤ i) (i1 : i < (E.length : Int)) (k0 : 0 ≤ k) (k1 : k < (E.length : Int)) (hr : RC E i k) {x y : Int} (hxy : x < y) (hc : (x = rd l i ∧ y = rd l k) ∨ (x = rd l k ∧ y = rd l i)) : OfI E (relab x y l) := by
  have hi := h.ok i i0 i1
  have hk := h.ok k k0 k1
  have hx : 0 ≤ x ∧ rd l x = x ∧ x < (E.length : Int) := by rcases hc with ⟨rfl, -⟩ | ⟨rfl, -⟩ <;> first | exact ⟨hi.1, hi.2.2.1, by omega⟩ | exact ⟨hk.1, hk.2.2.1, by omega⟩
  have hyx : RC E y x := by
    rcases hc with ⟨rfl, rfl⟩ | ⟨rfl, rfl⟩
    · exact (hk.2.2.2.symm.trans hr.symm).trans hi.2.2.2
    · exact (hi.2.2.2.symm.trans hr).trans hk.2.2.2
  refine ⟨by rw [Go.Proofs.Ytkiemlbobcklpaa.A.relab, List.length_map]; exact h.len, fun j j0 j1 => ?_⟩
  have hj := h.ok j j0 j1
  have hl : (l.length : Int) = E.length := by rw [h.len]
  rw [relab_rd _ _ _ _ j0 (by omega)]
  by_cases e : rd l j = y
  · rw [if_pos e]
    refine ⟨hx.1, by omega, ?_, (e ▸ hj.2.2.2).trans hyx⟩
    rw [relab_rd _ _ _ _ hx.1 (by omega), hx.2.1, if_neg (by omega)]
  · rw [if_neg e]
    refine ⟨hj.1, hj.2.1, ?_, hj.2.2.2⟩
    rw [relab_rd _ _ _ _ hj.1 (by omega), hj.2.2.1, if_neg e]
def EndB (E : List S43) (r : List (List Int)) : Prop := ∃ l, OfI E l ∧ (∀ i k, Rel E i k → rd l i = rd l k) ∧ r = compsL E.length l
theorem Blk_l6 (M : Nat) (l : List Int) (hl : l.length = M) (hM : M ≤ 1000000000) (x16 : List (List Int)) (hx : x16.length ≤ 1000000000) (v : Int) (r : List (List Int)) (d : Nat) : ∀ (j : Nat) (x18 : List Int), M - j = d → j ≤ M → x18.length ≤ j →
    Ev (fun k => filigreeref06_Blocks.l5 k l (x16 ++ [x18 ++ ((ups M).drop j).filter fun u => rd l u == v]) (wrap64 (v + 1))) r → Ev (fun k => filigreeref06_Blocks.l6 k l x16 v x18 j) r := by
  induction d with
  | zero =>
    intro j x6 hd hj hx2 h
    obtain rfl : j = M := by omega
    rw [ups_drop_end, List.filter_nil, List.append_nil] at h
    refine Ev.step (fun k => ?_) h
    simp only [filigreeref06_Blocks.l6]
    rw [if_neg (by omega), if_pos (by omega)]
  | succ d ih =>
    intro j x6 hd hj hx2 h
    have hlt : j < M := by omega
    rw [ups_drop M j hlt] at h
    by_cases hc : rd l (j : Int) = v
    · rw [List.filter_cons_of_pos (by simpa using hc)] at h
      refine Ev.step (fun k => ?_) (ih (j + 1) (x6 ++ [(j : Int)]) (by omega) (by omega) (by rw [List.length_append]; simp; omega) (by rw [List.append_assoc]; exact h))
      simp only [filigreeref06_Blocks.l6]
      rw [if_pos (by omega), if_pos (by omega), if_pos hc, if_pos (by omega), w64n j (by omega)]
    · rw [List.filter_cons_of_neg (by simpa using hc)] at h
      refine Ev.step (fun k => ?_) (ih (j + 1) x6 (by omega) (by omega) (by omega) h)
      simp only [filigreeref06_Blocks.l6]
      rw [if_pos (by omega), if_pos (by omega), if_neg hc, w64n j (by omega)]
theorem Blk_l5 (M : Nat) (l : List Int) (hl : l.length = M) (hM : M ≤ 1000000000) (hle : ∀ u : Int, 0 ≤ u → u < (M : Int) → rd l u ≤ u) (d : Nat) : ∀ (i : Nat) (x4 : List (List Int)), M - i = d → i ≤ M → x4.length ≤ i →
    Ev (fun k => filigreeref06_Blocks.l5 k l x4 i) (x4 ++ (((ups M).drop i).filter fun v => rd l v == v).map (clsL M l)) := by
  induction d with
  | zero =>
    intro i x4 hd hi hx
    obtain rfl : i = M := by omega
    rw [ups_drop_end, List.filter_nil, zMn, List.append_nil]
    refine Ev.step (fun k => ?_) (Ev.now _)
    simp only [filigreeref06_Blocks.l5]
    rw [if_neg (by omega)]
  | succ d ih =>
    intro i x4 hd hi hx
    have hlt : i < M := by omega
    rw [ups_drop M i hlt]
    by_cases hc : rd l (i : Int) = i
    · rw [List.filter_cons_of_pos (by simpa using hc), zMc]
      have h1 := ih (i + 1) (x4 ++ [clsL M l i]) (by omega) (by omega) (by rw [List.length_append]; simp; omega)
      rw [List.append_assoc, List.singleton_append] at h1
      have h2 := Blk_l6 M l hl hM x4 (by omega) (i : Int) _ (M - i) i [] rfl hi (Nat.zero_le _) (by
        rw [List.nil_append, cls_from hle i hi, w64n i (by omega)]; exact h1)
      refine Ev.step (fun k => ?_) h2
      simp only [filigreeref06_Blocks.l5]
      rw [if_pos (by omega), if_pos (by omega), if_pos hc]
    · rw [List.filter_cons_of_neg (by simpa using hc)]
      refine Ev.step (fun k => ?_) (ih (i + 1) x4 (by omega) (by omega) (by omega))
      simp only [filigreeref06_Blocks.l5]
      rw [if_pos (by omega), if_pos (by omega), if_neg hc, w64n i (by omega)]
theorem Blk_l4 (N : Nat) (E : List S43) (hM : E.length ≤ 1000000000) (l : List Int) (x5 : Int) (x6 : List Int) (x7 x8 x y : Int) (hxy : x ≠ y) (r : List (List Int)) (hl : l.length = E.length) (d : Nat) : ∀ (j : Nat) (m : List Int), E.length - j = d → j ≤ E.length → m.length = E.length → (∀ u : Nat, u < E.length → rd m u = if u < j then (if rd l u = y then x else rd l u) else rd l u) →
    Ev (fun k => filigreeref06_Blocks.l3 k (relab x y l) x5 x6 x7 (wrap64 (x8 + 1)) N E) r → Ev (fun k => filigreeref06_Blocks.l4 k m x5 x6 x7 x8 x y j N E) r := by
  induction d with
  | zero =>
    intro j m hd hj hm hr h
    obtain rfl : j = E.length := by omega
    have e : m = relab x y l := by
      apply List.ext_getElem (by rw [relab, List.length_map, hm, hl])
      intro u h1 h2
      have h3 := hr u (by omega)
      rw [rd_nat m u h1, if_pos (by omega), rd_nat l u (by omega)] at h3
      rw [h3]
      simp [relab]
    subst e
    refine Ev.step (fun k => ?_) h
    simp only [filigreeref06_Blocks.l4]
    rw [if_neg (by omega)]
  | succ d ih =>
    intro j m hd hj hm hr h
    have hlt : j < E.length := by omega
    have hmj := hr j hlt
    rw [if_neg (by omega)] at hmj
    by_cases hc : rd m (j : Int) = y
    · refine Ev.step (fun k => ?_) (ih (j + 1) (m.set j x) (by omega) (by omega) (by rw [List.length_set]; exact hm) (fun u hu => ?_) h)
      · simp only [filigreeref06_Blocks.l4]
        rw [if_pos (by omega), if_pos (by omega), if_pos hc, w64n j (by omega), zTn]
      · have h1 := rd_set m (j : Int) (u : Int) x (by omega) (by omega) (by omega)
        rw [zTn] at h1
        rw [h1, hr u hu]
        by_cases e : u = j
        · rw [if_pos (by omega), if_pos (by omega), e, ← hmj, if_pos hc]
        · rw [if_neg (by omega)]
          by_cases h2 : u < j
          · rw [if_pos h2, if_pos (show u < j + 1 by omega)]
          · rw [if_neg h2, if_neg (show ¬ u < j + 1 by omega)]
    · refine Ev.step (fun k => ?_) (ih (j + 1) m (by omega) (by omega) hm (fun u hu => ?_) h)
      · simp only [filigreeref06_Blocks.l4]
        rw [if_pos (by omega), if_pos (by omega), if_neg hc, w64n j (by omega)]
      · rw [hr u hu]
        by_cases e : u = j
        · rw [if_neg (by omega), if_pos (by omega), e, ← hmj, if_neg hc]
        · by_cases h2 : u < j
          · rw [if_pos h2, if_pos (show u < j + 1 by omega)]
          · rw [if_neg h2, if_neg (show ¬ u < j + 1 by omega)]
theorem mn_mx (a b : Int) (h : a ≠ b) : (mn a b < mx a b) ∧ ((mn a b = a ∧ mx a b = b) ∨ (mn a b = b ∧ mx a b = a)) := by
  unfold mn mx
  split <;> split <;> omega
section
variable {N : Nat} {E : List S43}
theorem Blk_l3 (hR : Rt N E) (v : Nat) (i : Nat) (hi : i < E.length)
    (cont : ∀ l, OfI E l → MgV E v l → MgI E v ((i + 1 : Nat) : Int) l → ∃ r, Ev (fun k => filigreeref06_Blocks.l2 k l v (labs N (dropV E v)) ((i + 1 : Nat) : Int) N E) r ∧ EndB E r) (d : Nat) :
    ∀ (k : Nat) (l : List Int), i - k = d → k ≤ i → OfI E l → MgV E v l → MgI E v i l → MgK E v i k l → ∃ r, Ev (fun f => filigreeref06_Blocks.l3 f l v (labs N (dropV E v)) i k N E) r ∧ EndB E r := by
  have hE1 := hR.E1
  induction d with
  | zero =>
    intro k l hd hk ho hV hI hK
    obtain rfl : k = i := by omega
    obtain ⟨r, h1, h2⟩ := cont l ho hV (fun i' k' a b e1 e2 h3 h4 h5 => by
      by_cases e : i' = (k : Int)
      · subst e
        exact hK k' a b e2 e2 h3 h4 h5
      · exact hI i' k' a b (by omega) e2 h3 h4 h5)
    refine ⟨r, Ev.step (fun f => ?_) h1, h2⟩
    simp only [filigreeref06_Blocks.l3]
    rw [if_neg (by omega), w64n k (by omega)]
  | succ d ih =>
    intro k l hd hk ho hV hI hK
    have hlt : k < i := by omega
    obtain ⟨a, p, e1, ea1, ea2, a0, a1⟩ := other_at hR i hi (v : Int)
    obtain ⟨b, q, e2, eb1, eb2, b0, b1⟩ := other_at hR k (by omega) (v : Int)
    have hL := labs_len N (dropV E v)
    -- nothing to join
    have quiet : MgK E v i ((k + 1 : Nat) : Int) l → ∃ r, Ev (fun f => filigreeref06_Blocks.l3 f l v (labs N (dropV E v)) i ((k + 1 : Nat) : Int) N E) r ∧ EndB E r := fun hK2 => ih (k + 1) l (by omega) (by omega) ho hV hI hK2
    have stepK : (∀ a' b', At E i v a' → At E k v b' → Cn (dropV E v) a' b' → rd l i = rd l k) → MgK E v i ((k + 1 : Nat) : Int) l := fun h k' a' b' f1 f2 f3 f4 f5 => by
      by_cases e : k' = (k : Int)
      · subst e; exact h a' b' f3 f4 f5
      · exact hK k' a' b' (by omega) f2 f3 f4 f5
    have j4q : ∀ r, Ev (fun f => filigreeref06_Blocks.l3 f l v (labs N (dropV E v)) i ((k + 1 : Nat) : Int) N E) r → Ev (fun f => filigreeref06_Blocks.j4 f l v (labs N (dropV E v)) i k false N E) r := fun r h => Ev.step (fun f => by simp only [filigreeref06_Blocks.j4]; rw [if_neg Bool.false_ne_true, w64n k (by omega)]) h
    have head : ∀ f, filigreeref06_Blocks.l3 (f + 1) l v (labs N (dropV E v)) i k N E = (if p = true then (if q = true then (if rd (labs N (dropV E v)) a = rd (labs N (dropV E v)) b then filigreeref06_Blocks.j4 f l v (labs N (dropV E v)) i k (rd l i != rd l k) N E else filigreeref06_Blocks.j4 f l v (labs N (dropV E v)) i k false N E) else filigreeref06_Blocks.j4 f l v (labs N (dropV E v)) i k false N E) else filigreeref06_Blocks.j4 f l v (labs N (dropV E v)) i k false N E) := fun f => by
      have hlen := ho.len
      simp only [filigreeref06_Blocks.l3]
      simp only [if_pos (show (k : Int) < (i : Int) by omega), if_pos (show (0 : Int) ≤ (i : Int) by omega), if_pos (show (i : Int) < (E.length : Int) by omega), if_pos (show (0 : Int) ≤ (k : Int) by omega), if_pos (show (k : Int) < (E.length : Int) by omega), e1, e2, zOb]
      cases p <;> cases q <;> simp only [if_true, Bool.false_eq_true, if_false]
      simp only [if_pos a0, if_pos (show a < ((labs N (dropV E v)).length : Int) by rw [hL]; exact a1), if_pos b0, if_pos (show b < ((labs N (dropV E v)).length : Int) by rw [hL]; exact b1), if_pos (show (i : Int) < (l.length : Int) by omega), if_pos (show (k : Int) < (l.length : Int) by omega)]
    cases p with
    | false =>
      obtain ⟨r, h1, h2⟩ := quiet (stepK fun a' b' f3 _ _ => absurd f3 (ea2 rfl a'))
      exact ⟨r, Ev.step (fun f => by rw [head f, if_neg Bool.false_ne_true]) (j4q r h1), h2⟩
    | true =>
      cases q with
      | false =>
        obtain ⟨r, h1, h2⟩ := quiet (stepK fun a' b' _ f4 _ => absurd f4 (eb2 rfl b'))
        exact ⟨r, Ev.step (fun f => by rw [head f, if_pos rfl, if_neg Bool.false_ne_true]) (j4q r h1), h2⟩
      | true =>
        have hA := ea1 rfl
        have hB := eb1 rfl
        have uA : ∀ a', At E i v a' → a' = a := fun a' h => by
          rcases hA.two h with ⟨-, h2⟩ | ⟨h1, h2⟩
          · exact h2
          · rw [h2, h1]
        have uB : ∀ b', At E k v b' → b' = b := fun b' h => by
          rcases hB.two h with ⟨-, h2⟩ | ⟨h1, h2⟩
          · exact h2
          · rw [h2, h1]
        have hiff := labs_iff (dropV_ends hR.ends (v : Int)) (u := a) (v := b) ⟨a0, a1⟩ ⟨b0, b1⟩
        by_cases hc : rd (labs N (dropV E v)) a = rd (labs N (dropV E v)) b
        rotate_left
        · obtain ⟨r, h1, h2⟩ := quiet (stepK fun a' b' f3 f4 f5 => absurd (hiff.2 (by rw [← uA a' f3, ← uB b' f4]; exact f5)) hc)
          exact ⟨r, Ev.step (fun f => by rw [head f, if_pos rfl, if_pos rfl, if_neg hc]) (j4q r h1), h2⟩
        have hrel : Rel E i k := ⟨v, a, b, hA, hB, hiff.1 hc⟩
        by_cases hne : rd l (i : Int) = rd l (k : Int)
        · obtain ⟨r, h1, h2⟩ := quiet (stepK fun _ _ _ _ _ => hne)
          refine ⟨r, Ev.step (fun f => ?_) (j4q r h1), h2⟩
          rw [head f, if_pos rfl, if_pos rfl, if_pos hc, hne, bne_self_eq_false]
        · obtain ⟨m1, m2⟩ := mn_mx _ _ hne
          have ho2 : OfI E (relab (mn (rd l i) (rd l k)) (mx (rd l i) (rd l k)) l) := ho.relab (i := (i : Int)) (k := (k : Int)) (by omega) (by omega) (by omega) (by omega) (.step (.refl _) hrel) m1 (by
            rcases m2 with ⟨m3, m4⟩ | ⟨m3, m4⟩
            · exact .inl ⟨m3, m4⟩
            · exact .inr ⟨m3, m4⟩)
          have hmo := relab_mono ho (mn (rd l i) (rd l k)) (mx (rd l i) (rd l k))
          have hjoin : rd (relab (mn (rd l i) (rd l k)) (mx (rd l i) (rd l k)) l) i = rd (relab (mn (rd l i) (rd l k)) (mx (rd l i) (rd l k)) l) k := by
            have hlen := ho.len
            rw [relab_rd _ _ _ _ (by omega) (by omega), relab_rd _ _ _ _ (by omega) (by omega)]
            rcases m2 with ⟨m3, m4⟩ | ⟨m3, m4⟩
            · rw [if_neg (by omega), if_pos (by omega)]; omega
            · rw [if_pos (by omega), if_neg (by omega)]; omega
          obtain ⟨r, h1, h2⟩ := ih (k + 1) _ (by omega) (by omega) ho2 (hV.mono hmo) (hI.mono hmo) (fun k' a' b' f1 f2 f3 f4 f5 => by
            by_cases e : k' = (k : Int)
            · subst e; exact hjoin
            · exact hmo i k' (by omega) (by omega) f4.rng.1 f4.rng.2 (hK k' a' b' (by omega) f2 f3 f4 f5))
          have h3 := Blk_l4 N E (by omega) l (v : Int) (labs N (dropV E v)) (i : Int) (k : Int) _ _ (by omega : mn (rd l i) (rd l k) ≠ mx (rd l i) (rd l k)) r ho.len E.length 0 l rfl (Nat.zero_le _) ho.len (fun u hu => by rw [if_neg (by omega)]) (by rw [w64n k (by omega)]; exact h1)
          refine ⟨r, Ev.step (fun f => ?_) (Ev.step (f := fun f => filigreeref06_Blocks.l4 f l v (labs N (dropV E v)) i k (mn (rd l i) (rd l k)) (mx (rd l i) (rd l k)) ((0 : Nat) : Int) N E) (g := fun f => filigreeref06_Blocks.j4 f l v (labs N (dropV E v)) i k true N E) (fun f => ?_) h3), h2⟩
          · rw [head f, if_pos rfl, if_pos rfl, if_pos hc, show (rd l (i : Int) != rd l (k : Int)) = true from bne_iff_ne.2 hne]
          · have hlen := ho.len
            simp only [filigreeref06_Blocks.j4]
            rw [if_pos True.intro, if_pos (show (0 : Int) ≤ (i : Int) by omega), if_pos (show (i : Int) < (l.length : Int) by omega), if_pos (show (0 : Int) ≤ (k : Int) by omega), if_pos (show (k : Int) < (l.length : Int) by omega)]
            rfl
theorem Blk_l2 (hR : Rt N E) (v : Nat)
    (cont : ∀ l, OfI E l → MgV E ((v + 1 : Nat) : Int) l → ∃ r, Ev (fun k => filigreeref06_Blocks.l1 k l ((v + 1 : Nat) : Int) N E) r ∧ EndB E r) (hv : v ≤ 1000000000) (d : Nat) :
    ∀ (i : Nat) (l : List Int), E.length - i = d → i ≤ E.length → OfI E l → MgV E v l → MgI E v i l → ∃ r, Ev (fun f => filigreeref06_Blocks.l2 f l v (labs N (dropV E v)) i N E) r ∧ EndB E r := by
  have hE1 := hR.E1
  induction d with
  | zero =>
    intro i l hd hi ho hV hI
    obtain rfl : i = E.length := by omega
    obtain ⟨r, h1, h2⟩ := cont l ho (fun w w0 w1 i k a b f1 f2 f3 f4 => by
      by_cases e : w = (v : Int)
      · subst e; exact hI i k a b f1.rng.2 f4 f1 f2 f3
      · exact hV w w0 (by omega) i k a b f1 f2 f3 f4)
    refine ⟨r, Ev.step (fun f => ?_) h1, h2⟩
    simp only [filigreeref06_Blocks.l2]
    rw [if_neg (by omega), w64n v (by omega)]
  | succ d ih =>
    intro i l hd hi ho hV hI
    have hlt : i < E.length := by omega
    obtain ⟨r, h1, h2⟩ := Blk_l3 hR v i hlt (fun l ho hV hI => ih (i + 1) l (by omega) (by omega) ho hV hI) i 0 l rfl (Nat.zero_le _) ho hV hI (fun k' a b f1 _ _ f4 _ => by have := f4.rng; omega)
    refine ⟨r, Ev.step (fun f => ?_) h1, h2⟩
    simp only [filigreeref06_Blocks.l2]
    rw [if_pos (by omega)]; rfl
theorem Blk_l1 (hR : Rt N E) (d : Nat) : ∀ (v : Nat) (l : List Int), N - v = d → v ≤ N → OfI E l → MgV E v l → ∃ r, Ev (fun f => filigreeref06_Blocks.l1 f l v N E) r ∧ EndB E r := by
  have hE1 := hR.E1
  have hN1 := hR.N1
  induction d with
  | zero =>
    intro v l hd hv ho hV
    obtain rfl : v = N := by omega
    have h1 := Blk_l5 E.length l ho.len (by omega) (fun u u0 u1 => (ho.ok u u0 u1).2.1) E.length 0 [] rfl (Nat.zero_le _) (Nat.zero_le _)
    refine ⟨_, Ev.step (fun f => ?_) h1, l, ho, fun i k hr => ?_, by rw [List.drop_zero, List.nil_append]; rfl⟩
    · simp only [filigreeref06_Blocks.l1]
      rw [if_neg (by omega)]; rfl
    · obtain ⟨w, a, b, f1, f2, f3⟩ := hr
      obtain ⟨⟨w0, w1⟩, -⟩ := f1.inn hR.ends
      rcases Int.lt_trichotomy k i with hl | hl | hl
      · exact hV w w0 w1 i k a b f1 f2 f3 hl
      · rw [hl]
      · exact (hV w w0 w1 k i b a f2 f1 f3.symm hl).symm
  | succ d ih =>
    intro v l hd hv ho hV
    obtain ⟨r, h1, h2⟩ := Blk_l2 hR v (fun l ho hV => ih (v + 1) l (by omega) (by omega) ho hV) (by omega) E.length 0 l rfl (Nat.zero_le _) ho hV (fun i' k' a b f1 _ f3 _ _ => by have := f3.rng; omega)
    have hd1 := dropV_len E (v : Int)
    have h3 := Ev.bind (all_ev2 N (v : Int) (by omega)) (f := fun f t408 => (filigreeref04_Only.f f N E t408).bind fun bt411 => (filigreeref06_Labels.f f bt411.1 bt411.2).bind fun t415 => filigreeref06_Blocks.l2 f l v t415 0 N E)
      (Ev.bind (Only_ev N E (v : Int) hR.ends (by omega)) (f := fun f bt411 => (filigreeref06_Labels.f f bt411.1 bt411.2).bind fun t415 => filigreeref06_Blocks.l2 f l v t415 0 N E)
        (Ev.bind (Labels_ev N (dropV E v) (dropV_ends hR.ends _) (by omega) (by omega)) (f := fun f t415 => filigreeref06_Blocks.l2 f l v t415 0 N E) h1))
    refine ⟨r, Ev.step (fun f => ?_) h3, h2⟩
    simp only [filigreeref06_Blocks.l1]
    rw [if_pos (by omega)]
theorem Blk_l0 (hR : Rt N E) (d : Nat) : ∀ (i : Nat) (l : List Int), E.length - i = d → i ≤ E.length → l.length = E.length → (∀ j : Nat, j < i → rd l j = j) → ∃ r, Ev (fun f => filigreeref06_Blocks.l0 f l i N E) r ∧ EndB E r := by
  have hE1 := hR.E1
  induction d with
  | zero =>
    intro i l hd hi hl hr
    obtain rfl : i = E.length := by omega
    have hid : ∀ j, 0 ≤ j → j < (E.length : Int) → rd l j = j := fun j j0 j1 => by
      have := hr j.toNat (by omega)
      rwa [Int.toNat_of_nonneg j0] at this
    obtain ⟨r, h1, h2⟩ := Blk_l1 hR N 0 l rfl (Nat.zero_le _) ⟨hl, fun j j0 j1 => by rw [hid j j0 j1, hid j j0 j1]; exact ⟨j0, Int.le_refl _, rfl, .refl _⟩⟩ (fun w w0 w1 => by omega)
    refine ⟨r, Ev.step (fun f => ?_) h1, h2⟩
    simp only [filigreeref06_Blocks.l0]
    rw [if_neg (by omega)]; rfl
  | succ d ih =>
    intro i l hd hi hl hr
    obtain ⟨r, h1, h2⟩ := ih (i + 1) (l.set i i) (by omega) (by omega) (by rw [List.length_set]; exact hl) (fun j hj => by
      have := rd_set l i j i (by omega) (by omega) (by omega)
      rw [zTn] at this
      rw [this]
      split
      · omega
      · exact hr j (by omega))
    refine ⟨r, Ev.step (fun f => ?_) h1, h2⟩
    simp only [filigreeref06_Blocks.l0]
    rw [if_pos (by omega), if_pos (by omega), w64n i (by omega), zTn]
theorem refBlocks_ev (hR : Rt N E) : ∃ r, Ev (fun f => filigreeref06_Blocks.f f N E) r ∧ EndB E r := by
  have hE1 := hR.E1
  obtain ⟨r, h1, h2⟩ := Blk_l0 hR E.length 0 (List.replicate E.length 0) rfl (Nat.zero_le _) List.length_replicate (fun j hj => by omega)
  refine ⟨r, Ev.congr (fun f => ?_) h1, h2⟩
  unfold filigreeref06_Blocks.f
  rw [if_pos (by omega), zTn, if_pos (by omega)]; rfl
theorem RC.eq {l : List Int} (h : ∀ i k, Rel E i k → rd l i = rd l k) {i k : Int} (hr : RC E i k) : rd l i = rd l k := by
  induction hr with
  | refl => rfl
  | step _ hr ih => exact ih.trans (h _ _ hr)
theorem blocks_eq {s : Wk} (hF : Fin N E s) {r : List (List Int)} (hr : EndB E r) : s.blocks = r := by
  obtain ⟨l, ho, hrel, rfl⟩ := hr
  have eqRC : ∀ i k, 0 ≤ i → i < (E.length : Int) → 0 ≤ k → k < (E.length : Int) → (rd l i = rd l k ↔ RC E i k) := fun i k i0 i1 k0 k1 => by
    constructor
    · intro e
      exact (ho.ok i i0 i1).2.2.2.trans (by rw [e]; exact (ho.ok k k0 k1).2.2.2.symm)
    · exact RC.eq hrel
  have hcls : ∀ b ∈ s.blocks, ∀ i ∈ b, b = clsL E.length l (rd l i) := fun b hb i hi => by
    refine up_eq (hF.bl b hb).2 ((ups_up E.length).filter _) (fun x => ?_)
    have hir := hF.rng b hb i hi
    rw [clsL, List.mem_filter, mem_ups]
    constructor
    · intro hx
      have hxr := hF.rng b hb x hx
      exact ⟨hxr, by simpa using (eqRC x i hxr.1 hxr.2 hir.1 hir.2).2 ((hF.bk b hb).2 x hx i hi)⟩
    · rintro ⟨hxr, hx⟩
      have h1 := (eqRC i x hir.1 hir.2 hxr.1 hxr.2).1 ((show rd l x = rd l i by simpa using hx).symm)
      exact RC.inn (hF.bk b hb).1 h1 hi
  have hmin : ∀ b ∈ s.blocks, rd l (rd b 0) = rd b 0 := fun b hb => by
    have h0 := head_mem (hF.bl b hb).1
    have hr0 := hF.rng b hb _ h0
    have hok := ho.ok _ hr0.1 hr0.2
    have h1 : rd l (rd b 0) ∈ b := RC.inn (hF.bk b hb).1 hok.2.2.2 h0
    have h2 : rd b 0 ≤ rd l (rd b 0) := by
      have hs := (hF.bl b hb).2
      cases hbb : b with
      | nil => rw [hbb] at h0; cases h0
      | cons x t =>
        rw [hbb] at h1 hs
        have h3 : ∀ y ∈ x :: t, x ≤ y := fun y hy => by
          rcases List.mem_cons.1 hy with rfl | hy
          · exact Int.le_refl _
          · have := List.rel_of_pairwise_cons hs hy; omega
        exact h3 _ h1
    omega
  have hup : (compsL E.length l).Pairwise fun a b => rd a 0 < rd b 0 := by
    unfold compsL
    rw [List.pairwise_map]
    refine ((ups_up E.length).filter _).imp_of_mem (fun {x y} hx hy hxy => ?_)
    rw [List.mem_filter, mem_ups] at hx hy
    have hd : ∀ z, (0 ≤ z ∧ z < (E.length : Int)) → (rd l z == z) = true → rd (clsL E.length l z) 0 = z := fun z hz hz2 => by
      have h1 := cls_from (l := l) (N := E.length) (fun u u0 u1 => (ho.ok u u0 u1).2.1) z.toNat (by omega)
      rw [Int.toNat_of_nonneg hz.1] at h1
      rw [← h1, ups_drop E.length z.toNat (by omega), List.filter_cons_of_pos (by rw [Int.toNat_of_nonneg hz.1]; exact hz2)]
      show (z.toNat : Int) = z
      omega
    rw [hd x hx.1 hx.2, hd y hy.1 hy.2]
    exact hxy
  have hmem : ∀ b, b ∈ s.blocks ↔ b ∈ compsL E.length l := fun b => by
    unfold compsL
    rw [List.mem_map]
    constructor
    · intro hb
      have h0 := head_mem (hF.bl b hb).1
      refine ⟨rd b 0, List.mem_filter.2 ⟨mem_ups.2 (hF.rng b hb _ h0), by simpa using hmin b hb⟩, ?_⟩
      have h1 := hcls b hb _ h0
      rw [hmin b hb] at h1
      exact h1.symm
    · rintro ⟨v, hv, rfl⟩
      rw [List.mem_filter, mem_ups] at hv
      obtain ⟨b, hb, hvb⟩ := hF.all v hv.1.1 hv.1.2
      have h1 := hcls b hb v hvb
      rw [show rd l v = v by simpa using hv.2] at h1
      rw [← h1]; exact hb
  refine List.Perm.eq_of_pairwise (le := fun a b : List Int => rd a 0 < rd b 0) (fun a b _ _ h1 h2 => by omega) hF.hs hup ?_
  exact (List.perm_ext_iff_of_nodup (hF.hs.imp (fun {a b} h e => by rw [e] at h; omega)) (hup.imp (fun {a b} h e => by rw [e] at h; omega))).2 hmem
end

section
open Go.Sort hiding Below
theorem reps_ints {l : List Int} {inner : List Value} {w : World} {base : Nat} {ok : Nat → Prop} (h : Reps ((Kd.int .i64).M w base ok) 1 l inner) : inner = l.map (.int .i64) := by
  apply List.ext_getElem?
  intro t
  rcases Nat.lt_or_ge t l.length with ht | ht
  · have h2 := h.2 t l[t] (by simp [ht])
    have h3 : ((inner.drop (t * 1)).take 1)[0]? = inner[t]? := by rw [List.getElem?_take_of_lt (by omega), List.getElem?_drop]; simp
    have h4 : (inner.drop (t * 1)).take 1 = [.int .i64 l[t]] := h2
    rw [← h3, h4]
    simp [ht]
  · rw [List.getElem?_eq_none (by rw [h.1]; omega), List.getElem?_eq_none (by simpa using ht)]
theorem ints_reps (l : List Int) {w : World} {base : Nat} {ok : Nat → Prop} : Reps ((Kd.int .i64).M w base ok) 1 l (l.map (.int .i64)) := by
  refine ⟨by simp, fun j p hj => ?_⟩
  have hl : j < l.length := by
    rcases Nat.lt_or_ge j l.length with h | h
    · exact h
    · rw [List.getElem?_eq_none h] at hj; cases hj
  have e : l[j] = p := by rw [List.getElem?_eq_getElem hl] at hj; exact zOi hj
  show _ = _
  rw [List.drop_eq_getElem_cons (by simp; omega)]
  simp [e]
theorem sortI_held {w : World} {g : Nat} {cur : Array Value} {e : TypeId} {l0 : List Int} (hb : w.heap[g]? = some (.cells cur e (0, 0))) (h4 : cur.toList.take l0.length = l0.map (.int .i64)) : Holds (Value.int .i64) w g 0 l0.toArray := by
  intro j hj
  have hj' : j < l0.length := by simpa using hj
  refine ⟨?_, by simp [World.frozen?, hb]⟩
  have h5 : cur.toList[j]? = some (.int .i64 l0[j]) := by
    have h6 : (cur.toList.take l0.length)[j]? = some (.int .i64 l0[j]) := by rw [h4]; simp [hj']
    rwa [List.getElem?_take_of_lt hj'] at h6
  unfold World.cell?
  rw [Nat.zero_add, hb]
  simp only
  rw [← Array.getElem?_toList, h5]
  simp [hj']
theorem sortI_blk {w : World} {g n : Nat} {os : Array Obj} {cur : Array Value} {e : TypeId} (d : Array Int) (hb : w.heap[g]? = some (.cells cur e (0, 0))) :
    (grow (putRow (Value.int .i64) (Sort.ahead w n) g 0 d) os).heap[g]? = some (.cells (putCells (Value.int .i64) 0 d cur) e (0, 0)) := by
  have hg : g < w.heap.size := (Array.getElem?_eq_some_iff.1 hb).1
  rw [heap_grow_old _ _ (by simpa [putRow, mapBlock, Sort.ahead] using hg)]
  simp [putRow, mapBlock, Sort.ahead, Array.getElem?_modify, hb, onCells]
theorem sortI_grown {w : World} {g n : Nat} {os : Array Obj} (d : Array Int) : w.grownBy (grow (putRow (Value.int .i64) (Sort.ahead w n) g 0 d) os) (some g) := by
  refine ⟨rfl, rfl, rfl, by simp [putRow, mapBlock, Sort.ahead], fun k hk hne => ?_⟩
  rw [heap_grow_old _ _ (by simpa [putRow, mapBlock, Sort.ahead] using hk)]
  have : g ≠ k := fun e => hne (by rw [e])
  simp [putRow, mapBlock, Sort.ahead, Array.getElem?_modify, this]
theorem sortI_take (cur : Array Value) (ts : List Int) (h : ts.length ≤ cur.size) : (putCells (Value.int .i64) 0 ts.toArray cur).toList.take ts.length = ts.map (Value.int .i64) := by
  apply List.ext_getElem?
  intro j
  by_cases hj : j < ts.length
  · rw [List.getElem?_take_of_lt hj, Array.getElem?_toList]
    simp [putCells, hj, show j < cur.size by omega]
  · rw [List.getElem?_take_eq_none (by omega), List.getElem?_eq_none (by simp; omega)]
def slices_Sort_int_int.f (l0 : List Int) : Option (List Int) := if l0.length < 4611686018427387904 then some (l0.mergeSort fun x y => decide (x ≤ y)) else none
theorem slices_Sort_int_int.calls (P0_ : Nat → Prop) (u0 : Value) (l0 : List Int) (r : List Int) (w0 w : World) (hB : Below w0.heap.size w0 w) (ho0 : Kd.R (Kd.int .i64) 3 w w0.heap.size P0_ u0 l0) (h : slices_Sort_int_int.f l0 = some r) :
    Calls Try.prog 29 #[u0] w fun e w' => e = .returned (.tuple #[]) ∧ Kd.R (Kd.int .i64) 3 w' w0.heap.size (fun k_ => (P0_ k_ ∨ w.heap.size ≤ k_)) u0 r ∧ Below w0.heap.size w0 w' ∧ Kept w w' (fun k_ => P0_ k_) := by
  unfold slices_Sort_int_int.f at h
  by_cases hl : l0.length < 4611686018427387904
  · rw [if_pos hl] at h
    obtain rfl := zOi h
    obtain ⟨hok, inner, ⟨hlen, ho⟩, hr⟩ := ho0
    rcases ho with ⟨rfl, h0⟩ | ⟨g, cap, cur, rfl, hg, hb, h1, h2, h3, h4⟩
    · have : l0 = [] := List.length_eq_zero_iff.1 h0
      subst this
      refine (Try.slices_Sort_int_none none 0 w).mono ?_
      rintro e w' ⟨rfl, rfl⟩
      refine ⟨rfl, ?_, hB, Kept.refl _ _⟩
      have : (([] : List Int).mergeSort fun x y => decide (x ≤ y)) = [] := by simp
      rw [this]
      exact Kd.R_nil _ _ _ _ _
    · have hblk : g < w.heap.size := (Array.getElem?_eq_some_iff.1 hb).1
      have hin := reps_ints hr
      subst hin
      have hH : Holds (Value.int .i64) w g 0 l0.toArray := by
        intro j hj
        have hj' : j < l0.length := by simpa using hj
        refine ⟨?_, by simp [World.frozen?, hb]⟩
        have h5 : cur.toList[j]? = some (.int .i64 l0[j]) := by
          have h6 : (cur.toList.take (l0.length * 1))[j]? = some (.int .i64 l0[j]) := by
            have h7 : cur.toList.take (l0.length * 1) = l0.map (.int .i64) := h4
            rw [h7]; simp [hj']
          rwa [List.getElem?_take_of_lt (by omega)] at h6
        unfold World.cell?
        rw [Nat.zero_add, hb]
        simp only
        rw [← Array.getElem?_toList, h5]
        simp [hj']
      refine (Try.slices_Sort_int g 0 cap l0 w hH hblk hl).mono ?_
      rintro e w' ⟨rfl, n, os, rfl⟩
      have hsl : (l0.mergeSort fun x y => decide (x ≤ y)).length = l0.length := List.length_mergeSort _
      have hgr : w.grownBy (grow (putRow (Value.int .i64) (Sort.ahead w n) g 0 (l0.mergeSort fun x y => decide (x ≤ y)).toArray) os) (some g) := sortI_grown _
      have hsz : (Kd.int .i64).sz = 1 := rfl
      have hcs : cur.size = cap := by rw [h3, hsz, Nat.mul_one]
      generalize (l0.mergeSort fun x y => decide (x ≤ y)) = m at hsl hgr ⊢
      refine ⟨rfl, ?_, hB.grown hgr hB.size (fun k hk => by cases hk; exact hg), ?_⟩
      · rw [← hsl]
        refine ⟨fun k hk => ?_, m.map (.int .i64), ⟨by rw [List.length_map, hsz, Nat.mul_one], .inr ⟨g, cap, _, rfl, hg, sortI_blk _ hb, by omega, h2, ?_, ?_⟩⟩, ints_reps _⟩
        · have : g = k := by simpa [Value.ownBlock] using hk
          exact .inl (this ▸ hok g (by simp [Value.ownBlock]))
        · rw [hsz, Nat.mul_one]; simp [putCells, hcs]
        · rw [hsz, Nat.mul_one]; exact sortI_take cur m (by omega)
      · exact Kept.of_grown hgr (Kept.refl _ _) (fun k hk => .inl (by cases hk; exact hok g (by simp [Value.ownBlock])))
  · rw [if_neg hl] at h
    cases h
theorem slices_Sort_int_int.row (P0_ : Nat → Prop) (u0 : Value) (l0 : List Int) (base : Nat) (w : World) (ho0 : Kd.R (Kd.int .i64) 3 w base P0_ u0 l0) (hl : l0.length < 4611686018427387904) :
    Calls Try.prog 29 #[u0] w fun e w' => e = .returned (.tuple #[]) ∧ ∃ row, w.grownBy w' row ∧ (∀ k, row = some k → P0_ k ∧ base ≤ k) ∧ Kd.R (Kd.int .i64) 3 w' base P0_ u0 (l0.mergeSort fun x y => decide (x ≤ y)) := by
  obtain ⟨hok, inner, ⟨hlen, ho⟩, hr⟩ := ho0
  rcases ho with ⟨rfl, h0⟩ | ⟨g, cap, cur, rfl, hg, hb, h1, h2, h3, h4⟩
  · have : l0 = [] := List.length_eq_zero_iff.1 h0
    subst this
    refine (Try.slices_Sort_int_none none 0 w).mono ?_
    rintro e w' ⟨rfl, rfl⟩
    have : (([] : List Int).mergeSort fun x y => decide (x ≤ y)) = [] := by simp
    rw [this]
    exact ⟨rfl, none, ⟨rfl, rfl, rfl, Nat.le_refl _, fun _ _ _ => rfl⟩, fun k hk => by (cases hk), Kd.R_nil _ _ _ _ _⟩
  · have hblk : g < w.heap.size := (Array.getElem?_eq_some_iff.1 hb).1
    have hin := reps_ints hr
    subst hin
    have hsz : (Kd.int .i64).sz = 1 := rfl
    have hH : Holds (Value.int .i64) w g 0 l0.toArray := sortI_held hb (by rw [hsz, Nat.mul_one] at h4; exact h4)
    refine (Try.slices_Sort_int g 0 cap l0 w hH hblk hl).mono ?_
    rintro e w' ⟨rfl, n, os, rfl⟩
    have hsl : (l0.mergeSort fun x y => decide (x ≤ y)).length = l0.length := List.length_mergeSort _
    have hcs : cur.size = cap := by rw [h3, hsz, Nat.mul_one]
    generalize (l0.mergeSort fun x y => decide (x ≤ y)) = m at hsl ⊢
    have hP : P0_ g := hok g (by simp [Value.ownBlock])
    refine ⟨rfl, some g, sortI_grown _, fun k hk => by (cases hk; exact ⟨hP, hg⟩), ?_⟩
    rw [← hsl]
    refine ⟨fun k hk => ?_, m.map (.int .i64), ⟨by rw [List.length_map, hsz, Nat.mul_one], .inr ⟨g, cap, _, rfl, hg, sortI_blk _ hb, by omega, h2, ?_, ?_⟩⟩, ints_reps _⟩
    · have : g = k := by simpa [Value.ownBlock] using hk
      exact this ▸ hP
    · rw [hsz, Nat.mul_one]; simp [putCells, hcs]
    · rw [hsz, Nat.mul_one]; exact sortI_take cur m (by omega)
end


-- beside graph_Right, parts_arcs, slices_Sort_int_int
def pcArc (met : List Bool) (part : List Int) (a : S51) : Option (List Bool × List Int) :=
  if 0 ≤ a.f0 ∧ a.f0 < (met.length : Int) then (if rdOf false met a.f0 = true then some (met, part) else if part.length < 17592186044416 then some (met.set a.f0.toNat true, part ++ [a.f0]) else none) else none
def pcArcs : List Bool → List Int → List S51 → Option (List Bool × List Int)
  | met, part, [] => some (met, part)
  | met, part, a :: l => (pcArc met part a).bind fun t => pcArcs t.1 t.2 l
def pcBfs (near : List (List S51)) : Nat → List Bool → List Int → Nat → Option (List Bool × List Int)
  | 0, _, _, _ => none
  | k + 1, met, part, at_ => if at_ < part.length then (if 0 ≤ rd part (at_ : Int) ∧ rd part (at_ : Int) < (near.length : Int) ∧ (rd_L3 near (rd part (at_ : Int))).length ≤ 17592186044416 then (pcArcs met part (rd_L3 near (rd part (at_ : Int)))).bind fun t => pcBfs near k t.1 t.2 (at_ + 1) else none) else some (met, part)
def pcAll (near : List (List S51)) (k : Nat) : Nat → Nat → List Bool → List (List Int) → Option (List (List Int))
  | 0, _, _, out => some out
  | d + 1, v, met, out => if v < met.length then (if rdOf false met (v : Int) = true then pcAll near k d (v + 1) met out else (pcBfs near k (met.set v true) [(v : Int)] 0).bind fun t => (slices_Sort_int_int.f t.2).bind fun s => if out.length < 5864062014805 then pcAll near k d (v + 1) t.1 (out ++ [s]) else none) else none
def parts_Components.f (k : Nat) (n : Int) (E : List S43) : Option (List (List Int)) :=
  (graph_Right.f k n E).bind fun q => if q = 0 then (parts_arcs.f k n E).bind fun near => if 0 ≤ n ∧ n ≤ 9223372036854775807 ∧ n.toNat ≤ 281474976710656 then pcAll near k n.toNat 0 (List.replicate n.toNat false) [] else none else some []
theorem pcArc_len {met m : List Bool} {part p : List Int} {a : S51} (h : pcArc met part a = some (m, p)) : m.length = met.length := by
  unfold pcArc at h
  split at h
  · split at h
    · cases h; rfl
    · split at h
      · cases h; exact List.length_set ..
      · cases h
  · cases h
structure PcS (wa W : World) (met : List Bool) (vM vO : Value) (out : List (List Int)) : Prop where
  hB : Below wa.heap.size wa W
  hM : Kd.R Kd.bool 4 W wa.heap.size (fun _ => True) vM met
  hO : Kd.S (Kd.slice 3 (Kd.int .i64)) 33 W wa.heap.size (fun _ => True) vO out
structure PcP (wa W : World) (met : List Bool) (vM : Value) (part : List Int) (vP vO : Value) (out : List (List Int)) : Prop where
  hB : Below wa.heap.size wa W
  hM : Kd.R Kd.bool 4 W wa.heap.size (fun _ => True) vM met
  hP : Kd.R (Kd.int .i64) 3 W wa.heap.size (fun _ => True) vP part
  hO : Kd.S (Kd.slice 3 (Kd.int .i64)) 33 W wa.heap.size (fun k => some k ≠ vP.ownBlock) vO out
theorem PcP.below {wa W W' : World} {met : List Bool} {vM vP vO : Value} {part : List Int} {out : List (List Int)} (h : PcP wa W met vM part vP vO out) (hb : Below W.heap.size W W') : PcP wa W' met vM part vP vO out :=
  ⟨zBt h.hB hb, zRb h.hM hb, zRb h.hP hb, Kd.S_below h.hO hb⟩
theorem PcS.below {wa W W' : World} {met : List Bool} {vM vO : Value} {out : List (List Int)} (h : PcS wa W met vM vO out) (hb : Below W.heap.size W W') : PcS wa W' met vM vO out :=
  ⟨zBt h.hB hb, zRb h.hM hb, Kd.S_below h.hO hb⟩
theorem PcS.put {wa W : World} {met : List Bool} {g n cap : Nat} {vO : Value} {out : List (List Int)} (h : PcS wa W met (.slice (some ⟨g, 0, none⟩) n cap) vO out) (i : Int) : PcS wa (W.setCell ⟨g, i.toNat, none⟩ (.bool true)) (met.set i.toNat true) (.slice (some ⟨g, 0, none⟩) n cap) vO out := by
  obtain ⟨cells, hb⟩ := Kd.R_typed h.hM g (by simp [Value.ownBlock])
  have hg := zRz h.hM g (by simp [Value.ownBlock])
  exact ⟨below_set h.hB hg, (Kd.R_putg h.hM i true).1, Kd.S_set h.hO hb (by decide) _ _⟩
theorem PcP.put {wa W : World} {met : List Bool} {g n cap : Nat} {part : List Int} {vP vO : Value} {out : List (List Int)} (h : PcP wa W met (.slice (some ⟨g, 0, none⟩) n cap) part vP vO out) (i : Int) : PcP wa (W.setCell ⟨g, i.toNat, none⟩ (.bool true)) (met.set i.toNat true) (.slice (some ⟨g, 0, none⟩) n cap) part vP vO out := by
  obtain ⟨cells, hb⟩ := Kd.R_typed h.hM g (by simp [Value.ownBlock])
  have hg := zRz h.hM g (by simp [Value.ownBlock])
  exact ⟨below_set h.hB hg, (Kd.R_putg h.hM i true).1, Kd.R_set h.hP hb (by decide) _ _, Kd.S_set h.hO hb (by decide) _ _⟩
theorem PcP.grown {wa W W1 : World} {met : List Bool} {vM : Value} {part part' : List Int} {vP vP' vO : Value} {out : List (List Int)} (h : PcP wa W met vM part vP vO out) (ho : Kd.R (Kd.int .i64) 3 W1 wa.heap.size (fun _ => True) vP' part') (hb : Below wa.heap.size wa W1) (hg : W.grownBy W1 vP.ownBlock) (hat : vP'.ownBlock = vP.ownBlock ∨ ∃ b, vP'.ownBlock = some b ∧ W.heap.size ≤ b) : PcP wa W1 met vM part' vP' vO out :=
  ⟨hb, Kd.R_over' h.hM (Kd.R_typed h.hP) (by decide) hg, ho, Kd.S_mono (Kd.S_after (ok := fun _ => True) (Kd.S_mono h.hO (fun _ hk => ⟨trivial, hk⟩)) hg hat) (fun _ hk => hk.2)⟩
theorem pc_len {α : Type} {d : Kd α} {e : Nat} {w : World} {base : Nat} {ok : Nat → Prop} {v : Value} {xs : List α} (h : d.R e w base ok v xs) : xs.length ≤ maxLen := by
  obtain ⟨inner, h1, h2⟩ := Kd.R_own h
  rcases h2 with ⟨h0, _⟩ | ⟨g, cap, cur, _, _, _, hnc, hcm, _⟩ <;> omega
theorem pc_rd51 (l : List S51) (i : Nat) (h : i < l.length) : rd_T51 l (i : Int) = l[i] := by
  unfold rd_T51
  rw [zTn]
  simp [h]
theorem parts_Components.calls (k : Nat) (n : Int) (A0 : Option Addr) (c0 : Nat) (E : List S43) (r : List (List Int)) (w : World) (hr0 : Kd.C k43 w A0 E.length E) (hc0 : E.length ≤ c0) (h : parts_Components.f k n E = some r) :
    Calls Try.prog 11 #[.agg #[.int .i64 n, .slice A0 E.length c0]] w fun e w' => ∃ v0_ : Value, e = .returned v0_ ∧ Kd.S (Kd.slice 3 (Kd.int .i64)) 33 w' w.heap.size (fun _ => True) v0_ r ∧ Below w.heap.size w w' := by
  have hu24 := Try.underlying24
  have hu51 := Try.underlying51
  have HR := zMk hr0
  have HC := zMk hc0
  unfold parts_Components.f at h
  obtain ⟨q, hq, h⟩ := Option.bind_eq_some_iff.1 h
  have HQ := zMk hq
  have HH := zMk h
  clear hr0 hc0 hq h
  go_enter Try.func11, Try.ntmps11
  go_upto_region 1 with (fail)
  have BM := zMk (heap_alloc_new w (.cells #[.int .i64 n, .slice A0 E.length c0] 24))
  have HB := zMk (zBa (Below.refl w.heap.size w) (.cells #[.int .i64 n, .slice A0 E.length c0] 24))
  generalize w.alloc (.cells #[.int .i64 n, .slice A0 E.length c0] 24) = w0 at BM HB ⊢
  obtain ⟨gb, hgb⟩ : ∃ gb, gb = w.heap.size := ⟨_, rfl⟩
  rw [← hgb] at BM ⊢
  clear hgb
  have z0 : w0.cell? ⟨gb, 0, none⟩ = some (.int .i64 n) := (zKc BM.out 0).trans rfl
  have z1 : w0.cell? ⟨gb, 1, none⟩ = some (.slice A0 E.length c0) := (zKc BM.out 1).trans rfl
  go_upto_if 12 with (go_at_call 27; refine (graph_Right.calls k n A0 c0 E q _ (Kd.C_below HR.out HB.out) HC.out HQ.out).mono ?_; rintro e w1 ⟨rfl, hb⟩; have BM1 := zMk (zKb BM.out hb); have HB1 := zMk (zBt HB.out hb); clear hb)
  clear z0 z1 BM HB HQ
  have h := HH.out
  clear HH
  by_cases hq0 : q = 0
  rotate_left
  · rw [if_neg hq0] at h
    have qb : (q != 0) = true := bne_iff_ne.mpr hq0
    obtain rfl := zOi h
    first | rw [qb] | skip
    go_wp2
    go_ret
    exact ⟨_, rfl, Kd.S_nil _ _ _ _ _, HB1.out⟩
  subst hq0
  rw [if_pos rfl] at h
  have qb : ((0 : Int) != 0) = false := rfl
  first | rw [qb] | skip
  obtain ⟨near, hN, h⟩ := Option.bind_eq_some_iff.1 h
  by_cases hn : 0 ≤ n ∧ n ≤ 9223372036854775807 ∧ n.toNat ≤ 281474976710656
  rotate_left
  · rw [if_neg hn] at h; cases h
  rw [if_pos hn] at h
  have HN := zMk hN
  have HH := zMk h
  have HNN := zMk hn
  clear hN h hn
  have z0 : w1.cell? ⟨gb, 0, none⟩ = some (.int .i64 n) := (zKc BM1.out 0).trans rfl
  have z1 : w1.cell? ⟨gb, 1, none⟩ = some (.slice A0 E.length c0) := (zKc BM1.out 1).trans rfl
  go_upto_region 4 with (go_at_call 28; refine (parts_arcs.calls k n A0 c0 E near _ (Kd.C_below HR.out HB1.out) HC.out HN.out).mono ?_; rintro e wa ⟨vn, rfl, hs, hb⟩; have BM := zMk (zKb BM1.out hb); have HB := zMk (zBt HB1.out hb); have HS := zMk hs; clear hb hs)
  clear z0 z1 BM1 HB1 HN
  obtain ⟨An, cn, en⟩ := Kd.S_slice HS.out
  subst en
  have HNC := zMk (Kd.S_reads' HS.out).2.2
  clear HS
  have z0 : wa.cell? ⟨gb, 0, none⟩ = some (.int .i64 n) := (zKc BM.out 0).trans rfl
  go_upto_region 5 with ((with_reducible refine gate_dst (N := 17) rfl ?_); refine Kd.R_make Kd.bool _ 4 rfl (N := 17) rfl 36 _ _ rfl n rfl rfl Try.underlying36 (.bool false) 1 info4 rfl (by decide) (by omega) false (ok := fun _ => True) (okp := fun _ => True) rfl (fun _ hk => hk) trivial HNN.out.1 (Nat.le_trans (Nat.mul_le_mul_right _ HNN.out.2.2) (by omega)) (Below.refl _ _) (Nat.le_refl _) ?_; intro vM w2 ho hb hg_ hnew_; clear hg_ hnew_; have HM := zMk ho; have HB2 := zMk hb; clear ho hb)
  clear z0
  obtain ⟨nn, rfl⟩ : ∃ nn : Nat, n = (nn : Int) := ⟨n.toNat, by have := HNN.out.1; omega⟩
  have hM := HM.out
  have hh := HH.out
  rw [zTn] at hM hh
  have hnb : nn ≤ 281474976710656 := by have := HNN.out.2.2; rw [zTn] at this; exact this
  clear HM HH HNN
  obtain ⟨AM, cM, eM⟩ := zRs hM
  rw [List.length_replicate] at eM
  subst eM
  have PS := zMk (show PcS wa w2 (List.replicate nn false) (.slice AM nn cM) (.slice none 0 0) [] from ⟨HB2.out, hM, Kd.S_nil _ _ _ _ _⟩)
  have HH := zMk hh
  have HML := zMk (List.length_replicate (n := nn) (a := false))
  have HNB := zMk hnb
  have z0 : w2.cell? ⟨gb, 0, none⟩ = some (.int .i64 (nn : Int)) := (zKc (zKb BM.out HB2.out) 0).trans rfl
  generalize List.replicate nn false = met0 at PS HH HML
  clear hM hh hnb HB2
  go_wp2
  clear z0
  go_loopg [2, 20] nn (fun kx s2 s20 wr => ∃ (v : Nat) (met : List Bool) (out : List (List Int)) (vO : Value), s2 = vO ∧ s20 = .int .i64 (v : Int) ∧ v ≤ nn ∧ nn - v ≤ kx ∧ Aside0 (met.length = nn) ∧ Aside0 (PcS wa wr met (.slice AM nn cM) vO out) ∧ Aside0 (pcAll near k (nn - v) v met out = some r))
  case atStart => exact ⟨0, met0, [], .slice none 0 0, rfl, rfl, Nat.zero_le _, Nat.le_refl _, HML, PS, HH⟩
  clear PS HH HML
  obtain ⟨v, met, out, vO, hs2, rfl, hv, hg3, HML, PS, HH⟩ := hrel
  obtain ⟨s2, e2⟩ : ∃ s2 : Value, s2 = vO := ⟨_, rfl⟩
  subst hs2
  subst e2
  by_cases hlt : v < nn
  rotate_left
  · have h := HH.out
    rw [show nn - v = 0 by omega, pcAll] at h
    obtain rfl := zOi h
    have hvn : ((v : Int) < (nn : Int)) = False := eq_false (by omega)
    clear h HH
    go_wp2
    go_ret
    exact ⟨_, rfl, Kd.S_lower PS.out.hO (zBs HB.out), zBt HB.out PS.out.hB⟩
  have h := HH.out
  clear HH
  rw [show nn - v = (nn - (v + 1)) + 1 by omega, pcAll, if_pos (by rw [HML.out]; exact hlt)] at h
  obtain ⟨gm, cm, em, hgm, hgl, hcl, HG⟩ := Kd.R_form PS.out.hM (by rw [HML.out]; omega)
  injection em with ea en ec
  subst ea
  subst ec
  clear HG hcl en
  have HGM := zMk hgm
  clear hgm hgl
  have p0 : 0 ≤ (v : Int) := Int.natCast_nonneg v
  have q0 : (v : Int) < (nn : Int) := by omega
  obtain ⟨hx, hf⟩ := Kd.R_celln false PS.out.hM (v : Int) p0 q0
  rw [zTn] at hx hf
  have hi64 : wrap64 ((v : Int) + 1) = ((v + 1 : Nat) : Int) := by have := HNB.out; unfold wrap64; omega
  replace p0 := eq_true p0
  replace q0 := eq_true q0
  by_cases hmet : rdOf false met (v : Int) = true
  · rw [if_pos hmet] at h
    have HH := zMk h
    have hx2 : wr.cell? ⟨gm, v, none⟩ = some (.bool true) := by rw [hx]; exact congrArg (fun z => some (Value.bool z)) hmet
    clear hx h hmet
    go_wp2
    go_roundg (nn - (v + 1))
    case measure => omega
    case rel => exact ⟨v + 1, met, out, s2, rfl, by first | rfl | exact congrArg (Value.int .i64) (by omega) | exact congrArg (Value.int .i64) hi64 | exact congrArg (Value.int .i64) (by simp only [i64_w]; exact hi64), by omega, Nat.le_refl _, HML, PS, HH⟩
  · rw [if_neg hmet] at h
    have hx2 : wr.cell? ⟨gm, v, none⟩ = some (.bool false) := by rw [hx]; exact congrArg (fun z => some (Value.bool z)) (Bool.eq_false_iff.mpr hmet)
    clear hx hmet
    obtain ⟨⟨m2, p2⟩, hbf, h⟩ := Option.bind_eq_some_iff.1 h
    obtain ⟨s, hso, h⟩ := Option.bind_eq_some_iff.1 h
    by_cases hol : out.length < 5864062014805
    rotate_left
    · rw [if_neg hol] at h; cases h
    rw [if_pos hol] at h
    have HBF := zMk hbf
    have HSO := zMk hso
    have HOL := zMk hol
    have HH := zMk h
    clear hbf hso hol h
    go_upto_region 10 with (fail)
    have PS2 := zMk (PS.out.put (v : Int))
    rw [zTn] at PS2
    generalize wr.setCell ⟨gm, v, none⟩ (.bool true) = w3 at PS2 ⊢
    have HM2 := zMk (show (met.set v true).length = nn by rw [List.length_set]; exact HML.out)
    generalize met.set v true = met1 at PS2 HBF HM2
    clear hx2 hf PS HML
    go_upto_region 11 with ((with_reducible refine gate_dst (N := 31) rfl ?_); refine Kd.R_lit (Kd.int .i64) _ 3 ?hg (N := 31) ?hd (xs := ([(v : Int)] : List Int)) (inner := [.int .i64 (v : Int)]) (ok := fun _ => True) (okp := fun _ => True) ?hr ?hp (fun _ hk => hk) trivial (Below.refl _ _) (Nat.le_refl _) (by simp) ?_; (case hd => rfl); (case hg => rfl); (case hr => first | (go_simp; done)|(go_simp; rfl)); (case hp => exact (Reps.one (show Kd.M (Kd.int .i64) _ _ _ (v : Int) [.int .i64 (v : Int)] from rfl) (Reps.none _ _))); intro vP w4 ho hb hg_ hnew_; clear hg_ hnew_; have HPR := zMk ho; have HB4 := zMk hb; clear ho hb)
    obtain ⟨AP0, cP0, eP0⟩ := zRs HPR.out
    subst eP0
    have PP := zMk (show PcP wa w4 met1 (.slice (some ⟨gm, 0, none⟩) nn cM) [(v : Int)] (.slice AP0 [(v : Int)].length cP0) s2 out from ⟨zBt PS2.out.hB HB4.out, zRb PS2.out.hM HB4.out, zRl HPR.out (zBs PS2.out.hB), Kd.S_mono (Kd.S_elder' PS2.out.hO (zRz HPR.out) HB4.out) (fun _ hk => hk.2)⟩)
    clear PS2 HPR HB4
    generalize [(v : Int)] = part0 at PP HBF ⊢
    go_wp2
    go_loopg [6, 7] k (fun kq s6 s7 w' => ∃ (met : List Bool) (part : List Int) (AP : Option Addr) (cP : Nat) (at_ : Nat), s6 = .slice AP part.length cP ∧ s7 = .int .i64 (at_ : Int) ∧ Aside0 (met.length = nn) ∧ Aside0 (PcP wa w' met (.slice (some ⟨gm, 0, none⟩) nn cM) part (.slice AP part.length cP) s2 out) ∧ Aside0 (pcBfs near kq met part at_ = some (m2, p2)))
    case atStart => exact ⟨met1, part0, AP0, cP0, 0, rfl, rfl, HM2, PP, HBF⟩
    clear PP HBF HM2
    obtain ⟨met, part, AP, cP, at_, rfl, rfl, HML, PP, HBF⟩ := hrel
    rcases gk with _ | k1
    · exact absurd HBF.out (by simp [pcBfs])
    have hb := HBF.out
    clear HBF
    rw [pcBfs] at hb
    by_cases hat : at_ < part.length
    rotate_left
    · rw [if_neg hat] at hb
      obtain ⟨rfl, rfl⟩ : met = m2 ∧ part = p2 := by simpa using hb
      clear hb
      have haf : ((at_ : Int) < (part.length : Int)) = False := eq_false (by omega)
      have PK := zMk (zRm (Kd.R_tight rfl PP.out.hP) (fun _ h_ => h_) : Kd.R (Kd.int .i64) 3 wr wa.heap.size (fun k_ => some k_ = (.slice AP part.length cP : Value).ownBlock) (.slice AP part.length cP) part)
      go_upto_region 22 with (go_at_call 29; refine (slices_Sort_int_int.calls (fun k_ => some k_ = (.slice AP part.length cP : Value).ownBlock) _ part s wa _ PP.out.hB PK.out HSO.out).mono ?_; rintro e w6 ⟨rfl, hR6, hB6, hK6⟩; have RS := zMk hR6; have HB6 := zMk hB6; have KK := zMk hK6; clear hR6 hB6 hK6)
      have RM := zMk (zRm (Kd.R_kept (Kd.R_apart' PP.out.hM (Kd.R_typed PP.out.hP) (by decide)) KK.out (fun k_ hk h => hk.2 h)) (fun _ _ => trivial) : Kd.R Kd.bool 4 w6 wa.heap.size (fun _ => True) (.slice (some ⟨gm, 0, none⟩) nn cM) met)
      have RO := zMk (Kd.S_kept PP.out.hO KK.out (fun k_ hk h => hk h))
      have RA := zMk (Kd.R_reok rfl RS.out (Kd.R_apart' PP.out.hP (Kd.S_typed PP.out.hO) (by decide)).1)
      clear RS PK KK PP
      go_upto_region 23 with ((with_reducible refine gate_builtin (b := .append) (xs := #[.tmp 68, .tmp 70]) rfl ?_); at_builtin; refine Kd.S_append (Kd.slice 3 (Kd.int .i64)) (w0 := wa) wa.heap.size rfl (.tmp 68) (.tmp 70) 29 33 (.slice none 0 0) 24 rfl Try.underlying29 info33 rfl (by decide) (by omega) s2 out s [.slice AP part.length cP] (fun _ => True) (fun k_ => some k_ = (.slice AP part.length cP : Value).ownBlock) rfl rfl ?aP (fun k_ hk_ => RA.out.1 k_ hk_.symm) ?aF ?aO ?aB ?aS ?aL ?_; (case aP => exact Kd.M_row (zRm (Kd.R_tight rfl RA.out) (fun _ h_ => h_))); (case aB => exact HB6.out); (case aF => exact (fun _ _ => trivial)); (case aO => exact Kd.S_mono RO.out (fun k_ hk => ⟨trivial, fun e_ => hk e_⟩)); (case aS => exact (zBs HB6.out)); (case aL => have := HOL.out; omega); intro vN w7 ho hb hg hat; have RN := zMk ho; have HB7 := zMk hb; have RM7 := zMk (Kd.R_over' RM.out (Kd.S_typed RO.out) (by decide) hg); clear ho hb hg hat)
      have PN := zMk (show PcS wa w7 met (.slice (some ⟨gm, 0, none⟩) nn cM) vN (out ++ [s]) from ⟨HB7.out, RM7.out, RN.out⟩)
      clear RM RO RA RN RM7 HB7 HB6
      go_wp2
      go_roundg (nn - (v + 1))
      case measure => omega
      case rel => exact ⟨v + 1, met, out ++ [s], vN, rfl, by first | rfl | exact congrArg (Value.int .i64) (by omega) | exact congrArg (Value.int .i64) hi64 | exact congrArg (Value.int .i64) (by simp only [i64_w]; exact hi64), by omega, Nat.le_refl _, HML, PN, HH⟩
    · rw [if_pos hat] at hb
      by_cases hu : 0 ≤ rd part (at_ : Int) ∧ rd part (at_ : Int) < (near.length : Int) ∧ (rd_L3 near (rd part (at_ : Int))).length ≤ 17592186044416
      rotate_left
      · rw [if_neg hu] at hb; cases hb
      rw [if_pos hu] at hb
      have HU := zMk hu
      clear hu
      obtain ⟨⟨m3, p3⟩, har, hb⟩ := Option.bind_eq_some_iff.1 hb
      have HAR := zMk har
      have HBF := zMk hb
      clear har hb
      have hat2 : at_ < 9223372036854775807 := by have := pc_len PP.out.hP; have : maxLen ≤ 9223372036854775807 := by decide
                                                  omega
      have hia : wrap64 ((at_ : Int) + 1) = ((at_ + 1 : Nat) : Int) := by unfold wrap64; omega
      have HIA := zMk hia
      clear hia hat2
      have a0 : 0 ≤ (at_ : Int) := Int.natCast_nonneg at_
      have a1 : (at_ : Int) < (part.length : Int) := by omega
      obtain ⟨gp, cp, ep, -, -, -⟩ := Kd.R_form PP.out.hP (by omega)
      injection ep with ea en ec
      subst ea
      subst ec
      clear en
      obtain ⟨hx, hfx⟩ := Kd.R_celln (0 : Int) PP.out.hP (at_ : Int) a0 a1
      rw [zTn] at hx hfx
      obtain ⟨u, hue⟩ : ∃ u, u = rd part (at_ : Int) := ⟨_, rfl⟩
      rw [show rdOf 0 part (at_ : Int) = rd part (at_ : Int) from rfl, ← hue] at hx
      have hu := HU.out
      clear HU
      rw [← hue] at hu HAR
      obtain ⟨adn, Ai, ci, e, hcn, -, hCi⟩ := at_L3 HNC.out u hu.1 hu.2.1
      cases e
      replace hcn := (PP.out.hB.cell (World.block_lt_of_cell? wa _ hcn)).trans hcn
      have hu0 : (0 ≤ u) = True := eq_true hu.1
      have hu1 : (u < (near.length : Int)) = True := eq_true hu.2.1
      have HLM := zMk hu.2.2
      generalize rd_L3 near u = L at HAR hcn hCi HLM
      have HCI := zMk hCi
      clear hCi hue hu
      replace a0 := eq_true a0
      replace a1 := eq_true a1
      go_wp2
      clear hx hfx hcn hu0 hu1 a0 a1
      go_loopg [6, 46] L.length (fun kx s6 s46 w' => ∃ (met : List Bool) (part : List Int) (AP : Option Addr) (cP : Nat) (j : Nat), s6 = .slice AP part.length cP ∧ s46 = .int .i64 (j : Int) ∧ j ≤ L.length ∧ L.length - j ≤ kx ∧ Aside0 (met.length = nn) ∧ Aside0 (PcP wa w' met (.slice (some ⟨gm, 0, none⟩) nn cM) part (.slice AP part.length cP) s2 out) ∧ Aside0 (pcArcs met part (L.drop j) = some (m3, p3)))
      case atStart => exact ⟨met, part, some ⟨gp, 0, none⟩, cP, 0, rfl, rfl, Nat.zero_le _, Nat.le_refl _, HML, PP, HAR⟩
      clear PP HAR HML hat
      obtain ⟨met, part, AP, cP, j, rfl, rfl, hj, hjx, HML, PP, HAR⟩ := hrel
      by_cases hjl : j < L.length
      rotate_left
      · have ha := HAR.out
        rw [List.drop_eq_nil_of_le (by omega), pcArcs] at ha
        obtain ⟨rfl, rfl⟩ : met = m3 ∧ part = p3 := by simpa using ha
        have hjf : ((j : Int) < (L.length : Int)) = False := eq_false (by omega)
        clear ha HAR
        have hia := HIA.out
        go_wp2
        go_roundg k1
        case measure => omega
        case rel => exact ⟨met, part, AP, cP, at_ + 1, rfl, by first | rfl | exact congrArg (Value.int .i64) (by omega) | exact congrArg (Value.int .i64) hia | exact congrArg (Value.int .i64) (by simp only [i64_w]; exact hia), HML, PP, HBF⟩
      · have ha := HAR.out
        rw [List.drop_eq_getElem_cons hjl, ← pc_rd51 L j hjl, pcArcs] at ha
        obtain ⟨⟨m4, p4⟩, h1, ha⟩ := Option.bind_eq_some_iff.1 ha
        have HML4 := zMk ((pcArc_len h1).trans HML.out)
        have HAR := zMk ha
        clear ha
        have a0 : 0 ≤ (j : Int) := Int.natCast_nonneg j
        have a1 : (j : Int) < (L.length : Int) := by omega
        obtain ⟨ad, e, hx0, hx1⟩ := at_T51 HCI.out (j : Int) a0 a1
        cases e
        replace hx0 := (PP.out.hB.cell (World.block_lt_of_cell? wa _ hx0)).trans hx0
        replace hx1 := (PP.out.hB.cell (World.block_lt_of_cell? wa _ hx1)).trans hx1
        simp only [zTn] at hx0 hx1
        generalize rd_T51 L (j : Int) = a at hx0 hx1 h1
        have hLm := HLM.out
        have hij : wrap64 ((j : Int) + 1) = ((j + 1 : Nat) : Int) := by unfold wrap64; omega
        have HIJ := zMk hij
        clear hij hLm
        replace a0 := eq_true a0
        replace a1 := eq_true a1
        unfold pcArc at h1
        by_cases hab : 0 ≤ a.f0 ∧ a.f0 < (met.length : Int)
        rotate_left
        · rw [if_neg hab] at h1; cases h1
        rw [if_pos hab] at h1
        have H1 := zMk h1
        have HAB := zMk hab
        clear h1 hab
        go_upto_region 17 with (fail)
        clear hx0 hx1 a0 a1
        have BE := zMk (heap_alloc_new wr (.cells #[.int .i64 a.f0, .int .i64 a.f1] 51))
        have PP5 := zMk (PP.out.below (zBa (Below.refl wr.heap.size wr) (.cells #[.int .i64 a.f0, .int .i64 a.f1] 51)))
        generalize wr.alloc (.cells #[.int .i64 a.f0, .int .i64 a.f1] 51) = w5 at BE PP5 ⊢
        generalize wr.heap.size = be at BE ⊢
        clear PP
        have hz0 : w5.cell? ⟨be, 0, none⟩ = some (.int .i64 a.f0) := (zKc BE.out 0).trans rfl
        have hz1 : w5.cell? ⟨be, 1, none⟩ = some (.int .i64 a.f1) := (zKc BE.out 1).trans rfl
        have b0 := HAB.out.1
        have b1 : a.f0 < (nn : Int) := by have := HAB.out.2; have := HML.out; omega
        obtain ⟨hy, hfy⟩ := Kd.R_celln false PP5.out.hM a.f0 b0 b1
        replace b0 := eq_true b0
        replace b1 := eq_true b1
        have h1 := H1.out
        clear H1
        by_cases hm : rdOf false met a.f0 = true
        · rw [if_pos hm] at h1
          obtain ⟨rfl, rfl⟩ : met = m4 ∧ part = p4 := by simpa using h1
          have hy2 : w5.cell? ⟨gm, a.f0.toNat, none⟩ = some (.bool true) := by rw [hy]; exact congrArg (fun z => some (Value.bool z)) hm
          have hij := HIJ.out
          clear hy h1 hm
          go_wp2
          go_roundg (L.length - (j + 1))
          case measure => omega
          case rel => exact ⟨met, part, AP, cP, j + 1, rfl, by first | rfl | exact congrArg (Value.int .i64) (by omega) | exact congrArg (Value.int .i64) hij | exact congrArg (Value.int .i64) (by simp only [i64_w]; exact hij), by omega, Nat.le_refl _, HML, PP5, HAR⟩
        · rw [if_neg hm] at h1
          by_cases hpl : part.length < 17592186044416
          rotate_left
          · rw [if_neg hpl] at h1; cases h1
          rw [if_pos hpl] at h1
          obtain ⟨rfl, rfl⟩ : met.set a.f0.toNat true = m4 ∧ part ++ [a.f0] = p4 := by simpa using h1
          have hy2 : w5.cell? ⟨gm, a.f0.toNat, none⟩ = some (.bool false) := by rw [hy]; exact congrArg (fun z => some (Value.bool z)) (Bool.eq_false_iff.mpr hm)
          have HPL := zMk hpl
          clear hy h1 hm hpl
          go_upto_region 19 with (fail)
          have PP6 := zMk (PP5.out.put a.f0)
          have BE6 := zMk (show (w5.setCell ⟨gm, a.f0.toNat, none⟩ (.bool true)).heap[be]? = some (.cells #[.int .i64 a.f0, .int .i64 a.f1] 51 (0, 0)) from by
            obtain ⟨cells, hbm⟩ := Kd.R_typed PP5.out.hM gm (by simp [Value.ownBlock])
            refine (Below.heap_setCell _ _ _ _ ?_).trans BE.out
            rintro rfl
            have h2 := BE.out
            rw [hbm] at h2
            injection h2 with h2
            injection h2 with _ h2
            exact absurd h2 (by decide))
          clear hz0 hz1 hy2 hfy b0 b1 BE PP5
          generalize w5.setCell ⟨gm, a.f0.toNat, none⟩ (.bool true) = w6 at PP6 BE6 ⊢
          have hz0 : w6.cell? ⟨be, 0, none⟩ = some (.int .i64 a.f0) := (zKc BE6.out 0).trans rfl
          have hz1 : w6.cell? ⟨be, 1, none⟩ = some (.int .i64 a.f1) := (zKc BE6.out 1).trans rfl
          have HMS := zMk (show (met.set a.f0.toNat true).length = nn by rw [List.length_set]; exact HML.out)
          generalize met.set a.f0.toNat true = met5 at PP6 HAR HMS HML4
          go_upto_region 20 with ((with_reducible refine gate_builtin (b := .append) (xs := #[.tmp 60, .tmp 63]) rfl ?_); at_builtin; refine Kd.R_append (Kd.int .i64) (w0 := wa) wa.heap.size rfl (.tmp 60) (.tmp 63) 33 3 (.int .i64 0) 8 rfl Try.underlying33 info3 rfl (by decide) (by omega) (.slice AP part.length cP) part a.f0 [.int .i64 a.f0] (fun _ => True) (fun _ => False) rfl rfl ?aP (fun _ hk => hk.elim) ?aF ?aO ?aB ?aS ?aL ?_; (case aP => exact rfl); (case aB => exact PP6.out.hB); (case aF => exact (fun _ _ => trivial)); (case aO => exact PP6.out.hP); (case aS => exact (zBs PP6.out.hB)); (case aL => have := HPL.out; omega); intro vQ w7 ho hb hg hat; have RQ := zMk ho; have PQ := zMk (PP6.out.grown ho hb hg hat); clear ho hb hg hat)
          obtain ⟨AQ, cQ, eQ⟩ := zRs RQ.out
          subst eQ
          clear RQ PP6 BE6 hz0 hz1
          generalize part ++ [a.f0] = partn at PQ HAR ⊢
          have hij := HIJ.out
          go_wp2
          go_roundg (L.length - (j + 1))
          case measure => omega
          case rel => exact ⟨met5, partn, AQ, cQ, j + 1, rfl, by first | rfl | exact congrArg (Value.int .i64) (by omega) | exact congrArg (Value.int .i64) hij | exact congrArg (Value.int .i64) (by simp only [i64_w]; exact hij), by omega, Nat.le_refl _, HMS, PQ, HAR⟩



def parts_Bridges.l0 : Nat → List Int → List (List Int) → Int → Int → Option (List Int)
  | 0, _, _, _, _ => none
  | k + 1, x2, x6, x7, x8 => if x8 < x7 then (if 0 ≤ x8 then (if x8 < (x6.length : Int) then (if ((rd_L4 x6 x8).length : Int) = 1 then (if 0 < ((rd_L4 x6 x8).length : Int) then (if x2.length < 17592186044416 then (parts_Bridges.l0 k (x2 ++ [rd (rd_L4 x6 x8) 0]) x6 x7 (wrap64 (x8 + 1))) else (none)) else (none)) else (parts_Bridges.l0 k x2 x6 x7 (wrap64 (x8 + 1)))) else (none)) else (none)) else (some x2)
def parts_Bridges.f (k : Nat) (a0_0 : Int) (l0_1 : List (S43)) : Option (List Int) := (parts_Blocks.f k a0_0 l0_1).bind fun t277 => (parts_Bridges.l0 k ([] : List Int) t277 (t277.length : Int) 0)
theorem parts_Bridges.calls (k : Nat) (a0_0 : Int) (A0_1 : Option Addr) (c0_1 : Nat) (l0_1 : List (S43)) (r : List Int) (w : World) (hr0_1 : Kd.C k43 w A0_1 l0_1.length l0_1) (hc0_1 : l0_1.length ≤ c0_1) (h : parts_Bridges.f k a0_0 l0_1 = some r) :
    Calls Try.prog 15 #[.agg #[.int .i64 a0_0, .slice A0_1 l0_1.length c0_1]] w fun e w' => ∃ v0_ : Value, e = .returned (v0_) ∧ Kd.R (Kd.int .i64) 3 w' w.heap.size (fun _ => True) v0_ r ∧ Below w.heap.size w w' := by
  have hu24 := Try.underlying24
  have HR0_1 := zMk hr0_1
  have HC0_1 := zMk hc0_1
  clear hr0_1 hc0_1
  have HB := zMk (Below.refl w.heap.size w)
  have H : ((parts_Blocks.f k a0_0 l0_1).bind fun t277 => (parts_Bridges.l0 k ([] : List Int) t277 (t277.length : Int) 0)) = some r := h
  clear h
  replace H := bnd H
  obtain ⟨t277, A20, H⟩ := H
  have A2 := zMk A20
  clear A20
  have H' := zMk H
  clear H
  go_enter Try.func15, Try.ntmps15
  go_wp2_with (first | ((with_reducible refine gate_dst (N := 1) rfl ?_); refine box_event ?hg (N := 1) ?hd (cs := #[.int .i64 a0_0, .slice A0_1 l0_1.length c0_1]) (t := 24) ?hr ?_; (case hd => rfl); (case hg => rfl); (case hr => first | (go_simp; done)|(go_simp; rfl)|(go_simp; rw [show ∀ x : Int, IntKind.u32.wrap (IntKind.u8.wrap x) = x % 256 from fun x => (by show (x % 256) % 4294967296 = x % 256; omega)])); intro gb276 hg w3 hbox hb; have BK276 := zMk (hbox); have GW276 := zMk ((by rw [hg]; exact (zBs (by exact uT HB.out)) : w.heap.size ≤ gb276)); have GE276 := zMk ((by rw [hg]; exact (zBs (by exact uT HB.out)) : w.heap.size ≤ gb276)); have IGE276 := ownGe GE276.out; replace HB := zMk (zBt (by exact uT HB.out) hb); clear hb hbox hg; have hcz4_0 : w3.cell? ⟨gb276, 0, none⟩ = some (.int .i64 a0_0) := (zKc BK276.out 0).trans rfl; have hcz4_1 : w3.cell? ⟨gb276, 1, none⟩ = some (.slice A0_1 l0_1.length c0_1) := (zKc BK276.out 1).trans rfl; have hfz4_0 := zKf BK276.out 0; have hfz4_1 := zKf BK276.out 1)|((with_reducible refine gate_callee (f := 19) rfl ?_); refine goesL_ (some 6) rfl rfl Try.func19 (by kernel_rfl) rfl #[.agg #[.int .i64 a0_0, .slice A0_1 l0_1.length c0_1]] rfl (by (try simp only [zMa, zMc, zMn]); first |  done|  rfl|  (simp only [zLd, zLt]; rfl)) ?_; (with_reducible refine (parts_Blocks.calls k a0_0 _ _ l0_1 t277 _ ?side1 ?side2 A2.out).mono ?_); (case side1 => repeat (first |  exact (Kd.C_below HR0_1.out HB.out)|(with_reducible refine zCa ?_ _)|(with_reducible refine zCn ?_ _)|(with_reducible refine zCd ?_))); (case side2 => exact HC0_1.out); rintro e w5 ⟨v278, rfl, ho0, hb⟩; refine ⟨_, rfl, ?_⟩; have HO279 := zMk (Kd.S_lower ho0 (zBs (by exact uT HB.out))); replace BK276 := zMk (zKb (g := gb276) (o := .cells #[.int .i64 a0_0, .slice A0_1 l0_1.length c0_1] 24 (0, 0)) (by (with_reducible repeat (first |  refine zKn ?_ _|  refine zKd ?_|  refine zKa ?_ _)); exact BK276.out) hb); replace HB := zMk (zBt (by exact uT HB.out) hb); obtain ⟨Ao6, co6, eo6⟩ := Kd.S_slice HO279.out; subst eo6))
  go_loopg [2, 8] k (fun kq v2 v8 w' => ∃ (x2_1 : List Int) (x8_1 : Int), v8 = .int .i64 x8_1 ∧ Aside0 (parts_Bridges.l0 kq x2_1 t277 (t277.length : Int) x8_1 = some r) ∧ Aside0 (kq ≤ k) ∧ Aside0 (Kd.R (Kd.int .i64) 3 w' w.heap.size (fun _ => True) v2 x2_1) ∧ Aside0 (Kd.S (Kd.slice 3 (Kd.int .i64)) 33 w' w.heap.size (fun k_ => some k_ ≠ (v2 : Value).ownBlock) (.slice Ao6 t277.length co6) t277) ∧ Aside0 (w'.heap[gb276]? = some (.cells #[.int .i64 a0_0, (.slice A0_1 l0_1.length c0_1)] 24 (0, 0))) ∧ Aside0 (Below w.heap.size w w'))
  case atStart => exact ⟨(([] : List Int)), (0), (by first | rfl | (simp; done) | (simp [*]; done)), H', ⟨Nat.le_refl _⟩, ⟨by first | exact Kd.R_nil _ _ _ _ _ | exact Kd.N_nil _ _ _ _ _ | exact Kd.V_nil _ _ _ _ _ | exact Kd.Q_nil _ _ _ _ _ | exact Kd.S_nil _ _ _ _ _⟩, ⟨by (with_reducible repeat (first | apply Kd.S_alloc | apply Kd.S_drewN | apply Kd.S_drew)); exact Kd.S_mono HO279.out (fun _ hk => (by simp [Value.ownBlock]))⟩, ⟨by (with_reducible repeat (first | refine zKn ?_ _ | refine zKd ?_ | refine zKa ?_ _)); exact BK276.out⟩, ⟨by exact uT HB.out⟩⟩
  clear H'
  obtain ⟨x2_1, x8_1, rfl, HA, HK1, HO_2, HO_6, BK276, HB⟩ := hrel
  rcases gk with _ | k1
  · exact absurd HA.out (by simp [parts_Bridges.l0])
  have H := HA.out
  clear HA
  simp only [parts_Bridges.l0] at H
  by_cases c7 : x8_1 < (t277.length : Int)
  · rw [if_pos c7] at H
    have c7b0 : decide (x8_1 < (t277.length : Int)) = true := decide_eq_true c7
    clear c7
    by_cases c8 : 0 ≤ x8_1
    rotate_left
    · rw [if_neg c8] at H; exact absurd H (by simp)
    rw [if_pos c8] at H
    have c8b0 : decide (0 ≤ x8_1) = true := decide_eq_true c8
    clear c8
    by_cases c9 : x8_1 < (t277.length : Int)
    rotate_left
    · rw [if_neg c9] at H; exact absurd H (by simp)
    rw [if_pos c9] at H
    have c9b0 : decide (x8_1 < (t277.length : Int)) = true := decide_eq_true c9
    clear c9
    by_cases c10 : ((rd_L4 t277 x8_1).length : Int) = 1
    · rw [if_pos c10] at H
      have c10b0 : (((rd_L4 t277 x8_1).length : Int) == 1) = true := beq_iff_eq.mpr c10
      have c10b1 : (((rd_L4 t277 x8_1).length : Int) != 1) = false := bne_eq_false_iff_eq.mpr c10
      clear c10
      by_cases c11 : 0 < ((rd_L4 t277 x8_1).length : Int)
      rotate_left
      · rw [if_neg c11] at H; exact absurd H (by simp)
      rw [if_pos c11] at H
      have c11b0 : decide (0 < ((rd_L4 t277 x8_1).length : Int)) = true := decide_eq_true c11
      have c11b1 : decide (0 < (rd_L4 t277 x8_1).length) = true := decide_eq_true (by omega)
      clear c11
      by_cases c12 : x2_1.length < 17592186044416
      rotate_left
      · rw [if_neg c12] at H; exact absurd H (by simp)
      rw [if_pos c12] at H
      have LMc12 := zMk c12
      clear c12
      obtain ⟨y282, hy282⟩ : ∃ y_ : List Int, y_ = (x2_1 ++ [rd (rd_L4 t277 x8_1) 0]) := ⟨_, rfl⟩
      replace H : (parts_Bridges.l0 k1 y282 t277 (t277.length : Int) (wrap64 (x8_1 + 1))) = some r := by first | (rw [hy282]; with_reducible exact H) | (have H2_ := bsm H; first | (rw [hy282]; with_reducible exact H2_) | with_reducible exact H2_) | with_reducible exact H | (rw [hy282]; exact H) | exact H
      have Ny282 := zMk hy282
      clear hy282
      have H' := zMk H
      clear H
      have p280 : 0 ≤ (x8_1 : Int) := of_decide_eq_true (by assumption)
      have q280 : x8_1 < (t277.length : Int) := of_decide_eq_true (by assumption)
      obtain ⟨ad280, A280_0, c280_0, e280, hx280_0, hl280_0, hi280_0⟩ := at_L4 (Kd.S_reads' HO_6.out).2.2 x8_1 p280 q280
      cases e280
      obtain ⟨ce280, hce280, hMe280, hcc280⟩ := Kd.S_get HO_6.out [] x8_1 p280 (by first | exact q280 | exact of_decide_eq_true (by assumption) | (have e_ := (Kd.S_reads' HO_6.out).1; omega))
      obtain ⟨ve280_0, rfl, ge280_0⟩ := hMe280
      have hv280_0 := hcc280 0 _ rfl
      rw [Nat.add_zero, show ((Kd.slice 3 (Kd.int .i64))).sz = 1 from rfl, Nat.mul_one] at hv280_0
      replace hv280_0 := zOi (hv280_0.symm.trans hx280_0)
      rw [hv280_0] at ge280_0
      have HL280_0 := zMk (show Kd.R (Kd.int .i64) 3 _ _ _ _ (rd_L4 t277 x8_1) from ge280_0)
      clear hv280_0 ge280_0 hcc280 hce280
      have HR280_0 := zMk hi280_0
      have HC280_0 := zMk hl280_0
      clear hi280_0 hl280_0
      replace p280 := eq_true p280
      replace q280 := eq_true q280
      have p281 : 0 ≤ (0 : Int) := (by omega)
      have q281 : 0 < ((rd_L4 t277 x8_1).length : Int) := of_decide_eq_true (by assumption)
      obtain ⟨ad281, e281, hx281_0⟩ := zAi (by repeat (first | (with_reducible exact HR280_0.out) | (with_reducible refine zCa ?_ _) | (with_reducible refine zCn ?_ _) | (with_reducible refine zCd ?_) | exact HR280_0.out)) 0 p281 q281
      cases e281
      have qi281 : (0 < (rd_L4 t277 x8_1).length) = True := eq_true (by omega)
      (try rw [show ((0 : Int)).toNat = 0 from rfl] at hx281_0)
      (try rw [Addr.add_zero'] at hx281_0)
      replace p281 := eq_true p281
      replace q281 := eq_true q281
      go_wp2_with (first | ((with_reducible refine gate_builtin (b := .append) (xs := #[.tmp 15, .tmp 19]) rfl ?_); at_builtin; refine Kd.R_append (Kd.int .i64) (w0 := w) w.heap.size rfl (.tmp 15) (.tmp 19) 33 3 (.int .i64 0) 8 rfl Try.underlying33 info3 rfl (by decide) (by omega) u2 x2_1 (rd (rd_L4 t277 x8_1) 0) [.int .i64 (rd (rd_L4 t277 x8_1) 0)] (fun _ => True) (fun _ => False) rfl rfl ?aP (fun _ hk => hk.elim) ?aF ?aO ?aB ?aS ?aL ?_; (case aP => exact rfl); (case aB => exact (by exact uT HB.out)); (case aF => exact (fun _ _ => trivial)); (case aO => exact (by exact uR HO_2.out)); (case aS => exact (zBs (by exact uT HB.out))); (case aL => have := LMc12.out; omega); intro v283 w13 ho hb hg hat; rw [← Ny282.out] at ho; replace HO_6 := zMk (Kd.S_after (ok := (fun _ => True)) (by (with_reducible repeat (first |  apply Kd.S_alloc|  apply Kd.S_drewN|  apply Kd.S_drew)); exact Kd.S_mono HO_6.out (fun _ hk => ⟨trivial, hk⟩)) hg hat); replace BK276 := zMk (blk_grown (g := gb276) (o := .cells #[.int .i64 a0_0, .slice A0_1 l0_1.length c0_1] 24 (0, 0)) (by (with_reducible repeat (first |  refine zKn ?_ _|  refine zKd ?_|  refine zKa ?_ _)); exact BK276.out) hg (Kd.R_ne HO_2.out BK276.out (by decide))); replace HL280_0 := zMk (Kd.R_after (ok := (fun k_ => some k_ ≠ (.slice (some ad280) t277.length co6 : Value).ownBlock)) (by (with_reducible repeat (first |  apply zRa|  apply zRn|  apply zRd)); exact zRm HL280_0.out (fun _ hk => ⟨hk.2, hk.1⟩)) hg hat); replace HB := zMk (hb); have HO284 := zMk (ho); clear HO_2 ho hb hg hat))
      go_roundg k1
      case measure => have := HK1.out; omega
      case rel => exact ⟨(y282), (wrap64 (x8_1 + 1)), (by first | rfl | (simp; done) | (simp [*]; done)), H', ⟨by have := HK1.out; omega⟩, ⟨by exact uR HO284.out⟩, ⟨by (with_reducible repeat (first | apply Kd.S_alloc | apply Kd.S_drewN | apply Kd.S_drew)); exact Kd.S_mono HO_6.out (fun _ hk => hk.2)⟩, ⟨by (with_reducible repeat (first | refine zKn ?_ _ | refine zKd ?_ | refine zKa ?_ _)); exact BK276.out⟩, ⟨by exact uT HB.out⟩⟩
    · rw [if_neg c10] at H
      have c10b0 : (((rd_L4 t277 x8_1).length : Int) == 1) = false := beq_eq_false_iff_ne.mpr c10
      have c10b1 : (((rd_L4 t277 x8_1).length : Int) != 1) = true := bne_iff_ne.mpr c10
      have H' := zMk H
      clear H
      have p280 : 0 ≤ (x8_1 : Int) := of_decide_eq_true (by assumption)
      have q280 : x8_1 < (t277.length : Int) := of_decide_eq_true (by assumption)
      obtain ⟨ad280, A280_0, c280_0, e280, hx280_0, hl280_0, hi280_0⟩ := at_L4 (Kd.S_reads' HO_6.out).2.2 x8_1 p280 q280
      cases e280
      obtain ⟨ce280, hce280, hMe280, hcc280⟩ := Kd.S_get HO_6.out [] x8_1 p280 (by first | exact q280 | exact of_decide_eq_true (by assumption) | (have e_ := (Kd.S_reads' HO_6.out).1; omega))
      obtain ⟨ve280_0, rfl, ge280_0⟩ := hMe280
      have hv280_0 := hcc280 0 _ rfl
      rw [Nat.add_zero, show ((Kd.slice 3 (Kd.int .i64))).sz = 1 from rfl, Nat.mul_one] at hv280_0
      replace hv280_0 := zOi (hv280_0.symm.trans hx280_0)
      rw [hv280_0] at ge280_0
      have HL280_0 := zMk (show Kd.R (Kd.int .i64) 3 _ _ _ _ (rd_L4 t277 x8_1) from ge280_0)
      clear hv280_0 ge280_0 hcc280 hce280
      have HR280_0 := zMk hi280_0
      have HC280_0 := zMk hl280_0
      clear hi280_0 hl280_0
      replace p280 := eq_true p280
      replace q280 := eq_true q280
      go_wp2
      go_roundg k1
      case measure => have := HK1.out; omega
      case rel => exact ⟨(x2_1), (wrap64 (x8_1 + 1)), (by first | rfl | (simp; done) | (simp [*]; done)), H', ⟨by have := HK1.out; omega⟩, ⟨by exact uR HO_2.out⟩, ⟨by (with_reducible repeat (first | apply Kd.S_alloc | apply Kd.S_drewN | apply Kd.S_drew)); exact HO_6.out⟩, ⟨by (with_reducible repeat (first | refine zKn ?_ _ | refine zKd ?_ | refine zKa ?_ _)); exact BK276.out⟩, ⟨by exact uT HB.out⟩⟩
  · rw [if_neg c7] at H
    have c7b0 : decide (x8_1 < (t277.length : Int)) = false := decide_eq_false c7
    clear c7
    obtain rfl := zOi H
    go_wp2
    go_ret
    exact ⟨_, by first | rfl | (simp [errW_none, errW_some] <;> rfl) | (simp [*, errW_none, errW_some] <;> rfl), by exact uR HO_2.out, by exact uT HB.out⟩

end Go.Proofs.Ytkiemlbobcklpaa.A
