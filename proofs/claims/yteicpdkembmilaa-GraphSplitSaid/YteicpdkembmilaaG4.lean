/- Lemmas for the statement: the walks of the functions that it reaches, and plain laws. -/
import Derived.Test.YteicpdkembmilaaG1
import Derived.Test.YteicpdkembmilaaG2
import Derived.Test.YteicpdkembmilaaG3
set_option linter.unusedVariables false
set_option linter.unusedSimpArgs false
set_option maxHeartbeats 8000000
set_option maxRecDepth 100000
namespace Go.Proofs.Yteicpdkembmilaa.A
open Go Go.RowKit Go.Proofs.YteicpdkembmilaaW.PrintWords Go.Proofs.YteicpdkembmilaaW.PrintLast Go.Proofs.YteicpdkembmilaaW.PrintMore
attribute [local go_sem] max2_int min2_int max_two min_two max_three min_three max_four min_four
open Go.Proofs.YteicpdkembmilaaW.PrintWords.Kd renaming R_alloc → zRa, R_drewN → zRn, R_drew → zRd, C_alloc → zCa, C_drewN → zCn, C_drew → zCd, R_mono → zRm, at_int → zAi, R_elder' → zRe, R_lower → zRl, R_new' → zRw, R_lt → zRt, R_below → zRb, R_base → zRz, R_reads' → zRr, R_slice → zRs
open Go.Proofs.YteicpdkembmilaaW.PrintWords renaming pw_below_drewN → zBn, below_alloc → zBa, below_drew1 → zBd, below_size → zBs, below_step → zBt, blk_drewN → zKn, blk_drew → zKd, blk_alloc → zKa, blk_below → zKb, blk_cell → zKc, blk_frozen → zKf
open List renaming setIfInBounds_toArray → zSa, set_cons_zero → zSb, set_cons_succ → zSc, length_drop → zLd, length_take → zLt, map_toArray → zMa, map_cons → zMc, map_nil → zMn, length_cons → zLc, length_nil → zLn
open Go.Proofs.YteicpdkembmilaaW.PrintWords.Aside0 renaming mk → zMk
open Option renaming bind_eq_some_iff → zBi, bind_some → zOb
open Option.some renaming inj → zOi
open Int renaming toNat_natCast → zTn

def filigreeref04_Only.l0 : Nat → List Bool → Int → Int → List (S36) → Int → List (S36) → Option (Int × (List (S36)))
  | 0, _, _, _, _, _, _ => none
  | k + 1, x1, x6, x449000, x449001, x451000, x451001 => if x6 < (x449001.length : Int) then (if 0 ≤ x6 then (if ((rd_T36 x449001 x6).f0) < (x1.length : Int) then (if 0 ≤ ((rd_T36 x449001 x6).f0) then (if rdOf false x1 ((rd_T36 x449001 x6).f0) = true then (if ((rd_T36 x449001 x6).f1) < (x1.length : Int) then (if 0 ≤ ((rd_T36 x449001 x6).f1) then (if rdOf false x1 ((rd_T36 x449001 x6).f1) = true then (if x451001.length < 5864062014805 then (filigreeref04_Only.l0 k x1 (wrap64 (x6 + 1)) x449000 x449001 x451000 (x451001 ++ [(⟨(rd_T36 x449001 x6).f0, (rd_T36 x449001 x6).f1, (rd_T36 x449001 x6).f2⟩ : S36)])) else (none)) else (filigreeref04_Only.l0 k x1 (wrap64 (x6 + 1)) x449000 x449001 x451000 x451001)) else (none)) else (filigreeref04_Only.l0 k x1 (wrap64 (x6 + 1)) x449000 x449001 x451000 x451001)) else (filigreeref04_Only.l0 k x1 (wrap64 (x6 + 1)) x449000 x449001 x451000 x451001)) else (none)) else (filigreeref04_Only.l0 k x1 (wrap64 (x6 + 1)) x449000 x449001 x451000 x451001)) else (none)) else (some (x451000, x451001))
def filigreeref04_Only.f (k : Nat) (a0_0 : Int) (l0_1 : List (S36)) (l1 : List Bool) : Option (Int × (List (S36))) := filigreeref04_Only.l0 k l1 0 a0_0 l0_1 a0_0 ([] : List (S36))
theorem filigreeref04_Only.calls (k : Nat) (a0_0 : Int) (A0_1 : Option Addr) (c0_1 : Nat) (l0_1 : List (S36)) (A1 : Option Addr) (c1 : Nat) (l1 : List Bool) (r1 : Int) (r2 : List (S36)) (w : World) (hr0_1 : Kd.C k36 w A0_1 l0_1.length l0_1) (hc0_1 : l0_1.length ≤ c0_1) (hr1 : Kd.C Kd.bool w A1 l1.length l1) (hc1 : l1.length ≤ c1) (h : filigreeref04_Only.f k a0_0 l0_1 l1 = some (r1, r2)) :
    Calls Try.prog 23 #[.agg #[.int .i64 a0_0, .slice A0_1 l0_1.length c0_1], .slice A1 l1.length c1] w fun e w' => ∃ v1_ : Value, e = .returned (.agg #[.int .i64 r1, v1_]) ∧ Kd.R k36 36 w' w.heap.size (fun _ => True) v1_ r2 ∧ Below w.heap.size w w' := by
  have hu24 := Try.underlying24
  have hu36 := Try.underlying36
  have HR0_1 := zMk hr0_1
  have HC0_1 := zMk hc0_1
  clear hr0_1 hc0_1
  have HR1 := zMk hr1
  have HC1 := zMk hc1
  clear hr1 hc1
  have HB := zMk (Below.refl w.heap.size w)
  have H : (filigreeref04_Only.l0 k l1 0 a0_0 l0_1 a0_0 ([] : List (S36))) = some (r1, r2) := h
  clear h
  have H' := zMk H
  clear H
  go_enter Try.func23, Try.ntmps23
  go_wp2_with (first | ((with_reducible refine gate_dst (N := 2) rfl ?_); (try (refine gate_guard (by rfl) ?_; dsimp only)); refine box_event ?hg (N := 2) ?hd (cs := #[.int .i64 a0_0, .slice A0_1 l0_1.length c0_1]) (t := 24) ?hr ?_; (case hd => rfl); (case hg => rfl); (case hr => first | (go_simp; done)|(go_simp; rfl)|(go_simp; rw [show ∀ x : Int, IntKind.u32.wrap (IntKind.u8.wrap x) = x % 256 from fun x => (by show (x % 256) % 4294967296 = x % 256; omega)])); intro gb448 hg w3 hbox hb; have BK448 := zMk (hbox); have GW448 := zMk ((by rw [hg]; exact (zBs (by exact uT HB.out)) : w.heap.size ≤ gb448)); have GE448 := zMk ((by rw [hg]; exact (zBs (by exact uT HB.out)) : w.heap.size ≤ gb448)); have IGE448 := ownGe GE448.out; replace HB := zMk (zBt (by exact uT HB.out) hb); clear hb hbox hg)|((with_reducible refine gate_dst (N := 4) rfl ?_); (try (refine gate_guard (by rfl) ?_; dsimp only)); refine box_event ?hg (N := 4) ?hd (cs := #[.int .i64 0, .slice none 0 0]) (t := 24) ?hr ?_; (case hd => rfl); (case hg => rfl); (case hr => first | (go_simp; done)|(go_simp; rfl)|(go_simp; rw [show ∀ x : Int, IntKind.u32.wrap (IntKind.u8.wrap x) = x % 256 from fun x => (by show (x % 256) % 4294967296 = x % 256; omega)])); intro gb449 hg w4 hbox hb; have BK449 := zMk (hbox); have GW449 := zMk ((by rw [hg]; exact (zBs (by exact uT HB.out)) : w.heap.size ≤ gb449)); have GE449 := zMk ((by rw [hg]; exact (zBs (by exact uT HB.out)) : w.heap.size ≤ gb449)); have IGE449 := ownGe GE449.out; replace HB := zMk (zBt (by exact uT HB.out) hb); have NB448_449 := zMk ((by rw [hg]; exact Nat.ne_of_lt (blk_lt (g := gb448) (o := .cells #[.int .i64 a0_0, .slice A0_1 l0_1.length c0_1] 24 (0, 0)) (by (with_reducible repeat (first |  refine zKn ?_ _|  refine zKd ?_|  refine zKa ?_ _)); exact BK448.out)) : gb448 ≠ gb449)); have NB449_448 := zMk ((by rw [hg]; exact Nat.ne_of_gt (blk_lt (g := gb448) (o := .cells #[.int .i64 a0_0, .slice A0_1 l0_1.length c0_1] 24 (0, 0)) (by (with_reducible repeat (first |  refine zKn ?_ _|  refine zKd ?_|  refine zKa ?_ _)); exact BK448.out)) : gb449 ≠ gb448)); replace BK448 := zMk (zKb (g := gb448) (o := .cells #[.int .i64 a0_0, .slice A0_1 l0_1.length c0_1] 24 (0, 0)) (by (with_reducible repeat (first |  refine zKn ?_ _|  refine zKd ?_|  refine zKa ?_ _)); exact BK448.out) hb); clear hb hbox hg; have hnb5 := NB448_449.out; have hnc5 := NB449_448.out; have hcz6_0 : w4.cell? ⟨gb448, 0, none⟩ = some (.int .i64 a0_0) := (zKc BK448.out 0).trans rfl; have hcz6_1 : w4.cell? ⟨gb448, 1, none⟩ = some (.slice A0_1 l0_1.length c0_1) := (zKc BK448.out 1).trans rfl; have hfz6_0 := zKf BK448.out 0; have hfz6_1 := zKf BK448.out 1)|((with_reducible refine gate_dst (N := 5) rfl ?_); (try (refine gate_guard (by rfl) ?_; dsimp only)); refine box_event ?hg (N := 5) ?hd (cs := #[.int .i64 0, .slice none 0 0]) (t := 24) ?hr ?_; (case hd => rfl); (case hg => rfl); (case hr => first | (go_simp; done)|(go_simp; rfl)|(go_simp; rw [show ∀ x : Int, IntKind.u32.wrap (IntKind.u8.wrap x) = x % 256 from fun x => (by show (x % 256) % 4294967296 = x % 256; omega)])); intro gb450 hg w7 hbox hb; have BK450 := zMk (hbox); have GW450 := zMk ((by rw [hg]; exact (zBs (by exact uT HB.out)) : w.heap.size ≤ gb450)); have GE450 := zMk ((by rw [hg]; exact (zBs (by exact uT HB.out)) : w.heap.size ≤ gb450)); have IGE450 := ownGe GE450.out; replace HB := zMk (zBt (by exact uT HB.out) hb); have NB448_450 := zMk ((by rw [hg]; exact Nat.ne_of_lt (blk_lt (g := gb448) (o := .cells #[.int .i64 a0_0, .slice A0_1 l0_1.length c0_1] 24 (0, 0)) (by (with_reducible repeat (first |  refine zKn ?_ _|  refine zKd ?_|  refine zKa ?_ _)); exact BK448.out)) : gb448 ≠ gb450)); have NB450_448 := zMk ((by rw [hg]; exact Nat.ne_of_gt (blk_lt (g := gb448) (o := .cells #[.int .i64 a0_0, .slice A0_1 l0_1.length c0_1] 24 (0, 0)) (by (with_reducible repeat (first |  refine zKn ?_ _|  refine zKd ?_|  refine zKa ?_ _)); exact BK448.out)) : gb450 ≠ gb448)); replace BK448 := zMk (zKb (g := gb448) (o := .cells #[.int .i64 a0_0, .slice A0_1 l0_1.length c0_1] 24 (0, 0)) (by (with_reducible repeat (first |  refine zKn ?_ _|  refine zKd ?_|  refine zKa ?_ _)); exact BK448.out) hb); have NB449_450 := zMk ((by rw [hg]; exact Nat.ne_of_lt (blk_lt (g := gb449) (o := .cells #[.int .i64 0, .slice none 0 0] 24 (0, 0)) (by (with_reducible repeat (first |  refine zKn ?_ _|  refine zKd ?_|  refine zKa ?_ _)); exact BK449.out)) : gb449 ≠ gb450)); have NB450_449 := zMk ((by rw [hg]; exact Nat.ne_of_gt (blk_lt (g := gb449) (o := .cells #[.int .i64 0, .slice none 0 0] 24 (0, 0)) (by (with_reducible repeat (first |  refine zKn ?_ _|  refine zKd ?_|  refine zKa ?_ _)); exact BK449.out)) : gb450 ≠ gb449)); replace BK449 := zMk (zKb (g := gb449) (o := .cells #[.int .i64 0, .slice none 0 0] 24 (0, 0)) (by (with_reducible repeat (first |  refine zKn ?_ _|  refine zKd ?_|  refine zKa ?_ _)); exact BK449.out) hb); clear hb hbox hg; have hnb8 := NB450_448.out; have hnc8 := NB448_450.out; have hnb9 := NB450_449.out; have hnc9 := NB449_450.out; have hcz10_0 : w7.cell? ⟨gb450, 0, none⟩ = some (.int .i64 0) := (zKc BK450.out 0).trans rfl; have hcz10_1 : w7.cell? ⟨gb450, 1, none⟩ = some (.slice none 0 0) := (zKc BK450.out 1).trans rfl; have hfz10_0 := zKf BK450.out 0; have hfz10_1 := zKf BK450.out 1))
  go_loopg [6] k (fun kq v6 w' => ∃ (x6_1 : Int) (x451001_1 : List (S36)) (u451001 : Value), v6 = .int .i64 x6_1 ∧ Aside0 (filigreeref04_Only.l0 kq l1 x6_1 a0_0 l0_1 a0_0 x451001_1 = some (r1, r2)) ∧ Aside0 (kq ≤ k) ∧ Aside0 (Kd.R k36 36 w' w.heap.size (fun _ => True) u451001 x451001_1) ∧ Aside0 (w'.heap[gb448]? = some (.cells #[.int .i64 a0_0, (.slice A0_1 l0_1.length c0_1)] 24 (0, 0))) ∧ Aside0 (w'.heap[gb449]? = some (.cells #[.int .i64 0, (.slice none 0 0)] 24 (0, 0))) ∧ Aside0 (w'.heap[gb450]? = some (.cells #[.int .i64 a0_0, u451001] 24 (0, 0))) ∧ Aside0 (Below w.heap.size w w'))
  case atStart => exact ⟨(0), (([] : List (S36))), (.slice none 0 0), (by first | rfl | (simp; done) | (simp [*]; done)), H', ⟨Nat.le_refl _⟩, ⟨by first | exact Kd.R_nil _ _ _ _ _ | exact Kd.N_nil _ _ _ _ _ | exact Kd.V_nil _ _ _ _ _ | exact Kd.Q_nil _ _ _ _ _ | exact Kd.S_nil _ _ _ _ _⟩, ⟨by (with_reducible repeat (first | refine zKn ?_ _ | refine zKd ?_ | refine zKa ?_ _)); refine blk_far ?_ NB448_450.out _; (with_reducible repeat (first | refine zKn ?_ _ | refine zKd ?_ | refine zKa ?_ _)); refine blk_far ?_ NB448_450.out _; (with_reducible repeat (first | refine zKn ?_ _ | refine zKd ?_ | refine zKa ?_ _)); exact BK448.out⟩, ⟨by (with_reducible repeat (first | refine zKn ?_ _ | refine zKd ?_ | refine zKa ?_ _)); refine blk_far ?_ NB449_450.out _; (with_reducible repeat (first | refine zKn ?_ _ | refine zKd ?_ | refine zKa ?_ _)); refine blk_far ?_ NB449_450.out _; (with_reducible repeat (first | refine zKn ?_ _ | refine zKd ?_ | refine zKa ?_ _)); exact BK449.out⟩, ⟨by (with_reducible repeat (first | refine zKn ?_ _ | refine zKd ?_ | refine zKa ?_ _)); refine blk_put (cs := #[.int .i64 a0_0, .slice none 0 0]) ?_ 1 _ rfl; (with_reducible repeat (first | refine zKn ?_ _ | refine zKd ?_ | refine zKa ?_ _)); refine blk_put (cs := #[.int .i64 0, .slice none 0 0]) ?_ 0 _ rfl; (with_reducible repeat (first | refine zKn ?_ _ | refine zKd ?_ | refine zKa ?_ _)); exact BK450.out⟩, ⟨by exact uT HB.out⟩⟩
  clear H'
  obtain ⟨x6_1, x451001_1, u451001, rfl, HA, HK1, HO_451001, BK448, BK449, BK450, HB⟩ := hrel
  rcases gk with _ | k1
  · exact absurd HA.out (by simp [filigreeref04_Only.l0])
  have H := HA.out
  clear HA
  simp only [filigreeref04_Only.l0] at H
  by_cases c11 : x6_1 < (l0_1.length : Int)
  · rw [if_pos c11] at H
    have c11b0 : decide (x6_1 < (l0_1.length : Int)) = true := decide_eq_true c11
    clear c11
    by_cases c12 : 0 ≤ x6_1
    rotate_left
    · rw [if_neg c12] at H; exact absurd H (by simp)
    rw [if_pos c12] at H
    have c12b0 : decide (0 ≤ x6_1) = true := decide_eq_true c12
    clear c12
    by_cases c13 : ((rd_T36 l0_1 x6_1).f0) < (l1.length : Int)
    · rw [if_pos c13] at H
      have c13b0 : decide (((rd_T36 l0_1 x6_1).f0) < (l1.length : Int)) = true := decide_eq_true c13
      clear c13
      by_cases c14 : 0 ≤ ((rd_T36 l0_1 x6_1).f0)
      rotate_left
      · rw [if_neg c14] at H; exact absurd H (by simp)
      rw [if_pos c14] at H
      have c14b0 : decide (0 ≤ ((rd_T36 l0_1 x6_1).f0)) = true := decide_eq_true c14
      clear c14
      obtain ⟨bq15, hbq15⟩ : ∃ b_ : Bool, b_ = (rdOf false l1 ((rd_T36 l0_1 x6_1).f0)) := ⟨_, rfl⟩
      replace H : (if bq15 = true then (if ((rd_T36 l0_1 x6_1).f1) < (l1.length : Int) then (if 0 ≤ ((rd_T36 l0_1 x6_1).f1) then (if rdOf false l1 ((rd_T36 l0_1 x6_1).f1) = true then (if x451001_1.length < 5864062014805 then (filigreeref04_Only.l0 k1 l1 (wrap64 (x6_1 + 1)) a0_0 l0_1 a0_0 (x451001_1 ++ [(⟨(rd_T36 l0_1 x6_1).f0, (rd_T36 l0_1 x6_1).f1, (rd_T36 l0_1 x6_1).f2⟩ : S36)])) else (none)) else (filigreeref04_Only.l0 k1 l1 (wrap64 (x6_1 + 1)) a0_0 l0_1 a0_0 x451001_1)) else (none)) else (filigreeref04_Only.l0 k1 l1 (wrap64 (x6_1 + 1)) a0_0 l0_1 a0_0 x451001_1)) else (filigreeref04_Only.l0 k1 l1 (wrap64 (x6_1 + 1)) a0_0 l0_1 a0_0 x451001_1)) = some (r1, r2) := by rw [← hbq15] at H; exact H
      have Nbq15 := zMk hbq15
      clear hbq15
      by_cases c16 : bq15 = true
      · subst c16
        replace H : (if ((rd_T36 l0_1 x6_1).f1) < (l1.length : Int) then (if 0 ≤ ((rd_T36 l0_1 x6_1).f1) then (if rdOf false l1 ((rd_T36 l0_1 x6_1).f1) = true then (if x451001_1.length < 5864062014805 then (filigreeref04_Only.l0 k1 l1 (wrap64 (x6_1 + 1)) a0_0 l0_1 a0_0 (x451001_1 ++ [(⟨(rd_T36 l0_1 x6_1).f0, (rd_T36 l0_1 x6_1).f1, (rd_T36 l0_1 x6_1).f2⟩ : S36)])) else (none)) else (filigreeref04_Only.l0 k1 l1 (wrap64 (x6_1 + 1)) a0_0 l0_1 a0_0 x451001_1)) else (none)) else (filigreeref04_Only.l0 k1 l1 (wrap64 (x6_1 + 1)) a0_0 l0_1 a0_0 x451001_1)) = some (r1, r2) := by rw [if_pos rfl] at H; exact H
        by_cases c17 : ((rd_T36 l0_1 x6_1).f1) < (l1.length : Int)
        · rw [if_pos c17] at H
          have c17b0 : decide (((rd_T36 l0_1 x6_1).f1) < (l1.length : Int)) = true := decide_eq_true c17
          clear c17
          by_cases c18 : 0 ≤ ((rd_T36 l0_1 x6_1).f1)
          rotate_left
          · rw [if_neg c18] at H; exact absurd H (by simp)
          rw [if_pos c18] at H
          have c18b0 : decide (0 ≤ ((rd_T36 l0_1 x6_1).f1)) = true := decide_eq_true c18
          clear c18
          obtain ⟨bq19, hbq19⟩ : ∃ b_ : Bool, b_ = (rdOf false l1 ((rd_T36 l0_1 x6_1).f1)) := ⟨_, rfl⟩
          replace H : (if bq19 = true then (if x451001_1.length < 5864062014805 then (filigreeref04_Only.l0 k1 l1 (wrap64 (x6_1 + 1)) a0_0 l0_1 a0_0 (x451001_1 ++ [(⟨(rd_T36 l0_1 x6_1).f0, (rd_T36 l0_1 x6_1).f1, (rd_T36 l0_1 x6_1).f2⟩ : S36)])) else (none)) else (filigreeref04_Only.l0 k1 l1 (wrap64 (x6_1 + 1)) a0_0 l0_1 a0_0 x451001_1)) = some (r1, r2) := by rw [← hbq19] at H; exact H
          have Nbq19 := zMk hbq19
          clear hbq19
          by_cases c20 : bq19 = true
          · subst c20
            replace H : (if x451001_1.length < 5864062014805 then (filigreeref04_Only.l0 k1 l1 (wrap64 (x6_1 + 1)) a0_0 l0_1 a0_0 (x451001_1 ++ [(⟨(rd_T36 l0_1 x6_1).f0, (rd_T36 l0_1 x6_1).f1, (rd_T36 l0_1 x6_1).f2⟩ : S36)])) else (none)) = some (r1, r2) := by rw [if_pos rfl] at H; exact H
            by_cases c21 : x451001_1.length < 5864062014805
            rotate_left
            · rw [if_neg c21] at H; exact absurd H (by simp)
            rw [if_pos c21] at H
            have LMc21 := zMk c21
            clear c21
            obtain ⟨y455, hy455⟩ : ∃ y_ : List (S36), y_ = (x451001_1 ++ [(⟨(rd_T36 l0_1 x6_1).f0, (rd_T36 l0_1 x6_1).f1, (rd_T36 l0_1 x6_1).f2⟩ : S36)]) := ⟨_, rfl⟩
            replace H : (filigreeref04_Only.l0 k1 l1 (wrap64 (x6_1 + 1)) a0_0 l0_1 a0_0 y455) = some (r1, r2) := by first | (rw [hy455]; with_reducible exact H) | (have H2_ := bsm H; first | (rw [hy455]; with_reducible exact H2_) | with_reducible exact H2_) | with_reducible exact H | (rw [hy455]; exact H) | exact H
            have Ny455 := zMk hy455
            clear hy455
            have H' := zMk H
            clear H
            have hnb22 := NB448_449.out
            have hnc22 := NB449_448.out
            have hnb23 := NB448_450.out
            have hnc23 := NB450_448.out
            have hcz24_0 : wr.cell? ⟨gb448, 0, none⟩ = some (.int .i64 a0_0) := (zKc BK448.out 0).trans rfl
            have hcz24_1 : wr.cell? ⟨gb448, 1, none⟩ = some (.slice A0_1 l0_1.length c0_1) := (zKc BK448.out 1).trans rfl
            have hfz24_0 := zKf BK448.out 0
            have hfz24_1 := zKf BK448.out 1
            have p451 : 0 ≤ (x6_1 : Int) := of_decide_eq_true (by assumption)
            have q451 : x6_1 < (l0_1.length : Int) := of_decide_eq_true (by assumption)
            obtain ⟨ad451, e451, hx451_0, hx451_1, hx451_2⟩ := at_T36 HR0_1.out x6_1 p451 q451
            cases e451
            replace hx451_0 := (HB.out.cell (World.block_lt_of_cell? w _ hx451_0)).trans hx451_0
            replace hx451_1 := (HB.out.cell (World.block_lt_of_cell? w _ hx451_1)).trans hx451_1
            replace hx451_2 := (HB.out.cell (World.block_lt_of_cell? w _ hx451_2)).trans hx451_2
            replace p451 := eq_true p451
            replace q451 := eq_true q451
            go_wp2_with (first | ((with_reducible refine gate_dst (N := 7) rfl ?_); (try (refine gate_guard (by rfl) ?_; dsimp only)); refine box_event ?hg (N := 7) ?hd (cs := #[.int .i64 0, .int .i64 0, .int .i64 0]) (t := 36) ?hr ?_; (case hd => rfl); (case hg => rfl); (case hr => first | (go_simp; done)|(go_simp; rfl)|(go_simp; rw [show ∀ x : Int, IntKind.u32.wrap (IntKind.u8.wrap x) = x % 256 from fun x => (by show (x % 256) % 4294967296 = x % 256; omega)])); intro gb452 hg w25 hbox hb; replace HO_451001 := zMk (zRb (Kd.R_elderB (by exact uR HO_451001.out) gb452 (Nat.le_of_eq hg.symm)) hb); have BK452 := zMk (hbox); have GW452 := zMk ((by rw [hg]; exact (zBs (by exact uT HB.out)) : w.heap.size ≤ gb452)); have GE452 := zMk ((by rw [hg]; exact (zBs (by exact uT HB.out)) : w.heap.size ≤ gb452)); have IGE452 := ownGe GE452.out; replace HB := zMk (zBt (by exact uT HB.out) hb); have NB448_452 := zMk ((by rw [hg]; exact Nat.ne_of_lt (blk_lt (g := gb448) (o := .cells #[.int .i64 a0_0, .slice (some ad451) l0_1.length c0_1] 24 (0, 0)) (by (with_reducible repeat (first |  refine zKn ?_ _|  refine zKd ?_|  refine zKa ?_ _)); exact BK448.out)) : gb448 ≠ gb452)); have NB452_448 := zMk ((by rw [hg]; exact Nat.ne_of_gt (blk_lt (g := gb448) (o := .cells #[.int .i64 a0_0, .slice (some ad451) l0_1.length c0_1] 24 (0, 0)) (by (with_reducible repeat (first |  refine zKn ?_ _|  refine zKd ?_|  refine zKa ?_ _)); exact BK448.out)) : gb452 ≠ gb448)); replace BK448 := zMk (zKb (g := gb448) (o := .cells #[.int .i64 a0_0, .slice (some ad451) l0_1.length c0_1] 24 (0, 0)) (by (with_reducible repeat (first |  refine zKn ?_ _|  refine zKd ?_|  refine zKa ?_ _)); exact BK448.out) hb); have NB449_452 := zMk ((by rw [hg]; exact Nat.ne_of_lt (blk_lt (g := gb449) (o := .cells #[.int .i64 0, .slice none 0 0] 24 (0, 0)) (by (with_reducible repeat (first |  refine zKn ?_ _|  refine zKd ?_|  refine zKa ?_ _)); exact BK449.out)) : gb449 ≠ gb452)); have NB452_449 := zMk ((by rw [hg]; exact Nat.ne_of_gt (blk_lt (g := gb449) (o := .cells #[.int .i64 0, .slice none 0 0] 24 (0, 0)) (by (with_reducible repeat (first |  refine zKn ?_ _|  refine zKd ?_|  refine zKa ?_ _)); exact BK449.out)) : gb452 ≠ gb449)); replace BK449 := zMk (zKb (g := gb449) (o := .cells #[.int .i64 0, .slice none 0 0] 24 (0, 0)) (by (with_reducible repeat (first |  refine zKn ?_ _|  refine zKd ?_|  refine zKa ?_ _)); exact BK449.out) hb); have NB450_452 := zMk ((by rw [hg]; exact Nat.ne_of_lt (blk_lt (g := gb450) (o := .cells #[.int .i64 a0_0, u451001] 24 (0, 0)) (by (with_reducible repeat (first |  refine zKn ?_ _|  refine zKd ?_|  refine zKa ?_ _)); exact BK450.out)) : gb450 ≠ gb452)); have NB452_450 := zMk ((by rw [hg]; exact Nat.ne_of_gt (blk_lt (g := gb450) (o := .cells #[.int .i64 a0_0, u451001] 24 (0, 0)) (by (with_reducible repeat (first |  refine zKn ?_ _|  refine zKd ?_|  refine zKa ?_ _)); exact BK450.out)) : gb452 ≠ gb450)); replace BK450 := zMk (zKb (g := gb450) (o := .cells #[.int .i64 a0_0, u451001] 24 (0, 0)) (by (with_reducible repeat (first |  refine zKn ?_ _|  refine zKd ?_|  refine zKa ?_ _)); exact BK450.out) hb); clear hb hbox hg; have hnb26 := NB452_448.out; have hnc26 := NB448_452.out; have hnb27 := NB452_449.out; have hnc27 := NB449_452.out; have hnb28 := NB452_450.out; have hnc28 := NB450_452.out; have hcz29_0 : w25.cell? ⟨gb452, 0, none⟩ = some (.int .i64 0) := (zKc BK452.out 0).trans rfl; have hcz29_1 : w25.cell? ⟨gb452, 1, none⟩ = some (.int .i64 0) := (zKc BK452.out 1).trans rfl; have hcz29_2 : w25.cell? ⟨gb452, 2, none⟩ = some (.int .i64 0) := (zKc BK452.out 2).trans rfl; have hfz29_0 := zKf BK452.out 0; have hfz29_1 := zKf BK452.out 1; have hfz29_2 := zKf BK452.out 2; have p453 : 0 ≤ (((rd_T36 l0_1 x6_1).f0) : Int) := of_decide_eq_true (by first | (with_reducible assumption)|  assumption); have q453 : ((rd_T36 l0_1 x6_1).f0) < (l1.length : Int) := of_decide_eq_true (by first | (with_reducible assumption)|  assumption); obtain ⟨ad453, e453, hx453_0⟩ := Kd.at_bool HR1.out ((rd_T36 l0_1 x6_1).f0) p453 q453; (try rw [← Nbq15.out] at hx453_0); (try rw [← Nbq19.out] at hx453_0); cases e453; have hn453_0 : ad453.block ≠ gb452 := Nat.ne_of_lt (Nat.lt_of_lt_of_le (by have := World.block_lt_of_cell? _ _ hx453_0; first |  rwa [add_block] at this|  exact this) GW452.out); have hn453_1 : ad453.block ≠ gb452 := Nat.ne_of_lt (Nat.lt_of_lt_of_le (by have := World.block_lt_of_cell? _ _ hx453_0; first |  rwa [add_block] at this|  exact this) GW452.out); have hn453_2 : ad453.block ≠ gb452 := Nat.ne_of_lt (Nat.lt_of_lt_of_le (by have := World.block_lt_of_cell? _ _ hx453_0; first |  rwa [add_block] at this|  exact this) GW452.out); replace hx453_0 := (HB.out.cell (World.block_lt_of_cell? w _ hx453_0)).trans hx453_0; replace hx453_0 := (cell_far (p := ⟨gb452, 0, none⟩) (by first | (rw [add_block]; exact hn453_0)|(show (Addr.add _ _).block ≠ _; rw [add_block]; exact hn453_0)|  exact hn453_0) (.int .i64 ((rd_T36 l0_1 x6_1).f0))).trans hx453_0; replace hx453_0 := (cell_far (p := ⟨gb452, 1, none⟩) (by first | (rw [add_block]; exact hn453_1)|(show (Addr.add _ _).block ≠ _; rw [add_block]; exact hn453_1)|  exact hn453_1) (.int .i64 ((rd_T36 l0_1 x6_1).f1))).trans hx453_0; replace hx453_0 := (cell_far (p := ⟨gb452, 2, none⟩) (by first | (rw [add_block]; exact hn453_2)|(show (Addr.add _ _).block ≠ _; rw [add_block]; exact hn453_2)|  exact hn453_2) (.int .i64 ((rd_T36 l0_1 x6_1).f2))).trans hx453_0; clear hn453_0 hn453_1 hn453_2; replace p453 := eq_true p453; replace q453 := eq_true q453; have p454 : 0 ≤ (((rd_T36 l0_1 x6_1).f1) : Int) := of_decide_eq_true (by first | (with_reducible assumption)|  assumption); have q454 : ((rd_T36 l0_1 x6_1).f1) < (l1.length : Int) := of_decide_eq_true (by first | (with_reducible assumption)|  assumption); obtain ⟨ad454, e454, hx454_0⟩ := Kd.at_bool HR1.out ((rd_T36 l0_1 x6_1).f1) p454 q454; (try rw [← Nbq15.out] at hx454_0); (try rw [← Nbq19.out] at hx454_0); obtain rfl : ad453 = ad454 := (by injection e454); have hn454_0 : ad453.block ≠ gb452 := Nat.ne_of_lt (Nat.lt_of_lt_of_le (by have := World.block_lt_of_cell? _ _ hx454_0; first |  rwa [add_block] at this|  exact this) GW452.out); have hn454_1 : ad453.block ≠ gb452 := Nat.ne_of_lt (Nat.lt_of_lt_of_le (by have := World.block_lt_of_cell? _ _ hx454_0; first |  rwa [add_block] at this|  exact this) GW452.out); have hn454_2 : ad453.block ≠ gb452 := Nat.ne_of_lt (Nat.lt_of_lt_of_le (by have := World.block_lt_of_cell? _ _ hx454_0; first |  rwa [add_block] at this|  exact this) GW452.out); replace hx454_0 := (HB.out.cell (World.block_lt_of_cell? w _ hx454_0)).trans hx454_0; replace hx454_0 := (cell_far (p := ⟨gb452, 0, none⟩) (by first | (rw [add_block]; exact hn454_0)|(show (Addr.add _ _).block ≠ _; rw [add_block]; exact hn454_0)|  exact hn454_0) (.int .i64 ((rd_T36 l0_1 x6_1).f0))).trans hx454_0; replace hx454_0 := (cell_far (p := ⟨gb452, 1, none⟩) (by first | (rw [add_block]; exact hn454_1)|(show (Addr.add _ _).block ≠ _; rw [add_block]; exact hn454_1)|  exact hn454_1) (.int .i64 ((rd_T36 l0_1 x6_1).f1))).trans hx454_0; replace hx454_0 := (cell_far (p := ⟨gb452, 2, none⟩) (by first | (rw [add_block]; exact hn454_2)|(show (Addr.add _ _).block ≠ _; rw [add_block]; exact hn454_2)|  exact hn454_2) (.int .i64 ((rd_T36 l0_1 x6_1).f2))).trans hx454_0; clear hn454_0 hn454_1 hn454_2; replace p454 := eq_true p454; replace q454 := eq_true q454; have hnb30 := NB450_449.out; have hnc30 := NB449_450.out; have hcz31_0 : w25.cell? ⟨gb450, 0, none⟩ = some (.int .i64 a0_0) := (zKc BK450.out 0).trans rfl; have hcz31_1 : w25.cell? ⟨gb450, 1, none⟩ = some (u451001) := (zKc BK450.out 1).trans rfl; have hfz31_0 := zKf BK450.out 0; have hfz31_1 := zKf BK450.out 1)|((with_reducible refine gate_builtin (b := .append) (xs := #[.tmp 50, .tmp 52]) rfl ?_); (try (refine gate_guard (by rfl) ?_; dsimp only)); at_builtin; refine Kd.R_append k36 (w0 := w) w.heap.size rfl (.tmp 50) (.tmp 52) 22 36 (.agg #[(.int .i64 0), (.int .i64 0), (.int .i64 0)]) 24 rfl Try.underlying22 info36 rfl (by decide) (by omega) u451001 x451001_1 (⟨(rd_T36 l0_1 x6_1).f0, (rd_T36 l0_1 x6_1).f1, (rd_T36 l0_1 x6_1).f2⟩ : S36) [.int .i64 ((rd_T36 l0_1 x6_1).f0), .int .i64 ((rd_T36 l0_1 x6_1).f1), .int .i64 ((rd_T36 l0_1 x6_1).f2)] (fun k_ => k_ ≠ gb452) (fun _ => False) rfl (by first | (go_simp; done)|(go_simp; rfl)) ?aP (fun _ hk => hk.elim) ?aF ?aO ?aB ?aS ?aL ?_; (case aP => exact k36_mkM _ _ _ (⟨(rd_T36 l0_1 x6_1).f0, (rd_T36 l0_1 x6_1).f1, (rd_T36 l0_1 x6_1).f2⟩ : S36)); (case aB => exact (by exact uT HB.out)); (case aF => exact (fun k_ hk => Kd.freshB (g := gb452) (o := .cells #[.int .i64 ((rd_T36 l0_1 x6_1).f0), .int .i64 ((rd_T36 l0_1 x6_1).f1), .int .i64 ((rd_T36 l0_1 x6_1).f2)] 36 (0, 0)) (by (with_reducible repeat (first |  refine zKn ?_ _|  refine zKd ?_|  refine zKa ?_ _)); refine blk_put (cs := #[.int .i64 ((rd_T36 l0_1 x6_1).f0), .int .i64 ((rd_T36 l0_1 x6_1).f1), .int .i64 0]) ?_ 2 _ rfl; (with_reducible repeat (first |  refine zKn ?_ _|  refine zKd ?_|  refine zKa ?_ _)); refine blk_put (cs := #[.int .i64 ((rd_T36 l0_1 x6_1).f0), .int .i64 0, .int .i64 0]) ?_ 1 _ rfl; (with_reducible repeat (first |  refine zKn ?_ _|  refine zKd ?_|  refine zKa ?_ _)); refine blk_put (cs := #[.int .i64 0, .int .i64 0, .int .i64 0]) ?_ 0 _ rfl; (with_reducible repeat (first |  refine zKn ?_ _|  refine zKd ?_|  refine zKa ?_ _)); exact BK452.out) k_ hk)); (case aO => exact (by (with_reducible repeat (first |  apply zRa|  apply zRn|  apply zRd)); exact zRm (Kd.R_far (p := ⟨gb452, 2, none⟩) (Kd.R_far (p := ⟨gb452, 1, none⟩) (Kd.R_far (p := ⟨gb452, 0, none⟩) (zRm HO_451001.out (fun k_ hk => (⟨hk, hk.2⟩ : _ ∧ k_ ≠ gb452))) (fun _ hk => hk.2) (.int .i64 ((rd_T36 l0_1 x6_1).f0))) (fun _ hk => hk.2) (.int .i64 ((rd_T36 l0_1 x6_1).f1))) (fun _ hk => hk.2) (.int .i64 ((rd_T36 l0_1 x6_1).f2))) (fun _ hk => hk.1.2))); (case aS => exact (zBs (by exact uT HB.out))); (case aL => have := LMc21.out; omega); intro v456 w32 ho hb hg hat; rw [← Ny455.out] at ho; replace BK448 := zMk (blk_grown (g := gb448) (o := .cells #[.int .i64 a0_0, .slice (some ad451) l0_1.length c0_1] 24 (0, 0)) (by (with_reducible repeat (first |  refine zKn ?_ _|  refine zKd ?_|  refine zKa ?_ _)); refine blk_far ?_ NB448_452.out _; (with_reducible repeat (first |  refine zKn ?_ _|  refine zKd ?_|  refine zKa ?_ _)); refine blk_far ?_ NB448_452.out _; (with_reducible repeat (first |  refine zKn ?_ _|  refine zKd ?_|  refine zKa ?_ _)); refine blk_far ?_ NB448_452.out _; (with_reducible repeat (first |  refine zKn ?_ _|  refine zKd ?_|  refine zKa ?_ _)); exact BK448.out) hg (Kd.R_ne HO_451001.out BK448.out (by decide))); replace BK449 := zMk (blk_grown (g := gb449) (o := .cells #[.int .i64 0, .slice none 0 0] 24 (0, 0)) (by (with_reducible repeat (first |  refine zKn ?_ _|  refine zKd ?_|  refine zKa ?_ _)); refine blk_far ?_ NB449_452.out _; (with_reducible repeat (first |  refine zKn ?_ _|  refine zKd ?_|  refine zKa ?_ _)); refine blk_far ?_ NB449_452.out _; (with_reducible repeat (first |  refine zKn ?_ _|  refine zKd ?_|  refine zKa ?_ _)); refine blk_far ?_ NB449_452.out _; (with_reducible repeat (first |  refine zKn ?_ _|  refine zKd ?_|  refine zKa ?_ _)); exact BK449.out) hg (Kd.R_ne HO_451001.out BK449.out (by decide))); replace BK450 := zMk (blk_grown (g := gb450) (o := .cells #[.int .i64 a0_0, u451001] 24 (0, 0)) (by (with_reducible repeat (first |  refine zKn ?_ _|  refine zKd ?_|  refine zKa ?_ _)); refine blk_far ?_ NB450_452.out _; (with_reducible repeat (first |  refine zKn ?_ _|  refine zKd ?_|  refine zKa ?_ _)); refine blk_far ?_ NB450_452.out _; (with_reducible repeat (first |  refine zKn ?_ _|  refine zKd ?_|  refine zKa ?_ _)); refine blk_far ?_ NB450_452.out _; (with_reducible repeat (first |  refine zKn ?_ _|  refine zKd ?_|  refine zKa ?_ _)); exact BK450.out) hg (Kd.R_ne HO_451001.out BK450.out (by decide))); replace BK452 := zMk (blk_grown (g := gb452) (o := .cells #[.int .i64 ((rd_T36 l0_1 x6_1).f0), .int .i64 ((rd_T36 l0_1 x6_1).f1), .int .i64 ((rd_T36 l0_1 x6_1).f2)] 36 (0, 0)) (by (with_reducible repeat (first |  refine zKn ?_ _|  refine zKd ?_|  refine zKa ?_ _)); refine blk_put (cs := #[.int .i64 ((rd_T36 l0_1 x6_1).f0), .int .i64 ((rd_T36 l0_1 x6_1).f1), .int .i64 0]) ?_ 2 _ rfl; (with_reducible repeat (first |  refine zKn ?_ _|  refine zKd ?_|  refine zKa ?_ _)); refine blk_put (cs := #[.int .i64 ((rd_T36 l0_1 x6_1).f0), .int .i64 0, .int .i64 0]) ?_ 1 _ rfl; (with_reducible repeat (first |  refine zKn ?_ _|  refine zKd ?_|  refine zKa ?_ _)); refine blk_put (cs := #[.int .i64 0, .int .i64 0, .int .i64 0]) ?_ 0 _ rfl; (with_reducible repeat (first |  refine zKn ?_ _|  refine zKd ?_|  refine zKa ?_ _)); exact BK452.out) hg (Kd.R_away HO_451001.out (fun _ hk => hk.2))); replace HB := zMk (hb); have HO457 := zMk (ho); clear HO_451001 ho hb hg hat; obtain ⟨Ao33, co33, eo33⟩ := zRs HO457.out; subst eo33; have hcz34_0 : w32.cell? ⟨gb450, 0, none⟩ = some (.int .i64 a0_0) := (zKc BK450.out 0).trans rfl; have hcz34_1 : w32.cell? ⟨gb450, 1, none⟩ = some (u451001) := (zKc BK450.out 1).trans rfl; have hfz34_0 := zKf BK450.out 0; have hfz34_1 := zKf BK450.out 1))
            go_roundg k1
            case measure => have := HK1.out; omega
            case rel => exact ⟨(wrap64 (x6_1 + 1)), (y455), (.slice Ao33 y455.length co33), (by first | rfl | (simp; done) | (simp [*]; done)), H', ⟨by have := HK1.out; omega⟩, ⟨by (with_reducible repeat (first | apply zRa | apply zRn | apply zRd)); exact zRm (Kd.R_far (p := ⟨gb450, 1, none⟩) (Kd.R_types HO457.out BK450.out (by decide)) (fun _ hk => hk.2) (.slice Ao33 y455.length co33)) (fun _ hk => trivial)⟩, ⟨by (with_reducible repeat (first | refine zKn ?_ _ | refine zKd ?_ | refine zKa ?_ _)); refine blk_far ?_ NB448_450.out _; (with_reducible repeat (first | refine zKn ?_ _ | refine zKd ?_ | refine zKa ?_ _)); exact BK448.out⟩, ⟨by (with_reducible repeat (first | refine zKn ?_ _ | refine zKd ?_ | refine zKa ?_ _)); refine blk_far ?_ NB449_450.out _; (with_reducible repeat (first | refine zKn ?_ _ | refine zKd ?_ | refine zKa ?_ _)); exact BK449.out⟩, ⟨by (with_reducible repeat (first | refine zKn ?_ _ | refine zKd ?_ | refine zKa ?_ _)); refine blk_put (cs := #[.int .i64 a0_0, u451001]) ?_ 1 _ rfl; (with_reducible repeat (first | refine zKn ?_ _ | refine zKd ?_ | refine zKa ?_ _)); exact BK450.out⟩, ⟨by exact uT HB.out⟩⟩
          · replace c20 := Bool.eq_false_iff.mpr c20
            subst c20
            replace H : (filigreeref04_Only.l0 k1 l1 (wrap64 (x6_1 + 1)) a0_0 l0_1 a0_0 x451001_1) = some (r1, r2) := by rw [if_neg (show ¬ (false = true) by decide)] at H; exact H
            have H' := zMk H
            clear H
            have hnb35 := NB448_449.out
            have hnc35 := NB449_448.out
            have hnb36 := NB448_450.out
            have hnc36 := NB450_448.out
            have hcz37_0 : wr.cell? ⟨gb448, 0, none⟩ = some (.int .i64 a0_0) := (zKc BK448.out 0).trans rfl
            have hcz37_1 : wr.cell? ⟨gb448, 1, none⟩ = some (.slice A0_1 l0_1.length c0_1) := (zKc BK448.out 1).trans rfl
            have hfz37_0 := zKf BK448.out 0
            have hfz37_1 := zKf BK448.out 1
            have p451 : 0 ≤ (x6_1 : Int) := of_decide_eq_true (by assumption)
            have q451 : x6_1 < (l0_1.length : Int) := of_decide_eq_true (by assumption)
            obtain ⟨ad451, e451, hx451_0, hx451_1, hx451_2⟩ := at_T36 HR0_1.out x6_1 p451 q451
            cases e451
            replace hx451_0 := (HB.out.cell (World.block_lt_of_cell? w _ hx451_0)).trans hx451_0
            replace hx451_1 := (HB.out.cell (World.block_lt_of_cell? w _ hx451_1)).trans hx451_1
            replace hx451_2 := (HB.out.cell (World.block_lt_of_cell? w _ hx451_2)).trans hx451_2
            replace p451 := eq_true p451
            replace q451 := eq_true q451
            go_wp2_with (first | ((with_reducible refine gate_dst (N := 7) rfl ?_); (try (refine gate_guard (by rfl) ?_; dsimp only)); refine box_event ?hg (N := 7) ?hd (cs := #[.int .i64 0, .int .i64 0, .int .i64 0]) (t := 36) ?hr ?_; (case hd => rfl); (case hg => rfl); (case hr => first | (go_simp; done)|(go_simp; rfl)|(go_simp; rw [show ∀ x : Int, IntKind.u32.wrap (IntKind.u8.wrap x) = x % 256 from fun x => (by show (x % 256) % 4294967296 = x % 256; omega)])); intro gb452 hg w38 hbox hb; replace HO_451001 := zMk (zRb (Kd.R_elderB (by exact uR HO_451001.out) gb452 (Nat.le_of_eq hg.symm)) hb); have BK452 := zMk (hbox); have GW452 := zMk ((by rw [hg]; exact (zBs (by exact uT HB.out)) : w.heap.size ≤ gb452)); have GE452 := zMk ((by rw [hg]; exact (zBs (by exact uT HB.out)) : w.heap.size ≤ gb452)); have IGE452 := ownGe GE452.out; replace HB := zMk (zBt (by exact uT HB.out) hb); have NB448_452 := zMk ((by rw [hg]; exact Nat.ne_of_lt (blk_lt (g := gb448) (o := .cells #[.int .i64 a0_0, .slice (some ad451) l0_1.length c0_1] 24 (0, 0)) (by (with_reducible repeat (first |  refine zKn ?_ _|  refine zKd ?_|  refine zKa ?_ _)); exact BK448.out)) : gb448 ≠ gb452)); have NB452_448 := zMk ((by rw [hg]; exact Nat.ne_of_gt (blk_lt (g := gb448) (o := .cells #[.int .i64 a0_0, .slice (some ad451) l0_1.length c0_1] 24 (0, 0)) (by (with_reducible repeat (first |  refine zKn ?_ _|  refine zKd ?_|  refine zKa ?_ _)); exact BK448.out)) : gb452 ≠ gb448)); replace BK448 := zMk (zKb (g := gb448) (o := .cells #[.int .i64 a0_0, .slice (some ad451) l0_1.length c0_1] 24 (0, 0)) (by (with_reducible repeat (first |  refine zKn ?_ _|  refine zKd ?_|  refine zKa ?_ _)); exact BK448.out) hb); have NB449_452 := zMk ((by rw [hg]; exact Nat.ne_of_lt (blk_lt (g := gb449) (o := .cells #[.int .i64 0, .slice none 0 0] 24 (0, 0)) (by (with_reducible repeat (first |  refine zKn ?_ _|  refine zKd ?_|  refine zKa ?_ _)); exact BK449.out)) : gb449 ≠ gb452)); have NB452_449 := zMk ((by rw [hg]; exact Nat.ne_of_gt (blk_lt (g := gb449) (o := .cells #[.int .i64 0, .slice none 0 0] 24 (0, 0)) (by (with_reducible repeat (first |  refine zKn ?_ _|  refine zKd ?_|  refine zKa ?_ _)); exact BK449.out)) : gb452 ≠ gb449)); replace BK449 := zMk (zKb (g := gb449) (o := .cells #[.int .i64 0, .slice none 0 0] 24 (0, 0)) (by (with_reducible repeat (first |  refine zKn ?_ _|  refine zKd ?_|  refine zKa ?_ _)); exact BK449.out) hb); have NB450_452 := zMk ((by rw [hg]; exact Nat.ne_of_lt (blk_lt (g := gb450) (o := .cells #[.int .i64 a0_0, u451001] 24 (0, 0)) (by (with_reducible repeat (first |  refine zKn ?_ _|  refine zKd ?_|  refine zKa ?_ _)); exact BK450.out)) : gb450 ≠ gb452)); have NB452_450 := zMk ((by rw [hg]; exact Nat.ne_of_gt (blk_lt (g := gb450) (o := .cells #[.int .i64 a0_0, u451001] 24 (0, 0)) (by (with_reducible repeat (first |  refine zKn ?_ _|  refine zKd ?_|  refine zKa ?_ _)); exact BK450.out)) : gb452 ≠ gb450)); replace BK450 := zMk (zKb (g := gb450) (o := .cells #[.int .i64 a0_0, u451001] 24 (0, 0)) (by (with_reducible repeat (first |  refine zKn ?_ _|  refine zKd ?_|  refine zKa ?_ _)); exact BK450.out) hb); clear hb hbox hg; have hnb39 := NB452_448.out; have hnc39 := NB448_452.out; have hnb40 := NB452_449.out; have hnc40 := NB449_452.out; have hnb41 := NB452_450.out; have hnc41 := NB450_452.out; have hcz42_0 : w38.cell? ⟨gb452, 0, none⟩ = some (.int .i64 0) := (zKc BK452.out 0).trans rfl; have hcz42_1 : w38.cell? ⟨gb452, 1, none⟩ = some (.int .i64 0) := (zKc BK452.out 1).trans rfl; have hcz42_2 : w38.cell? ⟨gb452, 2, none⟩ = some (.int .i64 0) := (zKc BK452.out 2).trans rfl; have hfz42_0 := zKf BK452.out 0; have hfz42_1 := zKf BK452.out 1; have hfz42_2 := zKf BK452.out 2; have p453 : 0 ≤ (((rd_T36 l0_1 x6_1).f0) : Int) := of_decide_eq_true (by first | (with_reducible assumption)|  assumption); have q453 : ((rd_T36 l0_1 x6_1).f0) < (l1.length : Int) := of_decide_eq_true (by first | (with_reducible assumption)|  assumption); obtain ⟨ad453, e453, hx453_0⟩ := Kd.at_bool HR1.out ((rd_T36 l0_1 x6_1).f0) p453 q453; (try rw [← Nbq15.out] at hx453_0); (try rw [← Nbq19.out] at hx453_0); cases e453; have hn453_0 : ad453.block ≠ gb452 := Nat.ne_of_lt (Nat.lt_of_lt_of_le (by have := World.block_lt_of_cell? _ _ hx453_0; first |  rwa [add_block] at this|  exact this) GW452.out); have hn453_1 : ad453.block ≠ gb452 := Nat.ne_of_lt (Nat.lt_of_lt_of_le (by have := World.block_lt_of_cell? _ _ hx453_0; first |  rwa [add_block] at this|  exact this) GW452.out); have hn453_2 : ad453.block ≠ gb452 := Nat.ne_of_lt (Nat.lt_of_lt_of_le (by have := World.block_lt_of_cell? _ _ hx453_0; first |  rwa [add_block] at this|  exact this) GW452.out); replace hx453_0 := (HB.out.cell (World.block_lt_of_cell? w _ hx453_0)).trans hx453_0; replace hx453_0 := (cell_far (p := ⟨gb452, 0, none⟩) (by first | (rw [add_block]; exact hn453_0)|(show (Addr.add _ _).block ≠ _; rw [add_block]; exact hn453_0)|  exact hn453_0) (.int .i64 ((rd_T36 l0_1 x6_1).f0))).trans hx453_0; replace hx453_0 := (cell_far (p := ⟨gb452, 1, none⟩) (by first | (rw [add_block]; exact hn453_1)|(show (Addr.add _ _).block ≠ _; rw [add_block]; exact hn453_1)|  exact hn453_1) (.int .i64 ((rd_T36 l0_1 x6_1).f1))).trans hx453_0; replace hx453_0 := (cell_far (p := ⟨gb452, 2, none⟩) (by first | (rw [add_block]; exact hn453_2)|(show (Addr.add _ _).block ≠ _; rw [add_block]; exact hn453_2)|  exact hn453_2) (.int .i64 ((rd_T36 l0_1 x6_1).f2))).trans hx453_0; clear hn453_0 hn453_1 hn453_2; replace p453 := eq_true p453; replace q453 := eq_true q453; have p454 : 0 ≤ (((rd_T36 l0_1 x6_1).f1) : Int) := of_decide_eq_true (by first | (with_reducible assumption)|  assumption); have q454 : ((rd_T36 l0_1 x6_1).f1) < (l1.length : Int) := of_decide_eq_true (by first | (with_reducible assumption)|  assumption); obtain ⟨ad454, e454, hx454_0⟩ := Kd.at_bool HR1.out ((rd_T36 l0_1 x6_1).f1) p454 q454; (try rw [← Nbq15.out] at hx454_0); (try rw [← Nbq19.out] at hx454_0); obtain rfl : ad453 = ad454 := (by injection e454); have hn454_0 : ad453.block ≠ gb452 := Nat.ne_of_lt (Nat.lt_of_lt_of_le (by have := World.block_lt_of_cell? _ _ hx454_0; first |  rwa [add_block] at this|  exact this) GW452.out); have hn454_1 : ad453.block ≠ gb452 := Nat.ne_of_lt (Nat.lt_of_lt_of_le (by have := World.block_lt_of_cell? _ _ hx454_0; first |  rwa [add_block] at this|  exact this) GW452.out); have hn454_2 : ad453.block ≠ gb452 := Nat.ne_of_lt (Nat.lt_of_lt_of_le (by have := World.block_lt_of_cell? _ _ hx454_0; first |  rwa [add_block] at this|  exact this) GW452.out); replace hx454_0 := (HB.out.cell (World.block_lt_of_cell? w _ hx454_0)).trans hx454_0; replace hx454_0 := (cell_far (p := ⟨gb452, 0, none⟩) (by first | (rw [add_block]; exact hn454_0)|(show (Addr.add _ _).block ≠ _; rw [add_block]; exact hn454_0)|  exact hn454_0) (.int .i64 ((rd_T36 l0_1 x6_1).f0))).trans hx454_0; replace hx454_0 := (cell_far (p := ⟨gb452, 1, none⟩) (by first | (rw [add_block]; exact hn454_1)|(show (Addr.add _ _).block ≠ _; rw [add_block]; exact hn454_1)|  exact hn454_1) (.int .i64 ((rd_T36 l0_1 x6_1).f1))).trans hx454_0; replace hx454_0 := (cell_far (p := ⟨gb452, 2, none⟩) (by first | (rw [add_block]; exact hn454_2)|(show (Addr.add _ _).block ≠ _; rw [add_block]; exact hn454_2)|  exact hn454_2) (.int .i64 ((rd_T36 l0_1 x6_1).f2))).trans hx454_0; clear hn454_0 hn454_1 hn454_2; replace p454 := eq_true p454; replace q454 := eq_true q454))
            go_roundg k1
            case measure => have := HK1.out; omega
            case rel => exact ⟨(wrap64 (x6_1 + 1)), (x451001_1), (u451001), (by first | rfl | (simp; done) | (simp [*]; done)), H', ⟨by have := HK1.out; omega⟩, ⟨by (with_reducible repeat (first | apply zRa | apply zRn | apply zRd)); exact zRm (Kd.R_far (p := ⟨gb452, 2, none⟩) (Kd.R_far (p := ⟨gb452, 1, none⟩) (Kd.R_far (p := ⟨gb452, 0, none⟩) (zRm HO_451001.out (fun k_ hk => (⟨hk, hk.2⟩ : _ ∧ k_ ≠ gb452))) (fun _ hk => hk.2) (.int .i64 ((rd_T36 l0_1 x6_1).f0))) (fun _ hk => hk.2) (.int .i64 ((rd_T36 l0_1 x6_1).f1))) (fun _ hk => hk.2) (.int .i64 ((rd_T36 l0_1 x6_1).f2))) (fun _ hk => trivial)⟩, ⟨by (with_reducible repeat (first | refine zKn ?_ _ | refine zKd ?_ | refine zKa ?_ _)); refine blk_far ?_ NB448_452.out _; (with_reducible repeat (first | refine zKn ?_ _ | refine zKd ?_ | refine zKa ?_ _)); refine blk_far ?_ NB448_452.out _; (with_reducible repeat (first | refine zKn ?_ _ | refine zKd ?_ | refine zKa ?_ _)); refine blk_far ?_ NB448_452.out _; (with_reducible repeat (first | refine zKn ?_ _ | refine zKd ?_ | refine zKa ?_ _)); exact BK448.out⟩, ⟨by (with_reducible repeat (first | refine zKn ?_ _ | refine zKd ?_ | refine zKa ?_ _)); refine blk_far ?_ NB449_452.out _; (with_reducible repeat (first | refine zKn ?_ _ | refine zKd ?_ | refine zKa ?_ _)); refine blk_far ?_ NB449_452.out _; (with_reducible repeat (first | refine zKn ?_ _ | refine zKd ?_ | refine zKa ?_ _)); refine blk_far ?_ NB449_452.out _; (with_reducible repeat (first | refine zKn ?_ _ | refine zKd ?_ | refine zKa ?_ _)); exact BK449.out⟩, ⟨by (with_reducible repeat (first | refine zKn ?_ _ | refine zKd ?_ | refine zKa ?_ _)); refine blk_far ?_ NB450_452.out _; (with_reducible repeat (first | refine zKn ?_ _ | refine zKd ?_ | refine zKa ?_ _)); refine blk_far ?_ NB450_452.out _; (with_reducible repeat (first | refine zKn ?_ _ | refine zKd ?_ | refine zKa ?_ _)); refine blk_far ?_ NB450_452.out _; (with_reducible repeat (first | refine zKn ?_ _ | refine zKd ?_ | refine zKa ?_ _)); exact BK450.out⟩, ⟨by exact uT HB.out⟩⟩
        · rw [if_neg c17] at H
          have c17b0 : decide (((rd_T36 l0_1 x6_1).f1) < (l1.length : Int)) = false := decide_eq_false c17
          clear c17
          have H' := zMk H
          clear H
          have hnb43 := NB448_449.out
          have hnc43 := NB449_448.out
          have hnb44 := NB448_450.out
          have hnc44 := NB450_448.out
          have hcz45_0 : wr.cell? ⟨gb448, 0, none⟩ = some (.int .i64 a0_0) := (zKc BK448.out 0).trans rfl
          have hcz45_1 : wr.cell? ⟨gb448, 1, none⟩ = some (.slice A0_1 l0_1.length c0_1) := (zKc BK448.out 1).trans rfl
          have hfz45_0 := zKf BK448.out 0
          have hfz45_1 := zKf BK448.out 1
          have p451 : 0 ≤ (x6_1 : Int) := of_decide_eq_true (by assumption)
          have q451 : x6_1 < (l0_1.length : Int) := of_decide_eq_true (by assumption)
          obtain ⟨ad451, e451, hx451_0, hx451_1, hx451_2⟩ := at_T36 HR0_1.out x6_1 p451 q451
          cases e451
          replace hx451_0 := (HB.out.cell (World.block_lt_of_cell? w _ hx451_0)).trans hx451_0
          replace hx451_1 := (HB.out.cell (World.block_lt_of_cell? w _ hx451_1)).trans hx451_1
          replace hx451_2 := (HB.out.cell (World.block_lt_of_cell? w _ hx451_2)).trans hx451_2
          replace p451 := eq_true p451
          replace q451 := eq_true q451
          go_wp2_with (first | ((with_reducible refine gate_dst (N := 7) rfl ?_); (try (refine gate_guard (by rfl) ?_; dsimp only)); refine box_event ?hg (N := 7) ?hd (cs := #[.int .i64 0, .int .i64 0, .int .i64 0]) (t := 36) ?hr ?_; (case hd => rfl); (case hg => rfl); (case hr => first | (go_simp; done)|(go_simp; rfl)|(go_simp; rw [show ∀ x : Int, IntKind.u32.wrap (IntKind.u8.wrap x) = x % 256 from fun x => (by show (x % 256) % 4294967296 = x % 256; omega)])); intro gb452 hg w46 hbox hb; replace HO_451001 := zMk (zRb (Kd.R_elderB (by exact uR HO_451001.out) gb452 (Nat.le_of_eq hg.symm)) hb); have BK452 := zMk (hbox); have GW452 := zMk ((by rw [hg]; exact (zBs (by exact uT HB.out)) : w.heap.size ≤ gb452)); have GE452 := zMk ((by rw [hg]; exact (zBs (by exact uT HB.out)) : w.heap.size ≤ gb452)); have IGE452 := ownGe GE452.out; replace HB := zMk (zBt (by exact uT HB.out) hb); have NB448_452 := zMk ((by rw [hg]; exact Nat.ne_of_lt (blk_lt (g := gb448) (o := .cells #[.int .i64 a0_0, .slice (some ad451) l0_1.length c0_1] 24 (0, 0)) (by (with_reducible repeat (first |  refine zKn ?_ _|  refine zKd ?_|  refine zKa ?_ _)); exact BK448.out)) : gb448 ≠ gb452)); have NB452_448 := zMk ((by rw [hg]; exact Nat.ne_of_gt (blk_lt (g := gb448) (o := .cells #[.int .i64 a0_0, .slice (some ad451) l0_1.length c0_1] 24 (0, 0)) (by (with_reducible repeat (first |  refine zKn ?_ _|  refine zKd ?_|  refine zKa ?_ _)); exact BK448.out)) : gb452 ≠ gb448)); replace BK448 := zMk (zKb (g := gb448) (o := .cells #[.int .i64 a0_0, .slice (some ad451) l0_1.length c0_1] 24 (0, 0)) (by (with_reducible repeat (first |  refine zKn ?_ _|  refine zKd ?_|  refine zKa ?_ _)); exact BK448.out) hb); have NB449_452 := zMk ((by rw [hg]; exact Nat.ne_of_lt (blk_lt (g := gb449) (o := .cells #[.int .i64 0, .slice none 0 0] 24 (0, 0)) (by (with_reducible repeat (first |  refine zKn ?_ _|  refine zKd ?_|  refine zKa ?_ _)); exact BK449.out)) : gb449 ≠ gb452)); have NB452_449 := zMk ((by rw [hg]; exact Nat.ne_of_gt (blk_lt (g := gb449) (o := .cells #[.int .i64 0, .slice none 0 0] 24 (0, 0)) (by (with_reducible repeat (first |  refine zKn ?_ _|  refine zKd ?_|  refine zKa ?_ _)); exact BK449.out)) : gb452 ≠ gb449)); replace BK449 := zMk (zKb (g := gb449) (o := .cells #[.int .i64 0, .slice none 0 0] 24 (0, 0)) (by (with_reducible repeat (first |  refine zKn ?_ _|  refine zKd ?_|  refine zKa ?_ _)); exact BK449.out) hb); have NB450_452 := zMk ((by rw [hg]; exact Nat.ne_of_lt (blk_lt (g := gb450) (o := .cells #[.int .i64 a0_0, u451001] 24 (0, 0)) (by (with_reducible repeat (first |  refine zKn ?_ _|  refine zKd ?_|  refine zKa ?_ _)); exact BK450.out)) : gb450 ≠ gb452)); have NB452_450 := zMk ((by rw [hg]; exact Nat.ne_of_gt (blk_lt (g := gb450) (o := .cells #[.int .i64 a0_0, u451001] 24 (0, 0)) (by (with_reducible repeat (first |  refine zKn ?_ _|  refine zKd ?_|  refine zKa ?_ _)); exact BK450.out)) : gb452 ≠ gb450)); replace BK450 := zMk (zKb (g := gb450) (o := .cells #[.int .i64 a0_0, u451001] 24 (0, 0)) (by (with_reducible repeat (first |  refine zKn ?_ _|  refine zKd ?_|  refine zKa ?_ _)); exact BK450.out) hb); clear hb hbox hg; have hnb47 := NB452_448.out; have hnc47 := NB448_452.out; have hnb48 := NB452_449.out; have hnc48 := NB449_452.out; have hnb49 := NB452_450.out; have hnc49 := NB450_452.out; have hcz50_0 : w46.cell? ⟨gb452, 0, none⟩ = some (.int .i64 0) := (zKc BK452.out 0).trans rfl; have hcz50_1 : w46.cell? ⟨gb452, 1, none⟩ = some (.int .i64 0) := (zKc BK452.out 1).trans rfl; have hcz50_2 : w46.cell? ⟨gb452, 2, none⟩ = some (.int .i64 0) := (zKc BK452.out 2).trans rfl; have hfz50_0 := zKf BK452.out 0; have hfz50_1 := zKf BK452.out 1; have hfz50_2 := zKf BK452.out 2; have p453 : 0 ≤ (((rd_T36 l0_1 x6_1).f0) : Int) := of_decide_eq_true (by first | (with_reducible assumption)|  assumption); have q453 : ((rd_T36 l0_1 x6_1).f0) < (l1.length : Int) := of_decide_eq_true (by first | (with_reducible assumption)|  assumption); obtain ⟨ad453, e453, hx453_0⟩ := Kd.at_bool HR1.out ((rd_T36 l0_1 x6_1).f0) p453 q453; (try rw [← Nbq15.out] at hx453_0); cases e453; have hn453_0 : ad453.block ≠ gb452 := Nat.ne_of_lt (Nat.lt_of_lt_of_le (by have := World.block_lt_of_cell? _ _ hx453_0; first |  rwa [add_block] at this|  exact this) GW452.out); have hn453_1 : ad453.block ≠ gb452 := Nat.ne_of_lt (Nat.lt_of_lt_of_le (by have := World.block_lt_of_cell? _ _ hx453_0; first |  rwa [add_block] at this|  exact this) GW452.out); have hn453_2 : ad453.block ≠ gb452 := Nat.ne_of_lt (Nat.lt_of_lt_of_le (by have := World.block_lt_of_cell? _ _ hx453_0; first |  rwa [add_block] at this|  exact this) GW452.out); replace hx453_0 := (HB.out.cell (World.block_lt_of_cell? w _ hx453_0)).trans hx453_0; replace hx453_0 := (cell_far (p := ⟨gb452, 0, none⟩) (by first | (rw [add_block]; exact hn453_0)|(show (Addr.add _ _).block ≠ _; rw [add_block]; exact hn453_0)|  exact hn453_0) (.int .i64 ((rd_T36 l0_1 x6_1).f0))).trans hx453_0; replace hx453_0 := (cell_far (p := ⟨gb452, 1, none⟩) (by first | (rw [add_block]; exact hn453_1)|(show (Addr.add _ _).block ≠ _; rw [add_block]; exact hn453_1)|  exact hn453_1) (.int .i64 ((rd_T36 l0_1 x6_1).f1))).trans hx453_0; replace hx453_0 := (cell_far (p := ⟨gb452, 2, none⟩) (by first | (rw [add_block]; exact hn453_2)|(show (Addr.add _ _).block ≠ _; rw [add_block]; exact hn453_2)|  exact hn453_2) (.int .i64 ((rd_T36 l0_1 x6_1).f2))).trans hx453_0; clear hn453_0 hn453_1 hn453_2; replace p453 := eq_true p453; replace q453 := eq_true q453))
          go_roundg k1
          case measure => have := HK1.out; omega
          case rel => exact ⟨(wrap64 (x6_1 + 1)), (x451001_1), (u451001), (by first | rfl | (simp; done) | (simp [*]; done)), H', ⟨by have := HK1.out; omega⟩, ⟨by (with_reducible repeat (first | apply zRa | apply zRn | apply zRd)); exact zRm (Kd.R_far (p := ⟨gb452, 2, none⟩) (Kd.R_far (p := ⟨gb452, 1, none⟩) (Kd.R_far (p := ⟨gb452, 0, none⟩) (zRm HO_451001.out (fun k_ hk => (⟨hk, hk.2⟩ : _ ∧ k_ ≠ gb452))) (fun _ hk => hk.2) (.int .i64 ((rd_T36 l0_1 x6_1).f0))) (fun _ hk => hk.2) (.int .i64 ((rd_T36 l0_1 x6_1).f1))) (fun _ hk => hk.2) (.int .i64 ((rd_T36 l0_1 x6_1).f2))) (fun _ hk => trivial)⟩, ⟨by (with_reducible repeat (first | refine zKn ?_ _ | refine zKd ?_ | refine zKa ?_ _)); refine blk_far ?_ NB448_452.out _; (with_reducible repeat (first | refine zKn ?_ _ | refine zKd ?_ | refine zKa ?_ _)); refine blk_far ?_ NB448_452.out _; (with_reducible repeat (first | refine zKn ?_ _ | refine zKd ?_ | refine zKa ?_ _)); refine blk_far ?_ NB448_452.out _; (with_reducible repeat (first | refine zKn ?_ _ | refine zKd ?_ | refine zKa ?_ _)); exact BK448.out⟩, ⟨by (with_reducible repeat (first | refine zKn ?_ _ | refine zKd ?_ | refine zKa ?_ _)); refine blk_far ?_ NB449_452.out _; (with_reducible repeat (first | refine zKn ?_ _ | refine zKd ?_ | refine zKa ?_ _)); refine blk_far ?_ NB449_452.out _; (with_reducible repeat (first | refine zKn ?_ _ | refine zKd ?_ | refine zKa ?_ _)); refine blk_far ?_ NB449_452.out _; (with_reducible repeat (first | refine zKn ?_ _ | refine zKd ?_ | refine zKa ?_ _)); exact BK449.out⟩, ⟨by (with_reducible repeat (first | refine zKn ?_ _ | refine zKd ?_ | refine zKa ?_ _)); refine blk_far ?_ NB450_452.out _; (with_reducible repeat (first | refine zKn ?_ _ | refine zKd ?_ | refine zKa ?_ _)); refine blk_far ?_ NB450_452.out _; (with_reducible repeat (first | refine zKn ?_ _ | refine zKd ?_ | refine zKa ?_ _)); refine blk_far ?_ NB450_452.out _; (with_reducible repeat (first | refine zKn ?_ _ | refine zKd ?_ | refine zKa ?_ _)); exact BK450.out⟩, ⟨by exact uT HB.out⟩⟩
      · replace c16 := Bool.eq_false_iff.mpr c16
        subst c16
        replace H : (filigreeref04_Only.l0 k1 l1 (wrap64 (x6_1 + 1)) a0_0 l0_1 a0_0 x451001_1) = some (r1, r2) := by rw [if_neg (show ¬ (false = true) by decide)] at H; exact H
        have H' := zMk H
        clear H
        have hnb51 := NB448_449.out
        have hnc51 := NB449_448.out
        have hnb52 := NB448_450.out
        have hnc52 := NB450_448.out
        have hcz53_0 : wr.cell? ⟨gb448, 0, none⟩ = some (.int .i64 a0_0) := (zKc BK448.out 0).trans rfl
        have hcz53_1 : wr.cell? ⟨gb448, 1, none⟩ = some (.slice A0_1 l0_1.length c0_1) := (zKc BK448.out 1).trans rfl
        have hfz53_0 := zKf BK448.out 0
        have hfz53_1 := zKf BK448.out 1
        have p451 : 0 ≤ (x6_1 : Int) := of_decide_eq_true (by assumption)
        have q451 : x6_1 < (l0_1.length : Int) := of_decide_eq_true (by assumption)
        obtain ⟨ad451, e451, hx451_0, hx451_1, hx451_2⟩ := at_T36 HR0_1.out x6_1 p451 q451
        cases e451
        replace hx451_0 := (HB.out.cell (World.block_lt_of_cell? w _ hx451_0)).trans hx451_0
        replace hx451_1 := (HB.out.cell (World.block_lt_of_cell? w _ hx451_1)).trans hx451_1
        replace hx451_2 := (HB.out.cell (World.block_lt_of_cell? w _ hx451_2)).trans hx451_2
        replace p451 := eq_true p451
        replace q451 := eq_true q451
        go_wp2_with (first | ((with_reducible refine gate_dst (N := 7) rfl ?_); (try (refine gate_guard (by rfl) ?_; dsimp only)); refine box_event ?hg (N := 7) ?hd (cs := #[.int .i64 0, .int .i64 0, .int .i64 0]) (t := 36) ?hr ?_; (case hd => rfl); (case hg => rfl); (case hr => first | (go_simp; done)|(go_simp; rfl)|(go_simp; rw [show ∀ x : Int, IntKind.u32.wrap (IntKind.u8.wrap x) = x % 256 from fun x => (by show (x % 256) % 4294967296 = x % 256; omega)])); intro gb452 hg w54 hbox hb; replace HO_451001 := zMk (zRb (Kd.R_elderB (by exact uR HO_451001.out) gb452 (Nat.le_of_eq hg.symm)) hb); have BK452 := zMk (hbox); have GW452 := zMk ((by rw [hg]; exact (zBs (by exact uT HB.out)) : w.heap.size ≤ gb452)); have GE452 := zMk ((by rw [hg]; exact (zBs (by exact uT HB.out)) : w.heap.size ≤ gb452)); have IGE452 := ownGe GE452.out; replace HB := zMk (zBt (by exact uT HB.out) hb); have NB448_452 := zMk ((by rw [hg]; exact Nat.ne_of_lt (blk_lt (g := gb448) (o := .cells #[.int .i64 a0_0, .slice (some ad451) l0_1.length c0_1] 24 (0, 0)) (by (with_reducible repeat (first |  refine zKn ?_ _|  refine zKd ?_|  refine zKa ?_ _)); exact BK448.out)) : gb448 ≠ gb452)); have NB452_448 := zMk ((by rw [hg]; exact Nat.ne_of_gt (blk_lt (g := gb448) (o := .cells #[.int .i64 a0_0, .slice (some ad451) l0_1.length c0_1] 24 (0, 0)) (by (with_reducible repeat (first |  refine zKn ?_ _|  refine zKd ?_|  refine zKa ?_ _)); exact BK448.out)) : gb452 ≠ gb448)); replace BK448 := zMk (zKb (g := gb448) (o := .cells #[.int .i64 a0_0, .slice (some ad451) l0_1.length c0_1] 24 (0, 0)) (by (with_reducible repeat (first |  refine zKn ?_ _|  refine zKd ?_|  refine zKa ?_ _)); exact BK448.out) hb); have NB449_452 := zMk ((by rw [hg]; exact Nat.ne_of_lt (blk_lt (g := gb449) (o := .cells #[.int .i64 0, .slice none 0 0] 24 (0, 0)) (by (with_reducible repeat (first |  refine zKn ?_ _|  refine zKd ?_|  refine zKa ?_ _)); exact BK449.out)) : gb449 ≠ gb452)); have NB452_449 := zMk ((by rw [hg]; exact Nat.ne_of_gt (blk_lt (g := gb449) (o := .cells #[.int .i64 0, .slice none 0 0] 24 (0, 0)) (by (with_reducible repeat (first |  refine zKn ?_ _|  refine zKd ?_|  refine zKa ?_ _)); exact BK449.out)) : gb452 ≠ gb449)); replace BK449 := zMk (zKb (g := gb449) (o := .cells #[.int .i64 0, .slice none 0 0] 24 (0, 0)) (by (with_reducible repeat (first |  refine zKn ?_ _|  refine zKd ?_|  refine zKa ?_ _)); exact BK449.out) hb); have NB450_452 := zMk ((by rw [hg]; exact Nat.ne_of_lt (blk_lt (g := gb450) (o := .cells #[.int .i64 a0_0, u451001] 24 (0, 0)) (by (with_reducible repeat (first |  refine zKn ?_ _|  refine zKd ?_|  refine zKa ?_ _)); exact BK450.out)) : gb450 ≠ gb452)); have NB452_450 := zMk ((by rw [hg]; exact Nat.ne_of_gt (blk_lt (g := gb450) (o := .cells #[.int .i64 a0_0, u451001] 24 (0, 0)) (by (with_reducible repeat (first |  refine zKn ?_ _|  refine zKd ?_|  refine zKa ?_ _)); exact BK450.out)) : gb452 ≠ gb450)); replace BK450 := zMk (zKb (g := gb450) (o := .cells #[.int .i64 a0_0, u451001] 24 (0, 0)) (by (with_reducible repeat (first |  refine zKn ?_ _|  refine zKd ?_|  refine zKa ?_ _)); exact BK450.out) hb); clear hb hbox hg; have hnb55 := NB452_448.out; have hnc55 := NB448_452.out; have hnb56 := NB452_449.out; have hnc56 := NB449_452.out; have hnb57 := NB452_450.out; have hnc57 := NB450_452.out; have hcz58_0 : w54.cell? ⟨gb452, 0, none⟩ = some (.int .i64 0) := (zKc BK452.out 0).trans rfl; have hcz58_1 : w54.cell? ⟨gb452, 1, none⟩ = some (.int .i64 0) := (zKc BK452.out 1).trans rfl; have hcz58_2 : w54.cell? ⟨gb452, 2, none⟩ = some (.int .i64 0) := (zKc BK452.out 2).trans rfl; have hfz58_0 := zKf BK452.out 0; have hfz58_1 := zKf BK452.out 1; have hfz58_2 := zKf BK452.out 2; have p453 : 0 ≤ (((rd_T36 l0_1 x6_1).f0) : Int) := of_decide_eq_true (by first | (with_reducible assumption)|  assumption); have q453 : ((rd_T36 l0_1 x6_1).f0) < (l1.length : Int) := of_decide_eq_true (by first | (with_reducible assumption)|  assumption); obtain ⟨ad453, e453, hx453_0⟩ := Kd.at_bool HR1.out ((rd_T36 l0_1 x6_1).f0) p453 q453; (try rw [← Nbq15.out] at hx453_0); cases e453; have hn453_0 : ad453.block ≠ gb452 := Nat.ne_of_lt (Nat.lt_of_lt_of_le (by have := World.block_lt_of_cell? _ _ hx453_0; first |  rwa [add_block] at this|  exact this) GW452.out); have hn453_1 : ad453.block ≠ gb452 := Nat.ne_of_lt (Nat.lt_of_lt_of_le (by have := World.block_lt_of_cell? _ _ hx453_0; first |  rwa [add_block] at this|  exact this) GW452.out); have hn453_2 : ad453.block ≠ gb452 := Nat.ne_of_lt (Nat.lt_of_lt_of_le (by have := World.block_lt_of_cell? _ _ hx453_0; first |  rwa [add_block] at this|  exact this) GW452.out); replace hx453_0 := (HB.out.cell (World.block_lt_of_cell? w _ hx453_0)).trans hx453_0; replace hx453_0 := (cell_far (p := ⟨gb452, 0, none⟩) (by first | (rw [add_block]; exact hn453_0)|(show (Addr.add _ _).block ≠ _; rw [add_block]; exact hn453_0)|  exact hn453_0) (.int .i64 ((rd_T36 l0_1 x6_1).f0))).trans hx453_0; replace hx453_0 := (cell_far (p := ⟨gb452, 1, none⟩) (by first | (rw [add_block]; exact hn453_1)|(show (Addr.add _ _).block ≠ _; rw [add_block]; exact hn453_1)|  exact hn453_1) (.int .i64 ((rd_T36 l0_1 x6_1).f1))).trans hx453_0; replace hx453_0 := (cell_far (p := ⟨gb452, 2, none⟩) (by first | (rw [add_block]; exact hn453_2)|(show (Addr.add _ _).block ≠ _; rw [add_block]; exact hn453_2)|  exact hn453_2) (.int .i64 ((rd_T36 l0_1 x6_1).f2))).trans hx453_0; clear hn453_0 hn453_1 hn453_2; replace p453 := eq_true p453; replace q453 := eq_true q453))
        go_roundg k1
        case measure => have := HK1.out; omega
        case rel => exact ⟨(wrap64 (x6_1 + 1)), (x451001_1), (u451001), (by first | rfl | (simp; done) | (simp [*]; done)), H', ⟨by have := HK1.out; omega⟩, ⟨by (with_reducible repeat (first | apply zRa | apply zRn | apply zRd)); exact zRm (Kd.R_far (p := ⟨gb452, 2, none⟩) (Kd.R_far (p := ⟨gb452, 1, none⟩) (Kd.R_far (p := ⟨gb452, 0, none⟩) (zRm HO_451001.out (fun k_ hk => (⟨hk, hk.2⟩ : _ ∧ k_ ≠ gb452))) (fun _ hk => hk.2) (.int .i64 ((rd_T36 l0_1 x6_1).f0))) (fun _ hk => hk.2) (.int .i64 ((rd_T36 l0_1 x6_1).f1))) (fun _ hk => hk.2) (.int .i64 ((rd_T36 l0_1 x6_1).f2))) (fun _ hk => trivial)⟩, ⟨by (with_reducible repeat (first | refine zKn ?_ _ | refine zKd ?_ | refine zKa ?_ _)); refine blk_far ?_ NB448_452.out _; (with_reducible repeat (first | refine zKn ?_ _ | refine zKd ?_ | refine zKa ?_ _)); refine blk_far ?_ NB448_452.out _; (with_reducible repeat (first | refine zKn ?_ _ | refine zKd ?_ | refine zKa ?_ _)); refine blk_far ?_ NB448_452.out _; (with_reducible repeat (first | refine zKn ?_ _ | refine zKd ?_ | refine zKa ?_ _)); exact BK448.out⟩, ⟨by (with_reducible repeat (first | refine zKn ?_ _ | refine zKd ?_ | refine zKa ?_ _)); refine blk_far ?_ NB449_452.out _; (with_reducible repeat (first | refine zKn ?_ _ | refine zKd ?_ | refine zKa ?_ _)); refine blk_far ?_ NB449_452.out _; (with_reducible repeat (first | refine zKn ?_ _ | refine zKd ?_ | refine zKa ?_ _)); refine blk_far ?_ NB449_452.out _; (with_reducible repeat (first | refine zKn ?_ _ | refine zKd ?_ | refine zKa ?_ _)); exact BK449.out⟩, ⟨by (with_reducible repeat (first | refine zKn ?_ _ | refine zKd ?_ | refine zKa ?_ _)); refine blk_far ?_ NB450_452.out _; (with_reducible repeat (first | refine zKn ?_ _ | refine zKd ?_ | refine zKa ?_ _)); refine blk_far ?_ NB450_452.out _; (with_reducible repeat (first | refine zKn ?_ _ | refine zKd ?_ | refine zKa ?_ _)); refine blk_far ?_ NB450_452.out _; (with_reducible repeat (first | refine zKn ?_ _ | refine zKd ?_ | refine zKa ?_ _)); exact BK450.out⟩, ⟨by exact uT HB.out⟩⟩
    · rw [if_neg c13] at H
      have c13b0 : decide (((rd_T36 l0_1 x6_1).f0) < (l1.length : Int)) = false := decide_eq_false c13
      clear c13
      have H' := zMk H
      clear H
      have hnb59 := NB448_449.out
      have hnc59 := NB449_448.out
      have hnb60 := NB448_450.out
      have hnc60 := NB450_448.out
      have hcz61_0 : wr.cell? ⟨gb448, 0, none⟩ = some (.int .i64 a0_0) := (zKc BK448.out 0).trans rfl
      have hcz61_1 : wr.cell? ⟨gb448, 1, none⟩ = some (.slice A0_1 l0_1.length c0_1) := (zKc BK448.out 1).trans rfl
      have hfz61_0 := zKf BK448.out 0
      have hfz61_1 := zKf BK448.out 1
      have p451 : 0 ≤ (x6_1 : Int) := of_decide_eq_true (by assumption)
      have q451 : x6_1 < (l0_1.length : Int) := of_decide_eq_true (by assumption)
      obtain ⟨ad451, e451, hx451_0, hx451_1, hx451_2⟩ := at_T36 HR0_1.out x6_1 p451 q451
      cases e451
      replace hx451_0 := (HB.out.cell (World.block_lt_of_cell? w _ hx451_0)).trans hx451_0
      replace hx451_1 := (HB.out.cell (World.block_lt_of_cell? w _ hx451_1)).trans hx451_1
      replace hx451_2 := (HB.out.cell (World.block_lt_of_cell? w _ hx451_2)).trans hx451_2
      replace p451 := eq_true p451
      replace q451 := eq_true q451
      go_wp2_with (first | ((with_reducible refine gate_dst (N := 7) rfl ?_); (try (refine gate_guard (by rfl) ?_; dsimp only)); refine box_event ?hg (N := 7) ?hd (cs := #[.int .i64 0, .int .i64 0, .int .i64 0]) (t := 36) ?hr ?_; (case hd => rfl); (case hg => rfl); (case hr => first | (go_simp; done)|(go_simp; rfl)|(go_simp; rw [show ∀ x : Int, IntKind.u32.wrap (IntKind.u8.wrap x) = x % 256 from fun x => (by show (x % 256) % 4294967296 = x % 256; omega)])); intro gb452 hg w62 hbox hb; replace HO_451001 := zMk (zRb (Kd.R_elderB (by exact uR HO_451001.out) gb452 (Nat.le_of_eq hg.symm)) hb); have BK452 := zMk (hbox); have GW452 := zMk ((by rw [hg]; exact (zBs (by exact uT HB.out)) : w.heap.size ≤ gb452)); have GE452 := zMk ((by rw [hg]; exact (zBs (by exact uT HB.out)) : w.heap.size ≤ gb452)); have IGE452 := ownGe GE452.out; replace HB := zMk (zBt (by exact uT HB.out) hb); have NB448_452 := zMk ((by rw [hg]; exact Nat.ne_of_lt (blk_lt (g := gb448) (o := .cells #[.int .i64 a0_0, .slice (some ad451) l0_1.length c0_1] 24 (0, 0)) (by (with_reducible repeat (first |  refine zKn ?_ _|  refine zKd ?_|  refine zKa ?_ _)); exact BK448.out)) : gb448 ≠ gb452)); have NB452_448 := zMk ((by rw [hg]; exact Nat.ne_of_gt (blk_lt (g := gb448) (o := .cells #[.int .i64 a0_0, .slice (some ad451) l0_1.length c0_1] 24 (0, 0)) (by (with_reducible repeat (first |  refine zKn ?_ _|  refine zKd ?_|  refine zKa ?_ _)); exact BK448.out)) : gb452 ≠ gb448)); replace BK448 := zMk (zKb (g := gb448) (o := .cells #[.int .i64 a0_0, .slice (some ad451) l0_1.length c0_1] 24 (0, 0)) (by (with_reducible repeat (first |  refine zKn ?_ _|  refine zKd ?_|  refine zKa ?_ _)); exact BK448.out) hb); have NB449_452 := zMk ((by rw [hg]; exact Nat.ne_of_lt (blk_lt (g := gb449) (o := .cells #[.int .i64 0, .slice none 0 0] 24 (0, 0)) (by (with_reducible repeat (first |  refine zKn ?_ _|  refine zKd ?_|  refine zKa ?_ _)); exact BK449.out)) : gb449 ≠ gb452)); have NB452_449 := zMk ((by rw [hg]; exact Nat.ne_of_gt (blk_lt (g := gb449) (o := .cells #[.int .i64 0, .slice none 0 0] 24 (0, 0)) (by (with_reducible repeat (first |  refine zKn ?_ _|  refine zKd ?_|  refine zKa ?_ _)); exact BK449.out)) : gb452 ≠ gb449)); replace BK449 := zMk (zKb (g := gb449) (o := .cells #[.int .i64 0, .slice none 0 0] 24 (0, 0)) (by (with_reducible repeat (first |  refine zKn ?_ _|  refine zKd ?_|  refine zKa ?_ _)); exact BK449.out) hb); have NB450_452 := zMk ((by rw [hg]; exact Nat.ne_of_lt (blk_lt (g := gb450) (o := .cells #[.int .i64 a0_0, u451001] 24 (0, 0)) (by (with_reducible repeat (first |  refine zKn ?_ _|  refine zKd ?_|  refine zKa ?_ _)); exact BK450.out)) : gb450 ≠ gb452)); have NB452_450 := zMk ((by rw [hg]; exact Nat.ne_of_gt (blk_lt (g := gb450) (o := .cells #[.int .i64 a0_0, u451001] 24 (0, 0)) (by (with_reducible repeat (first |  refine zKn ?_ _|  refine zKd ?_|  refine zKa ?_ _)); exact BK450.out)) : gb452 ≠ gb450)); replace BK450 := zMk (zKb (g := gb450) (o := .cells #[.int .i64 a0_0, u451001] 24 (0, 0)) (by (with_reducible repeat (first |  refine zKn ?_ _|  refine zKd ?_|  refine zKa ?_ _)); exact BK450.out) hb); clear hb hbox hg; have hnb63 := NB452_448.out; have hnc63 := NB448_452.out; have hnb64 := NB452_449.out; have hnc64 := NB449_452.out; have hnb65 := NB452_450.out; have hnc65 := NB450_452.out; have hcz66_0 : w62.cell? ⟨gb452, 0, none⟩ = some (.int .i64 0) := (zKc BK452.out 0).trans rfl; have hcz66_1 : w62.cell? ⟨gb452, 1, none⟩ = some (.int .i64 0) := (zKc BK452.out 1).trans rfl; have hcz66_2 : w62.cell? ⟨gb452, 2, none⟩ = some (.int .i64 0) := (zKc BK452.out 2).trans rfl; have hfz66_0 := zKf BK452.out 0; have hfz66_1 := zKf BK452.out 1; have hfz66_2 := zKf BK452.out 2))
      go_roundg k1
      case measure => have := HK1.out; omega
      case rel => exact ⟨(wrap64 (x6_1 + 1)), (x451001_1), (u451001), (by first | rfl | (simp; done) | (simp [*]; done)), H', ⟨by have := HK1.out; omega⟩, ⟨by (with_reducible repeat (first | apply zRa | apply zRn | apply zRd)); exact zRm (Kd.R_far (p := ⟨gb452, 2, none⟩) (Kd.R_far (p := ⟨gb452, 1, none⟩) (Kd.R_far (p := ⟨gb452, 0, none⟩) (zRm HO_451001.out (fun k_ hk => (⟨hk, hk.2⟩ : _ ∧ k_ ≠ gb452))) (fun _ hk => hk.2) (.int .i64 ((rd_T36 l0_1 x6_1).f0))) (fun _ hk => hk.2) (.int .i64 ((rd_T36 l0_1 x6_1).f1))) (fun _ hk => hk.2) (.int .i64 ((rd_T36 l0_1 x6_1).f2))) (fun _ hk => trivial)⟩, ⟨by (with_reducible repeat (first | refine zKn ?_ _ | refine zKd ?_ | refine zKa ?_ _)); refine blk_far ?_ NB448_452.out _; (with_reducible repeat (first | refine zKn ?_ _ | refine zKd ?_ | refine zKa ?_ _)); refine blk_far ?_ NB448_452.out _; (with_reducible repeat (first | refine zKn ?_ _ | refine zKd ?_ | refine zKa ?_ _)); refine blk_far ?_ NB448_452.out _; (with_reducible repeat (first | refine zKn ?_ _ | refine zKd ?_ | refine zKa ?_ _)); exact BK448.out⟩, ⟨by (with_reducible repeat (first | refine zKn ?_ _ | refine zKd ?_ | refine zKa ?_ _)); refine blk_far ?_ NB449_452.out _; (with_reducible repeat (first | refine zKn ?_ _ | refine zKd ?_ | refine zKa ?_ _)); refine blk_far ?_ NB449_452.out _; (with_reducible repeat (first | refine zKn ?_ _ | refine zKd ?_ | refine zKa ?_ _)); refine blk_far ?_ NB449_452.out _; (with_reducible repeat (first | refine zKn ?_ _ | refine zKd ?_ | refine zKa ?_ _)); exact BK449.out⟩, ⟨by (with_reducible repeat (first | refine zKn ?_ _ | refine zKd ?_ | refine zKa ?_ _)); refine blk_far ?_ NB450_452.out _; (with_reducible repeat (first | refine zKn ?_ _ | refine zKd ?_ | refine zKa ?_ _)); refine blk_far ?_ NB450_452.out _; (with_reducible repeat (first | refine zKn ?_ _ | refine zKd ?_ | refine zKa ?_ _)); refine blk_far ?_ NB450_452.out _; (with_reducible repeat (first | refine zKn ?_ _ | refine zKd ?_ | refine zKa ?_ _)); exact BK450.out⟩, ⟨by exact uT HB.out⟩⟩
  · rw [if_neg c11] at H
    have c11b0 : decide (x6_1 < (l0_1.length : Int)) = false := decide_eq_false c11
    clear c11
    simp only [Option.some.injEq, Prod.mk.injEq] at H
    obtain ⟨rfl, rfl⟩ := H
    have hnb67 := NB448_449.out
    have hnc67 := NB449_448.out
    have hnb68 := NB448_450.out
    have hnc68 := NB450_448.out
    have hcz69_0 : wr.cell? ⟨gb448, 0, none⟩ = some (.int .i64 a0_0) := (zKc BK448.out 0).trans rfl
    have hcz69_1 : wr.cell? ⟨gb448, 1, none⟩ = some (.slice A0_1 l0_1.length c0_1) := (zKc BK448.out 1).trans rfl
    have hfz69_0 := zKf BK448.out 0
    have hfz69_1 := zKf BK448.out 1
    have hnb70 := NB450_449.out
    have hnc70 := NB449_450.out
    have hcz71_0 : wr.cell? ⟨gb450, 0, none⟩ = some (.int .i64 a0_0) := (zKc BK450.out 0).trans rfl
    have hcz71_1 : wr.cell? ⟨gb450, 1, none⟩ = some (u451001) := (zKc BK450.out 1).trans rfl
    have hfz71_0 := zKf BK450.out 0
    have hfz71_1 := zKf BK450.out 1
    have hcz72_0 : wr.cell? ⟨gb449, 0, none⟩ = some (.int .i64 0) := (zKc BK449.out 0).trans rfl
    have hcz72_1 : wr.cell? ⟨gb449, 1, none⟩ = some (.slice none 0 0) := (zKc BK449.out 1).trans rfl
    have hfz72_0 := zKf BK449.out 0
    have hfz72_1 := zKf BK449.out 1
    obtain ⟨Ao73, co73, eo73⟩ := zRs HO_451001.out
    subst eo73
    go_wp2
    refine bodyPost_ret (results_cell_row rfl _ _ gb449 24 #[.int .i64 a0_0, .slice Ao73 x451001_1.length co73] (0, 0) _ rfl (by (with_reducible repeat (first | refine zKn ?_ _ | refine zKd ?_ | refine zKa ?_ _)); refine blk_put (cs := #[.int .i64 a0_0, .slice none 0 0]) ?_ 1 _ rfl; (with_reducible repeat (first | refine zKn ?_ _ | refine zKd ?_ | refine zKa ?_ _)); refine blk_put (cs := #[.int .i64 0, .slice none 0 0]) ?_ 0 _ rfl; (with_reducible repeat (first | refine zKn ?_ _ | refine zKd ?_ | refine zKa ?_ _)); exact BK449.out) Try.underlying24 rfl (by kernel_rfl)) rfl ?_
    exact ⟨_, by first | rfl | (simp [errW_none, errW_some] <;> rfl) | (simp [*, errW_none, errW_some] <;> rfl), by (with_reducible repeat (first | apply zRa | apply zRn | apply zRd)); exact zRm (Kd.R_far (p := ⟨gb449, 1, none⟩) (Kd.R_far (p := ⟨gb449, 0, none⟩) (Kd.R_types HO_451001.out BK449.out (by decide)) (fun _ hk => hk.2) (.int .i64 a0_0)) (fun _ hk => hk.2) (.slice Ao73 x451001_1.length co73)) (fun _ hk => trivial), by exact uT HB.out⟩


def filigreeref04_Less.l0 : Nat → List Int → Int → Int → List (S36) → Int → List (S36) → Option (Int × (List (S36)))
  | 0, _, _, _, _, _, _ => none
  | k + 1, x1, x6, x459000, x459001, x461000, x461001 => if x6 < (x459001.length : Int) then ((filigreeref04_Has.f k x1 x6).bind fun t461 => (if t461 = true then (filigreeref04_Less.l0 k x1 (wrap64 (x6 + 1)) x459000 x459001 x461000 x461001) else (if 0 ≤ x6 then (if x461001.length < 5864062014805 then (filigreeref04_Less.l0 k x1 (wrap64 (x6 + 1)) x459000 x459001 x461000 (x461001 ++ [(⟨(rd_T36 x459001 x6).f0, (rd_T36 x459001 x6).f1, (rd_T36 x459001 x6).f2⟩ : S36)])) else (none)) else (none)))) else (some (x461000, x461001))
def filigreeref04_Less.f (k : Nat) (a0_0 : Int) (l0_1 : List (S36)) (l1 : List Int) : Option (Int × (List (S36))) := filigreeref04_Less.l0 k l1 0 a0_0 l0_1 a0_0 ([] : List (S36))
def filigreeref04_Less.T6 : Bool × List (List Nat × List Nat) := (true, [([], []), ([0], [0]), ([], []), ([2], [2]), ([], []), ([3, 4], [3, 4]), ([5], [5]), ([6], [6]), ([1, 7], [1, 7]), ([0, 1, 2, 3, 4, 5, 6, 7, 8], []), ([9, 8, 8, 0, 1, 2, 3, 4, 5, 6, 7, 8], [8, 9])])
def filigreeref04_Less.B6 : List Nat := [0, 1, 0, 4, 0, 28, 60, 124, 255, 511, 1023]
theorem filigreeref04_Less.tab6 : rtab .any (opsOf Try.f24 6) = filigreeref04_Less.T6 := by kernel_rfl
theorem filigreeref04_Less.bits6 : waitsOk filigreeref04_Less.T6.2 filigreeref04_Less.B6 = true := by kernel_rfl
theorem filigreeref04_Less.calls (k : Nat) (a0_0 : Int) (A0_1 : Option Addr) (c0_1 : Nat) (l0_1 : List (S36)) (A1 : Option Addr) (c1 : Nat) (l1 : List Int) (r1 : Int) (r2 : List (S36)) (w : World) (hr0_1 : Kd.C k36 w A0_1 l0_1.length l0_1) (hc0_1 : l0_1.length ≤ c0_1) (hr1 : Kd.C (Kd.int .i64) w A1 l1.length l1) (hc1 : l1.length ≤ c1) (h : filigreeref04_Less.f k a0_0 l0_1 l1 = some (r1, r2)) :
    Calls Try.prog 24 #[.agg #[.int .i64 a0_0, .slice A0_1 l0_1.length c0_1], .slice A1 l1.length c1] w fun e w' => ∃ v1_ : Value, e = .returned (.agg #[.int .i64 r1, v1_]) ∧ Kd.R k36 36 w' w.heap.size (fun _ => True) v1_ r2 ∧ Below w.heap.size w w' := by
  have hu24 := Try.underlying24
  have hu36 := Try.underlying36
  have HR0_1 := zMk hr0_1
  have HC0_1 := zMk hc0_1
  clear hr0_1 hc0_1
  have HR1 := zMk hr1
  have HC1 := zMk hc1
  clear hr1 hc1
  have HB := zMk (Below.refl w.heap.size w)
  have H : (filigreeref04_Less.l0 k l1 0 a0_0 l0_1 a0_0 ([] : List (S36))) = some (r1, r2) := h
  clear h
  have H' := zMk H
  clear H
  go_enter Try.func24, Try.ntmps24
  go_wp2_with (first | ((with_reducible refine gate_dst (N := 2) rfl ?_); refine box_event ?hg (N := 2) ?hd (cs := #[.int .i64 a0_0, .slice A0_1 l0_1.length c0_1]) (t := 24) ?hr ?_; (case hd => rfl); (case hg => rfl); (case hr => first | (go_simp; done)|(go_simp; rfl)|(go_simp; rw [show ∀ x : Int, IntKind.u32.wrap (IntKind.u8.wrap x) = x % 256 from fun x => (by show (x % 256) % 4294967296 = x % 256; omega)])); intro gb458 hg w3 hbox hb; have BK458 := zMk (hbox); have GW458 := zMk ((by rw [hg]; exact (zBs (by exact uT HB.out)) : w.heap.size ≤ gb458)); have GE458 := zMk ((by rw [hg]; exact (zBs (by exact uT HB.out)) : w.heap.size ≤ gb458)); have IGE458 := ownGe GE458.out; replace HB := zMk (zBt (by exact uT HB.out) hb); clear hb hbox hg)|((with_reducible refine gate_dst (N := 4) rfl ?_); refine box_event ?hg (N := 4) ?hd (cs := #[.int .i64 0, .slice none 0 0]) (t := 24) ?hr ?_; (case hd => rfl); (case hg => rfl); (case hr => first | (go_simp; done)|(go_simp; rfl)|(go_simp; rw [show ∀ x : Int, IntKind.u32.wrap (IntKind.u8.wrap x) = x % 256 from fun x => (by show (x % 256) % 4294967296 = x % 256; omega)])); intro gb459 hg w4 hbox hb; have BK459 := zMk (hbox); have GW459 := zMk ((by rw [hg]; exact (zBs (by exact uT HB.out)) : w.heap.size ≤ gb459)); have GE459 := zMk ((by rw [hg]; exact (zBs (by exact uT HB.out)) : w.heap.size ≤ gb459)); have IGE459 := ownGe GE459.out; replace HB := zMk (zBt (by exact uT HB.out) hb); have NB458_459 := zMk ((by rw [hg]; exact Nat.ne_of_lt (blk_lt (g := gb458) (o := .cells #[.int .i64 a0_0, .slice A0_1 l0_1.length c0_1] 24 (0, 0)) (by (with_reducible repeat (first |  refine zKn ?_ _|  refine zKd ?_|  refine zKa ?_ _)); exact BK458.out)) : gb458 ≠ gb459)); have NB459_458 := zMk ((by rw [hg]; exact Nat.ne_of_gt (blk_lt (g := gb458) (o := .cells #[.int .i64 a0_0, .slice A0_1 l0_1.length c0_1] 24 (0, 0)) (by (with_reducible repeat (first |  refine zKn ?_ _|  refine zKd ?_|  refine zKa ?_ _)); exact BK458.out)) : gb459 ≠ gb458)); replace BK458 := zMk (zKb (g := gb458) (o := .cells #[.int .i64 a0_0, .slice A0_1 l0_1.length c0_1] 24 (0, 0)) (by (with_reducible repeat (first |  refine zKn ?_ _|  refine zKd ?_|  refine zKa ?_ _)); exact BK458.out) hb); clear hb hbox hg; have hnb5 := NB458_459.out; have hnc5 := NB459_458.out; have hcz6_0 : w4.cell? ⟨gb458, 0, none⟩ = some (.int .i64 a0_0) := (zKc BK458.out 0).trans rfl; have hcz6_1 : w4.cell? ⟨gb458, 1, none⟩ = some (.slice A0_1 l0_1.length c0_1) := (zKc BK458.out 1).trans rfl; have hfz6_0 := zKf BK458.out 0; have hfz6_1 := zKf BK458.out 1)|((with_reducible refine gate_dst (N := 5) rfl ?_); refine box_event ?hg (N := 5) ?hd (cs := #[.int .i64 0, .slice none 0 0]) (t := 24) ?hr ?_; (case hd => rfl); (case hg => rfl); (case hr => first | (go_simp; done)|(go_simp; rfl)|(go_simp; rw [show ∀ x : Int, IntKind.u32.wrap (IntKind.u8.wrap x) = x % 256 from fun x => (by show (x % 256) % 4294967296 = x % 256; omega)])); intro gb460 hg w7 hbox hb; have BK460 := zMk (hbox); have GW460 := zMk ((by rw [hg]; exact (zBs (by exact uT HB.out)) : w.heap.size ≤ gb460)); have GE460 := zMk ((by rw [hg]; exact (zBs (by exact uT HB.out)) : w.heap.size ≤ gb460)); have IGE460 := ownGe GE460.out; replace HB := zMk (zBt (by exact uT HB.out) hb); have NB458_460 := zMk ((by rw [hg]; exact Nat.ne_of_lt (blk_lt (g := gb458) (o := .cells #[.int .i64 a0_0, .slice A0_1 l0_1.length c0_1] 24 (0, 0)) (by (with_reducible repeat (first |  refine zKn ?_ _|  refine zKd ?_|  refine zKa ?_ _)); exact BK458.out)) : gb458 ≠ gb460)); have NB460_458 := zMk ((by rw [hg]; exact Nat.ne_of_gt (blk_lt (g := gb458) (o := .cells #[.int .i64 a0_0, .slice A0_1 l0_1.length c0_1] 24 (0, 0)) (by (with_reducible repeat (first |  refine zKn ?_ _|  refine zKd ?_|  refine zKa ?_ _)); exact BK458.out)) : gb460 ≠ gb458)); replace BK458 := zMk (zKb (g := gb458) (o := .cells #[.int .i64 a0_0, .slice A0_1 l0_1.length c0_1] 24 (0, 0)) (by (with_reducible repeat (first |  refine zKn ?_ _|  refine zKd ?_|  refine zKa ?_ _)); exact BK458.out) hb); have NB459_460 := zMk ((by rw [hg]; exact Nat.ne_of_lt (blk_lt (g := gb459) (o := .cells #[.int .i64 0, .slice none 0 0] 24 (0, 0)) (by (with_reducible repeat (first |  refine zKn ?_ _|  refine zKd ?_|  refine zKa ?_ _)); exact BK459.out)) : gb459 ≠ gb460)); have NB460_459 := zMk ((by rw [hg]; exact Nat.ne_of_gt (blk_lt (g := gb459) (o := .cells #[.int .i64 0, .slice none 0 0] 24 (0, 0)) (by (with_reducible repeat (first |  refine zKn ?_ _|  refine zKd ?_|  refine zKa ?_ _)); exact BK459.out)) : gb460 ≠ gb459)); replace BK459 := zMk (zKb (g := gb459) (o := .cells #[.int .i64 0, .slice none 0 0] 24 (0, 0)) (by (with_reducible repeat (first |  refine zKn ?_ _|  refine zKd ?_|  refine zKa ?_ _)); exact BK459.out) hb); clear hb hbox hg; have hnb8 := NB460_458.out; have hnc8 := NB458_460.out; have hnb9 := NB460_459.out; have hnc9 := NB459_460.out; have hcz10_0 : w7.cell? ⟨gb460, 0, none⟩ = some (.int .i64 0) := (zKc BK460.out 0).trans rfl; have hcz10_1 : w7.cell? ⟨gb460, 1, none⟩ = some (.slice none 0 0) := (zKc BK460.out 1).trans rfl; have hfz10_0 := zKf BK460.out 0; have hfz10_1 := zKf BK460.out 1))
  go_loopg [6] k (fun kq v6 w' => ∃ (x6_1 : Int) (x461001_1 : List (S36)) (u461001 : Value), v6 = .int .i64 x6_1 ∧ Aside0 (filigreeref04_Less.l0 kq l1 x6_1 a0_0 l0_1 a0_0 x461001_1 = some (r1, r2)) ∧ Aside0 (kq ≤ k) ∧ Aside0 (Kd.R k36 36 w' w.heap.size (fun _ => True) u461001 x461001_1) ∧ Aside0 (w'.heap[gb458]? = some (.cells #[.int .i64 a0_0, (.slice A0_1 l0_1.length c0_1)] 24 (0, 0))) ∧ Aside0 (w'.heap[gb459]? = some (.cells #[.int .i64 0, (.slice none 0 0)] 24 (0, 0))) ∧ Aside0 (w'.heap[gb460]? = some (.cells #[.int .i64 a0_0, u461001] 24 (0, 0))) ∧ Aside0 (Below w.heap.size w w'))
  case atStart => exact ⟨(0), (([] : List (S36))), (.slice none 0 0), (by first | rfl | (simp; done) | (simp [*]; done)), H', ⟨Nat.le_refl _⟩, ⟨by first | exact Kd.R_nil _ _ _ _ _ | exact Kd.N_nil _ _ _ _ _ | exact Kd.V_nil _ _ _ _ _ | exact Kd.Q_nil _ _ _ _ _ | exact Kd.S_nil _ _ _ _ _⟩, ⟨by (with_reducible repeat (first | refine zKn ?_ _ | refine zKd ?_ | refine zKa ?_ _)); refine blk_far ?_ NB458_460.out _; (with_reducible repeat (first | refine zKn ?_ _ | refine zKd ?_ | refine zKa ?_ _)); refine blk_far ?_ NB458_460.out _; (with_reducible repeat (first | refine zKn ?_ _ | refine zKd ?_ | refine zKa ?_ _)); exact BK458.out⟩, ⟨by (with_reducible repeat (first | refine zKn ?_ _ | refine zKd ?_ | refine zKa ?_ _)); refine blk_far ?_ NB459_460.out _; (with_reducible repeat (first | refine zKn ?_ _ | refine zKd ?_ | refine zKa ?_ _)); refine blk_far ?_ NB459_460.out _; (with_reducible repeat (first | refine zKn ?_ _ | refine zKd ?_ | refine zKa ?_ _)); exact BK459.out⟩, ⟨by (with_reducible repeat (first | refine zKn ?_ _ | refine zKd ?_ | refine zKa ?_ _)); refine blk_put (cs := #[.int .i64 a0_0, .slice none 0 0]) ?_ 1 _ rfl; (with_reducible repeat (first | refine zKn ?_ _ | refine zKd ?_ | refine zKa ?_ _)); refine blk_put (cs := #[.int .i64 0, .slice none 0 0]) ?_ 0 _ rfl; (with_reducible repeat (first | refine zKn ?_ _ | refine zKd ?_ | refine zKa ?_ _)); exact BK460.out⟩, ⟨by exact uT HB.out⟩⟩
  clear H'
  obtain ⟨x6_1, x461001_1, u461001, rfl, HA, HK1, HO_461001, BK458, BK459, BK460, HB⟩ := hrel
  rcases gk with _ | k1
  · exact absurd HA.out (by simp [filigreeref04_Less.l0])
  have H := HA.out
  clear HA
  simp only [filigreeref04_Less.l0] at H
  by_cases c11 : x6_1 < (l0_1.length : Int)
  · rw [if_pos c11] at H
    have c11b0 : decide (x6_1 < (l0_1.length : Int)) = true := decide_eq_true c11
    clear c11
    replace H := bnd H
    obtain ⟨t461, A120, H⟩ := H
    have A12 := zMk A120
    clear A120
    by_cases c13 : t461 = true
    · subst c13
      replace H : (filigreeref04_Less.l0 k1 l1 (wrap64 (x6_1 + 1)) a0_0 l0_1 a0_0 x461001_1) = some (r1, r2) := by rw [if_pos rfl] at H; exact H
      have H' := zMk H
      clear H
      have hnb14 := NB458_459.out
      have hnc14 := NB459_458.out
      have hnb15 := NB458_460.out
      have hnc15 := NB460_458.out
      have hcz16_0 : wr.cell? ⟨gb458, 0, none⟩ = some (.int .i64 a0_0) := (zKc BK458.out 0).trans rfl
      have hcz16_1 : wr.cell? ⟨gb458, 1, none⟩ = some (.slice A0_1 l0_1.length c0_1) := (zKc BK458.out 1).trans rfl
      have hfz16_0 := zKf BK458.out 0
      have hfz16_1 := zKf BK458.out 1
      go_wp2_with (first | ((with_reducible refine gate_callee (f := 31) rfl ?_); refine goesL_ (some 19) rfl rfl Try.func31 (by kernel_rfl) rfl #[.slice A1 l1.length c1, .int .i64 x6_1] rfl (by (try simp only [zMa, zMc, zMn]); first | done | rfl | (simp only [zLd, zLt]; rfl)) ?_; (with_reducible refine (filigreeref04_Has.calls k1 _ _ l1 x6_1 true _ ?side1 ?side2 A12.out).mono ?_); (case side1 => repeat (first | exact (Kd.C_below HR1.out HB.out) | (with_reducible refine zCa ?_ _) | (with_reducible refine zCn ?_ _) | (with_reducible refine zCd ?_))); (case side2 => exact HC1.out); rintro e w' ⟨rfl, ⟨nd, rfl⟩⟩; refine ⟨_, rfl, ?_⟩))
      go_roundg k1
      case measure => have := HK1.out; omega
      case rel => exact ⟨(wrap64 (x6_1 + 1)), (x461001_1), (u461001), (by first | rfl | (simp; done) | (simp [*]; done)), H', ⟨by have := HK1.out; omega⟩, ⟨by exact uR HO_461001.out⟩, ⟨by (with_reducible repeat (first | refine zKn ?_ _ | refine zKd ?_ | refine zKa ?_ _)); exact BK458.out⟩, ⟨by (with_reducible repeat (first | refine zKn ?_ _ | refine zKd ?_ | refine zKa ?_ _)); exact BK459.out⟩, ⟨by (with_reducible repeat (first | refine zKn ?_ _ | refine zKd ?_ | refine zKa ?_ _)); exact BK460.out⟩, ⟨by exact uT HB.out⟩⟩
    · replace c13 := Bool.eq_false_iff.mpr c13
      subst c13
      replace H : (if 0 ≤ x6_1 then (if x461001_1.length < 5864062014805 then (filigreeref04_Less.l0 k1 l1 (wrap64 (x6_1 + 1)) a0_0 l0_1 a0_0 (x461001_1 ++ [(⟨(rd_T36 l0_1 x6_1).f0, (rd_T36 l0_1 x6_1).f1, (rd_T36 l0_1 x6_1).f2⟩ : S36)])) else (none)) else (none)) = some (r1, r2) := by rw [if_neg (show ¬ (false = true) by decide)] at H; exact H
      by_cases c17 : 0 ≤ x6_1
      rotate_left
      · rw [if_neg c17] at H; exact absurd H (by simp)
      rw [if_pos c17] at H
      have c17b0 : decide (0 ≤ x6_1) = true := decide_eq_true c17
      clear c17
      by_cases c18 : x461001_1.length < 5864062014805
      rotate_left
      · rw [if_neg c18] at H; exact absurd H (by simp)
      rw [if_pos c18] at H
      have LMc18 := zMk c18
      clear c18
      obtain ⟨y463, hy463⟩ : ∃ y_ : List (S36), y_ = (x461001_1 ++ [(⟨(rd_T36 l0_1 x6_1).f0, (rd_T36 l0_1 x6_1).f1, (rd_T36 l0_1 x6_1).f2⟩ : S36)]) := ⟨_, rfl⟩
      replace H : (filigreeref04_Less.l0 k1 l1 (wrap64 (x6_1 + 1)) a0_0 l0_1 a0_0 y463) = some (r1, r2) := by first | (rw [hy463]; with_reducible exact H) | (have H2_ := bsm H; first | (rw [hy463]; with_reducible exact H2_) | with_reducible exact H2_) | with_reducible exact H | (rw [hy463]; exact H) | exact H
      have Ny463 := zMk hy463
      clear hy463
      have H' := zMk H
      clear H
      have hnb19 := NB458_459.out
      have hnc19 := NB459_458.out
      have hnb20 := NB458_460.out
      have hnc20 := NB460_458.out
      have hcz21_0 : wr.cell? ⟨gb458, 0, none⟩ = some (.int .i64 a0_0) := (zKc BK458.out 0).trans rfl
      have hcz21_1 : wr.cell? ⟨gb458, 1, none⟩ = some (.slice A0_1 l0_1.length c0_1) := (zKc BK458.out 1).trans rfl
      have hfz21_0 := zKf BK458.out 0
      have hfz21_1 := zKf BK458.out 1
      try go_wp2_with (first | ((with_reducible refine gate_callee (f := 31) rfl ?_); refine goesL_ (some 19) rfl rfl Try.func31 (by kernel_rfl) rfl #[.slice A1 l1.length c1, .int .i64 x6_1] rfl (by (try simp only [zMa, zMc, zMn]); first |  done|  rfl|  (simp only [zLd, zLt]; rfl)) ?_; (with_reducible refine (filigreeref04_Has.calls k1 _ _ l1 x6_1 false _ ?side1 ?side2 A12.out).mono ?_); (case side1 => repeat (first |  exact (Kd.C_below HR1.out HB.out)|(with_reducible refine zCa ?_ _)|(with_reducible refine zCn ?_ _)|(with_reducible refine zCd ?_))); (case side2 => exact HC1.out); rintro e w' ⟨rfl, ⟨nd, rfl⟩⟩; refine ⟨_, rfl, ?_⟩; (try (rw [drewN_self wr]; generalize hq_ : World.drewN wr _ = wr; have n0_ : Aside0 (Kd.R k36 36 wr w.heap.size (fun _ => True) u461001 x461001_1) := ⟨by rw [← hq_]; exact (by exact uR HO_461001.out)⟩; have n1_ : Aside0 (wr.heap[gb458]? = some (.cells #[.int .i64 a0_0, .slice A0_1 l0_1.length c0_1] 24 (0, 0))) := ⟨by rw [← hq_]; exact (by (with_reducible repeat (first |  refine zKn ?_ _|  refine zKd ?_|  refine zKa ?_ _)); exact BK458.out)⟩; have n2_ : Aside0 (wr.heap[gb459]? = some (.cells #[.int .i64 0, .slice none 0 0] 24 (0, 0))) := ⟨by rw [← hq_]; exact (by (with_reducible repeat (first |  refine zKn ?_ _|  refine zKd ?_|  refine zKa ?_ _)); exact BK459.out)⟩; have n3_ : Aside0 (wr.heap[gb460]? = some (.cells #[.int .i64 a0_0, u461001] 24 (0, 0))) := ⟨by rw [← hq_]; exact (by (with_reducible repeat (first |  refine zKn ?_ _|  refine zKd ?_|  refine zKa ?_ _)); exact BK460.out)⟩; have n4_ : Aside0 (Below w.heap.size w wr) := ⟨by rw [← hq_]; exact (by exact uT HB.out)⟩; clear HO_461001 BK458 BK459 BK460 HB hq_; have HO_461001 := n0_; have BK458 := n1_; have BK459 := n2_; have BK460 := n3_; have HB := n4_; clear n0_ n1_ n2_ n3_ n4_))))
      replace HO_461001 := zMk (zRd HO_461001.out)
      replace BK458 := zMk (zKd BK458.out)
      replace BK459 := zMk (zKd BK459.out)
      replace BK460 := zMk (zKd BK460.out)
      replace HB := zMk (zBd HB.out)
      have p462 : 0 ≤ (x6_1 : Int) := of_decide_eq_true (by assumption)
      have q462 : x6_1 < (l0_1.length : Int) := of_decide_eq_true (by assumption)
      obtain ⟨ad462, e462, hx462_0, hx462_1, hx462_2⟩ := at_T36 HR0_1.out x6_1 p462 q462
      have hw462_2 := hx462_2
      have hw462_1 := hx462_1
      have hw462_0 := hx462_0
      cases e462
      replace hx462_0 := (HB.out.cell (World.block_lt_of_cell? w _ hx462_0)).trans hx462_0
      replace hx462_1 := (HB.out.cell (World.block_lt_of_cell? w _ hx462_1)).trans hx462_1
      replace hx462_2 := (HB.out.cell (World.block_lt_of_cell? w _ hx462_2)).trans hx462_2
      replace p462 := eq_true p462
      replace q462 := eq_true q462
      refine start_ (n := 11) (S := fun w' => w'.cell? ⟨gb460, 0, none⟩ = some (.int .i64 a0_0) ∧ w'.cell? ⟨gb460, 1, none⟩ = some (u461001) ∧ w'.cell? ⟨gb458, 0, none⟩ = some (.int .i64 a0_0) ∧ w'.cell? ⟨gb458, 1, none⟩ = some (.slice (some ad462) l0_1.length c0_1) ∧ w'.cell? (ad462.add ((x6_1).toNat * 3)) = some (.int .i64 ((rd_T36 l0_1 x6_1).f0)) ∧ w'.cell? ⟨(ad462.add ((x6_1).toNat * 3)).block, (ad462.add ((x6_1).toNat * 3)).off + 1, none⟩ = some (.int .i64 ((rd_T36 l0_1 x6_1).f1)) ∧ w'.cell? ⟨(ad462.add ((x6_1).toNat * 3)).block, (ad462.add ((x6_1).toNat * 3)).off + 2, none⟩ = some (.int .i64 ((rd_T36 l0_1 x6_1).f2))) (ds := [10]) #[false, false, false, false, false, false, false, false, false, false, false] (by kernel_rfl) rfl rfl ⟨(zKc BK460.out 0).trans rfl, (zKc BK460.out 1).trans rfl, (zKc BK458.out 0).trans rfl, (zKc BK458.out 1).trans rfl, ((HB.out.cell (World.block_lt_of_cell? w _ hw462_0)).trans hw462_0), ((HB.out.cell (World.block_lt_of_cell? w _ hw462_1)).trans hw462_1), ((HB.out.cell (World.block_lt_of_cell? w _ hw462_2)).trans hw462_2)⟩ (fun hHeld => ?_); refine with_tabW filigreeref04_Less.tab6 filigreeref04_Less.bits6 (fun HT_ HW_ => ?_)
      generalize wr.drew = w22 at HO_461001 BK458 BK459 BK460 HB hx462_0 hx462_1 hx462_2 hHeld ⊢
      refine pure_ (i := 0) (N := some 21) (v := ?_) (a' := ?_) #[true, false, false, false, false, false, false, false, false, false, false] rfl rfl (any_of HT_.out (by kernel_rfl)) (fun _ _ _ h => h) (Or.inl ⟨by rfl, ?_⟩) ?_ ?_
      rotate_left
      · intro w'
        go_simp
        with_reducible rfl
      rotate_left
      · simp only [Act.put, zSa, zSb, zSc, i64_w, i32_w]
        rfl
      refine pure_ (i := 2) (N := some 23) (v := ?_) (a' := ?_) #[true, false, true, false, false, false, false, false, false, false, false] rfl rfl (any_of HT_.out (by kernel_rfl)) (fun _ _ _ h => h) (Or.inl ⟨by rfl, ?_⟩) ?_ ?_
      rotate_left
      · intro w'
        go_simp
        with_reducible rfl
      rotate_left
      · simp only [Act.put, zSa, zSb, zSc, i64_w, i32_w]
        rfl
      refine pure_ (i := 4) (N := some 25) (v := ?_) (a' := ?_) #[true, false, true, false, true, false, false, false, false, false, false] rfl rfl (any_of HT_.out (by kernel_rfl)) (fun _ _ _ h => h) (Or.inl ⟨by rfl, ?_⟩) ?_ ?_
      rotate_left
      · intro w'
        go_simp
        with_reducible rfl
      rotate_left
      · simp only [Act.put, zSa, zSb, zSc, i64_w, i32_w]
        rfl
      refine take_ (i := 1) (N := some 22) (v := ?_) (a' := ?_) #[true, true, true, false, true, false, false, false, false, false, false] rfl rfl (take_ofW HT_.out HW_.out (by kernel_rfl)) (fun _ _ _ h => h) (Or.inl ⟨by rfl, ?_⟩) hHeld ?_ ?_
      rotate_left
      · rintro w' ⟨s0, s1, s2, s3, s4, s5, s6⟩
        go_simp
        with_reducible rfl
      rotate_left
      · simp only [Act.put, zSa, zSb, zSc, i64_w, i32_w]
        rfl
      refine take_ (i := 3) (N := some 24) (v := ?_) (a' := ?_) #[true, true, true, true, true, false, false, false, false, false, false] rfl rfl (take_ofW HT_.out HW_.out (by kernel_rfl)) (fun _ _ _ h => h) (Or.inl ⟨by rfl, ?_⟩) hHeld ?_ ?_
      rotate_left
      · rintro w' ⟨s0, s1, s2, s3, s4, s5, s6⟩
        go_simp
        with_reducible rfl
      rotate_left
      · simp only [Act.put, zSa, zSb, zSc, i64_w, i32_w]
        rfl
      refine pure_ (i := 5) (N := some 26) (v := ?_) (a' := ?_) #[true, true, true, true, true, true, false, false, false, false, false] rfl rfl (any_of HT_.out (by kernel_rfl)) (fun _ _ _ h => h) (Or.inl ⟨by rfl, ?_⟩) ?_ ?_
      rotate_left
      · intro w'
        go_simp
        with_reducible rfl
      rotate_left
      · simp only [Act.put, zSa, zSb, zSc, i64_w, i32_w]
        rfl
      refine take_ (i := 6) (N := some 27) (v := ?_) (a' := ?_) #[true, true, true, true, true, true, true, false, false, false, false] rfl rfl (take_ofW HT_.out HW_.out (by kernel_rfl)) (fun _ _ _ h => h) (Or.inl ⟨by rfl, ?_⟩) hHeld ?_ ?_
      rotate_left
      · rintro w' ⟨s0, s1, s2, s3, s4, s5, s6⟩
        go_simp
        with_reducible rfl
      rotate_left
      · simp only [Act.put, zSa, zSb, zSc, i64_w, i32_w]
        rfl
      refine one_ (i := 7) (N := some 28) #[true, true, true, true, true, true, true, true, false, false, false] rfl rfl (one_of HT_.out (by kernel_rfl)) (by decide) (fun K hK => ?_)
      refine value_ (w1 := ?_) (v := ?_) (by rfl) rfl ?_ ?_
      rotate_left 2
      · go_simp
        constructor
        · rfl
        · rfl
      refine hK.out _ _ ⟨(zKc (zKa BK460.out _) 0).trans rfl, (zKc (zKa BK460.out _) 1).trans rfl, (zKc (zKa BK458.out _) 0).trans rfl, (zKc (zKa BK458.out _) 1).trans rfl, (World.cell?_alloc_lt _ _ _ (World.block_lt_of_cell? _ _ (((HB.out.cell (World.block_lt_of_cell? w _ hw462_0)).trans hw462_0)))).trans (((HB.out.cell (World.block_lt_of_cell? w _ hw462_0)).trans hw462_0)), (World.cell?_alloc_lt _ _ _ (World.block_lt_of_cell? _ _ (((HB.out.cell (World.block_lt_of_cell? w _ hw462_1)).trans hw462_1)))).trans (((HB.out.cell (World.block_lt_of_cell? w _ hw462_1)).trans hw462_1)), (World.cell?_alloc_lt _ _ _ (World.block_lt_of_cell? _ _ (((HB.out.cell (World.block_lt_of_cell? w _ hw462_2)).trans hw462_2)))).trans (((HB.out.cell (World.block_lt_of_cell? w _ hw462_2)).trans hw462_2))⟩ (fun hHeld => ?_)
      clear hK K
      refine norm_ (a' := ?_) ?_ ?_
      rotate_left
      · show Act.put _ (some 28) _ = _
        simp only [Act.put, zSa, zSb, zSc, i64_w, i32_w]
        rfl
      refine one_ (i := 8) (N := some 29) #[true, true, true, true, true, true, true, true, true, false, false] rfl rfl (one_of HT_.out (by kernel_rfl)) (by decide) (fun K hK => ?_)
      refine Kd.R_append_step k36 (w0 := w) w.heap.size (by rfl) (.tmp 22) (.tmp 28) 22 36 (.agg #[(.int .i64 0), (.int .i64 0), (.int .i64 0)]) 24 rfl Try.underlying22 info36 rfl (by decide) (by omega) u461001 x461001_1 (⟨(rd_T36 l0_1 x6_1).f0, (rd_T36 l0_1 x6_1).f1, (rd_T36 l0_1 x6_1).f2⟩ : S36) [.int .i64 ((rd_T36 l0_1 x6_1).f0), .int .i64 ((rd_T36 l0_1 x6_1).f1), .int .i64 ((rd_T36 l0_1 x6_1).f2)] (fun _ => True) (fun _ => False) rfl rfl ?aP (fun _ hk => hk.elim) ?aF ?aO ?aB ?aS ?aL ?_
      (case aP => exact k36_mkM _ _ _ (⟨(rd_T36 l0_1 x6_1).f0, (rd_T36 l0_1 x6_1).f1, (rd_T36 l0_1 x6_1).f2⟩ : S36))
      (case aB => exact (by exact uT HB.out))
      (case aF => exact (fun _ _ => trivial))
      (case aO => exact (by exact uR HO_461001.out))
      (case aS => exact (zBs (by exact uT HB.out)))
      (case aL => have := LMc18.out; omega)
      intro v464 w23 ho hb hg hat
      rw [← Ny463.out] at ho
      replace BK458 := zMk (blk_grown (g := gb458) (o := .cells #[.int .i64 a0_0, .slice (some ad462) l0_1.length c0_1] 24 (0, 0)) (by (with_reducible repeat (first | refine zKn ?_ _ | refine zKd ?_ | refine zKa ?_ _)); exact BK458.out) hg (Kd.R_ne HO_461001.out BK458.out (by decide)))
      replace BK459 := zMk (blk_grown (g := gb459) (o := .cells #[.int .i64 0, .slice none 0 0] 24 (0, 0)) (by (with_reducible repeat (first | refine zKn ?_ _ | refine zKd ?_ | refine zKa ?_ _)); exact BK459.out) hg (Kd.R_ne HO_461001.out BK459.out (by decide)))
      replace BK460 := zMk (blk_grown (g := gb460) (o := .cells #[.int .i64 a0_0, u461001] 24 (0, 0)) (by (with_reducible repeat (first | refine zKn ?_ _ | refine zKd ?_ | refine zKa ?_ _)); exact BK460.out) hg (Kd.R_ne HO_461001.out BK460.out (by decide)))
      replace HB := zMk (hb)
      have HO465 := zMk (ho)
      clear HO_461001 ho hb hg hat
      obtain ⟨Ao24, co24, eo24⟩ := zRs HO465.out
      (first |  subst eo24|  (injection eo24 with f1_ f2_ f3_; have f4_ := f1_.symm; have f5_ := f3_.symm; clear f1_ f2_ f3_; subst f4_; subst f5_))
      refine hK.out _ _ ⟨(zKc BK460.out 0).trans rfl, (zKc BK460.out 1).trans rfl, (zKc BK458.out 0).trans rfl, (zKc BK458.out 1).trans rfl, ((HB.out.cell (World.block_lt_of_cell? w _ hw462_0)).trans hw462_0), ((HB.out.cell (World.block_lt_of_cell? w _ hw462_1)).trans hw462_1), ((HB.out.cell (World.block_lt_of_cell? w _ hw462_2)).trans hw462_2)⟩ (fun hHeld => ?_)
      clear hK K
      refine norm_ (a' := ?_) ?_ ?_
      rotate_left
      · show Act.put _ (some 29) _ = _
        simp only [Act.put, zSa, zSb, zSc, i64_w, i32_w]
        rfl
      refine pure_ (i := 9) (N := some 30) (v := ?_) (a' := ?_) #[true, true, true, true, true, true, true, true, true, true, false] rfl rfl (any_of HT_.out (by kernel_rfl)) (fun _ _ _ h => h) (Or.inl ⟨by rfl, ?_⟩) ?_ ?_
      rotate_left
      · intro w'
        go_simp
        with_reducible rfl
      rotate_left
      · simp only [Act.put, zSa, zSb, zSc, i64_w, i32_w]
        rfl
      refine last_ (i := 10) (N := none) #[true, true, true, true, true, true, true, true, true, true, true] rfl rfl (one_of HT_.out (by kernel_rfl)) (by decide) (fun K hK => ?_)
      have hs25 : w23.cell? ⟨gb460, 1, none⟩ = some (u461001) := (zKc BK460.out 1).trans rfl
      have hfs25 := zKf BK460.out 1
      have hns25_0 := NB458_460.out
      have hns25_1 := NB459_460.out
      have hms25_0 := NB460_458.out
      have hms25_1 := NB460_459.out
      refine skip_ (w1 := ?_) (by rfl) rfl ?_ ?_
      rotate_left
      · go_simp
        rfl
      refine hK.out _ _ ?_
      clear hK K
      refine done_ (done_of HT_.out (by kernel_rfl)) ?_
      try go_wp2
      go_roundg k1
      case measure => have := HK1.out; omega
      case rel => exact ⟨(wrap64 (x6_1 + 1)), (y463), (.slice Ao24 y463.length co24), (by first | rfl | (simp; done) | (simp [*]; done)), H', ⟨by have := HK1.out; omega⟩, ⟨by (with_reducible repeat (first | apply zRa | apply zRn | apply zRd)); exact zRm (Kd.R_far (p := ⟨gb460, 1, none⟩) (Kd.R_types HO465.out BK460.out (by decide)) (fun _ hk => hk.2) (.slice Ao24 y463.length co24)) (fun _ hk => trivial)⟩, ⟨by (with_reducible repeat (first | refine zKn ?_ _ | refine zKd ?_ | refine zKa ?_ _)); refine blk_far ?_ NB458_460.out _; (with_reducible repeat (first | refine zKn ?_ _ | refine zKd ?_ | refine zKa ?_ _)); exact BK458.out⟩, ⟨by (with_reducible repeat (first | refine zKn ?_ _ | refine zKd ?_ | refine zKa ?_ _)); refine blk_far ?_ NB459_460.out _; (with_reducible repeat (first | refine zKn ?_ _ | refine zKd ?_ | refine zKa ?_ _)); exact BK459.out⟩, ⟨by (with_reducible repeat (first | refine zKn ?_ _ | refine zKd ?_ | refine zKa ?_ _)); refine blk_put (cs := #[.int .i64 a0_0, u461001]) ?_ 1 _ rfl; (with_reducible repeat (first | refine zKn ?_ _ | refine zKd ?_ | refine zKa ?_ _)); exact BK460.out⟩, ⟨by exact uT HB.out⟩⟩
  · rw [if_neg c11] at H
    have c11b0 : decide (x6_1 < (l0_1.length : Int)) = false := decide_eq_false c11
    clear c11
    simp only [Option.some.injEq, Prod.mk.injEq] at H
    obtain ⟨rfl, rfl⟩ := H
    have hnb26 := NB458_459.out
    have hnc26 := NB459_458.out
    have hnb27 := NB458_460.out
    have hnc27 := NB460_458.out
    have hcz28_0 : wr.cell? ⟨gb458, 0, none⟩ = some (.int .i64 a0_0) := (zKc BK458.out 0).trans rfl
    have hcz28_1 : wr.cell? ⟨gb458, 1, none⟩ = some (.slice A0_1 l0_1.length c0_1) := (zKc BK458.out 1).trans rfl
    have hfz28_0 := zKf BK458.out 0
    have hfz28_1 := zKf BK458.out 1
    have hnb29 := NB460_459.out
    have hnc29 := NB459_460.out
    have hcz30_0 : wr.cell? ⟨gb460, 0, none⟩ = some (.int .i64 a0_0) := (zKc BK460.out 0).trans rfl
    have hcz30_1 : wr.cell? ⟨gb460, 1, none⟩ = some (u461001) := (zKc BK460.out 1).trans rfl
    have hfz30_0 := zKf BK460.out 0
    have hfz30_1 := zKf BK460.out 1
    have hcz31_0 : wr.cell? ⟨gb459, 0, none⟩ = some (.int .i64 0) := (zKc BK459.out 0).trans rfl
    have hcz31_1 : wr.cell? ⟨gb459, 1, none⟩ = some (.slice none 0 0) := (zKc BK459.out 1).trans rfl
    have hfz31_0 := zKf BK459.out 0
    have hfz31_1 := zKf BK459.out 1
    obtain ⟨Ao32, co32, eo32⟩ := zRs HO_461001.out
    subst eo32
    go_wp2
    refine bodyPost_ret (results_cell_row rfl _ _ gb459 24 #[.int .i64 a0_0, .slice Ao32 x461001_1.length co32] (0, 0) _ rfl (by (with_reducible repeat (first | refine zKn ?_ _ | refine zKd ?_ | refine zKa ?_ _)); refine blk_put (cs := #[.int .i64 a0_0, .slice none 0 0]) ?_ 1 _ rfl; (with_reducible repeat (first | refine zKn ?_ _ | refine zKd ?_ | refine zKa ?_ _)); refine blk_put (cs := #[.int .i64 0, .slice none 0 0]) ?_ 0 _ rfl; (with_reducible repeat (first | refine zKn ?_ _ | refine zKd ?_ | refine zKa ?_ _)); exact BK459.out) Try.underlying24 rfl (by kernel_rfl)) rfl ?_
    exact ⟨_, by first | rfl | (simp [errW_none, errW_some] <;> rfl) | (simp [*, errW_none, errW_some] <;> rfl), by (with_reducible repeat (first | apply zRa | apply zRn | apply zRd)); exact zRm (Kd.R_far (p := ⟨gb459, 1, none⟩) (Kd.R_far (p := ⟨gb459, 0, none⟩) (Kd.R_types HO_461001.out BK459.out (by decide)) (fun _ hk => hk.2) (.int .i64 a0_0)) (fun _ hk => hk.2) (.slice Ao32 x461001_1.length co32)) (fun _ hk => trivial), by exact uT HB.out⟩

def selE (P : Nat → S36 → Bool) : Nat → List S36 → List S36
  | _, [] => []
  | i, e :: l => if P i e = true then e :: selE P (i + 1) l else selE P (i + 1) l
theorem selE_len (P : Nat → S36 → Bool) : ∀ (i : Nat) (l : List S36), (selE P i l).length ≤ l.length
  | _, [] => Nat.le_refl _
  | i, e :: l => by
    unfold selE
    have := selE_len P (i + 1) l
    split <;> simp <;> omega
theorem selE_congr {P Q : Nat → S36 → Bool} : ∀ (i : Nat) (l : List S36), (∀ j (hj : j < l.length), P (i + j) l[j] = Q (i + j) l[j]) → selE P i l = selE Q i l
  | _, [], _ => rfl
  | i, e :: l, h => by
    unfold selE
    have h0 := h 0 (by simp)
    simp only [Nat.add_zero, List.getElem_cons_zero] at h0
    rw [h0, selE_congr (i + 1) l fun j hj => by have := h (j + 1) (by simpa using hj); simpa [Nat.add_assoc, Nat.add_comm 1 j] using this]
theorem some_l0 (pf : Int → Int → Int → Int → Option Bool) (P : Nat → S36 → Bool) (n : Int) (E : List S36) (hm : E.length ≤ 1000000) (hp : ∀ i (hi : i < E.length), pf (i : Nat) E[i].f0 E[i].f1 E[i].f2 = some (P i E[i])) (d : Nat) :
    ∀ (k i : Nat) (acc : List S36), E.length - i = d → i ≤ E.length → d + 1 ≤ k → acc.length ≤ i → graph_some.l0 pf k E (E.length : Int) i n acc = some (n, acc ++ selE P i (E.drop i)) := by
  induction d with
  | zero =>
    intro k i acc hd hi hk ha
    obtain ⟨k, rfl⟩ : ∃ m, k = m + 1 := ⟨k - 1, by omega⟩
    obtain rfl : i = E.length := by omega
    rw [List.drop_length]
    simp only [graph_some.l0]
    rw [if_neg (by omega)]
    simp [selE]
  | succ d ih =>
    intro k i acc hd hi hk ha
    obtain ⟨k, rfl⟩ : ∃ m, k = m + 1 := ⟨k - 1, by omega⟩
    have hlt : i < E.length := by omega
    rw [dropE E i hlt]
    simp only [graph_some.l0, selE]
    have hq := hp i hlt
    rw [← rdE_get E i hlt] at hq
    rw [if_pos (by omega), if_pos (by omega), if_pos (by omega), hq, zOb, show wrap64 ((i : Int) + 1) = ((i + 1 : Nat) : Int) by rw [w64 (by omega) (by omega)]; omega]
    cases hP : P i (rd_T36 E (i : Int)) with
    | true =>
      rw [if_pos rfl, if_pos (by omega), ih k (i + 1) _ (by omega) (by omega) (by omega) (by simp; omega), if_pos rfl]
      simp
    | false =>
      rw [if_neg (by simp), ih k (i + 1) _ (by omega) (by omega) (by omega) (by omega), if_neg (by simp)]
theorem some_eq (pf : Int → Int → Int → Int → Option Bool) (P : Nat → S36 → Bool) (k : Nat) (n : Int) (E : List S36) (hm : E.length ≤ 1000000) (hk : E.length + 8 ≤ k) (hp : rightI n E = 0 → ∀ i (hi : i < E.length), pf (i : Nat) E[i].f0 E[i].f1 E[i].f2 = some (P i E[i])) :
    graph_some.f pf k n E = some (if rightI n E = 0 then (n, selE P 0 E) else (0, [])) := by
  unfold graph_some.f
  rw [Right_eq k n E (by omega), zOb]
  by_cases h : rightI n E = 0
  · rw [if_pos h, if_pos h]
    have := some_l0 pf P n E hm (hp h) E.length k 0 [] (by omega) (by omega) (by omega) (by simp)
    simpa using this
  · rw [if_neg h, if_neg h]
theorem lessM_get : ∀ (t : List Int) (m : List Bool) (j : Nat), j < m.length → (lessM m t).getD j false = (m.getD j false || decide ((j : Int) ∈ t))
  | [], m, j, _ => by simp [lessM]
  | x :: t, m, j, hj => by
    unfold lessM
    rw [lessM_get t _ j (by (repeat' split) <;> simp [hj])]
    by_cases h0 : 0 ≤ x
    · rw [if_pos h0]
      by_cases h1 : x < (m.length : Int)
      · rw [if_pos h1]
        by_cases hx : x.toNat = j
        · have : (j : Int) = x := by omega
          subst hx
          simp [List.getD_eq_getElem?_getD, hj, this]
        · have : ¬ (j : Int) = x := by omega
          simp [List.getD_eq_getElem?_getD, hx, this]
      · rw [if_neg h1]
        have : ¬ (j : Int) = x := by omega
        simp [this]
    · rw [if_neg h0]
      have : ¬ (j : Int) = x := by omega
      simp [this]
theorem Less_eq (k : Nat) (n : Int) (E : List S36) (gone : List Int) (hm : E.length ≤ 1000000) (hk : E.length + 8 ≤ k) : graph_Less.f k n E gone = some (if rightI n E = 0 then (n, selE (fun i _ => !decide ((i : Int) ∈ gone)) 0 E) else (0, [])) := by
  unfold graph_Less.f
  rw [if_pos (by omega)]
  refine some_eq _ _ k n E hm hk fun hr i hi => ?_
  unfold graph_Less.p
  rw [lessM_len, List.length_replicate, if_pos (by omega), if_pos (by omega), zTn, lessM_get _ _ _ (by simpa using hi)]
  simp [List.getD_eq_getElem?_getD, hi]

def filigreelaw04_Light.f (a0_0 : Int) (l0_1 : List (S36)) (a1 : Int) : Option (Bool) := if a0_0 ≤ a1 then (some (decide ((l0_1.length : Int) ≤ (wrap64 (4 * a1))))) else (some false)
theorem filigreelaw04_Light.calls (a0_0 : Int) (A0_1 : Option Addr) (c0_1 : Nat) (l0_1 : List (S36)) (a1 : Int) (r : Bool) (w : World) (hr0_1 : Kd.C k36 w A0_1 l0_1.length l0_1) (hc0_1 : l0_1.length ≤ c0_1) (h : filigreelaw04_Light.f a0_0 l0_1 a1 = some r) :
    Calls Try.prog 17 #[.agg #[.int .i64 a0_0, .slice A0_1 l0_1.length c0_1], .int .i64 a1] w fun e w' => e = .returned (.bool r) ∧ Below w.heap.size w w' := by
  have hu24 := Try.underlying24
  have HR0_1 := zMk hr0_1
  have HC0_1 := zMk hc0_1
  clear hr0_1 hc0_1
  have HB := zMk (Below.refl w.heap.size w)
  have H : (if a0_0 ≤ a1 then (some (decide ((l0_1.length : Int) ≤ (wrap64 (4 * a1))))) else (some false)) = some r := h
  clear h
  by_cases c3 : a0_0 ≤ a1
  · rw [if_pos c3] at H
    have c3b0 : decide (a0_0 ≤ a1) = true := decide_eq_true c3
    clear c3
    obtain rfl := zOi H
    go_enter Try.func17, Try.ntmps17
    go_wp2_with (first | ((with_reducible refine gate_dst (N := 2) rfl ?_); (try (refine gate_guard (by rfl) ?_; dsimp only)); refine box_event ?hg (N := 2) ?hd (cs := #[.int .i64 a0_0, .slice A0_1 l0_1.length c0_1]) (t := 24) ?hr ?_; (case hd => rfl); (case hg => rfl); (case hr => first | (go_simp; done)|(go_simp; rfl)|(go_simp; rw [show ∀ x : Int, IntKind.u32.wrap (IntKind.u8.wrap x) = x % 256 from fun x => (by show (x % 256) % 4294967296 = x % 256; omega)])); intro gb143 hg w4 hbox hb; have BK143 := zMk (hbox); have GW143 := zMk ((by rw [hg]; exact (zBs (by exact uT HB.out)) : w.heap.size ≤ gb143)); have GE143 := zMk ((by rw [hg]; exact (zBs (by exact uT HB.out)) : w.heap.size ≤ gb143)); have IGE143 := ownGe GE143.out; replace HB := zMk (zBt (by exact uT HB.out) hb); clear hb hbox hg; have hcz5_0 : w4.cell? ⟨gb143, 0, none⟩ = some (.int .i64 a0_0) := (zKc BK143.out 0).trans rfl; have hcz5_1 : w4.cell? ⟨gb143, 1, none⟩ = some (.slice A0_1 l0_1.length c0_1) := (zKc BK143.out 1).trans rfl; have hfz5_0 := zKf BK143.out 0; have hfz5_1 := zKf BK143.out 1))
    go_ret
    exact ⟨by first | rfl | (simp [errW_none, errW_some] <;> rfl) | (simp [*, errW_none, errW_some] <;> rfl), by exact uT HB.out⟩
  · rw [if_neg c3] at H
    have c3b0 : decide (a0_0 ≤ a1) = false := decide_eq_false c3
    clear c3
    obtain rfl := zOi H
    go_enter Try.func17, Try.ntmps17
    go_wp2_with (first | ((with_reducible refine gate_dst (N := 2) rfl ?_); (try (refine gate_guard (by rfl) ?_; dsimp only)); refine box_event ?hg (N := 2) ?hd (cs := #[.int .i64 a0_0, .slice A0_1 l0_1.length c0_1]) (t := 24) ?hr ?_; (case hd => rfl); (case hg => rfl); (case hr => first | (go_simp; done)|(go_simp; rfl)|(go_simp; rw [show ∀ x : Int, IntKind.u32.wrap (IntKind.u8.wrap x) = x % 256 from fun x => (by show (x % 256) % 4294967296 = x % 256; omega)])); intro gb143 hg w6 hbox hb; have BK143 := zMk (hbox); have GW143 := zMk ((by rw [hg]; exact (zBs (by exact uT HB.out)) : w.heap.size ≤ gb143)); have GE143 := zMk ((by rw [hg]; exact (zBs (by exact uT HB.out)) : w.heap.size ≤ gb143)); have IGE143 := ownGe GE143.out; replace HB := zMk (zBt (by exact uT HB.out) hb); clear hb hbox hg; have hcz7_0 : w6.cell? ⟨gb143, 0, none⟩ = some (.int .i64 a0_0) := (zKc BK143.out 0).trans rfl; have hcz7_1 : w6.cell? ⟨gb143, 1, none⟩ = some (.slice A0_1 l0_1.length c0_1) := (zKc BK143.out 1).trans rfl; have hfz7_0 := zKf BK143.out 0; have hfz7_1 := zKf BK143.out 1))
    go_ret
    exact ⟨by first | rfl | (simp [errW_none, errW_some] <;> rfl) | (simp [*, errW_none, errW_some] <;> rfl), by exact uT HB.out⟩

end Go.Proofs.Yteicpdkembmilaa.A
