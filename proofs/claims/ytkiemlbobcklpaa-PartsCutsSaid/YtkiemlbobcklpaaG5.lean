/- Lemmas for the statement: the walks of the functions that it reaches, and plain laws. -/
import Derived.Test.YtkiemlbobcklpaaG1
import Derived.Test.YtkiemlbobcklpaaG4
set_option linter.unusedVariables false
set_option linter.unusedSimpArgs false
set_option maxHeartbeats 8000000
set_option maxRecDepth 100000
namespace Go.Proofs.Ytkiemlbobcklpaa.A
open Go Go.RowKit Go.Proofs.YtkiemlbobcklpaaW.PrintWords Go.Proofs.YtkiemlbobcklpaaW.PrintLast Go.Proofs.YtkiemlbobcklpaaW.PrintMore
attribute [local go_sem] max2_int min2_int max_two min_two max_three min_three max_four min_four
open Go.Proofs.YtkiemlbobcklpaaW.PrintWords.Kd renaming R_alloc → zRa, R_drewN → zRn, R_drew → zRd, C_alloc → zCa, C_drewN → zCn, C_drew → zCd, R_mono → zRm, at_int → zAi, R_elder' → zRe, R_lower → zRl, R_new' → zRw, R_lt → zRt, R_below → zRb, R_base → zRz, R_reads' → zRr, R_slice → zRs
open Go.Proofs.YtkiemlbobcklpaaW.PrintWords renaming pw_below_drewN → zBn, below_alloc → zBa, below_drew1 → zBd, below_size → zBs, below_step → zBt, blk_drewN → zKn, blk_drew → zKd, blk_alloc → zKa, blk_below → zKb, blk_cell → zKc, blk_frozen → zKf
open List renaming setIfInBounds_toArray → zSa, set_cons_zero → zSb, set_cons_succ → zSc, length_drop → zLd, length_take → zLt, map_toArray → zMa, map_cons → zMc, map_nil → zMn, length_cons → zLc, length_nil → zLn
open Go.Proofs.YtkiemlbobcklpaaW.PrintWords.Aside0 renaming mk → zMk
open Option renaming bind_eq_some_iff → zBi, bind_some → zOb
open Option.some renaming inj → zOi
open Int renaming toNat_natCast → zTn

def r4_Has.l0 : Nat → List Int → Int → Int → Option (Bool)
 | 0, _, _, _ => none
 | k + 1, x0, x1, x5 => if x5 < (x0.length : Int) then (if 0 ≤ x5 then (if (rd x0 x5) = x1 then (some true) else (r4_Has.l0 k x0 x1 (wrap64 (x5 + 1)))) else (none)) else (some false)
def r4_Has.f (k : Nat) (l0 : List Int) (a1 : Int) : Option (Bool) := r4_Has.l0 k l0 a1 0
theorem r4_Has.calls (k : Nat) (A0 : Option Addr) (c0 : Nat) (l0 : List Int) (a1 : Int) (r : Bool) (w : World) (hr0 : Kd.C (Kd.int .i64) w A0 l0.length l0) (hc0 : l0.length ≤ c0) (h : r4_Has.f k l0 a1 = some r) :
  Calls Try.prog 39 #[.slice A0 l0.length c0, .int .i64 a1] w fun e w' => e = .returned (.bool r) ∧ Drawn0 w w' := by
 have HR0 := zMk hr0
 have HC0 := zMk hc0
 clear hr0 hc0
 have H : (r4_Has.l0 k l0 a1 0) = some r := h
 clear h
 have H' := zMk H
 clear H
 go_enter Try.func39, Try.ntmps39
 go_wp2
 go_loopg [5] k (fun kq v5 w' => ∃ (x5_1 : Int), v5 = .int .i64 x5_1 ∧ Aside0 (r4_Has.l0 kq l0 a1 x5_1 = some r) ∧ Aside0 (kq ≤ k) ∧ Drawn0 w w')
 case atStart => exact ⟨(0), (by first | rfl | (simp; done) | (simp [*]; done)), H', ⟨Nat.le_refl _⟩, by repeat (first | exact Drawn0.refl _ | apply Drawn0.step)⟩
 clear H'
 obtain ⟨x5_1, rfl, HA, HK1, ⟨m1, rfl⟩⟩ := hrel
 rcases gk with _ | k1
 ·exact absurd HA.out (by simp [r4_Has.l0])
 have H := HA.out
 clear HA
 simp only [r4_Has.l0] at H
 by_cases c3 : x5_1 < (l0.length : Int)
 ·rw [if_pos c3] at H
  have c3b0 : decide (x5_1 < (l0.length : Int)) = true := decide_eq_true c3
  clear c3
  by_cases c4 : 0 ≤ x5_1
  rotate_left
  ·rw [if_neg c4] at H; exact absurd H (by simp)
  rw [if_pos c4] at H
  have c4b0 : decide (0 ≤ x5_1) = true := decide_eq_true c4
  clear c4
  by_cases c5 : (rd l0 x5_1) = a1
  ·rw [if_pos c5] at H
   have c5b0 : ((rd l0 x5_1) == a1) = true := beq_iff_eq.mpr c5
   have c5b1 : ((rd l0 x5_1) != a1) = false := bne_eq_false_iff_eq.mpr c5
   clear c5
   obtain rfl := zOi H
   have p525 : 0 ≤ (x5_1 : Int) := of_decide_eq_true (by assumption)
   have q525 : x5_1 < (l0.length : Int) := of_decide_eq_true (by assumption)
   obtain ⟨ad525, e525, hx525_0⟩ := zAi HR0.out x5_1 p525 q525
   cases e525
   replace p525 := eq_true p525
   replace q525 := eq_true q525
   go_wp2
   go_ret
   exact ⟨by first | rfl | (simp; done) | (simp [*]; done), by repeat (first | exact Drawn0.refl _ | apply Drawn0.step)⟩
  ·rw [if_neg c5] at H
   have c5b0 : ((rd l0 x5_1) == a1) = false := beq_eq_false_iff_ne.mpr c5
   have c5b1 : ((rd l0 x5_1) != a1) = true := bne_iff_ne.mpr c5
   have H' := zMk H
   clear H
   have p525 : 0 ≤ (x5_1 : Int) := of_decide_eq_true (by assumption)
   have q525 : x5_1 < (l0.length : Int) := of_decide_eq_true (by assumption)
   obtain ⟨ad525, e525, hx525_0⟩ := zAi HR0.out x5_1 p525 q525
   cases e525
   replace p525 := eq_true p525
   replace q525 := eq_true q525
   go_wp2
   go_roundg k1
   case measure => have := HK1.out; omega
   case rel => exact ⟨(wrap64 (x5_1 + 1)), (by first | rfl | (simp; done) | (simp [*]; done)), H', ⟨by have := HK1.out; omega⟩, by repeat (first | exact Drawn0.refl _ | apply Drawn0.step)⟩
 ·rw [if_neg c3] at H
  have c3b0 : decide (x5_1 < (l0.length : Int)) = false := decide_eq_false c3
  clear c3
  obtain rfl := zOi H
  go_wp2
  go_ret
  exact ⟨by first | rfl | (simp; done) | (simp [*]; done), by repeat (first | exact Drawn0.refl _ | apply Drawn0.step)⟩

theorem rdI_get (l : List Int) (i : Nat) (h : i < l.length) : rd l (i : Int) = l[i] := by
  unfold rd
  rw [zTn]
  simp [h]
theorem dropI (l : List Int) (i : Nat) (h : i < l.length) : l.drop i = rd l (i : Int) :: l.drop (i + 1) := by
  rw [List.drop_eq_getElem_cons h, rdI_get l i h]
theorem Has_l0 (l : List Int) (x : Int) (hm : l.length ≤ 1000000) (d : Nat) : ∀ (k i : Nat), l.length - i = d → i ≤ l.length → d + 1 ≤ k →
    r4_Has.l0 k l x i = some (decide (x ∈ l.drop i)) := by
  induction d with
  | zero =>
    intro k i hd hi hk
    obtain ⟨k, rfl⟩ : ∃ m, k = m + 1 := ⟨k - 1, by omega⟩
    obtain rfl : i = l.length := by omega
    rw [List.drop_length]
    simp only [r4_Has.l0]
    rw [if_neg (by omega)]
    simp
  | succ d ih =>
    intro k i hd hi hk
    obtain ⟨k, rfl⟩ : ∃ m, k = m + 1 := ⟨k - 1, by omega⟩
    have hlt : i < l.length := by omega
    have hwn : wrap64 ((i : Int) + 1) = ((i + 1 : Nat) : Int) := by rw [w64 (by omega) (by omega)]; omega
    rw [dropI l i hlt]
    simp only [r4_Has.l0]
    rw [if_pos (by omega), if_pos (by omega), hwn, ih k (i + 1) (by omega) (by omega) (by omega)]
    by_cases h : rd l (i : Int) = x
    · rw [if_pos h]; simp [h]
    · rw [if_neg h]
      congr 1
      rw [decide_eq_decide, List.mem_cons]
      constructor
      · exact Or.inr
      · rintro (h1 | h1)
        · exact absurd h1.symm h
        · exact h1
theorem Has_eq (k : Nat) (l : List Int) (x : Int) (hm : l.length ≤ 1000000) (hk : l.length + 1 ≤ k) : r4_Has.f k l x = some (decide (x ∈ l)) := by
  unfold r4_Has.f
  have := Has_l0 l x hm l.length k 0 (by omega) (by omega) hk
  simpa using this

def r4_Find.l0 : Nat → Int → Int → Int → Int → List (S43) → Option (Int)
 | 0, _, _, _, _, _ => none
 | k + 1, x1, x2, x7, x487000, x487001 => if x7 < (x487001.length : Int) then (if 0 ≤ x7 then (if ((rd_T43 x487001 x7).f0) = x1 then (if ((rd_T43 x487001 x7).f1) = x2 then (some x7) else (if ((rd_T43 x487001 x7).f0) = x2 then (if ((rd_T43 x487001 x7).f1) = x1 then (some x7) else (r4_Find.l0 k x1 x2 (wrap64 (x7 + 1)) x487000 x487001)) else (r4_Find.l0 k x1 x2 (wrap64 (x7 + 1)) x487000 x487001))) else (if ((rd_T43 x487001 x7).f0) = x2 then (if ((rd_T43 x487001 x7).f1) = x1 then (some x7) else (r4_Find.l0 k x1 x2 (wrap64 (x7 + 1)) x487000 x487001)) else (r4_Find.l0 k x1 x2 (wrap64 (x7 + 1)) x487000 x487001))) else (none)) else (some (-1))
def r4_Find.f (k : Nat) (a0_0 : Int) (l0_1 : List (S43)) (a1 : Int) (a2 : Int) : Option (Int) := r4_Find.l0 k a1 a2 0 a0_0 l0_1
theorem r4_Find.calls (k : Nat) (a0_0 : Int) (A0_1 : Option Addr) (c0_1 : Nat) (l0_1 : List (S43)) (a1 : Int) (a2 : Int) (r : Int) (w : World) (hr0_1 : Kd.C k43 w A0_1 l0_1.length l0_1) (hc0_1 : l0_1.length ≤ c0_1) (h : r4_Find.f k a0_0 l0_1 a1 a2 = some r) :
  Calls Try.prog 38 #[.agg #[.int .i64 a0_0, .slice A0_1 l0_1.length c0_1], .int .i64 a1, .int .i64 a2] w fun e w' => e = .returned (.int .i64 r) ∧ Below w.heap.size w w' := by
 have hu24 := Try.underlying24
 have HR0_1 := zMk hr0_1
 have HC0_1 := zMk hc0_1
 clear hr0_1 hc0_1
 have HB := zMk (Below.refl w.heap.size w)
 have H : (r4_Find.l0 k a1 a2 0 a0_0 l0_1) = some r := h
 clear h
 have H' := zMk H
 clear H
 go_enter Try.func38, Try.ntmps38
 go_wp2_with (first | ((with_reducible refine gate_dst (N:=3) rfl ?_); refine box_event ?hg (N:=3) ?hd (cs:=#[.int .i64 a0_0, .slice A0_1 l0_1.length c0_1]) (t:=24) ?hr ?_; (case hd => rfl); (case hg => rfl); (case hr => first | (go_simp; done)|(go_simp; rfl)|(go_simp; rw [show ∀ x : Int, IntKind.u32.wrap (IntKind.u8.wrap x) = x % 256 from fun x => (by show (x % 256) % 4294967296 = x % 256; omega)])); intro gb486 hg w4 hbox hb; have BK486 := zMk (hbox); have GW486 := zMk ((by rw [hg]; exact (zBs (by exact uT HB.out)) : w.heap.size ≤ gb486)); have GE486 := zMk ((by rw [hg]; exact (zBs (by exact uT HB.out)) : w.heap.size ≤ gb486)); have IGE486 := ownGe GE486.out; replace HB := zMk (zBt (by exact uT HB.out) hb); clear hb hbox hg))
 go_loopg [7] k (fun kq v7 w' => ∃ (x7_1 : Int), v7 = .int .i64 x7_1 ∧ Aside0 (r4_Find.l0 kq a1 a2 x7_1 a0_0 l0_1 = some r) ∧ Aside0 (kq ≤ k) ∧ Aside0 (w'.heap[gb486]? = some (.cells #[.int .i64 a0_0, (.slice A0_1 l0_1.length c0_1)] 24 (0, 0))) ∧ Aside0 (Below w.heap.size w w'))
 case atStart => exact ⟨(0), (by first | rfl | (simp; done) | (simp [*]; done)), H', ⟨Nat.le_refl _⟩, ⟨by (with_reducible repeat (first | refine zKn ?_ _ | refine zKd ?_ | refine zKa ?_ _)); exact BK486.out⟩, ⟨by exact uT HB.out⟩⟩
 clear H'
 obtain ⟨x7_1, rfl, HA, HK1, BK486, HB⟩ := hrel
 rcases gk with _ | k1
 ·exact absurd HA.out (by simp [r4_Find.l0])
 have H := HA.out
 clear HA
 simp only [r4_Find.l0] at H
 by_cases c5 : x7_1 < (l0_1.length : Int)
 ·rw [if_pos c5] at H
  have c5b0 : decide (x7_1 < (l0_1.length : Int)) = true := decide_eq_true c5
  clear c5
  by_cases c6 : 0 ≤ x7_1
  rotate_left
  ·rw [if_neg c6] at H; exact absurd H (by simp)
  rw [if_pos c6] at H
  have c6b0 : decide (0 ≤ x7_1) = true := decide_eq_true c6
  clear c6
  by_cases c7 : ((rd_T43 l0_1 x7_1).f0) = a1
  ·rw [if_pos c7] at H
   have c7b0 : (((rd_T43 l0_1 x7_1).f0) == a1) = true := beq_iff_eq.mpr c7
   have c7b1 : (((rd_T43 l0_1 x7_1).f0) != a1) = false := bne_eq_false_iff_eq.mpr c7
   clear c7
   by_cases c8 : ((rd_T43 l0_1 x7_1).f1) = a2
   ·rw [if_pos c8] at H
    have c8b0 : (((rd_T43 l0_1 x7_1).f1) == a2) = true := beq_iff_eq.mpr c8
    have c8b1 : (((rd_T43 l0_1 x7_1).f1) != a2) = false := bne_eq_false_iff_eq.mpr c8
    clear c8
    obtain rfl := zOi H
    have hcz9_0 : wr.cell? ⟨gb486, 0, none⟩ = some (.int .i64 a0_0) := (zKc BK486.out 0).trans rfl
    have hcz9_1 : wr.cell? ⟨gb486, 1, none⟩ = some (.slice A0_1 l0_1.length c0_1) := (zKc BK486.out 1).trans rfl
    have hfz9_0 := zKf BK486.out 0
    have hfz9_1 := zKf BK486.out 1
    have p487 : 0 ≤ (x7_1 : Int) := of_decide_eq_true (by assumption)
    have q487 : x7_1 < (l0_1.length : Int) := of_decide_eq_true (by assumption)
    obtain ⟨ad487, e487, hx487_0, hx487_1, hx487_2⟩ := at_T43 HR0_1.out x7_1 p487 q487
    cases e487
    replace hx487_0 := pw_cell_below HB.out hx487_0
    replace hx487_1 := pw_cell_below HB.out hx487_1
    replace hx487_2 := pw_cell_below HB.out hx487_2
    replace p487 := eq_true p487
    replace q487 := eq_true q487
    have p488 : 0 ≤ (x7_1 : Int) := of_decide_eq_true (by assumption)
    have q488 : x7_1 < (l0_1.length : Int) := of_decide_eq_true (by assumption)
    obtain ⟨ad488, e488, hx488_0, hx488_1, hx488_2⟩ := at_T43 HR0_1.out x7_1 p488 q488
    obtain rfl : ad487 = ad488 := (by injection e488)
    replace hx488_0 := pw_cell_below HB.out hx488_0
    replace hx488_1 := pw_cell_below HB.out hx488_1
    replace hx488_2 := pw_cell_below HB.out hx488_2
    replace p488 := eq_true p488
    replace q488 := eq_true q488
    go_wp2
    go_ret
    exact ⟨by first | rfl | (simp [errW_none, errW_some] <;> rfl) | (simp [*, errW_none, errW_some] <;> rfl), by exact uT HB.out⟩
   ·rw [if_neg c8] at H
    have c8b0 : (((rd_T43 l0_1 x7_1).f1) == a2) = false := beq_eq_false_iff_ne.mpr c8
    have c8b1 : (((rd_T43 l0_1 x7_1).f1) != a2) = true := bne_iff_ne.mpr c8
    by_cases c10 : ((rd_T43 l0_1 x7_1).f0) = a2
    ·rw [if_pos c10] at H
     have c10b0 : (((rd_T43 l0_1 x7_1).f0) == a2) = true := beq_iff_eq.mpr c10
     have c10b1 : (((rd_T43 l0_1 x7_1).f0) != a2) = false := bne_eq_false_iff_eq.mpr c10
     clear c10
     by_cases c11 : ((rd_T43 l0_1 x7_1).f1) = a1
     ·rw [if_pos c11] at H
      have c11b0 : (((rd_T43 l0_1 x7_1).f1) == a1) = true := beq_iff_eq.mpr c11
      have c11b1 : (((rd_T43 l0_1 x7_1).f1) != a1) = false := bne_eq_false_iff_eq.mpr c11
      clear c11
      obtain rfl := zOi H
      have hcz12_0 : wr.cell? ⟨gb486, 0, none⟩ = some (.int .i64 a0_0) := (zKc BK486.out 0).trans rfl
      have hcz12_1 : wr.cell? ⟨gb486, 1, none⟩ = some (.slice A0_1 l0_1.length c0_1) := (zKc BK486.out 1).trans rfl
      have hfz12_0 := zKf BK486.out 0
      have hfz12_1 := zKf BK486.out 1
      have p487 : 0 ≤ (x7_1 : Int) := of_decide_eq_true (by assumption)
      have q487 : x7_1 < (l0_1.length : Int) := of_decide_eq_true (by assumption)
      obtain ⟨ad487, e487, hx487_0, hx487_1, hx487_2⟩ := at_T43 HR0_1.out x7_1 p487 q487
      cases e487
      replace hx487_0 := pw_cell_below HB.out hx487_0
      replace hx487_1 := pw_cell_below HB.out hx487_1
      replace hx487_2 := pw_cell_below HB.out hx487_2
      replace p487 := eq_true p487
      replace q487 := eq_true q487
      have p488 : 0 ≤ (x7_1 : Int) := of_decide_eq_true (by assumption)
      have q488 : x7_1 < (l0_1.length : Int) := of_decide_eq_true (by assumption)
      obtain ⟨ad488, e488, hx488_0, hx488_1, hx488_2⟩ := at_T43 HR0_1.out x7_1 p488 q488
      obtain rfl : ad487 = ad488 := (by injection e488)
      replace hx488_0 := pw_cell_below HB.out hx488_0
      replace hx488_1 := pw_cell_below HB.out hx488_1
      replace hx488_2 := pw_cell_below HB.out hx488_2
      replace p488 := eq_true p488
      replace q488 := eq_true q488
      have p489 : 0 ≤ (x7_1 : Int) := of_decide_eq_true (by assumption)
      have q489 : x7_1 < (l0_1.length : Int) := of_decide_eq_true (by assumption)
      obtain ⟨ad489, e489, hx489_0, hx489_1, hx489_2⟩ := at_T43 HR0_1.out x7_1 p489 q489
      obtain rfl : ad487 = ad489 := (by injection e489)
      replace hx489_0 := pw_cell_below HB.out hx489_0
      replace hx489_1 := pw_cell_below HB.out hx489_1
      replace hx489_2 := pw_cell_below HB.out hx489_2
      replace p489 := eq_true p489
      replace q489 := eq_true q489
      have p490 : 0 ≤ (x7_1 : Int) := of_decide_eq_true (by assumption)
      have q490 : x7_1 < (l0_1.length : Int) := of_decide_eq_true (by assumption)
      obtain ⟨ad490, e490, hx490_0, hx490_1, hx490_2⟩ := at_T43 HR0_1.out x7_1 p490 q490
      obtain rfl : ad487 = ad490 := (by injection e490)
      replace hx490_0 := pw_cell_below HB.out hx490_0
      replace hx490_1 := pw_cell_below HB.out hx490_1
      replace hx490_2 := pw_cell_below HB.out hx490_2
      replace p490 := eq_true p490
      replace q490 := eq_true q490
      go_wp2
      go_ret
      exact ⟨by first | rfl | (simp [errW_none, errW_some] <;> rfl) | (simp [*, errW_none, errW_some] <;> rfl), by exact uT HB.out⟩
     ·rw [if_neg c11] at H
      have c11b0 : (((rd_T43 l0_1 x7_1).f1) == a1) = false := beq_eq_false_iff_ne.mpr c11
      have c11b1 : (((rd_T43 l0_1 x7_1).f1) != a1) = true := bne_iff_ne.mpr c11
      have H' := zMk H
      clear H
      have hcz13_0 : wr.cell? ⟨gb486, 0, none⟩ = some (.int .i64 a0_0) := (zKc BK486.out 0).trans rfl
      have hcz13_1 : wr.cell? ⟨gb486, 1, none⟩ = some (.slice A0_1 l0_1.length c0_1) := (zKc BK486.out 1).trans rfl
      have hfz13_0 := zKf BK486.out 0
      have hfz13_1 := zKf BK486.out 1
      have p487 : 0 ≤ (x7_1 : Int) := of_decide_eq_true (by assumption)
      have q487 : x7_1 < (l0_1.length : Int) := of_decide_eq_true (by assumption)
      obtain ⟨ad487, e487, hx487_0, hx487_1, hx487_2⟩ := at_T43 HR0_1.out x7_1 p487 q487
      cases e487
      replace hx487_0 := pw_cell_below HB.out hx487_0
      replace hx487_1 := pw_cell_below HB.out hx487_1
      replace hx487_2 := pw_cell_below HB.out hx487_2
      replace p487 := eq_true p487
      replace q487 := eq_true q487
      have p488 : 0 ≤ (x7_1 : Int) := of_decide_eq_true (by assumption)
      have q488 : x7_1 < (l0_1.length : Int) := of_decide_eq_true (by assumption)
      obtain ⟨ad488, e488, hx488_0, hx488_1, hx488_2⟩ := at_T43 HR0_1.out x7_1 p488 q488
      obtain rfl : ad487 = ad488 := (by injection e488)
      replace hx488_0 := pw_cell_below HB.out hx488_0
      replace hx488_1 := pw_cell_below HB.out hx488_1
      replace hx488_2 := pw_cell_below HB.out hx488_2
      replace p488 := eq_true p488
      replace q488 := eq_true q488
      have p489 : 0 ≤ (x7_1 : Int) := of_decide_eq_true (by assumption)
      have q489 : x7_1 < (l0_1.length : Int) := of_decide_eq_true (by assumption)
      obtain ⟨ad489, e489, hx489_0, hx489_1, hx489_2⟩ := at_T43 HR0_1.out x7_1 p489 q489
      obtain rfl : ad487 = ad489 := (by injection e489)
      replace hx489_0 := pw_cell_below HB.out hx489_0
      replace hx489_1 := pw_cell_below HB.out hx489_1
      replace hx489_2 := pw_cell_below HB.out hx489_2
      replace p489 := eq_true p489
      replace q489 := eq_true q489
      have p490 : 0 ≤ (x7_1 : Int) := of_decide_eq_true (by assumption)
      have q490 : x7_1 < (l0_1.length : Int) := of_decide_eq_true (by assumption)
      obtain ⟨ad490, e490, hx490_0, hx490_1, hx490_2⟩ := at_T43 HR0_1.out x7_1 p490 q490
      obtain rfl : ad487 = ad490 := (by injection e490)
      replace hx490_0 := pw_cell_below HB.out hx490_0
      replace hx490_1 := pw_cell_below HB.out hx490_1
      replace hx490_2 := pw_cell_below HB.out hx490_2
      replace p490 := eq_true p490
      replace q490 := eq_true q490
      go_wp2
      go_roundg k1
      case measure => have := HK1.out; omega
      case rel => exact ⟨(wrap64 (x7_1 + 1)), (by first | rfl | (simp; done) | (simp [*]; done)), H', ⟨by have := HK1.out; omega⟩, ⟨by (with_reducible repeat (first | refine zKn ?_ _ | refine zKd ?_ | refine zKa ?_ _)); exact BK486.out⟩, ⟨by exact uT HB.out⟩⟩
    ·rw [if_neg c10] at H
     have c10b0 : (((rd_T43 l0_1 x7_1).f0) == a2) = false := beq_eq_false_iff_ne.mpr c10
     have c10b1 : (((rd_T43 l0_1 x7_1).f0) != a2) = true := bne_iff_ne.mpr c10
     have H' := zMk H
     clear H
     have hcz14_0 : wr.cell? ⟨gb486, 0, none⟩ = some (.int .i64 a0_0) := (zKc BK486.out 0).trans rfl
     have hcz14_1 : wr.cell? ⟨gb486, 1, none⟩ = some (.slice A0_1 l0_1.length c0_1) := (zKc BK486.out 1).trans rfl
     have hfz14_0 := zKf BK486.out 0
     have hfz14_1 := zKf BK486.out 1
     have p487 : 0 ≤ (x7_1 : Int) := of_decide_eq_true (by assumption)
     have q487 : x7_1 < (l0_1.length : Int) := of_decide_eq_true (by assumption)
     obtain ⟨ad487, e487, hx487_0, hx487_1, hx487_2⟩ := at_T43 HR0_1.out x7_1 p487 q487
     cases e487
     replace hx487_0 := pw_cell_below HB.out hx487_0
     replace hx487_1 := pw_cell_below HB.out hx487_1
     replace hx487_2 := pw_cell_below HB.out hx487_2
     replace p487 := eq_true p487
     replace q487 := eq_true q487
     have p488 : 0 ≤ (x7_1 : Int) := of_decide_eq_true (by assumption)
     have q488 : x7_1 < (l0_1.length : Int) := of_decide_eq_true (by assumption)
     obtain ⟨ad488, e488, hx488_0, hx488_1, hx488_2⟩ := at_T43 HR0_1.out x7_1 p488 q488
     obtain rfl : ad487 = ad488 := (by injection e488)
     replace hx488_0 := pw_cell_below HB.out hx488_0
     replace hx488_1 := pw_cell_below HB.out hx488_1
     replace hx488_2 := pw_cell_below HB.out hx488_2
     replace p488 := eq_true p488
     replace q488 := eq_true q488
     have p489 : 0 ≤ (x7_1 : Int) := of_decide_eq_true (by assumption)
     have q489 : x7_1 < (l0_1.length : Int) := of_decide_eq_true (by assumption)
     obtain ⟨ad489, e489, hx489_0, hx489_1, hx489_2⟩ := at_T43 HR0_1.out x7_1 p489 q489
     obtain rfl : ad487 = ad489 := (by injection e489)
     replace hx489_0 := pw_cell_below HB.out hx489_0
     replace hx489_1 := pw_cell_below HB.out hx489_1
     replace hx489_2 := pw_cell_below HB.out hx489_2
     replace p489 := eq_true p489
     replace q489 := eq_true q489
     go_wp2
     go_roundg k1
     case measure => have := HK1.out; omega
     case rel => exact ⟨(wrap64 (x7_1 + 1)), (by first | rfl | (simp; done) | (simp [*]; done)), H', ⟨by have := HK1.out; omega⟩, ⟨by (with_reducible repeat (first | refine zKn ?_ _ | refine zKd ?_ | refine zKa ?_ _)); exact BK486.out⟩, ⟨by exact uT HB.out⟩⟩
  ·rw [if_neg c7] at H
   have c7b0 : (((rd_T43 l0_1 x7_1).f0) == a1) = false := beq_eq_false_iff_ne.mpr c7
   have c7b1 : (((rd_T43 l0_1 x7_1).f0) != a1) = true := bne_iff_ne.mpr c7
   by_cases c15 : ((rd_T43 l0_1 x7_1).f0) = a2
   ·rw [if_pos c15] at H
    have c15b0 : (((rd_T43 l0_1 x7_1).f0) == a2) = true := beq_iff_eq.mpr c15
    have c15b1 : (((rd_T43 l0_1 x7_1).f0) != a2) = false := bne_eq_false_iff_eq.mpr c15
    clear c15
    by_cases c16 : ((rd_T43 l0_1 x7_1).f1) = a1
    ·rw [if_pos c16] at H
     have c16b0 : (((rd_T43 l0_1 x7_1).f1) == a1) = true := beq_iff_eq.mpr c16
     have c16b1 : (((rd_T43 l0_1 x7_1).f1) != a1) = false := bne_eq_false_iff_eq.mpr c16
     clear c16
     obtain rfl := zOi H
     have hcz17_0 : wr.cell? ⟨gb486, 0, none⟩ = some (.int .i64 a0_0) := (zKc BK486.out 0).trans rfl
     have hcz17_1 : wr.cell? ⟨gb486, 1, none⟩ = some (.slice A0_1 l0_1.length c0_1) := (zKc BK486.out 1).trans rfl
     have hfz17_0 := zKf BK486.out 0
     have hfz17_1 := zKf BK486.out 1
     have p487 : 0 ≤ (x7_1 : Int) := of_decide_eq_true (by assumption)
     have q487 : x7_1 < (l0_1.length : Int) := of_decide_eq_true (by assumption)
     obtain ⟨ad487, e487, hx487_0, hx487_1, hx487_2⟩ := at_T43 HR0_1.out x7_1 p487 q487
     cases e487
     replace hx487_0 := pw_cell_below HB.out hx487_0
     replace hx487_1 := pw_cell_below HB.out hx487_1
     replace hx487_2 := pw_cell_below HB.out hx487_2
     replace p487 := eq_true p487
     replace q487 := eq_true q487
     have p491 : 0 ≤ (x7_1 : Int) := of_decide_eq_true (by assumption)
     have q491 : x7_1 < (l0_1.length : Int) := of_decide_eq_true (by assumption)
     obtain ⟨ad491, e491, hx491_0, hx491_1, hx491_2⟩ := at_T43 HR0_1.out x7_1 p491 q491
     obtain rfl : ad487 = ad491 := (by injection e491)
     replace hx491_0 := pw_cell_below HB.out hx491_0
     replace hx491_1 := pw_cell_below HB.out hx491_1
     replace hx491_2 := pw_cell_below HB.out hx491_2
     replace p491 := eq_true p491
     replace q491 := eq_true q491
     have p492 : 0 ≤ (x7_1 : Int) := of_decide_eq_true (by assumption)
     have q492 : x7_1 < (l0_1.length : Int) := of_decide_eq_true (by assumption)
     obtain ⟨ad492, e492, hx492_0, hx492_1, hx492_2⟩ := at_T43 HR0_1.out x7_1 p492 q492
     obtain rfl : ad487 = ad492 := (by injection e492)
     replace hx492_0 := pw_cell_below HB.out hx492_0
     replace hx492_1 := pw_cell_below HB.out hx492_1
     replace hx492_2 := pw_cell_below HB.out hx492_2
     replace p492 := eq_true p492
     replace q492 := eq_true q492
     go_wp2
     go_ret
     exact ⟨by first | rfl | (simp [errW_none, errW_some] <;> rfl) | (simp [*, errW_none, errW_some] <;> rfl), by exact uT HB.out⟩
    ·rw [if_neg c16] at H
     have c16b0 : (((rd_T43 l0_1 x7_1).f1) == a1) = false := beq_eq_false_iff_ne.mpr c16
     have c16b1 : (((rd_T43 l0_1 x7_1).f1) != a1) = true := bne_iff_ne.mpr c16
     have H' := zMk H
     clear H
     have hcz18_0 : wr.cell? ⟨gb486, 0, none⟩ = some (.int .i64 a0_0) := (zKc BK486.out 0).trans rfl
     have hcz18_1 : wr.cell? ⟨gb486, 1, none⟩ = some (.slice A0_1 l0_1.length c0_1) := (zKc BK486.out 1).trans rfl
     have hfz18_0 := zKf BK486.out 0
     have hfz18_1 := zKf BK486.out 1
     have p487 : 0 ≤ (x7_1 : Int) := of_decide_eq_true (by assumption)
     have q487 : x7_1 < (l0_1.length : Int) := of_decide_eq_true (by assumption)
     obtain ⟨ad487, e487, hx487_0, hx487_1, hx487_2⟩ := at_T43 HR0_1.out x7_1 p487 q487
     cases e487
     replace hx487_0 := pw_cell_below HB.out hx487_0
     replace hx487_1 := pw_cell_below HB.out hx487_1
     replace hx487_2 := pw_cell_below HB.out hx487_2
     replace p487 := eq_true p487
     replace q487 := eq_true q487
     have p491 : 0 ≤ (x7_1 : Int) := of_decide_eq_true (by assumption)
     have q491 : x7_1 < (l0_1.length : Int) := of_decide_eq_true (by assumption)
     obtain ⟨ad491, e491, hx491_0, hx491_1, hx491_2⟩ := at_T43 HR0_1.out x7_1 p491 q491
     obtain rfl : ad487 = ad491 := (by injection e491)
     replace hx491_0 := pw_cell_below HB.out hx491_0
     replace hx491_1 := pw_cell_below HB.out hx491_1
     replace hx491_2 := pw_cell_below HB.out hx491_2
     replace p491 := eq_true p491
     replace q491 := eq_true q491
     have p492 : 0 ≤ (x7_1 : Int) := of_decide_eq_true (by assumption)
     have q492 : x7_1 < (l0_1.length : Int) := of_decide_eq_true (by assumption)
     obtain ⟨ad492, e492, hx492_0, hx492_1, hx492_2⟩ := at_T43 HR0_1.out x7_1 p492 q492
     obtain rfl : ad487 = ad492 := (by injection e492)
     replace hx492_0 := pw_cell_below HB.out hx492_0
     replace hx492_1 := pw_cell_below HB.out hx492_1
     replace hx492_2 := pw_cell_below HB.out hx492_2
     replace p492 := eq_true p492
     replace q492 := eq_true q492
     go_wp2
     go_roundg k1
     case measure => have := HK1.out; omega
     case rel => exact ⟨(wrap64 (x7_1 + 1)), (by first | rfl | (simp; done) | (simp [*]; done)), H', ⟨by have := HK1.out; omega⟩, ⟨by (with_reducible repeat (first | refine zKn ?_ _ | refine zKd ?_ | refine zKa ?_ _)); exact BK486.out⟩, ⟨by exact uT HB.out⟩⟩
   ·rw [if_neg c15] at H
    have c15b0 : (((rd_T43 l0_1 x7_1).f0) == a2) = false := beq_eq_false_iff_ne.mpr c15
    have c15b1 : (((rd_T43 l0_1 x7_1).f0) != a2) = true := bne_iff_ne.mpr c15
    have H' := zMk H
    clear H
    have hcz19_0 : wr.cell? ⟨gb486, 0, none⟩ = some (.int .i64 a0_0) := (zKc BK486.out 0).trans rfl
    have hcz19_1 : wr.cell? ⟨gb486, 1, none⟩ = some (.slice A0_1 l0_1.length c0_1) := (zKc BK486.out 1).trans rfl
    have hfz19_0 := zKf BK486.out 0
    have hfz19_1 := zKf BK486.out 1
    have p487 : 0 ≤ (x7_1 : Int) := of_decide_eq_true (by assumption)
    have q487 : x7_1 < (l0_1.length : Int) := of_decide_eq_true (by assumption)
    obtain ⟨ad487, e487, hx487_0, hx487_1, hx487_2⟩ := at_T43 HR0_1.out x7_1 p487 q487
    cases e487
    replace hx487_0 := pw_cell_below HB.out hx487_0
    replace hx487_1 := pw_cell_below HB.out hx487_1
    replace hx487_2 := pw_cell_below HB.out hx487_2
    replace p487 := eq_true p487
    replace q487 := eq_true q487
    have p491 : 0 ≤ (x7_1 : Int) := of_decide_eq_true (by assumption)
    have q491 : x7_1 < (l0_1.length : Int) := of_decide_eq_true (by assumption)
    obtain ⟨ad491, e491, hx491_0, hx491_1, hx491_2⟩ := at_T43 HR0_1.out x7_1 p491 q491
    obtain rfl : ad487 = ad491 := (by injection e491)
    replace hx491_0 := pw_cell_below HB.out hx491_0
    replace hx491_1 := pw_cell_below HB.out hx491_1
    replace hx491_2 := pw_cell_below HB.out hx491_2
    replace p491 := eq_true p491
    replace q491 := eq_true q491
    go_wp2
    go_roundg k1
    case measure => have := HK1.out; omega
    case rel => exact ⟨(wrap64 (x7_1 + 1)), (by first | rfl | (simp; done) | (simp [*]; done)), H', ⟨by have := HK1.out; omega⟩, ⟨by (with_reducible repeat (first | refine zKn ?_ _ | refine zKd ?_ | refine zKa ?_ _)); exact BK486.out⟩, ⟨by exact uT HB.out⟩⟩
 ·rw [if_neg c5] at H
  have c5b0 : decide (x7_1 < (l0_1.length : Int)) = false := decide_eq_false c5
  clear c5
  obtain rfl := zOi H
  have hcz20_0 : wr.cell? ⟨gb486, 0, none⟩ = some (.int .i64 a0_0) := (zKc BK486.out 0).trans rfl
  have hcz20_1 : wr.cell? ⟨gb486, 1, none⟩ = some (.slice A0_1 l0_1.length c0_1) := (zKc BK486.out 1).trans rfl
  have hfz20_0 := zKf BK486.out 0
  have hfz20_1 := zKf BK486.out 1
  go_wp2
  go_ret
  exact ⟨by first | rfl | (simp [errW_none, errW_some] <;> rfl) | (simp [*, errW_none, errW_some] <;> rfl), by exact uT HB.out⟩


mutual
def r4_Near.l0 : Nat → List (List Int) → Int → Int → List (S43) → Option ((List (List Int)))
 | 0, _, _, _, _ => none
 | k + 1, x3, x4, x494000, x494001 => if x4 < x494000 then (r4_Near.l1 k x3 x4 0 x494000 x494001) else (some x3)
def r4_Near.l1 : Nat → List (List Int) → Int → Int → Int → List (S43) → Option ((List (List Int)))
 | 0, _, _, _, _, _ => none
 | k + 1, x3, x4, x5, x494000, x494001 => if x5 < x494000 then ((r4_Find.f k x494000 x494001 x4 x5).bind fun t497 => (if t497 ≥ 0 then (if 0 ≤ x4 then (if x4 < (x3.length : Int) then (if (rd_L4 x3 x4).length < 17592186044416 then (r4_Near.l1 k (x3.set (x4 : Int).toNat ((rd_L4 x3 x4) ++ [x5])) x4 (wrap64 (x5 + 1)) x494000 x494001) else (none)) else (none)) else (none)) else (r4_Near.l1 k x3 x4 (wrap64 (x5 + 1)) x494000 x494001))) else (r4_Near.l0 k x3 (wrap64 (x4 + 1)) x494000 x494001)
end
def r4_Near.f (k : Nat) (a0_0 : Int) (l0_1 : List (S43)) : Option ((List (List Int))) := if 0 ≤ a0_0 then (if (a0_0 : Int).toNat ≤ 11728124029610 then (r4_Near.l0 k (List.replicate (a0_0 : Int).toNat []) 0 a0_0 l0_1) else (none)) else (none)
theorem r4_Near.calls (k : Nat) (a0_0 : Int) (A0_1 : Option Addr) (c0_1 : Nat) (l0_1 : List (S43)) (r : List (List Int)) (w : World) (hr0_1 : Kd.C k43 w A0_1 l0_1.length l0_1) (hc0_1 : l0_1.length ≤ c0_1) (h : r4_Near.f k a0_0 l0_1 = some r) :
  Calls Try.prog 32 #[.agg #[.int .i64 a0_0, .slice A0_1 l0_1.length c0_1]] w fun e w' => ∃ v0_ : Value, e = .returned (v0_) ∧ Kd.S (Kd.slice 3 (Kd.int .i64)) 33 w' w.heap.size (fun _ => True) v0_ r ∧ Below w.heap.size w w' := by
 have hu24 := Try.underlying24
 have HR0_1 := zMk hr0_1
 have HC0_1 := zMk hc0_1
 clear hr0_1 hc0_1
 have HB := zMk (Below.refl w.heap.size w)
 have H : (if 0 ≤ a0_0 then (if (a0_0 : Int).toNat ≤ 11728124029610 then (r4_Near.l0 k (List.replicate (a0_0 : Int).toNat []) 0 a0_0 l0_1) else (none)) else (none)) = some r := h
 clear h
 by_cases c2 : 0 ≤ a0_0
 ·rw [if_pos c2] at H
  have c2b0 := eq_true c2
  have c2b1 : decide (0 ≤ a0_0) = true := decide_eq_true c2
  clear c2
  by_cases c3 : (a0_0 : Int).toNat ≤ 11728124029610
  rotate_left
  ·rw [if_neg c3] at H; exact absurd H (by simp)
  rw [if_pos c3] at H
  have c3b0 := eq_true c3
  have c3b1 : decide ((a0_0 : Int).toNat ≤ 11728124029610) = true := decide_eq_true c3
  clear c3
  obtain ⟨y494, hy494⟩ : ∃ y_ : List (List Int), y_ = (List.replicate (a0_0 : Int).toNat []) := ⟨_, rfl⟩
  replace H : (r4_Near.l0 k y494 0 a0_0 l0_1) = some r := by first | (rw [hy494]; with_reducible exact H) | (have H2_ := bsm H; first | (rw [hy494]; with_reducible exact H2_) | with_reducible exact H2_) | with_reducible exact H | (rw [hy494]; exact H) | exact H
  have Ny494 := zMk hy494
  clear hy494
  have H' := zMk H
  clear H
  go_enter Try.func32, Try.ntmps32
  go_wp2_with (first | ((with_reducible refine gate_dst (N:=1) rfl ?_); refine box_event ?hg (N:=1) ?hd (cs:=#[.int .i64 a0_0, .slice A0_1 l0_1.length c0_1]) (t:=24) ?hr ?_; (case hd => rfl); (case hg => rfl); (case hr => first | (go_simp; done)|(go_simp; rfl)|(go_simp; rw [show ∀ x : Int, IntKind.u32.wrap (IntKind.u8.wrap x) = x % 256 from fun x => (by show (x % 256) % 4294967296 = x % 256; omega)])); intro gb493 hg w4 hbox hb; have BK493 := zMk (hbox); have GW493 := zMk ((by rw [hg]; exact (zBs (by exact uT HB.out)) : w.heap.size ≤ gb493)); have GE493 := zMk ((by rw [hg]; exact (zBs (by exact uT HB.out)) : w.heap.size ≤ gb493)); have IGE493 := ownGe GE493.out; replace HB := zMk (zBt (by exact uT HB.out) hb); clear hb hbox hg; have hcz5_0 : w4.cell? ⟨gb493, 0, none⟩ = some (.int .i64 a0_0) := (zKc BK493.out 0).trans rfl; have hcz5_1 : w4.cell? ⟨gb493, 1, none⟩ = some (.slice A0_1 l0_1.length c0_1) := (zKc BK493.out 1).trans rfl; have hfz5_0 := zKf BK493.out 0; have hfz5_1 := zKf BK493.out 1)|((with_reducible refine gate_dst (N:=8) rfl ?_); refine Kd.S_make (Kd.slice 3 (Kd.int .i64)) _ 33 rfl (N:=8) rfl 29 _ _ rfl a0_0 rfl rfl Try.underlying29 (.slice none 0 0) 24 info33 rfl (by decide) (by omega) [] (ok:=fun _ => True) (okp:=fun _ => True) ⟨_, rfl, Kd.R_nil _ _ _ _ _⟩ (fun _ hk => hk) trivial (of_decide_eq_true (by first | (with_reducible assumption)|  assumption)) (Nat.le_trans (Nat.mul_le_mul_right _ (of_decide_eq_true (by first | (with_reducible assumption)|  assumption) : a0_0.toNat ≤ 11728124029610)) (by omega)) (Below.refl _ _) (Nat.le_refl _) ?_; intro v495 w6 ho7 hb hg_ hnew_; clear hg_ hnew_; (first |  rw [← Ny494.out] at ho7|  (simp only [Int.reduceToNat] at ho7; rw [← Ny494.out] at ho7)); have HO496 := zMk (Kd.S_lower ho7 (zBs (by exact uT HB.out))); replace BK493 := zMk (zKb (g:=gb493) (o:=.cells #[.int .i64 a0_0, .slice A0_1 l0_1.length c0_1] 24 (0, 0)) (by (with_reducible repeat (first |  refine zKn ?_ _|  refine zKd ?_|  refine zKa ?_ _)); exact BK493.out) hb); replace HB := zMk (zBt (by exact uT HB.out) hb); clear hb ho7))
  go_loopg [4] k (fun kq v4 w' => ∃ (x3_1 : List (List Int)) (x4_1 : Int), v4 = .int .i64 x4_1 ∧ Aside0 (r4_Near.l0 kq x3_1 x4_1 a0_0 l0_1 = some r) ∧ Aside0 (kq ≤ k) ∧ Aside0 (Kd.S (Kd.slice 3 (Kd.int .i64)) 33 w' w.heap.size (fun _ => True) v495 x3_1) ∧ Aside0 (w'.heap[gb493]? = some (.cells #[.int .i64 a0_0, (.slice A0_1 l0_1.length c0_1)] 24 (0, 0))) ∧ Aside0 (Below w.heap.size w w'))
  case atStart => exact ⟨(y494), (0), (by first | rfl | (simp; done) | (simp [*]; done)), H', ⟨Nat.le_refl _⟩, ⟨by (with_reducible repeat (first | apply Kd.S_alloc | apply Kd.S_drewN | apply Kd.S_drew)); exact HO496.out⟩, ⟨by (with_reducible repeat (first | refine zKn ?_ _ | refine zKd ?_ | refine zKa ?_ _)); exact BK493.out⟩, ⟨by exact uT HB.out⟩⟩
  clear H'
  obtain ⟨x3_1, x4_1, rfl, HA, HK1, HO_3, BK493, HB⟩ := hrel
  rcases gk with _ | k1
  ·exact absurd HA.out (by simp [r4_Near.l0])
  have H := HA.out
  clear HA
  simp only [r4_Near.l0] at H
  by_cases c8 : x4_1 < a0_0
  ·rw [if_pos c8] at H
   have c8b0 : decide (x4_1 < a0_0) = true := decide_eq_true c8
   clear c8
   have H' := zMk H
   clear H
   have hcz9_0 : wr.cell? ⟨gb493, 0, none⟩ = some (.int .i64 a0_0) := (zKc BK493.out 0).trans rfl
   have hcz9_1 : wr.cell? ⟨gb493, 1, none⟩ = some (.slice A0_1 l0_1.length c0_1) := (zKc BK493.out 1).trans rfl
   have hfz9_0 := zKf BK493.out 0
   have hfz9_1 := zKf BK493.out 1
   go_wp2
   go_loopg [5] k1 (fun kq v5 w' => ∃ (x3_2 : List (List Int)) (x5_2 : Int), v5 = .int .i64 x5_2 ∧ Aside0 (r4_Near.l1 kq x3_2 x4_1 x5_2 a0_0 l0_1 = some r) ∧ Aside0 (kq ≤ k1) ∧ Aside0 (Kd.S (Kd.slice 3 (Kd.int .i64)) 33 w' w.heap.size (fun _ => True) v495 x3_2) ∧ Aside0 (w'.heap[gb493]? = some (.cells #[.int .i64 a0_0, (.slice A0_1 l0_1.length c0_1)] 24 (0, 0))) ∧ Aside0 (Below w.heap.size w w'))
   case atStart => exact ⟨(x3_1), (0), (by first | rfl | (simp; done) | (simp [*]; done)), H', ⟨Nat.le_refl _⟩, ⟨by (with_reducible repeat (first | apply Kd.S_alloc | apply Kd.S_drewN | apply Kd.S_drew)); exact HO_3.out⟩, ⟨by (with_reducible repeat (first | refine zKn ?_ _ | refine zKd ?_ | refine zKa ?_ _)); exact BK493.out⟩, ⟨by exact uT HB.out⟩⟩
   clear H'
   obtain ⟨x3_2, x5_2, rfl, HA, HK2, HO_3, BK493, HB⟩ := hrel
   rcases gk with _ | k2
   ·exact absurd HA.out (by simp [r4_Near.l1])
   have H := HA.out
   clear HA
   simp only [r4_Near.l1] at H
   by_cases c10 : x5_2 < a0_0
   ·rw [if_pos c10] at H
    have c10b0 : decide (x5_2 < a0_0) = true := decide_eq_true c10
    clear c10
    replace H := bnd H
    obtain ⟨t497, A110, H⟩ := H
    have A11 := zMk A110
    clear A110
    by_cases c12 : t497 ≥ 0
    ·rw [if_pos c12] at H
     have c12b0 : decide (0 ≤ t497) = true := decide_eq_true c12
     clear c12
     by_cases c13 : 0 ≤ x4_1
     rotate_left
     ·rw [if_neg c13] at H; exact absurd H (by simp)
     rw [if_pos c13] at H
     have c13b0 : decide (0 ≤ x4_1) = true := decide_eq_true c13
     clear c13
     by_cases c14 : x4_1 < (x3_2.length : Int)
     rotate_left
     ·rw [if_neg c14] at H; exact absurd H (by simp)
     rw [if_pos c14] at H
     have c14b0 : decide (x4_1 < (x3_2.length : Int)) = true := decide_eq_true c14
     clear c14
     by_cases c15 : (rd_L4 x3_2 x4_1).length < 17592186044416
     rotate_left
     ·rw [if_neg c15] at H; exact absurd H (by simp)
     rw [if_pos c15] at H
     have LMc15 := zMk c15
     clear c15
     obtain ⟨y499, hy499⟩ : ∃ y_ : List Int, y_ = ((rd_L4 x3_2 x4_1) ++ [x5_2]) := ⟨_, rfl⟩
     replace H : (r4_Near.l1 k2 (x3_2.set (x4_1 : Int).toNat y499) x4_1 (wrap64 (x5_2 + 1)) a0_0 l0_1) = some r := by first | (rw [hy499]; with_reducible exact H) | (have H2_ := bsm H; first | (rw [hy499]; with_reducible exact H2_) | with_reducible exact H2_) | with_reducible exact H | (rw [hy499]; exact H) | exact H
     have Ny499 := zMk hy499
     clear hy499
     obtain ⟨y502, hy502⟩ : ∃ y_ : List (List Int), y_ = (x3_2.set (x4_1 : Int).toNat y499) := ⟨_, rfl⟩
     replace H : (r4_Near.l1 k2 y502 x4_1 (wrap64 (x5_2 + 1)) a0_0 l0_1) = some r := by first | (rw [hy502]; with_reducible exact H) | (have H2_ := bsm H; first | (rw [hy502]; with_reducible exact H2_) | with_reducible exact H2_) | with_reducible exact H | (rw [hy502]; exact H) | exact H
     have Ny502 := zMk hy502
     clear hy502
     have H' := zMk H
     clear H
     have hcz17_0 : wr.cell? ⟨gb493, 0, none⟩ = some (.int .i64 a0_0) := (zKc BK493.out 0).trans rfl
     have hcz17_1 : wr.cell? ⟨gb493, 1, none⟩ = some (.slice A0_1 l0_1.length c0_1) := (zKc BK493.out 1).trans rfl
     have hfz17_0 := zKf BK493.out 0
     have hfz17_1 := zKf BK493.out 1
     go_wp2_with (first | ((with_reducible refine gate_callee (f:=38) rfl ?_); refine goesL_ (some 24) rfl rfl Try.func38 (by kernel_rfl) rfl #[.agg #[.int .i64 a0_0, .slice A0_1 l0_1.length c0_1], .int .i64 x4_1, .int .i64 x5_2] rfl (by (try simp only [zMa, zMc, zMn]); first |  done|  rfl|  (simp only [zLd, zLt]; rfl)) ?_; (with_reducible refine (r4_Find.calls k2 a0_0 _ _ l0_1 x4_1 x5_2 t497 _ ?side1 ?side2 A11.out).mono ?_); (case side1 => repeat (first |  exact (Kd.C_below HR0_1.out HB.out)|(with_reducible refine zCa ?_ _)|(with_reducible refine zCn ?_ _)|(with_reducible refine zCd ?_))); (case side2 => exact HC0_1.out); rintro e w18 ⟨rfl, hb⟩; refine ⟨_, rfl, ?_⟩; replace HO_3 := zMk (Kd.S_below (by (with_reducible repeat (first |  apply Kd.S_alloc|  apply Kd.S_drewN|  apply Kd.S_drew)); exact HO_3.out) hb); replace BK493 := zMk (zKb (g:=gb493) (o:=.cells #[.int .i64 a0_0, .slice A0_1 l0_1.length c0_1] 24 (0, 0)) (by (with_reducible repeat (first |  refine zKn ?_ _|  refine zKd ?_|  refine zKa ?_ _)); exact BK493.out) hb); replace HB := zMk (zBt (by exact uT HB.out) hb); obtain ⟨Ao19, co19, eo19⟩ := Kd.S_slice HO_3.out; subst eo19; have p498 : 0 ≤ (x4_1 : Int) := of_decide_eq_true (by first | (with_reducible assumption)|  assumption); have q498 : x4_1 < (x3_2.length : Int) := of_decide_eq_true (by first | (with_reducible assumption)|  assumption); obtain ⟨ad498, A498_0, c498_0, e498, hx498_0, hl498_0, hi498_0⟩ := at_L4 (Kd.S_reads' HO_3.out).2.2 x4_1 p498 q498; cases e498; obtain ⟨ce498, hce498, hMe498, hcc498⟩ := Kd.S_get HO_3.out [] x4_1 p498 (by first |  exact q498|  exact of_decide_eq_true (by first | (with_reducible assumption)|  assumption)|(have e_ := (Kd.S_reads' HO_3.out).1; omega)); obtain ⟨ve498_0, rfl, ge498_0⟩ := hMe498; have hv498_0 := hcc498 0 _ rfl; rw [Nat.add_zero, show ((Kd.slice 3 (Kd.int .i64))).sz = 1 from rfl, Nat.mul_one] at hv498_0; replace hv498_0 := zOi (hv498_0.symm.trans hx498_0); rw [hv498_0] at ge498_0; have HL498_0 := zMk (show Kd.R (Kd.int .i64) 3 _ _ _ _ (rd_L4 x3_2 x4_1) from ge498_0); clear hv498_0 ge498_0; have HX498_0 := zMk hx498_0; clear hcc498 hce498; have HR498_0 := zMk hi498_0; have HC498_0 := zMk hl498_0; clear hi498_0 hl498_0; replace p498 := eq_true p498; replace q498 := eq_true q498; obtain ⟨go20, co20, eo20, gb20, gl20, cl20, HG20⟩ := Kd.S_form HO_3.out (by have h_ : (x4_1 : Int) < ((x3_2.length : Int) : Int) := of_decide_eq_true (by first | (with_reducible assumption)|  assumption); have h2_ : 0 ≤ (x4_1 : Int) := (of_decide_eq_true (by first | (with_reducible assumption)|  assumption)); omega); (first |  cases eo20|  (injection eo20 with ea_ en_ ec_; (first |  subst ea_|  (injection ea_ with ea_; subst ea_)); subst ec_; clear en_)); have GB20 := zMk gb20; have IGB20 := ownGe GB20.out; have GG20 := zMk HG20; clear gb20 gl20 HG20; (first |  simp only [add_plain] at hx498_0|  skip); obtain ⟨oki20, ce20, hcl20, hM20, hcc20, _, _, hH20⟩ := Kd.S_elem HO_3.out [] (x4_1 : Int) (of_decide_eq_true (by first | (with_reducible assumption)|  assumption)) (by have h_ : (x4_1 : Int) < ((x3_2.length : Int) : Int) := of_decide_eq_true (by first | (with_reducible assumption)|  assumption); first |  exact h_|  (have e_ := (Kd.S_reads' HO_3.out).1; omega)|  simpa using h_); obtain ⟨ve20_0, rfl, ge20_0⟩ := hM20; have hv20 := hcc20 0 _ rfl; have hX20 := HX498_0.out; (try simp only [add_plain] at hX20); (try simp only [Nat.add_zero] at hv20); (try rw [show ((Kd.slice 3 (Kd.int .i64))).sz = 1 from rfl, Nat.mul_one] at hv20); replace hv20 := zOi (hv20.symm.trans hX20); subst hv20; clear hX20 hcc20 hcl20; have UU20 := zMk (show Kd.R (Kd.int .i64) 3 _ w.heap.size oki20 (.slice A498_0 (rd_L4 x3_2 x4_1).length c498_0) (rd_L4 x3_2 x4_1) from ge20_0); have HH20 := zMk hH20; have HN20 := zMk (Kd.S_reads' HO_3.out).1; clear hH20 ge20_0)|((with_reducible refine gate_builtin (b:=.append) (xs:=#[.tmp 31, .tmp 33]) rfl ?_); at_builtin; refine Kd.R_append (Kd.int .i64) (w0:=w) w.heap.size rfl (.tmp 31) (.tmp 33) 33 3 (.int .i64 0) 8 rfl Try.underlying33 info3 rfl (by decide) (by omega) (.slice A498_0 (rd_L4 x3_2 x4_1).length c498_0) (rd_L4 x3_2 x4_1) x5_2 [.int .i64 x5_2] (fun k_ => oki20 k_ ∨ ((fun _ => True)) k_ ∧ w18.heap.size ≤ k_) (fun _ => False) rfl rfl ?aP (fun _ hk => hk.elim) ?aF ?aO ?aB ?aS ?aL ?_; (case aP => exact rfl); (case aB => exact (by exact uT HB.out)); (case aF => exact (fun k_ hk => .inr ⟨trivial, hk⟩)); (case aO => exact (by (with_reducible repeat (first |  apply zRa|  apply zRn|  apply zRd)); exact zRm UU20.out (fun _ hk => .inl hk))); (case aS => exact (zBs (by exact uT HB.out))); (case aL => have := LMc15.out; omega); intro v500 w21 ho hb hg hat; rw [← Ny499.out] at ho; replace BK493 := zMk (blk_grown (g:=gb493) (o:=.cells #[.int .i64 a0_0, .slice A0_1 l0_1.length c0_1] 24 (0, 0)) (by (with_reducible repeat (first |  refine zKn ?_ _|  refine zKd ?_|  refine zKa ?_ _)); exact BK493.out) hg (Kd.R_ne HL498_0.out BK493.out (by decide))); replace HB := zMk (hb); replace HH20 := zMk (Kd.H_grown (Kd.H_widen (by repeat (first |  exact HH20.out|  refine Kd.H_alloc ?_ _|  refine Kd.H_drewN ?_ _|  refine Kd.H_drew ?_))) hg (fun k_ e_ => .inl (UU20.out.1 k_ e_))); have HO501 := zMk (ho); clear HO_3 UU20 HL498_0 ho hb hg hat; have p16 : 0 ≤ (x4_1 : Int) := of_decide_eq_true (by first | (with_reducible assumption)|  assumption); have q16 : (x4_1 : Int) < ((x3_2.length : Int) : Int) := of_decide_eq_true (by first | (with_reducible assumption)|  assumption); replace p16 := eq_true p16; replace q16 := eq_true q16; obtain ⟨Ao24, co24, eo24⟩ := zRs HO501.out; subst eo24; obtain ⟨_, _, hraw22, _, _, hcc22, _⟩ := Kd.H_raw HH20.out (of_decide_eq_true (by first | (with_reducible assumption)|  assumption)) (by have h_ : (x4_1 : Int) < ((x3_2.length : Int) : Int) := of_decide_eq_true (by first | (with_reducible assumption)|  assumption); first |  exact h_|  (have e_ := (HN20.out); omega)|  simpa using h_); obtain ⟨_, hfr22⟩ := Kd.H_at HH20.out (of_decide_eq_true (by first | (with_reducible assumption)|  assumption)) (by have h_ : (x4_1 : Int) < ((x3_2.length : Int) : Int) := of_decide_eq_true (by first | (with_reducible assumption)|  assumption); first |  exact h_|  (have e_ := (HN20.out); omega)|  simpa using h_); have hx22_0 := hcc22 0 _ rfl; have hf22_0 := hfr22 0; (try simp only [Nat.add_zero] at hx22_0 hf22_0); (try rw [show ((Kd.slice 3 (Kd.int .i64))).sz = 1 from rfl, Nat.mul_one] at hx22_0); (try rw [show ((Kd.slice 3 (Kd.int .i64))).sz = 1 from rfl, Nat.mul_one] at hf22_0); have HP22 := Kd.S_seg0 HH20.out (of_decide_eq_true (by first | (with_reducible assumption)|  assumption)) (by have h_ : (x4_1 : Int) < ((x3_2.length : Int) : Int) := of_decide_eq_true (by first | (with_reducible assumption)|  assumption); first |  exact h_|  (have e_ := (HN20.out); omega)|  simpa using h_) (seg:=[.slice Ao24 y499.length co24]) (j:=0) (show 1 ≤ 1 from by decide) (x' := y499) (Kd.M_row HO501.out) (fun _ hk => hk); (try simp only [show ((Kd.slice 3 (Kd.int .i64))).sz = 1 from rfl, Nat.mul_one, Nat.add_zero] at HP22); clear hcc22 hfr22)|((with_reducible refine gate_store (t:=33) (p:=35) rfl ?_); refine store_event (t:=33) (p:=35) (v:=?vo_w23) (w1:=(w21.setCell ⟨go20, (x4_1 : Int).toNat, none⟩ (.slice Ao24 y499.length co24))) ?hg ?ho ?hn ?hr ?_; (case ho => rfl); (case hg => rfl); (case hn => rfl); (case hr => first | (go_simp; done)|(go_simp; rfl)|(go_simp; rw [show ∀ x : Int, IntKind.u32.wrap (IntKind.u8.wrap x) = x % 256 from fun x => (by show (x % 256) % 4294967296 = x % 256; omega)])); intro w23 hw; have hg : w21.grownBy w23 (some go20) := (by rw [hw]; exact HP22.2); have hp_ : Kd.S (Kd.slice 3 (Kd.int .i64)) 33 w23 w.heap.size (fun _ => True) (.slice (some ⟨go20, 0, none⟩) x3_2.length co19) y502 := (by rw [hw, Ny502.out]; exact HP22.1); clear HP22; replace BK493 := zMk (blk_grown (g:=gb493) (o:=.cells #[.int .i64 a0_0, .slice A0_1 l0_1.length c0_1] 24 (0, 0)) (by (with_reducible repeat (first |  refine zKn ?_ _|  refine zKd ?_|  refine zKa ?_ _)); exact BK493.out) hg (Kd.R_ne hraw22 BK493.out (by decide))); replace HB := zMk ((by rw [hw]; exact below_set HB.out GB20.out : Below w.heap.size w w23)); have HO_3 := zMk (hp_); clear HO501 HH20 hg hw hp_ hraw22))
     go_roundg k2
     case measure => have := HK1.out; have := HK2.out; omega
     case rel => exact ⟨(y502), (wrap64 (x5_2 + 1)), (by first | rfl | (simp; done) | (simp [*]; done)), H', ⟨by have := HK1.out; have := HK2.out; omega⟩, ⟨by (with_reducible repeat (first | apply Kd.S_alloc | apply Kd.S_drewN | apply Kd.S_drew)); exact HO_3.out⟩, ⟨by (with_reducible repeat (first | refine zKn ?_ _ | refine zKd ?_ | refine zKa ?_ _)); exact BK493.out⟩, ⟨by exact uT HB.out⟩⟩
    ·rw [if_neg c12] at H
     have c12b0 : decide (0 ≤ t497) = false := decide_eq_false c12
     clear c12
     have H' := zMk H
     clear H
     have hcz25_0 : wr.cell? ⟨gb493, 0, none⟩ = some (.int .i64 a0_0) := (zKc BK493.out 0).trans rfl
     have hcz25_1 : wr.cell? ⟨gb493, 1, none⟩ = some (.slice A0_1 l0_1.length c0_1) := (zKc BK493.out 1).trans rfl
     have hfz25_0 := zKf BK493.out 0
     have hfz25_1 := zKf BK493.out 1
     go_wp2_with (first | ((with_reducible refine gate_callee (f:=38) rfl ?_); refine goesL_ (some 24) rfl rfl Try.func38 (by kernel_rfl) rfl #[.agg #[.int .i64 a0_0, .slice A0_1 l0_1.length c0_1], .int .i64 x4_1, .int .i64 x5_2] rfl (by (try simp only [zMa, zMc, zMn]); first |  done|  rfl|  (simp only [zLd, zLt]; rfl)) ?_; (with_reducible refine (r4_Find.calls k2 a0_0 _ _ l0_1 x4_1 x5_2 t497 _ ?side1 ?side2 A11.out).mono ?_); (case side1 => repeat (first |  exact (Kd.C_below HR0_1.out HB.out)|(with_reducible refine zCa ?_ _)|(with_reducible refine zCn ?_ _)|(with_reducible refine zCd ?_))); (case side2 => exact HC0_1.out); rintro e w26 ⟨rfl, hb⟩; refine ⟨_, rfl, ?_⟩; replace HO_3 := zMk (Kd.S_below (by (with_reducible repeat (first |  apply Kd.S_alloc|  apply Kd.S_drewN|  apply Kd.S_drew)); exact HO_3.out) hb); replace BK493 := zMk (zKb (g:=gb493) (o:=.cells #[.int .i64 a0_0, .slice A0_1 l0_1.length c0_1] 24 (0, 0)) (by (with_reducible repeat (first |  refine zKn ?_ _|  refine zKd ?_|  refine zKa ?_ _)); exact BK493.out) hb); replace HB := zMk (zBt (by exact uT HB.out) hb)))
     go_roundg k2
     case measure => have := HK1.out; have := HK2.out; omega
     case rel => exact ⟨(x3_2), (wrap64 (x5_2 + 1)), (by first | rfl | (simp; done) | (simp [*]; done)), H', ⟨by have := HK1.out; have := HK2.out; omega⟩, ⟨by (with_reducible repeat (first | apply Kd.S_alloc | apply Kd.S_drewN | apply Kd.S_drew)); exact HO_3.out⟩, ⟨by (with_reducible repeat (first | refine zKn ?_ _ | refine zKd ?_ | refine zKa ?_ _)); exact BK493.out⟩, ⟨by exact uT HB.out⟩⟩
   ·rw [if_neg c10] at H
    have c10b0 : decide (x5_2 < a0_0) = false := decide_eq_false c10
    clear c10
    have H' := zMk H
    clear H
    have hcz27_0 : wr.cell? ⟨gb493, 0, none⟩ = some (.int .i64 a0_0) := (zKc BK493.out 0).trans rfl
    have hcz27_1 : wr.cell? ⟨gb493, 1, none⟩ = some (.slice A0_1 l0_1.length c0_1) := (zKc BK493.out 1).trans rfl
    have hfz27_0 := zKf BK493.out 0
    have hfz27_1 := zKf BK493.out 1
    go_wp2
    go_roundg k2
    case measure => have := HK1.out; have := HK2.out; omega
    case rel => exact ⟨(x3_2), (wrap64 (x4_1 + 1)), (by first | rfl | (simp; done) | (simp [*]; done)), H', ⟨by have := HK1.out; have := HK2.out; omega⟩, ⟨by (with_reducible repeat (first | apply Kd.S_alloc | apply Kd.S_drewN | apply Kd.S_drew)); exact HO_3.out⟩, ⟨by (with_reducible repeat (first | refine zKn ?_ _ | refine zKd ?_ | refine zKa ?_ _)); exact BK493.out⟩, ⟨by exact uT HB.out⟩⟩
  ·rw [if_neg c8] at H
   have c8b0 : decide (x4_1 < a0_0) = false := decide_eq_false c8
   clear c8
   obtain rfl := zOi H
   have hcz28_0 : wr.cell? ⟨gb493, 0, none⟩ = some (.int .i64 a0_0) := (zKc BK493.out 0).trans rfl
   have hcz28_1 : wr.cell? ⟨gb493, 1, none⟩ = some (.slice A0_1 l0_1.length c0_1) := (zKc BK493.out 1).trans rfl
   have hfz28_0 := zKf BK493.out 0
   have hfz28_1 := zKf BK493.out 1
   go_wp2
   go_ret
   exact ⟨_, by first | rfl | (simp [errW_none, errW_some] <;> rfl) | (simp [*, errW_none, errW_some] <;> rfl), by (with_reducible repeat (first | apply Kd.S_alloc | apply Kd.S_drewN | apply Kd.S_drew)); exact HO_3.out, by exact uT HB.out⟩
 ·rw [if_neg c2] at H
  exact absurd H (by simp)


def r4_Less.l0 : Nat → List Int → Int → Int → List (S43) → Int → List (S43) → Option (Int × (List (S43)))
 | 0, _, _, _, _, _, _ => none
 | k + 1, x1, x6, x527000, x527001, x529000, x529001 => if x6 < (x527001.length : Int) then ((r4_Has.f k x1 x6).bind fun t529 => (if t529 = true then (r4_Less.l0 k x1 (wrap64 (x6 + 1)) x527000 x527001 x529000 x529001) else (if 0 ≤ x6 then (if x529001.length < 5864062014805 then (r4_Less.l0 k x1 (wrap64 (x6 + 1)) x527000 x527001 x529000 (x529001 ++ [(⟨(rd_T43 x527001 x6).f0, (rd_T43 x527001 x6).f1, (rd_T43 x527001 x6).f2⟩ : S43)])) else (none)) else (none)))) else (some (x529000, x529001))
def r4_Less.f (k : Nat) (a0_0 : Int) (l0_1 : List (S43)) (l1 : List Int) : Option (Int × (List (S43))) := r4_Less.l0 k l1 0 a0_0 l0_1 a0_0 ([] : List (S43))
def r4_Less.T6 : Bool × List (List Nat × List Nat) := (true, [([], []), ([0], [0]), ([], []), ([2], [2]), ([], []), ([3, 4], [3, 4]), ([5], [5]), ([6], [6]), ([1, 7], [1, 7]), ([0, 1, 2, 3, 4, 5, 6, 7, 8], []), ([9, 8, 8, 0, 1, 2, 3, 4, 5, 6, 7, 8], [8, 9])])
def r4_Less.B6 : List Nat := [0, 1, 0, 4, 0, 28, 60, 124, 255, 511, 1023]
theorem r4_Less.tab6 : rtab .any (opsOf Try.f35 6) = r4_Less.T6 := by kernel_rfl
theorem r4_Less.bits6 : waitsOk r4_Less.T6.2 r4_Less.B6 = true := by kernel_rfl
theorem r4_Less.calls (k : Nat) (a0_0 : Int) (A0_1 : Option Addr) (c0_1 : Nat) (l0_1 : List (S43)) (A1 : Option Addr) (c1 : Nat) (l1 : List Int) (r1 : Int) (r2 : List (S43)) (w : World) (hr0_1 : Kd.C k43 w A0_1 l0_1.length l0_1) (hc0_1 : l0_1.length ≤ c0_1) (hr1 : Kd.C (Kd.int .i64) w A1 l1.length l1) (hc1 : l1.length ≤ c1) (h : r4_Less.f k a0_0 l0_1 l1 = some (r1, r2)) :
  Calls Try.prog 35 #[.agg #[.int .i64 a0_0, .slice A0_1 l0_1.length c0_1], .slice A1 l1.length c1] w fun e w' => ∃ v1_ : Value, e = .returned (.agg #[.int .i64 r1, v1_]) ∧ Kd.R k43 43 w' w.heap.size (fun _ => True) v1_ r2 ∧ Below w.heap.size w w' := by
 have hu24 := Try.underlying24
 have hu43 := Try.underlying43
 have HR0_1 := zMk hr0_1
 have HC0_1 := zMk hc0_1
 clear hr0_1 hc0_1
 have HR1 := zMk hr1
 have HC1 := zMk hc1
 clear hr1 hc1
 have HB := zMk (Below.refl w.heap.size w)
 have H : (r4_Less.l0 k l1 0 a0_0 l0_1 a0_0 ([] : List (S43))) = some (r1, r2) := h
 clear h
 have H' := zMk H
 clear H
 go_enter Try.func35, Try.ntmps35
 go_wp2_with (first | ((with_reducible refine gate_dst (N:=2) rfl ?_); refine box_event ?hg (N:=2) ?hd (cs:=#[.int .i64 a0_0, .slice A0_1 l0_1.length c0_1]) (t:=24) ?hr ?_; (case hd => rfl); (case hg => rfl); (case hr => first | (go_simp; done)|(go_simp; rfl)|(go_simp; rw [show ∀ x : Int, IntKind.u32.wrap (IntKind.u8.wrap x) = x % 256 from fun x => (by show (x % 256) % 4294967296 = x % 256; omega)])); intro gb526 hg w3 hbox hb; have BK526 := zMk (hbox); have GW526 := zMk ((by rw [hg]; exact (zBs (uT HB.out)) : w.heap.size ≤ gb526)); have GE526 := zMk ((by rw [hg]; exact (zBs (uT HB.out)) : w.heap.size ≤ gb526)); have IGE526 := ownGe GE526.out; replace HB := zMk (zBt (uT HB.out) hb); clear hb hbox hg)|((with_reducible refine gate_dst (N:=4) rfl ?_); refine box_event ?hg (N:=4) ?hd (cs:=#[.int .i64 0, .slice none 0 0]) (t:=24) ?hr ?_; (case hd => rfl); (case hg => rfl); (case hr => first | (go_simp; done)|(go_simp; rfl)|(go_simp; rw [show ∀ x : Int, IntKind.u32.wrap (IntKind.u8.wrap x) = x % 256 from fun x => (by show (x % 256) % 4294967296 = x % 256; omega)])); intro gb527 hg w4 hbox hb; have BK527 := zMk (hbox); have GW527 := zMk ((by rw [hg]; exact (zBs (uT HB.out)) : w.heap.size ≤ gb527)); have GE527 := zMk ((by rw [hg]; exact (zBs (uT HB.out)) : w.heap.size ≤ gb527)); have IGE527 := ownGe GE527.out; replace HB := zMk (zBt (uT HB.out) hb); have NB526_527 := zMk ((by rw [hg]; exact Nat.ne_of_lt (blk_lt BK526.out) : gb526 ≠ gb527)); have NB527_526 := zMk ((by rw [hg]; exact Nat.ne_of_gt (blk_lt BK526.out) : gb527 ≠ gb526)); replace BK526 := zMk (zKb BK526.out hb); clear hb hbox hg; have hnb5 := NB526_527.out; have hnc5 := NB527_526.out; have hcz6_0 : w4.cell? ⟨gb526, 0, none⟩ = some (.int .i64 a0_0) := (zKc BK526.out 0).trans rfl; have hcz6_1 : w4.cell? ⟨gb526, 1, none⟩ = some (.slice A0_1 l0_1.length c0_1) := (zKc BK526.out 1).trans rfl; have hfz6_0 := zKf BK526.out 0; have hfz6_1 := zKf BK526.out 1)|((with_reducible refine gate_dst (N:=5) rfl ?_); refine box_event ?hg (N:=5) ?hd (cs:=#[.int .i64 0, .slice none 0 0]) (t:=24) ?hr ?_; (case hd => rfl); (case hg => rfl); (case hr => first | (go_simp; done)|(go_simp; rfl)|(go_simp; rw [show ∀ x : Int, IntKind.u32.wrap (IntKind.u8.wrap x) = x % 256 from fun x => (by show (x % 256) % 4294967296 = x % 256; omega)])); intro gb528 hg w7 hbox hb; have BK528 := zMk (hbox); have GW528 := zMk ((by rw [hg]; exact (zBs (uT HB.out)) : w.heap.size ≤ gb528)); have GE528 := zMk ((by rw [hg]; exact (zBs (uT HB.out)) : w.heap.size ≤ gb528)); have IGE528 := ownGe GE528.out; replace HB := zMk (zBt (uT HB.out) hb); have NB526_528 := zMk ((by rw [hg]; exact Nat.ne_of_lt (blk_lt BK526.out) : gb526 ≠ gb528)); have NB528_526 := zMk ((by rw [hg]; exact Nat.ne_of_gt (blk_lt BK526.out) : gb528 ≠ gb526)); replace BK526 := zMk (zKb BK526.out hb); have NB527_528 := zMk ((by rw [hg]; exact Nat.ne_of_lt (blk_lt BK527.out) : gb527 ≠ gb528)); have NB528_527 := zMk ((by rw [hg]; exact Nat.ne_of_gt (blk_lt BK527.out) : gb528 ≠ gb527)); replace BK527 := zMk (zKb BK527.out hb); clear hb hbox hg; have hnb8 := NB528_526.out; have hnc8 := NB526_528.out; have hnb9 := NB528_527.out; have hnc9 := NB527_528.out; have hcz10_0 : w7.cell? ⟨gb528, 0, none⟩ = some (.int .i64 0) := (zKc BK528.out 0).trans rfl; have hcz10_1 : w7.cell? ⟨gb528, 1, none⟩ = some (.slice none 0 0) := (zKc BK528.out 1).trans rfl; have hfz10_0 := zKf BK528.out 0; have hfz10_1 := zKf BK528.out 1))
 go_loopg [6] k (fun kq v6 w' => ∃ (x6_1 : Int) (x529001_1 : List (S43)) (u529001 : Value), v6 = .int .i64 x6_1 ∧ Aside0 (r4_Less.l0 kq l1 x6_1 a0_0 l0_1 a0_0 x529001_1 = some (r1, r2)) ∧ Aside0 (kq ≤ k) ∧ Aside0 (Kd.R k43 43 w' w.heap.size (fun _ => True) u529001 x529001_1) ∧ Aside0 (w'.heap[gb526]? = some (.cells #[.int .i64 a0_0, (.slice A0_1 l0_1.length c0_1)] 24 (0, 0))) ∧ Aside0 (w'.heap[gb527]? = some (.cells #[.int .i64 0, (.slice none 0 0)] 24 (0, 0))) ∧ Aside0 (w'.heap[gb528]? = some (.cells #[.int .i64 a0_0, u529001] 24 (0, 0))) ∧ Aside0 (Below w.heap.size w w'))
 case atStart => exact ⟨(0), (([] : List (S43))), (.slice none 0 0), (by first | rfl | (simp; done) | (simp [*]; done)), H', ⟨Nat.le_refl _⟩, ⟨by first | exact Kd.R_nil _ _ _ _ _ | exact Kd.N_nil _ _ _ _ _ | exact Kd.V_nil _ _ _ _ _ | exact Kd.Q_nil _ _ _ _ _ | exact Kd.S_nil _ _ _ _ _⟩, ⟨by (with_reducible repeat (first | refine zKn ?_ _ | refine zKd ?_ | refine zKa ?_ _)); refine blk_far ?_ NB526_528.out _; (with_reducible repeat (first | refine zKn ?_ _ | refine zKd ?_ | refine zKa ?_ _)); refine blk_far ?_ NB526_528.out _; (with_reducible repeat (first | refine zKn ?_ _ | refine zKd ?_ | refine zKa ?_ _)); exact BK526.out⟩, ⟨by (with_reducible repeat (first | refine zKn ?_ _ | refine zKd ?_ | refine zKa ?_ _)); refine blk_far ?_ NB527_528.out _; (with_reducible repeat (first | refine zKn ?_ _ | refine zKd ?_ | refine zKa ?_ _)); refine blk_far ?_ NB527_528.out _; (with_reducible repeat (first | refine zKn ?_ _ | refine zKd ?_ | refine zKa ?_ _)); exact BK527.out⟩, ⟨by (with_reducible repeat (first | refine zKn ?_ _ | refine zKd ?_ | refine zKa ?_ _)); refine blk_put (cs:=#[.int .i64 a0_0, .slice none 0 0]) ?_ 1 _ rfl; (with_reducible repeat (first | refine zKn ?_ _ | refine zKd ?_ | refine zKa ?_ _)); refine blk_put (cs:=#[.int .i64 0, .slice none 0 0]) ?_ 0 _ rfl; (with_reducible repeat (first | refine zKn ?_ _ | refine zKd ?_ | refine zKa ?_ _)); exact BK528.out⟩, ⟨by exact uT HB.out⟩⟩
 clear H'
 obtain ⟨x6_1, x529001_1, u529001, rfl, HA, HK1, HO_529001, BK526, BK527, BK528, HB⟩ := hrel
 rcases gk with _ | k1
 ·exact absurd HA.out (by simp [r4_Less.l0])
 have H := HA.out
 clear HA
 simp only [r4_Less.l0] at H
 by_cases c11 : x6_1 < (l0_1.length : Int)
 ·rw [if_pos c11] at H
  have c11b0 : decide (x6_1 < (l0_1.length : Int)) = true := decide_eq_true c11
  clear c11
  replace H := bnd H
  obtain ⟨t529, A120, H⟩ := H
  have A12 := zMk A120
  clear A120
  by_cases c13 : t529 = true
  ·subst c13
   replace H : (r4_Less.l0 k1 l1 (wrap64 (x6_1 + 1)) a0_0 l0_1 a0_0 x529001_1) = some (r1, r2) := by rw [if_pos rfl] at H; exact H
   have H' := zMk H
   clear H
   have hnb14 := NB526_527.out
   have hnc14 := NB527_526.out
   have hnb15 := NB526_528.out
   have hnc15 := NB528_526.out
   have hcz16_0 : wr.cell? ⟨gb526, 0, none⟩ = some (.int .i64 a0_0) := (zKc BK526.out 0).trans rfl
   have hcz16_1 : wr.cell? ⟨gb526, 1, none⟩ = some (.slice A0_1 l0_1.length c0_1) := (zKc BK526.out 1).trans rfl
   have hfz16_0 := zKf BK526.out 0
   have hfz16_1 := zKf BK526.out 1
   go_wp2_with (first | ((with_reducible refine gate_callee (f:=39) rfl ?_); refine goesL_ (some 19) rfl rfl Try.func39 (by kernel_rfl) rfl #[.slice A1 l1.length c1, .int .i64 x6_1] rfl (by (try simp only [zMa, zMc, zMn]); first | done | rfl | (simp only [zLd, zLt]; rfl)) ?_; (with_reducible refine (r4_Has.calls k1 _ _ l1 x6_1 true _ ?side1 ?side2 A12.out).mono ?_); (case side1 => repeat (first | exact (Kd.C_below HR1.out HB.out) | (with_reducible refine zCa ?_ _) | (with_reducible refine zCn ?_ _) | (with_reducible refine zCd ?_))); (case side2 => exact HC1.out); rintro e w' ⟨rfl, ⟨nd, rfl⟩⟩; refine ⟨_, rfl, ?_⟩))
   go_roundg k1
   case measure => have := HK1.out; omega
   case rel => exact ⟨(wrap64 (x6_1 + 1)), (x529001_1), (u529001), (by first | rfl | (simp; done) | (simp [*]; done)), H', ⟨by have := HK1.out; omega⟩, ⟨by exact uR HO_529001.out⟩, ⟨by (with_reducible repeat (first | refine zKn ?_ _ | refine zKd ?_ | refine zKa ?_ _)); exact BK526.out⟩, ⟨by (with_reducible repeat (first | refine zKn ?_ _ | refine zKd ?_ | refine zKa ?_ _)); exact BK527.out⟩, ⟨by (with_reducible repeat (first | refine zKn ?_ _ | refine zKd ?_ | refine zKa ?_ _)); exact BK528.out⟩, ⟨by exact uT HB.out⟩⟩
  ·replace c13 := Bool.eq_false_iff.mpr c13
   subst c13
   replace H : (if 0 ≤ x6_1 then (if x529001_1.length < 5864062014805 then (r4_Less.l0 k1 l1 (wrap64 (x6_1 + 1)) a0_0 l0_1 a0_0 (x529001_1 ++ [(⟨(rd_T43 l0_1 x6_1).f0, (rd_T43 l0_1 x6_1).f1, (rd_T43 l0_1 x6_1).f2⟩ : S43)])) else (none)) else (none)) = some (r1, r2) := by rw [if_neg (show ¬ (false = true) by decide)] at H; exact H
   by_cases c17 : 0 ≤ x6_1
   rotate_left
   ·rw [if_neg c17] at H; exact absurd H (by simp)
   rw [if_pos c17] at H
   have c17b0 : decide (0 ≤ x6_1) = true := decide_eq_true c17
   clear c17
   by_cases c18 : x529001_1.length < 5864062014805
   rotate_left
   ·rw [if_neg c18] at H; exact absurd H (by simp)
   rw [if_pos c18] at H
   have LMc18 := zMk c18
   clear c18
   obtain ⟨y531, hy531⟩ : ∃ y_ : List (S43), y_ = (x529001_1 ++ [(⟨(rd_T43 l0_1 x6_1).f0, (rd_T43 l0_1 x6_1).f1, (rd_T43 l0_1 x6_1).f2⟩ : S43)]) := ⟨_, rfl⟩
   replace H : (r4_Less.l0 k1 l1 (wrap64 (x6_1 + 1)) a0_0 l0_1 a0_0 y531) = some (r1, r2) := by first | (rw [hy531]; with_reducible exact H) | (have H2_ := bsm H; first | (rw [hy531]; with_reducible exact H2_) | with_reducible exact H2_) | with_reducible exact H | (rw [hy531]; exact H) | exact H
   have Ny531 := zMk hy531
   clear hy531
   have H' := zMk H
   clear H
   have hnb19 := NB526_527.out
   have hnc19 := NB527_526.out
   have hnb20 := NB526_528.out
   have hnc20 := NB528_526.out
   have hcz21_0 : wr.cell? ⟨gb526, 0, none⟩ = some (.int .i64 a0_0) := (zKc BK526.out 0).trans rfl
   have hcz21_1 : wr.cell? ⟨gb526, 1, none⟩ = some (.slice A0_1 l0_1.length c0_1) := (zKc BK526.out 1).trans rfl
   have hfz21_0 := zKf BK526.out 0
   have hfz21_1 := zKf BK526.out 1
   try go_wp2_with (first | ((with_reducible refine gate_callee (f:=39) rfl ?_); refine goesL_ (some 19) rfl rfl Try.func39 (by kernel_rfl) rfl #[.slice A1 l1.length c1, .int .i64 x6_1] rfl (by (try simp only [zMa, zMc, zMn]); first |  done|  rfl|  (simp only [zLd, zLt]; rfl)) ?_; (with_reducible refine (r4_Has.calls k1 _ _ l1 x6_1 false _ ?side1 ?side2 A12.out).mono ?_); (case side1 => repeat (first |  exact (Kd.C_below HR1.out HB.out)|(with_reducible refine zCa ?_ _)|(with_reducible refine zCn ?_ _)|(with_reducible refine zCd ?_))); (case side2 => exact HC1.out); rintro e w' ⟨rfl, ⟨nd, rfl⟩⟩; refine ⟨_, rfl, ?_⟩; (try (rw [drewN_self wr]; generalize hq_ : World.drewN wr _ = wr; have n0_ : Aside0 (Kd.R k43 43 wr w.heap.size (fun _ => True) u529001 x529001_1) := ⟨by rw [← hq_]; exact (uR HO_529001.out)⟩; have n1_ : Aside0 (wr.heap[gb526]? = some (.cells #[.int .i64 a0_0, .slice A0_1 l0_1.length c0_1] 24 (0, 0))) := ⟨by rw [← hq_]; exact BK526.out⟩; have n2_ : Aside0 (wr.heap[gb527]? = some (.cells #[.int .i64 0, .slice none 0 0] 24 (0, 0))) := ⟨by rw [← hq_]; exact BK527.out⟩; have n3_ : Aside0 (wr.heap[gb528]? = some (.cells #[.int .i64 a0_0, u529001] 24 (0, 0))) := ⟨by rw [← hq_]; exact BK528.out⟩; have n4_ : Aside0 (Below w.heap.size w wr) := ⟨by rw [← hq_]; exact (uT HB.out)⟩; clear HO_529001 BK526 BK527 BK528 HB hq_; have HO_529001 := n0_; have BK526 := n1_; have BK527 := n2_; have BK528 := n3_; have HB := n4_; clear n0_ n1_ n2_ n3_ n4_))))
   replace HO_529001 := zMk (zRd HO_529001.out)
   replace BK526 := zMk (zKd BK526.out)
   replace BK527 := zMk (zKd BK527.out)
   replace BK528 := zMk (zKd BK528.out)
   replace HB := zMk (zBd HB.out)
   have p530 : 0 ≤ (x6_1 : Int) := of_decide_eq_true (by assumption)
   have q530 : x6_1 < (l0_1.length : Int) := of_decide_eq_true (by assumption)
   obtain ⟨ad530, e530, hx530_0, hx530_1, hx530_2⟩ := at_T43 HR0_1.out x6_1 p530 q530
   have hw530_2 := hx530_2
   have hw530_1 := hx530_1
   have hw530_0 := hx530_0
   cases e530
   replace hx530_0 := pw_cell_below HB.out hx530_0
   replace hx530_1 := pw_cell_below HB.out hx530_1
   replace hx530_2 := pw_cell_below HB.out hx530_2
   replace p530 := eq_true p530
   replace q530 := eq_true q530
   refine start_ (n:=11) (S:=fun w' => w'.cell? ⟨gb528, 0, none⟩ = some (.int .i64 a0_0) ∧ w'.cell? ⟨gb528, 1, none⟩ = some (u529001) ∧ w'.cell? ⟨gb526, 0, none⟩ = some (.int .i64 a0_0) ∧ w'.cell? ⟨gb526, 1, none⟩ = some (.slice (some ad530) l0_1.length c0_1) ∧ w'.cell? (ad530.add ((x6_1).toNat * 3)) = some (.int .i64 ((rd_T43 l0_1 x6_1).f0)) ∧ w'.cell? ⟨(ad530.add ((x6_1).toNat * 3)).block, (ad530.add ((x6_1).toNat * 3)).off + 1, none⟩ = some (.int .i64 ((rd_T43 l0_1 x6_1).f1)) ∧ w'.cell? ⟨(ad530.add ((x6_1).toNat * 3)).block, (ad530.add ((x6_1).toNat * 3)).off + 2, none⟩ = some (.int .i64 ((rd_T43 l0_1 x6_1).f2))) (ds:=[10]) #[false,false,false,false,false,false,false,false,false,false,false] (by kernel_rfl) rfl rfl ⟨(zKc BK528.out 0).trans rfl, (zKc BK528.out 1).trans rfl, (zKc BK526.out 0).trans rfl, (zKc BK526.out 1).trans rfl, (pw_cell_below HB.out hw530_0), (pw_cell_below HB.out hw530_1), (pw_cell_below HB.out hw530_2)⟩ (fun hHeld => ?_); refine with_tabW r4_Less.tab6 r4_Less.bits6 (fun HT_ HW_ => ?_)
   generalize wr.drew = w22 at HO_529001 BK526 BK527 BK528 HB hx530_0 hx530_1 hx530_2 hHeld ⊢
   refine pure_ (i:=0) (N:=some 21) (v:=?_) (a' := ?_) #[true,false,false,false,false,false,false,false,false,false,false] rfl rfl (any_of HT_.out (by kernel_rfl)) (fun _ _ _ h => h) (Or.inl ⟨by rfl, ?_⟩) ?_ ?_
   rotate_left
   ·intro w'
    go_simp
    with_reducible rfl
   rotate_left
   ·simp only [Act.put, zSa, zSb, zSc, i64_w, i32_w]
    rfl
   refine pure_ (i:=2) (N:=some 23) (v:=?_) (a' := ?_) #[true,false,true,false,false,false,false,false,false,false,false] rfl rfl (any_of HT_.out (by kernel_rfl)) (fun _ _ _ h => h) (Or.inl ⟨by rfl, ?_⟩) ?_ ?_
   rotate_left
   ·intro w'
    go_simp
    with_reducible rfl
   rotate_left
   ·simp only [Act.put, zSa, zSb, zSc, i64_w, i32_w]
    rfl
   refine pure_ (i:=4) (N:=some 25) (v:=?_) (a' := ?_) #[true,false,true,false,true,false,false,false,false,false,false] rfl rfl (any_of HT_.out (by kernel_rfl)) (fun _ _ _ h => h) (Or.inl ⟨by rfl, ?_⟩) ?_ ?_
   rotate_left
   ·intro w'
    go_simp
    with_reducible rfl
   rotate_left
   ·simp only [Act.put, zSa, zSb, zSc, i64_w, i32_w]
    rfl
   refine take_ (i:=1) (N:=some 22) (v:=?_) (a' := ?_) #[true,true,true,false,true,false,false,false,false,false,false] rfl rfl (take_ofW HT_.out HW_.out (by kernel_rfl)) (fun _ _ _ h => h) (Or.inl ⟨by rfl, ?_⟩) hHeld ?_ ?_
   rotate_left
   ·rintro w' ⟨s0, s1, s2, s3, s4, s5, s6⟩
    go_simp
    with_reducible rfl
   rotate_left
   ·simp only [Act.put, zSa, zSb, zSc, i64_w, i32_w]
    rfl
   refine take_ (i:=3) (N:=some 24) (v:=?_) (a' := ?_) #[true,true,true,true,true,false,false,false,false,false,false] rfl rfl (take_ofW HT_.out HW_.out (by kernel_rfl)) (fun _ _ _ h => h) (Or.inl ⟨by rfl, ?_⟩) hHeld ?_ ?_
   rotate_left
   ·rintro w' ⟨s0, s1, s2, s3, s4, s5, s6⟩
    go_simp
    with_reducible rfl
   rotate_left
   ·simp only [Act.put, zSa, zSb, zSc, i64_w, i32_w]
    rfl
   refine pure_ (i:=5) (N:=some 26) (v:=?_) (a' := ?_) #[true,true,true,true,true,true,false,false,false,false,false] rfl rfl (any_of HT_.out (by kernel_rfl)) (fun _ _ _ h => h) (Or.inl ⟨by rfl, ?_⟩) ?_ ?_
   rotate_left
   ·intro w'
    go_simp
    with_reducible rfl
   rotate_left
   ·simp only [Act.put, zSa, zSb, zSc, i64_w, i32_w]
    rfl
   refine take_ (i:=6) (N:=some 27) (v:=?_) (a' := ?_) #[true,true,true,true,true,true,true,false,false,false,false] rfl rfl (take_ofW HT_.out HW_.out (by kernel_rfl)) (fun _ _ _ h => h) (Or.inl ⟨by rfl, ?_⟩) hHeld ?_ ?_
   rotate_left
   ·rintro w' ⟨s0, s1, s2, s3, s4, s5, s6⟩
    go_simp
    with_reducible rfl
   rotate_left
   ·simp only [Act.put, zSa, zSb, zSc, i64_w, i32_w]
    rfl
   refine one_ (i:=7) (N:=some 28) #[true,true,true,true,true,true,true,true,false,false,false] rfl rfl (one_of HT_.out (by kernel_rfl)) (by decide) (fun K hK => ?_)
   refine value_ (w1:=?_) (v:=?_) (by rfl) rfl ?_ ?_
   rotate_left 2
   ·go_simp
    constructor
    ·rfl
    ·rfl
   refine hK.out _ _ ⟨(zKc (zKa BK528.out _) 0).trans rfl, (zKc (zKa BK528.out _) 1).trans rfl, (zKc (zKa BK526.out _) 0).trans rfl, (zKc (zKa BK526.out _) 1).trans rfl, (World.cell?_alloc_lt _ _ _ (World.block_lt_of_cell? _ _ ((pw_cell_below HB.out hw530_0)))).trans ((pw_cell_below HB.out hw530_0)), (World.cell?_alloc_lt _ _ _ (World.block_lt_of_cell? _ _ ((pw_cell_below HB.out hw530_1)))).trans ((pw_cell_below HB.out hw530_1)), (World.cell?_alloc_lt _ _ _ (World.block_lt_of_cell? _ _ ((pw_cell_below HB.out hw530_2)))).trans ((pw_cell_below HB.out hw530_2))⟩ (fun hHeld => ?_)
   clear hK K
   refine norm_ (a' := ?_) ?_ ?_
   rotate_left
   ·show Act.put _ (some 28) _ = _
    simp only [Act.put, zSa, zSb, zSc, i64_w, i32_w]
    rfl
   refine one_ (i:=8) (N:=some 29) #[true,true,true,true,true,true,true,true,true,false,false] rfl rfl (one_of HT_.out (by kernel_rfl)) (by decide) (fun K hK => ?_)
   refine Kd.R_append_step k43 (w0:=w) w.heap.size (by rfl) (.tmp 22) (.tmp 28) 22 43 (.agg #[(.int .i64 0), (.int .i64 0), (.int .i64 0)]) 24 rfl Try.underlying22 info43 rfl (by decide) (by omega) u529001 x529001_1 (⟨(rd_T43 l0_1 x6_1).f0, (rd_T43 l0_1 x6_1).f1, (rd_T43 l0_1 x6_1).f2⟩ : S43) [.int .i64 ((rd_T43 l0_1 x6_1).f0), .int .i64 ((rd_T43 l0_1 x6_1).f1), .int .i64 ((rd_T43 l0_1 x6_1).f2)] (fun _ => True) (fun _ => False) rfl rfl ?aP (fun _ hk => hk.elim) ?aF ?aO ?aB ?aS ?aL ?_
   (case aP => exact k43_mkM _ _ _ (⟨(rd_T43 l0_1 x6_1).f0, (rd_T43 l0_1 x6_1).f1, (rd_T43 l0_1 x6_1).f2⟩ : S43))
   (case aB => exact (uT HB.out))
   (case aF => exact (fun _ _ => trivial))
   (case aO => exact (uR HO_529001.out))
   (case aS => exact (zBs (uT HB.out)))
   (case aL => have := LMc18.out; omega)
   intro v532 w23 ho hb hg hat
   rw [← Ny531.out] at ho
   replace BK526 := zMk (blk_grown (g:=gb526) (o:=.cells #[.int .i64 a0_0, .slice (some ad530) l0_1.length c0_1] 24 (0, 0)) BK526.out hg (Kd.R_ne HO_529001.out BK526.out (by decide)))
   replace BK527 := zMk (blk_grown (g:=gb527) (o:=.cells #[.int .i64 0, .slice none 0 0] 24 (0, 0)) BK527.out hg (Kd.R_ne HO_529001.out BK527.out (by decide)))
   replace BK528 := zMk (blk_grown (g:=gb528) (o:=.cells #[.int .i64 a0_0, u529001] 24 (0, 0)) BK528.out hg (Kd.R_ne HO_529001.out BK528.out (by decide)))
   replace HB := zMk (hb)
   have HO533 := zMk (ho)
   clear HO_529001 ho hb hg hat
   obtain ⟨Ao24, co24, eo24⟩ := zRs HO533.out
   (first |  subst eo24|  (injection eo24 with f1_ f2_ f3_; have f4_ := f1_.symm; have f5_ := f3_.symm; clear f1_ f2_ f3_; subst f4_; subst f5_))
   refine hK.out _ _ ⟨(zKc BK528.out 0).trans rfl, (zKc BK528.out 1).trans rfl, (zKc BK526.out 0).trans rfl, (zKc BK526.out 1).trans rfl, (pw_cell_below HB.out hw530_0), (pw_cell_below HB.out hw530_1), (pw_cell_below HB.out hw530_2)⟩ (fun hHeld => ?_)
   clear hK K
   refine norm_ (a' := ?_) ?_ ?_
   rotate_left
   ·show Act.put _ (some 29) _ = _
    simp only [Act.put, zSa, zSb, zSc, i64_w, i32_w]
    rfl
   refine pure_ (i:=9) (N:=some 30) (v:=?_) (a' := ?_) #[true,true,true,true,true,true,true,true,true,true,false] rfl rfl (any_of HT_.out (by kernel_rfl)) (fun _ _ _ h => h) (Or.inl ⟨by rfl, ?_⟩) ?_ ?_
   rotate_left
   ·intro w'
    go_simp
    with_reducible rfl
   rotate_left
   ·simp only [Act.put, zSa, zSb, zSc, i64_w, i32_w]
    rfl
   refine last_ (i:=10) (N:=none) #[true,true,true,true,true,true,true,true,true,true,true] rfl rfl (one_of HT_.out (by kernel_rfl)) (by decide) (fun K hK => ?_)
   have hs25 : w23.cell? ⟨gb528, 1, none⟩ = some (u529001) := (zKc BK528.out 1).trans rfl
   have hfs25 := zKf BK528.out 1
   have hns25_0 := NB526_528.out
   have hns25_1 := NB527_528.out
   have hms25_0 := NB528_526.out
   have hms25_1 := NB528_527.out
   refine skip_ (w1:=?_) (by rfl) rfl ?_ ?_
   rotate_left
   ·go_simp
    rfl
   refine hK.out _ _ ?_
   clear hK K
   refine done_ (done_of HT_.out (by kernel_rfl)) ?_
   try go_wp2
   go_roundg k1
   case measure => have := HK1.out; omega
   case rel => exact ⟨(wrap64 (x6_1 + 1)), (y531), (.slice Ao24 y531.length co24), (by first | rfl | (simp; done) | (simp [*]; done)), H', ⟨by have := HK1.out; omega⟩, ⟨by (with_reducible repeat (first | apply zRa | apply zRn | apply zRd)); exact zRm (Kd.R_far (p:=⟨gb528, 1, none⟩) (Kd.R_types HO533.out BK528.out (by decide)) (fun _ hk => hk.2) (.slice Ao24 y531.length co24)) (fun _ hk => trivial)⟩, ⟨by (with_reducible repeat (first | refine zKn ?_ _ | refine zKd ?_ | refine zKa ?_ _)); refine blk_far ?_ NB526_528.out _; (with_reducible repeat (first | refine zKn ?_ _ | refine zKd ?_ | refine zKa ?_ _)); exact BK526.out⟩, ⟨by (with_reducible repeat (first | refine zKn ?_ _ | refine zKd ?_ | refine zKa ?_ _)); refine blk_far ?_ NB527_528.out _; (with_reducible repeat (first | refine zKn ?_ _ | refine zKd ?_ | refine zKa ?_ _)); exact BK527.out⟩, ⟨by (with_reducible repeat (first | refine zKn ?_ _ | refine zKd ?_ | refine zKa ?_ _)); refine blk_put (cs:=#[.int .i64 a0_0, u529001]) ?_ 1 _ rfl; (with_reducible repeat (first | refine zKn ?_ _ | refine zKd ?_ | refine zKa ?_ _)); exact BK528.out⟩, ⟨by exact uT HB.out⟩⟩
 ·rw [if_neg c11] at H
  have c11b0 : decide (x6_1 < (l0_1.length : Int)) = false := decide_eq_false c11
  clear c11
  simp only [Option.some.injEq, Prod.mk.injEq] at H
  obtain ⟨rfl, rfl⟩ := H
  have hnb26 := NB526_527.out
  have hnc26 := NB527_526.out
  have hnb27 := NB526_528.out
  have hnc27 := NB528_526.out
  have hcz28_0 : wr.cell? ⟨gb526, 0, none⟩ = some (.int .i64 a0_0) := (zKc BK526.out 0).trans rfl
  have hcz28_1 : wr.cell? ⟨gb526, 1, none⟩ = some (.slice A0_1 l0_1.length c0_1) := (zKc BK526.out 1).trans rfl
  have hfz28_0 := zKf BK526.out 0
  have hfz28_1 := zKf BK526.out 1
  have hnb29 := NB528_527.out
  have hnc29 := NB527_528.out
  have hcz30_0 : wr.cell? ⟨gb528, 0, none⟩ = some (.int .i64 a0_0) := (zKc BK528.out 0).trans rfl
  have hcz30_1 : wr.cell? ⟨gb528, 1, none⟩ = some (u529001) := (zKc BK528.out 1).trans rfl
  have hfz30_0 := zKf BK528.out 0
  have hfz30_1 := zKf BK528.out 1
  have hcz31_0 : wr.cell? ⟨gb527, 0, none⟩ = some (.int .i64 0) := (zKc BK527.out 0).trans rfl
  have hcz31_1 : wr.cell? ⟨gb527, 1, none⟩ = some (.slice none 0 0) := (zKc BK527.out 1).trans rfl
  have hfz31_0 := zKf BK527.out 0
  have hfz31_1 := zKf BK527.out 1
  obtain ⟨Ao32, co32, eo32⟩ := zRs HO_529001.out
  subst eo32
  go_wp2
  refine bodyPost_ret (results_cell_row rfl _ _ gb527 24 #[.int .i64 a0_0, .slice Ao32 x529001_1.length co32] (0, 0) _ rfl (by (with_reducible repeat (first | refine zKn ?_ _ | refine zKd ?_ | refine zKa ?_ _)); refine blk_put (cs:=#[.int .i64 a0_0, .slice none 0 0]) ?_ 1 _ rfl; (with_reducible repeat (first | refine zKn ?_ _ | refine zKd ?_ | refine zKa ?_ _)); refine blk_put (cs:=#[.int .i64 0, .slice none 0 0]) ?_ 0 _ rfl; (with_reducible repeat (first | refine zKn ?_ _ | refine zKd ?_ | refine zKa ?_ _)); exact BK527.out) Try.underlying24 rfl (by kernel_rfl)) rfl ?_
  exact ⟨_, by first | rfl | (simp [errW_none, errW_some] <;> rfl) | (simp [*, errW_none, errW_some] <;> rfl), by (with_reducible repeat (first | apply zRa | apply zRn | apply zRd)); exact zRm (Kd.R_far (p:=⟨gb527, 1, none⟩) (Kd.R_far (p:=⟨gb527, 0, none⟩) (Kd.R_types HO_529001.out BK527.out (by decide)) (fun _ hk => hk.2) (.int .i64 a0_0)) (fun _ hk => hk.2) (.slice Ao32 x529001_1.length co32)) (fun _ hk => trivial), by exact uT HB.out⟩


def r6_Cuts.l0 : Nat → List Int → Int → List (List Int) → Int → Int → List (S43) → Option (List Int)
 | 0, _, _, _, _, _, _ => none
 | k + 1, x3, x4, x5, x6, x504000, x504001 => if x6 < x504000 then ((r6_all.f k x504000 x6).bind fun t510 => ((r4_Only.f k x504000 x504001 t510).bind fun bt513 => ((r6_Components.f k bt513.1 bt513.2).bind fun t518 => (if 0 ≤ x6 then (if x6 < (x5.length : Int) then (if ((rd_L4 x5 x6).length : Int) > 0 then (if (wrap64 ((t518.length : Int) - 1)) > x4 then (if x3.length < 17592186044416 then (r6_Cuts.l0 k (x3 ++ [x6]) x4 x5 (wrap64 (x6 + 1)) x504000 x504001) else (none)) else (r6_Cuts.l0 k x3 x4 x5 (wrap64 (x6 + 1)) x504000 x504001)) else (r6_Cuts.l0 k x3 x4 x5 (wrap64 (x6 + 1)) x504000 x504001)) else (none)) else (none))))) else (some x3)
def r6_Cuts.f (k : Nat) (a0_0 : Int) (l0_1 : List (S43)) : Option (List Int) := (r6_Components.f k a0_0 l0_1).bind fun t504 => ((r4_Near.f k a0_0 l0_1).bind fun t507 => (r6_Cuts.l0 k ([] : List Int) (t504.length : Int) t507 0 a0_0 l0_1))
def r6_Cuts.T7 : Bool × List (List Nat × List Nat) := (true, [([], []), ([], []), ([1], [1]), ([], []), ([2, 3], [2, 3]), ([0, 4, 4], [0, 4]), ([], []), ([6, 5, 5, 0, 1, 2, 3, 4, 5, 6], [5, 6])])
def r6_Cuts.B7 : List Nat := [0, 0, 2, 0, 14, 31, 0, 127]
theorem r6_Cuts.tab7 : rtab .any (opsOf Try.f17 7) = r6_Cuts.T7 := by kernel_rfl
theorem r6_Cuts.bits7 : waitsOk r6_Cuts.T7.2 r6_Cuts.B7 = true := by kernel_rfl
theorem r6_Cuts.calls (k : Nat) (a0_0 : Int) (A0_1 : Option Addr) (c0_1 : Nat) (l0_1 : List (S43)) (r : List Int) (w : World) (hr0_1 : Kd.C k43 w A0_1 l0_1.length l0_1) (hc0_1 : l0_1.length ≤ c0_1) (h : r6_Cuts.f k a0_0 l0_1 = some r) :
  Calls Try.prog 17 #[.agg #[.int .i64 a0_0, .slice A0_1 l0_1.length c0_1]] w fun e w' => ∃ v0_ : Value, e = .returned (v0_) ∧ Kd.R (Kd.int .i64) 3 w' w.heap.size (fun _ => True) v0_ r ∧ Below w.heap.size w w' := by
 have hu24 := Try.underlying24
 have HR0_1 := zMk hr0_1
 have HC0_1 := zMk hc0_1
 clear hr0_1 hc0_1
 have HB := zMk (Below.refl w.heap.size w)
 have H : ((r6_Components.f k a0_0 l0_1).bind fun t504 => ((r4_Near.f k a0_0 l0_1).bind fun t507 => (r6_Cuts.l0 k ([] : List Int) (t504.length : Int) t507 0 a0_0 l0_1))) = some r := h
 clear h
 replace H := bnd H
 obtain ⟨t504, A20, H⟩ := H
 have A2 := zMk A20
 clear A20
 replace H := bnd H
 obtain ⟨t507, A30, H⟩ := H
 have A3 := zMk A30
 clear A30
 have H' := zMk H
 clear H
 go_enter Try.func17, Try.ntmps17
 go_wp2_with (first | ((with_reducible refine gate_dst (N:=1) rfl ?_); refine box_event ?hg (N:=1) ?hd (cs:=#[.int .i64 a0_0, .slice A0_1 l0_1.length c0_1]) (t:=24) ?hr ?_; (case hd => rfl); (case hg => rfl); (case hr => first | (go_simp; done)|(go_simp; rfl)|(go_simp; rw [show ∀ x : Int, IntKind.u32.wrap (IntKind.u8.wrap x) = x % 256 from fun x => (by show (x % 256) % 4294967296 = x % 256; omega)])); intro gb503 hg w4 hbox hb; have BK503 := zMk (hbox); have GW503 := zMk ((by rw [hg]; exact (zBs (uT HB.out)) : w.heap.size ≤ gb503)); have GE503 := zMk ((by rw [hg]; exact (zBs (uT HB.out)) : w.heap.size ≤ gb503)); have IGE503 := ownGe GE503.out; replace HB := zMk (zBt (uT HB.out) hb); clear hb hbox hg; have hcz5_0 : w4.cell? ⟨gb503, 0, none⟩ = some (.int .i64 a0_0) := (zKc BK503.out 0).trans rfl; have hcz5_1 : w4.cell? ⟨gb503, 1, none⟩ = some (.slice A0_1 l0_1.length c0_1) := (zKc BK503.out 1).trans rfl; have hfz5_0 := zKf BK503.out 0; have hfz5_1 := zKf BK503.out 1)|((with_reducible refine gate_callee (f:=13) rfl ?_); refine goesL_ (some 10) rfl rfl Try.func13 (by kernel_rfl) rfl #[.agg #[.int .i64 a0_0, .slice A0_1 l0_1.length c0_1]] rfl (by (try simp only [zMa, zMc, zMn]); first |  done|  rfl|  (simp only [zLd, zLt]; rfl)) ?_; (with_reducible refine (r6_Components.calls k a0_0 _ _ l0_1 t504 _ ?side1 ?side2 A2.out).mono ?_); (case side1 => repeat (first |  exact (Kd.C_below HR0_1.out HB.out)|(with_reducible refine zCa ?_ _)|(with_reducible refine zCn ?_ _)|(with_reducible refine zCd ?_))); (case side2 => exact HC0_1.out); rintro e w6 ⟨v505, rfl, ho0, hb⟩; refine ⟨_, rfl, ?_⟩; have HO506 := zMk (Kd.S_lower ho0 (zBs (uT HB.out))); replace BK503 := zMk (zKb BK503.out hb); replace HB := zMk (zBt (uT HB.out) hb); obtain ⟨Ao7, co7, eo7⟩ := Kd.S_slice HO506.out; subst eo7; have hcz8_0 : w6.cell? ⟨gb503, 0, none⟩ = some (.int .i64 a0_0) := (zKc BK503.out 0).trans rfl; have hcz8_1 : w6.cell? ⟨gb503, 1, none⟩ = some (.slice A0_1 l0_1.length c0_1) := (zKc BK503.out 1).trans rfl; have hfz8_0 := zKf BK503.out 0; have hfz8_1 := zKf BK503.out 1)|((with_reducible refine gate_callee (f:=32) rfl ?_); refine goesL_ (some 13) rfl rfl Try.func32 (by kernel_rfl) rfl #[.agg #[.int .i64 a0_0, .slice A0_1 l0_1.length c0_1]] rfl (by (try simp only [zMa, zMc, zMn]); first |  done|  rfl|  (simp only [zLd, zLt]; rfl)) ?_; (with_reducible refine (r4_Near.calls k a0_0 _ _ l0_1 t507 _ ?side1 ?side2 A3.out).mono ?_); (case side1 => repeat (first |  exact (Kd.C_below HR0_1.out HB.out)|(with_reducible refine zCa ?_ _)|(with_reducible refine zCn ?_ _)|(with_reducible refine zCd ?_))); (case side2 => exact HC0_1.out); rintro e w9 ⟨v508, rfl, ho0, hb⟩; refine ⟨_, rfl, ?_⟩; have HO509 := zMk (Kd.S_lower (Kd.S_new' ho0 (Kd.S_lt (by (with_reducible repeat (first |  apply Kd.S_alloc|  apply Kd.S_drewN|  apply Kd.S_drew)); exact HO506.out))) (zBs (uT HB.out))); replace HO506 := zMk (Kd.S_elder' (by (with_reducible repeat (first |  apply Kd.S_alloc|  apply Kd.S_drewN|  apply Kd.S_drew)); exact HO506.out) (Kd.S_base ho0) hb); replace BK503 := zMk (zKb BK503.out hb); replace HB := zMk (zBt (uT HB.out) hb)))
 go_loopg [3, 6] k (fun kq v3 v6 w' => ∃ (x3_1 : List Int) (x6_1 : Int), v6 = .int .i64 x6_1 ∧ Aside0 (r6_Cuts.l0 kq x3_1 (t504.length : Int) t507 x6_1 a0_0 l0_1 = some r) ∧ Aside0 (kq ≤ k) ∧ Aside0 (Kd.R (Kd.int .i64) 3 w' w.heap.size (fun _ => True) v3 x3_1) ∧ Aside0 (Kd.S (Kd.slice 3 (Kd.int .i64)) 33 w' w.heap.size (fun k_ => some k_ ≠ (v3 : Value).ownBlock) v508 t507) ∧ Aside0 (w'.heap[gb503]? = some (.cells #[.int .i64 a0_0, (.slice A0_1 l0_1.length c0_1)] 24 (0, 0))) ∧ Aside0 (Below w.heap.size w w'))
 case atStart => exact ⟨(([] : List Int)), (0), (by first | rfl | (simp; done) | (simp [*]; done)), H', ⟨Nat.le_refl _⟩, ⟨by first | exact Kd.R_nil _ _ _ _ _ | exact Kd.N_nil _ _ _ _ _ | exact Kd.V_nil _ _ _ _ _ | exact Kd.Q_nil _ _ _ _ _ | exact Kd.S_nil _ _ _ _ _⟩, ⟨by (with_reducible repeat (first | apply Kd.S_alloc | apply Kd.S_drewN | apply Kd.S_drew)); exact Kd.S_mono HO509.out (fun _ hk => (by simp [Value.ownBlock]))⟩, ⟨by (with_reducible repeat (first | refine zKn ?_ _ | refine zKd ?_ | refine zKa ?_ _)); exact BK503.out⟩, ⟨by exact uT HB.out⟩⟩
 clear H'
 obtain ⟨x3_1, x6_1, rfl, HA, HK1, HO_3, HO_5, BK503, HB⟩ := hrel
 rcases gk with _ | k1
 ·exact absurd HA.out (by simp [r6_Cuts.l0])
 have H := HA.out
 clear HA
 simp only [r6_Cuts.l0] at H
 by_cases c10 : x6_1 < a0_0
 ·rw [if_pos c10] at H
  have c10b0 : decide (x6_1 < a0_0) = true := decide_eq_true c10
  clear c10
  replace H := bnd H
  obtain ⟨t510, A110, H⟩ := H
  have A11 := zMk A110
  clear A110
  replace H := bnd H
  obtain ⟨⟨t513, t514⟩, A120, H⟩ := H
  replace H : ((r6_Components.f k1 t513 t514).bind fun t518 => (if 0 ≤ x6_1 then (if x6_1 < (t507.length : Int) then (if ((rd_L4 t507 x6_1).length : Int) > 0 then (if (wrap64 ((t518.length : Int) - 1)) > (t504.length : Int) then (if x3_1.length < 17592186044416 then (r6_Cuts.l0 k1 (x3_1 ++ [x6_1]) (t504.length : Int) t507 (wrap64 (x6_1 + 1)) a0_0 l0_1) else (none)) else (r6_Cuts.l0 k1 x3_1 (t504.length : Int) t507 (wrap64 (x6_1 + 1)) a0_0 l0_1)) else (r6_Cuts.l0 k1 x3_1 (t504.length : Int) t507 (wrap64 (x6_1 + 1)) a0_0 l0_1)) else (none)) else (none))) = some r := H
  have A12 := zMk A120
  clear A120
  replace H := bnd H
  obtain ⟨t518, A130, H⟩ := H
  have A13 := zMk A130
  clear A130
  by_cases c14 : 0 ≤ x6_1
  rotate_left
  ·rw [if_neg c14] at H; exact absurd H (by simp)
  rw [if_pos c14] at H
  have c14b0 : decide (0 ≤ x6_1) = true := decide_eq_true c14
  clear c14
  by_cases c15 : x6_1 < (t507.length : Int)
  rotate_left
  ·rw [if_neg c15] at H; exact absurd H (by simp)
  rw [if_pos c15] at H
  have c15b0 : decide (x6_1 < (t507.length : Int)) = true := decide_eq_true c15
  clear c15
  by_cases c16 : ((rd_L4 t507 x6_1).length : Int) > 0
  ·rw [if_pos c16] at H
   have c16b0 : decide (0 < ((rd_L4 t507 x6_1).length : Int)) = true := decide_eq_true c16
   have c16b1 : decide (0 < (rd_L4 t507 x6_1).length) = true := decide_eq_true (by omega)
   clear c16
   by_cases c17 : (wrap64 ((t518.length : Int) - 1)) > (t504.length : Int)
   ·rw [if_pos c17] at H
    have c17b0 : decide ((t504.length : Int) < (wrap64 ((t518.length : Int) - 1))) = true := decide_eq_true c17
    clear c17
    by_cases c18 : x3_1.length < 17592186044416
    rotate_left
    ·rw [if_neg c18] at H; exact absurd H (by simp)
    rw [if_pos c18] at H
    have LMc18 := zMk c18
    clear c18
    obtain ⟨y522, hy522⟩ : ∃ y_ : List Int, y_ = (x3_1 ++ [x6_1]) := ⟨_, rfl⟩
    replace H : (r6_Cuts.l0 k1 y522 (t504.length : Int) t507 (wrap64 (x6_1 + 1)) a0_0 l0_1) = some r := by first | (rw [hy522]; with_reducible exact H) | (have H2_ := bsm H; first | (rw [hy522]; with_reducible exact H2_) | with_reducible exact H2_) | with_reducible exact H | (rw [hy522]; exact H) | exact H
    have Ny522 := zMk hy522
    clear hy522
    have H' := zMk H
    clear H
    have hcz19_0 : wr.cell? ⟨gb503, 0, none⟩ = some (.int .i64 a0_0) := (zKc BK503.out 0).trans rfl
    have hcz19_1 : wr.cell? ⟨gb503, 1, none⟩ = some (.slice A0_1 l0_1.length c0_1) := (zKc BK503.out 1).trans rfl
    have hfz19_0 := zKf BK503.out 0
    have hfz19_1 := zKf BK503.out 1
    try go_wp2
    replace HO_3 := zMk (zRd HO_3.out)
    replace HO_5 := zMk (Kd.S_drew HO_5.out)
    replace BK503 := zMk (zKd BK503.out)
    replace HB := zMk (zBd HB.out)
    refine start_ (n:=8) (S:=fun w' => w'.cell? ⟨gb503, 0, none⟩ = some (.int .i64 a0_0) ∧ w'.cell? ⟨gb503, 1, none⟩ = some (.slice A0_1 l0_1.length c0_1)) (ds:=[]) #[false,false,false,false,false,false,false,false] (by kernel_rfl) rfl rfl ⟨(zKc BK503.out 0).trans rfl, (zKc BK503.out 1).trans rfl⟩ (fun hHeld => ?_); refine with_tabW r6_Cuts.tab7 r6_Cuts.bits7 (fun HT_ HW_ => ?_)
    generalize wr.drew = w20 at HO_3 HO_5 BK503 HB hHeld ⊢
    refine pure_ (i:=1) (N:=some 21) (v:=?_) (a' := ?_) #[false,true,false,false,false,false,false,false] rfl rfl (any_of HT_.out (by kernel_rfl)) (fun _ _ _ h => h) (Or.inl ⟨by rfl, ?_⟩) ?_ ?_
    rotate_left
    ·intro w'
     go_simp
     with_reducible rfl
    rotate_left
    ·simp only [Act.put, zSa, zSb, zSc, i64_w, i32_w]
     rfl
    refine pure_ (i:=3) (N:=some 23) (v:=?_) (a' := ?_) #[false,true,false,true,false,false,false,false] rfl rfl (any_of HT_.out (by kernel_rfl)) (fun _ _ _ h => h) (Or.inl ⟨by rfl, ?_⟩) ?_ ?_
    rotate_left
    ·intro w'
     go_simp
     with_reducible rfl
    rotate_left
    ·simp only [Act.put, zSa, zSb, zSc, i64_w, i32_w]
     rfl
    refine take_ (i:=0) (N:=some 20) (v:=?_) (a' := ?_) #[true,true,false,true,false,false,false,false] rfl rfl (take_ofW HT_.out HW_.out (by kernel_rfl)) (fun _ _ _ h => h) (Or.inl ⟨by rfl, ?_⟩) hHeld ?_ ?_
    rotate_left
    ·rintro w' ⟨s0, s1⟩
     go_simp
     with_reducible rfl
    rotate_left
    ·simp only [Act.put, zSa, zSb, zSc, i64_w, i32_w]
     rfl
    refine take_ (i:=2) (N:=some 22) (v:=?_) (a' := ?_) #[true,true,true,true,false,false,false,false] rfl rfl (take_ofW HT_.out HW_.out (by kernel_rfl)) (fun _ _ _ h => h) (Or.inl ⟨by rfl, ?_⟩) hHeld ?_ ?_
    rotate_left
    ·rintro w' ⟨s0, s1⟩
     go_simp
     with_reducible rfl
    rotate_left
    ·simp only [Act.put, zSa, zSb, zSc, i64_w, i32_w]
     rfl
    refine join_ (σ:=Value × Value × Nat) 1 #[true,true,true,true,true,true,true,false] (fun s_ => [(24, s_.1), (25, .agg #[.int .i64 t513, s_.2.1]), (7, .pointer (some ⟨s_.2.2, 0, none⟩))]) (fun s_ w' => (w'.cell? ⟨gb503, 0, none⟩ = some (.int .i64 a0_0) ∧ w'.cell? ⟨gb503, 1, none⟩ = some (.slice A0_1 l0_1.length c0_1)) ∧ (Kd.R Kd.bool 4 w' w.heap.size (fun _ => True) s_.1 t510) ∧ (Kd.R k43 43 w' w.heap.size (fun _ => True) s_.2.1 t514) ∧ (Kd.R (Kd.int .i64) 3 w' w.heap.size (fun _ => True) u3 x3_1) ∧ (Kd.S (Kd.slice 3 (Kd.int .i64)) 33 w' w.heap.size (fun k_ => some k_ ≠ (u3 : Value).ownBlock) v508 t507) ∧ (w'.heap[gb503]? = some (.cells #[.int .i64 a0_0, .slice A0_1 l0_1.length c0_1] 24 (0, 0))) ∧ (w'.heap[s_.2.2]? = some (.cells #[.int .i64 0, .slice none 0 0] 24 (0, 0))) ∧ (w.heap.size ≤ s_.2.2) ∧ (w.heap.size ≤ s_.2.2) ∧ (gb503 ≠ s_.2.2) ∧ (s_.2.2 ≠ gb503) ∧ (Below w.heap.size w w')) ?_ ?_
    rotate_left
    ·intro hCont
     refine two_ (i:=4) (j:=6) (Ni:=some 24) (Nj:=some 7) #[true,true,true,true,true,false,false,false] #[true,true,true,true,false,false,true,false] rfl rfl rfl rfl (two_of HT_.out (by kernel_rfl)) (by decide) (by decide) (fun K hK => ?_) (fun K hK => ?_)
     ·skip
      refine goes_ Try.func34 (by kernel_rfl) rfl #[.int .i64 a0_0, .int .i64 x6_1] (by rfl) rfl rfl (by (try simp only [zMa, zMc, zMn]); first | done | rfl | (simp only [zLd, zLt]; rfl)) ?_
      with_reducible refine (r6_all.calls k1 a0_0 x6_1 t510 _ A11.out).mono ?_
      rintro e w21 ⟨v511, rfl, ho0, hb⟩
      refine ⟨_, rfl, ?_⟩
      replace HO_3 := zMk (zRb (uR HO_3.out) hb)
      replace HO_5 := zMk (Kd.S_below (by (with_reducible repeat (first | apply Kd.S_alloc | apply Kd.S_drewN | apply Kd.S_drew)); exact HO_5.out) hb)
      have HO512 := zMk (zRl ho0 (zBs (uT HB.out)))
      replace BK503 := zMk (zKb BK503.out hb)
      replace HB := zMk (zBt (uT HB.out) hb)
      obtain ⟨Ao22, co22, eo22⟩ := zRs HO512.out
      (first |  subst eo22|  (injection eo22 with f1_ f2_ f3_; have f4_ := f1_.symm; have f5_ := f3_.symm; clear f1_ f2_ f3_; subst f4_; subst f5_))
      refine hK.out _ _ ⟨(zKc BK503.out 0).trans rfl, (zKc BK503.out 1).trans rfl⟩ (fun hHeld => ?_)
      clear hK K
      refine norm_ (a' := ?_) ?_ ?_
      rotate_left
      ·show Act.put _ (some 24) _ = _
       simp only [Act.put, zSa, zSb, zSc, i64_w, i32_w]
       rfl
      refine two_ (i:=5) (j:=6) (Ni:=some 25) (Nj:=some 7) #[true,true,true,true,true,true,false,false] #[true,true,true,true,true,false,true,false] rfl rfl rfl rfl (two_of HT_.out (by kernel_rfl)) (by decide) (by decide) (fun K hK => ?_) (fun K hK => ?_)
      ·skip
       refine goes_ Try.func33 (by kernel_rfl) rfl #[.agg #[.int .i64 a0_0, .slice A0_1 l0_1.length c0_1], .slice Ao22 t510.length co22] (by rfl) rfl rfl (by (try simp only [zMa, zMc, zMn]); first | done | rfl | (simp only [zLd, zLt]; rfl)) ?_
       with_reducible refine (r4_Only.calls k1 a0_0 _ _ l0_1 _ _ t510 t513 t514 _ ?side1 ?side2 ?side3 ?side4 A12.out).mono ?_
       (case side1 => repeat (first | exact (Kd.C_below HR0_1.out HB.out) | (with_reducible refine zCa ?_ _) | (with_reducible refine zCn ?_ _) | (with_reducible refine zCd ?_)))
       (case side2 => exact HC0_1.out)
       (case side3 => exact uC (zRr HO512.out).2.2)
       (case side4 => exact (zRr HO512.out).2.1)
       rintro e w23 ⟨v515, rfl, ho0, hb⟩
       refine ⟨_, rfl, ?_⟩
       replace HO_3 := zMk (zRb (uR HO_3.out) hb)
       replace HO_5 := zMk (Kd.S_below (by (with_reducible repeat (first | apply Kd.S_alloc | apply Kd.S_drewN | apply Kd.S_drew)); exact HO_5.out) hb)
       replace HO512 := zMk (zRb (uR HO512.out) hb)
       have HO516 := zMk (zRl ho0 (zBs (uT HB.out)))
       replace BK503 := zMk (zKb BK503.out hb)
       replace HB := zMk (zBt (uT HB.out) hb)
       refine hK.out _ _ ⟨(zKc BK503.out 0).trans rfl, (zKc BK503.out 1).trans rfl⟩ (fun hHeld => ?_)
       clear hK K
       refine norm_ (a' := ?_) ?_ ?_
       rotate_left
       ·show Act.put _ (some 25) _ = _
        simp only [Act.put, zSa, zSb, zSc, i64_w, i32_w]
        rfl
       refine one_ (i:=6) (N:=some 7) #[true,true,true,true,true,true,true,false] rfl rfl (one_of HT_.out (by kernel_rfl)) (by decide) (fun K hK => ?_)
       refine box_step ?hg (N:=7) ?hd (cs:=#[.int .i64 0, .slice none 0 0]) (t:=24) ?hr ?_; (case hd => rfl); (case hg => rfl); (case hr => first | (go_simp; done) | (go_simp; rfl) | (go_simp; rw [show ∀ x : Int, IntKind.u32.wrap (IntKind.u8.wrap x) = x % 256 from fun x => (by show (x % 256) % 4294967296 = x % 256; omega)]))
       intro gb517 hg w24 hbox hb
       replace HO_3 := zMk (zRb (uR HO_3.out) hb)
       replace HO_5 := zMk (Kd.S_below (by (with_reducible repeat (first | apply Kd.S_alloc | apply Kd.S_drewN | apply Kd.S_drew)); exact HO_5.out) hb)
       replace HO512 := zMk (zRb (uR HO512.out) hb)
       replace HO516 := zMk (zRb (uR HO516.out) hb)
       have BK517 := zMk (hbox)
       have GW517 := zMk ((by rw [hg]; exact (zBs (uT HB.out)) : w.heap.size ≤ gb517))
       have GE517 := zMk ((by rw [hg]; exact (zBs (uT HB.out)) : w.heap.size ≤ gb517))
       have IGE517 := ownGe GE517.out
       replace HB := zMk (zBt (uT HB.out) hb)
       have NB503_517 := zMk ((by rw [hg]; exact Nat.ne_of_lt (blk_lt BK503.out) : gb503 ≠ gb517))
       have NB517_503 := zMk ((by rw [hg]; exact Nat.ne_of_gt (blk_lt BK503.out) : gb517 ≠ gb503))
       replace BK503 := zMk (zKb BK503.out hb)
       clear hb hbox hg
       refine hK.out _ _ ⟨(zKc BK503.out 0).trans rfl, (zKc BK503.out 1).trans rfl⟩ (fun hHeld => ?_)
       clear hK K
       refine norm_ (a' := ?_) ?_ ?_
       rotate_left
       ·show Act.put _ (some 7) _ = _
        simp only [Act.put, zSa, zSb, zSc, i64_w, i32_w]
        rfl
       exact norm_ (by simp only [putAll, Act.put, zSa, zSb, zSc]) (hCont (.slice Ao22 t510.length co22, v515, gb517) _ ⟨hHeld, (uR HO512.out), (uR HO516.out), (uR HO_3.out), (by (with_reducible repeat (first | apply Kd.S_alloc | apply Kd.S_drewN | apply Kd.S_drew)); exact HO_5.out), BK503.out, BK517.out, GW517.out, GE517.out, NB503_517.out, NB517_503.out, (uT HB.out)⟩)
      ·skip
       refine box_step ?hg (N:=7) ?hd (cs:=#[.int .i64 0, .slice none 0 0]) (t:=24) ?hr ?_; (case hd => rfl); (case hg => rfl); (case hr => first | (go_simp; done) | (go_simp; rfl) | (go_simp; rw [show ∀ x : Int, IntKind.u32.wrap (IntKind.u8.wrap x) = x % 256 from fun x => (by show (x % 256) % 4294967296 = x % 256; omega)]))
       intro gb517 hg w22 hbox hb
       replace HO_3 := zMk (zRb (uR HO_3.out) hb)
       replace HO_5 := zMk (Kd.S_below (by (with_reducible repeat (first | apply Kd.S_alloc | apply Kd.S_drewN | apply Kd.S_drew)); exact HO_5.out) hb)
       replace HO512 := zMk (zRb (uR HO512.out) hb)
       have BK517 := zMk (hbox)
       have GW517 := zMk ((by rw [hg]; exact (zBs (uT HB.out)) : w.heap.size ≤ gb517))
       have GE517 := zMk ((by rw [hg]; exact (zBs (uT HB.out)) : w.heap.size ≤ gb517))
       have IGE517 := ownGe GE517.out
       replace HB := zMk (zBt (uT HB.out) hb)
       have NB503_517 := zMk ((by rw [hg]; exact Nat.ne_of_lt (blk_lt BK503.out) : gb503 ≠ gb517))
       have NB517_503 := zMk ((by rw [hg]; exact Nat.ne_of_gt (blk_lt BK503.out) : gb517 ≠ gb503))
       replace BK503 := zMk (zKb BK503.out hb)
       clear hb hbox hg
       obtain ⟨Ao23, co23, eo23⟩ := zRs HO512.out
       (first |  subst eo23|  (injection eo23 with f1_ f2_ f3_; have f4_ := f1_.symm; have f5_ := f3_.symm; clear f1_ f2_ f3_; subst f4_; subst f5_))
       refine hK.out _ _ ⟨(zKc BK503.out 0).trans rfl, (zKc BK503.out 1).trans rfl⟩ (fun hHeld => ?_)
       clear hK K
       refine norm_ (a' := ?_) ?_ ?_
       rotate_left
       ·show Act.put _ (some 7) _ = _
        simp only [Act.put, zSa, zSb, zSc, i64_w, i32_w]
        rfl
       refine one_ (i:=5) (N:=some 25) #[true,true,true,true,true,true,true,false] rfl rfl (one_of HT_.out (by kernel_rfl)) (by decide) (fun K hK => ?_)
       refine goes_ Try.func33 (by kernel_rfl) rfl #[.agg #[.int .i64 a0_0, .slice A0_1 l0_1.length c0_1], .slice Ao23 t510.length co23] (by rfl) rfl rfl (by (try simp only [zMa, zMc, zMn]); first | done | rfl | (simp only [zLd, zLt]; rfl)) ?_
       with_reducible refine (r4_Only.calls k1 a0_0 _ _ l0_1 _ _ t510 t513 t514 _ ?side1 ?side2 ?side3 ?side4 A12.out).mono ?_
       (case side1 => repeat (first | exact (Kd.C_below HR0_1.out HB.out) | (with_reducible refine zCa ?_ _) | (with_reducible refine zCn ?_ _) | (with_reducible refine zCd ?_)))
       (case side2 => exact HC0_1.out)
       (case side3 => exact uC (zRr HO512.out).2.2)
       (case side4 => exact (zRr HO512.out).2.1)
       rintro e w24 ⟨v515, rfl, ho0, hb⟩
       refine ⟨_, rfl, ?_⟩
       replace HO_3 := zMk (zRb (uR HO_3.out) hb)
       replace HO_5 := zMk (Kd.S_below (by (with_reducible repeat (first | apply Kd.S_alloc | apply Kd.S_drewN | apply Kd.S_drew)); exact HO_5.out) hb)
       replace HO512 := zMk (zRb (uR HO512.out) hb)
       have HO516 := zMk (zRl ho0 (zBs (uT HB.out)))
       replace BK503 := zMk (zKb BK503.out hb)
       replace BK517 := zMk (zKb BK517.out hb)
       replace HB := zMk (zBt (uT HB.out) hb)
       refine hK.out _ _ ⟨(zKc BK503.out 0).trans rfl, (zKc BK503.out 1).trans rfl⟩ (fun hHeld => ?_)
       clear hK K
       refine norm_ (a' := ?_) ?_ ?_
       rotate_left
       ·show Act.put _ (some 25) _ = _
        simp only [Act.put, zSa, zSb, zSc, i64_w, i32_w]
        rfl
       exact norm_ (by simp only [putAll, Act.put, zSa, zSb, zSc]) (hCont (.slice Ao23 t510.length co23, v515, gb517) _ ⟨hHeld, (uR HO512.out), (uR HO516.out), (uR HO_3.out), (by (with_reducible repeat (first | apply Kd.S_alloc | apply Kd.S_drewN | apply Kd.S_drew)); exact HO_5.out), BK503.out, BK517.out, GW517.out, GE517.out, NB503_517.out, NB517_503.out, (uT HB.out)⟩)
     ·skip
      refine box_step ?hg (N:=7) ?hd (cs:=#[.int .i64 0, .slice none 0 0]) (t:=24) ?hr ?_; (case hd => rfl); (case hg => rfl); (case hr => first | (go_simp; done) | (go_simp; rfl) | (go_simp; rw [show ∀ x : Int, IntKind.u32.wrap (IntKind.u8.wrap x) = x % 256 from fun x => (by show (x % 256) % 4294967296 = x % 256; omega)]))
      intro gb517 hg w21 hbox hb
      replace HO_3 := zMk (zRb (uR HO_3.out) hb)
      replace HO_5 := zMk (Kd.S_below (by (with_reducible repeat (first | apply Kd.S_alloc | apply Kd.S_drewN | apply Kd.S_drew)); exact HO_5.out) hb)
      have BK517 := zMk (hbox)
      have GW517 := zMk ((by rw [hg]; exact (zBs (uT HB.out)) : w.heap.size ≤ gb517))
      have GE517 := zMk ((by rw [hg]; exact (zBs (uT HB.out)) : w.heap.size ≤ gb517))
      have IGE517 := ownGe GE517.out
      replace HB := zMk (zBt (uT HB.out) hb)
      have NB503_517 := zMk ((by rw [hg]; exact Nat.ne_of_lt (blk_lt BK503.out) : gb503 ≠ gb517))
      have NB517_503 := zMk ((by rw [hg]; exact Nat.ne_of_gt (blk_lt BK503.out) : gb517 ≠ gb503))
      replace BK503 := zMk (zKb BK503.out hb)
      clear hb hbox hg
      refine hK.out _ _ ⟨(zKc BK503.out 0).trans rfl, (zKc BK503.out 1).trans rfl⟩ (fun hHeld => ?_)
      clear hK K
      refine norm_ (a' := ?_) ?_ ?_
      rotate_left
      ·show Act.put _ (some 7) _ = _
       simp only [Act.put, zSa, zSb, zSc, i64_w, i32_w]
       rfl
      refine one_ (i:=4) (N:=some 24) #[true,true,true,true,true,false,true,false] rfl rfl (one_of HT_.out (by kernel_rfl)) (by decide) (fun K hK => ?_)
      refine goes_ Try.func34 (by kernel_rfl) rfl #[.int .i64 a0_0, .int .i64 x6_1] (by rfl) rfl rfl (by (try simp only [zMa, zMc, zMn]); first | done | rfl | (simp only [zLd, zLt]; rfl)) ?_
      with_reducible refine (r6_all.calls k1 a0_0 x6_1 t510 _ A11.out).mono ?_
      rintro e w22 ⟨v511, rfl, ho0, hb⟩
      refine ⟨_, rfl, ?_⟩
      replace HO_3 := zMk (zRb (uR HO_3.out) hb)
      replace HO_5 := zMk (Kd.S_below (by (with_reducible repeat (first | apply Kd.S_alloc | apply Kd.S_drewN | apply Kd.S_drew)); exact HO_5.out) hb)
      have HO512 := zMk (zRl ho0 (zBs (uT HB.out)))
      replace BK503 := zMk (zKb BK503.out hb)
      replace BK517 := zMk (zKb BK517.out hb)
      replace HB := zMk (zBt (uT HB.out) hb)
      obtain ⟨Ao23, co23, eo23⟩ := zRs HO512.out
      (first |  subst eo23|  (injection eo23 with f1_ f2_ f3_; have f4_ := f1_.symm; have f5_ := f3_.symm; clear f1_ f2_ f3_; subst f4_; subst f5_))
      refine hK.out _ _ ⟨(zKc BK503.out 0).trans rfl, (zKc BK503.out 1).trans rfl⟩ (fun hHeld => ?_)
      clear hK K
      refine norm_ (a' := ?_) ?_ ?_
      rotate_left
      ·show Act.put _ (some 24) _ = _
       simp only [Act.put, zSa, zSb, zSc, i64_w, i32_w]
       rfl
      refine one_ (i:=5) (N:=some 25) #[true,true,true,true,true,true,true,false] rfl rfl (one_of HT_.out (by kernel_rfl)) (by decide) (fun K hK => ?_)
      refine goes_ Try.func33 (by kernel_rfl) rfl #[.agg #[.int .i64 a0_0, .slice A0_1 l0_1.length c0_1], .slice Ao23 t510.length co23] (by rfl) rfl rfl (by (try simp only [zMa, zMc, zMn]); first | done | rfl | (simp only [zLd, zLt]; rfl)) ?_
      with_reducible refine (r4_Only.calls k1 a0_0 _ _ l0_1 _ _ t510 t513 t514 _ ?side1 ?side2 ?side3 ?side4 A12.out).mono ?_
      (case side1 => repeat (first | exact (Kd.C_below HR0_1.out HB.out) | (with_reducible refine zCa ?_ _) | (with_reducible refine zCn ?_ _) | (with_reducible refine zCd ?_)))
      (case side2 => exact HC0_1.out)
      (case side3 => exact uC (zRr HO512.out).2.2)
      (case side4 => exact (zRr HO512.out).2.1)
      rintro e w24 ⟨v515, rfl, ho0, hb⟩
      refine ⟨_, rfl, ?_⟩
      replace HO_3 := zMk (zRb (uR HO_3.out) hb)
      replace HO_5 := zMk (Kd.S_below (by (with_reducible repeat (first | apply Kd.S_alloc | apply Kd.S_drewN | apply Kd.S_drew)); exact HO_5.out) hb)
      replace HO512 := zMk (zRb (uR HO512.out) hb)
      have HO516 := zMk (zRl ho0 (zBs (uT HB.out)))
      replace BK503 := zMk (zKb BK503.out hb)
      replace BK517 := zMk (zKb BK517.out hb)
      replace HB := zMk (zBt (uT HB.out) hb)
      refine hK.out _ _ ⟨(zKc BK503.out 0).trans rfl, (zKc BK503.out 1).trans rfl⟩ (fun hHeld => ?_)
      clear hK K
      refine norm_ (a' := ?_) ?_ ?_
      rotate_left
      ·show Act.put _ (some 25) _ = _
       simp only [Act.put, zSa, zSb, zSc, i64_w, i32_w]
       rfl
      exact norm_ (by simp only [putAll, Act.put, zSa, zSb, zSc]) (hCont (.slice Ao23 t510.length co23, v515, gb517) _ ⟨hHeld, (uR HO512.out), (uR HO516.out), (uR HO_3.out), (by (with_reducible repeat (first | apply Kd.S_alloc | apply Kd.S_drewN | apply Kd.S_drew)); exact HO_5.out), BK503.out, BK517.out, GW517.out, GE517.out, NB503_517.out, NB517_503.out, (uT HB.out)⟩)
    rintro ⟨v511, v515, gb517⟩ w25 ⟨hS_, h0_, h1_, h2_, h3_, h4_, h5_, h6_, h7_, h8_, h9_, h10_⟩
    have n0_ : Aside0 (Kd.R Kd.bool 4 w25 w.heap.size (fun _ => True) v511 t510) := ⟨h0_⟩
    have n1_ : Aside0 (Kd.R k43 43 w25 w.heap.size (fun _ => True) v515 t514) := ⟨h1_⟩
    have n2_ : Aside0 (Kd.R (Kd.int .i64) 3 w25 w.heap.size (fun _ => True) u3 x3_1) := ⟨h2_⟩
    have n3_ : Aside0 (Kd.S (Kd.slice 3 (Kd.int .i64)) 33 w25 w.heap.size (fun k_ => some k_ ≠ (u3 : Value).ownBlock) v508 t507) := ⟨h3_⟩
    have n4_ : Aside0 (w25.heap[gb503]? = some (.cells #[.int .i64 a0_0, .slice A0_1 l0_1.length c0_1] 24 (0, 0))) := ⟨h4_⟩
    have n5_ : Aside0 (w25.heap[gb517]? = some (.cells #[.int .i64 0, .slice none 0 0] 24 (0, 0))) := ⟨h5_⟩
    have n6_ : Aside0 (w.heap.size ≤ gb517) := ⟨h6_⟩
    have n7_ : Aside0 (w.heap.size ≤ gb517) := ⟨h7_⟩
    have n8_ : Aside0 (gb503 ≠ gb517) := ⟨h8_⟩
    have n9_ : Aside0 (gb517 ≠ gb503) := ⟨h9_⟩
    have n10_ : Aside0 (Below w.heap.size w w25) := ⟨h10_⟩
    clear HO_3 HO_5 BK503 HB h0_ h1_ h2_ h3_ h4_ h5_ h6_ h7_ h8_ h9_ h10_
    have HO512 := n0_
    have HO516 := n1_
    have HO_3 := n2_
    have HO_5 := n3_
    have BK503 := n4_
    have BK517 := n5_
    have GW517 := n6_
    have GE517 := n7_
    have IGE517 := ownGe GE517.out
    have NB503_517 := n8_
    have NB517_503 := n9_
    have HB := n10_
    clear n0_ n1_ n2_ n3_ n4_ n5_ n6_ n7_ n8_ n9_ n10_
    have hHeld : w25.cell? ⟨gb503, 0, none⟩ = some (.int .i64 a0_0) ∧ w25.cell? ⟨gb503, 1, none⟩ = some (.slice A0_1 l0_1.length c0_1) := hS_
    obtain ⟨Ao27, co27, eo27⟩ := zRs HO516.out
    (first |  subst eo27|  (injection eo27 with f1_ f2_ f3_; have f4_ := f1_.symm; have f5_ := f3_.symm; clear f1_ f2_ f3_; subst f4_; subst f5_))
    refine norm_ (a' := ?_) ?_ ?_
    rotate_left
    ·simp only [putAll, Act.put, zSa, zSb, zSc]
     rfl
    refine one_ (i:=7) (N:=none) #[true,true,true,true,true,true,true,true] rfl rfl (one_of HT_.out (by kernel_rfl)) (by decide) (fun K hK => ?_)
    have hs26 : w25.cell? ⟨gb517, 0, none⟩ = some (.int .i64 0) := (zKc BK517.out 0).trans rfl
    have hfs26 := zKf BK517.out 0
    have hns26_0 := NB503_517.out
    have hms26_0 := NB517_503.out
    have hs28 : w25.cell? ⟨gb517, 1, none⟩ = some (.slice none 0 0) := (zKc BK517.out 1).trans rfl
    have hfs28 := zKf BK517.out 1
    have hns28_0 := NB503_517.out
    have hms28_0 := NB517_503.out
    refine skip_ (w1:=?_) (by rfl) rfl ?_ ?_
    rotate_left
    ·go_simp
     rfl
    refine hK.out _ _ ⟨((cell_far (p:=⟨gb517, _, none⟩) NB503_517.out _).trans (((cell_far (p:=⟨gb517, _, none⟩) NB503_517.out _).trans (hHeld.1)))), ((cell_far (p:=⟨gb517, _, none⟩) NB503_517.out _).trans (((cell_far (p:=⟨gb517, _, none⟩) NB503_517.out _).trans (hHeld.2))))⟩ (fun hHeld => ?_)
    clear hK K
    refine done_ (done_of HT_.out (by kernel_rfl)) ?_
    have hnb29 := NB517_503.out
    have hnc29 := NB503_517.out
    have hcz30_0 : w25.cell? ⟨gb517, 0, none⟩ = some (.int .i64 0) := (zKc BK517.out 0).trans rfl
    have hcz30_1 : w25.cell? ⟨gb517, 1, none⟩ = some (.slice none 0 0) := (zKc BK517.out 1).trans rfl
    have hfz30_0 := zKf BK517.out 0
    have hfz30_1 := zKf BK517.out 1
    try go_wp2_with (first | ((with_reducible refine gate_callee (f:=13) rfl ?_); refine goesL_ (some 27) rfl rfl Try.func13 (by kernel_rfl) rfl #[.agg #[.int .i64 t513, .slice Ao27 t514.length co27]] rfl (by (try simp only [zMa, zMc, zMn]); first |  done|  rfl|  (simp only [zLd, zLt]; rfl)) ?_; (with_reducible refine (r6_Components.calls k1 t513 _ _ t514 t518 _ ?side1 ?side2 A13.out).mono ?_); (case side1 => refine (zRr (e:=43) (base:=w.heap.size) (ok:=fun k_ => True) (n:=t514.length) (c:=co27) ?_).2.2; exact (zRm (Kd.R_far (p:=⟨gb517, 1, none⟩) (Kd.R_far (p:=⟨gb517, 0, none⟩) (Kd.R_types HO516.out BK517.out (by decide)) (fun _ hk => hk.2) (.int .i64 t513)) (fun _ hk => hk.2) (.slice Ao27 t514.length co27)) (fun _ h_ => h_.1))); (case side2 => exact (zRr HO516.out).2.1); rintro e w31 ⟨v519, rfl, ho0, hb⟩; refine ⟨_, rfl, ?_⟩; replace HO512 := zMk (zRb (zRm (Kd.R_far (p:=⟨gb517, 1, none⟩) (Kd.R_far (p:=⟨gb517, 0, none⟩) (Kd.R_types HO512.out BK517.out (by decide)) (fun _ hk => hk.2) (.int .i64 t513)) (fun _ hk => hk.2) (.slice Ao27 t514.length co27)) (fun _ h_ => h_.1)) hb); replace HO516 := zMk (zRb (zRm (Kd.R_far (p:=⟨gb517, 1, none⟩) (Kd.R_far (p:=⟨gb517, 0, none⟩) (Kd.R_types HO516.out BK517.out (by decide)) (fun _ hk => hk.2) (.int .i64 t513)) (fun _ hk => hk.2) (.slice Ao27 t514.length co27)) (fun _ h_ => h_.1)) hb); have HO520 := zMk (Kd.S_lower (Kd.S_new' (Kd.S_new' ho0 (zRt (zRm (Kd.R_far (p:=⟨gb517, 1, none⟩) (Kd.R_far (p:=⟨gb517, 0, none⟩) (Kd.R_types HO_3.out BK517.out (by decide)) (fun _ hk => hk.2) (.int .i64 t513)) (fun _ hk => hk.2) (.slice Ao27 t514.length co27)) (fun _ h_ => h_.1)))) (Kd.S_lt (by (with_reducible repeat (first |  apply Kd.S_alloc|  apply Kd.S_drewN|  apply Kd.S_drew)); exact (Kd.S_mono (Kd.S_far (p:=⟨gb517, 1, none⟩) (Kd.S_far (p:=⟨gb517, 0, none⟩) (Kd.S_types HO_5.out BK517.out (by decide)) (fun _ hk => hk.2) (.int .i64 t513)) (fun _ hk => hk.2) (.slice Ao27 t514.length co27)) (fun _ h_ => h_.1))))) (zBs (uT HB.out))); replace HO_3 := zMk (zRb (zRm (Kd.R_far (p:=⟨gb517, 1, none⟩) (Kd.R_far (p:=⟨gb517, 0, none⟩) (Kd.R_types HO_3.out BK517.out (by decide)) (fun _ hk => hk.2) (.int .i64 t513)) (fun _ hk => hk.2) (.slice Ao27 t514.length co27)) (fun _ h_ => h_.1)) hb); replace HO_5 := zMk (Kd.S_elder' (by (with_reducible repeat (first |  apply Kd.S_alloc|  apply Kd.S_drewN|  apply Kd.S_drew)); exact (Kd.S_mono (Kd.S_far (p:=⟨gb517, 1, none⟩) (Kd.S_far (p:=⟨gb517, 0, none⟩) (Kd.S_types HO_5.out BK517.out (by decide)) (fun _ hk => hk.2) (.int .i64 t513)) (fun _ hk => hk.2) (.slice Ao27 t514.length co27)) (fun _ h_ => h_.1))) (Kd.S_base ho0) hb); replace BK503 := zMk (zKb (g:=gb503) (o:=.cells #[.int .i64 a0_0, .slice A0_1 l0_1.length c0_1] 24 (0, 0)) (by (with_reducible repeat (first |  refine zKn ?_ _|  refine zKd ?_|  refine zKa ?_ _)); refine blk_far ?_ NB503_517.out _; (with_reducible repeat (first |  refine zKn ?_ _|  refine zKd ?_|  refine zKa ?_ _)); refine blk_far ?_ NB503_517.out _; (with_reducible repeat (first |  refine zKn ?_ _|  refine zKd ?_|  refine zKa ?_ _)); exact BK503.out) hb); replace BK517 := zMk (zKb (g:=gb517) (o:=.cells #[.int .i64 t513, .slice Ao27 t514.length co27] 24 (0, 0)) (by (with_reducible repeat (first |  refine zKn ?_ _|  refine zKd ?_|  refine zKa ?_ _)); refine blk_put (cs:=#[.int .i64 t513, .slice none 0 0]) ?_ 1 _ rfl; (with_reducible repeat (first |  refine zKn ?_ _|  refine zKd ?_|  refine zKa ?_ _)); refine blk_put (cs:=#[.int .i64 0, .slice none 0 0]) ?_ 0 _ rfl; (with_reducible repeat (first |  refine zKn ?_ _|  refine zKd ?_|  refine zKa ?_ _)); exact BK517.out) hb); replace HB := zMk (zBt (uT HB.out) hb); obtain ⟨Ao32, co32, eo32⟩ := Kd.S_slice HO520.out; subst eo32; obtain ⟨Ao33, co33, eo33⟩ := Kd.S_slice HO_5.out; subst eo33; have p521 : 0 ≤ (x6_1 : Int) := of_decide_eq_true (by first | (with_reducible assumption)|  assumption); have q521 : x6_1 < (t507.length : Int) := of_decide_eq_true (by first | (with_reducible assumption)|  assumption); obtain ⟨ad521, A521_0, c521_0, e521, hx521_0, hl521_0, hi521_0⟩ := at_L4 (Kd.S_reads' HO_5.out).2.2 x6_1 p521 q521; cases e521; obtain ⟨ce521, hce521, hMe521, hcc521⟩ := Kd.S_get HO_5.out [] x6_1 p521 (by first |  exact q521|  exact of_decide_eq_true (by first | (with_reducible assumption)|  assumption)|(have e_ := (Kd.S_reads' HO_5.out).1; omega)); obtain ⟨ve521_0, rfl, ge521_0⟩ := hMe521; have hv521_0 := hcc521 0 _ rfl; rw [Nat.add_zero, show ((Kd.slice 3 (Kd.int .i64))).sz = 1 from rfl, Nat.mul_one] at hv521_0; replace hv521_0 := zOi (hv521_0.symm.trans hx521_0); rw [hv521_0] at ge521_0; have HL521_0 := zMk (show Kd.R (Kd.int .i64) 3 _ _ _ _ (rd_L4 t507 x6_1) from ge521_0); clear hv521_0 ge521_0 hcc521 hce521; have HR521_0 := zMk hi521_0; have HC521_0 := zMk hl521_0; clear hi521_0 hl521_0; replace p521 := eq_true p521; replace q521 := eq_true q521)|((with_reducible refine gate_builtin (b:=.append) (xs:=#[.tmp 41, .tmp 43]) rfl ?_); at_builtin; refine Kd.R_append (Kd.int .i64) (w0:=w) w.heap.size rfl (.tmp 41) (.tmp 43) 33 3 (.int .i64 0) 8 rfl Try.underlying33 info3 rfl (by decide) (by omega) u3 x3_1 x6_1 [.int .i64 x6_1] (fun _ => True) (fun _ => False) rfl rfl ?aP (fun _ hk => hk.elim) ?aF ?aO ?aB ?aS ?aL ?_; (case aP => exact rfl); (case aB => exact (uT HB.out)); (case aF => exact (fun _ _ => trivial)); (case aO => exact (uR HO_3.out)); (case aS => exact (zBs (uT HB.out))); (case aL => have := LMc18.out; omega); intro v523 w34 ho hb hg hat; rw [← Ny522.out] at ho; replace HO_5 := zMk (Kd.S_after (ok:=(fun k_ => some k_ ≠ (.slice Ao32 t518.length co32 : Value).ownBlock)) (by (with_reducible repeat (first |  apply Kd.S_alloc|  apply Kd.S_drewN|  apply Kd.S_drew)); exact Kd.S_mono HO_5.out (fun _ hk => ⟨hk.2, hk.1⟩)) hg hat); replace BK503 := zMk (blk_grown (g:=gb503) (o:=.cells #[.int .i64 a0_0, .slice A0_1 l0_1.length c0_1] 24 (0, 0)) BK503.out hg (Kd.R_ne HO_3.out BK503.out (by decide))); replace HO512 := zMk (Kd.R_over' (uR HO512.out) (Kd.R_typed (uR HO_3.out)) (by decide) hg); replace HO516 := zMk (Kd.R_over' (uR HO516.out) (Kd.R_typed (uR HO_3.out)) (by decide) hg); replace BK517 := zMk (blk_grown (g:=gb517) (o:=.cells #[.int .i64 t513, .slice Ao27 t514.length co27] 24 (0, 0)) BK517.out hg (Kd.R_ne HO_3.out BK517.out (by decide))); replace HO520 := zMk (Kd.S_after (ok:=(fun k_ => some k_ ≠ (.slice (some ad521) t507.length co33 : Value).ownBlock)) (by (with_reducible repeat (first |  apply Kd.S_alloc|  apply Kd.S_drewN|  apply Kd.S_drew)); exact Kd.S_mono HO520.out (fun _ hk => ⟨hk.2, hk.1.2⟩)) hg hat); replace HL521_0 := zMk (Kd.R_after (ok:=(fun k_ => some k_ ≠ (.slice (some ad521) t507.length co33 : Value).ownBlock ∧ some k_ ≠ (.slice Ao32 t518.length co32 : Value).ownBlock)) (zRm HL521_0.out (fun _ hk => ⟨⟨hk.2, hk.1.2⟩, hk.1.1⟩)) hg hat); replace HB := zMk (hb); have HO524 := zMk (ho); clear HO_3 ho hb hg hat))
    go_roundg k1
    case measure => have := HK1.out; omega
    case rel => exact ⟨(y522), (wrap64 (x6_1 + 1)), (by first | rfl | (simp; done) | (simp [*]; done)), H', ⟨by have := HK1.out; omega⟩, ⟨by exact uR HO524.out⟩, ⟨by (with_reducible repeat (first | apply Kd.S_alloc | apply Kd.S_drewN | apply Kd.S_drew)); exact Kd.S_mono HO_5.out (fun _ hk => hk.2)⟩, ⟨by (with_reducible repeat (first | refine zKn ?_ _ | refine zKd ?_ | refine zKa ?_ _)); exact BK503.out⟩, ⟨by exact uT HB.out⟩⟩
   ·rw [if_neg c17] at H
    have c17b0 : decide ((t504.length : Int) < (wrap64 ((t518.length : Int) - 1))) = false := decide_eq_false c17
    clear c17
    have H' := zMk H
    clear H
    have hcz35_0 : wr.cell? ⟨gb503, 0, none⟩ = some (.int .i64 a0_0) := (zKc BK503.out 0).trans rfl
    have hcz35_1 : wr.cell? ⟨gb503, 1, none⟩ = some (.slice A0_1 l0_1.length c0_1) := (zKc BK503.out 1).trans rfl
    have hfz35_0 := zKf BK503.out 0
    have hfz35_1 := zKf BK503.out 1
    try go_wp2
    replace HO_3 := zMk (zRd HO_3.out)
    replace HO_5 := zMk (Kd.S_drew HO_5.out)
    replace BK503 := zMk (zKd BK503.out)
    replace HB := zMk (zBd HB.out)
    refine start_ (n:=8) (S:=fun w' => w'.cell? ⟨gb503, 0, none⟩ = some (.int .i64 a0_0) ∧ w'.cell? ⟨gb503, 1, none⟩ = some (.slice A0_1 l0_1.length c0_1)) (ds:=[]) #[false,false,false,false,false,false,false,false] (by kernel_rfl) rfl rfl ⟨(zKc BK503.out 0).trans rfl, (zKc BK503.out 1).trans rfl⟩ (fun hHeld => ?_); refine with_tabW r6_Cuts.tab7 r6_Cuts.bits7 (fun HT_ HW_ => ?_)
    generalize wr.drew = w36 at HO_3 HO_5 BK503 HB hHeld ⊢
    refine pure_ (i:=1) (N:=some 21) (v:=?_) (a' := ?_) #[false,true,false,false,false,false,false,false] rfl rfl (any_of HT_.out (by kernel_rfl)) (fun _ _ _ h => h) (Or.inl ⟨by rfl, ?_⟩) ?_ ?_
    rotate_left
    ·intro w'
     go_simp
     with_reducible rfl
    rotate_left
    ·simp only [Act.put, zSa, zSb, zSc, i64_w, i32_w]
     rfl
    refine pure_ (i:=3) (N:=some 23) (v:=?_) (a' := ?_) #[false,true,false,true,false,false,false,false] rfl rfl (any_of HT_.out (by kernel_rfl)) (fun _ _ _ h => h) (Or.inl ⟨by rfl, ?_⟩) ?_ ?_
    rotate_left
    ·intro w'
     go_simp
     with_reducible rfl
    rotate_left
    ·simp only [Act.put, zSa, zSb, zSc, i64_w, i32_w]
     rfl
    refine take_ (i:=0) (N:=some 20) (v:=?_) (a' := ?_) #[true,true,false,true,false,false,false,false] rfl rfl (take_ofW HT_.out HW_.out (by kernel_rfl)) (fun _ _ _ h => h) (Or.inl ⟨by rfl, ?_⟩) hHeld ?_ ?_
    rotate_left
    ·rintro w' ⟨s0, s1⟩
     go_simp
     with_reducible rfl
    rotate_left
    ·simp only [Act.put, zSa, zSb, zSc, i64_w, i32_w]
     rfl
    refine take_ (i:=2) (N:=some 22) (v:=?_) (a' := ?_) #[true,true,true,true,false,false,false,false] rfl rfl (take_ofW HT_.out HW_.out (by kernel_rfl)) (fun _ _ _ h => h) (Or.inl ⟨by rfl, ?_⟩) hHeld ?_ ?_
    rotate_left
    ·rintro w' ⟨s0, s1⟩
     go_simp
     with_reducible rfl
    rotate_left
    ·simp only [Act.put, zSa, zSb, zSc, i64_w, i32_w]
     rfl
    refine join_ (σ:=Value × Value × Nat) 1 #[true,true,true,true,true,true,true,false] (fun s_ => [(24, s_.1), (25, .agg #[.int .i64 t513, s_.2.1]), (7, .pointer (some ⟨s_.2.2, 0, none⟩))]) (fun s_ w' => (w'.cell? ⟨gb503, 0, none⟩ = some (.int .i64 a0_0) ∧ w'.cell? ⟨gb503, 1, none⟩ = some (.slice A0_1 l0_1.length c0_1)) ∧ (Kd.R Kd.bool 4 w' w.heap.size (fun _ => True) s_.1 t510) ∧ (Kd.R k43 43 w' w.heap.size (fun _ => True) s_.2.1 t514) ∧ (Kd.R (Kd.int .i64) 3 w' w.heap.size (fun _ => True) u3 x3_1) ∧ (Kd.S (Kd.slice 3 (Kd.int .i64)) 33 w' w.heap.size (fun k_ => some k_ ≠ (u3 : Value).ownBlock) v508 t507) ∧ (w'.heap[gb503]? = some (.cells #[.int .i64 a0_0, .slice A0_1 l0_1.length c0_1] 24 (0, 0))) ∧ (w'.heap[s_.2.2]? = some (.cells #[.int .i64 0, .slice none 0 0] 24 (0, 0))) ∧ (w.heap.size ≤ s_.2.2) ∧ (w.heap.size ≤ s_.2.2) ∧ (gb503 ≠ s_.2.2) ∧ (s_.2.2 ≠ gb503) ∧ (Below w.heap.size w w')) ?_ ?_
    rotate_left
    ·intro hCont
     refine two_ (i:=4) (j:=6) (Ni:=some 24) (Nj:=some 7) #[true,true,true,true,true,false,false,false] #[true,true,true,true,false,false,true,false] rfl rfl rfl rfl (two_of HT_.out (by kernel_rfl)) (by decide) (by decide) (fun K hK => ?_) (fun K hK => ?_)
     ·skip
      refine goes_ Try.func34 (by kernel_rfl) rfl #[.int .i64 a0_0, .int .i64 x6_1] (by rfl) rfl rfl (by (try simp only [zMa, zMc, zMn]); first | done | rfl | (simp only [zLd, zLt]; rfl)) ?_
      with_reducible refine (r6_all.calls k1 a0_0 x6_1 t510 _ A11.out).mono ?_
      rintro e w37 ⟨v511, rfl, ho0, hb⟩
      refine ⟨_, rfl, ?_⟩
      replace HO_3 := zMk (zRb (uR HO_3.out) hb)
      replace HO_5 := zMk (Kd.S_below (by (with_reducible repeat (first | apply Kd.S_alloc | apply Kd.S_drewN | apply Kd.S_drew)); exact HO_5.out) hb)
      have HO512 := zMk (zRl ho0 (zBs (uT HB.out)))
      replace BK503 := zMk (zKb BK503.out hb)
      replace HB := zMk (zBt (uT HB.out) hb)
      obtain ⟨Ao38, co38, eo38⟩ := zRs HO512.out
      (first |  subst eo38|  (injection eo38 with f1_ f2_ f3_; have f4_ := f1_.symm; have f5_ := f3_.symm; clear f1_ f2_ f3_; subst f4_; subst f5_))
      refine hK.out _ _ ⟨(zKc BK503.out 0).trans rfl, (zKc BK503.out 1).trans rfl⟩ (fun hHeld => ?_)
      clear hK K
      refine norm_ (a' := ?_) ?_ ?_
      rotate_left
      ·show Act.put _ (some 24) _ = _
       simp only [Act.put, zSa, zSb, zSc, i64_w, i32_w]
       rfl
      refine two_ (i:=5) (j:=6) (Ni:=some 25) (Nj:=some 7) #[true,true,true,true,true,true,false,false] #[true,true,true,true,true,false,true,false] rfl rfl rfl rfl (two_of HT_.out (by kernel_rfl)) (by decide) (by decide) (fun K hK => ?_) (fun K hK => ?_)
      ·skip
       refine goes_ Try.func33 (by kernel_rfl) rfl #[.agg #[.int .i64 a0_0, .slice A0_1 l0_1.length c0_1], .slice Ao38 t510.length co38] (by rfl) rfl rfl (by (try simp only [zMa, zMc, zMn]); first | done | rfl | (simp only [zLd, zLt]; rfl)) ?_
       with_reducible refine (r4_Only.calls k1 a0_0 _ _ l0_1 _ _ t510 t513 t514 _ ?side1 ?side2 ?side3 ?side4 A12.out).mono ?_
       (case side1 => repeat (first | exact (Kd.C_below HR0_1.out HB.out) | (with_reducible refine zCa ?_ _) | (with_reducible refine zCn ?_ _) | (with_reducible refine zCd ?_)))
       (case side2 => exact HC0_1.out)
       (case side3 => exact uC (zRr HO512.out).2.2)
       (case side4 => exact (zRr HO512.out).2.1)
       rintro e w39 ⟨v515, rfl, ho0, hb⟩
       refine ⟨_, rfl, ?_⟩
       replace HO_3 := zMk (zRb (uR HO_3.out) hb)
       replace HO_5 := zMk (Kd.S_below (by (with_reducible repeat (first | apply Kd.S_alloc | apply Kd.S_drewN | apply Kd.S_drew)); exact HO_5.out) hb)
       replace HO512 := zMk (zRb (uR HO512.out) hb)
       have HO516 := zMk (zRl ho0 (zBs (uT HB.out)))
       replace BK503 := zMk (zKb BK503.out hb)
       replace HB := zMk (zBt (uT HB.out) hb)
       refine hK.out _ _ ⟨(zKc BK503.out 0).trans rfl, (zKc BK503.out 1).trans rfl⟩ (fun hHeld => ?_)
       clear hK K
       refine norm_ (a' := ?_) ?_ ?_
       rotate_left
       ·show Act.put _ (some 25) _ = _
        simp only [Act.put, zSa, zSb, zSc, i64_w, i32_w]
        rfl
       refine one_ (i:=6) (N:=some 7) #[true,true,true,true,true,true,true,false] rfl rfl (one_of HT_.out (by kernel_rfl)) (by decide) (fun K hK => ?_)
       refine box_step ?hg (N:=7) ?hd (cs:=#[.int .i64 0, .slice none 0 0]) (t:=24) ?hr ?_; (case hd => rfl); (case hg => rfl); (case hr => first | (go_simp; done) | (go_simp; rfl) | (go_simp; rw [show ∀ x : Int, IntKind.u32.wrap (IntKind.u8.wrap x) = x % 256 from fun x => (by show (x % 256) % 4294967296 = x % 256; omega)]))
       intro gb517 hg w40 hbox hb
       replace HO_3 := zMk (zRb (uR HO_3.out) hb)
       replace HO_5 := zMk (Kd.S_below (by (with_reducible repeat (first | apply Kd.S_alloc | apply Kd.S_drewN | apply Kd.S_drew)); exact HO_5.out) hb)
       replace HO512 := zMk (zRb (uR HO512.out) hb)
       replace HO516 := zMk (zRb (uR HO516.out) hb)
       have BK517 := zMk (hbox)
       have GW517 := zMk ((by rw [hg]; exact (zBs (uT HB.out)) : w.heap.size ≤ gb517))
       have GE517 := zMk ((by rw [hg]; exact (zBs (uT HB.out)) : w.heap.size ≤ gb517))
       have IGE517 := ownGe GE517.out
       replace HB := zMk (zBt (uT HB.out) hb)
       have NB503_517 := zMk ((by rw [hg]; exact Nat.ne_of_lt (blk_lt BK503.out) : gb503 ≠ gb517))
       have NB517_503 := zMk ((by rw [hg]; exact Nat.ne_of_gt (blk_lt BK503.out) : gb517 ≠ gb503))
       replace BK503 := zMk (zKb BK503.out hb)
       clear hb hbox hg
       refine hK.out _ _ ⟨(zKc BK503.out 0).trans rfl, (zKc BK503.out 1).trans rfl⟩ (fun hHeld => ?_)
       clear hK K
       refine norm_ (a' := ?_) ?_ ?_
       rotate_left
       ·show Act.put _ (some 7) _ = _
        simp only [Act.put, zSa, zSb, zSc, i64_w, i32_w]
        rfl
       exact norm_ (by simp only [putAll, Act.put, zSa, zSb, zSc]) (hCont (.slice Ao38 t510.length co38, v515, gb517) _ ⟨hHeld, (uR HO512.out), (uR HO516.out), (uR HO_3.out), (by (with_reducible repeat (first | apply Kd.S_alloc | apply Kd.S_drewN | apply Kd.S_drew)); exact HO_5.out), BK503.out, BK517.out, GW517.out, GE517.out, NB503_517.out, NB517_503.out, (uT HB.out)⟩)
      ·skip
       refine box_step ?hg (N:=7) ?hd (cs:=#[.int .i64 0, .slice none 0 0]) (t:=24) ?hr ?_; (case hd => rfl); (case hg => rfl); (case hr => first | (go_simp; done) | (go_simp; rfl) | (go_simp; rw [show ∀ x : Int, IntKind.u32.wrap (IntKind.u8.wrap x) = x % 256 from fun x => (by show (x % 256) % 4294967296 = x % 256; omega)]))
       intro gb517 hg w38 hbox hb
       replace HO_3 := zMk (zRb (uR HO_3.out) hb)
       replace HO_5 := zMk (Kd.S_below (by (with_reducible repeat (first | apply Kd.S_alloc | apply Kd.S_drewN | apply Kd.S_drew)); exact HO_5.out) hb)
       replace HO512 := zMk (zRb (uR HO512.out) hb)
       have BK517 := zMk (hbox)
       have GW517 := zMk ((by rw [hg]; exact (zBs (uT HB.out)) : w.heap.size ≤ gb517))
       have GE517 := zMk ((by rw [hg]; exact (zBs (uT HB.out)) : w.heap.size ≤ gb517))
       have IGE517 := ownGe GE517.out
       replace HB := zMk (zBt (uT HB.out) hb)
       have NB503_517 := zMk ((by rw [hg]; exact Nat.ne_of_lt (blk_lt BK503.out) : gb503 ≠ gb517))
       have NB517_503 := zMk ((by rw [hg]; exact Nat.ne_of_gt (blk_lt BK503.out) : gb517 ≠ gb503))
       replace BK503 := zMk (zKb BK503.out hb)
       clear hb hbox hg
       obtain ⟨Ao39, co39, eo39⟩ := zRs HO512.out
       (first |  subst eo39|  (injection eo39 with f1_ f2_ f3_; have f4_ := f1_.symm; have f5_ := f3_.symm; clear f1_ f2_ f3_; subst f4_; subst f5_))
       refine hK.out _ _ ⟨(zKc BK503.out 0).trans rfl, (zKc BK503.out 1).trans rfl⟩ (fun hHeld => ?_)
       clear hK K
       refine norm_ (a' := ?_) ?_ ?_
       rotate_left
       ·show Act.put _ (some 7) _ = _
        simp only [Act.put, zSa, zSb, zSc, i64_w, i32_w]
        rfl
       refine one_ (i:=5) (N:=some 25) #[true,true,true,true,true,true,true,false] rfl rfl (one_of HT_.out (by kernel_rfl)) (by decide) (fun K hK => ?_)
       refine goes_ Try.func33 (by kernel_rfl) rfl #[.agg #[.int .i64 a0_0, .slice A0_1 l0_1.length c0_1], .slice Ao39 t510.length co39] (by rfl) rfl rfl (by (try simp only [zMa, zMc, zMn]); first | done | rfl | (simp only [zLd, zLt]; rfl)) ?_
       with_reducible refine (r4_Only.calls k1 a0_0 _ _ l0_1 _ _ t510 t513 t514 _ ?side1 ?side2 ?side3 ?side4 A12.out).mono ?_
       (case side1 => repeat (first | exact (Kd.C_below HR0_1.out HB.out) | (with_reducible refine zCa ?_ _) | (with_reducible refine zCn ?_ _) | (with_reducible refine zCd ?_)))
       (case side2 => exact HC0_1.out)
       (case side3 => exact uC (zRr HO512.out).2.2)
       (case side4 => exact (zRr HO512.out).2.1)
       rintro e w40 ⟨v515, rfl, ho0, hb⟩
       refine ⟨_, rfl, ?_⟩
       replace HO_3 := zMk (zRb (uR HO_3.out) hb)
       replace HO_5 := zMk (Kd.S_below (by (with_reducible repeat (first | apply Kd.S_alloc | apply Kd.S_drewN | apply Kd.S_drew)); exact HO_5.out) hb)
       replace HO512 := zMk (zRb (uR HO512.out) hb)
       have HO516 := zMk (zRl ho0 (zBs (uT HB.out)))
       replace BK503 := zMk (zKb BK503.out hb)
       replace BK517 := zMk (zKb BK517.out hb)
       replace HB := zMk (zBt (uT HB.out) hb)
       refine hK.out _ _ ⟨(zKc BK503.out 0).trans rfl, (zKc BK503.out 1).trans rfl⟩ (fun hHeld => ?_)
       clear hK K
       refine norm_ (a' := ?_) ?_ ?_
       rotate_left
       ·show Act.put _ (some 25) _ = _
        simp only [Act.put, zSa, zSb, zSc, i64_w, i32_w]
        rfl
       exact norm_ (by simp only [putAll, Act.put, zSa, zSb, zSc]) (hCont (.slice Ao39 t510.length co39, v515, gb517) _ ⟨hHeld, (uR HO512.out), (uR HO516.out), (uR HO_3.out), (by (with_reducible repeat (first | apply Kd.S_alloc | apply Kd.S_drewN | apply Kd.S_drew)); exact HO_5.out), BK503.out, BK517.out, GW517.out, GE517.out, NB503_517.out, NB517_503.out, (uT HB.out)⟩)
     ·skip
      refine box_step ?hg (N:=7) ?hd (cs:=#[.int .i64 0, .slice none 0 0]) (t:=24) ?hr ?_; (case hd => rfl); (case hg => rfl); (case hr => first | (go_simp; done) | (go_simp; rfl) | (go_simp; rw [show ∀ x : Int, IntKind.u32.wrap (IntKind.u8.wrap x) = x % 256 from fun x => (by show (x % 256) % 4294967296 = x % 256; omega)]))
      intro gb517 hg w37 hbox hb
      replace HO_3 := zMk (zRb (uR HO_3.out) hb)
      replace HO_5 := zMk (Kd.S_below (by (with_reducible repeat (first | apply Kd.S_alloc | apply Kd.S_drewN | apply Kd.S_drew)); exact HO_5.out) hb)
      have BK517 := zMk (hbox)
      have GW517 := zMk ((by rw [hg]; exact (zBs (uT HB.out)) : w.heap.size ≤ gb517))
      have GE517 := zMk ((by rw [hg]; exact (zBs (uT HB.out)) : w.heap.size ≤ gb517))
      have IGE517 := ownGe GE517.out
      replace HB := zMk (zBt (uT HB.out) hb)
      have NB503_517 := zMk ((by rw [hg]; exact Nat.ne_of_lt (blk_lt BK503.out) : gb503 ≠ gb517))
      have NB517_503 := zMk ((by rw [hg]; exact Nat.ne_of_gt (blk_lt BK503.out) : gb517 ≠ gb503))
      replace BK503 := zMk (zKb BK503.out hb)
      clear hb hbox hg
      refine hK.out _ _ ⟨(zKc BK503.out 0).trans rfl, (zKc BK503.out 1).trans rfl⟩ (fun hHeld => ?_)
      clear hK K
      refine norm_ (a' := ?_) ?_ ?_
      rotate_left
      ·show Act.put _ (some 7) _ = _
       simp only [Act.put, zSa, zSb, zSc, i64_w, i32_w]
       rfl
      refine one_ (i:=4) (N:=some 24) #[true,true,true,true,true,false,true,false] rfl rfl (one_of HT_.out (by kernel_rfl)) (by decide) (fun K hK => ?_)
      refine goes_ Try.func34 (by kernel_rfl) rfl #[.int .i64 a0_0, .int .i64 x6_1] (by rfl) rfl rfl (by (try simp only [zMa, zMc, zMn]); first | done | rfl | (simp only [zLd, zLt]; rfl)) ?_
      with_reducible refine (r6_all.calls k1 a0_0 x6_1 t510 _ A11.out).mono ?_
      rintro e w38 ⟨v511, rfl, ho0, hb⟩
      refine ⟨_, rfl, ?_⟩
      replace HO_3 := zMk (zRb (uR HO_3.out) hb)
      replace HO_5 := zMk (Kd.S_below (by (with_reducible repeat (first | apply Kd.S_alloc | apply Kd.S_drewN | apply Kd.S_drew)); exact HO_5.out) hb)
      have HO512 := zMk (zRl ho0 (zBs (uT HB.out)))
      replace BK503 := zMk (zKb BK503.out hb)
      replace BK517 := zMk (zKb BK517.out hb)
      replace HB := zMk (zBt (uT HB.out) hb)
      obtain ⟨Ao39, co39, eo39⟩ := zRs HO512.out
      (first |  subst eo39|  (injection eo39 with f1_ f2_ f3_; have f4_ := f1_.symm; have f5_ := f3_.symm; clear f1_ f2_ f3_; subst f4_; subst f5_))
      refine hK.out _ _ ⟨(zKc BK503.out 0).trans rfl, (zKc BK503.out 1).trans rfl⟩ (fun hHeld => ?_)
      clear hK K
      refine norm_ (a' := ?_) ?_ ?_
      rotate_left
      ·show Act.put _ (some 24) _ = _
       simp only [Act.put, zSa, zSb, zSc, i64_w, i32_w]
       rfl
      refine one_ (i:=5) (N:=some 25) #[true,true,true,true,true,true,true,false] rfl rfl (one_of HT_.out (by kernel_rfl)) (by decide) (fun K hK => ?_)
      refine goes_ Try.func33 (by kernel_rfl) rfl #[.agg #[.int .i64 a0_0, .slice A0_1 l0_1.length c0_1], .slice Ao39 t510.length co39] (by rfl) rfl rfl (by (try simp only [zMa, zMc, zMn]); first | done | rfl | (simp only [zLd, zLt]; rfl)) ?_
      with_reducible refine (r4_Only.calls k1 a0_0 _ _ l0_1 _ _ t510 t513 t514 _ ?side1 ?side2 ?side3 ?side4 A12.out).mono ?_
      (case side1 => repeat (first | exact (Kd.C_below HR0_1.out HB.out) | (with_reducible refine zCa ?_ _) | (with_reducible refine zCn ?_ _) | (with_reducible refine zCd ?_)))
      (case side2 => exact HC0_1.out)
      (case side3 => exact uC (zRr HO512.out).2.2)
      (case side4 => exact (zRr HO512.out).2.1)
      rintro e w40 ⟨v515, rfl, ho0, hb⟩
      refine ⟨_, rfl, ?_⟩
      replace HO_3 := zMk (zRb (uR HO_3.out) hb)
      replace HO_5 := zMk (Kd.S_below (by (with_reducible repeat (first | apply Kd.S_alloc | apply Kd.S_drewN | apply Kd.S_drew)); exact HO_5.out) hb)
      replace HO512 := zMk (zRb (uR HO512.out) hb)
      have HO516 := zMk (zRl ho0 (zBs (uT HB.out)))
      replace BK503 := zMk (zKb BK503.out hb)
      replace BK517 := zMk (zKb BK517.out hb)
      replace HB := zMk (zBt (uT HB.out) hb)
      refine hK.out _ _ ⟨(zKc BK503.out 0).trans rfl, (zKc BK503.out 1).trans rfl⟩ (fun hHeld => ?_)
      clear hK K
      refine norm_ (a' := ?_) ?_ ?_
      rotate_left
      ·show Act.put _ (some 25) _ = _
       simp only [Act.put, zSa, zSb, zSc, i64_w, i32_w]
       rfl
      exact norm_ (by simp only [putAll, Act.put, zSa, zSb, zSc]) (hCont (.slice Ao39 t510.length co39, v515, gb517) _ ⟨hHeld, (uR HO512.out), (uR HO516.out), (uR HO_3.out), (by (with_reducible repeat (first | apply Kd.S_alloc | apply Kd.S_drewN | apply Kd.S_drew)); exact HO_5.out), BK503.out, BK517.out, GW517.out, GE517.out, NB503_517.out, NB517_503.out, (uT HB.out)⟩)
    rintro ⟨v511, v515, gb517⟩ w41 ⟨hS_, h0_, h1_, h2_, h3_, h4_, h5_, h6_, h7_, h8_, h9_, h10_⟩
    have n0_ : Aside0 (Kd.R Kd.bool 4 w41 w.heap.size (fun _ => True) v511 t510) := ⟨h0_⟩
    have n1_ : Aside0 (Kd.R k43 43 w41 w.heap.size (fun _ => True) v515 t514) := ⟨h1_⟩
    have n2_ : Aside0 (Kd.R (Kd.int .i64) 3 w41 w.heap.size (fun _ => True) u3 x3_1) := ⟨h2_⟩
    have n3_ : Aside0 (Kd.S (Kd.slice 3 (Kd.int .i64)) 33 w41 w.heap.size (fun k_ => some k_ ≠ (u3 : Value).ownBlock) v508 t507) := ⟨h3_⟩
    have n4_ : Aside0 (w41.heap[gb503]? = some (.cells #[.int .i64 a0_0, .slice A0_1 l0_1.length c0_1] 24 (0, 0))) := ⟨h4_⟩
    have n5_ : Aside0 (w41.heap[gb517]? = some (.cells #[.int .i64 0, .slice none 0 0] 24 (0, 0))) := ⟨h5_⟩
    have n6_ : Aside0 (w.heap.size ≤ gb517) := ⟨h6_⟩
    have n7_ : Aside0 (w.heap.size ≤ gb517) := ⟨h7_⟩
    have n8_ : Aside0 (gb503 ≠ gb517) := ⟨h8_⟩
    have n9_ : Aside0 (gb517 ≠ gb503) := ⟨h9_⟩
    have n10_ : Aside0 (Below w.heap.size w w41) := ⟨h10_⟩
    clear HO_3 HO_5 BK503 HB h0_ h1_ h2_ h3_ h4_ h5_ h6_ h7_ h8_ h9_ h10_
    have HO512 := n0_
    have HO516 := n1_
    have HO_3 := n2_
    have HO_5 := n3_
    have BK503 := n4_
    have BK517 := n5_
    have GW517 := n6_
    have GE517 := n7_
    have IGE517 := ownGe GE517.out
    have NB503_517 := n8_
    have NB517_503 := n9_
    have HB := n10_
    clear n0_ n1_ n2_ n3_ n4_ n5_ n6_ n7_ n8_ n9_ n10_
    have hHeld : w41.cell? ⟨gb503, 0, none⟩ = some (.int .i64 a0_0) ∧ w41.cell? ⟨gb503, 1, none⟩ = some (.slice A0_1 l0_1.length c0_1) := hS_
    obtain ⟨Ao43, co43, eo43⟩ := zRs HO516.out
    (first |  subst eo43|  (injection eo43 with f1_ f2_ f3_; have f4_ := f1_.symm; have f5_ := f3_.symm; clear f1_ f2_ f3_; subst f4_; subst f5_))
    refine norm_ (a' := ?_) ?_ ?_
    rotate_left
    ·simp only [putAll, Act.put, zSa, zSb, zSc]
     rfl
    refine one_ (i:=7) (N:=none) #[true,true,true,true,true,true,true,true] rfl rfl (one_of HT_.out (by kernel_rfl)) (by decide) (fun K hK => ?_)
    have hs42 : w41.cell? ⟨gb517, 0, none⟩ = some (.int .i64 0) := (zKc BK517.out 0).trans rfl
    have hfs42 := zKf BK517.out 0
    have hns42_0 := NB503_517.out
    have hms42_0 := NB517_503.out
    have hs44 : w41.cell? ⟨gb517, 1, none⟩ = some (.slice none 0 0) := (zKc BK517.out 1).trans rfl
    have hfs44 := zKf BK517.out 1
    have hns44_0 := NB503_517.out
    have hms44_0 := NB517_503.out
    refine skip_ (w1:=?_) (by rfl) rfl ?_ ?_
    rotate_left
    ·go_simp
     rfl
    refine hK.out _ _ ⟨((cell_far (p:=⟨gb517, _, none⟩) NB503_517.out _).trans (((cell_far (p:=⟨gb517, _, none⟩) NB503_517.out _).trans (hHeld.1)))), ((cell_far (p:=⟨gb517, _, none⟩) NB503_517.out _).trans (((cell_far (p:=⟨gb517, _, none⟩) NB503_517.out _).trans (hHeld.2))))⟩ (fun hHeld => ?_)
    clear hK K
    refine done_ (done_of HT_.out (by kernel_rfl)) ?_
    have hnb45 := NB517_503.out
    have hnc45 := NB503_517.out
    have hcz46_0 : w41.cell? ⟨gb517, 0, none⟩ = some (.int .i64 0) := (zKc BK517.out 0).trans rfl
    have hcz46_1 : w41.cell? ⟨gb517, 1, none⟩ = some (.slice none 0 0) := (zKc BK517.out 1).trans rfl
    have hfz46_0 := zKf BK517.out 0
    have hfz46_1 := zKf BK517.out 1
    try go_wp2_with (first | ((with_reducible refine gate_callee (f:=13) rfl ?_); refine goesL_ (some 27) rfl rfl Try.func13 (by kernel_rfl) rfl #[.agg #[.int .i64 t513, .slice Ao43 t514.length co43]] rfl (by (try simp only [zMa, zMc, zMn]); first |  done|  rfl|  (simp only [zLd, zLt]; rfl)) ?_; (with_reducible refine (r6_Components.calls k1 t513 _ _ t514 t518 _ ?side1 ?side2 A13.out).mono ?_); (case side1 => refine (zRr (e:=43) (base:=w.heap.size) (ok:=fun k_ => True) (n:=t514.length) (c:=co43) ?_).2.2; exact (zRm (Kd.R_far (p:=⟨gb517, 1, none⟩) (Kd.R_far (p:=⟨gb517, 0, none⟩) (Kd.R_types HO516.out BK517.out (by decide)) (fun _ hk => hk.2) (.int .i64 t513)) (fun _ hk => hk.2) (.slice Ao43 t514.length co43)) (fun _ h_ => h_.1))); (case side2 => exact (zRr HO516.out).2.1); rintro e w47 ⟨v519, rfl, ho0, hb⟩; refine ⟨_, rfl, ?_⟩; replace HO512 := zMk (zRb (zRm (Kd.R_far (p:=⟨gb517, 1, none⟩) (Kd.R_far (p:=⟨gb517, 0, none⟩) (Kd.R_types HO512.out BK517.out (by decide)) (fun _ hk => hk.2) (.int .i64 t513)) (fun _ hk => hk.2) (.slice Ao43 t514.length co43)) (fun _ h_ => h_.1)) hb); replace HO516 := zMk (zRb (zRm (Kd.R_far (p:=⟨gb517, 1, none⟩) (Kd.R_far (p:=⟨gb517, 0, none⟩) (Kd.R_types HO516.out BK517.out (by decide)) (fun _ hk => hk.2) (.int .i64 t513)) (fun _ hk => hk.2) (.slice Ao43 t514.length co43)) (fun _ h_ => h_.1)) hb); have HO520 := zMk (Kd.S_lower (Kd.S_new' (Kd.S_new' ho0 (zRt (zRm (Kd.R_far (p:=⟨gb517, 1, none⟩) (Kd.R_far (p:=⟨gb517, 0, none⟩) (Kd.R_types HO_3.out BK517.out (by decide)) (fun _ hk => hk.2) (.int .i64 t513)) (fun _ hk => hk.2) (.slice Ao43 t514.length co43)) (fun _ h_ => h_.1)))) (Kd.S_lt (by (with_reducible repeat (first |  apply Kd.S_alloc|  apply Kd.S_drewN|  apply Kd.S_drew)); exact (Kd.S_mono (Kd.S_far (p:=⟨gb517, 1, none⟩) (Kd.S_far (p:=⟨gb517, 0, none⟩) (Kd.S_types HO_5.out BK517.out (by decide)) (fun _ hk => hk.2) (.int .i64 t513)) (fun _ hk => hk.2) (.slice Ao43 t514.length co43)) (fun _ h_ => h_.1))))) (zBs (uT HB.out))); replace HO_3 := zMk (zRb (zRm (Kd.R_far (p:=⟨gb517, 1, none⟩) (Kd.R_far (p:=⟨gb517, 0, none⟩) (Kd.R_types HO_3.out BK517.out (by decide)) (fun _ hk => hk.2) (.int .i64 t513)) (fun _ hk => hk.2) (.slice Ao43 t514.length co43)) (fun _ h_ => h_.1)) hb); replace HO_5 := zMk (Kd.S_elder' (by (with_reducible repeat (first |  apply Kd.S_alloc|  apply Kd.S_drewN|  apply Kd.S_drew)); exact (Kd.S_mono (Kd.S_far (p:=⟨gb517, 1, none⟩) (Kd.S_far (p:=⟨gb517, 0, none⟩) (Kd.S_types HO_5.out BK517.out (by decide)) (fun _ hk => hk.2) (.int .i64 t513)) (fun _ hk => hk.2) (.slice Ao43 t514.length co43)) (fun _ h_ => h_.1))) (Kd.S_base ho0) hb); replace BK503 := zMk (zKb (g:=gb503) (o:=.cells #[.int .i64 a0_0, .slice A0_1 l0_1.length c0_1] 24 (0, 0)) (by (with_reducible repeat (first |  refine zKn ?_ _|  refine zKd ?_|  refine zKa ?_ _)); refine blk_far ?_ NB503_517.out _; (with_reducible repeat (first |  refine zKn ?_ _|  refine zKd ?_|  refine zKa ?_ _)); refine blk_far ?_ NB503_517.out _; (with_reducible repeat (first |  refine zKn ?_ _|  refine zKd ?_|  refine zKa ?_ _)); exact BK503.out) hb); replace BK517 := zMk (zKb (g:=gb517) (o:=.cells #[.int .i64 t513, .slice Ao43 t514.length co43] 24 (0, 0)) (by (with_reducible repeat (first |  refine zKn ?_ _|  refine zKd ?_|  refine zKa ?_ _)); refine blk_put (cs:=#[.int .i64 t513, .slice none 0 0]) ?_ 1 _ rfl; (with_reducible repeat (first |  refine zKn ?_ _|  refine zKd ?_|  refine zKa ?_ _)); refine blk_put (cs:=#[.int .i64 0, .slice none 0 0]) ?_ 0 _ rfl; (with_reducible repeat (first |  refine zKn ?_ _|  refine zKd ?_|  refine zKa ?_ _)); exact BK517.out) hb); replace HB := zMk (zBt (uT HB.out) hb); obtain ⟨Ao48, co48, eo48⟩ := Kd.S_slice HO520.out; subst eo48; obtain ⟨Ao49, co49, eo49⟩ := Kd.S_slice HO_5.out; subst eo49; have p521 : 0 ≤ (x6_1 : Int) := of_decide_eq_true (by first | (with_reducible assumption)|  assumption); have q521 : x6_1 < (t507.length : Int) := of_decide_eq_true (by first | (with_reducible assumption)|  assumption); obtain ⟨ad521, A521_0, c521_0, e521, hx521_0, hl521_0, hi521_0⟩ := at_L4 (Kd.S_reads' HO_5.out).2.2 x6_1 p521 q521; cases e521; obtain ⟨ce521, hce521, hMe521, hcc521⟩ := Kd.S_get HO_5.out [] x6_1 p521 (by first |  exact q521|  exact of_decide_eq_true (by first | (with_reducible assumption)|  assumption)|(have e_ := (Kd.S_reads' HO_5.out).1; omega)); obtain ⟨ve521_0, rfl, ge521_0⟩ := hMe521; have hv521_0 := hcc521 0 _ rfl; rw [Nat.add_zero, show ((Kd.slice 3 (Kd.int .i64))).sz = 1 from rfl, Nat.mul_one] at hv521_0; replace hv521_0 := zOi (hv521_0.symm.trans hx521_0); rw [hv521_0] at ge521_0; have HL521_0 := zMk (show Kd.R (Kd.int .i64) 3 _ _ _ _ (rd_L4 t507 x6_1) from ge521_0); clear hv521_0 ge521_0 hcc521 hce521; have HR521_0 := zMk hi521_0; have HC521_0 := zMk hl521_0; clear hi521_0 hl521_0; replace p521 := eq_true p521; replace q521 := eq_true q521))
    go_roundg k1
    case measure => have := HK1.out; omega
    case rel => exact ⟨(x3_1), (wrap64 (x6_1 + 1)), (by first | rfl | (simp; done) | (simp [*]; done)), H', ⟨by have := HK1.out; omega⟩, ⟨by exact uR HO_3.out⟩, ⟨by (with_reducible repeat (first | apply Kd.S_alloc | apply Kd.S_drewN | apply Kd.S_drew)); exact Kd.S_mono HO_5.out (fun _ hk => hk.1)⟩, ⟨by (with_reducible repeat (first | refine zKn ?_ _ | refine zKd ?_ | refine zKa ?_ _)); exact BK503.out⟩, ⟨by exact uT HB.out⟩⟩
  ·rw [if_neg c16] at H
   have c16b0 : decide (0 < ((rd_L4 t507 x6_1).length : Int)) = false := decide_eq_false c16
   have c16b1 : decide (0 < (rd_L4 t507 x6_1).length) = false := decide_eq_false (by omega)
   clear c16
   have H' := zMk H
   clear H
   have hcz50_0 : wr.cell? ⟨gb503, 0, none⟩ = some (.int .i64 a0_0) := (zKc BK503.out 0).trans rfl
   have hcz50_1 : wr.cell? ⟨gb503, 1, none⟩ = some (.slice A0_1 l0_1.length c0_1) := (zKc BK503.out 1).trans rfl
   have hfz50_0 := zKf BK503.out 0
   have hfz50_1 := zKf BK503.out 1
   try go_wp2
   replace HO_3 := zMk (zRd HO_3.out)
   replace HO_5 := zMk (Kd.S_drew HO_5.out)
   replace BK503 := zMk (zKd BK503.out)
   replace HB := zMk (zBd HB.out)
   refine start_ (n:=8) (S:=fun w' => w'.cell? ⟨gb503, 0, none⟩ = some (.int .i64 a0_0) ∧ w'.cell? ⟨gb503, 1, none⟩ = some (.slice A0_1 l0_1.length c0_1)) (ds:=[]) #[false,false,false,false,false,false,false,false] (by kernel_rfl) rfl rfl ⟨(zKc BK503.out 0).trans rfl, (zKc BK503.out 1).trans rfl⟩ (fun hHeld => ?_); refine with_tabW r6_Cuts.tab7 r6_Cuts.bits7 (fun HT_ HW_ => ?_)
   generalize wr.drew = w51 at HO_3 HO_5 BK503 HB hHeld ⊢
   refine pure_ (i:=1) (N:=some 21) (v:=?_) (a' := ?_) #[false,true,false,false,false,false,false,false] rfl rfl (any_of HT_.out (by kernel_rfl)) (fun _ _ _ h => h) (Or.inl ⟨by rfl, ?_⟩) ?_ ?_
   rotate_left
   ·intro w'
    go_simp
    with_reducible rfl
   rotate_left
   ·simp only [Act.put, zSa, zSb, zSc, i64_w, i32_w]
    rfl
   refine pure_ (i:=3) (N:=some 23) (v:=?_) (a' := ?_) #[false,true,false,true,false,false,false,false] rfl rfl (any_of HT_.out (by kernel_rfl)) (fun _ _ _ h => h) (Or.inl ⟨by rfl, ?_⟩) ?_ ?_
   rotate_left
   ·intro w'
    go_simp
    with_reducible rfl
   rotate_left
   ·simp only [Act.put, zSa, zSb, zSc, i64_w, i32_w]
    rfl
   refine take_ (i:=0) (N:=some 20) (v:=?_) (a' := ?_) #[true,true,false,true,false,false,false,false] rfl rfl (take_ofW HT_.out HW_.out (by kernel_rfl)) (fun _ _ _ h => h) (Or.inl ⟨by rfl, ?_⟩) hHeld ?_ ?_
   rotate_left
   ·rintro w' ⟨s0, s1⟩
    go_simp
    with_reducible rfl
   rotate_left
   ·simp only [Act.put, zSa, zSb, zSc, i64_w, i32_w]
    rfl
   refine take_ (i:=2) (N:=some 22) (v:=?_) (a' := ?_) #[true,true,true,true,false,false,false,false] rfl rfl (take_ofW HT_.out HW_.out (by kernel_rfl)) (fun _ _ _ h => h) (Or.inl ⟨by rfl, ?_⟩) hHeld ?_ ?_
   rotate_left
   ·rintro w' ⟨s0, s1⟩
    go_simp
    with_reducible rfl
   rotate_left
   ·simp only [Act.put, zSa, zSb, zSc, i64_w, i32_w]
    rfl
   refine join_ (σ:=Value × Value × Nat) 1 #[true,true,true,true,true,true,true,false] (fun s_ => [(24, s_.1), (25, .agg #[.int .i64 t513, s_.2.1]), (7, .pointer (some ⟨s_.2.2, 0, none⟩))]) (fun s_ w' => (w'.cell? ⟨gb503, 0, none⟩ = some (.int .i64 a0_0) ∧ w'.cell? ⟨gb503, 1, none⟩ = some (.slice A0_1 l0_1.length c0_1)) ∧ (Kd.R Kd.bool 4 w' w.heap.size (fun _ => True) s_.1 t510) ∧ (Kd.R k43 43 w' w.heap.size (fun _ => True) s_.2.1 t514) ∧ (Kd.R (Kd.int .i64) 3 w' w.heap.size (fun _ => True) u3 x3_1) ∧ (Kd.S (Kd.slice 3 (Kd.int .i64)) 33 w' w.heap.size (fun k_ => some k_ ≠ (u3 : Value).ownBlock) v508 t507) ∧ (w'.heap[gb503]? = some (.cells #[.int .i64 a0_0, .slice A0_1 l0_1.length c0_1] 24 (0, 0))) ∧ (w'.heap[s_.2.2]? = some (.cells #[.int .i64 0, .slice none 0 0] 24 (0, 0))) ∧ (w.heap.size ≤ s_.2.2) ∧ (w.heap.size ≤ s_.2.2) ∧ (gb503 ≠ s_.2.2) ∧ (s_.2.2 ≠ gb503) ∧ (Below w.heap.size w w')) ?_ ?_
   rotate_left
   ·intro hCont
    refine two_ (i:=4) (j:=6) (Ni:=some 24) (Nj:=some 7) #[true,true,true,true,true,false,false,false] #[true,true,true,true,false,false,true,false] rfl rfl rfl rfl (two_of HT_.out (by kernel_rfl)) (by decide) (by decide) (fun K hK => ?_) (fun K hK => ?_)
    ·skip
     refine goes_ Try.func34 (by kernel_rfl) rfl #[.int .i64 a0_0, .int .i64 x6_1] (by rfl) rfl rfl (by (try simp only [zMa, zMc, zMn]); first | done | rfl | (simp only [zLd, zLt]; rfl)) ?_
     with_reducible refine (r6_all.calls k1 a0_0 x6_1 t510 _ A11.out).mono ?_
     rintro e w52 ⟨v511, rfl, ho0, hb⟩
     refine ⟨_, rfl, ?_⟩
     replace HO_3 := zMk (zRb (uR HO_3.out) hb)
     replace HO_5 := zMk (Kd.S_below (by (with_reducible repeat (first | apply Kd.S_alloc | apply Kd.S_drewN | apply Kd.S_drew)); exact HO_5.out) hb)
     have HO512 := zMk (zRl ho0 (zBs (uT HB.out)))
     replace BK503 := zMk (zKb BK503.out hb)
     replace HB := zMk (zBt (uT HB.out) hb)
     obtain ⟨Ao53, co53, eo53⟩ := zRs HO512.out
     (first |  subst eo53|  (injection eo53 with f1_ f2_ f3_; have f4_ := f1_.symm; have f5_ := f3_.symm; clear f1_ f2_ f3_; subst f4_; subst f5_))
     refine hK.out _ _ ⟨(zKc BK503.out 0).trans rfl, (zKc BK503.out 1).trans rfl⟩ (fun hHeld => ?_)
     clear hK K
     refine norm_ (a' := ?_) ?_ ?_
     rotate_left
     ·show Act.put _ (some 24) _ = _
      simp only [Act.put, zSa, zSb, zSc, i64_w, i32_w]
      rfl
     refine two_ (i:=5) (j:=6) (Ni:=some 25) (Nj:=some 7) #[true,true,true,true,true,true,false,false] #[true,true,true,true,true,false,true,false] rfl rfl rfl rfl (two_of HT_.out (by kernel_rfl)) (by decide) (by decide) (fun K hK => ?_) (fun K hK => ?_)
     ·skip
      refine goes_ Try.func33 (by kernel_rfl) rfl #[.agg #[.int .i64 a0_0, .slice A0_1 l0_1.length c0_1], .slice Ao53 t510.length co53] (by rfl) rfl rfl (by (try simp only [zMa, zMc, zMn]); first | done | rfl | (simp only [zLd, zLt]; rfl)) ?_
      with_reducible refine (r4_Only.calls k1 a0_0 _ _ l0_1 _ _ t510 t513 t514 _ ?side1 ?side2 ?side3 ?side4 A12.out).mono ?_
      (case side1 => repeat (first | exact (Kd.C_below HR0_1.out HB.out) | (with_reducible refine zCa ?_ _) | (with_reducible refine zCn ?_ _) | (with_reducible refine zCd ?_)))
      (case side2 => exact HC0_1.out)
      (case side3 => exact uC (zRr HO512.out).2.2)
      (case side4 => exact (zRr HO512.out).2.1)
      rintro e w54 ⟨v515, rfl, ho0, hb⟩
      refine ⟨_, rfl, ?_⟩
      replace HO_3 := zMk (zRb (uR HO_3.out) hb)
      replace HO_5 := zMk (Kd.S_below (by (with_reducible repeat (first | apply Kd.S_alloc | apply Kd.S_drewN | apply Kd.S_drew)); exact HO_5.out) hb)
      replace HO512 := zMk (zRb (uR HO512.out) hb)
      have HO516 := zMk (zRl ho0 (zBs (uT HB.out)))
      replace BK503 := zMk (zKb BK503.out hb)
      replace HB := zMk (zBt (uT HB.out) hb)
      refine hK.out _ _ ⟨(zKc BK503.out 0).trans rfl, (zKc BK503.out 1).trans rfl⟩ (fun hHeld => ?_)
      clear hK K
      refine norm_ (a' := ?_) ?_ ?_
      rotate_left
      ·show Act.put _ (some 25) _ = _
       simp only [Act.put, zSa, zSb, zSc, i64_w, i32_w]
       rfl
      refine one_ (i:=6) (N:=some 7) #[true,true,true,true,true,true,true,false] rfl rfl (one_of HT_.out (by kernel_rfl)) (by decide) (fun K hK => ?_)
      refine box_step ?hg (N:=7) ?hd (cs:=#[.int .i64 0, .slice none 0 0]) (t:=24) ?hr ?_; (case hd => rfl); (case hg => rfl); (case hr => first | (go_simp; done) | (go_simp; rfl) | (go_simp; rw [show ∀ x : Int, IntKind.u32.wrap (IntKind.u8.wrap x) = x % 256 from fun x => (by show (x % 256) % 4294967296 = x % 256; omega)]))
      intro gb517 hg w55 hbox hb
      replace HO_3 := zMk (zRb (uR HO_3.out) hb)
      replace HO_5 := zMk (Kd.S_below (by (with_reducible repeat (first | apply Kd.S_alloc | apply Kd.S_drewN | apply Kd.S_drew)); exact HO_5.out) hb)
      replace HO512 := zMk (zRb (uR HO512.out) hb)
      replace HO516 := zMk (zRb (uR HO516.out) hb)
      have BK517 := zMk (hbox)
      have GW517 := zMk ((by rw [hg]; exact (zBs (uT HB.out)) : w.heap.size ≤ gb517))
      have GE517 := zMk ((by rw [hg]; exact (zBs (uT HB.out)) : w.heap.size ≤ gb517))
      have IGE517 := ownGe GE517.out
      replace HB := zMk (zBt (uT HB.out) hb)
      have NB503_517 := zMk ((by rw [hg]; exact Nat.ne_of_lt (blk_lt BK503.out) : gb503 ≠ gb517))
      have NB517_503 := zMk ((by rw [hg]; exact Nat.ne_of_gt (blk_lt BK503.out) : gb517 ≠ gb503))
      replace BK503 := zMk (zKb BK503.out hb)
      clear hb hbox hg
      refine hK.out _ _ ⟨(zKc BK503.out 0).trans rfl, (zKc BK503.out 1).trans rfl⟩ (fun hHeld => ?_)
      clear hK K
      refine norm_ (a' := ?_) ?_ ?_
      rotate_left
      ·show Act.put _ (some 7) _ = _
       simp only [Act.put, zSa, zSb, zSc, i64_w, i32_w]
       rfl
      exact norm_ (by simp only [putAll, Act.put, zSa, zSb, zSc]) (hCont (.slice Ao53 t510.length co53, v515, gb517) _ ⟨hHeld, (uR HO512.out), (uR HO516.out), (uR HO_3.out), (by (with_reducible repeat (first | apply Kd.S_alloc | apply Kd.S_drewN | apply Kd.S_drew)); exact HO_5.out), BK503.out, BK517.out, GW517.out, GE517.out, NB503_517.out, NB517_503.out, (uT HB.out)⟩)
     ·skip
      refine box_step ?hg (N:=7) ?hd (cs:=#[.int .i64 0, .slice none 0 0]) (t:=24) ?hr ?_; (case hd => rfl); (case hg => rfl); (case hr => first | (go_simp; done) | (go_simp; rfl) | (go_simp; rw [show ∀ x : Int, IntKind.u32.wrap (IntKind.u8.wrap x) = x % 256 from fun x => (by show (x % 256) % 4294967296 = x % 256; omega)]))
      intro gb517 hg w53 hbox hb
      replace HO_3 := zMk (zRb (uR HO_3.out) hb)
      replace HO_5 := zMk (Kd.S_below (by (with_reducible repeat (first | apply Kd.S_alloc | apply Kd.S_drewN | apply Kd.S_drew)); exact HO_5.out) hb)
      replace HO512 := zMk (zRb (uR HO512.out) hb)
      have BK517 := zMk (hbox)
      have GW517 := zMk ((by rw [hg]; exact (zBs (uT HB.out)) : w.heap.size ≤ gb517))
      have GE517 := zMk ((by rw [hg]; exact (zBs (uT HB.out)) : w.heap.size ≤ gb517))
      have IGE517 := ownGe GE517.out
      replace HB := zMk (zBt (uT HB.out) hb)
      have NB503_517 := zMk ((by rw [hg]; exact Nat.ne_of_lt (blk_lt BK503.out) : gb503 ≠ gb517))
      have NB517_503 := zMk ((by rw [hg]; exact Nat.ne_of_gt (blk_lt BK503.out) : gb517 ≠ gb503))
      replace BK503 := zMk (zKb BK503.out hb)
      clear hb hbox hg
      obtain ⟨Ao54, co54, eo54⟩ := zRs HO512.out
      (first |  subst eo54|  (injection eo54 with f1_ f2_ f3_; have f4_ := f1_.symm; have f5_ := f3_.symm; clear f1_ f2_ f3_; subst f4_; subst f5_))
      refine hK.out _ _ ⟨(zKc BK503.out 0).trans rfl, (zKc BK503.out 1).trans rfl⟩ (fun hHeld => ?_)
      clear hK K
      refine norm_ (a' := ?_) ?_ ?_
      rotate_left
      ·show Act.put _ (some 7) _ = _
       simp only [Act.put, zSa, zSb, zSc, i64_w, i32_w]
       rfl
      refine one_ (i:=5) (N:=some 25) #[true,true,true,true,true,true,true,false] rfl rfl (one_of HT_.out (by kernel_rfl)) (by decide) (fun K hK => ?_)
      refine goes_ Try.func33 (by kernel_rfl) rfl #[.agg #[.int .i64 a0_0, .slice A0_1 l0_1.length c0_1], .slice Ao54 t510.length co54] (by rfl) rfl rfl (by (try simp only [zMa, zMc, zMn]); first | done | rfl | (simp only [zLd, zLt]; rfl)) ?_
      with_reducible refine (r4_Only.calls k1 a0_0 _ _ l0_1 _ _ t510 t513 t514 _ ?side1 ?side2 ?side3 ?side4 A12.out).mono ?_
      (case side1 => repeat (first | exact (Kd.C_below HR0_1.out HB.out) | (with_reducible refine zCa ?_ _) | (with_reducible refine zCn ?_ _) | (with_reducible refine zCd ?_)))
      (case side2 => exact HC0_1.out)
      (case side3 => exact uC (zRr HO512.out).2.2)
      (case side4 => exact (zRr HO512.out).2.1)
      rintro e w55 ⟨v515, rfl, ho0, hb⟩
      refine ⟨_, rfl, ?_⟩
      replace HO_3 := zMk (zRb (uR HO_3.out) hb)
      replace HO_5 := zMk (Kd.S_below (by (with_reducible repeat (first | apply Kd.S_alloc | apply Kd.S_drewN | apply Kd.S_drew)); exact HO_5.out) hb)
      replace HO512 := zMk (zRb (uR HO512.out) hb)
      have HO516 := zMk (zRl ho0 (zBs (uT HB.out)))
      replace BK503 := zMk (zKb BK503.out hb)
      replace BK517 := zMk (zKb BK517.out hb)
      replace HB := zMk (zBt (uT HB.out) hb)
      refine hK.out _ _ ⟨(zKc BK503.out 0).trans rfl, (zKc BK503.out 1).trans rfl⟩ (fun hHeld => ?_)
      clear hK K
      refine norm_ (a' := ?_) ?_ ?_
      rotate_left
      ·show Act.put _ (some 25) _ = _
       simp only [Act.put, zSa, zSb, zSc, i64_w, i32_w]
       rfl
      exact norm_ (by simp only [putAll, Act.put, zSa, zSb, zSc]) (hCont (.slice Ao54 t510.length co54, v515, gb517) _ ⟨hHeld, (uR HO512.out), (uR HO516.out), (uR HO_3.out), (by (with_reducible repeat (first | apply Kd.S_alloc | apply Kd.S_drewN | apply Kd.S_drew)); exact HO_5.out), BK503.out, BK517.out, GW517.out, GE517.out, NB503_517.out, NB517_503.out, (uT HB.out)⟩)
    ·skip
     refine box_step ?hg (N:=7) ?hd (cs:=#[.int .i64 0, .slice none 0 0]) (t:=24) ?hr ?_; (case hd => rfl); (case hg => rfl); (case hr => first | (go_simp; done) | (go_simp; rfl) | (go_simp; rw [show ∀ x : Int, IntKind.u32.wrap (IntKind.u8.wrap x) = x % 256 from fun x => (by show (x % 256) % 4294967296 = x % 256; omega)]))
     intro gb517 hg w52 hbox hb
     replace HO_3 := zMk (zRb (uR HO_3.out) hb)
     replace HO_5 := zMk (Kd.S_below (by (with_reducible repeat (first | apply Kd.S_alloc | apply Kd.S_drewN | apply Kd.S_drew)); exact HO_5.out) hb)
     have BK517 := zMk (hbox)
     have GW517 := zMk ((by rw [hg]; exact (zBs (uT HB.out)) : w.heap.size ≤ gb517))
     have GE517 := zMk ((by rw [hg]; exact (zBs (uT HB.out)) : w.heap.size ≤ gb517))
     have IGE517 := ownGe GE517.out
     replace HB := zMk (zBt (uT HB.out) hb)
     have NB503_517 := zMk ((by rw [hg]; exact Nat.ne_of_lt (blk_lt BK503.out) : gb503 ≠ gb517))
     have NB517_503 := zMk ((by rw [hg]; exact Nat.ne_of_gt (blk_lt BK503.out) : gb517 ≠ gb503))
     replace BK503 := zMk (zKb BK503.out hb)
     clear hb hbox hg
     refine hK.out _ _ ⟨(zKc BK503.out 0).trans rfl, (zKc BK503.out 1).trans rfl⟩ (fun hHeld => ?_)
     clear hK K
     refine norm_ (a' := ?_) ?_ ?_
     rotate_left
     ·show Act.put _ (some 7) _ = _
      simp only [Act.put, zSa, zSb, zSc, i64_w, i32_w]
      rfl
     refine one_ (i:=4) (N:=some 24) #[true,true,true,true,true,false,true,false] rfl rfl (one_of HT_.out (by kernel_rfl)) (by decide) (fun K hK => ?_)
     refine goes_ Try.func34 (by kernel_rfl) rfl #[.int .i64 a0_0, .int .i64 x6_1] (by rfl) rfl rfl (by (try simp only [zMa, zMc, zMn]); first | done | rfl | (simp only [zLd, zLt]; rfl)) ?_
     with_reducible refine (r6_all.calls k1 a0_0 x6_1 t510 _ A11.out).mono ?_
     rintro e w53 ⟨v511, rfl, ho0, hb⟩
     refine ⟨_, rfl, ?_⟩
     replace HO_3 := zMk (zRb (uR HO_3.out) hb)
     replace HO_5 := zMk (Kd.S_below (by (with_reducible repeat (first | apply Kd.S_alloc | apply Kd.S_drewN | apply Kd.S_drew)); exact HO_5.out) hb)
     have HO512 := zMk (zRl ho0 (zBs (uT HB.out)))
     replace BK503 := zMk (zKb BK503.out hb)
     replace BK517 := zMk (zKb BK517.out hb)
     replace HB := zMk (zBt (uT HB.out) hb)
     obtain ⟨Ao54, co54, eo54⟩ := zRs HO512.out
     (first |  subst eo54|  (injection eo54 with f1_ f2_ f3_; have f4_ := f1_.symm; have f5_ := f3_.symm; clear f1_ f2_ f3_; subst f4_; subst f5_))
     refine hK.out _ _ ⟨(zKc BK503.out 0).trans rfl, (zKc BK503.out 1).trans rfl⟩ (fun hHeld => ?_)
     clear hK K
     refine norm_ (a' := ?_) ?_ ?_
     rotate_left
     ·show Act.put _ (some 24) _ = _
      simp only [Act.put, zSa, zSb, zSc, i64_w, i32_w]
      rfl
     refine one_ (i:=5) (N:=some 25) #[true,true,true,true,true,true,true,false] rfl rfl (one_of HT_.out (by kernel_rfl)) (by decide) (fun K hK => ?_)
     refine goes_ Try.func33 (by kernel_rfl) rfl #[.agg #[.int .i64 a0_0, .slice A0_1 l0_1.length c0_1], .slice Ao54 t510.length co54] (by rfl) rfl rfl (by (try simp only [zMa, zMc, zMn]); first | done | rfl | (simp only [zLd, zLt]; rfl)) ?_
     with_reducible refine (r4_Only.calls k1 a0_0 _ _ l0_1 _ _ t510 t513 t514 _ ?side1 ?side2 ?side3 ?side4 A12.out).mono ?_
     (case side1 => repeat (first | exact (Kd.C_below HR0_1.out HB.out) | (with_reducible refine zCa ?_ _) | (with_reducible refine zCn ?_ _) | (with_reducible refine zCd ?_)))
     (case side2 => exact HC0_1.out)
     (case side3 => exact uC (zRr HO512.out).2.2)
     (case side4 => exact (zRr HO512.out).2.1)
     rintro e w55 ⟨v515, rfl, ho0, hb⟩
     refine ⟨_, rfl, ?_⟩
     replace HO_3 := zMk (zRb (uR HO_3.out) hb)
     replace HO_5 := zMk (Kd.S_below (by (with_reducible repeat (first | apply Kd.S_alloc | apply Kd.S_drewN | apply Kd.S_drew)); exact HO_5.out) hb)
     replace HO512 := zMk (zRb (uR HO512.out) hb)
     have HO516 := zMk (zRl ho0 (zBs (uT HB.out)))
     replace BK503 := zMk (zKb BK503.out hb)
     replace BK517 := zMk (zKb BK517.out hb)
     replace HB := zMk (zBt (uT HB.out) hb)
     refine hK.out _ _ ⟨(zKc BK503.out 0).trans rfl, (zKc BK503.out 1).trans rfl⟩ (fun hHeld => ?_)
     clear hK K
     refine norm_ (a' := ?_) ?_ ?_
     rotate_left
     ·show Act.put _ (some 25) _ = _
      simp only [Act.put, zSa, zSb, zSc, i64_w, i32_w]
      rfl
     exact norm_ (by simp only [putAll, Act.put, zSa, zSb, zSc]) (hCont (.slice Ao54 t510.length co54, v515, gb517) _ ⟨hHeld, (uR HO512.out), (uR HO516.out), (uR HO_3.out), (by (with_reducible repeat (first | apply Kd.S_alloc | apply Kd.S_drewN | apply Kd.S_drew)); exact HO_5.out), BK503.out, BK517.out, GW517.out, GE517.out, NB503_517.out, NB517_503.out, (uT HB.out)⟩)
   rintro ⟨v511, v515, gb517⟩ w56 ⟨hS_, h0_, h1_, h2_, h3_, h4_, h5_, h6_, h7_, h8_, h9_, h10_⟩
   have n0_ : Aside0 (Kd.R Kd.bool 4 w56 w.heap.size (fun _ => True) v511 t510) := ⟨h0_⟩
   have n1_ : Aside0 (Kd.R k43 43 w56 w.heap.size (fun _ => True) v515 t514) := ⟨h1_⟩
   have n2_ : Aside0 (Kd.R (Kd.int .i64) 3 w56 w.heap.size (fun _ => True) u3 x3_1) := ⟨h2_⟩
   have n3_ : Aside0 (Kd.S (Kd.slice 3 (Kd.int .i64)) 33 w56 w.heap.size (fun k_ => some k_ ≠ (u3 : Value).ownBlock) v508 t507) := ⟨h3_⟩
   have n4_ : Aside0 (w56.heap[gb503]? = some (.cells #[.int .i64 a0_0, .slice A0_1 l0_1.length c0_1] 24 (0, 0))) := ⟨h4_⟩
   have n5_ : Aside0 (w56.heap[gb517]? = some (.cells #[.int .i64 0, .slice none 0 0] 24 (0, 0))) := ⟨h5_⟩
   have n6_ : Aside0 (w.heap.size ≤ gb517) := ⟨h6_⟩
   have n7_ : Aside0 (w.heap.size ≤ gb517) := ⟨h7_⟩
   have n8_ : Aside0 (gb503 ≠ gb517) := ⟨h8_⟩
   have n9_ : Aside0 (gb517 ≠ gb503) := ⟨h9_⟩
   have n10_ : Aside0 (Below w.heap.size w w56) := ⟨h10_⟩
   clear HO_3 HO_5 BK503 HB h0_ h1_ h2_ h3_ h4_ h5_ h6_ h7_ h8_ h9_ h10_
   have HO512 := n0_
   have HO516 := n1_
   have HO_3 := n2_
   have HO_5 := n3_
   have BK503 := n4_
   have BK517 := n5_
   have GW517 := n6_
   have GE517 := n7_
   have IGE517 := ownGe GE517.out
   have NB503_517 := n8_
   have NB517_503 := n9_
   have HB := n10_
   clear n0_ n1_ n2_ n3_ n4_ n5_ n6_ n7_ n8_ n9_ n10_
   have hHeld : w56.cell? ⟨gb503, 0, none⟩ = some (.int .i64 a0_0) ∧ w56.cell? ⟨gb503, 1, none⟩ = some (.slice A0_1 l0_1.length c0_1) := hS_
   obtain ⟨Ao58, co58, eo58⟩ := zRs HO516.out
   (first |  subst eo58|  (injection eo58 with f1_ f2_ f3_; have f4_ := f1_.symm; have f5_ := f3_.symm; clear f1_ f2_ f3_; subst f4_; subst f5_))
   refine norm_ (a' := ?_) ?_ ?_
   rotate_left
   ·simp only [putAll, Act.put, zSa, zSb, zSc]
    rfl
   refine one_ (i:=7) (N:=none) #[true,true,true,true,true,true,true,true] rfl rfl (one_of HT_.out (by kernel_rfl)) (by decide) (fun K hK => ?_)
   have hs57 : w56.cell? ⟨gb517, 0, none⟩ = some (.int .i64 0) := (zKc BK517.out 0).trans rfl
   have hfs57 := zKf BK517.out 0
   have hns57_0 := NB503_517.out
   have hms57_0 := NB517_503.out
   have hs59 : w56.cell? ⟨gb517, 1, none⟩ = some (.slice none 0 0) := (zKc BK517.out 1).trans rfl
   have hfs59 := zKf BK517.out 1
   have hns59_0 := NB503_517.out
   have hms59_0 := NB517_503.out
   refine skip_ (w1:=?_) (by rfl) rfl ?_ ?_
   rotate_left
   ·go_simp
    rfl
   refine hK.out _ _ ⟨((cell_far (p:=⟨gb517, _, none⟩) NB503_517.out _).trans (((cell_far (p:=⟨gb517, _, none⟩) NB503_517.out _).trans (hHeld.1)))), ((cell_far (p:=⟨gb517, _, none⟩) NB503_517.out _).trans (((cell_far (p:=⟨gb517, _, none⟩) NB503_517.out _).trans (hHeld.2))))⟩ (fun hHeld => ?_)
   clear hK K
   refine done_ (done_of HT_.out (by kernel_rfl)) ?_
   have hnb60 := NB517_503.out
   have hnc60 := NB503_517.out
   have hcz61_0 : w56.cell? ⟨gb517, 0, none⟩ = some (.int .i64 0) := (zKc BK517.out 0).trans rfl
   have hcz61_1 : w56.cell? ⟨gb517, 1, none⟩ = some (.slice none 0 0) := (zKc BK517.out 1).trans rfl
   have hfz61_0 := zKf BK517.out 0
   have hfz61_1 := zKf BK517.out 1
   try go_wp2_with (first | ((with_reducible refine gate_callee (f:=13) rfl ?_); refine goesL_ (some 27) rfl rfl Try.func13 (by kernel_rfl) rfl #[.agg #[.int .i64 t513, .slice Ao58 t514.length co58]] rfl (by (try simp only [zMa, zMc, zMn]); first |  done|  rfl|  (simp only [zLd, zLt]; rfl)) ?_; (with_reducible refine (r6_Components.calls k1 t513 _ _ t514 t518 _ ?side1 ?side2 A13.out).mono ?_); (case side1 => refine (zRr (e:=43) (base:=w.heap.size) (ok:=fun k_ => True) (n:=t514.length) (c:=co58) ?_).2.2; exact (zRm (Kd.R_far (p:=⟨gb517, 1, none⟩) (Kd.R_far (p:=⟨gb517, 0, none⟩) (Kd.R_types HO516.out BK517.out (by decide)) (fun _ hk => hk.2) (.int .i64 t513)) (fun _ hk => hk.2) (.slice Ao58 t514.length co58)) (fun _ h_ => h_.1))); (case side2 => exact (zRr HO516.out).2.1); rintro e w62 ⟨v519, rfl, ho0, hb⟩; refine ⟨_, rfl, ?_⟩; replace HO512 := zMk (zRb (zRm (Kd.R_far (p:=⟨gb517, 1, none⟩) (Kd.R_far (p:=⟨gb517, 0, none⟩) (Kd.R_types HO512.out BK517.out (by decide)) (fun _ hk => hk.2) (.int .i64 t513)) (fun _ hk => hk.2) (.slice Ao58 t514.length co58)) (fun _ h_ => h_.1)) hb); replace HO516 := zMk (zRb (zRm (Kd.R_far (p:=⟨gb517, 1, none⟩) (Kd.R_far (p:=⟨gb517, 0, none⟩) (Kd.R_types HO516.out BK517.out (by decide)) (fun _ hk => hk.2) (.int .i64 t513)) (fun _ hk => hk.2) (.slice Ao58 t514.length co58)) (fun _ h_ => h_.1)) hb); have HO520 := zMk (Kd.S_lower (Kd.S_new' (Kd.S_new' ho0 (zRt (zRm (Kd.R_far (p:=⟨gb517, 1, none⟩) (Kd.R_far (p:=⟨gb517, 0, none⟩) (Kd.R_types HO_3.out BK517.out (by decide)) (fun _ hk => hk.2) (.int .i64 t513)) (fun _ hk => hk.2) (.slice Ao58 t514.length co58)) (fun _ h_ => h_.1)))) (Kd.S_lt (by (with_reducible repeat (first |  apply Kd.S_alloc|  apply Kd.S_drewN|  apply Kd.S_drew)); exact (Kd.S_mono (Kd.S_far (p:=⟨gb517, 1, none⟩) (Kd.S_far (p:=⟨gb517, 0, none⟩) (Kd.S_types HO_5.out BK517.out (by decide)) (fun _ hk => hk.2) (.int .i64 t513)) (fun _ hk => hk.2) (.slice Ao58 t514.length co58)) (fun _ h_ => h_.1))))) (zBs (uT HB.out))); replace HO_3 := zMk (zRb (zRm (Kd.R_far (p:=⟨gb517, 1, none⟩) (Kd.R_far (p:=⟨gb517, 0, none⟩) (Kd.R_types HO_3.out BK517.out (by decide)) (fun _ hk => hk.2) (.int .i64 t513)) (fun _ hk => hk.2) (.slice Ao58 t514.length co58)) (fun _ h_ => h_.1)) hb); replace HO_5 := zMk (Kd.S_elder' (by (with_reducible repeat (first |  apply Kd.S_alloc|  apply Kd.S_drewN|  apply Kd.S_drew)); exact (Kd.S_mono (Kd.S_far (p:=⟨gb517, 1, none⟩) (Kd.S_far (p:=⟨gb517, 0, none⟩) (Kd.S_types HO_5.out BK517.out (by decide)) (fun _ hk => hk.2) (.int .i64 t513)) (fun _ hk => hk.2) (.slice Ao58 t514.length co58)) (fun _ h_ => h_.1))) (Kd.S_base ho0) hb); replace BK503 := zMk (zKb (g:=gb503) (o:=.cells #[.int .i64 a0_0, .slice A0_1 l0_1.length c0_1] 24 (0, 0)) (by (with_reducible repeat (first |  refine zKn ?_ _|  refine zKd ?_|  refine zKa ?_ _)); refine blk_far ?_ NB503_517.out _; (with_reducible repeat (first |  refine zKn ?_ _|  refine zKd ?_|  refine zKa ?_ _)); refine blk_far ?_ NB503_517.out _; (with_reducible repeat (first |  refine zKn ?_ _|  refine zKd ?_|  refine zKa ?_ _)); exact BK503.out) hb); replace BK517 := zMk (zKb (g:=gb517) (o:=.cells #[.int .i64 t513, .slice Ao58 t514.length co58] 24 (0, 0)) (by (with_reducible repeat (first |  refine zKn ?_ _|  refine zKd ?_|  refine zKa ?_ _)); refine blk_put (cs:=#[.int .i64 t513, .slice none 0 0]) ?_ 1 _ rfl; (with_reducible repeat (first |  refine zKn ?_ _|  refine zKd ?_|  refine zKa ?_ _)); refine blk_put (cs:=#[.int .i64 0, .slice none 0 0]) ?_ 0 _ rfl; (with_reducible repeat (first |  refine zKn ?_ _|  refine zKd ?_|  refine zKa ?_ _)); exact BK517.out) hb); replace HB := zMk (zBt (uT HB.out) hb); obtain ⟨Ao63, co63, eo63⟩ := Kd.S_slice HO520.out; subst eo63; obtain ⟨Ao64, co64, eo64⟩ := Kd.S_slice HO_5.out; subst eo64; have p521 : 0 ≤ (x6_1 : Int) := of_decide_eq_true (by first | (with_reducible assumption)|  assumption); have q521 : x6_1 < (t507.length : Int) := of_decide_eq_true (by first | (with_reducible assumption)|  assumption); obtain ⟨ad521, A521_0, c521_0, e521, hx521_0, hl521_0, hi521_0⟩ := at_L4 (Kd.S_reads' HO_5.out).2.2 x6_1 p521 q521; cases e521; obtain ⟨ce521, hce521, hMe521, hcc521⟩ := Kd.S_get HO_5.out [] x6_1 p521 (by first |  exact q521|  exact of_decide_eq_true (by first | (with_reducible assumption)|  assumption)|(have e_ := (Kd.S_reads' HO_5.out).1; omega)); obtain ⟨ve521_0, rfl, ge521_0⟩ := hMe521; have hv521_0 := hcc521 0 _ rfl; rw [Nat.add_zero, show ((Kd.slice 3 (Kd.int .i64))).sz = 1 from rfl, Nat.mul_one] at hv521_0; replace hv521_0 := zOi (hv521_0.symm.trans hx521_0); rw [hv521_0] at ge521_0; have HL521_0 := zMk (show Kd.R (Kd.int .i64) 3 _ _ _ _ (rd_L4 t507 x6_1) from ge521_0); clear hv521_0 ge521_0 hcc521 hce521; have HR521_0 := zMk hi521_0; have HC521_0 := zMk hl521_0; clear hi521_0 hl521_0; replace p521 := eq_true p521; replace q521 := eq_true q521))
   go_roundg k1
   case measure => have := HK1.out; omega
   case rel => exact ⟨(x3_1), (wrap64 (x6_1 + 1)), (by first | rfl | (simp; done) | (simp [*]; done)), H', ⟨by have := HK1.out; omega⟩, ⟨by exact uR HO_3.out⟩, ⟨by (with_reducible repeat (first | apply Kd.S_alloc | apply Kd.S_drewN | apply Kd.S_drew)); exact Kd.S_mono HO_5.out (fun _ hk => hk.1)⟩, ⟨by (with_reducible repeat (first | refine zKn ?_ _ | refine zKd ?_ | refine zKa ?_ _)); exact BK503.out⟩, ⟨by exact uT HB.out⟩⟩
 ·rw [if_neg c10] at H
  have c10b0 : decide (x6_1 < a0_0) = false := decide_eq_false c10
  clear c10
  obtain rfl := zOi H
  have hcz65_0 : wr.cell? ⟨gb503, 0, none⟩ = some (.int .i64 a0_0) := (zKc BK503.out 0).trans rfl
  have hcz65_1 : wr.cell? ⟨gb503, 1, none⟩ = some (.slice A0_1 l0_1.length c0_1) := (zKc BK503.out 1).trans rfl
  have hfz65_0 := zKf BK503.out 0
  have hfz65_1 := zKf BK503.out 1
  go_wp2
  go_ret
  exact ⟨_, by first | rfl | (simp [errW_none, errW_some] <;> rfl) | (simp [*, errW_none, errW_some] <;> rfl), by exact uR HO_3.out, by exact uT HB.out⟩


def r6_Bridges.l0 : Nat → List Int → Int → Int → Int → List (S43) → Option (List Int)
 | 0, _, _, _, _, _ => none
 | k + 1, x3, x4, x5, x535000, x535001 => if x5 < (x535001.length : Int) then ((r4_Less.f k x535000 x535001 (([x5] : List Int))).bind fun bt541 => ((r6_Components.f k bt541.1 bt541.2).bind fun t545 => (if (t545.length : Int) > x4 then (if x3.length < 17592186044416 then (r6_Bridges.l0 k (x3 ++ [x5]) x4 (wrap64 (x5 + 1)) x535000 x535001) else (none)) else (r6_Bridges.l0 k x3 x4 (wrap64 (x5 + 1)) x535000 x535001)))) else (some x3)
def r6_Bridges.f (k : Nat) (a0_0 : Int) (l0_1 : List (S43)) : Option (List Int) := (r6_Components.f k a0_0 l0_1).bind fun t535 => (r6_Bridges.l0 k ([] : List Int) (t535.length : Int) 0 a0_0 l0_1)
theorem r6_Bridges.calls (k : Nat) (a0_0 : Int) (A0_1 : Option Addr) (c0_1 : Nat) (l0_1 : List (S43)) (r : List Int) (w : World) (hr0_1 : Kd.C k43 w A0_1 l0_1.length l0_1) (hc0_1 : l0_1.length ≤ c0_1) (h : r6_Bridges.f k a0_0 l0_1 = some r) :
  Calls Try.prog 18 #[.agg #[.int .i64 a0_0, .slice A0_1 l0_1.length c0_1]] w fun e w' => ∃ v0_ : Value, e = .returned (v0_) ∧ Kd.R (Kd.int .i64) 3 w' w.heap.size (fun _ => True) v0_ r ∧ Below w.heap.size w w' := by
 have hu24 := Try.underlying24
 have HR0_1 := zMk hr0_1
 have HC0_1 := zMk hc0_1
 clear hr0_1 hc0_1
 have HB := zMk (Below.refl w.heap.size w)
 have H : ((r6_Components.f k a0_0 l0_1).bind fun t535 => (r6_Bridges.l0 k ([] : List Int) (t535.length : Int) 0 a0_0 l0_1)) = some r := h
 clear h
 replace H := bnd H
 obtain ⟨t535, A20, H⟩ := H
 have A2 := zMk A20
 clear A20
 have H' := zMk H
 clear H
 go_enter Try.func18, Try.ntmps18
 go_wp2_with (first | ((with_reducible refine gate_dst (N:=1) rfl ?_); refine box_event ?hg (N:=1) ?hd (cs:=#[.int .i64 a0_0, .slice A0_1 l0_1.length c0_1]) (t:=24) ?hr ?_; (case hd => rfl); (case hg => rfl); (case hr => first | (go_simp; done)|(go_simp; rfl)|(go_simp; rw [show ∀ x : Int, IntKind.u32.wrap (IntKind.u8.wrap x) = x % 256 from fun x => (by show (x % 256) % 4294967296 = x % 256; omega)])); intro gb534 hg w3 hbox hb; have BK534 := zMk (hbox); have GW534 := zMk ((by rw [hg]; exact (zBs (by exact uT HB.out)) : w.heap.size ≤ gb534)); have GE534 := zMk ((by rw [hg]; exact (zBs (by exact uT HB.out)) : w.heap.size ≤ gb534)); have IGE534 := ownGe GE534.out; replace HB := zMk (zBt (by exact uT HB.out) hb); clear hb hbox hg; have hcz4_0 : w3.cell? ⟨gb534, 0, none⟩ = some (.int .i64 a0_0) := (zKc BK534.out 0).trans rfl; have hcz4_1 : w3.cell? ⟨gb534, 1, none⟩ = some (.slice A0_1 l0_1.length c0_1) := (zKc BK534.out 1).trans rfl; have hfz4_0 := zKf BK534.out 0; have hfz4_1 := zKf BK534.out 1)|((with_reducible refine gate_callee (f:=13) rfl ?_); refine goesL_ (some 7) rfl rfl Try.func13 (by kernel_rfl) rfl #[.agg #[.int .i64 a0_0, .slice A0_1 l0_1.length c0_1]] rfl (by (try simp only [zMa, zMc, zMn]); first |  done|  rfl|  (simp only [zLd, zLt]; rfl)) ?_; (with_reducible refine (r6_Components.calls k a0_0 _ _ l0_1 t535 _ ?side1 ?side2 A2.out).mono ?_); (case side1 => repeat (first |  exact (Kd.C_below HR0_1.out HB.out)|(with_reducible refine zCa ?_ _)|(with_reducible refine zCn ?_ _)|(with_reducible refine zCd ?_))); (case side2 => exact HC0_1.out); rintro e w5 ⟨v536, rfl, ho0, hb⟩; refine ⟨_, rfl, ?_⟩; have HO537 := zMk (Kd.S_lower ho0 (zBs (by exact uT HB.out))); replace BK534 := zMk (zKb (g:=gb534) (o:=.cells #[.int .i64 a0_0, .slice A0_1 l0_1.length c0_1] 24 (0, 0)) (by (with_reducible repeat (first |  refine zKn ?_ _|  refine zKd ?_|  refine zKa ?_ _)); exact BK534.out) hb); replace HB := zMk (zBt (by exact uT HB.out) hb); obtain ⟨Ao6, co6, eo6⟩ := Kd.S_slice HO537.out; subst eo6))
 go_loopg [3, 5] k (fun kq v3 v5 w' => ∃ (x3_1 : List Int) (x5_1 : Int), v5 = .int .i64 x5_1 ∧ Aside0 (r6_Bridges.l0 kq x3_1 (t535.length : Int) x5_1 a0_0 l0_1 = some r) ∧ Aside0 (kq ≤ k) ∧ Aside0 (Kd.R (Kd.int .i64) 3 w' w.heap.size (fun _ => True) v3 x3_1) ∧ Aside0 (w'.heap[gb534]? = some (.cells #[.int .i64 a0_0, (.slice A0_1 l0_1.length c0_1)] 24 (0, 0))) ∧ Aside0 (Below w.heap.size w w'))
 case atStart => exact ⟨(([] : List Int)), (0), (by first | rfl | (simp; done) | (simp [*]; done)), H', ⟨Nat.le_refl _⟩, ⟨by first | exact Kd.R_nil _ _ _ _ _ | exact Kd.N_nil _ _ _ _ _ | exact Kd.V_nil _ _ _ _ _ | exact Kd.Q_nil _ _ _ _ _ | exact Kd.S_nil _ _ _ _ _⟩, ⟨by (with_reducible repeat (first | refine zKn ?_ _ | refine zKd ?_ | refine zKa ?_ _)); exact BK534.out⟩, ⟨by exact uT HB.out⟩⟩
 clear H'
 obtain ⟨x3_1, x5_1, rfl, HA, HK1, HO_3, BK534, HB⟩ := hrel
 rcases gk with _ | k1
 ·exact absurd HA.out (by simp [r6_Bridges.l0])
 have H := HA.out
 clear HA
 simp only [r6_Bridges.l0] at H
 by_cases c7 : x5_1 < (l0_1.length : Int)
 ·rw [if_pos c7] at H
  have c7b0 : decide (x5_1 < (l0_1.length : Int)) = true := decide_eq_true c7
  clear c7
  obtain ⟨y538, hy538⟩ : ∃ y_ : List Int, y_ = (([x5_1] : List Int)) := ⟨_, rfl⟩
  replace H : ((r4_Less.f k1 a0_0 l0_1 y538).bind fun bt541 => ((r6_Components.f k1 bt541.1 bt541.2).bind fun t545 => (if (t545.length : Int) > (t535.length : Int) then (if x3_1.length < 17592186044416 then (r6_Bridges.l0 k1 (x3_1 ++ [x5_1]) (t535.length : Int) (wrap64 (x5_1 + 1)) a0_0 l0_1) else (none)) else (r6_Bridges.l0 k1 x3_1 (t535.length : Int) (wrap64 (x5_1 + 1)) a0_0 l0_1)))) = some r := by first | (rw [hy538]; with_reducible exact H) | (have H2_ := bsm H; first | (rw [hy538]; with_reducible exact H2_) | with_reducible exact H2_) | with_reducible exact H | (rw [hy538]; exact H) | exact H
  have Ny538 := zMk hy538
  clear hy538
  replace H := bnd H
  obtain ⟨⟨t541, t542⟩, A80, H⟩ := H
  replace H : ((r6_Components.f k1 t541 t542).bind fun t545 => (if (t545.length : Int) > (t535.length : Int) then (if x3_1.length < 17592186044416 then (r6_Bridges.l0 k1 (x3_1 ++ [x5_1]) (t535.length : Int) (wrap64 (x5_1 + 1)) a0_0 l0_1) else (none)) else (r6_Bridges.l0 k1 x3_1 (t535.length : Int) (wrap64 (x5_1 + 1)) a0_0 l0_1))) = some r := H
  have A8 := zMk A80
  clear A80
  replace H := bnd H
  obtain ⟨t545, A90, H⟩ := H
  have A9 := zMk A90
  clear A90
  by_cases c10 : (t545.length : Int) > (t535.length : Int)
  ·rw [if_pos c10] at H
   have c10b0 : decide ((t535.length : Int) < (t545.length : Int)) = true := decide_eq_true c10
   have c10b1 : decide (t535.length < t545.length) = true := decide_eq_true (Int.ofNat_lt.mp c10)
   clear c10
   by_cases c11 : x3_1.length < 17592186044416
   rotate_left
   ·rw [if_neg c11] at H; exact absurd H (by simp)
   rw [if_pos c11] at H
   have LMc11 := zMk c11
   clear c11
   obtain ⟨y548, hy548⟩ : ∃ y_ : List Int, y_ = (x3_1 ++ [x5_1]) := ⟨_, rfl⟩
   replace H : (r6_Bridges.l0 k1 y548 (t535.length : Int) (wrap64 (x5_1 + 1)) a0_0 l0_1) = some r := by first | (rw [hy548]; with_reducible exact H) | (have H2_ := bsm H; first | (rw [hy548]; with_reducible exact H2_) | with_reducible exact H2_) | with_reducible exact H | (rw [hy548]; exact H) | exact H
   have Ny548 := zMk hy548
   clear hy548
   have H' := zMk H
   clear H
   have hcz12_0 : wr.cell? ⟨gb534, 0, none⟩ = some (.int .i64 a0_0) := (zKc BK534.out 0).trans rfl
   have hcz12_1 : wr.cell? ⟨gb534, 1, none⟩ = some (.slice A0_1 l0_1.length c0_1) := (zKc BK534.out 1).trans rfl
   have hfz12_0 := zKf BK534.out 0
   have hfz12_1 := zKf BK534.out 1
   go_wp2_with (first | ((with_reducible refine gate_dst (N:=18) rfl ?_); refine Kd.R_lit (Kd.int .i64) _ 3 ?hg (N:=18) ?hd (xs:=([x5_1] : List Int)) (inner:=[.int .i64 x5_1]) (ok:=fun _ => True) (okp:=fun _ => True) ?hr ?hp (fun _ hk => hk) trivial (Below.refl _ _) (Nat.le_refl _) (by simp) ?_; (case hd => rfl); (case hg => rfl); (case hr => first | (go_simp; done)|(go_simp; rfl)|(go_simp; rw [show ∀ x : Int, IntKind.u32.wrap (IntKind.u8.wrap x) = x % 256 from fun x => (by show (x % 256) % 4294967296 = x % 256; omega)])); (case hp => exact (Reps.one (show Kd.M (Kd.int .i64) _ _ _ x5_1 [.int .i64 x5_1] from rfl) (Reps.none _ _))); intro v539 w13 ho14 hb hg_ hnew_; clear hg_ hnew_; (first |  rw [← Ny538.out] at ho14|  (simp only [Int.reduceToNat] at ho14; rw [← Ny538.out] at ho14)); have HO540 := zMk (zRl (zRw ho14 (zRt (by exact uR HO_3.out))) (zBs (by exact uT HB.out))); replace HO_3 := zMk (zRe (by exact uR HO_3.out) (zRz ho14) hb); replace BK534 := zMk (zKb (g:=gb534) (o:=.cells #[.int .i64 a0_0, .slice A0_1 l0_1.length c0_1] 24 (0, 0)) (by (with_reducible repeat (first |  refine zKn ?_ _|  refine zKd ?_|  refine zKa ?_ _)); exact BK534.out) hb); replace HB := zMk (zBt (by exact uT HB.out) hb); clear hb ho14; obtain ⟨Ao15, co15, eo15⟩ := zRs HO540.out; subst eo15)|((with_reducible refine gate_callee (f:=35) rfl ?_); refine goesL_ (some 19) rfl rfl Try.func35 (by kernel_rfl) rfl #[.agg #[.int .i64 a0_0, .slice A0_1 l0_1.length c0_1], .slice Ao15 y538.length co15] rfl (by (try simp only [zMa, zMc, zMn]); first |  done|  rfl|  (simp only [zLd, zLt]; rfl)) ?_; (with_reducible refine (r4_Less.calls k1 a0_0 _ _ l0_1 _ _ y538 t541 t542 _ ?side1 ?side2 ?side3 ?side4 A8.out).mono ?_); (case side1 => repeat (first |  exact (Kd.C_below HR0_1.out HB.out)|(with_reducible refine zCa ?_ _)|(with_reducible refine zCn ?_ _)|(with_reducible refine zCd ?_))); (case side2 => exact HC0_1.out); (case side3 => exact uC (zRr HO540.out).2.2); (case side4 => exact (zRr HO540.out).2.1); rintro e w16 ⟨v543, rfl, ho0, hb⟩; refine ⟨_, rfl, ?_⟩; replace HO_3 := zMk (zRb (by exact uR HO_3.out) hb); replace HO540 := zMk (zRb (by exact uR HO540.out) hb); have HO544 := zMk (zRl ho0 (zBs (by exact uT HB.out))); replace BK534 := zMk (zKb (g:=gb534) (o:=.cells #[.int .i64 a0_0, .slice A0_1 l0_1.length c0_1] 24 (0, 0)) (by (with_reducible repeat (first |  refine zKn ?_ _|  refine zKd ?_|  refine zKa ?_ _)); exact BK534.out) hb); replace HB := zMk (zBt (by exact uT HB.out) hb); obtain ⟨Ao17, co17, eo17⟩ := zRs HO544.out; subst eo17)|((with_reducible refine gate_callee (f:=13) rfl ?_); refine goesL_ (some 20) rfl rfl Try.func13 (by kernel_rfl) rfl #[.agg #[.int .i64 t541, .slice Ao17 t542.length co17]] rfl (by (try simp only [zMa, zMc, zMn]); first |  done|  rfl|  (simp only [zLd, zLt]; rfl)) ?_; (with_reducible refine (r6_Components.calls k1 t541 _ _ t542 t545 _ ?side1 ?side2 A9.out).mono ?_); (case side1 => exact uC (zRr HO544.out).2.2); (case side2 => exact (zRr HO544.out).2.1); rintro e w18 ⟨v546, rfl, ho0, hb⟩; refine ⟨_, rfl, ?_⟩; replace HO544 := zMk (zRb (by exact uR HO544.out) hb); have HO547 := zMk (Kd.S_lower (Kd.S_new' (Kd.S_new' ho0 (zRt (by exact uR HO_3.out))) (zRt (by exact uR HO540.out))) (zBs (by exact uT HB.out))); replace HO_3 := zMk (zRb (by exact uR HO_3.out) hb); replace HO540 := zMk (zRb (by exact uR HO540.out) hb); replace BK534 := zMk (zKb (g:=gb534) (o:=.cells #[.int .i64 a0_0, .slice A0_1 l0_1.length c0_1] 24 (0, 0)) (by (with_reducible repeat (first |  refine zKn ?_ _|  refine zKd ?_|  refine zKa ?_ _)); exact BK534.out) hb); replace HB := zMk (zBt (by exact uT HB.out) hb); obtain ⟨Ao19, co19, eo19⟩ := Kd.S_slice HO547.out; subst eo19)|((with_reducible refine gate_builtin (b:=.append) (xs:=#[.tmp 24, .tmp 26]) rfl ?_); at_builtin; refine Kd.R_append (Kd.int .i64) (w0:=w) w.heap.size rfl (.tmp 24) (.tmp 26) 33 3 (.int .i64 0) 8 rfl Try.underlying33 info3 rfl (by decide) (by omega) u3 x3_1 x5_1 [.int .i64 x5_1] (fun k_ => some k_ ≠ (.slice Ao15 y538.length co15 : Value).ownBlock) (fun _ => False) rfl rfl ?aP (fun _ hk => hk.elim) ?aF ?aO ?aB ?aS ?aL ?_; (case aP => exact rfl); (case aB => exact (by exact uT HB.out)); (case aF => exact (fun k_ hk => Kd.fresh' (zRt (by exact uR HO540.out)) k_ hk)); (case aO => exact (by (with_reducible repeat (first |  apply zRa|  apply zRn|  apply zRd)); exact zRm HO_3.out (fun _ hk => hk.2))); (case aS => exact (zBs (by exact uT HB.out))); (case aL => have := LMc11.out; omega); intro v549 w20 ho hb hg hat; rw [← Ny548.out] at ho; replace BK534 := zMk (blk_grown (g:=gb534) (o:=.cells #[.int .i64 a0_0, .slice A0_1 l0_1.length c0_1] 24 (0, 0)) (by (with_reducible repeat (first |  refine zKn ?_ _|  refine zKd ?_|  refine zKa ?_ _)); exact BK534.out) hg (Kd.R_ne HO_3.out BK534.out (by decide))); replace HO540 := zMk (Kd.R_after (ok:=(fun _ => True)) (by exact uR HO540.out) hg hat); replace HO544 := zMk (Kd.R_over' (by exact uR HO544.out) (Kd.R_typed (by exact uR HO_3.out)) (by decide) hg); replace HO547 := zMk (Kd.S_after (ok:=(fun k_ => some k_ ≠ (.slice Ao15 y538.length co15 : Value).ownBlock)) (by (with_reducible repeat (first |  apply Kd.S_alloc|  apply Kd.S_drewN|  apply Kd.S_drew)); exact Kd.S_mono HO547.out (fun _ hk => ⟨hk.2, hk.1.2⟩)) hg hat); replace HB := zMk (hb); have HO550 := zMk (ho); clear HO_3 ho hb hg hat))
   go_roundg k1
   case measure => have := HK1.out; omega
   case rel => exact ⟨(y548), (wrap64 (x5_1 + 1)), (by first | rfl | (simp; done) | (simp [*]; done)), H', ⟨by have := HK1.out; omega⟩, ⟨by (with_reducible repeat (first | apply zRa | apply zRn | apply zRd)); exact zRm HO550.out (fun _ hk => trivial)⟩, ⟨by (with_reducible repeat (first | refine zKn ?_ _ | refine zKd ?_ | refine zKa ?_ _)); exact BK534.out⟩, ⟨by exact uT HB.out⟩⟩
  ·rw [if_neg c10] at H
   have c10b0 : decide ((t535.length : Int) < (t545.length : Int)) = false := decide_eq_false c10
   have c10b1 : decide (t535.length < t545.length) = false := decide_eq_false (fun h => c10 (Int.ofNat_lt.mpr h))
   clear c10
   have H' := zMk H
   clear H
   have hcz21_0 : wr.cell? ⟨gb534, 0, none⟩ = some (.int .i64 a0_0) := (zKc BK534.out 0).trans rfl
   have hcz21_1 : wr.cell? ⟨gb534, 1, none⟩ = some (.slice A0_1 l0_1.length c0_1) := (zKc BK534.out 1).trans rfl
   have hfz21_0 := zKf BK534.out 0
   have hfz21_1 := zKf BK534.out 1
   go_wp2_with (first | ((with_reducible refine gate_dst (N:=18) rfl ?_); refine Kd.R_lit (Kd.int .i64) _ 3 ?hg (N:=18) ?hd (xs:=([x5_1] : List Int)) (inner:=[.int .i64 x5_1]) (ok:=fun _ => True) (okp:=fun _ => True) ?hr ?hp (fun _ hk => hk) trivial (Below.refl _ _) (Nat.le_refl _) (by simp) ?_; (case hd => rfl); (case hg => rfl); (case hr => first | (go_simp; done)|(go_simp; rfl)|(go_simp; rw [show ∀ x : Int, IntKind.u32.wrap (IntKind.u8.wrap x) = x % 256 from fun x => (by show (x % 256) % 4294967296 = x % 256; omega)])); (case hp => exact (Reps.one (show Kd.M (Kd.int .i64) _ _ _ x5_1 [.int .i64 x5_1] from rfl) (Reps.none _ _))); intro v539 w22 ho23 hb hg_ hnew_; clear hg_ hnew_; (first |  rw [← Ny538.out] at ho23|  (simp only [Int.reduceToNat] at ho23; rw [← Ny538.out] at ho23)); have HO540 := zMk (zRl (zRw ho23 (zRt (by exact uR HO_3.out))) (zBs (by exact uT HB.out))); replace HO_3 := zMk (zRe (by exact uR HO_3.out) (zRz ho23) hb); replace BK534 := zMk (zKb (g:=gb534) (o:=.cells #[.int .i64 a0_0, .slice A0_1 l0_1.length c0_1] 24 (0, 0)) (by (with_reducible repeat (first |  refine zKn ?_ _|  refine zKd ?_|  refine zKa ?_ _)); exact BK534.out) hb); replace HB := zMk (zBt (by exact uT HB.out) hb); clear hb ho23; obtain ⟨Ao24, co24, eo24⟩ := zRs HO540.out; subst eo24)|((with_reducible refine gate_callee (f:=35) rfl ?_); refine goesL_ (some 19) rfl rfl Try.func35 (by kernel_rfl) rfl #[.agg #[.int .i64 a0_0, .slice A0_1 l0_1.length c0_1], .slice Ao24 y538.length co24] rfl (by (try simp only [zMa, zMc, zMn]); first |  done|  rfl|  (simp only [zLd, zLt]; rfl)) ?_; (with_reducible refine (r4_Less.calls k1 a0_0 _ _ l0_1 _ _ y538 t541 t542 _ ?side1 ?side2 ?side3 ?side4 A8.out).mono ?_); (case side1 => repeat (first |  exact (Kd.C_below HR0_1.out HB.out)|(with_reducible refine zCa ?_ _)|(with_reducible refine zCn ?_ _)|(with_reducible refine zCd ?_))); (case side2 => exact HC0_1.out); (case side3 => exact uC (zRr HO540.out).2.2); (case side4 => exact (zRr HO540.out).2.1); rintro e w25 ⟨v543, rfl, ho0, hb⟩; refine ⟨_, rfl, ?_⟩; replace HO_3 := zMk (zRb (by exact uR HO_3.out) hb); replace HO540 := zMk (zRb (by exact uR HO540.out) hb); have HO544 := zMk (zRl ho0 (zBs (by exact uT HB.out))); replace BK534 := zMk (zKb (g:=gb534) (o:=.cells #[.int .i64 a0_0, .slice A0_1 l0_1.length c0_1] 24 (0, 0)) (by (with_reducible repeat (first |  refine zKn ?_ _|  refine zKd ?_|  refine zKa ?_ _)); exact BK534.out) hb); replace HB := zMk (zBt (by exact uT HB.out) hb); obtain ⟨Ao26, co26, eo26⟩ := zRs HO544.out; subst eo26)|((with_reducible refine gate_callee (f:=13) rfl ?_); refine goesL_ (some 20) rfl rfl Try.func13 (by kernel_rfl) rfl #[.agg #[.int .i64 t541, .slice Ao26 t542.length co26]] rfl (by (try simp only [zMa, zMc, zMn]); first |  done|  rfl|  (simp only [zLd, zLt]; rfl)) ?_; (with_reducible refine (r6_Components.calls k1 t541 _ _ t542 t545 _ ?side1 ?side2 A9.out).mono ?_); (case side1 => exact uC (zRr HO544.out).2.2); (case side2 => exact (zRr HO544.out).2.1); rintro e w27 ⟨v546, rfl, ho0, hb⟩; refine ⟨_, rfl, ?_⟩; replace HO544 := zMk (zRb (by exact uR HO544.out) hb); have HO547 := zMk (Kd.S_lower (Kd.S_new' (Kd.S_new' ho0 (zRt (by exact uR HO_3.out))) (zRt (by exact uR HO540.out))) (zBs (by exact uT HB.out))); replace HO_3 := zMk (zRb (by exact uR HO_3.out) hb); replace HO540 := zMk (zRb (by exact uR HO540.out) hb); replace BK534 := zMk (zKb (g:=gb534) (o:=.cells #[.int .i64 a0_0, .slice A0_1 l0_1.length c0_1] 24 (0, 0)) (by (with_reducible repeat (first |  refine zKn ?_ _|  refine zKd ?_|  refine zKa ?_ _)); exact BK534.out) hb); replace HB := zMk (zBt (by exact uT HB.out) hb); obtain ⟨Ao28, co28, eo28⟩ := Kd.S_slice HO547.out; subst eo28))
   go_roundg k1
   case measure => have := HK1.out; omega
   case rel => exact ⟨(x3_1), (wrap64 (x5_1 + 1)), (by first | rfl | (simp; done) | (simp [*]; done)), H', ⟨by have := HK1.out; omega⟩, ⟨by (with_reducible repeat (first | apply zRa | apply zRn | apply zRd)); exact zRm HO_3.out (fun _ hk => trivial)⟩, ⟨by (with_reducible repeat (first | refine zKn ?_ _ | refine zKd ?_ | refine zKa ?_ _)); exact BK534.out⟩, ⟨by exact uT HB.out⟩⟩
 ·rw [if_neg c7] at H
  have c7b0 : decide (x5_1 < (l0_1.length : Int)) = false := decide_eq_false c7
  clear c7
  obtain rfl := zOi H
  have hcz29_0 : wr.cell? ⟨gb534, 0, none⟩ = some (.int .i64 a0_0) := (zKc BK534.out 0).trans rfl
  have hcz29_1 : wr.cell? ⟨gb534, 1, none⟩ = some (.slice A0_1 l0_1.length c0_1) := (zKc BK534.out 1).trans rfl
  have hfz29_0 := zKf BK534.out 0
  have hfz29_1 := zKf BK534.out 1
  go_wp2
  go_ret
  exact ⟨_, by first | rfl | (simp [errW_none, errW_some] <;> rfl) | (simp [*, errW_none, errW_some] <;> rfl), by exact uR HO_3.out, by exact uT HB.out⟩

section
variable {N : Nat} {E : List S43}
def isE (u v : Int) (e : S43) : Prop := (e.f0 = u ∧ e.f1 = v) ∨ (e.f0 = v ∧ e.f1 = u)
theorem Find_l0 (n u v : Int) (E : List S43) (hm : E.length ≤ 1000000000) (d : Nat) : ∀ i : Nat, E.length - i = d → i ≤ E.length → ∃ r, Ev (fun k => r4_Find.l0 k u v i n E) r ∧ ((∃ e ∈ E.drop i, isE u v e) → 0 ≤ r) := by
 induction d with
 | zero =>
  intro i hd hi
  refine ⟨-1, Ev.step (fun k => ?_) (Ev.now _), fun ⟨e, he, _⟩ => ?_⟩
  ·simp only [r4_Find.l0]
   rw [if_neg (by omega)]
  ·rw [List.drop_of_length_le (by omega)] at he; cases he
 | succ d ih =>
  intro i hd hi
  have hlt : i < E.length := by omega
  obtain ⟨r, h1, h2⟩ := ih (i + 1) (by omega) (by omega)
  rw [dropE E i hlt]
  generalize he : rd_T43 E (i : Int) = e at *
  by_cases hc : isE u v e
  ·refine ⟨(i : Int), Ev.step (fun k => ?_) (Ev.now _), fun _ => by omega⟩
   simp only [r4_Find.l0]
   rw [if_pos (by omega), if_pos (by omega), he]
   unfold isE at hc
   by_cases a : e.f0 = u <;> by_cases b : e.f1 = v <;> by_cases c : e.f0 = v <;> by_cases f : e.f1 = u <;> simp [a, b, c, f] <;> simp_all
  ·refine ⟨r, Ev.step (fun k => ?_) h1, fun ⟨e2, he2, h3⟩ => ?_⟩
   ·simp only [r4_Find.l0]
    rw [if_pos (by omega), if_pos (by omega), he, w64n i (by omega)]
    unfold isE at hc
    by_cases a : e.f0 = u <;> by_cases b : e.f1 = v <;> by_cases c : e.f0 = v <;> by_cases f : e.f1 = u <;> simp [a, b, c, f] <;> simp_all
   ·rcases List.mem_cons.1 he2 with rfl | he2
    ·exact absurd h3 hc
    ·exact h2 ⟨e2, he2, h3⟩
theorem Find_ev (n u v : Int) (E : List S43) (hm : E.length ≤ 1000000000) : ∃ r, Ev (fun k => r4_Find.f k n E u v) r ∧ ((∃ e ∈ E, isE u v e) → 0 ≤ r) := by
 obtain ⟨r, h1, h2⟩ := Find_l0 n u v E hm E.length 0 rfl (Nat.zero_le _)
 exact ⟨r, h1, by rwa [List.drop_zero] at h2⟩
theorem rdL4_set (l : List (List Int)) (v w : Int) (x : List Int) (v0 : 0 ≤ v) (v1 : v < (l.length : Int)) (w0 : 0 ≤ w) : rd_L4 (l.set v.toNat x) w = if w = v then x else rd_L4 l w := by
 unfold rd_L4
 rw [List.getD_eq_getElem?_getD, List.getElem?_set, List.getD_eq_getElem?_getD]
 by_cases e : w = v
 ·subst e; rw [if_pos rfl, if_pos (by omega), if_pos rfl]; rfl
 ·rw [if_neg (by omega), if_neg e]
def NearOf (N : Nat) (E : List S43) (r : List (List Int)) : Prop := r.length = N ∧ ∀ v u e, 0 ≤ v → v < (N : Int) → 0 ≤ u → u < (N : Int) → e ∈ E → isE v u e → 0 < (rd_L4 r v).length
def NearTo (N : Nat) (E : List S43) (i : Int) (r : List (List Int)) : Prop := r.length = N ∧ (∀ w, i ≤ w → w < (N : Int) → (rd_L4 r w).length = 0) ∧ ∀ v u e, 0 ≤ v → v < i → 0 ≤ u → u < (N : Int) → e ∈ E → isE v u e → 0 < (rd_L4 r v).length
theorem Near_l1 (hN : N ≤ 1000000000) (hm : E.length ≤ 1000000000) (v : Nat) (hv : v < N) (P : List (List Int) → Prop) (d : Nat) : ∀ (u : Nat) (x : List (List Int)), N - u = d → u ≤ N → x.length = N → (rd_L4 x v).length ≤ u →
  (∀ w : Int, (v : Int) + 1 ≤ w → w < (N : Int) → (rd_L4 x w).length = 0) → (∀ w u e, 0 ≤ w → w < (v : Int) → 0 ≤ u → u < (N : Int) → e ∈ E → isE w u e → 0 < (rd_L4 x w).length) →
  (∀ (z : Int) (e : S43), 0 ≤ z → z < (u : Int) → e ∈ E → isE v z e → 0 < (rd_L4 x v).length) →
  (∀ y, NearTo N E ((v + 1 : Nat) : Int) y → ∃ r, Ev (fun k => r4_Near.l0 k y ((v + 1 : Nat) : Int) N E) r ∧ P r) → ∃ r, Ev (fun k => r4_Near.l1 k x v u N E) r ∧ P r := by
 induction d with
 | zero =>
  intro u x hd hu hx hl hz hb hc cont
  obtain rfl : u = N := by omega
  obtain ⟨r, h1, h2⟩ := cont x ⟨hx, fun w w0 w1 => hz w (by omega) w1, fun w z e w0 w1 z0 z1 he hi => by
   by_cases ew : w = (v : Int)
   ·subst ew; exact hc z e z0 z1 he hi
   ·exact hb w z e w0 (by omega) z0 z1 he hi⟩
  refine ⟨r, Ev.step (fun k => ?_) h1, h2⟩
  simp only [r4_Near.l1]
  rw [if_neg (by omega), w64n v (by omega)]
 | succ d ih =>
  intro u x hd hu hx hl hz hb hc cont
  obtain ⟨t, h1, h2⟩ := Find_ev N v u E hm
  have hrl : ∀ w : Int, 0 ≤ w → rd_L4 (x.set (v : Int).toNat (rd_L4 x v ++ [(u : Int)])) w = if w = (v : Int) then rd_L4 x v ++ [(u : Int)] else rd_L4 x w := fun w w0 => rdL4_set x v w _ (by omega) (by omega) w0
  by_cases ht : t ≥ 0
  ·obtain ⟨r, h3, h4⟩ := ih (u + 1) (x.set (v : Int).toNat (rd_L4 x v ++ [(u : Int)])) (by omega) (by omega) (by rw [List.length_set]; exact hx) (by rw [hrl _ (by omega), if_pos rfl, List.length_append]; simp; omega)
    (fun w w0 w1 => by rw [hrl _ (by omega), if_neg (by omega)]; exact hz w w0 w1) (fun w z e w0 w1 z0 z1 he hi => by rw [hrl _ w0, if_neg (by omega)]; exact hb w z e w0 w1 z0 z1 he hi)
    (fun z e z0 z1 he hi => by rw [hrl _ (by omega), if_pos rfl, List.length_append]; simp) cont
   refine ⟨r, Ev.step (fun k => ?_) (Ev.bind h1 (f:=fun k t497 => if t497 ≥ 0 then (r4_Near.l1 k (x.set (v : Int).toNat (rd_L4 x v ++ [(u : Int)])) v (wrap64 ((u : Int) + 1)) N E) else r4_Near.l1 k x v (wrap64 ((u : Int) + 1)) N E) (Ev.congr (fun k => ?_) h3)), h4⟩
   ·simp only [r4_Near.l1]
    rw [if_pos (by omega)]
    simp only [if_pos (show (0 : Int) ≤ (v : Int) by omega), if_pos (show (v : Int) < (x.length : Int) by omega), if_pos (show (rd_L4 x v).length < 17592186044416 by omega)]
   ·rw [if_pos ht, w64n u (by omega)]
  ·obtain ⟨r, h3, h4⟩ := ih (u + 1) x (by omega) (by omega) hx (by omega) hz hb (fun z e z0 z1 he hi => by
    by_cases ez : z = (u : Int)
    ·subst ez; exact absurd (h2 ⟨e, he, hi⟩) ht
    ·exact hc z e z0 (by omega) he hi) cont
   refine ⟨r, Ev.step (fun k => ?_) (Ev.bind h1 (f:=fun k t497 => if t497 ≥ 0 then (r4_Near.l1 k (x.set (v : Int).toNat (rd_L4 x v ++ [(u : Int)])) v (wrap64 ((u : Int) + 1)) N E) else r4_Near.l1 k x v (wrap64 ((u : Int) + 1)) N E) (Ev.congr (fun k => ?_) h3)), h4⟩
   ·simp only [r4_Near.l1]
    rw [if_pos (by omega)]
    simp only [if_pos (show (0 : Int) ≤ (v : Int) by omega), if_pos (show (v : Int) < (x.length : Int) by omega), if_pos (show (rd_L4 x v).length < 17592186044416 by omega)]
   ·rw [if_neg ht, w64n u (by omega)]
theorem Near_l0 (hN : N ≤ 1000000000) (hm : E.length ≤ 1000000000) (d : Nat) : ∀ (v : Nat) (x : List (List Int)), N - v = d → v ≤ N → NearTo N E v x → ∃ r, Ev (fun k => r4_Near.l0 k x v N E) r ∧ NearOf N E r := by
 induction d with
 | zero =>
  intro v x hd hv h
  obtain rfl : v = N := by omega
  refine ⟨x, Ev.step (fun k => ?_) (Ev.now _), h.1, h.2.2⟩
  simp only [r4_Near.l0]
  rw [if_neg (by omega)]
 | succ d ih =>
  intro v x hd hv h
  have h0 := h.2.1 v (by omega) (by omega)
  obtain ⟨r, h1, h2⟩ := Near_l1 hN hm v (by omega) (NearOf N E) N 0 x rfl (Nat.zero_le _) h.1 (by omega) (fun w w0 w1 => h.2.1 w (by omega) w1) h.2.2 (fun z e z0 z1 => by omega) (fun y hy => ih (v + 1) y (by omega) (by omega) hy)
  refine ⟨r, Ev.step (fun k => ?_) h1, h2⟩
  simp only [r4_Near.l0]
  rw [if_pos (by omega)]; rfl
theorem Near_ev (hN : N ≤ 1000000000) (hm : E.length ≤ 1000000000) : ∃ r, Ev (fun k => r4_Near.f k N E) r ∧ NearOf N E r := by
 obtain ⟨r, h1, h2⟩ := Near_l0 (E:=E) hN hm N 0 (List.replicate N []) rfl (Nat.zero_le _) ⟨List.length_replicate, fun w w0 w1 => by
  unfold rd_L4
  rw [List.getD_eq_getElem?_getD, List.getElem?_replicate]
  split <;> rfl, fun v u e v0 v1 => by omega⟩
 refine ⟨r, Ev.congr (fun k => ?_) h1, h2⟩
 unfold r4_Near.f
 rw [if_pos (by omega), zTn, if_pos (by omega)]; rfl
theorem Cuts_l0 (hR : Rt N E) (near : List (List Int)) (hn : NearOf N E near) (d : Nat) : ∀ (i : Nat) (acc : List Int), N - i = d → i ≤ N → acc.length ≤ i →
  Ev (fun k => r6_Cuts.l0 k acc ((rootsE N E).length : Int) near i N E) (acc ++ ((ups N).drop i).filter fun v => decide ((rootsE N E).length + 2 ≤ (rootsE N (dropV E v)).length)) := by
 have hN1 := hR.N1
 have hE1 := hR.E1
 induction d with
 | zero =>
  intro i acc hd hi ha
  obtain rfl : i = N := by omega
  rw [ups_drop_end, List.filter_nil, List.append_nil]
  refine Ev.step (fun k => ?_) (Ev.now _)
  simp only [r6_Cuts.l0]
  rw [if_neg (by omega)]
 | succ d ih =>
  intro i acc hd hi ha
  have hlt : i < N := by omega
  have hd1 := dropV_len E (i : Int)
  have hnl := hn.1
  have hcl := roots_len N (dropV E (i : Int))
  have hco := refComp_ev N (dropV E (i : Int)) (dropV_ends hR.ends _) (by omega) (by omega)
  rw [ups_drop N i hlt]
  have hnear : (rootsE N E).length + 2 ≤ (rootsE N (dropV E (i : Int))).length → ((rd_L4 near (i : Int)).length : Int) > 0 := fun hc => by
   by_cases hx : ∃ j a, At E j (i : Int) a
   ·obtain ⟨j, a, hja⟩ := hx
    obtain ⟨-, ha2⟩ := hja.inn hR.ends
    obtain ⟨q, hq, -, h3⟩ := hja
    have := hn.2 (i : Int) a _ (by omega) (by omega) ha2.1 ha2.2 (List.getElem_mem hq) (by
     rcases h3 with ⟨h4, h5⟩ | ⟨h4, h5⟩
     ·exact .inl ⟨h4, h5⟩
     ·exact .inr ⟨h5, h4⟩)
    omega
   ·have := cut_less hR (v:=(i : Int)) ⟨by omega, by omega⟩ (fun p q a b h1 _ => absurd ⟨p, a, h1⟩ hx)
    omega
  have tail : ∀ (acc2 : List Int) (R : List Int), (∀ k, (if ((rd_L4 near (i : Int)).length : Int) > 0 then (if (wrap64 (((compsL N (labs N (dropV E (i : Int)))).length : Int) - 1)) > ((rootsE N E).length : Int) then (if acc.length < 17592186044416 then r6_Cuts.l0 k (acc ++ [(i : Int)]) ((rootsE N E).length : Int) near (wrap64 ((i : Int) + 1)) N E else none) else r6_Cuts.l0 k acc ((rootsE N E).length : Int) near (wrap64 ((i : Int) + 1)) N E) else r6_Cuts.l0 k acc ((rootsE N E).length : Int) near (wrap64 ((i : Int) + 1)) N E) = r6_Cuts.l0 k acc2 ((rootsE N E).length : Int) near ((i + 1 : Nat) : Int) N E) → Ev (fun k => r6_Cuts.l0 k acc2 ((rootsE N E).length : Int) near ((i + 1 : Nat) : Int) N E) R → Ev (fun k => r6_Cuts.l0 k acc ((rootsE N E).length : Int) near i N E) R := fun acc2 R hk h => by
   have h3 := Ev.bind (all_ev2 N (i : Int) (by omega)) (f:=fun k t510 => (r4_Only.f k N E t510).bind fun bt513 => (r6_Components.f k bt513.1 bt513.2).bind fun t518 => if ((rd_L4 near (i : Int)).length : Int) > 0 then (if (wrap64 ((t518.length : Int) - 1)) > ((rootsE N E).length : Int) then (if acc.length < 17592186044416 then r6_Cuts.l0 k (acc ++ [(i : Int)]) ((rootsE N E).length : Int) near (wrap64 ((i : Int) + 1)) N E else none) else r6_Cuts.l0 k acc ((rootsE N E).length : Int) near (wrap64 ((i : Int) + 1)) N E) else r6_Cuts.l0 k acc ((rootsE N E).length : Int) near (wrap64 ((i : Int) + 1)) N E)
    (Ev.bind (Only_ev N E (i : Int) hR.ends (by omega)) (f:=fun k bt513 => (r6_Components.f k bt513.1 bt513.2).bind fun t518 => if ((rd_L4 near (i : Int)).length : Int) > 0 then (if (wrap64 ((t518.length : Int) - 1)) > ((rootsE N E).length : Int) then (if acc.length < 17592186044416 then r6_Cuts.l0 k (acc ++ [(i : Int)]) ((rootsE N E).length : Int) near (wrap64 ((i : Int) + 1)) N E else none) else r6_Cuts.l0 k acc ((rootsE N E).length : Int) near (wrap64 ((i : Int) + 1)) N E) else r6_Cuts.l0 k acc ((rootsE N E).length : Int) near (wrap64 ((i : Int) + 1)) N E)
     (Ev.bind hco (f:=fun k t518 => if ((rd_L4 near (i : Int)).length : Int) > 0 then (if (wrap64 ((t518.length : Int) - 1)) > ((rootsE N E).length : Int) then (if acc.length < 17592186044416 then r6_Cuts.l0 k (acc ++ [(i : Int)]) ((rootsE N E).length : Int) near (wrap64 ((i : Int) + 1)) N E else none) else r6_Cuts.l0 k acc ((rootsE N E).length : Int) near (wrap64 ((i : Int) + 1)) N E) else r6_Cuts.l0 k acc ((rootsE N E).length : Int) near (wrap64 ((i : Int) + 1)) N E)
      (Ev.congr hk h)))
   refine Ev.step (fun k => ?_) h3
   simp only [r6_Cuts.l0]
   rw [if_pos (by omega)]
   simp only [if_pos (show (0 : Int) ≤ (i : Int) by omega), if_pos (show (i : Int) < (near.length : Int) by omega)]
  rw [comps_roots, w64 (by omega) (by omega), w64n i (by omega)] at tail
  by_cases hc : (rootsE N E).length + 2 ≤ (rootsE N (dropV E (i : Int))).length
  ·rw [List.filter_cons_of_pos (by simpa using hc)]
   have h1 := ih (i + 1) (acc ++ [(i : Int)]) (by omega) (by omega) (by rw [List.length_append]; simp; omega)
   rw [List.append_assoc, List.singleton_append] at h1
   refine tail _ _ (fun k => ?_) h1
   rw [if_pos (hnear hc), if_pos (by omega), if_pos (by omega)]
  ·rw [List.filter_cons_of_neg (by simpa using hc)]
   refine tail _ _ (fun k => ?_) (ih (i + 1) acc (by omega) (by omega) (by omega))
   rw [if_neg (show ¬ ((rootsE N (dropV E (i : Int))).length : Int) - 1 > ((rootsE N E).length : Int) by omega), ite_self]
theorem refCuts_ev (hR : Rt N E) : Ev (fun k => r6_Cuts.f k N E) ((ups N).filter fun v => decide ((rootsE N E).length + 2 ≤ (rootsE N (dropV E v)).length)) := by
 have hN1 := hR.N1
 have hE1 := hR.E1
 obtain ⟨near, h1, h2⟩ := Near_ev (N:=N) (E:=E) (by omega) (by omega)
 have h3 := Cuts_l0 hR near h2 N 0 [] rfl (Nat.zero_le _) (Nat.zero_le _)
 rw [List.drop_zero, List.nil_append] at h3
 have h3 : Ev (fun k => r6_Cuts.l0 k ([] : List Int) ((compsL N (labs N E)).length : Int) near 0 N E) ((ups N).filter fun v => decide ((rootsE N E).length + 2 ≤ (rootsE N (dropV E v)).length)) := by rw [comps_roots]; exact h3
 exact Ev.bind (refComp_ev N E hR.ends (by omega) (by omega)) (f:=fun k t504 => (r4_Near.f k N E).bind fun t507 => r6_Cuts.l0 k ([] : List Int) (t504.length : Int) t507 0 N E)
  (Ev.bind h1 (f:=fun k t507 => r6_Cuts.l0 k ([] : List Int) ((compsL N (labs N E)).length : Int) t507 0 N E) h3)
theorem Less_l0 (hR : Rt N E) (i : Nat) (hi : i < E.length) (d : Nat) : ∀ (j : Nat) (acc : List S43), E.length - j = d → j ≤ E.length → acc.length ≤ j →
  Ev (fun k => r4_Less.l0 k [(i : Int)] j N E N acc) ((N : Int), acc ++ dropE2 (E.drop j) E[i].f0 E[i].f1) := by
 have hE1 := hR.E1
 induction d with
 | zero =>
  intro j acc hd hj ha
  rw [List.drop_of_length_le (by omega)]
  refine Ev.step (fun k => ?_) (Ev.now _)
  simp only [r4_Less.l0]
  rw [if_neg (by omega)]
  simp [dropE2]
 | succ d ih =>
  intro j acc hd hj ha
  have hlt : j < E.length := by omega
  have hsame : (E[j].f0 = E[i].f0 ∧ E[j].f1 = E[i].f1) ↔ (j : Int) = (i : Int) := by
   constructor
   ·rintro ⟨h1, h2⟩
    exact At.one hR (v:=E[j].f0) (a:=E[j].f1) ⟨j, hlt, rfl, .inl ⟨rfl, rfl⟩⟩ ⟨i, hi, rfl, .inl ⟨h1.symm, h2.symm⟩⟩
   ·intro h
    obtain rfl : j = i := by omega
    exact ⟨rfl, rfl⟩
  have hh : Ev (fun k => r4_Has.f k [(i : Int)] (j : Int)) (decide ((j : Int) = (i : Int))) := ⟨2, fun k hk => (Has_eq k [(i : Int)] (j : Int) (by simp) (by simpa using hk)).trans (by simp)⟩
  rw [dropE E j hlt, rdE_get E j hlt]
  have hd2 : dropE2 (E[j] :: E.drop (j + 1)) E[i].f0 E[i].f1 = if (j : Int) = (i : Int) then dropE2 (E.drop (j + 1)) E[i].f0 E[i].f1 else E[j] :: dropE2 (E.drop (j + 1)) E[i].f0 E[i].f1 := by
   unfold dropE2
   rw [List.filter_cons]
   by_cases h : (j : Int) = (i : Int)
   ·rw [if_pos h]
    have := hsame.2 h
    rw [if_neg (by simp [this.1, this.2])]
   ·rw [if_neg h, if_pos]
    have h2 : ¬ (E[j].f0 = E[i].f0 ∧ E[j].f1 = E[i].f1) := fun h3 => h (hsame.1 h3)
    by_cases h4 : E[j].f0 = E[i].f0 <;> by_cases h5 : E[j].f1 = E[i].f1 <;> simp_all
  rw [hd2]
  have key : ∀ R, Ev (fun k => if decide ((j : Int) = (i : Int)) = true then r4_Less.l0 k [(i : Int)] ((j + 1 : Nat) : Int) N E N acc else r4_Less.l0 k [(i : Int)] ((j + 1 : Nat) : Int) N E N (acc ++ [E[j]])) R → Ev (fun k => r4_Less.l0 k [(i : Int)] j N E N acc) R := fun R h => by
   refine Ev.step (fun k => ?_) (Ev.bind hh (f:=fun k t => if t = true then r4_Less.l0 k [(i : Int)] ((j + 1 : Nat) : Int) N E N acc else r4_Less.l0 k [(i : Int)] ((j + 1 : Nat) : Int) N E N (acc ++ [E[j]])) h)
   simp only [r4_Less.l0]
   rw [if_pos (by omega), w64n j (by omega), rdE_get E j hlt]
   simp only [if_pos (show (0 : Int) ≤ (j : Int) by omega), if_pos (show acc.length < 5864062014805 by omega)]
  by_cases h : (j : Int) = (i : Int)
  ·rw [if_pos h]
   refine key _ (Ev.congr (fun k => by rw [if_pos (decide_eq_true h)]) (ih (j + 1) acc (by omega) (by omega) (by omega)))
  ·rw [if_neg h]
   have h1 := ih (j + 1) (acc ++ [E[j]]) (by omega) (by omega) (by rw [List.length_append]; simp; omega)
   rw [List.append_assoc, List.singleton_append] at h1
   refine key _ (Ev.congr (fun k => by rw [if_neg (by simpa using h)]) h1)
theorem Less_ev (hR : Rt N E) (i : Nat) (hi : i < E.length) : Ev (fun k => r4_Less.f k N E [(i : Int)]) ((N : Int), dropE2 E E[i].f0 E[i].f1) := by
 have h := Less_l0 hR i hi E.length 0 [] rfl (Nat.zero_le _) (Nat.zero_le _)
 rw [List.drop_zero, List.nil_append] at h
 exact h
def brE (N : Nat) (E : List S43) (i : Int) : Bool := decide ((rootsE N E).length + 1 ≤ (rootsE N (dropE2 E (rd_T43 E i).f0 (rd_T43 E i).f1)).length)
theorem Bridges_l0 (hR : Rt N E) (d : Nat) : ∀ (i : Nat) (acc : List Int), E.length - i = d → i ≤ E.length → acc.length ≤ i →
  Ev (fun k => r6_Bridges.l0 k acc ((rootsE N E).length : Int) i N E) (acc ++ ((ups E.length).drop i).filter (brE N E)) := by
 have hN1 := hR.N1
 have hE1 := hR.E1
 induction d with
 | zero =>
  intro i acc hd hi ha
  obtain rfl : i = E.length := by omega
  rw [ups_drop_end, List.filter_nil, List.append_nil]
  refine Ev.step (fun k => ?_) (Ev.now _)
  simp only [r6_Bridges.l0]
  rw [if_neg (by omega)]
 | succ d ih =>
  intro i acc hd hi ha
  have hlt : i < E.length := by omega
  rw [ups_drop E.length i hlt]
  have hle := dropE2_len E E[i].f0 E[i].f1
  have hco := refComp_ev N (dropE2 E E[i].f0 E[i].f1) (dropE2_ends hR.ends _ _) (by omega) (by omega)
  have hbr : brE N E (i : Int) = decide ((rootsE N E).length + 1 ≤ (rootsE N (dropE2 E E[i].f0 E[i].f1)).length) := by unfold brE; rw [rdE_get E i hlt]
  have tail : ∀ (acc2 : List Int) (R : List Int), (∀ k, (if ((compsL N (labs N (dropE2 E E[i].f0 E[i].f1))).length : Int) > ((rootsE N E).length : Int) then (if acc.length < 17592186044416 then r6_Bridges.l0 k (acc ++ [(i : Int)]) ((rootsE N E).length : Int) (wrap64 ((i : Int) + 1)) N E else none) else r6_Bridges.l0 k acc ((rootsE N E).length : Int) (wrap64 ((i : Int) + 1)) N E) = r6_Bridges.l0 k acc2 ((rootsE N E).length : Int) ((i + 1 : Nat) : Int) N E) → Ev (fun k => r6_Bridges.l0 k acc2 ((rootsE N E).length : Int) ((i + 1 : Nat) : Int) N E) R → Ev (fun k => r6_Bridges.l0 k acc ((rootsE N E).length : Int) i N E) R := fun acc2 R hk h => by
   have h3 := Ev.bind (Less_ev hR i hlt) (f:=fun k bt541 => (r6_Components.f k bt541.1 bt541.2).bind fun t545 => if (t545.length : Int) > ((rootsE N E).length : Int) then (if acc.length < 17592186044416 then r6_Bridges.l0 k (acc ++ [(i : Int)]) ((rootsE N E).length : Int) (wrap64 ((i : Int) + 1)) N E else none) else r6_Bridges.l0 k acc ((rootsE N E).length : Int) (wrap64 ((i : Int) + 1)) N E)
    (Ev.bind hco (f:=fun k t545 => if (t545.length : Int) > ((rootsE N E).length : Int) then (if acc.length < 17592186044416 then r6_Bridges.l0 k (acc ++ [(i : Int)]) ((rootsE N E).length : Int) (wrap64 ((i : Int) + 1)) N E else none) else r6_Bridges.l0 k acc ((rootsE N E).length : Int) (wrap64 ((i : Int) + 1)) N E)
     (Ev.congr hk h))
   refine Ev.step (fun k => ?_) h3
   simp only [r6_Bridges.l0]
   rw [if_pos (by omega)]
  rw [comps_roots, w64n i (by omega)] at tail
  by_cases hc : (rootsE N E).length + 1 ≤ (rootsE N (dropE2 E E[i].f0 E[i].f1)).length
  ·rw [List.filter_cons_of_pos (by rw [hbr]; simpa using hc)]
   have h1 := ih (i + 1) (acc ++ [(i : Int)]) (by omega) (by omega) (by rw [List.length_append]; simp; omega)
   rw [List.append_assoc, List.singleton_append] at h1
   refine tail _ _ (fun k => ?_) h1
   rw [if_pos (by omega), if_pos (by omega)]
  ·rw [List.filter_cons_of_neg (by rw [hbr]; simpa using hc)]
   refine tail _ _ (fun k => ?_) (ih (i + 1) acc (by omega) (by omega) (by omega))
   rw [if_neg (by omega)]
theorem refBridges_ev (hR : Rt N E) : Ev (fun k => r6_Bridges.f k N E) ((ups E.length).filter (brE N E)) := by
 have hN1 := hR.N1
 have hE1 := hR.E1
 have h3 := Bridges_l0 hR E.length 0 [] rfl (Nat.zero_le _) (Nat.zero_le _)
 rw [List.drop_zero, List.nil_append] at h3
 have h3 : Ev (fun k => r6_Bridges.l0 k ([] : List Int) ((compsL N (labs N E)).length : Int) 0 N E) ((ups E.length).filter (brE N E)) := by rw [comps_roots]; exact h3
 exact Ev.bind (refComp_ev N E hR.ends (by omega) (by omega)) (f:=fun k t535 => r6_Bridges.l0 k ([] : List Int) (t535.length : Int) 0 N E) h3
def brL (bs : List (List Int)) : List Int := (bs.filter fun b => b.length == 1).map fun b => rd b 0
theorem pBr_l0 (bs : List (List Int)) (hb : bs.length ≤ 1000000000) (d : Nat) : ∀ (i : Nat) (acc : List Int), bs.length - i = d → i ≤ bs.length → acc.length ≤ i →
  Ev (fun k => parts_Bridges.l0 k acc bs (bs.length : Int) i) (acc ++ brL (bs.drop i)) := by
 induction d with
 | zero =>
  intro i acc hd hi ha
  rw [List.drop_of_length_le (by omega)]
  refine Ev.step (fun k => ?_) (Ev.now _)
  simp only [parts_Bridges.l0]
  rw [if_neg (by omega)]
  simp [brL]
 | succ d ih =>
  intro i acc hd hi ha
  have hlt : i < bs.length := by omega
  have hrd : rd_L4 bs (i : Int) = bs[i] := by unfold rd_L4; rw [zTn]; simp [hlt]
  rw [List.drop_eq_getElem_cons hlt]
  unfold brL
  by_cases hc : bs[i].length = 1
  ·rw [List.filter_cons_of_pos (by simpa using hc), zMc]
   have h1 := ih (i + 1) (acc ++ [rd bs[i] 0]) (by omega) (by omega) (by rw [List.length_append]; simp; omega)
   rw [List.append_assoc, List.singleton_append] at h1
   refine Ev.step (fun k => ?_) h1
   simp only [parts_Bridges.l0, hrd]
   rw [if_pos (by omega), if_pos (by omega), if_pos (by omega), if_pos (by omega), if_pos (by omega), if_pos (by omega), w64n i (by omega)]
  ·rw [List.filter_cons_of_neg (by simpa using hc)]
   refine Ev.step (fun k => ?_) (ih (i + 1) acc (by omega) (by omega) (by omega))
   simp only [parts_Bridges.l0, hrd]
   rw [if_pos (by omega), if_pos (by omega), if_pos (by omega), if_neg (by omega), w64n i (by omega)]
theorem progBridges_ev {n : Int} {bs : List (List Int)} (h : Ev (fun k => parts_Blocks.f k n E) bs) (hb : bs.length ≤ 1000000000) : Ev (fun k => parts_Bridges.f k n E) (brL bs) := by
 have h3 := pBr_l0 bs hb bs.length 0 [] rfl (Nat.zero_le _) (Nat.zero_le _)
 rw [List.drop_zero, List.nil_append] at h3
 exact Ev.bind h (f:=fun k t277 => parts_Bridges.l0 k ([] : List Int) t277 (t277.length : Int) 0) h3
theorem bridges_eq (hR : Rt N E) {s : Wk} (hF : Fin N E s) : brL s.blocks = (ups E.length).filter (brE N E) := by
 have h1 : (brL s.blocks).Pairwise (· < ·) := by
  unfold brL
  rw [List.pairwise_map]
  exact hF.hs.filter _
 refine up_eq h1 ((ups_up E.length).filter _) (fun j => ?_)
 have hone : j ∈ brL s.blocks ↔ [j] ∈ s.blocks := by
  unfold brL
  rw [List.mem_map]
  constructor
  ·rintro ⟨b, hb, rfl⟩
   obtain ⟨h1, h2⟩ := List.mem_filter.1 hb
   obtain ⟨x, rfl⟩ := List.length_eq_one_iff.1 (by simpa using h2 : b.length = 1)
   exact h1
  ·intro hb
   exact ⟨[j], List.mem_filter.2 ⟨hb, rfl⟩, rfl⟩
 rw [hone, List.mem_filter, mem_ups]
 constructor
 ·intro hb
  have hr := hF.rng _ hb j (List.mem_singleton.2 rfl)
  refine ⟨hr, ?_⟩
  obtain ⟨i, rfl⟩ := Int.eq_ofNat_of_zero_le hr.1
  have hi : i < E.length := by omega
  have h2 := (bridge_iff hR hF i hi).1 hb
  unfold brE
  rw [rdE_get E i hi]
  exact decide_eq_true (bridge_more hR.ends (List.getElem_mem hi) rfl rfl h2)
 ·rintro ⟨hr, h2⟩
  obtain ⟨i, rfl⟩ := Int.eq_ofNat_of_zero_le hr.1
  have hi : i < E.length := by omega
  unfold brE at h2
  rw [rdE_get E i hi] at h2
  have h2 := of_decide_eq_true h2
  refine (bridge_iff hR hF i hi).2 fun hc => ?_
  have := bridge_less (N:=N) hR.ends hc
  omega
end
end Go.Proofs.Ytkiemlbobcklpaa.A
