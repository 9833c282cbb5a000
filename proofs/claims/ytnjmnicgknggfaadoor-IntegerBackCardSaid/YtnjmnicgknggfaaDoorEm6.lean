/- Lemmas for the statement: the walks of the functions that it reaches, and plain laws. -/
import Derived.Test.YtnjmnicgknggfaaDoorEm1
import Derived.Test.YtnjmnicgknggfaaDoorEm2
import Derived.Test.YtnjmnicgknggfaaDoorEm5
import Derived.Test.YtnjmnicgknggfaaDoorEm3
import Derived.Test.YtnjmnicgknggfaaDoorEm4
set_option linter.unusedVariables false
set_option linter.unusedSimpArgs false
namespace Go.Proofs.YtnjmnicgknggfaaDoor.E
open Go Go.RowKit Go.Proofs.YtnjmnicgknggfaaDoorW.PrintWords Go.Proofs.YtnjmnicgknggfaaDoorW.PrintLast Go.Proofs.YtnjmnicgknggfaaDoorW.PrintMore
attribute [local go_sem] max2_int min2_int max_two min_two max_three min_three max_four min_four
open Go.Proofs.YtnjmnicgknggfaaDoorW.PrintWords.Kd renaming R_alloc → zRa, R_drewN → zRn, R_drew → zRd, V_alloc → zVa, V_drewN → zVn, V_drew → zVd, V_below → zVb, C_alloc → zCa, C_drewN → zCn, C_drew → zCd, R_mono → zRm, V_mono → zVm, at_int → zAi, R_elder' → zRe, R_lower → zRl, R_new' → zRw, R_lt → zRt, R_below → zRb, R_base → zRz, R_reads' → zRr, R_slice → zRs, V_elder' → zVe, V_lower → zVl, V_slice → zVs, V_reads' → zVr
open Go.Proofs.YtnjmnicgknggfaaDoorW.PrintWords renaming pw_below_drewN → zBn, below_alloc → zBa, below_drew1 → zBd, below_size → zBs, below_step → zBt, blk_drewN → zKn, blk_drew → zKd, blk_alloc → zKa, blk_below → zKb, blk_cell → zKc, blk_frozen → zKf
open List renaming setIfInBounds_toArray → zSa, set_cons_zero → zSb, set_cons_succ → zSc, length_drop → zLd, length_take → zLt, map_toArray → zMa, map_cons → zMc, map_nil → zMn, length_cons → zLc, length_nil → zLn
open Go.Proofs.YtnjmnicgknggfaaDoorW.PrintWords.Aside0 renaming mk → zMk
open Option renaming bind_eq_some_iff → zBi, bind_some → zOb
open Option.some renaming inj → zOi
open Int renaming toNat_natCast → zTn

mutual
def filigreelaw02_IntegerBack.j0 : Nat → ByteArray → Bool → Bool → List Int → Option (Bool)
  | 0, _, _, _, _ => none
  | k + 1, x1, x17, x469000, x469001 => if x17 = true then ((filigreelaw02_alive.f k).bind fun t469 => (some t469)) else ((integer_Text.f k x469000 x469001).bind fun t470 => ((integer_Parse.f k t470).bind fun bt471 => (if bt471.2.2 = 0 then ((filigreeref02_Norm.f k x469000 x469001).bind fun bt477 => ((filigreeref02_Same.f k bt471.1 bt471.2.1 bt477.1 bt477.2).bind fun t481 => (filigreelaw02_IntegerBack.j1 k x1 (!t481)))) else (filigreelaw02_IntegerBack.j1 k x1 true))))
def filigreelaw02_IntegerBack.j1 : Nat → ByteArray → Bool → Option (Bool)
  | 0, _, _ => none
  | k + 1, x1, x33 => if x33 = true then (some false) else ((integer_Parse.f k x1).bind fun bt482 => (if bt482.2.2 = 0 then ((integer_Text.f k bt482.1 bt482.2.1).bind fun t488 => (if t488.toList = x1.toList then ((filigreelaw02_alive.f k).bind fun t489 => (some t489)) else (some false))) else ((filigreelaw02_alive.f k).bind fun t490 => (some t490))))
end
def filigreelaw02_IntegerBack.f (k : Nat) (a0_0 : Bool) (l0_1 : List Int) (a1 : ByteArray) : Option (Bool) := if (l0_1.length : Int) > 50 then (filigreelaw02_IntegerBack.j0 k a1 true a0_0 l0_1) else (filigreelaw02_IntegerBack.j0 k a1 (decide ((a1.size : Int) > 500)) a0_0 l0_1)
def filigreelaw02_IntegerBack.T4 : Bool × List (List Nat × List Nat) := (true, [([], []), ([0], [0]), ([1], [1]), ([2], [2]), ([2], [2]), ([4, 2, 2], [2, 4]), ([3, 5, 5, 2], [2, 3, 5]), ([6, 2], [2, 6]), ([2, 7], [2, 7])])
def filigreelaw02_IntegerBack.B4 : List Nat := [0, 1, 3, 7, 7, 23, 63, 127, 255]
theorem filigreelaw02_IntegerBack.tab4 : rtab .any (opsOf Tryd.f9 4) = filigreelaw02_IntegerBack.T4 := by kernel_rfl
theorem filigreelaw02_IntegerBack.bits4 : waitsOk filigreelaw02_IntegerBack.T4.2 filigreelaw02_IntegerBack.B4 = true := by kernel_rfl
set_option maxHeartbeats 8000000 in
set_option maxRecDepth 100000 in
theorem filigreelaw02_IntegerBack.calls (k : Nat) (a0_0 : Bool) (A0_1 : Option Addr) (c0_1 : Nat) (l0_1 : List Int) (a1 : ByteArray) (r : Bool) (w : World) (hr0_1 : Kd.C (Kd.int .u32) w A0_1 l0_1.length l0_1) (hc0_1 : l0_1.length ≤ c0_1) (ht_ : Tabs w) (h : filigreelaw02_IntegerBack.f k a0_0 l0_1 a1 = some r) (hr_ : r = true) :
    Calls Tryd.prog 9 #[.agg #[.bool a0_0, .slice A0_1 l0_1.length c0_1], .string a1] w fun e w' => e = .returned (.bool r) ∧ Below w.heap.size w w' := by
  have HTAB := zMk ht_
  clear ht_
  have HRT := zMk hr_
  clear hr_
  have hu24 := Tryd.underlying24
  have HR0_1 := zMk hr0_1
  have HC0_1 := zMk hc0_1
  clear hr0_1 hc0_1
  have HB := zMk (Below.refl w.heap.size w)
  have H : (if (l0_1.length : Int) > 50 then (filigreelaw02_IntegerBack.j0 k a1 true a0_0 l0_1) else (filigreelaw02_IntegerBack.j0 k a1 (decide ((a1.size : Int) > 500)) a0_0 l0_1)) = some r := h
  clear h
  have HC3 := zMk H
  clear H
  go_enter Tryd.func9, Tryd.ntmps9
  go_upto_region 1 with (first |  ((with_reducible refine gate_dst (N := 2) rfl ?_); (try (refine gate_guard (by rfl) ?_; dsimp only)); refine box_event ?hg (N := 2) ?hd (cs := #[.bool a0_0, .slice A0_1 l0_1.length c0_1]) (t := 24) ?hr ?_; (case hd => rfl); (case hg => rfl); (case hr => first |  (go_simp; done)|  (go_simp; rfl)|  (go_simp; rw [show ∀ x : Int, IntKind.u32.wrap (IntKind.u8.wrap x) = x % 256 from fun x => (by show (x % 256) % 4294967296 = x % 256; omega)])); intro gb468 hg w4 hbox hb; have BK468 := zMk (hbox); have GW468 := zMk ((by rw [hg]; exact (zBs (by exact uT HB.out)) : w.heap.size ≤ gb468)); have GE468 := zMk ((by rw [hg]; exact (zBs (by exact uT HB.out)) : w.heap.size ≤ gb468)); have IGE468 := ownGe GE468.out; replace HB := zMk (zBt (by exact uT HB.out) hb); clear hb hbox hg))
  (try simp only [Act.put, zSa, zSb, zSc])
  go_cut [17] (fun v17 wc => ∃ (kq : Nat) (x17_2 : Bool), v17 = .bool x17_2 ∧ Aside0 (filigreelaw02_IntegerBack.j0 kq a1 x17_2 a0_0 l0_1 = some r) ∧ Aside0 (kq ≤ k) ∧ Aside0 (wc.heap[gb468]? = some (.cells #[.bool a0_0, (.slice A0_1 l0_1.length c0_1)] 24 (0, 0))) ∧ Aside0 (Below w.heap.size w wc))
  case first =>
    have H := HC3.out
    clear HC3
    by_cases c5 : (l0_1.length : Int) > 50
    · rw [if_pos c5] at H
      have c5b0 : decide (50 < (l0_1.length : Int)) = true := decide_eq_true c5
      have c5b1 : decide (50 < l0_1.length) = true := decide_eq_true (by omega)
      clear c5
      (first | rw [c5b0] | (simp only [i64_w, i32_w]; rw [c5b0]) | rw [c5b1] | skip)
      have H' := zMk H
      clear H
      have hcz6_0 : w4.cell? ⟨gb468, 0, none⟩ = some (.bool a0_0) := (zKc BK468.out 0).trans rfl
      have hcz6_1 : w4.cell? ⟨gb468, 1, none⟩ = some (.slice A0_1 l0_1.length c0_1) := (zKc BK468.out 1).trans rfl
      have hfz6_0 := zKf BK468.out 0
      have hfz6_1 := zKf BK468.out 1
      go_wp2
      go_meet
      case rel => exact ⟨_, (true), (by first | rfl | (simp; done) | (simp [*]; done)), H', ⟨by first | omega | exact Nat.le_refl _⟩, ⟨by (with_reducible repeat (first | refine zKn ?_ _ | refine zKd ?_ | refine zKa ?_ _)); exact BK468.out⟩, ⟨by exact uT HB.out⟩⟩
    · rw [if_neg c5] at H
      have c5b0 : decide (50 < (l0_1.length : Int)) = false := decide_eq_false c5
      have c5b1 : decide (50 < l0_1.length) = false := decide_eq_false (by omega)
      clear c5
      (first | rw [c5b0] | (simp only [i64_w, i32_w]; rw [c5b0]) | rw [c5b1] | skip)
      have H' := zMk H
      clear H
      have hcz7_0 : w4.cell? ⟨gb468, 0, none⟩ = some (.bool a0_0) := (zKc BK468.out 0).trans rfl
      have hcz7_1 : w4.cell? ⟨gb468, 1, none⟩ = some (.slice A0_1 l0_1.length c0_1) := (zKc BK468.out 1).trans rfl
      have hfz7_0 := zKf BK468.out 0
      have hfz7_1 := zKf BK468.out 1
      go_wp2
      go_meet
      case rel => exact ⟨_, (decide ((a1.size : Int) > 500)), (by first | rfl | (simp; done) | (simp [*]; done)), H', ⟨by first | omega | exact Nat.le_refl _⟩, ⟨by (with_reducible repeat (first | refine zKn ?_ _ | refine zKd ?_ | refine zKa ?_ _)); exact BK468.out⟩, ⟨by exact uT HB.out⟩⟩
  case rest =>
    clear HC3
    obtain ⟨kq, x17_2, rfl, HA, HJ2, BK468, HB⟩ := hcut
    rcases kq with _ | kj2
    · exact absurd HA.out (by simp [filigreelaw02_IntegerBack.j0])
    have H := HA.out
    clear HA
    simp only [filigreelaw02_IntegerBack.j0] at H
    by_cases c8 : x17_2 = true
    · subst c8
      have H1 : ((filigreelaw02_alive.f kj2).bind fun t469 => (some t469)) = some r := by rw [if_pos rfl] at H; exact H
      clear H
      have H := H1
      clear H1
      replace H := bnd H
      obtain ⟨t469, A90, H⟩ := H
      have A9 := zMk A90
      clear A90
      obtain rfl := zOi H
      go_wp2_with (first |  ((with_reducible refine gate_callee (f := 11) rfl ?_); refine goesL_ (some 18) rfl rfl Tryd.func11 (by kernel_rfl) rfl #[] rfl (by (try simp only [zMa, zMc, zMn]); first |  done|  rfl|  (simp only [zLd, zLt]; rfl)) ?_; (with_reducible refine (filigreelaw02_alive.calls kj2  t469 _ (Tabs.stays HTAB.out (by exact uT HB.out)) A9.out HRT.out).mono ?_); rintro e w10 ⟨rfl, hb⟩; refine ⟨_, rfl, ?_⟩; replace BK468 := zMk (zKb (g := gb468) (o := .cells #[.bool a0_0, .slice A0_1 l0_1.length c0_1] 24 (0, 0)) (by (with_reducible repeat (first |  refine zKn ?_ _|  refine zKd ?_|  refine zKa ?_ _)); exact BK468.out) hb); replace HB := zMk (zBt (by exact uT HB.out) hb); (try clear hb); (try clear hb2); (try clear hk); (try clear hi)))
      go_ret
      exact ⟨by first | rfl | (simp [errW_none, errW_some] <;> rfl) | (simp [*, errW_none, errW_some] <;> rfl), by exact uT HB.out⟩
    · replace c8 := Bool.eq_false_iff.mpr c8
      subst c8
      have H1 : ((integer_Text.f kj2 a0_0 l0_1).bind fun t470 => ((integer_Parse.f kj2 t470).bind fun bt471 => (if bt471.2.2 = 0 then ((filigreeref02_Norm.f kj2 a0_0 l0_1).bind fun bt477 => ((filigreeref02_Same.f kj2 bt471.1 bt471.2.1 bt477.1 bt477.2).bind fun t481 => (filigreelaw02_IntegerBack.j1 kj2 a1 (!t481)))) else (filigreelaw02_IntegerBack.j1 kj2 a1 true)))) = some r := by rw [if_neg (show ¬ (false = true) by decide)] at H; exact H
      clear H
      have H := H1
      clear H1
      replace H := bnd H
      obtain ⟨t470, A110, H⟩ := H
      have A11 := zMk A110
      clear A110
      replace H := bnd H
      obtain ⟨⟨t471, t472, t475⟩, A120, H⟩ := H
      replace H : (if t475 = 0 then ((filigreeref02_Norm.f kj2 a0_0 l0_1).bind fun bt477 => ((filigreeref02_Same.f kj2 t471 t472 bt477.1 bt477.2).bind fun t481 => (filigreelaw02_IntegerBack.j1 kj2 a1 (!t481)))) else (filigreelaw02_IntegerBack.j1 kj2 a1 true)) = some r := H
      have A12 := zMk A120
      clear A120
      have HC13 := zMk H
      clear H
      have hcz14_0 : wc.cell? ⟨gb468, 0, none⟩ = some (.bool a0_0) := (zKc BK468.out 0).trans rfl
      have hcz14_1 : wc.cell? ⟨gb468, 1, none⟩ = some (.slice A0_1 l0_1.length c0_1) := (zKc BK468.out 1).trans rfl
      have hfz14_0 := zKf BK468.out 0
      have hfz14_1 := zKf BK468.out 1
      go_upto_region 4 with (first |  ((with_reducible refine gate_callee (f := 29) rfl ?_); refine goesL_ (some 21) rfl rfl Tryd.func29 (by kernel_rfl) rfl #[.agg #[.bool a0_0, .slice A0_1 l0_1.length c0_1]] rfl (by (try simp only [zMa, zMc, zMn]); first |  done|  rfl|  (simp only [zLd, zLt]; rfl)) ?_; (with_reducible refine (integer_Text.calls kj2 a0_0 _ _ l0_1 t470 _ ?side1 ?side2 (Tabs.stays HTAB.out (by exact uT HB.out)) A11.out).mono ?_); (case side1 => repeat (first |  exact (Kd.C_below HR0_1.out HB.out)|  (with_reducible refine zCa ?_ _)|  (with_reducible refine zCn ?_ _)|  (with_reducible refine zCd ?_))); (case side2 => exact HC0_1.out); rintro e w15 ⟨rfl, hb⟩; refine ⟨_, rfl, ?_⟩; replace BK468 := zMk (zKb (g := gb468) (o := .cells #[.bool a0_0, .slice A0_1 l0_1.length c0_1] 24 (0, 0)) (by (with_reducible repeat (first |  refine zKn ?_ _|  refine zKd ?_|  refine zKa ?_ _)); exact BK468.out) hb); replace HB := zMk (zBt (by exact uT HB.out) hb); (try clear hb); (try clear hb2); (try clear hk); (try clear hi))|  ((with_reducible refine gate_callee (f := 27) rfl ?_); refine goesL_ (some 22) rfl rfl Tryd.func27 (by kernel_rfl) rfl #[.string t470] rfl (by (try simp only [zMa, zMc, zMn]); first |  done|  rfl|  (simp only [zLd, zLt]; rfl)) ?_; (with_reducible refine (integer_Parse.calls kj2 t470 t471 t472 t475 _ A12.out).mono ?_); rintro e w16 ⟨v473, rfl, ho0, hb⟩; refine ⟨_, rfl, ?_⟩; have HO474 := zMk (zRl ho0 (zBs (by exact uT HB.out))); replace BK468 := zMk (zKb (g := gb468) (o := .cells #[.bool a0_0, .slice A0_1 l0_1.length c0_1] 24 (0, 0)) (by (with_reducible repeat (first |  refine zKn ?_ _|  refine zKd ?_|  refine zKa ?_ _)); exact BK468.out) hb); replace HB := zMk (zBt (by exact uT HB.out) hb); (try clear hb); (try clear hb2); (try clear hk); (try clear hi); (try clear ho0))|  ((with_reducible refine gate_dst (N := 5) rfl ?_); (try (refine gate_guard (by rfl) ?_; dsimp only)); refine box_event ?hg (N := 5) ?hd (cs := #[.bool false, .slice none 0 0]) (t := 24) ?hr ?_; (case hd => rfl); (case hg => rfl); (case hr => first |  (go_simp; done)|  (go_simp; rfl)|  (go_simp; rw [show ∀ x : Int, IntKind.u32.wrap (IntKind.u8.wrap x) = x % 256 from fun x => (by show (x % 256) % 4294967296 = x % 256; omega)])); intro gb476 hg w17 hbox hb; replace HO474 := zMk (zRb (by exact uR HO474.out) hb); have BK476 := zMk (hbox); have GW476 := zMk ((by rw [hg]; exact (zBs (by exact uT HB.out)) : w.heap.size ≤ gb476)); have GE476 := zMk ((by rw [hg]; exact (zBs (by exact uT HB.out)) : w.heap.size ≤ gb476)); have IGE476 := ownGe GE476.out; replace HB := zMk (zBt (by exact uT HB.out) hb); have NB468_476 := zMk ((by rw [hg]; exact Nat.ne_of_lt (blk_lt (g := gb468) (o := .cells #[.bool a0_0, .slice A0_1 l0_1.length c0_1] 24 (0, 0)) (by (with_reducible repeat (first |  refine zKn ?_ _|  refine zKd ?_|  refine zKa ?_ _)); exact BK468.out)) : gb468 ≠ gb476)); have NB476_468 := zMk ((by rw [hg]; exact Nat.ne_of_gt (blk_lt (g := gb468) (o := .cells #[.bool a0_0, .slice A0_1 l0_1.length c0_1] 24 (0, 0)) (by (with_reducible repeat (first |  refine zKn ?_ _|  refine zKd ?_|  refine zKa ?_ _)); exact BK468.out)) : gb476 ≠ gb468)); replace BK468 := zMk (zKb (g := gb468) (o := .cells #[.bool a0_0, .slice A0_1 l0_1.length c0_1] 24 (0, 0)) (by (with_reducible repeat (first |  refine zKn ?_ _|  refine zKd ?_|  refine zKa ?_ _)); exact BK468.out) hb); clear hb hbox hg; have hnb18 := NB476_468.out; have hnc18 := NB468_476.out; have hcz19_0 : w17.cell? ⟨gb476, 0, none⟩ = some (.bool false) := (zKc BK476.out 0).trans rfl; have hcz19_1 : w17.cell? ⟨gb476, 1, none⟩ = some (.slice none 0 0) := (zKc BK476.out 1).trans rfl; have hfz19_0 := zKf BK476.out 0; have hfz19_1 := zKf BK476.out 1; obtain ⟨Ao20, co20, eo20⟩ := zRs HO474.out; subst eo20))
      (try simp only [Act.put, zSa, zSb, zSc])
      go_cut [33] (fun v33 wc => ∃ (kq : Nat) (x33_12 : Bool), v33 = .bool x33_12 ∧ Aside0 (filigreelaw02_IntegerBack.j1 kq a1 x33_12 = some r) ∧ Aside0 (kq ≤ kj2) ∧ Aside0 (Kd.R (Kd.int .u32) 58 wc w.heap.size (fun _ => True) (.slice Ao20 t472.length co20) t472) ∧ Aside0 (wc.heap[gb468]? = some (.cells #[.bool a0_0, (.slice A0_1 l0_1.length c0_1)] 24 (0, 0))) ∧ Aside0 (wc.heap[gb476]? = some (.cells #[.bool t471, (.slice Ao20 t472.length co20)] 24 (0, 0))) ∧ Aside0 (Below w.heap.size w wc))
      case first =>
        have H := HC13.out
        clear HC13
        by_cases c21 : t475 = 0
        · rw [if_pos c21] at H
          have c21b0 : (t475 == 0) = true := beq_iff_eq.mpr c21
          have c21b1 : (t475 != 0) = false := bne_eq_false_iff_eq.mpr c21
          clear c21
          (first | rw [c21b0] | (simp only [i64_w, i32_w]; rw [c21b0]) | rw [c21b1] | skip)
          replace H := bnd H
          obtain ⟨⟨t477, t478⟩, A220, H⟩ := H
          replace H : ((filigreeref02_Same.f kj2 t471 t472 t477 t478).bind fun t481 => (filigreelaw02_IntegerBack.j1 kj2 a1 (!t481))) = some r := H
          have A22 := zMk A220
          clear A220
          replace H := bnd H
          obtain ⟨t481, A230, H⟩ := H
          have A23 := zMk A230
          clear A230
          have H' := zMk H
          clear H
          try go_wp2
          have n0_ : Aside0 (Kd.R (Kd.int .u32) 58 ((w17.setCell ⟨gb476, 0, none⟩ (.bool t471)).setCell ⟨gb476, 1, none⟩ (.slice Ao20 t472.length co20)) w.heap.size (fun _ => True) (.slice Ao20 t472.length co20) t472) := ⟨by (with_reducible repeat (first |  apply zRa|  apply zRn|  apply zRd)); exact zRm (Kd.R_far (p := ⟨gb476, 1, none⟩) (Kd.R_far (p := ⟨gb476, 0, none⟩) (Kd.R_types HO474.out BK476.out (by decide)) (fun _ hk => hk.2) (.bool t471)) (fun _ hk => hk.2) (.slice Ao20 t472.length co20)) (fun _ hk => trivial)⟩
          have n1_ : Aside0 (((w17.setCell ⟨gb476, 0, none⟩ (.bool t471)).setCell ⟨gb476, 1, none⟩ (.slice Ao20 t472.length co20)).heap[gb468]? = some (.cells #[.bool a0_0, .slice A0_1 l0_1.length c0_1] 24 (0, 0))) := ⟨by (with_reducible repeat (first | refine zKn ?_ _ | refine zKd ?_ | refine zKa ?_ _)); refine blk_far ?_ NB468_476.out _; (with_reducible repeat (first | refine zKn ?_ _ | refine zKd ?_ | refine zKa ?_ _)); refine blk_far ?_ NB468_476.out _; (with_reducible repeat (first | refine zKn ?_ _ | refine zKd ?_ | refine zKa ?_ _)); exact BK468.out⟩
          have n2_ : Aside0 (((w17.setCell ⟨gb476, 0, none⟩ (.bool t471)).setCell ⟨gb476, 1, none⟩ (.slice Ao20 t472.length co20)).heap[gb476]? = some (.cells #[.bool t471, .slice Ao20 t472.length co20] 24 (0, 0))) := ⟨by (with_reducible repeat (first | refine zKn ?_ _ | refine zKd ?_ | refine zKa ?_ _)); refine blk_put (cs := #[.bool t471, .slice none 0 0]) ?_ 1 _ rfl; (with_reducible repeat (first | refine zKn ?_ _ | refine zKd ?_ | refine zKa ?_ _)); refine blk_put (cs := #[.bool false, .slice none 0 0]) ?_ 0 _ rfl; (with_reducible repeat (first | refine zKn ?_ _ | refine zKd ?_ | refine zKa ?_ _)); exact BK476.out⟩
          have n3_ : Aside0 (Below w.heap.size w ((w17.setCell ⟨gb476, 0, none⟩ (.bool t471)).setCell ⟨gb476, 1, none⟩ (.slice Ao20 t472.length co20))) := ⟨by exact uT HB.out⟩
          (try clear HO474)
          (try clear BK468)
          (try clear BK476)
          (try clear HB)
          generalize ((w17.setCell ⟨gb476, 0, none⟩ (.bool t471)).setCell ⟨gb476, 1, none⟩ (.slice Ao20 t472.length co20)) = w24 at n0_ n1_ n2_ n3_ ⊢
          have HO474 := n0_
          have BK468 := n1_
          have BK476 := n2_
          have HB := n3_
          clear n0_ n1_ n2_ n3_
          replace HO474 := zMk (zRd HO474.out)
          replace BK468 := zMk (zKd BK468.out)
          replace BK476 := zMk (zKd BK476.out)
          replace HB := zMk (zBd HB.out)
          refine start_ (n := 9) (S := fun w' => w'.cell? ⟨gb476, 0, none⟩ = some (.bool t471) ∧ w'.cell? ⟨gb476, 1, none⟩ = some (.slice Ao20 t472.length co20) ∧ w'.cell? ⟨gb468, 0, none⟩ = some (.bool a0_0) ∧ w'.cell? ⟨gb468, 1, none⟩ = some (.slice A0_1 l0_1.length c0_1)) (ds := []) #[false, false, false, false, false, false, false, false, false] (by kernel_rfl) rfl rfl ⟨(zKc BK476.out 0).trans rfl, (zKc BK476.out 1).trans rfl, (zKc BK468.out 0).trans rfl, (zKc BK468.out 1).trans rfl⟩ (fun hHeld => ?_); refine with_tabW filigreelaw02_IntegerBack.tab4 filigreelaw02_IntegerBack.bits4 (fun HT_ HW_ => ?_)
          generalize w24.drew = w25 at HO474 BK468 BK476 HB hHeld ⊢
          refine pure_ (i := 0) (N := some 25) (v := ?_) (a' := ?_) #[true, false, false, false, false, false, false, false, false] rfl rfl (any_of HT_.out (by kernel_rfl)) (fun _ _ _ h => h) (Or.inl ⟨by rfl, ?_⟩) ?_ ?_
          rotate_left
          · intro w'
            go_simp
            with_reducible rfl
          rotate_left
          · simp only [Act.put, zSa, zSb, zSc, i64_w, i32_w]
            rfl
          refine pure_ (i := 1) (N := some 26) (v := ?_) (a' := ?_) #[true, true, false, false, false, false, false, false, false] rfl rfl (any_of HT_.out (by kernel_rfl)) (fun _ _ _ h => h) (Or.inl ⟨by rfl, ?_⟩) ?_ ?_
          rotate_left
          · intro w'
            go_simp
            with_reducible rfl
          rotate_left
          · simp only [Act.put, zSa, zSb, zSc, i64_w, i32_w]
            rfl
          refine pure_ (i := 2) (N := some 27) (v := ?_) (a' := ?_) #[true, true, true, false, false, false, false, false, false] rfl rfl (any_of HT_.out (by kernel_rfl)) (fun _ _ _ h => h) (Or.inl ⟨by rfl, ?_⟩) ?_ ?_
          rotate_left
          · intro w'
            go_simp
            with_reducible rfl
          rotate_left
          · simp only [Act.put, zSa, zSb, zSc, i64_w, i32_w]
            rfl
          refine take_ (i := 3) (N := some 28) (v := ?_) (a' := ?_) #[true, true, true, true, false, false, false, false, false] rfl rfl (take_ofW HT_.out HW_.out (by kernel_rfl)) (fun _ _ _ h => h) (Or.inl ⟨by rfl, ?_⟩) hHeld ?_ ?_
          rotate_left
          · rintro w' ⟨s0, s1, s2, s3⟩
            go_simp
            with_reducible rfl
          rotate_left
          · simp only [Act.put, zSa, zSb, zSc, i64_w, i32_w]
            rfl
          refine take_ (i := 4) (N := some 29) (v := ?_) (a' := ?_) #[true, true, true, true, true, false, false, false, false] rfl rfl (take_ofW HT_.out HW_.out (by kernel_rfl)) (fun _ _ _ h => h) (Or.inl ⟨by rfl, ?_⟩) hHeld ?_ ?_
          rotate_left
          · rintro w' ⟨s0, s1, s2, s3⟩
            go_simp
            with_reducible rfl
          rotate_left
          · simp only [Act.put, zSa, zSb, zSc, i64_w, i32_w]
            rfl
          refine one_ (i := 5) (N := some 30) #[true, true, true, true, true, true, false, false, false] rfl rfl (one_of HT_.out (by kernel_rfl)) (by decide) (fun K hK => ?_)
          refine goes_ Tryd.func24 (by kernel_rfl) rfl #[.agg #[.bool a0_0, .slice A0_1 l0_1.length c0_1]] (by rfl) rfl rfl (by (try simp only [zMa, zMc, zMn]); first | done | rfl | (simp only [zLd, zLt]; rfl)) ?_
          with_reducible refine (filigreeref02_Norm.calls kj2 a0_0 _ _ l0_1 t477 t478 _ ?side1 ?side2 A22.out).mono ?_
          (case side1 => repeat (first | exact (Kd.C_below HR0_1.out HB.out) | (with_reducible refine zCa ?_ _) | (with_reducible refine zCn ?_ _) | (with_reducible refine zCd ?_)))
          (case side2 => exact HC0_1.out)
          rintro e w26 ⟨v479, rfl, ho0, hb⟩
          refine ⟨_, rfl, ?_⟩
          have HO480 := zMk (zRl (zRw ho0 (zRt (by exact uR HO474.out))) (zBs (by exact uT HB.out)))
          replace HO474 := zMk (zRe (by exact uR HO474.out) (zRz ho0) hb)
          replace BK468 := zMk (zKb (g := gb468) (o := .cells #[.bool a0_0, .slice A0_1 l0_1.length c0_1] 24 (0, 0)) (by (with_reducible repeat (first | refine zKn ?_ _ | refine zKd ?_ | refine zKa ?_ _)); exact BK468.out) hb)
          replace BK476 := zMk (zKb (g := gb476) (o := .cells #[.bool t471, .slice Ao20 t472.length co20] 24 (0, 0)) (by (with_reducible repeat (first | refine zKn ?_ _ | refine zKd ?_ | refine zKa ?_ _)); exact BK476.out) hb)
          replace HB := zMk (zBt (by exact uT HB.out) hb)
          (try clear hb)
          (try clear hb2)
          (try clear hk)
          (try clear hi)
          (try clear ho0)
          obtain ⟨Ao27, co27, eo27⟩ := zRs HO480.out
          (first |  subst eo27|  (injection eo27 with f1_ f2_ f3_; have f4_ := f1_.symm; have f5_ := f3_.symm; clear f1_ f2_ f3_; subst f4_; subst f5_))
          refine hK.out _ _ ⟨(zKc BK476.out 0).trans rfl, (zKc BK476.out 1).trans rfl, (zKc BK468.out 0).trans rfl, (zKc BK468.out 1).trans rfl⟩ (fun hHeld => ?_)
          clear hK K
          refine norm_ (a' := ?_) ?_ ?_
          rotate_left
          · show Act.put _ (some 30) _ = _
            simp only [Act.put, zSa, zSb, zSc, i64_w, i32_w]
            rfl
          refine one_ (i := 6) (N := some 31) #[true, true, true, true, true, true, true, false, false] rfl rfl (one_of HT_.out (by kernel_rfl)) (by decide) (fun K hK => ?_)
          refine goes_ Tryd.func16 (by kernel_rfl) rfl #[.agg #[.bool t471, .slice Ao20 t472.length co20], .agg #[.bool t477, .slice Ao27 t478.length co27]] (by rfl) rfl rfl (by (try simp only [zMa, zMc, zMn]); first | done | rfl | (simp only [zLd, zLt]; rfl)) ?_
          with_reducible refine (filigreeref02_Same.calls kj2 t471 _ _ t472 t477 _ _ t478 t481 _ ?side1 ?side2 ?side3 ?side4 A23.out).mono ?_
          (case side1 => exact uC (zRr HO474.out).2.2)
          (case side2 => exact (zRr HO474.out).2.1)
          (case side3 => exact uC (zRr HO480.out).2.2)
          (case side4 => exact (zRr HO480.out).2.1)
          rintro e w28 ⟨rfl, hb⟩
          refine ⟨_, rfl, ?_⟩
          replace HO474 := zMk (zRb (by exact uR HO474.out) hb)
          replace HO480 := zMk (zRb (by exact uR HO480.out) hb)
          replace BK468 := zMk (zKb (g := gb468) (o := .cells #[.bool a0_0, .slice A0_1 l0_1.length c0_1] 24 (0, 0)) (by (with_reducible repeat (first | refine zKn ?_ _ | refine zKd ?_ | refine zKa ?_ _)); exact BK468.out) hb)
          replace BK476 := zMk (zKb (g := gb476) (o := .cells #[.bool t471, .slice Ao20 t472.length co20] 24 (0, 0)) (by (with_reducible repeat (first | refine zKn ?_ _ | refine zKd ?_ | refine zKa ?_ _)); exact BK476.out) hb)
          replace HB := zMk (zBt (by exact uT HB.out) hb)
          (try clear hb)
          (try clear hb2)
          (try clear hk)
          (try clear hi)
          refine hK.out _ _ ⟨(zKc BK476.out 0).trans rfl, (zKc BK476.out 1).trans rfl, (zKc BK468.out 0).trans rfl, (zKc BK468.out 1).trans rfl⟩ (fun hHeld => ?_)
          clear hK K
          refine norm_ (a' := ?_) ?_ ?_
          rotate_left
          · show Act.put _ (some 31) _ = _
            simp only [Act.put, zSa, zSb, zSc, i64_w, i32_w]
            rfl
          refine pure_ (i := 7) (N := some 32) (v := ?_) (a' := ?_) #[true, true, true, true, true, true, true, true, false] rfl rfl (any_of HT_.out (by kernel_rfl)) (fun _ _ _ h => h) (Or.inl ⟨by rfl, ?_⟩) ?_ ?_
          rotate_left
          · intro w'
            go_simp
            with_reducible rfl
          rotate_left
          · simp only [Act.put, zSa, zSb, zSc, i64_w, i32_w]
            rfl
          refine pure_ (i := 8) (N := some 33) (v := ?_) (a' := ?_) #[true, true, true, true, true, true, true, true, true] rfl rfl (any_of HT_.out (by kernel_rfl)) (fun _ _ _ h => h) (Or.inl ⟨by rfl, ?_⟩) ?_ ?_
          rotate_left
          · intro w'
            go_simp
            with_reducible rfl
          rotate_left
          · simp only [Act.put, zSa, zSb, zSc, i64_w, i32_w]
            rfl
          refine done_ (done_of HT_.out (by kernel_rfl)) ?_
          try go_wp2
          go_meet
          case rel => exact ⟨_, (!t481), (by first | rfl | (simp; done) | (simp [*]; done)), H', ⟨by have := HJ2.out; first | omega | exact Nat.le_refl _⟩, ⟨by (with_reducible repeat (first | apply zRa | apply zRn | apply zRd)); exact zRm HO474.out (fun _ hk => trivial)⟩, ⟨by (with_reducible repeat (first | refine zKn ?_ _ | refine zKd ?_ | refine zKa ?_ _)); exact BK468.out⟩, ⟨by (with_reducible repeat (first | refine zKn ?_ _ | refine zKd ?_ | refine zKa ?_ _)); exact BK476.out⟩, ⟨by exact uT HB.out⟩⟩
        · rw [if_neg c21] at H
          have c21b0 : (t475 == 0) = false := beq_eq_false_iff_ne.mpr c21
          have c21b1 : (t475 != 0) = true := bne_iff_ne.mpr c21
          (first | rw [c21b0] | (simp only [i64_w, i32_w]; rw [c21b0]) | rw [c21b1] | skip)
          have H' := zMk H
          clear H
          try go_wp2
          have n0_ : Aside0 (Kd.R (Kd.int .u32) 58 ((w17.setCell ⟨gb476, 0, none⟩ (.bool t471)).setCell ⟨gb476, 1, none⟩ (.slice Ao20 t472.length co20)) w.heap.size (fun _ => True) (.slice Ao20 t472.length co20) t472) := ⟨by (with_reducible repeat (first |  apply zRa|  apply zRn|  apply zRd)); exact zRm (Kd.R_far (p := ⟨gb476, 1, none⟩) (Kd.R_far (p := ⟨gb476, 0, none⟩) (Kd.R_types HO474.out BK476.out (by decide)) (fun _ hk => hk.2) (.bool t471)) (fun _ hk => hk.2) (.slice Ao20 t472.length co20)) (fun _ hk => trivial)⟩
          have n1_ : Aside0 (((w17.setCell ⟨gb476, 0, none⟩ (.bool t471)).setCell ⟨gb476, 1, none⟩ (.slice Ao20 t472.length co20)).heap[gb468]? = some (.cells #[.bool a0_0, .slice A0_1 l0_1.length c0_1] 24 (0, 0))) := ⟨by (with_reducible repeat (first | refine zKn ?_ _ | refine zKd ?_ | refine zKa ?_ _)); refine blk_far ?_ NB468_476.out _; (with_reducible repeat (first | refine zKn ?_ _ | refine zKd ?_ | refine zKa ?_ _)); refine blk_far ?_ NB468_476.out _; (with_reducible repeat (first | refine zKn ?_ _ | refine zKd ?_ | refine zKa ?_ _)); exact BK468.out⟩
          have n2_ : Aside0 (((w17.setCell ⟨gb476, 0, none⟩ (.bool t471)).setCell ⟨gb476, 1, none⟩ (.slice Ao20 t472.length co20)).heap[gb476]? = some (.cells #[.bool t471, .slice Ao20 t472.length co20] 24 (0, 0))) := ⟨by (with_reducible repeat (first | refine zKn ?_ _ | refine zKd ?_ | refine zKa ?_ _)); refine blk_put (cs := #[.bool t471, .slice none 0 0]) ?_ 1 _ rfl; (with_reducible repeat (first | refine zKn ?_ _ | refine zKd ?_ | refine zKa ?_ _)); refine blk_put (cs := #[.bool false, .slice none 0 0]) ?_ 0 _ rfl; (with_reducible repeat (first | refine zKn ?_ _ | refine zKd ?_ | refine zKa ?_ _)); exact BK476.out⟩
          have n3_ : Aside0 (Below w.heap.size w ((w17.setCell ⟨gb476, 0, none⟩ (.bool t471)).setCell ⟨gb476, 1, none⟩ (.slice Ao20 t472.length co20))) := ⟨by exact uT HB.out⟩
          (try clear HO474)
          (try clear BK468)
          (try clear BK476)
          (try clear HB)
          generalize ((w17.setCell ⟨gb476, 0, none⟩ (.bool t471)).setCell ⟨gb476, 1, none⟩ (.slice Ao20 t472.length co20)) = w29 at n0_ n1_ n2_ n3_ ⊢
          have HO474 := n0_
          have BK468 := n1_
          have BK476 := n2_
          have HB := n3_
          clear n0_ n1_ n2_ n3_
          replace HO474 := zMk (zRd HO474.out)
          replace BK468 := zMk (zKd BK468.out)
          replace BK476 := zMk (zKd BK476.out)
          replace HB := zMk (zBd HB.out)
          refine start_ (n := 9) (S := fun w' => True) (ds := []) #[false, false, false, false, false, false, false, false, false] (by kernel_rfl) rfl rfl trivial (fun hHeld => ?_); refine with_tabW filigreelaw02_IntegerBack.tab4 filigreelaw02_IntegerBack.bits4 (fun HT_ HW_ => ?_)
          generalize w29.drew = w30 at HO474 BK468 BK476 HB hHeld ⊢
          refine pure_ (i := 0) (N := some 25) (v := ?_) (a' := ?_) #[true, false, false, false, false, false, false, false, false] rfl rfl (any_of HT_.out (by kernel_rfl)) (fun _ _ _ h => h) (Or.inl ⟨by rfl, ?_⟩) ?_ ?_
          rotate_left
          · intro w'
            go_simp
            with_reducible rfl
          rotate_left
          · simp only [Act.put, zSa, zSb, zSc, i64_w, i32_w]
            rfl
          refine pure_ (i := 1) (N := some 26) (v := ?_) (a' := ?_) #[true, true, false, false, false, false, false, false, false] rfl rfl (any_of HT_.out (by kernel_rfl)) (fun _ _ _ h => h) (Or.inl ⟨by rfl, ?_⟩) ?_ ?_
          rotate_left
          · intro w'
            go_simp
            with_reducible rfl
          rotate_left
          · simp only [Act.put, zSa, zSb, zSc, i64_w, i32_w]
            rfl
          refine pure_ (i := 2) (N := some 27) (v := ?_) (a' := ?_) #[true, true, true, false, false, false, false, false, false] rfl rfl (any_of HT_.out (by kernel_rfl)) (fun _ _ _ h => h) (Or.inl ⟨by rfl, ?_⟩) ?_ ?_
          rotate_left
          · intro w'
            go_simp
            with_reducible rfl
          rotate_left
          · simp only [Act.put, zSa, zSb, zSc, i64_w, i32_w]
            rfl
          refine pure_ (i := 3) (N := some 28) (v := undef) (a' := ?_) #[true, true, true, true, false, false, false, false, false] rfl rfl (any_of HT_.out (by kernel_rfl)) (fun _ _ _ h => h) (Or.inr ⟨by rfl, rfl⟩) ?_ ?_
          rotate_left
          · simp only [Act.put, zSa, zSb, zSc, i64_w, i32_w]
            rfl
          refine pure_ (i := 4) (N := some 29) (v := undef) (a' := ?_) #[true, true, true, true, true, false, false, false, false] rfl rfl (any_of HT_.out (by kernel_rfl)) (fun _ _ _ h => h) (Or.inr ⟨by rfl, rfl⟩) ?_ ?_
          rotate_left
          · simp only [Act.put, zSa, zSb, zSc, i64_w, i32_w]
            rfl
          refine pure_ (i := 5) (N := some 30) (v := undef) (a' := ?_) #[true, true, true, true, true, true, false, false, false] rfl rfl (any_of HT_.out (by kernel_rfl)) (fun _ _ _ h => h) (Or.inr ⟨by rfl, rfl⟩) ?_ ?_
          rotate_left
          · simp only [Act.put, zSa, zSb, zSc, i64_w, i32_w]
            rfl
          refine pure_ (i := 6) (N := some 31) (v := undef) (a' := ?_) #[true, true, true, true, true, true, true, false, false] rfl rfl (any_of HT_.out (by kernel_rfl)) (fun _ _ _ h => h) (Or.inr ⟨by rfl, rfl⟩) ?_ ?_
          rotate_left
          · simp only [Act.put, zSa, zSb, zSc, i64_w, i32_w]
            rfl
          refine pure_ (i := 7) (N := some 32) (v := undef) (a' := ?_) #[true, true, true, true, true, true, true, true, false] rfl rfl (any_of HT_.out (by kernel_rfl)) (fun _ _ _ h => h) (Or.inr ⟨by rfl, rfl⟩) ?_ ?_
          rotate_left
          · simp only [Act.put, zSa, zSb, zSc, i64_w, i32_w]
            rfl
          refine pure_ (i := 8) (N := some 33) (v := ?_) (a' := ?_) #[true, true, true, true, true, true, true, true, true] rfl rfl (any_of HT_.out (by kernel_rfl)) (fun _ _ _ h => h) (Or.inl ⟨by rfl, ?_⟩) ?_ ?_
          rotate_left
          · intro w'
            go_simp
            with_reducible rfl
          rotate_left
          · simp only [Act.put, zSa, zSb, zSc, i64_w, i32_w]
            rfl
          refine done_ (done_of HT_.out (by kernel_rfl)) ?_
          try go_wp2
          go_meet
          case rel => exact ⟨_, (true), (by first | rfl | (simp; done) | (simp [*]; done)), H', ⟨by have := HJ2.out; first | omega | exact Nat.le_refl _⟩, ⟨by exact uR HO474.out⟩, ⟨by (with_reducible repeat (first | refine zKn ?_ _ | refine zKd ?_ | refine zKa ?_ _)); exact BK468.out⟩, ⟨by (with_reducible repeat (first | refine zKn ?_ _ | refine zKd ?_ | refine zKa ?_ _)); exact BK476.out⟩, ⟨by exact uT HB.out⟩⟩
      case rest =>
        clear HC13
        obtain ⟨kq, x33_12, rfl, HA, HJ12, HO_477001, BK468, BK476, HB⟩ := hcut
        rcases kq with _ | kj12
        · exact absurd HA.out (by simp [filigreelaw02_IntegerBack.j1])
        have H := HA.out
        clear HA
        simp only [filigreelaw02_IntegerBack.j1] at H
        by_cases c31 : x33_12 = true
        · subst c31
          have H1 : (some false) = some r := by rw [if_pos rfl] at H; exact H
          clear H
          have H := H1
          clear H1
          exact absurd ((zOi H).trans HRT.out) (by decide)
        · replace c31 := Bool.eq_false_iff.mpr c31
          subst c31
          have H1 : ((integer_Parse.f kj12 a1).bind fun bt482 => (if bt482.2.2 = 0 then ((integer_Text.f kj12 bt482.1 bt482.2.1).bind fun t488 => (if t488.toList = a1.toList then ((filigreelaw02_alive.f kj12).bind fun t489 => (some t489)) else (some false))) else ((filigreelaw02_alive.f kj12).bind fun t490 => (some t490)))) = some r := by rw [if_neg (show ¬ (false = true) by decide)] at H; exact H
          clear H
          have H := H1
          clear H1
          replace H := bnd H
          obtain ⟨⟨t482, t483, t486⟩, A320, H⟩ := H
          replace H : (if t486 = 0 then ((integer_Text.f kj12 t482 t483).bind fun t488 => (if t488.toList = a1.toList then ((filigreelaw02_alive.f kj12).bind fun t489 => (some t489)) else (some false))) else ((filigreelaw02_alive.f kj12).bind fun t490 => (some t490))) = some r := H
          have A32 := zMk A320
          clear A320
          by_cases c33 : t486 = 0
          · rw [if_pos c33] at H
            have c33b0 : (t486 == 0) = true := beq_iff_eq.mpr c33
            have c33b1 : (t486 != 0) = false := bne_eq_false_iff_eq.mpr c33
            clear c33
            replace H := bnd H
            obtain ⟨t488, A340, H⟩ := H
            have A34 := zMk A340
            clear A340
            by_cases c35 : t488.toList = a1.toList
            · rw [if_pos c35] at H
              have c35b0 : (t488.toList == a1.toList) = true := beq_iff_eq.mpr c35
              have c35b1 : (t488.toList != a1.toList) = false := bne_eq_false_iff_eq.mpr c35
              clear c35
              replace H := bnd H
              obtain ⟨t489, A360, H⟩ := H
              have A36 := zMk A360
              clear A360
              obtain rfl := zOi H
              go_wp2_with (first |  ((with_reducible refine gate_callee (f := 27) rfl ?_); refine goesL_ (some 36) rfl rfl Tryd.func27 (by kernel_rfl) rfl #[.string a1] rfl (by (try simp only [zMa, zMc, zMn]); first |  done|  rfl|  (simp only [zLd, zLt]; rfl)) ?_; (with_reducible refine (integer_Parse.calls kj12 a1 t482 t483 t486 _ A32.out).mono ?_); rintro e w37 ⟨v484, rfl, ho0, hb⟩; refine ⟨_, rfl, ?_⟩; have HO485 := zMk (zRl (zRw ho0 (zRt (by exact uR HO_477001.out))) (zBs (by exact uT HB.out))); replace HO_477001 := zMk (zRe (by exact uR HO_477001.out) (zRz ho0) hb); replace BK468 := zMk (zKb (g := gb468) (o := .cells #[.bool a0_0, .slice A0_1 l0_1.length c0_1] 24 (0, 0)) (by (with_reducible repeat (first |  refine zKn ?_ _|  refine zKd ?_|  refine zKa ?_ _)); exact BK468.out) hb); replace BK476 := zMk (zKb (g := gb476) (o := .cells #[.bool t471, .slice Ao20 t472.length co20] 24 (0, 0)) (by (with_reducible repeat (first |  refine zKn ?_ _|  refine zKd ?_|  refine zKa ?_ _)); exact BK476.out) hb); replace HB := zMk (zBt (by exact uT HB.out) hb); (try clear hb); (try clear hb2); (try clear hk); (try clear hi); (try clear ho0))|  ((with_reducible refine gate_dst (N := 7) rfl ?_); (try (refine gate_guard (by rfl) ?_; dsimp only)); refine box_event ?hg (N := 7) ?hd (cs := #[.bool false, .slice none 0 0]) (t := 24) ?hr ?_; (case hd => rfl); (case hg => rfl); (case hr => first |  (go_simp; done)|  (go_simp; rfl)|  (go_simp; rw [show ∀ x : Int, IntKind.u32.wrap (IntKind.u8.wrap x) = x % 256 from fun x => (by show (x % 256) % 4294967296 = x % 256; omega)])); intro gb487 hg w38 hbox hb; replace HO_477001 := zMk (zRb (by exact uR HO_477001.out) hb); replace HO485 := zMk (zRb (by exact uR HO485.out) hb); have BK487 := zMk (hbox); have GW487 := zMk ((by rw [hg]; exact (zBs (by exact uT HB.out)) : w.heap.size ≤ gb487)); have GE487 := zMk ((by rw [hg]; exact (zBs (by exact uT HB.out)) : w.heap.size ≤ gb487)); have IGE487 := ownGe GE487.out; replace HB := zMk (zBt (by exact uT HB.out) hb); have NB468_487 := zMk ((by rw [hg]; exact Nat.ne_of_lt (blk_lt (g := gb468) (o := .cells #[.bool a0_0, .slice A0_1 l0_1.length c0_1] 24 (0, 0)) (by (with_reducible repeat (first |  refine zKn ?_ _|  refine zKd ?_|  refine zKa ?_ _)); exact BK468.out)) : gb468 ≠ gb487)); have NB487_468 := zMk ((by rw [hg]; exact Nat.ne_of_gt (blk_lt (g := gb468) (o := .cells #[.bool a0_0, .slice A0_1 l0_1.length c0_1] 24 (0, 0)) (by (with_reducible repeat (first |  refine zKn ?_ _|  refine zKd ?_|  refine zKa ?_ _)); exact BK468.out)) : gb487 ≠ gb468)); replace BK468 := zMk (zKb (g := gb468) (o := .cells #[.bool a0_0, .slice A0_1 l0_1.length c0_1] 24 (0, 0)) (by (with_reducible repeat (first |  refine zKn ?_ _|  refine zKd ?_|  refine zKa ?_ _)); exact BK468.out) hb); have NB476_487 := zMk ((by rw [hg]; exact Nat.ne_of_lt (blk_lt (g := gb476) (o := .cells #[.bool t471, .slice Ao20 t472.length co20] 24 (0, 0)) (by (with_reducible repeat (first |  refine zKn ?_ _|  refine zKd ?_|  refine zKa ?_ _)); exact BK476.out)) : gb476 ≠ gb487)); have NB487_476 := zMk ((by rw [hg]; exact Nat.ne_of_gt (blk_lt (g := gb476) (o := .cells #[.bool t471, .slice Ao20 t472.length co20] 24 (0, 0)) (by (with_reducible repeat (first |  refine zKn ?_ _|  refine zKd ?_|  refine zKa ?_ _)); exact BK476.out)) : gb487 ≠ gb476)); replace BK476 := zMk (zKb (g := gb476) (o := .cells #[.bool t471, .slice Ao20 t472.length co20] 24 (0, 0)) (by (with_reducible repeat (first |  refine zKn ?_ _|  refine zKd ?_|  refine zKa ?_ _)); exact BK476.out) hb); clear hb hbox hg; have hnb39 := NB487_468.out; have hnc39 := NB468_487.out; have hnb40 := NB487_476.out; have hnc40 := NB476_487.out; have hcz41_0 : w38.cell? ⟨gb487, 0, none⟩ = some (.bool false) := (zKc BK487.out 0).trans rfl; have hcz41_1 : w38.cell? ⟨gb487, 1, none⟩ = some (.slice none 0 0) := (zKc BK487.out 1).trans rfl; have hfz41_0 := zKf BK487.out 0; have hfz41_1 := zKf BK487.out 1; obtain ⟨Ao42, co42, eo42⟩ := zRs HO485.out; subst eo42)|  (go_at_call 29; (with_reducible refine (integer_Text.calls kj12 t482 _ _ t483 t488 _ ?side1 ?side2 (Tabs.stays HTAB.out (by exact uT HB.out)) A34.out).mono ?_); (case side1 => refine (zRr (e := 58) (base := w.heap.size) (ok := fun k_ => (True ∧ some k_ ≠ (.slice Ao20 t472.length co20 : Value).ownBlock)) (n := t483.length) (c := co42) ?_).2.2; exact (by (with_reducible repeat (first |  apply zRa|  apply zRn|  apply zRd)); exact (zRm (Kd.R_far (p := ⟨gb487, 1, none⟩) (Kd.R_far (p := ⟨gb487, 0, none⟩) (Kd.R_types HO485.out BK487.out (by decide)) (fun _ hk => hk.2) (.bool t482)) (fun _ hk => hk.2) (.slice Ao42 t483.length co42)) (fun _ h_ => h_.1)))); (case side2 => exact (zRr HO485.out).2.1); rintro e w43 ⟨rfl, hb⟩; replace HO_477001 := zMk (zRb (by (with_reducible repeat (first |  apply zRa|  apply zRn|  apply zRd)); exact (zRm (Kd.R_far (p := ⟨gb487, 1, none⟩) (Kd.R_far (p := ⟨gb487, 0, none⟩) (Kd.R_types HO_477001.out BK487.out (by decide)) (fun _ hk => hk.2) (.bool t482)) (fun _ hk => hk.2) (.slice Ao42 t483.length co42)) (fun _ h_ => h_.1))) hb); replace HO485 := zMk (zRb (by (with_reducible repeat (first |  apply zRa|  apply zRn|  apply zRd)); exact (zRm (Kd.R_far (p := ⟨gb487, 1, none⟩) (Kd.R_far (p := ⟨gb487, 0, none⟩) (Kd.R_types HO485.out BK487.out (by decide)) (fun _ hk => hk.2) (.bool t482)) (fun _ hk => hk.2) (.slice Ao42 t483.length co42)) (fun _ h_ => h_.1))) hb); replace BK468 := zMk (zKb (g := gb468) (o := .cells #[.bool a0_0, .slice A0_1 l0_1.length c0_1] 24 (0, 0)) (by (with_reducible repeat (first |  refine zKn ?_ _|  refine zKd ?_|  refine zKa ?_ _)); refine blk_far ?_ NB468_487.out _; (with_reducible repeat (first |  refine zKn ?_ _|  refine zKd ?_|  refine zKa ?_ _)); refine blk_far ?_ NB468_487.out _; (with_reducible repeat (first |  refine zKn ?_ _|  refine zKd ?_|  refine zKa ?_ _)); exact BK468.out) hb); replace BK476 := zMk (zKb (g := gb476) (o := .cells #[.bool t471, .slice Ao20 t472.length co20] 24 (0, 0)) (by (with_reducible repeat (first |  refine zKn ?_ _|  refine zKd ?_|  refine zKa ?_ _)); refine blk_far ?_ NB476_487.out _; (with_reducible repeat (first |  refine zKn ?_ _|  refine zKd ?_|  refine zKa ?_ _)); refine blk_far ?_ NB476_487.out _; (with_reducible repeat (first |  refine zKn ?_ _|  refine zKd ?_|  refine zKa ?_ _)); exact BK476.out) hb); replace BK487 := zMk (zKb (g := gb487) (o := .cells #[.bool t482, .slice Ao42 t483.length co42] 24 (0, 0)) (by (with_reducible repeat (first |  refine zKn ?_ _|  refine zKd ?_|  refine zKa ?_ _)); refine blk_put (cs := #[.bool t482, .slice none 0 0]) ?_ 1 _ rfl; (with_reducible repeat (first |  refine zKn ?_ _|  refine zKd ?_|  refine zKa ?_ _)); refine blk_put (cs := #[.bool false, .slice none 0 0]) ?_ 0 _ rfl; (with_reducible repeat (first |  refine zKn ?_ _|  refine zKd ?_|  refine zKa ?_ _)); exact BK487.out) hb); replace HB := zMk (zBt (by exact uT HB.out) hb); (try clear hb); (try clear hb2); (try clear hk); (try clear hi))|  (go_at_call 11; (with_reducible refine (filigreelaw02_alive.calls kj12  t489 _ (Tabs.stays HTAB.out (by exact uT HB.out)) A36.out HRT.out).mono ?_); rintro e w44 ⟨rfl, hb⟩; replace HO_477001 := zMk (zRb (by exact uR HO_477001.out) hb); replace HO485 := zMk (zRb (by exact uR HO485.out) hb); replace BK468 := zMk (zKb (g := gb468) (o := .cells #[.bool a0_0, .slice A0_1 l0_1.length c0_1] 24 (0, 0)) (by (with_reducible repeat (first |  refine zKn ?_ _|  refine zKd ?_|  refine zKa ?_ _)); exact BK468.out) hb); replace BK476 := zMk (zKb (g := gb476) (o := .cells #[.bool t471, .slice Ao20 t472.length co20] 24 (0, 0)) (by (with_reducible repeat (first |  refine zKn ?_ _|  refine zKd ?_|  refine zKa ?_ _)); exact BK476.out) hb); replace BK487 := zMk (zKb (g := gb487) (o := .cells #[.bool t482, .slice Ao42 t483.length co42] 24 (0, 0)) (by (with_reducible repeat (first |  refine zKn ?_ _|  refine zKd ?_|  refine zKa ?_ _)); exact BK487.out) hb); replace HB := zMk (zBt (by exact uT HB.out) hb); (try clear hb); (try clear hb2); (try clear hk); (try clear hi)))
              go_ret
              exact ⟨by first | rfl | (simp [errW_none, errW_some] <;> rfl) | (simp [*, errW_none, errW_some] <;> rfl), by exact uT HB.out⟩
            · rw [if_neg c35] at H
              have c35b0 : (t488.toList == a1.toList) = false := beq_eq_false_iff_ne.mpr c35
              have c35b1 : (t488.toList != a1.toList) = true := bne_iff_ne.mpr c35
              obtain rfl := zOi H
              go_wp2_with (first |  ((with_reducible refine gate_callee (f := 27) rfl ?_); refine goesL_ (some 36) rfl rfl Tryd.func27 (by kernel_rfl) rfl #[.string a1] rfl (by (try simp only [zMa, zMc, zMn]); first |  done|  rfl|  (simp only [zLd, zLt]; rfl)) ?_; (with_reducible refine (integer_Parse.calls kj12 a1 t482 t483 t486 _ A32.out).mono ?_); rintro e w45 ⟨v484, rfl, ho0, hb⟩; refine ⟨_, rfl, ?_⟩; have HO485 := zMk (zRl (zRw ho0 (zRt (by exact uR HO_477001.out))) (zBs (by exact uT HB.out))); replace HO_477001 := zMk (zRe (by exact uR HO_477001.out) (zRz ho0) hb); replace BK468 := zMk (zKb (g := gb468) (o := .cells #[.bool a0_0, .slice A0_1 l0_1.length c0_1] 24 (0, 0)) (by (with_reducible repeat (first |  refine zKn ?_ _|  refine zKd ?_|  refine zKa ?_ _)); exact BK468.out) hb); replace BK476 := zMk (zKb (g := gb476) (o := .cells #[.bool t471, .slice Ao20 t472.length co20] 24 (0, 0)) (by (with_reducible repeat (first |  refine zKn ?_ _|  refine zKd ?_|  refine zKa ?_ _)); exact BK476.out) hb); replace HB := zMk (zBt (by exact uT HB.out) hb); (try clear hb); (try clear hb2); (try clear hk); (try clear hi); (try clear ho0))|  ((with_reducible refine gate_dst (N := 7) rfl ?_); (try (refine gate_guard (by rfl) ?_; dsimp only)); refine box_event ?hg (N := 7) ?hd (cs := #[.bool false, .slice none 0 0]) (t := 24) ?hr ?_; (case hd => rfl); (case hg => rfl); (case hr => first |  (go_simp; done)|  (go_simp; rfl)|  (go_simp; rw [show ∀ x : Int, IntKind.u32.wrap (IntKind.u8.wrap x) = x % 256 from fun x => (by show (x % 256) % 4294967296 = x % 256; omega)])); intro gb487 hg w46 hbox hb; replace HO_477001 := zMk (zRb (by exact uR HO_477001.out) hb); replace HO485 := zMk (zRb (by exact uR HO485.out) hb); have BK487 := zMk (hbox); have GW487 := zMk ((by rw [hg]; exact (zBs (by exact uT HB.out)) : w.heap.size ≤ gb487)); have GE487 := zMk ((by rw [hg]; exact (zBs (by exact uT HB.out)) : w.heap.size ≤ gb487)); have IGE487 := ownGe GE487.out; replace HB := zMk (zBt (by exact uT HB.out) hb); have NB468_487 := zMk ((by rw [hg]; exact Nat.ne_of_lt (blk_lt (g := gb468) (o := .cells #[.bool a0_0, .slice A0_1 l0_1.length c0_1] 24 (0, 0)) (by (with_reducible repeat (first |  refine zKn ?_ _|  refine zKd ?_|  refine zKa ?_ _)); exact BK468.out)) : gb468 ≠ gb487)); have NB487_468 := zMk ((by rw [hg]; exact Nat.ne_of_gt (blk_lt (g := gb468) (o := .cells #[.bool a0_0, .slice A0_1 l0_1.length c0_1] 24 (0, 0)) (by (with_reducible repeat (first |  refine zKn ?_ _|  refine zKd ?_|  refine zKa ?_ _)); exact BK468.out)) : gb487 ≠ gb468)); replace BK468 := zMk (zKb (g := gb468) (o := .cells #[.bool a0_0, .slice A0_1 l0_1.length c0_1] 24 (0, 0)) (by (with_reducible repeat (first |  refine zKn ?_ _|  refine zKd ?_|  refine zKa ?_ _)); exact BK468.out) hb); have NB476_487 := zMk ((by rw [hg]; exact Nat.ne_of_lt (blk_lt (g := gb476) (o := .cells #[.bool t471, .slice Ao20 t472.length co20] 24 (0, 0)) (by (with_reducible repeat (first |  refine zKn ?_ _|  refine zKd ?_|  refine zKa ?_ _)); exact BK476.out)) : gb476 ≠ gb487)); have NB487_476 := zMk ((by rw [hg]; exact Nat.ne_of_gt (blk_lt (g := gb476) (o := .cells #[.bool t471, .slice Ao20 t472.length co20] 24 (0, 0)) (by (with_reducible repeat (first |  refine zKn ?_ _|  refine zKd ?_|  refine zKa ?_ _)); exact BK476.out)) : gb487 ≠ gb476)); replace BK476 := zMk (zKb (g := gb476) (o := .cells #[.bool t471, .slice Ao20 t472.length co20] 24 (0, 0)) (by (with_reducible repeat (first |  refine zKn ?_ _|  refine zKd ?_|  refine zKa ?_ _)); exact BK476.out) hb); clear hb hbox hg; have hnb47 := NB487_468.out; have hnc47 := NB468_487.out; have hnb48 := NB487_476.out; have hnc48 := NB476_487.out; have hcz49_0 : w46.cell? ⟨gb487, 0, none⟩ = some (.bool false) := (zKc BK487.out 0).trans rfl; have hcz49_1 : w46.cell? ⟨gb487, 1, none⟩ = some (.slice none 0 0) := (zKc BK487.out 1).trans rfl; have hfz49_0 := zKf BK487.out 0; have hfz49_1 := zKf BK487.out 1; obtain ⟨Ao50, co50, eo50⟩ := zRs HO485.out; subst eo50)|  (go_at_call 29; (with_reducible refine (integer_Text.calls kj12 t482 _ _ t483 t488 _ ?side1 ?side2 (Tabs.stays HTAB.out (by exact uT HB.out)) A34.out).mono ?_); (case side1 => refine (zRr (e := 58) (base := w.heap.size) (ok := fun k_ => (True ∧ some k_ ≠ (.slice Ao20 t472.length co20 : Value).ownBlock)) (n := t483.length) (c := co50) ?_).2.2; exact (by (with_reducible repeat (first |  apply zRa|  apply zRn|  apply zRd)); exact (zRm (Kd.R_far (p := ⟨gb487, 1, none⟩) (Kd.R_far (p := ⟨gb487, 0, none⟩) (Kd.R_types HO485.out BK487.out (by decide)) (fun _ hk => hk.2) (.bool t482)) (fun _ hk => hk.2) (.slice Ao50 t483.length co50)) (fun _ h_ => h_.1)))); (case side2 => exact (zRr HO485.out).2.1); rintro e w51 ⟨rfl, hb⟩; replace HO_477001 := zMk (zRb (by (with_reducible repeat (first |  apply zRa|  apply zRn|  apply zRd)); exact (zRm (Kd.R_far (p := ⟨gb487, 1, none⟩) (Kd.R_far (p := ⟨gb487, 0, none⟩) (Kd.R_types HO_477001.out BK487.out (by decide)) (fun _ hk => hk.2) (.bool t482)) (fun _ hk => hk.2) (.slice Ao50 t483.length co50)) (fun _ h_ => h_.1))) hb); replace HO485 := zMk (zRb (by (with_reducible repeat (first |  apply zRa|  apply zRn|  apply zRd)); exact (zRm (Kd.R_far (p := ⟨gb487, 1, none⟩) (Kd.R_far (p := ⟨gb487, 0, none⟩) (Kd.R_types HO485.out BK487.out (by decide)) (fun _ hk => hk.2) (.bool t482)) (fun _ hk => hk.2) (.slice Ao50 t483.length co50)) (fun _ h_ => h_.1))) hb); replace BK468 := zMk (zKb (g := gb468) (o := .cells #[.bool a0_0, .slice A0_1 l0_1.length c0_1] 24 (0, 0)) (by (with_reducible repeat (first |  refine zKn ?_ _|  refine zKd ?_|  refine zKa ?_ _)); refine blk_far ?_ NB468_487.out _; (with_reducible repeat (first |  refine zKn ?_ _|  refine zKd ?_|  refine zKa ?_ _)); refine blk_far ?_ NB468_487.out _; (with_reducible repeat (first |  refine zKn ?_ _|  refine zKd ?_|  refine zKa ?_ _)); exact BK468.out) hb); replace BK476 := zMk (zKb (g := gb476) (o := .cells #[.bool t471, .slice Ao20 t472.length co20] 24 (0, 0)) (by (with_reducible repeat (first |  refine zKn ?_ _|  refine zKd ?_|  refine zKa ?_ _)); refine blk_far ?_ NB476_487.out _; (with_reducible repeat (first |  refine zKn ?_ _|  refine zKd ?_|  refine zKa ?_ _)); refine blk_far ?_ NB476_487.out _; (with_reducible repeat (first |  refine zKn ?_ _|  refine zKd ?_|  refine zKa ?_ _)); exact BK476.out) hb); replace BK487 := zMk (zKb (g := gb487) (o := .cells #[.bool t482, .slice Ao50 t483.length co50] 24 (0, 0)) (by (with_reducible repeat (first |  refine zKn ?_ _|  refine zKd ?_|  refine zKa ?_ _)); refine blk_put (cs := #[.bool t482, .slice none 0 0]) ?_ 1 _ rfl; (with_reducible repeat (first |  refine zKn ?_ _|  refine zKd ?_|  refine zKa ?_ _)); refine blk_put (cs := #[.bool false, .slice none 0 0]) ?_ 0 _ rfl; (with_reducible repeat (first |  refine zKn ?_ _|  refine zKd ?_|  refine zKa ?_ _)); exact BK487.out) hb); replace HB := zMk (zBt (by exact uT HB.out) hb); (try clear hb); (try clear hb2); (try clear hk); (try clear hi)))
              go_ret
              exact ⟨by first | rfl | (simp [errW_none, errW_some] <;> rfl) | (simp [*, errW_none, errW_some] <;> rfl), by exact uT HB.out⟩
          · rw [if_neg c33] at H
            have c33b0 : (t486 == 0) = false := beq_eq_false_iff_ne.mpr c33
            have c33b1 : (t486 != 0) = true := bne_iff_ne.mpr c33
            replace H := bnd H
            obtain ⟨t490, A520, H⟩ := H
            have A52 := zMk A520
            clear A520
            obtain rfl := zOi H
            go_wp2_with (first |  ((with_reducible refine gate_callee (f := 27) rfl ?_); refine goesL_ (some 36) rfl rfl Tryd.func27 (by kernel_rfl) rfl #[.string a1] rfl (by (try simp only [zMa, zMc, zMn]); first |  done|  rfl|  (simp only [zLd, zLt]; rfl)) ?_; (with_reducible refine (integer_Parse.calls kj12 a1 t482 t483 t486 _ A32.out).mono ?_); rintro e w53 ⟨v484, rfl, ho0, hb⟩; refine ⟨_, rfl, ?_⟩; have HO485 := zMk (zRl (zRw ho0 (zRt (by exact uR HO_477001.out))) (zBs (by exact uT HB.out))); replace HO_477001 := zMk (zRe (by exact uR HO_477001.out) (zRz ho0) hb); replace BK468 := zMk (zKb (g := gb468) (o := .cells #[.bool a0_0, .slice A0_1 l0_1.length c0_1] 24 (0, 0)) (by (with_reducible repeat (first |  refine zKn ?_ _|  refine zKd ?_|  refine zKa ?_ _)); exact BK468.out) hb); replace BK476 := zMk (zKb (g := gb476) (o := .cells #[.bool t471, .slice Ao20 t472.length co20] 24 (0, 0)) (by (with_reducible repeat (first |  refine zKn ?_ _|  refine zKd ?_|  refine zKa ?_ _)); exact BK476.out) hb); replace HB := zMk (zBt (by exact uT HB.out) hb); (try clear hb); (try clear hb2); (try clear hk); (try clear hi); (try clear ho0))|  ((with_reducible refine gate_dst (N := 7) rfl ?_); (try (refine gate_guard (by rfl) ?_; dsimp only)); refine box_event ?hg (N := 7) ?hd (cs := #[.bool false, .slice none 0 0]) (t := 24) ?hr ?_; (case hd => rfl); (case hg => rfl); (case hr => first |  (go_simp; done)|  (go_simp; rfl)|  (go_simp; rw [show ∀ x : Int, IntKind.u32.wrap (IntKind.u8.wrap x) = x % 256 from fun x => (by show (x % 256) % 4294967296 = x % 256; omega)])); intro gb487 hg w54 hbox hb; replace HO_477001 := zMk (zRb (by exact uR HO_477001.out) hb); replace HO485 := zMk (zRb (by exact uR HO485.out) hb); have BK487 := zMk (hbox); have GW487 := zMk ((by rw [hg]; exact (zBs (by exact uT HB.out)) : w.heap.size ≤ gb487)); have GE487 := zMk ((by rw [hg]; exact (zBs (by exact uT HB.out)) : w.heap.size ≤ gb487)); have IGE487 := ownGe GE487.out; replace HB := zMk (zBt (by exact uT HB.out) hb); have NB468_487 := zMk ((by rw [hg]; exact Nat.ne_of_lt (blk_lt (g := gb468) (o := .cells #[.bool a0_0, .slice A0_1 l0_1.length c0_1] 24 (0, 0)) (by (with_reducible repeat (first |  refine zKn ?_ _|  refine zKd ?_|  refine zKa ?_ _)); exact BK468.out)) : gb468 ≠ gb487)); have NB487_468 := zMk ((by rw [hg]; exact Nat.ne_of_gt (blk_lt (g := gb468) (o := .cells #[.bool a0_0, .slice A0_1 l0_1.length c0_1] 24 (0, 0)) (by (with_reducible repeat (first |  refine zKn ?_ _|  refine zKd ?_|  refine zKa ?_ _)); exact BK468.out)) : gb487 ≠ gb468)); replace BK468 := zMk (zKb (g := gb468) (o := .cells #[.bool a0_0, .slice A0_1 l0_1.length c0_1] 24 (0, 0)) (by (with_reducible repeat (first |  refine zKn ?_ _|  refine zKd ?_|  refine zKa ?_ _)); exact BK468.out) hb); have NB476_487 := zMk ((by rw [hg]; exact Nat.ne_of_lt (blk_lt (g := gb476) (o := .cells #[.bool t471, .slice Ao20 t472.length co20] 24 (0, 0)) (by (with_reducible repeat (first |  refine zKn ?_ _|  refine zKd ?_|  refine zKa ?_ _)); exact BK476.out)) : gb476 ≠ gb487)); have NB487_476 := zMk ((by rw [hg]; exact Nat.ne_of_gt (blk_lt (g := gb476) (o := .cells #[.bool t471, .slice Ao20 t472.length co20] 24 (0, 0)) (by (with_reducible repeat (first |  refine zKn ?_ _|  refine zKd ?_|  refine zKa ?_ _)); exact BK476.out)) : gb487 ≠ gb476)); replace BK476 := zMk (zKb (g := gb476) (o := .cells #[.bool t471, .slice Ao20 t472.length co20] 24 (0, 0)) (by (with_reducible repeat (first |  refine zKn ?_ _|  refine zKd ?_|  refine zKa ?_ _)); exact BK476.out) hb); clear hb hbox hg; have hnb55 := NB487_468.out; have hnc55 := NB468_487.out; have hnb56 := NB487_476.out; have hnc56 := NB476_487.out; have hcz57_0 : w54.cell? ⟨gb487, 0, none⟩ = some (.bool false) := (zKc BK487.out 0).trans rfl; have hcz57_1 : w54.cell? ⟨gb487, 1, none⟩ = some (.slice none 0 0) := (zKc BK487.out 1).trans rfl; have hfz57_0 := zKf BK487.out 0; have hfz57_1 := zKf BK487.out 1; obtain ⟨Ao58, co58, eo58⟩ := zRs HO485.out; subst eo58)|  (go_at_call 11; (with_reducible refine (filigreelaw02_alive.calls kj12  t490 _ (Tabs.stays HTAB.out (by exact uT HB.out)) A52.out HRT.out).mono ?_); rintro e w59 ⟨rfl, hb⟩; replace HO_477001 := zMk (zRb (by (with_reducible repeat (first |  apply zRa|  apply zRn|  apply zRd)); exact (zRm (Kd.R_far (p := ⟨gb487, 1, none⟩) (Kd.R_far (p := ⟨gb487, 0, none⟩) (Kd.R_types HO_477001.out BK487.out (by decide)) (fun _ hk => hk.2) (.bool t482)) (fun _ hk => hk.2) (.slice Ao58 t483.length co58)) (fun _ h_ => h_.1))) hb); replace HO485 := zMk (zRb (by (with_reducible repeat (first |  apply zRa|  apply zRn|  apply zRd)); exact (zRm (Kd.R_far (p := ⟨gb487, 1, none⟩) (Kd.R_far (p := ⟨gb487, 0, none⟩) (Kd.R_types HO485.out BK487.out (by decide)) (fun _ hk => hk.2) (.bool t482)) (fun _ hk => hk.2) (.slice Ao58 t483.length co58)) (fun _ h_ => h_.1))) hb); replace BK468 := zMk (zKb (g := gb468) (o := .cells #[.bool a0_0, .slice A0_1 l0_1.length c0_1] 24 (0, 0)) (by (with_reducible repeat (first |  refine zKn ?_ _|  refine zKd ?_|  refine zKa ?_ _)); refine blk_far ?_ NB468_487.out _; (with_reducible repeat (first |  refine zKn ?_ _|  refine zKd ?_|  refine zKa ?_ _)); refine blk_far ?_ NB468_487.out _; (with_reducible repeat (first |  refine zKn ?_ _|  refine zKd ?_|  refine zKa ?_ _)); exact BK468.out) hb); replace BK476 := zMk (zKb (g := gb476) (o := .cells #[.bool t471, .slice Ao20 t472.length co20] 24 (0, 0)) (by (with_reducible repeat (first |  refine zKn ?_ _|  refine zKd ?_|  refine zKa ?_ _)); refine blk_far ?_ NB476_487.out _; (with_reducible repeat (first |  refine zKn ?_ _|  refine zKd ?_|  refine zKa ?_ _)); refine blk_far ?_ NB476_487.out _; (with_reducible repeat (first |  refine zKn ?_ _|  refine zKd ?_|  refine zKa ?_ _)); exact BK476.out) hb); replace BK487 := zMk (zKb (g := gb487) (o := .cells #[.bool t482, .slice Ao58 t483.length co58] 24 (0, 0)) (by (with_reducible repeat (first |  refine zKn ?_ _|  refine zKd ?_|  refine zKa ?_ _)); refine blk_put (cs := #[.bool t482, .slice none 0 0]) ?_ 1 _ rfl; (with_reducible repeat (first |  refine zKn ?_ _|  refine zKd ?_|  refine zKa ?_ _)); refine blk_put (cs := #[.bool false, .slice none 0 0]) ?_ 0 _ rfl; (with_reducible repeat (first |  refine zKn ?_ _|  refine zKd ?_|  refine zKa ?_ _)); exact BK487.out) hb); replace HB := zMk (zBt (by exact uT HB.out) hb); (try clear hb); (try clear hb2); (try clear hk); (try clear hi)))
            go_ret
            exact ⟨by first | rfl | (simp [errW_none, errW_some] <;> rfl) | (simp [*, errW_none, errW_some] <;> rfl), by exact uT HB.out⟩

def filigreelaw02_IntegerBack.Pure : Prop := ∀ (a0_0 : Bool) (l0_1 : List Int) (a1 : ByteArray), l0_1.length ≤ maxLen → (∀ x ∈ l0_1, (Lit.int .u32 x).wf = true) → a1.size ≤ 140737488351232 → ∃ k, filigreelaw02_IntegerBack.f k a0_0 l0_1 a1 = some true
section
open Go.Lib
theorem alive_at2 : filigreelaw02_alive.f 999998 = some true := by kernel_rfl
theorem pure_IntegerBack : filigreelaw02_IntegerBack.Pure := by
  intro a x s m1 h1 ms
  have X := limbs_of_wf h1
  obtain ⟨k, hk⟩ : ∃ k : Nat, k = 999998 := ⟨_, rfl⟩
  refine ⟨k + 2, ?_⟩
  unfold filigreelaw02_IntegerBack.f
  have away : filigreelaw02_IntegerBack.j0 (k + 2) s true a x = some true := by
    simp only [filigreelaw02_IntegerBack.j0, if_true]
    rw [alive_f (k + 1) (by omega)]
    rfl
  by_cases c1 : (x.length : Int) > 50
  · rw [if_pos c1]
    exact away
  · rw [if_neg c1]
    by_cases c2 : (s.size : Int) > 500
    · rw [decide_eq_true c2]
      exact away
    · rw [decide_eq_false c2]
      simp only [filigreelaw02_IntegerBack.j0, Bool.false_eq_true, if_false]
      have hx0 := val_nonneg X
      have hd := digits_le_small X (by omega)
      have hil : (bytesOf (itext (sg a (val x)))).size ≤ 6000 := by
        rw [bytesOf_size]
        unfold itext
        rw [natAbs_sg a hx0]
        split
        · simp; omega
        · omega
      rw [itext_f a x X (by omega) (k + 1) (by omega), zOb]
      obtain ⟨h2, h3⟩ := inum_itext (sg a (val x))
      obtain ⟨p, q, e1, i1, l1⟩ := (iparse_f (bytesOf (itext (sg a (val x)))) hil (k + 1) (by omega)).1 (by rw [bytesOf_list]; exact h2)
      rw [bytesOf_list, h3] at i1
      obtain ⟨p2, q2, e2, i2, l2⟩ := rnorm_int a x X (by omega) (k + 1) (by omega)
      obtain ⟨rfl, rfl⟩ := i1.unique i2
      rw [e1, zOb, if_pos rfl, e2, zOb, isame_f p q (by omega) (k + 1) (by omega), zOb]
      simp only [filigreelaw02_IntegerBack.j1, Bool.not_true, Bool.false_eq_true, if_false]
      have al : filigreelaw02_alive.f k = some true := by rw [hk]; exact alive_at2
      have hsz := size_list s
      have pr := iparse_f s (by omega) k (by omega)
      by_cases hn : INum s.data.toList
      · obtain ⟨y, z, e3, i3, l3⟩ := pr.1 hn
        have hzl : z.length ≤ 501 := by
          refine len_of_lt i3.num (Int.lt_of_lt_of_le (?_ : _ < (10 : Int) ^ (bare s.data.toList).1.length) (Int.le_trans (pow10_B _) (pow_upB (by have := bare_len s.data.toList; omega))))
          have h := dv_lt (bare s.data.toList).1 (bare s.data.toList).1.length (fun j hj => getD_digit.2 hn.1.2.1 j (by omega) hj) (Nat.le_refl _)
          rw [List.take_length] at h
          have h4 : ((ival s.data.toList).natAbs) = dv (bare s.data.toList).1 := by unfold ival; rw [natAbs_sg _ (by omega)]; omega
          rw [h4]
          have h5 : ((dv (bare s.data.toList).1 : Nat) : Int) < ((10 ^ (bare s.data.toList).1.length : Nat) : Int) := Int.ofNat_lt.2 h
          rw [Int.natCast_pow] at h5
          exact h5
        rw [e3, zOb, if_pos rfl, itext_f y z i3.num.limbs (by omega) k (by omega), zOb, i3.sg, itext_ival hn]
        rw [if_pos (show (bytesOf s.data.toList).toList = s.toList from rfl), al]
        rfl
      · rw [pr.2 hn, zOb, if_neg (by decide), al]
        rfl
end
end Go.Proofs.YtnjmnicgknggfaaDoor.E
