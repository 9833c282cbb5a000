/- Lemmas for the statement: the walks of the functions that it reaches, and plain laws. -/
import Derived.Test.YteicpdkembmilaaG1
import Derived.Test.YteicpdkembmilaaG2
set_option linter.unusedVariables false
set_option linter.unusedSimpArgs false
namespace Go.Proofs.Yteicpdkembmilaa.A
open Go Go.RowKit Go.Proofs.YteicpdkembmilaaW.PrintWords Go.Proofs.YteicpdkembmilaaW.PrintLast Go.Proofs.YteicpdkembmilaaW.PrintMore
attribute [local go_sem] max2_int min2_int max_two min_two max_three min_three max_four min_four
open Go.Proofs.YteicpdkembmilaaW.PrintWords.Kd renaming R_alloc → zRa, R_drewN → zRn, R_drew → zRd, V_alloc → zVa, V_drewN → zVn, V_drew → zVd, V_below → zVb, C_alloc → zCa, C_drewN → zCn, C_drew → zCd, R_mono → zRm, V_mono → zVm, at_int → zAi, R_elder' → zRe, R_lower → zRl, R_new' → zRw, R_lt → zRt, R_below → zRb, R_base → zRz, R_reads' → zRr, R_slice → zRs, V_elder' → zVe, V_lower → zVl, V_slice → zVs, V_reads' → zVr
open Go.Proofs.YteicpdkembmilaaW.PrintWords renaming pw_below_drewN → zBn, below_alloc → zBa, below_drew1 → zBd, below_size → zBs, below_step → zBt, blk_drewN → zKn, blk_drew → zKd, blk_alloc → zKa, blk_below → zKb, blk_cell → zKc, blk_frozen → zKf
open List renaming setIfInBounds_toArray → zSa, set_cons_zero → zSb, set_cons_succ → zSc, length_drop → zLd, length_take → zLt, map_toArray → zMa, map_cons → zMc, map_nil → zMn, length_cons → zLc, length_nil → zLn
open Go.Proofs.YteicpdkembmilaaW.PrintWords.Aside0 renaming mk → zMk
open Option renaming bind_eq_some_iff → zBi, bind_some → zOb
open Option.some renaming inj → zOi
open Int renaming toNat_natCast → zTn

attribute [local go_sem high] eqA36
/-! ### filigreelaw04_alive: function 13 -/
def filigreelaw04_alive.f (k : Nat)  : Option (Bool) := (graph_Make.f k 3 (([(⟨2, 0, 0⟩ : S36), (⟨0, 1, 0⟩ : S36)] : List (S36)))).bind fun bt129 => (if bt129.2.2 = 0 then (if (bt129.2.1.length : Int) = 2 then (if 1 < (bt129.2.1.length : Int) then (if (((rd_T36 bt129.2.1 1).f0) == 0 && (((rd_T36 bt129.2.1 1).f1) == 2 && (((rd_T36 bt129.2.1 1).f2) == 0))) = true then ((graph_Right.f k bt129.1 bt129.2.1).bind fun t136 => (if t136 = 0 then ((graph_Find.f k bt129.1 bt129.2.1 2 0).bind fun t137 => (if t137 = 1 then ((graph_Find.f k bt129.1 bt129.2.1 1 2).bind fun t138 => (some (t138 == (-1)))) else (some false))) else (some false))) else (some false)) else (none)) else (some false)) else (some false))
set_option maxHeartbeats 8000000 in
set_option maxRecDepth 100000 in
theorem filigreelaw04_alive.calls (k : Nat)  (r : Bool) (w : World) (h : filigreelaw04_alive.f k  = some r) :
    Calls Try.prog 13 #[] w fun e w' => e = .returned (.bool r) ∧ Below w.heap.size w w' := by
  have hu36 := Try.underlying36
  have hu24 := Try.underlying24
  have HB := zMk (Below.refl w.heap.size w)
  have H : ((graph_Make.f k 3 (([(⟨2, 0, 0⟩ : S36), (⟨0, 1, 0⟩ : S36)] : List (S36)))).bind fun bt129 => (if bt129.2.2 = 0 then (if (bt129.2.1.length : Int) = 2 then (if 1 < (bt129.2.1.length : Int) then (if (((rd_T36 bt129.2.1 1).f0) == 0 && (((rd_T36 bt129.2.1 1).f1) == 2 && (((rd_T36 bt129.2.1 1).f2) == 0))) = true then ((graph_Right.f k bt129.1 bt129.2.1).bind fun t136 => (if t136 = 0 then ((graph_Find.f k bt129.1 bt129.2.1 2 0).bind fun t137 => (if t137 = 1 then ((graph_Find.f k bt129.1 bt129.2.1 1 2).bind fun t138 => (some (t138 == (-1)))) else (some false))) else (some false))) else (some false)) else (none)) else (some false)) else (some false))) = some r := h
  clear h
  obtain ⟨y126, hy126⟩ : ∃ y_ : List (S36), y_ = (([(⟨2, 0, 0⟩ : S36), (⟨0, 1, 0⟩ : S36)] : List (S36))) := ⟨_, rfl⟩
  replace H : ((graph_Make.f k 3 y126).bind fun bt129 => (if bt129.2.2 = 0 then (if (bt129.2.1.length : Int) = 2 then (if 1 < (bt129.2.1.length : Int) then (if (((rd_T36 bt129.2.1 1).f0) == 0 && (((rd_T36 bt129.2.1 1).f1) == 2 && (((rd_T36 bt129.2.1 1).f2) == 0))) = true then ((graph_Right.f k bt129.1 bt129.2.1).bind fun t136 => (if t136 = 0 then ((graph_Find.f k bt129.1 bt129.2.1 2 0).bind fun t137 => (if t137 = 1 then ((graph_Find.f k bt129.1 bt129.2.1 1 2).bind fun t138 => (some (t138 == (-1)))) else (some false))) else (some false))) else (some false)) else (none)) else (some false)) else (some false))) = some r := by first | (rw [hy126]; with_reducible exact H) | (have H2_ := bsm H; first | (rw [hy126]; with_reducible exact H2_) | with_reducible exact H2_) | with_reducible exact H | (rw [hy126]; exact H) | exact H
  have Ny126 := zMk hy126
  clear hy126
  replace H := bnd H
  obtain ⟨⟨t129, t130, t133⟩, A10, H⟩ := H
  replace H : (if t133 = 0 then (if (t130.length : Int) = 2 then (if 1 < (t130.length : Int) then (if (((rd_T36 t130 1).f0) == 0 && (((rd_T36 t130 1).f1) == 2 && (((rd_T36 t130 1).f2) == 0))) = true then ((graph_Right.f k t129 t130).bind fun t136 => (if t136 = 0 then ((graph_Find.f k t129 t130 2 0).bind fun t137 => (if t137 = 1 then ((graph_Find.f k t129 t130 1 2).bind fun t138 => (some (t138 == (-1)))) else (some false))) else (some false))) else (some false)) else (none)) else (some false)) else (some false)) = some r := H
  have A1 := zMk A10
  clear A10
  by_cases c2 : t133 = 0
  · rw [if_pos c2] at H
    have c2b0 : (t133 == 0) = true := beq_iff_eq.mpr c2
    have c2b1 : (t133 != 0) = false := bne_eq_false_iff_eq.mpr c2
    clear c2
    by_cases c3 : (t130.length : Int) = 2
    · rw [if_pos c3] at H
      have c3b0 : ((t130.length : Int) == 2) = true := beq_iff_eq.mpr c3
      have c3b1 : ((t130.length : Int) != 2) = false := bne_eq_false_iff_eq.mpr c3
      clear c3
      by_cases c4 : 1 < (t130.length : Int)
      rotate_left
      · rw [if_neg c4] at H; exact absurd H (by simp)
      rw [if_pos c4] at H
      have c4b0 : decide (1 < (t130.length : Int)) = true := decide_eq_true c4
      have c4b1 : decide (1 < t130.length) = true := decide_eq_true (by omega)
      clear c4
      by_cases c5 : (((rd_T36 t130 1).f0) == 0 && (((rd_T36 t130 1).f1) == 2 && (((rd_T36 t130 1).f2) == 0))) = true
      · rw [if_pos c5] at H
        have c5b0 : (((rd_T36 t130 1).f0) == 0 && (((rd_T36 t130 1).f1) == 2 && (((rd_T36 t130 1).f2) == 0))) = true := c5
        (try (have c5b1 : decide (((rd_T36 t130 1).f0) = 0 && (((rd_T36 t130 1).f1) == 2 && (((rd_T36 t130 1).f2) == 0))) = true := by simpa using c5))
        (try (have c5b2 : (((rd_T36 t130 1).f0) == 0 && (((rd_T36 t130 1).f1) == 2 && (((rd_T36 t130 1).f2) == 0))) = true := by simpa using c5))
        clear c5
        replace H := bnd H
        obtain ⟨t136, A60, H⟩ := H
        have A6 := zMk A60
        clear A60
        by_cases c7 : t136 = 0
        · rw [if_pos c7] at H
          have c7b0 : (t136 == 0) = true := beq_iff_eq.mpr c7
          have c7b1 : (t136 != 0) = false := bne_eq_false_iff_eq.mpr c7
          clear c7
          replace H := bnd H
          obtain ⟨t137, A80, H⟩ := H
          have A8 := zMk A80
          clear A80
          by_cases c9 : t137 = 1
          · rw [if_pos c9] at H
            have c9b0 : (t137 == 1) = true := beq_iff_eq.mpr c9
            have c9b1 : (t137 != 1) = false := bne_eq_false_iff_eq.mpr c9
            clear c9
            replace H := bnd H
            obtain ⟨t138, A100, H⟩ := H
            have A10 := zMk A100
            clear A100
            obtain rfl := zOi H
            go_enter Try.func13, Try.ntmps13
            go_wp2_with (first |  ((with_reducible refine gate_dst (N := 6) rfl ?_); (try (refine gate_guard (by rfl) ?_; dsimp only)); refine Kd.R_lit k36 _ 36 ?hg (N := 6) ?hd (xs := ([(⟨2, 0, 0⟩ : S36), (⟨0, 1, 0⟩ : S36)] : List (S36))) (inner := [.int .i64 2, .int .i64 0, .int .i64 0, .int .i64 0, .int .i64 1, .int .i64 0]) (ok := fun _ => True) (okp := fun _ => True) ?hr ?hp (fun _ hk => hk) trivial (Below.refl _ _) (Nat.le_refl _) (by simp) ?_; (case hd => rfl); (case hg => rfl); (case hr => first |  (go_simp; done)|  (go_simp; rfl)|  (go_simp; rw [show ∀ x : Int, IntKind.u32.wrap (IntKind.u8.wrap x) = x % 256 from fun x => (by show (x % 256) % 4294967296 = x % 256; omega)])); (case hp => exact (Reps.c3 (show Kd.M k36 _ _ _ (⟨2, 0, 0⟩ : S36) [.int .i64 2, .int .i64 0, .int .i64 0] from (k36_mkM _ _ _ (⟨2, 0, 0⟩ : S36) )) (Reps.c3 (show Kd.M k36 _ _ _ (⟨0, 1, 0⟩ : S36) [.int .i64 0, .int .i64 1, .int .i64 0] from (k36_mkM _ _ _ (⟨0, 1, 0⟩ : S36) )) (Reps.none _ _)))); intro v127 w11 ho12 hb hg_ hnew_; clear hg_ hnew_; (first |  rw [← Ny126.out] at ho12|  (simp only [Int.reduceToNat] at ho12; rw [← Ny126.out] at ho12)); have HO128 := zMk (zRl ho12 (zBs (by exact uT HB.out))); replace HB := zMk (zBt (by exact uT HB.out) hb); clear hb ho12; obtain ⟨Ao13, co13, eo13⟩ := zRs HO128.out; subst eo13)|  ((with_reducible refine gate_callee (f := 14) rfl ?_); refine goesL_ (some 7) rfl rfl Try.func14 (by kernel_rfl) rfl #[.int .i64 3, .slice Ao13 y126.length co13] rfl (by (try simp only [zMa, zMc, zMn]); first |  done|  rfl|  (simp only [zLd, zLt]; rfl)) ?_; (with_reducible refine (graph_Make.calls k 3 _ _ y126 t129 t130 t133 _ ?side1 ?side2 A1.out).mono ?_); (case side1 => exact uC (zRr HO128.out).2.2); (case side2 => exact (zRr HO128.out).2.1); rintro e w14 ⟨v131, rfl, ho0, hb⟩; refine ⟨_, rfl, ?_⟩; have HO132 := zMk (zRl (zRw ho0 (zRt (by exact uR HO128.out))) (zBs (by exact uT HB.out))); replace HO128 := zMk (zRe (by exact uR HO128.out) (zRz ho0) hb); replace HB := zMk (zBt (by exact uT HB.out) hb); (try clear hb); (try clear hb2); (try clear hk); (try clear hi); (try clear ho0))|  ((with_reducible refine gate_dst (N := 1) rfl ?_); (try (refine gate_guard (by rfl) ?_; dsimp only)); refine box_event ?hg (N := 1) ?hd (cs := #[.int .i64 0, .slice none 0 0]) (t := 24) ?hr ?_; (case hd => rfl); (case hg => rfl); (case hr => first |  (go_simp; done)|  (go_simp; rfl)|  (go_simp; rw [show ∀ x : Int, IntKind.u32.wrap (IntKind.u8.wrap x) = x % 256 from fun x => (by show (x % 256) % 4294967296 = x % 256; omega)])); intro gb134 hg w15 hbox hb; replace HO128 := zMk (zRb (by exact uR HO128.out) hb); replace HO132 := zMk (zRb (by exact uR HO132.out) hb); have BK134 := zMk (hbox); have GW134 := zMk ((by rw [hg]; exact (zBs (by exact uT HB.out)) : w.heap.size ≤ gb134)); have GE134 := zMk ((by rw [hg]; exact (zBs (by exact uT HB.out)) : w.heap.size ≤ gb134)); have IGE134 := ownGe GE134.out; replace HB := zMk (zBt (by exact uT HB.out) hb); clear hb hbox hg; have hcz16_0 : w15.cell? ⟨gb134, 0, none⟩ = some (.int .i64 0) := (zKc BK134.out 0).trans rfl; have hcz16_1 : w15.cell? ⟨gb134, 1, none⟩ = some (.slice none 0 0) := (zKc BK134.out 1).trans rfl; have hfz16_0 := zKf BK134.out 0; have hfz16_1 := zKf BK134.out 1; obtain ⟨Ao17, co17, eo17⟩ := zRs HO132.out; subst eo17; have p135 : 0 ≤ (1 : Int) := (by omega); have q135 : 1 < (t130.length : Int) := of_decide_eq_true (by first |  (with_reducible assumption)|  assumption); obtain ⟨ad135, e135, hx135_0, hx135_1, hx135_2⟩ := at_T36 (zRr HO132.out).2.2 1 p135 q135; cases e135; (try simp only [show (1 : Int).toNat = 1 from rfl, Nat.reduceMul, Nat.reduceEqDiff, Go.Addr.add, ↓reduceIte] at hx135_0); (try simp only [show (1 : Int).toNat = 1 from rfl, Nat.reduceMul, Nat.reduceEqDiff, Go.Addr.add, ↓reduceIte] at hx135_1); (try simp only [show (1 : Int).toNat = 1 from rfl, Nat.reduceMul, Nat.reduceEqDiff, Go.Addr.add, ↓reduceIte] at hx135_2); have qi135 : (1 < t130.length) = True := eq_true (by omega); (try rw [show ((1 : Int)).toNat = 1 from rfl] at hx135_0); (try rw [show 1 * 3 = 3 from rfl] at hx135_0); (try rw [show ((1 : Int)).toNat = 1 from rfl] at hx135_1); (try rw [show 1 * 3 = 3 from rfl] at hx135_1); (try rw [show ((1 : Int)).toNat = 1 from rfl] at hx135_2); (try rw [show 1 * 3 = 3 from rfl] at hx135_2); have hn135_0 : ad135.block ≠ gb134 := Kd.own_blk (Kd.R_ne HO132.out BK134.out (by decide)); have hn135_1 : ad135.block ≠ gb134 := Kd.own_blk (Kd.R_ne HO132.out BK134.out (by decide)); replace hx135_0 := (cell_far (p := ⟨gb134, 0, none⟩) (by first |  (rw [add_block]; exact hn135_0)|  (show (Addr.add _ _).block ≠ _; rw [add_block]; exact hn135_0)|  exact hn135_0) (.int .i64 t129)).trans hx135_0; replace hx135_1 := (cell_far (p := ⟨gb134, 0, none⟩) (by first |  (rw [add_block]; exact hn135_0)|  (show (Addr.add _ _).block ≠ _; rw [add_block]; exact hn135_0)|  exact hn135_0) (.int .i64 t129)).trans hx135_1; replace hx135_2 := (cell_far (p := ⟨gb134, 0, none⟩) (by first |  (rw [add_block]; exact hn135_0)|  (show (Addr.add _ _).block ≠ _; rw [add_block]; exact hn135_0)|  exact hn135_0) (.int .i64 t129)).trans hx135_2; replace hx135_0 := (cell_far (p := ⟨gb134, 1, none⟩) (by first |  (rw [add_block]; exact hn135_1)|  (show (Addr.add _ _).block ≠ _; rw [add_block]; exact hn135_1)|  exact hn135_1) (.slice (some ad135) t130.length co17)).trans hx135_0; replace hx135_1 := (cell_far (p := ⟨gb134, 1, none⟩) (by first |  (rw [add_block]; exact hn135_1)|  (show (Addr.add _ _).block ≠ _; rw [add_block]; exact hn135_1)|  exact hn135_1) (.slice (some ad135) t130.length co17)).trans hx135_1; replace hx135_2 := (cell_far (p := ⟨gb134, 1, none⟩) (by first |  (rw [add_block]; exact hn135_1)|  (show (Addr.add _ _).block ≠ _; rw [add_block]; exact hn135_1)|  exact hn135_1) (.slice (some ad135) t130.length co17)).trans hx135_2; clear hn135_0 hn135_1; replace p135 := eq_true p135; replace q135 := eq_true q135)|  (go_at_call 11; (with_reducible refine (graph_Right.calls k t129 _ _ t130 t136 _ ?side1 ?side2 A6.out).mono ?_); (case side1 => refine (zRr (e := 36) (base := w.heap.size) (ok := fun k_ => (True ∧ some k_ ≠ (.slice Ao13 y126.length co13 : Value).ownBlock)) (n := t130.length) (c := co17) ?_).2.2; exact (by (with_reducible repeat (first |  apply zRa|  apply zRn|  apply zRd)); exact (zRm (Kd.R_far (p := ⟨gb134, 1, none⟩) (Kd.R_far (p := ⟨gb134, 0, none⟩) (Kd.R_types HO132.out BK134.out (by decide)) (fun _ hk => hk.2) (.int .i64 t129)) (fun _ hk => hk.2) (.slice (some ad135) t130.length co17)) (fun _ h_ => h_.1)))); (case side2 => exact (zRr HO132.out).2.1); rintro e w18 ⟨rfl, hb⟩; replace HO128 := zMk (zRb (by (with_reducible repeat (first |  apply zRa|  apply zRn|  apply zRd)); exact (zRm (Kd.R_far (p := ⟨gb134, 1, none⟩) (Kd.R_far (p := ⟨gb134, 0, none⟩) (Kd.R_types HO128.out BK134.out (by decide)) (fun _ hk => hk.2) (.int .i64 t129)) (fun _ hk => hk.2) (.slice (some ad135) t130.length co17)) (fun _ h_ => h_.1))) hb); replace HO132 := zMk (zRb (by (with_reducible repeat (first |  apply zRa|  apply zRn|  apply zRd)); exact (zRm (Kd.R_far (p := ⟨gb134, 1, none⟩) (Kd.R_far (p := ⟨gb134, 0, none⟩) (Kd.R_types HO132.out BK134.out (by decide)) (fun _ hk => hk.2) (.int .i64 t129)) (fun _ hk => hk.2) (.slice (some ad135) t130.length co17)) (fun _ h_ => h_.1))) hb); replace BK134 := zMk (zKb (g := gb134) (o := .cells #[.int .i64 t129, .slice (some ad135) t130.length co17] 24 (0, 0)) (by (with_reducible repeat (first |  refine zKn ?_ _|  refine zKd ?_|  refine zKa ?_ _)); refine blk_put (cs := #[.int .i64 t129, .slice none 0 0]) ?_ 1 _ rfl; (with_reducible repeat (first |  refine zKn ?_ _|  refine zKd ?_|  refine zKa ?_ _)); refine blk_put (cs := #[.int .i64 0, .slice none 0 0]) ?_ 0 _ rfl; (with_reducible repeat (first |  refine zKn ?_ _|  refine zKd ?_|  refine zKa ?_ _)); exact BK134.out) hb); replace HB := zMk (zBt (by exact uT HB.out) hb); (try clear hb); (try clear hb2); (try clear hk); (try clear hi); have hcz19_0 : w18.cell? ⟨gb134, 0, none⟩ = some (.int .i64 t129) := (zKc BK134.out 0).trans rfl; have hcz19_1 : w18.cell? ⟨gb134, 1, none⟩ = some (.slice (some ad135) t130.length co17) := (zKc BK134.out 1).trans rfl; have hfz19_0 := zKf BK134.out 0; have hfz19_1 := zKf BK134.out 1)|  (go_at_call 25; (with_reducible refine (graph_Find.calls k t129 _ _ t130 2 0 t137 _ ?side1 ?side2 A8.out).mono ?_); (case side1 => exact uC (zRr HO132.out).2.2); (case side2 => exact (zRr HO132.out).2.1); rintro e w20 ⟨rfl, hb⟩; replace HO128 := zMk (zRb (by exact uR HO128.out) hb); replace HO132 := zMk (zRb (by exact uR HO132.out) hb); replace BK134 := zMk (zKb (g := gb134) (o := .cells #[.int .i64 t129, .slice (some ad135) t130.length co17] 24 (0, 0)) (by (with_reducible repeat (first |  refine zKn ?_ _|  refine zKd ?_|  refine zKa ?_ _)); exact BK134.out) hb); replace HB := zMk (zBt (by exact uT HB.out) hb); (try clear hb); (try clear hb2); (try clear hk); (try clear hi); have hcz21_0 : w20.cell? ⟨gb134, 0, none⟩ = some (.int .i64 t129) := (zKc BK134.out 0).trans rfl; have hcz21_1 : w20.cell? ⟨gb134, 1, none⟩ = some (.slice (some ad135) t130.length co17) := (zKc BK134.out 1).trans rfl; have hfz21_0 := zKf BK134.out 0; have hfz21_1 := zKf BK134.out 1)|  (go_at_call 25; (with_reducible refine (graph_Find.calls k t129 _ _ t130 1 2 t138 _ ?side1 ?side2 A10.out).mono ?_); (case side1 => exact uC (zRr HO132.out).2.2); (case side2 => exact (zRr HO132.out).2.1); rintro e w22 ⟨rfl, hb⟩; replace HO128 := zMk (zRb (by exact uR HO128.out) hb); replace HO132 := zMk (zRb (by exact uR HO132.out) hb); replace BK134 := zMk (zKb (g := gb134) (o := .cells #[.int .i64 t129, .slice (some ad135) t130.length co17] 24 (0, 0)) (by (with_reducible repeat (first |  refine zKn ?_ _|  refine zKd ?_|  refine zKa ?_ _)); exact BK134.out) hb); replace HB := zMk (zBt (by exact uT HB.out) hb); (try clear hb); (try clear hb2); (try clear hk); (try clear hi)))
            go_ret
            exact ⟨by first | rfl | (simp [errW_none, errW_some] <;> rfl) | (simp [*, errW_none, errW_some] <;> rfl), by exact uT HB.out⟩
          · rw [if_neg c9] at H
            have c9b0 : (t137 == 1) = false := beq_eq_false_iff_ne.mpr c9
            have c9b1 : (t137 != 1) = true := bne_iff_ne.mpr c9
            obtain rfl := zOi H
            go_enter Try.func13, Try.ntmps13
            go_wp2_with (first |  ((with_reducible refine gate_dst (N := 6) rfl ?_); (try (refine gate_guard (by rfl) ?_; dsimp only)); refine Kd.R_lit k36 _ 36 ?hg (N := 6) ?hd (xs := ([(⟨2, 0, 0⟩ : S36), (⟨0, 1, 0⟩ : S36)] : List (S36))) (inner := [.int .i64 2, .int .i64 0, .int .i64 0, .int .i64 0, .int .i64 1, .int .i64 0]) (ok := fun _ => True) (okp := fun _ => True) ?hr ?hp (fun _ hk => hk) trivial (Below.refl _ _) (Nat.le_refl _) (by simp) ?_; (case hd => rfl); (case hg => rfl); (case hr => first |  (go_simp; done)|  (go_simp; rfl)|  (go_simp; rw [show ∀ x : Int, IntKind.u32.wrap (IntKind.u8.wrap x) = x % 256 from fun x => (by show (x % 256) % 4294967296 = x % 256; omega)])); (case hp => exact (Reps.c3 (show Kd.M k36 _ _ _ (⟨2, 0, 0⟩ : S36) [.int .i64 2, .int .i64 0, .int .i64 0] from (k36_mkM _ _ _ (⟨2, 0, 0⟩ : S36) )) (Reps.c3 (show Kd.M k36 _ _ _ (⟨0, 1, 0⟩ : S36) [.int .i64 0, .int .i64 1, .int .i64 0] from (k36_mkM _ _ _ (⟨0, 1, 0⟩ : S36) )) (Reps.none _ _)))); intro v127 w23 ho24 hb hg_ hnew_; clear hg_ hnew_; (first |  rw [← Ny126.out] at ho24|  (simp only [Int.reduceToNat] at ho24; rw [← Ny126.out] at ho24)); have HO128 := zMk (zRl ho24 (zBs (by exact uT HB.out))); replace HB := zMk (zBt (by exact uT HB.out) hb); clear hb ho24; obtain ⟨Ao25, co25, eo25⟩ := zRs HO128.out; subst eo25)|  ((with_reducible refine gate_callee (f := 14) rfl ?_); refine goesL_ (some 7) rfl rfl Try.func14 (by kernel_rfl) rfl #[.int .i64 3, .slice Ao25 y126.length co25] rfl (by (try simp only [zMa, zMc, zMn]); first |  done|  rfl|  (simp only [zLd, zLt]; rfl)) ?_; (with_reducible refine (graph_Make.calls k 3 _ _ y126 t129 t130 t133 _ ?side1 ?side2 A1.out).mono ?_); (case side1 => exact uC (zRr HO128.out).2.2); (case side2 => exact (zRr HO128.out).2.1); rintro e w26 ⟨v131, rfl, ho0, hb⟩; refine ⟨_, rfl, ?_⟩; have HO132 := zMk (zRl (zRw ho0 (zRt (by exact uR HO128.out))) (zBs (by exact uT HB.out))); replace HO128 := zMk (zRe (by exact uR HO128.out) (zRz ho0) hb); replace HB := zMk (zBt (by exact uT HB.out) hb); (try clear hb); (try clear hb2); (try clear hk); (try clear hi); (try clear ho0))|  ((with_reducible refine gate_dst (N := 1) rfl ?_); (try (refine gate_guard (by rfl) ?_; dsimp only)); refine box_event ?hg (N := 1) ?hd (cs := #[.int .i64 0, .slice none 0 0]) (t := 24) ?hr ?_; (case hd => rfl); (case hg => rfl); (case hr => first |  (go_simp; done)|  (go_simp; rfl)|  (go_simp; rw [show ∀ x : Int, IntKind.u32.wrap (IntKind.u8.wrap x) = x % 256 from fun x => (by show (x % 256) % 4294967296 = x % 256; omega)])); intro gb134 hg w27 hbox hb; replace HO128 := zMk (zRb (by exact uR HO128.out) hb); replace HO132 := zMk (zRb (by exact uR HO132.out) hb); have BK134 := zMk (hbox); have GW134 := zMk ((by rw [hg]; exact (zBs (by exact uT HB.out)) : w.heap.size ≤ gb134)); have GE134 := zMk ((by rw [hg]; exact (zBs (by exact uT HB.out)) : w.heap.size ≤ gb134)); have IGE134 := ownGe GE134.out; replace HB := zMk (zBt (by exact uT HB.out) hb); clear hb hbox hg; have hcz28_0 : w27.cell? ⟨gb134, 0, none⟩ = some (.int .i64 0) := (zKc BK134.out 0).trans rfl; have hcz28_1 : w27.cell? ⟨gb134, 1, none⟩ = some (.slice none 0 0) := (zKc BK134.out 1).trans rfl; have hfz28_0 := zKf BK134.out 0; have hfz28_1 := zKf BK134.out 1; obtain ⟨Ao29, co29, eo29⟩ := zRs HO132.out; subst eo29; have p135 : 0 ≤ (1 : Int) := (by omega); have q135 : 1 < (t130.length : Int) := of_decide_eq_true (by first |  (with_reducible assumption)|  assumption); obtain ⟨ad135, e135, hx135_0, hx135_1, hx135_2⟩ := at_T36 (zRr HO132.out).2.2 1 p135 q135; cases e135; (try simp only [show (1 : Int).toNat = 1 from rfl, Nat.reduceMul, Nat.reduceEqDiff, Go.Addr.add, ↓reduceIte] at hx135_0); (try simp only [show (1 : Int).toNat = 1 from rfl, Nat.reduceMul, Nat.reduceEqDiff, Go.Addr.add, ↓reduceIte] at hx135_1); (try simp only [show (1 : Int).toNat = 1 from rfl, Nat.reduceMul, Nat.reduceEqDiff, Go.Addr.add, ↓reduceIte] at hx135_2); have qi135 : (1 < t130.length) = True := eq_true (by omega); (try rw [show ((1 : Int)).toNat = 1 from rfl] at hx135_0); (try rw [show 1 * 3 = 3 from rfl] at hx135_0); (try rw [show ((1 : Int)).toNat = 1 from rfl] at hx135_1); (try rw [show 1 * 3 = 3 from rfl] at hx135_1); (try rw [show ((1 : Int)).toNat = 1 from rfl] at hx135_2); (try rw [show 1 * 3 = 3 from rfl] at hx135_2); have hn135_0 : ad135.block ≠ gb134 := Kd.own_blk (Kd.R_ne HO132.out BK134.out (by decide)); have hn135_1 : ad135.block ≠ gb134 := Kd.own_blk (Kd.R_ne HO132.out BK134.out (by decide)); replace hx135_0 := (cell_far (p := ⟨gb134, 0, none⟩) (by first |  (rw [add_block]; exact hn135_0)|  (show (Addr.add _ _).block ≠ _; rw [add_block]; exact hn135_0)|  exact hn135_0) (.int .i64 t129)).trans hx135_0; replace hx135_1 := (cell_far (p := ⟨gb134, 0, none⟩) (by first |  (rw [add_block]; exact hn135_0)|  (show (Addr.add _ _).block ≠ _; rw [add_block]; exact hn135_0)|  exact hn135_0) (.int .i64 t129)).trans hx135_1; replace hx135_2 := (cell_far (p := ⟨gb134, 0, none⟩) (by first |  (rw [add_block]; exact hn135_0)|  (show (Addr.add _ _).block ≠ _; rw [add_block]; exact hn135_0)|  exact hn135_0) (.int .i64 t129)).trans hx135_2; replace hx135_0 := (cell_far (p := ⟨gb134, 1, none⟩) (by first |  (rw [add_block]; exact hn135_1)|  (show (Addr.add _ _).block ≠ _; rw [add_block]; exact hn135_1)|  exact hn135_1) (.slice (some ad135) t130.length co29)).trans hx135_0; replace hx135_1 := (cell_far (p := ⟨gb134, 1, none⟩) (by first |  (rw [add_block]; exact hn135_1)|  (show (Addr.add _ _).block ≠ _; rw [add_block]; exact hn135_1)|  exact hn135_1) (.slice (some ad135) t130.length co29)).trans hx135_1; replace hx135_2 := (cell_far (p := ⟨gb134, 1, none⟩) (by first |  (rw [add_block]; exact hn135_1)|  (show (Addr.add _ _).block ≠ _; rw [add_block]; exact hn135_1)|  exact hn135_1) (.slice (some ad135) t130.length co29)).trans hx135_2; clear hn135_0 hn135_1; replace p135 := eq_true p135; replace q135 := eq_true q135)|  (go_at_call 11; (with_reducible refine (graph_Right.calls k t129 _ _ t130 t136 _ ?side1 ?side2 A6.out).mono ?_); (case side1 => refine (zRr (e := 36) (base := w.heap.size) (ok := fun k_ => (True ∧ some k_ ≠ (.slice Ao25 y126.length co25 : Value).ownBlock)) (n := t130.length) (c := co29) ?_).2.2; exact (by (with_reducible repeat (first |  apply zRa|  apply zRn|  apply zRd)); exact (zRm (Kd.R_far (p := ⟨gb134, 1, none⟩) (Kd.R_far (p := ⟨gb134, 0, none⟩) (Kd.R_types HO132.out BK134.out (by decide)) (fun _ hk => hk.2) (.int .i64 t129)) (fun _ hk => hk.2) (.slice (some ad135) t130.length co29)) (fun _ h_ => h_.1)))); (case side2 => exact (zRr HO132.out).2.1); rintro e w30 ⟨rfl, hb⟩; replace HO128 := zMk (zRb (by (with_reducible repeat (first |  apply zRa|  apply zRn|  apply zRd)); exact (zRm (Kd.R_far (p := ⟨gb134, 1, none⟩) (Kd.R_far (p := ⟨gb134, 0, none⟩) (Kd.R_types HO128.out BK134.out (by decide)) (fun _ hk => hk.2) (.int .i64 t129)) (fun _ hk => hk.2) (.slice (some ad135) t130.length co29)) (fun _ h_ => h_.1))) hb); replace HO132 := zMk (zRb (by (with_reducible repeat (first |  apply zRa|  apply zRn|  apply zRd)); exact (zRm (Kd.R_far (p := ⟨gb134, 1, none⟩) (Kd.R_far (p := ⟨gb134, 0, none⟩) (Kd.R_types HO132.out BK134.out (by decide)) (fun _ hk => hk.2) (.int .i64 t129)) (fun _ hk => hk.2) (.slice (some ad135) t130.length co29)) (fun _ h_ => h_.1))) hb); replace BK134 := zMk (zKb (g := gb134) (o := .cells #[.int .i64 t129, .slice (some ad135) t130.length co29] 24 (0, 0)) (by (with_reducible repeat (first |  refine zKn ?_ _|  refine zKd ?_|  refine zKa ?_ _)); refine blk_put (cs := #[.int .i64 t129, .slice none 0 0]) ?_ 1 _ rfl; (with_reducible repeat (first |  refine zKn ?_ _|  refine zKd ?_|  refine zKa ?_ _)); refine blk_put (cs := #[.int .i64 0, .slice none 0 0]) ?_ 0 _ rfl; (with_reducible repeat (first |  refine zKn ?_ _|  refine zKd ?_|  refine zKa ?_ _)); exact BK134.out) hb); replace HB := zMk (zBt (by exact uT HB.out) hb); (try clear hb); (try clear hb2); (try clear hk); (try clear hi); have hcz31_0 : w30.cell? ⟨gb134, 0, none⟩ = some (.int .i64 t129) := (zKc BK134.out 0).trans rfl; have hcz31_1 : w30.cell? ⟨gb134, 1, none⟩ = some (.slice (some ad135) t130.length co29) := (zKc BK134.out 1).trans rfl; have hfz31_0 := zKf BK134.out 0; have hfz31_1 := zKf BK134.out 1)|  (go_at_call 25; (with_reducible refine (graph_Find.calls k t129 _ _ t130 2 0 t137 _ ?side1 ?side2 A8.out).mono ?_); (case side1 => exact uC (zRr HO132.out).2.2); (case side2 => exact (zRr HO132.out).2.1); rintro e w32 ⟨rfl, hb⟩; replace HO128 := zMk (zRb (by exact uR HO128.out) hb); replace HO132 := zMk (zRb (by exact uR HO132.out) hb); replace BK134 := zMk (zKb (g := gb134) (o := .cells #[.int .i64 t129, .slice (some ad135) t130.length co29] 24 (0, 0)) (by (with_reducible repeat (first |  refine zKn ?_ _|  refine zKd ?_|  refine zKa ?_ _)); exact BK134.out) hb); replace HB := zMk (zBt (by exact uT HB.out) hb); (try clear hb); (try clear hb2); (try clear hk); (try clear hi)))
            go_ret
            exact ⟨by first | rfl | (simp [errW_none, errW_some] <;> rfl) | (simp [*, errW_none, errW_some] <;> rfl), by exact uT HB.out⟩
        · rw [if_neg c7] at H
          have c7b0 : (t136 == 0) = false := beq_eq_false_iff_ne.mpr c7
          have c7b1 : (t136 != 0) = true := bne_iff_ne.mpr c7
          obtain rfl := zOi H
          go_enter Try.func13, Try.ntmps13
          go_wp2_with (first |  ((with_reducible refine gate_dst (N := 6) rfl ?_); (try (refine gate_guard (by rfl) ?_; dsimp only)); refine Kd.R_lit k36 _ 36 ?hg (N := 6) ?hd (xs := ([(⟨2, 0, 0⟩ : S36), (⟨0, 1, 0⟩ : S36)] : List (S36))) (inner := [.int .i64 2, .int .i64 0, .int .i64 0, .int .i64 0, .int .i64 1, .int .i64 0]) (ok := fun _ => True) (okp := fun _ => True) ?hr ?hp (fun _ hk => hk) trivial (Below.refl _ _) (Nat.le_refl _) (by simp) ?_; (case hd => rfl); (case hg => rfl); (case hr => first |  (go_simp; done)|  (go_simp; rfl)|  (go_simp; rw [show ∀ x : Int, IntKind.u32.wrap (IntKind.u8.wrap x) = x % 256 from fun x => (by show (x % 256) % 4294967296 = x % 256; omega)])); (case hp => exact (Reps.c3 (show Kd.M k36 _ _ _ (⟨2, 0, 0⟩ : S36) [.int .i64 2, .int .i64 0, .int .i64 0] from (k36_mkM _ _ _ (⟨2, 0, 0⟩ : S36) )) (Reps.c3 (show Kd.M k36 _ _ _ (⟨0, 1, 0⟩ : S36) [.int .i64 0, .int .i64 1, .int .i64 0] from (k36_mkM _ _ _ (⟨0, 1, 0⟩ : S36) )) (Reps.none _ _)))); intro v127 w33 ho34 hb hg_ hnew_; clear hg_ hnew_; (first |  rw [← Ny126.out] at ho34|  (simp only [Int.reduceToNat] at ho34; rw [← Ny126.out] at ho34)); have HO128 := zMk (zRl ho34 (zBs (by exact uT HB.out))); replace HB := zMk (zBt (by exact uT HB.out) hb); clear hb ho34; obtain ⟨Ao35, co35, eo35⟩ := zRs HO128.out; subst eo35)|  ((with_reducible refine gate_callee (f := 14) rfl ?_); refine goesL_ (some 7) rfl rfl Try.func14 (by kernel_rfl) rfl #[.int .i64 3, .slice Ao35 y126.length co35] rfl (by (try simp only [zMa, zMc, zMn]); first |  done|  rfl|  (simp only [zLd, zLt]; rfl)) ?_; (with_reducible refine (graph_Make.calls k 3 _ _ y126 t129 t130 t133 _ ?side1 ?side2 A1.out).mono ?_); (case side1 => exact uC (zRr HO128.out).2.2); (case side2 => exact (zRr HO128.out).2.1); rintro e w36 ⟨v131, rfl, ho0, hb⟩; refine ⟨_, rfl, ?_⟩; have HO132 := zMk (zRl (zRw ho0 (zRt (by exact uR HO128.out))) (zBs (by exact uT HB.out))); replace HO128 := zMk (zRe (by exact uR HO128.out) (zRz ho0) hb); replace HB := zMk (zBt (by exact uT HB.out) hb); (try clear hb); (try clear hb2); (try clear hk); (try clear hi); (try clear ho0))|  ((with_reducible refine gate_dst (N := 1) rfl ?_); (try (refine gate_guard (by rfl) ?_; dsimp only)); refine box_event ?hg (N := 1) ?hd (cs := #[.int .i64 0, .slice none 0 0]) (t := 24) ?hr ?_; (case hd => rfl); (case hg => rfl); (case hr => first |  (go_simp; done)|  (go_simp; rfl)|  (go_simp; rw [show ∀ x : Int, IntKind.u32.wrap (IntKind.u8.wrap x) = x % 256 from fun x => (by show (x % 256) % 4294967296 = x % 256; omega)])); intro gb134 hg w37 hbox hb; replace HO128 := zMk (zRb (by exact uR HO128.out) hb); replace HO132 := zMk (zRb (by exact uR HO132.out) hb); have BK134 := zMk (hbox); have GW134 := zMk ((by rw [hg]; exact (zBs (by exact uT HB.out)) : w.heap.size ≤ gb134)); have GE134 := zMk ((by rw [hg]; exact (zBs (by exact uT HB.out)) : w.heap.size ≤ gb134)); have IGE134 := ownGe GE134.out; replace HB := zMk (zBt (by exact uT HB.out) hb); clear hb hbox hg; have hcz38_0 : w37.cell? ⟨gb134, 0, none⟩ = some (.int .i64 0) := (zKc BK134.out 0).trans rfl; have hcz38_1 : w37.cell? ⟨gb134, 1, none⟩ = some (.slice none 0 0) := (zKc BK134.out 1).trans rfl; have hfz38_0 := zKf BK134.out 0; have hfz38_1 := zKf BK134.out 1; obtain ⟨Ao39, co39, eo39⟩ := zRs HO132.out; subst eo39; have p135 : 0 ≤ (1 : Int) := (by omega); have q135 : 1 < (t130.length : Int) := of_decide_eq_true (by first |  (with_reducible assumption)|  assumption); obtain ⟨ad135, e135, hx135_0, hx135_1, hx135_2⟩ := at_T36 (zRr HO132.out).2.2 1 p135 q135; cases e135; (try simp only [show (1 : Int).toNat = 1 from rfl, Nat.reduceMul, Nat.reduceEqDiff, Go.Addr.add, ↓reduceIte] at hx135_0); (try simp only [show (1 : Int).toNat = 1 from rfl, Nat.reduceMul, Nat.reduceEqDiff, Go.Addr.add, ↓reduceIte] at hx135_1); (try simp only [show (1 : Int).toNat = 1 from rfl, Nat.reduceMul, Nat.reduceEqDiff, Go.Addr.add, ↓reduceIte] at hx135_2); have qi135 : (1 < t130.length) = True := eq_true (by omega); (try rw [show ((1 : Int)).toNat = 1 from rfl] at hx135_0); (try rw [show 1 * 3 = 3 from rfl] at hx135_0); (try rw [show ((1 : Int)).toNat = 1 from rfl] at hx135_1); (try rw [show 1 * 3 = 3 from rfl] at hx135_1); (try rw [show ((1 : Int)).toNat = 1 from rfl] at hx135_2); (try rw [show 1 * 3 = 3 from rfl] at hx135_2); have hn135_0 : ad135.block ≠ gb134 := Kd.own_blk (Kd.R_ne HO132.out BK134.out (by decide)); have hn135_1 : ad135.block ≠ gb134 := Kd.own_blk (Kd.R_ne HO132.out BK134.out (by decide)); replace hx135_0 := (cell_far (p := ⟨gb134, 0, none⟩) (by first |  (rw [add_block]; exact hn135_0)|  (show (Addr.add _ _).block ≠ _; rw [add_block]; exact hn135_0)|  exact hn135_0) (.int .i64 t129)).trans hx135_0; replace hx135_1 := (cell_far (p := ⟨gb134, 0, none⟩) (by first |  (rw [add_block]; exact hn135_0)|  (show (Addr.add _ _).block ≠ _; rw [add_block]; exact hn135_0)|  exact hn135_0) (.int .i64 t129)).trans hx135_1; replace hx135_2 := (cell_far (p := ⟨gb134, 0, none⟩) (by first |  (rw [add_block]; exact hn135_0)|  (show (Addr.add _ _).block ≠ _; rw [add_block]; exact hn135_0)|  exact hn135_0) (.int .i64 t129)).trans hx135_2; replace hx135_0 := (cell_far (p := ⟨gb134, 1, none⟩) (by first |  (rw [add_block]; exact hn135_1)|  (show (Addr.add _ _).block ≠ _; rw [add_block]; exact hn135_1)|  exact hn135_1) (.slice (some ad135) t130.length co39)).trans hx135_0; replace hx135_1 := (cell_far (p := ⟨gb134, 1, none⟩) (by first |  (rw [add_block]; exact hn135_1)|  (show (Addr.add _ _).block ≠ _; rw [add_block]; exact hn135_1)|  exact hn135_1) (.slice (some ad135) t130.length co39)).trans hx135_1; replace hx135_2 := (cell_far (p := ⟨gb134, 1, none⟩) (by first |  (rw [add_block]; exact hn135_1)|  (show (Addr.add _ _).block ≠ _; rw [add_block]; exact hn135_1)|  exact hn135_1) (.slice (some ad135) t130.length co39)).trans hx135_2; clear hn135_0 hn135_1; replace p135 := eq_true p135; replace q135 := eq_true q135)|  (go_at_call 11; (with_reducible refine (graph_Right.calls k t129 _ _ t130 t136 _ ?side1 ?side2 A6.out).mono ?_); (case side1 => refine (zRr (e := 36) (base := w.heap.size) (ok := fun k_ => (True ∧ some k_ ≠ (.slice Ao35 y126.length co35 : Value).ownBlock)) (n := t130.length) (c := co39) ?_).2.2; exact (by (with_reducible repeat (first |  apply zRa|  apply zRn|  apply zRd)); exact (zRm (Kd.R_far (p := ⟨gb134, 1, none⟩) (Kd.R_far (p := ⟨gb134, 0, none⟩) (Kd.R_types HO132.out BK134.out (by decide)) (fun _ hk => hk.2) (.int .i64 t129)) (fun _ hk => hk.2) (.slice (some ad135) t130.length co39)) (fun _ h_ => h_.1)))); (case side2 => exact (zRr HO132.out).2.1); rintro e w40 ⟨rfl, hb⟩; replace HO128 := zMk (zRb (by (with_reducible repeat (first |  apply zRa|  apply zRn|  apply zRd)); exact (zRm (Kd.R_far (p := ⟨gb134, 1, none⟩) (Kd.R_far (p := ⟨gb134, 0, none⟩) (Kd.R_types HO128.out BK134.out (by decide)) (fun _ hk => hk.2) (.int .i64 t129)) (fun _ hk => hk.2) (.slice (some ad135) t130.length co39)) (fun _ h_ => h_.1))) hb); replace HO132 := zMk (zRb (by (with_reducible repeat (first |  apply zRa|  apply zRn|  apply zRd)); exact (zRm (Kd.R_far (p := ⟨gb134, 1, none⟩) (Kd.R_far (p := ⟨gb134, 0, none⟩) (Kd.R_types HO132.out BK134.out (by decide)) (fun _ hk => hk.2) (.int .i64 t129)) (fun _ hk => hk.2) (.slice (some ad135) t130.length co39)) (fun _ h_ => h_.1))) hb); replace BK134 := zMk (zKb (g := gb134) (o := .cells #[.int .i64 t129, .slice (some ad135) t130.length co39] 24 (0, 0)) (by (with_reducible repeat (first |  refine zKn ?_ _|  refine zKd ?_|  refine zKa ?_ _)); refine blk_put (cs := #[.int .i64 t129, .slice none 0 0]) ?_ 1 _ rfl; (with_reducible repeat (first |  refine zKn ?_ _|  refine zKd ?_|  refine zKa ?_ _)); refine blk_put (cs := #[.int .i64 0, .slice none 0 0]) ?_ 0 _ rfl; (with_reducible repeat (first |  refine zKn ?_ _|  refine zKd ?_|  refine zKa ?_ _)); exact BK134.out) hb); replace HB := zMk (zBt (by exact uT HB.out) hb); (try clear hb); (try clear hb2); (try clear hk); (try clear hi)))
          go_ret
          exact ⟨by first | rfl | (simp [errW_none, errW_some] <;> rfl) | (simp [*, errW_none, errW_some] <;> rfl), by exact uT HB.out⟩
      · rw [if_neg c5] at H
        have c5b0 : (((rd_T36 t130 1).f0) == 0 && (((rd_T36 t130 1).f1) == 2 && (((rd_T36 t130 1).f2) == 0))) = false := by simpa using c5
        (try (have c5b1 : decide (((rd_T36 t130 1).f0) = 0 && (((rd_T36 t130 1).f1) == 2 && (((rd_T36 t130 1).f2) == 0))) = false := by simpa using c5))
        (try (have c5b2 : (((rd_T36 t130 1).f0) == 0 && (((rd_T36 t130 1).f1) == 2 && (((rd_T36 t130 1).f2) == 0))) = false := by simpa using c5))
        (try (have c5b3 : ¬ (((rd_T36 t130 1).f0) = 0 && (((rd_T36 t130 1).f1) == 2 && (((rd_T36 t130 1).f2) == 0))) := by simpa using c5))
        clear c5
        obtain rfl := zOi H
        go_enter Try.func13, Try.ntmps13
        go_wp2_with (first |  ((with_reducible refine gate_dst (N := 6) rfl ?_); (try (refine gate_guard (by rfl) ?_; dsimp only)); refine Kd.R_lit k36 _ 36 ?hg (N := 6) ?hd (xs := ([(⟨2, 0, 0⟩ : S36), (⟨0, 1, 0⟩ : S36)] : List (S36))) (inner := [.int .i64 2, .int .i64 0, .int .i64 0, .int .i64 0, .int .i64 1, .int .i64 0]) (ok := fun _ => True) (okp := fun _ => True) ?hr ?hp (fun _ hk => hk) trivial (Below.refl _ _) (Nat.le_refl _) (by simp) ?_; (case hd => rfl); (case hg => rfl); (case hr => first |  (go_simp; done)|  (go_simp; rfl)|  (go_simp; rw [show ∀ x : Int, IntKind.u32.wrap (IntKind.u8.wrap x) = x % 256 from fun x => (by show (x % 256) % 4294967296 = x % 256; omega)])); (case hp => exact (Reps.c3 (show Kd.M k36 _ _ _ (⟨2, 0, 0⟩ : S36) [.int .i64 2, .int .i64 0, .int .i64 0] from (k36_mkM _ _ _ (⟨2, 0, 0⟩ : S36) )) (Reps.c3 (show Kd.M k36 _ _ _ (⟨0, 1, 0⟩ : S36) [.int .i64 0, .int .i64 1, .int .i64 0] from (k36_mkM _ _ _ (⟨0, 1, 0⟩ : S36) )) (Reps.none _ _)))); intro v127 w41 ho42 hb hg_ hnew_; clear hg_ hnew_; (first |  rw [← Ny126.out] at ho42|  (simp only [Int.reduceToNat] at ho42; rw [← Ny126.out] at ho42)); have HO128 := zMk (zRl ho42 (zBs (by exact uT HB.out))); replace HB := zMk (zBt (by exact uT HB.out) hb); clear hb ho42; obtain ⟨Ao43, co43, eo43⟩ := zRs HO128.out; subst eo43)|  ((with_reducible refine gate_callee (f := 14) rfl ?_); refine goesL_ (some 7) rfl rfl Try.func14 (by kernel_rfl) rfl #[.int .i64 3, .slice Ao43 y126.length co43] rfl (by (try simp only [zMa, zMc, zMn]); first |  done|  rfl|  (simp only [zLd, zLt]; rfl)) ?_; (with_reducible refine (graph_Make.calls k 3 _ _ y126 t129 t130 t133 _ ?side1 ?side2 A1.out).mono ?_); (case side1 => exact uC (zRr HO128.out).2.2); (case side2 => exact (zRr HO128.out).2.1); rintro e w44 ⟨v131, rfl, ho0, hb⟩; refine ⟨_, rfl, ?_⟩; have HO132 := zMk (zRl (zRw ho0 (zRt (by exact uR HO128.out))) (zBs (by exact uT HB.out))); replace HO128 := zMk (zRe (by exact uR HO128.out) (zRz ho0) hb); replace HB := zMk (zBt (by exact uT HB.out) hb); (try clear hb); (try clear hb2); (try clear hk); (try clear hi); (try clear ho0))|  ((with_reducible refine gate_dst (N := 1) rfl ?_); (try (refine gate_guard (by rfl) ?_; dsimp only)); refine box_event ?hg (N := 1) ?hd (cs := #[.int .i64 0, .slice none 0 0]) (t := 24) ?hr ?_; (case hd => rfl); (case hg => rfl); (case hr => first |  (go_simp; done)|  (go_simp; rfl)|  (go_simp; rw [show ∀ x : Int, IntKind.u32.wrap (IntKind.u8.wrap x) = x % 256 from fun x => (by show (x % 256) % 4294967296 = x % 256; omega)])); intro gb134 hg w45 hbox hb; replace HO128 := zMk (zRb (by exact uR HO128.out) hb); replace HO132 := zMk (zRb (by exact uR HO132.out) hb); have BK134 := zMk (hbox); have GW134 := zMk ((by rw [hg]; exact (zBs (by exact uT HB.out)) : w.heap.size ≤ gb134)); have GE134 := zMk ((by rw [hg]; exact (zBs (by exact uT HB.out)) : w.heap.size ≤ gb134)); have IGE134 := ownGe GE134.out; replace HB := zMk (zBt (by exact uT HB.out) hb); clear hb hbox hg; have hcz46_0 : w45.cell? ⟨gb134, 0, none⟩ = some (.int .i64 0) := (zKc BK134.out 0).trans rfl; have hcz46_1 : w45.cell? ⟨gb134, 1, none⟩ = some (.slice none 0 0) := (zKc BK134.out 1).trans rfl; have hfz46_0 := zKf BK134.out 0; have hfz46_1 := zKf BK134.out 1; obtain ⟨Ao47, co47, eo47⟩ := zRs HO132.out; subst eo47; have p135 : 0 ≤ (1 : Int) := (by omega); have q135 : 1 < (t130.length : Int) := of_decide_eq_true (by first |  (with_reducible assumption)|  assumption); obtain ⟨ad135, e135, hx135_0, hx135_1, hx135_2⟩ := at_T36 (zRr HO132.out).2.2 1 p135 q135; cases e135; (try simp only [show (1 : Int).toNat = 1 from rfl, Nat.reduceMul, Nat.reduceEqDiff, Go.Addr.add, ↓reduceIte] at hx135_0); (try simp only [show (1 : Int).toNat = 1 from rfl, Nat.reduceMul, Nat.reduceEqDiff, Go.Addr.add, ↓reduceIte] at hx135_1); (try simp only [show (1 : Int).toNat = 1 from rfl, Nat.reduceMul, Nat.reduceEqDiff, Go.Addr.add, ↓reduceIte] at hx135_2); have qi135 : (1 < t130.length) = True := eq_true (by omega); (try rw [show ((1 : Int)).toNat = 1 from rfl] at hx135_0); (try rw [show 1 * 3 = 3 from rfl] at hx135_0); (try rw [show ((1 : Int)).toNat = 1 from rfl] at hx135_1); (try rw [show 1 * 3 = 3 from rfl] at hx135_1); (try rw [show ((1 : Int)).toNat = 1 from rfl] at hx135_2); (try rw [show 1 * 3 = 3 from rfl] at hx135_2); have hn135_0 : ad135.block ≠ gb134 := Kd.own_blk (Kd.R_ne HO132.out BK134.out (by decide)); have hn135_1 : ad135.block ≠ gb134 := Kd.own_blk (Kd.R_ne HO132.out BK134.out (by decide)); replace hx135_0 := (cell_far (p := ⟨gb134, 0, none⟩) (by first |  (rw [add_block]; exact hn135_0)|  (show (Addr.add _ _).block ≠ _; rw [add_block]; exact hn135_0)|  exact hn135_0) (.int .i64 t129)).trans hx135_0; replace hx135_1 := (cell_far (p := ⟨gb134, 0, none⟩) (by first |  (rw [add_block]; exact hn135_0)|  (show (Addr.add _ _).block ≠ _; rw [add_block]; exact hn135_0)|  exact hn135_0) (.int .i64 t129)).trans hx135_1; replace hx135_2 := (cell_far (p := ⟨gb134, 0, none⟩) (by first |  (rw [add_block]; exact hn135_0)|  (show (Addr.add _ _).block ≠ _; rw [add_block]; exact hn135_0)|  exact hn135_0) (.int .i64 t129)).trans hx135_2; replace hx135_0 := (cell_far (p := ⟨gb134, 1, none⟩) (by first |  (rw [add_block]; exact hn135_1)|  (show (Addr.add _ _).block ≠ _; rw [add_block]; exact hn135_1)|  exact hn135_1) (.slice (some ad135) t130.length co47)).trans hx135_0; replace hx135_1 := (cell_far (p := ⟨gb134, 1, none⟩) (by first |  (rw [add_block]; exact hn135_1)|  (show (Addr.add _ _).block ≠ _; rw [add_block]; exact hn135_1)|  exact hn135_1) (.slice (some ad135) t130.length co47)).trans hx135_1; replace hx135_2 := (cell_far (p := ⟨gb134, 1, none⟩) (by first |  (rw [add_block]; exact hn135_1)|  (show (Addr.add _ _).block ≠ _; rw [add_block]; exact hn135_1)|  exact hn135_1) (.slice (some ad135) t130.length co47)).trans hx135_2; clear hn135_0 hn135_1; replace p135 := eq_true p135; replace q135 := eq_true q135))
        go_ret
        exact ⟨by first | rfl | (simp [errW_none, errW_some] <;> rfl) | (simp [*, errW_none, errW_some] <;> rfl), by exact uT HB.out⟩
    · rw [if_neg c3] at H
      have c3b0 : ((t130.length : Int) == 2) = false := beq_eq_false_iff_ne.mpr c3
      have c3b1 : ((t130.length : Int) != 2) = true := bne_iff_ne.mpr c3
      obtain rfl := zOi H
      go_enter Try.func13, Try.ntmps13
      go_wp2_with (first |  ((with_reducible refine gate_dst (N := 6) rfl ?_); (try (refine gate_guard (by rfl) ?_; dsimp only)); refine Kd.R_lit k36 _ 36 ?hg (N := 6) ?hd (xs := ([(⟨2, 0, 0⟩ : S36), (⟨0, 1, 0⟩ : S36)] : List (S36))) (inner := [.int .i64 2, .int .i64 0, .int .i64 0, .int .i64 0, .int .i64 1, .int .i64 0]) (ok := fun _ => True) (okp := fun _ => True) ?hr ?hp (fun _ hk => hk) trivial (Below.refl _ _) (Nat.le_refl _) (by simp) ?_; (case hd => rfl); (case hg => rfl); (case hr => first |  (go_simp; done)|  (go_simp; rfl)|  (go_simp; rw [show ∀ x : Int, IntKind.u32.wrap (IntKind.u8.wrap x) = x % 256 from fun x => (by show (x % 256) % 4294967296 = x % 256; omega)])); (case hp => exact (Reps.c3 (show Kd.M k36 _ _ _ (⟨2, 0, 0⟩ : S36) [.int .i64 2, .int .i64 0, .int .i64 0] from (k36_mkM _ _ _ (⟨2, 0, 0⟩ : S36) )) (Reps.c3 (show Kd.M k36 _ _ _ (⟨0, 1, 0⟩ : S36) [.int .i64 0, .int .i64 1, .int .i64 0] from (k36_mkM _ _ _ (⟨0, 1, 0⟩ : S36) )) (Reps.none _ _)))); intro v127 w48 ho49 hb hg_ hnew_; clear hg_ hnew_; (first |  rw [← Ny126.out] at ho49|  (simp only [Int.reduceToNat] at ho49; rw [← Ny126.out] at ho49)); have HO128 := zMk (zRl ho49 (zBs (by exact uT HB.out))); replace HB := zMk (zBt (by exact uT HB.out) hb); clear hb ho49; obtain ⟨Ao50, co50, eo50⟩ := zRs HO128.out; subst eo50)|  ((with_reducible refine gate_callee (f := 14) rfl ?_); refine goesL_ (some 7) rfl rfl Try.func14 (by kernel_rfl) rfl #[.int .i64 3, .slice Ao50 y126.length co50] rfl (by (try simp only [zMa, zMc, zMn]); first |  done|  rfl|  (simp only [zLd, zLt]; rfl)) ?_; (with_reducible refine (graph_Make.calls k 3 _ _ y126 t129 t130 t133 _ ?side1 ?side2 A1.out).mono ?_); (case side1 => exact uC (zRr HO128.out).2.2); (case side2 => exact (zRr HO128.out).2.1); rintro e w51 ⟨v131, rfl, ho0, hb⟩; refine ⟨_, rfl, ?_⟩; have HO132 := zMk (zRl (zRw ho0 (zRt (by exact uR HO128.out))) (zBs (by exact uT HB.out))); replace HO128 := zMk (zRe (by exact uR HO128.out) (zRz ho0) hb); replace HB := zMk (zBt (by exact uT HB.out) hb); (try clear hb); (try clear hb2); (try clear hk); (try clear hi); (try clear ho0))|  ((with_reducible refine gate_dst (N := 1) rfl ?_); (try (refine gate_guard (by rfl) ?_; dsimp only)); refine box_event ?hg (N := 1) ?hd (cs := #[.int .i64 0, .slice none 0 0]) (t := 24) ?hr ?_; (case hd => rfl); (case hg => rfl); (case hr => first |  (go_simp; done)|  (go_simp; rfl)|  (go_simp; rw [show ∀ x : Int, IntKind.u32.wrap (IntKind.u8.wrap x) = x % 256 from fun x => (by show (x % 256) % 4294967296 = x % 256; omega)])); intro gb134 hg w52 hbox hb; replace HO128 := zMk (zRb (by exact uR HO128.out) hb); replace HO132 := zMk (zRb (by exact uR HO132.out) hb); have BK134 := zMk (hbox); have GW134 := zMk ((by rw [hg]; exact (zBs (by exact uT HB.out)) : w.heap.size ≤ gb134)); have GE134 := zMk ((by rw [hg]; exact (zBs (by exact uT HB.out)) : w.heap.size ≤ gb134)); have IGE134 := ownGe GE134.out; replace HB := zMk (zBt (by exact uT HB.out) hb); clear hb hbox hg; have hcz53_0 : w52.cell? ⟨gb134, 0, none⟩ = some (.int .i64 0) := (zKc BK134.out 0).trans rfl; have hcz53_1 : w52.cell? ⟨gb134, 1, none⟩ = some (.slice none 0 0) := (zKc BK134.out 1).trans rfl; have hfz53_0 := zKf BK134.out 0; have hfz53_1 := zKf BK134.out 1; obtain ⟨Ao54, co54, eo54⟩ := zRs HO132.out; subst eo54))
      go_ret
      exact ⟨by first | rfl | (simp [errW_none, errW_some] <;> rfl) | (simp [*, errW_none, errW_some] <;> rfl), by exact uT HB.out⟩
  · rw [if_neg c2] at H
    have c2b0 : (t133 == 0) = false := beq_eq_false_iff_ne.mpr c2
    have c2b1 : (t133 != 0) = true := bne_iff_ne.mpr c2
    obtain rfl := zOi H
    go_enter Try.func13, Try.ntmps13
    go_wp2_with (first |  ((with_reducible refine gate_dst (N := 6) rfl ?_); (try (refine gate_guard (by rfl) ?_; dsimp only)); refine Kd.R_lit k36 _ 36 ?hg (N := 6) ?hd (xs := ([(⟨2, 0, 0⟩ : S36), (⟨0, 1, 0⟩ : S36)] : List (S36))) (inner := [.int .i64 2, .int .i64 0, .int .i64 0, .int .i64 0, .int .i64 1, .int .i64 0]) (ok := fun _ => True) (okp := fun _ => True) ?hr ?hp (fun _ hk => hk) trivial (Below.refl _ _) (Nat.le_refl _) (by simp) ?_; (case hd => rfl); (case hg => rfl); (case hr => first |  (go_simp; done)|  (go_simp; rfl)|  (go_simp; rw [show ∀ x : Int, IntKind.u32.wrap (IntKind.u8.wrap x) = x % 256 from fun x => (by show (x % 256) % 4294967296 = x % 256; omega)])); (case hp => exact (Reps.c3 (show Kd.M k36 _ _ _ (⟨2, 0, 0⟩ : S36) [.int .i64 2, .int .i64 0, .int .i64 0] from (k36_mkM _ _ _ (⟨2, 0, 0⟩ : S36) )) (Reps.c3 (show Kd.M k36 _ _ _ (⟨0, 1, 0⟩ : S36) [.int .i64 0, .int .i64 1, .int .i64 0] from (k36_mkM _ _ _ (⟨0, 1, 0⟩ : S36) )) (Reps.none _ _)))); intro v127 w55 ho56 hb hg_ hnew_; clear hg_ hnew_; (first |  rw [← Ny126.out] at ho56|  (simp only [Int.reduceToNat] at ho56; rw [← Ny126.out] at ho56)); have HO128 := zMk (zRl ho56 (zBs (by exact uT HB.out))); replace HB := zMk (zBt (by exact uT HB.out) hb); clear hb ho56; obtain ⟨Ao57, co57, eo57⟩ := zRs HO128.out; subst eo57)|  ((with_reducible refine gate_callee (f := 14) rfl ?_); refine goesL_ (some 7) rfl rfl Try.func14 (by kernel_rfl) rfl #[.int .i64 3, .slice Ao57 y126.length co57] rfl (by (try simp only [zMa, zMc, zMn]); first |  done|  rfl|  (simp only [zLd, zLt]; rfl)) ?_; (with_reducible refine (graph_Make.calls k 3 _ _ y126 t129 t130 t133 _ ?side1 ?side2 A1.out).mono ?_); (case side1 => exact uC (zRr HO128.out).2.2); (case side2 => exact (zRr HO128.out).2.1); rintro e w58 ⟨v131, rfl, ho0, hb⟩; refine ⟨_, rfl, ?_⟩; have HO132 := zMk (zRl (zRw ho0 (zRt (by exact uR HO128.out))) (zBs (by exact uT HB.out))); replace HO128 := zMk (zRe (by exact uR HO128.out) (zRz ho0) hb); replace HB := zMk (zBt (by exact uT HB.out) hb); (try clear hb); (try clear hb2); (try clear hk); (try clear hi); (try clear ho0))|  ((with_reducible refine gate_dst (N := 1) rfl ?_); (try (refine gate_guard (by rfl) ?_; dsimp only)); refine box_event ?hg (N := 1) ?hd (cs := #[.int .i64 0, .slice none 0 0]) (t := 24) ?hr ?_; (case hd => rfl); (case hg => rfl); (case hr => first |  (go_simp; done)|  (go_simp; rfl)|  (go_simp; rw [show ∀ x : Int, IntKind.u32.wrap (IntKind.u8.wrap x) = x % 256 from fun x => (by show (x % 256) % 4294967296 = x % 256; omega)])); intro gb134 hg w59 hbox hb; replace HO128 := zMk (zRb (by exact uR HO128.out) hb); replace HO132 := zMk (zRb (by exact uR HO132.out) hb); have BK134 := zMk (hbox); have GW134 := zMk ((by rw [hg]; exact (zBs (by exact uT HB.out)) : w.heap.size ≤ gb134)); have GE134 := zMk ((by rw [hg]; exact (zBs (by exact uT HB.out)) : w.heap.size ≤ gb134)); have IGE134 := ownGe GE134.out; replace HB := zMk (zBt (by exact uT HB.out) hb); clear hb hbox hg; have hcz60_0 : w59.cell? ⟨gb134, 0, none⟩ = some (.int .i64 0) := (zKc BK134.out 0).trans rfl; have hcz60_1 : w59.cell? ⟨gb134, 1, none⟩ = some (.slice none 0 0) := (zKc BK134.out 1).trans rfl; have hfz60_0 := zKf BK134.out 0; have hfz60_1 := zKf BK134.out 1; obtain ⟨Ao61, co61, eo61⟩ := zRs HO132.out; subst eo61))
    go_ret
    exact ⟨by first | rfl | (simp [errW_none, errW_some] <;> rfl) | (simp [*, errW_none, errW_some] <;> rfl), by exact uT HB.out⟩

/- Chapter 04: what Make comes to; the chapter's example. -/
theorem alive_at0 : filigreelaw04_alive.f 1000000 = some true := by kernel_rfl
theorem alive_at1 : filigreelaw04_alive.f 999999 = some true := by kernel_rfl
def badI (n : Int) : List S36 → Int
  | [] => 0
  | e :: l => if aloneI n e = 0 then badI n l else aloneI n e
theorem bad_eq (k : Nat) (n : Int) : ∀ l : List S36, graph_Make_bad (k + 1) n l = some (badI n l)
  | [] => rfl
  | e :: l => by
    unfold graph_Make_bad badI
    rw [alone_eq, zOb, bad_eq k n l]
    by_cases h : aloneI n e = 0
    · rw [if_pos h, if_pos h]
    · rw [if_neg h, if_neg h]
def makeI (n : Int) (l : List S36) : Int × List S36 × Int :=
  if sizesI n l.length = 0 then (if badI n l = 0 then (if dupE (sortE (l.map nrmE)) then (0, [], 7) else (n, sortE (l.map nrmE), 0)) else (0, [], badI n l)) else (0, [], sizesI n l.length)
theorem Make_eq (k : Nat) (n : Int) (l : List S36) (hk : 1 ≤ k) (hl : l.length < 5864062014805) : graph_Make.f k n l = some (makeI n l) := by
  obtain ⟨k, rfl⟩ : ∃ m, k = m + 1 := ⟨k - 1, by omega⟩
  unfold graph_Make.f makeI
  rw [if_pos hl, sizes_eq, zOb, bad_eq]
  repeat' split
  all_goals simp_all
theorem alive_eq (k : Nat) (hk : 6 ≤ k) : filigreelaw04_alive.f k = some true := by
  have h1 : makeI 3 [⟨2, 0, 0⟩, ⟨0, 1, 0⟩] = (3, [⟨0, 1, 0⟩, ⟨0, 2, 0⟩], 0) := by kernel_rfl
  have h2 : rightI 3 [⟨0, 1, 0⟩, ⟨0, 2, 0⟩] = 0 := by kernel_rfl
  have h3 : api_Edge_45.f [⟨0, 1, 0⟩, ⟨0, 2, 0⟩] (mn 2 0) (mx 2 0) 0 = some (1, true) := by kernel_rfl
  have h4 : api_Edge_45.f [⟨0, 1, 0⟩, ⟨0, 2, 0⟩] (mn 1 2) (mx 1 2) 0 = some (2, false) := by kernel_rfl
  have h5 := Right_eq k 3 [⟨0, 1, 0⟩, ⟨0, 2, 0⟩] (by simpa using hk)
  rw [h2] at h5
  unfold filigreelaw04_alive.f
  rw [Make_eq k 3 _ (by omega) (by decide), zOb, h1]
  simp only [graph_Find.f, h5, zOb, if_true, h3, h4]
  rfl
/-- a list whose neighbours go up strictly -/
def upE : List S36 → Prop
  | a :: b :: l => ordE a b = -1 ∧ upE (b :: l)
  | _ => True
theorem ordE_trans {a b c : S36} (h1 : ordE a b = -1) (h2 : ordE b c = -1) : ordE a c = -1 := by
  unfold ordE at *
  repeat' split at h1
  all_goals repeat' split at h2
  all_goals repeat' split
  all_goals first | rfl | omega
theorem up_pair : ∀ {l : List S36}, upE l → l.Pairwise (fun a b => ordE a b = -1)
  | [], _ => List.Pairwise.nil
  | [a], _ => by simp
  | a :: b :: l, h => by
    have ih := up_pair h.2
    refine List.Pairwise.cons (fun c hc => ?_) ih
    rcases List.mem_cons.1 hc with rfl | hc
    · exact h.1
    · exact ordE_trans h.1 (List.rel_of_pairwise_cons ih hc)
theorem pair_up : ∀ {l : List S36}, l.Pairwise (fun a b => ordE a b = -1) → upE l
  | [], _ => trivial
  | [a], _ => trivial
  | a :: b :: l, h => ⟨List.rel_of_pairwise_cons h (by simp), pair_up h.of_cons⟩
/-- what goes up strictly is told by what it holds -/
theorem up_unique : ∀ {l m : List S36}, l.Pairwise (fun a b => ordE a b = -1) → m.Pairwise (fun a b => ordE a b = -1) → l.Perm m → l = m
  | [], m, _, _, hp => (List.nil_perm.1 hp).symm
  | a :: l, [], _, _, hp => absurd hp.length_eq (by simp)
  | a :: l, b :: m, h1, h2, hp => by
    have ha : a ∈ b :: m := hp.subset (by simp)
    have hb : b ∈ a :: l := hp.symm.subset (by simp)
    have hab : a = b := by
      rcases List.mem_cons.1 ha with h | h
      · exact h
      rcases List.mem_cons.1 hb with h' | h'
      · exact h'.symm
      · have e1 := List.rel_of_pairwise_cons h2 h
        have e2 := List.rel_of_pairwise_cons h1 h'
        have := ordE_swap a b
        omega
    subst hab
    rw [up_unique h1.of_cons h2.of_cons hp.cons_inv]
theorem ordI_ordE (a b : S36) : ordI a.f0 a.f1 b.f0 b.f1 = ordE a b := by
  unfold ordI cmpI ordE
  repeat' split
  all_goals omega
theorem sortE_le (l : List S36) : (sortE l).Pairwise (fun a b => ordE b a ≠ -1) := by
  have h := (sortE_facts l).2
  rw [List.pairwise_iff_getElem]
  intro i j hi hj hij
  have h2 := h i j (Nat.zero_le _) hij (by rw [List.size_toArray, ← sortE_length]; exact hj)
  rw [ltE] at h2
  have e1 : (sortE l).toArray[i]! = (sortE l)[i] := by simp [hi]
  have e2 : (sortE l).toArray[j]! = (sortE l)[j] := by simp [hj]
  rw [e1, e2] at h2
  have h3 := of_decide_eq_false h2
  unfold ordE
  repeat' split
  all_goals omega
theorem dup_up : ∀ {l : List S36}, l.Pairwise (fun a b => ordE b a ≠ -1) → dupE l = false → upE l
  | [], _, _ => trivial
  | [a], _, _ => trivial
  | a :: b :: l, h, hd => by
    unfold dupE at hd
    rw [Bool.or_eq_false_iff, decide_eq_false_iff_not, ordI_ordE] at hd
    refine ⟨?_, dup_up h.of_cons hd.2⟩
    have h1 := List.rel_of_pairwise_cons h (List.mem_cons_self (a := b) (l := l))
    have := ordE_swap a b
    rcases ordE_cases a b with h2 | h2 | h2 <;> omega
theorem up_dup : ∀ {l : List S36}, upE l → dupE l = false
  | [], _ => rfl
  | [a], _ => rfl
  | a :: b :: l, h => by
    unfold dupE
    rw [ordI_ordE, h.1, up_dup h.2]
    rfl
theorem sortE_dup_up (l : List S36) (h : dupE (sortE l) = false) : (sortE l).Pairwise (fun a b => ordE a b = -1) := up_pair (dup_up (sortE_le l) h)
/-- a list that goes up strictly, in any order: sorted it is that list -/
theorem sortE_of_up {l m : List S36} (h : l.Pairwise (fun a b => ordE a b = -1)) (hp : m.Perm l) : sortE m = l := by
  have hperm : (sortE m).Perm l := (sortE_perm m).trans hp
  have hle := sortE_le m
  have hne : (sortE m).Pairwise (fun a b => ordE a b ≠ 0) := by
    refine List.Pairwise.perm (R := fun a b => ordE a b ≠ 0) (l := l) ?_ hperm.symm ?_
    · exact h.imp (fun h' => by omega)
    · intro a b h'; rw [ordE_swap]; omega
  refine up_unique ?_ h hperm
  refine (hle.and hne).imp (fun {a b} ⟨h1, h2⟩ => ?_)
  have := ordE_swap a b
  rcases ordE_cases a b with h3 | h3 | h3 <;> omega
theorem right_iff (n : Int) (l : List S36) : rightI n l = 0 ↔ sizesI n l.length = 0 ∧ (∀ e ∈ l, aloneI n e = 0 ∧ e.f0 ≤ e.f1) ∧ upE l := by
  have key : ∀ (l : List S36) (p : Option S36), rgt n p l = 0 ↔ (∀ e ∈ l, aloneI n e = 0 ∧ e.f0 ≤ e.f1) ∧ (match p with | none => upE l | some p => upE (p :: l)) := by
    intro l
    induction l with
    | nil => intro p; cases p <;> simp [rgt, upE]
    | cons e l ih =>
      intro p
      unfold rgt
      by_cases h0 : aloneI n e = 0
      · rw [if_neg (not_not_intro h0)]
        by_cases h1 : e.f0 > e.f1
        · rw [if_pos h1]
          constructor
          · intro h; omega
          · intro h; have := (h.1 e (by simp)).2; omega
        · rw [if_neg h1]
          cases p with
          | none =>
            simp only [ih, List.mem_cons, forall_eq_or_imp]
            constructor
            · intro h; exact ⟨⟨⟨h0, by omega⟩, h.1⟩, h.2⟩
            · intro h; exact ⟨h.1.2, h.2⟩
          | some p =>
            simp only [List.mem_cons, forall_eq_or_imp, upE]
            rcases ordE_cases p e with h2 | h2 | h2
            · rw [if_neg (by omega), if_neg (by omega), ih]
              constructor
              · intro h; exact ⟨⟨⟨h0, by omega⟩, h.1⟩, h2, h.2⟩
              · intro h; exact ⟨h.1.2, h.2.2⟩
            · rw [if_pos h2]
              constructor
              · intro h; omega
              · intro h; have := h.2.1; omega
            · rw [if_neg (by omega), if_pos h2]
              constructor
              · intro h; omega
              · intro h; have := h.2.1; omega
      · rw [if_pos h0]
        constructor
        · intro h; exact absurd h h0
        · intro h; exact absurd (h.1 e (by simp)).1 h0
  unfold rightI
  by_cases h : sizesI n l.length = 0
  · rw [if_pos h, key l none]
    exact ⟨fun x => ⟨h, x⟩, fun x => x.2⟩
  · rw [if_neg h]
    exact ⟨fun x => absurd x h, fun x => absurd x.1 h⟩
theorem bad_iff (n : Int) : ∀ l : List S36, badI n l = 0 ↔ ∀ e ∈ l, aloneI n e = 0
  | [] => by simp [badI]
  | e :: l => by
    unfold badI
    by_cases h : aloneI n e = 0
    · rw [if_pos h, bad_iff n l]; simp [h]
    · rw [if_neg h]; simp [h]
theorem alone_nrm (n : Int) (e : S36) : aloneI n (nrmE e) = aloneI n e := by
  unfold nrmE aloneI
  by_cases h1 : e.f1 < e.f0 <;> by_cases h2 : e.f0 < e.f1 <;> simp only [h1, h2, if_true, if_false]
  all_goals repeat' split
  all_goals first | rfl | omega
theorem nrm_le (e : S36) : (nrmE e).f0 ≤ (nrmE e).f1 := by
  unfold nrmE
  by_cases h1 : e.f1 < e.f0 <;> by_cases h2 : e.f0 < e.f1 <;> simp only [h1, h2, if_true, if_false] <;> omega
theorem nrm_of_le {e : S36} (h : e.f0 ≤ e.f1) : nrmE e = e := by
  obtain ⟨a, b, c⟩ := e
  unfold nrmE
  simp only at h ⊢
  rw [if_neg (by omega)]
  by_cases h2 : a < b
  · rw [if_pos h2]
  · rw [if_neg h2]
    have : a = b := by omega
    rw [this]
theorem nrm_swap (e : S36) : nrmE ⟨e.f1, e.f0, e.f2⟩ = nrmE e := by
  unfold nrmE
  simp only
  by_cases h1 : e.f1 < e.f0 <;> by_cases h2 : e.f0 < e.f1 <;> simp only [h1, h2, if_true, if_false]
  · omega
  · have : e.f0 = e.f1 := by omega
    rw [this]
theorem size_sortE (n : Int) (l : List S36) : sizesI n (sortE (l.map nrmE)).length = sizesI n l.length := by rw [sortE_length, List.length_map]
/-- what Make makes is right -/
theorem make_right (n : Int) (l : List S36) (h : (makeI n l).2.2 = 0) : rightI (makeI n l).1 (makeI n l).2.1 = 0 ∧ makeI n l = (n, sortE (l.map nrmE), 0) := by
  unfold makeI at h ⊢
  by_cases h1 : sizesI n l.length = 0
  · rw [if_pos h1] at h ⊢
    by_cases h2 : badI n l = 0
    · rw [if_pos h2] at h ⊢
      by_cases h3 : dupE (sortE (l.map nrmE)) = true
      · rw [if_pos h3] at h; simp at h
      · rw [if_neg h3] at h ⊢
        refine ⟨(right_iff _ _).2 ⟨(size_sortE n l).trans h1, fun e he => ?_, dup_up (sortE_le _) (by simpa using h3)⟩, rfl⟩
        obtain ⟨e', he', rfl⟩ := List.mem_map.1 ((sortE_perm _).subset he)
        exact ⟨(alone_nrm n e').trans ((bad_iff n l).1 h2 e' he'), nrm_le e'⟩
    · rw [if_neg h2] at h; exact absurd h h2
  · rw [if_neg h1] at h; exact absurd h h1
/-- a right graph is made of its edges again -/
theorem make_again (n : Int) (E l : List S36) (hr : rightI n E = 0) (hp : (l.map nrmE).Perm E) : makeI n l = (n, E, 0) := by
  obtain ⟨h1, h2, h3⟩ := (right_iff n E).1 hr
  have hlen : l.length = E.length := by rw [← hp.length_eq, List.length_map]
  have hs : sortE (l.map nrmE) = E := sortE_of_up (up_pair h3) hp
  unfold makeI
  rw [hlen, if_pos h1, hs, up_dup h3, if_pos ((bad_iff n l).2 fun e he => ?_)]
  · rfl
  · rw [← alone_nrm]
    exact (h2 _ (hp.subset (List.mem_map_of_mem he))).1

/-! ### filigreeref04_Make: function 15 -/
-- beside graph_Make, graph_order, filigreeref04_many, filigreeref04_edge, filigreeref04_below
/-- below: by the ends -/
def mkBelow (a b : S36) : Bool := decide (a.f0 < b.f0) || (decide (a.f0 = b.f0) && decide (a.f1 < b.f1))
theorem mkBelow_f (a b : S36) : filigreeref04_below.f a.f0 a.f1 a.f2 b.f0 b.f1 b.f2 = some (mkBelow a b) := by
  unfold filigreeref04_below.f mkBelow
  by_cases h : a.f0 < b.f0
  · rw [if_pos h, decide_eq_true h, Bool.true_or]
  · rw [if_neg h, decide_eq_false h, Bool.false_or]
    by_cases h2 : a.f0 = b.f0
    · rw [if_pos h2, decide_eq_true h2, Bool.true_and]
    · rw [if_neg h2, decide_eq_false h2, Bool.false_and]
/-- where an edge goes in: behind all that are not above it, from the end on -/
def mkAt (e : S36) (g : List S36) : Nat → Nat
  | 0 => 0
  | k + 1 => if mkBelow e (rd_T36 g (k : Int)) = true then mkAt e g k else k + 1
theorem mkAt_le (e : S36) (g : List S36) : ∀ k : Nat, mkAt e g k ≤ k
  | 0 => Nat.le_refl _
  | k + 1 => by
    unfold mkAt
    split
    · exact Nat.le_succ_of_le (mkAt_le e g k)
    · exact Nat.le_refl _
def mkNrm (e : S36) : S36 := if e.f0 > e.f1 then ⟨e.f1, e.f0, e.f2⟩ else e
def mkTw (e : S36) (g : List S36) : Nat → Bool
  | 0 => false
  | k + 1 => !mkBelow (rd_T36 g (k : Int)) e
def mkPut (e : S36) (g : List S36) (k : Nat) : List S36 := g.take k ++ [e] ++ g.drop k
theorem mkPut_length (e : S36) (g : List S36) (k : Nat) : (mkPut e g k).length = g.length + 1 := by
  unfold mkPut
  simp only [List.length_append, zLt, zLd, zLc, zLn]
  omega
def mkLoop (k : Nat) (n : Int) : List S36 → List S36 → Bool → Option (Int × List S36 × Int)
  | [], g, tw => some (if tw = true then (0, [], 7) else (n, g, 0))
  | x :: l, g, tw => (filigreeref04_edge.f k n x.f0 x.f1 x.f2).bind fun q => if q = 0 then mkLoop k n l (mkPut (mkNrm x) g (mkAt (mkNrm x) g g.length)) (tw || mkTw (mkNrm x) g (mkAt (mkNrm x) g g.length)) else some (0, [], q)
def filigreeref04_Make.f (k : Nat) (n : Int) (l : List S36) : Option (Int × List S36 × Int) :=
  (filigreeref04_many.f n (l.length : Int)).bind fun q => if q = 0 then (if l.length ≤ 4194304 then mkLoop k n l [] false else none) else some (0, [], q)
theorem mk_rd (l : List S36) (i : Nat) (h : i < l.length) : rd_T36 l (i : Int) = l[i] := by
  unfold rd_T36
  rw [zTn]
  simp [h]
structure MkS (w W : World) (b : Nat) (n : Int) (A : Option Addr) (c : Nat) (gs : List S36) : Prop where
  hB : Below w.heap.size w W
  h4 : W.heap[w.heap.size]? = some (.cells #[.int .i64 0, .slice none 0 0] 24 (0, 0))
  h7 : W.heap[b]? = some (.cells #[.int .i64 n, .slice A gs.length c] 24 (0, 0))
  hR : Kd.R k36 36 W w.heap.size (fun _ => True) (.slice A gs.length c) gs
  hb : w.heap.size < b
theorem MkS.below {w W W' : World} {b : Nat} {n : Int} {A : Option Addr} {c : Nat} {gs : List S36} (h : MkS w W b n A c gs) (hb : Below W.heap.size W W') : MkS w W' b n A c gs :=
  ⟨zBt h.hB hb, zKb h.h4 hb, zKb h.h7 hb, zRb h.hR hb, h.hb⟩
theorem mk_results {P : Program} {fn : Func} {p u : Tmp} {ty : TypeId} (h : fn.results = #[.cell p ty, .tmp u]) (tmps : Array Value) (w : World) (g : Nat) (t : TypeId) (cs : Array Value) (fr : Nat × Nat) (d : TypeDesc)
    (hp : tmps.getD p undef = .pointer (some ⟨g, 0, none⟩)) (hg : w.heap[g]? = some (.cells cs t fr))
    (hu : P.underlying ty = some d) (hd : (match d with | .struct _ | .array _ _ => true | _ => false) = true) (hi : (P.info? ty).map (·.size) = some cs.size) :
    (results fn tmps).run P w = .ok (.tuple #[.agg cs, tmps.getD u undef]) w := by
  rw [results_cell_tmp h, hp]
  simp [asAddr, run_loadVar_row w g t ty cs fr d hg hu hd hi]
set_option maxHeartbeats 8000000 in
set_option maxRecDepth 100000 in
theorem filigreeref04_Make.calls (k : Nat) (n : Int) (A0 : Option Addr) (c0 : Nat) (l0 : List S36) (r1 : Int) (r2 : List S36) (r3 : Int) (w : World) (hr0 : Kd.C k36 w A0 l0.length l0) (hc0 : l0.length ≤ c0) (h : filigreeref04_Make.f k n l0 = some (r1, r2, r3)) :
    Calls Try.prog 15 #[.int .i64 n, .slice A0 l0.length c0] w fun e w' => ∃ v1_ : Value, e = .returned (.tuple #[.agg #[.int .i64 r1, v1_], .int .i64 r3]) ∧ Kd.R k36 36 w' w.heap.size (fun _ => True) v1_ r2 ∧ Below w.heap.size w w' := by
  have hu24 := Try.underlying24
  have hu36 := Try.underlying36
  have HR := zMk hr0
  have HC := zMk hc0
  unfold filigreeref04_Make.f at h
  obtain ⟨q, hq, h⟩ := Option.bind_eq_some_iff.1 h
  have HQ := fun W => filigreeref04_many.calls n l0.length q W hq
  have HZ := fun W : World => Kd.R_nil k36 36 W w.heap.size (fun _ => True)
  clear hr0 hc0 hq
  by_cases hq0 : q = 0
  rotate_left
  · rw [if_neg hq0] at h
    have qb : (q != 0) = true := bne_iff_ne.mpr hq0
    obtain ⟨rfl, rfl, rfl⟩ : (0 : Int) = r1 ∧ [] = r2 ∧ q = r3 := by simpa using h
    clear h
    go_enter Try.func15, Try.ntmps15
    go_wp2_with (go_at_call 35; refine (HQ _).mono ?_; rintro e w' ⟨rfl, nd, rfl⟩; have BZ := zKn (heap_alloc_new w (.cells #[Value.int .i64 0, .slice none 0 0] 24)) nd; have hz0 := box_cell (c := 0) (v := .int .i64 0) BZ rfl; have hz1 := box_cell (c := 1) (v := .slice none 0 0) BZ rfl; have hzf0 := box_frozen (c := 0) BZ; have hzf1 := box_frozen (c := 1) BZ)
    refine bodyPost_ret (mk_results rfl _ _ w.heap.size 24 #[.int .i64 0, .slice none 0 0] (0, 0) _ rfl (by first | exact blk_setCell_same (blk_setCell_same BZ)) Try.underlying24 rfl (by kernel_rfl)) rfl ?_
    exact ⟨.slice none 0 0, rfl, HZ _, below_set (below_set (zBn (zBa (Below.refl w.heap.size w) _) nd) (Nat.le_refl _)) (Nat.le_refl _)⟩
  subst hq0
  rw [if_pos rfl] at h
  by_cases hll : l0.length ≤ 4194304
  rotate_left
  · rw [if_neg hll] at h; cases h
  rw [if_pos hll] at h
  have qb : ((0 : Int) != 0) = false := rfl
  have HH := zMk h
  clear h
  go_enter Try.func15, Try.ntmps15
  go_upto_region 5 with (go_at_call 35; refine (HQ _).mono ?_; rintro e w' ⟨rfl, nd, rfl⟩)
  have hg0 : ((w.alloc (.cells #[Value.int .i64 0, .slice none 0 0] 24)).drewN nd).heap.size = w.heap.size + 1 := by show (w.heap.push _).size = _; simp
  have MS0 : MkS w (((w.alloc (Obj.cells #[Value.int .i64 0, Value.slice none 0 0] 24)).drewN nd).alloc (Obj.cells #[Value.int .i64 n, Value.slice none 0 0] 24)) (w.heap.size + 1) n none 0 [] :=
    ⟨zBa (zBn (zBa (Below.refl _ _) _) nd) _, zKa (zKn (heap_alloc_new w _) nd) _, hg0 ▸ heap_alloc_new ((w.alloc (Obj.cells #[Value.int .i64 0, Value.slice none 0 0] 24)).drewN nd) _, HZ _, Nat.lt_succ_self _⟩
  generalize (((w.alloc (Obj.cells #[Value.int .i64 0, Value.slice none 0 0] 24)).drewN nd).alloc (Obj.cells #[Value.int .i64 n, Value.slice none 0 0] 24)) = w1 at MS0 ⊢
  have MSA := zMk MS0
  clear MS0 hg0
  obtain ⟨gb, hgb⟩ : ∃ gb, gb = w.heap.size + 1 := ⟨_, rfl⟩
  rw [← hgb] at MSA ⊢
  have HGB := zMk hgb
  clear hgb
  go_wp2
  go_loopg [8, 9] l0.length (fun kx s8 s9 wr => ∃ (i : Nat) (tw : Bool) (gs : List S36) (A : Option Addr) (c : Nat), s8 = .bool tw ∧ s9 = .int .i64 i ∧ i ≤ l0.length ∧ l0.length - i ≤ kx ∧ gs.length = i ∧ Aside0 (MkS w wr gb n A c gs) ∧ Aside0 (mkLoop k n (l0.drop i) gs tw = some (r1, r2, r3)))
  case atStart => exact ⟨0, false, [], none, 0, rfl, rfl, Nat.zero_le _, Nat.le_refl _, rfl, MSA, zMk HH.out⟩
  clear HH MSA
  obtain ⟨i, tw, gs, A, c, rfl, rfl, hi, hg3, hgs, MSA, HH⟩ := hrel
  by_cases hlt : i < l0.length
  rotate_left
  · obtain rfl : i = l0.length := by omega
    have h := HH.out
    rw [List.drop_length, mkLoop] at h
    cases tw with
    | true =>
      obtain ⟨rfl, rfl, rfl⟩ : (0 : Int) = r1 ∧ [] = r2 ∧ (7 : Int) = r3 := by simpa using h
      clear h HH
      have hz0 := box_cell (c := 0) (v := .int .i64 0) MSA.out.h4 rfl
      have hz1 := box_cell (c := 1) (v := .slice none 0 0) MSA.out.h4 rfl
      have hzf0 := box_frozen (c := 0) MSA.out.h4
      have hzf1 := box_frozen (c := 1) MSA.out.h4
      go_wp2
      refine bodyPost_ret (mk_results rfl _ _ w.heap.size 24 #[.int .i64 0, .slice none 0 0] (0, 0) _ rfl (blk_setCell_same (blk_setCell_same MSA.out.h4)) Try.underlying24 rfl (by kernel_rfl)) rfl ?_
      exact ⟨.slice none 0 0, rfl, HZ _, below_set (below_set MSA.out.hB (Nat.le_refl _)) (Nat.le_refl _)⟩
    | false =>
      obtain ⟨rfl, rfl, rfl⟩ : n = r1 ∧ gs = r2 ∧ (0 : Int) = r3 := by simpa using h
      clear h HH
      have hz0 := box_cell (c := 0) (v := .int .i64 0) MSA.out.h4 rfl
      have hz1 := box_cell (c := 1) (v := .slice none 0 0) MSA.out.h4 rfl
      have hzf0 := box_frozen (c := 0) MSA.out.h4
      have hzf1 := box_frozen (c := 1) MSA.out.h4
      have hy0 := box_cell (c := 0) (v := .int .i64 n) MSA.out.h7 rfl
      have hy1 := box_cell (c := 1) (v := .slice A gs.length c) MSA.out.h7 rfl
      go_wp2
      refine bodyPost_ret (mk_results rfl _ _ w.heap.size 24 #[.int .i64 n, .slice A l0.length c] (0, 0) _ rfl (blk_setCell_same (blk_setCell_same MSA.out.h4)) Try.underlying24 rfl (by kernel_rfl)) rfl ?_
      have hRR := MSA.out.hR
      rw [hgs] at hRR
      exact ⟨_, rfl, zRm (Kd.R_far (Kd.R_far (Kd.R_types hRR MSA.out.h4 (by decide)) (fun _ hk => hk.2) _) (fun _ hk => hk.2) _) (fun _ _ => trivial), below_set (below_set MSA.out.hB (Nat.le_refl _)) (Nat.le_refl _)⟩
  · have h := HH.out
    clear HH
    have hdr : l0.drop i = rd_T36 l0 (i : Int) :: l0.drop (i + 1) := by rw [List.drop_eq_getElem_cons hlt, mk_rd l0 i hlt]
    rw [hdr, mkLoop] at h
    clear hdr
    obtain ⟨q, hq, h⟩ := Option.bind_eq_some_iff.1 h
    have d0 : 0 ≤ (i : Int) := Int.natCast_nonneg i
    have d1 : (i : Int) < (l0.length : Int) := by omega
    obtain ⟨ad, e, hx0, hx1, hx2⟩ := at_T36 HR.out (i : Int) d0 d1
    cases e
    replace hx0 := (MSA.out.hB.cell (World.block_lt_of_cell? w _ hx0)).trans hx0
    replace hx1 := (MSA.out.hB.cell (World.block_lt_of_cell? w _ hx1)).trans hx1
    replace hx2 := (MSA.out.hB.cell (World.block_lt_of_cell? w _ hx2)).trans hx2
    simp only [zTn] at hx0 hx1 hx2
    replace d0 := eq_true d0
    replace d1 := eq_true d1
    generalize rd_T36 l0 (i : Int) = x at hx0 hx1 hx2 hq h
    have HE := fun W => filigreeref04_edge.calls k n x.f0 x.f1 x.f2 q W hq
    clear hq
    have HH := zMk h
    clear h
    obtain ⟨be, hbe⟩ : ∃ be, be = wr.heap.size := ⟨_, rfl⟩
    go_upto_region 11 with (go_at_call 36; refine (HE _).mono ?_; rintro e w9 ⟨rfl, hb9⟩; have BE := zMk (zKb (heap_alloc_new wr (.cells #[Value.int .i64 x.f0, .int .i64 x.f1, .int .i64 x.f2] 36)) hb9); have HB := zMk (zBt (zBa (Below.refl wr.heap.size wr) (.cells #[Value.int .i64 x.f0, .int .i64 x.f1, .int .i64 x.f2] 36)) hb9); clear hb9)
    rw [← hbe] at BE ⊢
    have HBE := zMk hbe
    clear hbe hx0 hx1 hx2 d0 d1 HE
    have M9 := zMk (MSA.out.below HB.out)
    have h := HH.out
    clear HH
    by_cases hq0 : q = 0
    rotate_left
    · rw [if_neg hq0] at h
      have qb : (q != 0) = true := bne_iff_ne.mpr hq0
      obtain ⟨rfl, rfl, rfl⟩ : (0 : Int) = r1 ∧ [] = r2 ∧ q = r3 := by simpa using h
      clear h
      have hz0 := box_cell (c := 0) (v := .int .i64 0) M9.out.h4 rfl
      have hz1 := box_cell (c := 1) (v := .slice none 0 0) M9.out.h4 rfl
      have hzf0 := box_frozen (c := 0) M9.out.h4
      have hzf1 := box_frozen (c := 1) M9.out.h4
      go_wp2
      refine bodyPost_ret (mk_results rfl _ _ w.heap.size 24 #[.int .i64 0, .slice none 0 0] (0, 0) _ rfl (blk_setCell_same (blk_setCell_same M9.out.h4)) Try.underlying24 rfl (by kernel_rfl)) rfl ?_
      exact ⟨.slice none 0 0, rfl, HZ _, below_set (below_set M9.out.hB (Nat.le_refl _)) (Nat.le_refl _)⟩
    subst hq0
    rw [if_pos rfl] at h
    have HH := zMk h
    clear h M9
    have hz0 := box_cell (c := 0) (v := .int .i64 x.f0) BE.out rfl
    have hz1 := box_cell (c := 1) (v := .int .i64 x.f1) BE.out rfl
    have hz2 := box_cell (c := 2) (v := .int .i64 x.f2) BE.out rfl
    have hzf0 := box_frozen (c := 0) BE.out
    have hzf1 := box_frozen (c := 1) BE.out
    have hzf2 := box_frozen (c := 2) BE.out
    go_upto_if 44 with (fail)
    go_cut [] from 23 to 99 (fun wc => ∃ y : S36, Aside0 (y = mkNrm x) ∧ Aside0 (wc.heap[be]? = some (.cells #[.int .i64 y.f0, .int .i64 y.f1, .int .i64 y.f2] 36 (0, 0))) ∧ Aside0 (Below wr.heap.size wr wc))
    case first =>
      by_cases hc : x.f1 < x.f0
      · have hcd : decide (x.f1 < x.f0) = true := decide_eq_true hc
        have HCC := zMk hc
        clear hc
        rw [hcd]
        go_wp2
        go_meet
        case rel => exact ⟨⟨x.f1, x.f0, x.f2⟩, zMk (by unfold mkNrm; rw [if_pos (by have := HCC.out; omega)]), zMk (blk_setCell_same (blk_setCell_same (blk_setCell_same BE.out))), zMk (below_set (below_set (below_set HB.out (by rw [HBE.out]; exact Nat.le_refl _)) (by rw [HBE.out]; exact Nat.le_refl _)) (by rw [HBE.out]; exact Nat.le_refl _))⟩
      · have hcd : decide (x.f1 < x.f0) = false := decide_eq_false hc
        have HCC := zMk hc
        clear hc
        rw [hcd]
        go_wp2
        go_meet
        case rel => exact ⟨x, zMk (by unfold mkNrm; rw [if_neg (by have := HCC.out; omega)]), BE, HB⟩
    case rest =>
      clear BE HB hz0 hz1 hz2 hzf0 hzf1 hzf2
      obtain ⟨y, HY, BE, HB⟩ := hcut
      obtain ⟨wo, hwo⟩ : ∃ wo : World, wo = wr := ⟨wr, rfl⟩
      subst hwo
      have hy0 := box_cell (c := 0) (v := .int .i64 n) (MSA.out.below HB.out).h7 rfl
      have hy1 := box_cell (c := 1) (v := .slice A gs.length c) (MSA.out.below HB.out).h7 rfl
      have HGS := zMk hgs
      clear hgs
      go_wp2
      clear hy0 hy1
      go_loopg [12] gs.length (fun kx s12 wi => ∃ j : Nat, s12 = .int .i64 j ∧ j ≤ gs.length ∧ j ≤ kx ∧ Aside0 (wi.heap[be]? = some (.cells #[.int .i64 y.f0, .int .i64 y.f1, .int .i64 y.f2] 36 (0, 0))) ∧ Aside0 (Below wo.heap.size wo wi) ∧ Aside0 (mkAt y gs gs.length = mkAt y gs j))
      case atStart => exact ⟨gs.length, rfl, Nat.le_refl _, Nat.le_refl _, BE, HB, zMk rfl⟩
      clear BE HB
      obtain ⟨j, rfl, hj, hjx, BE, HB, HA⟩ := hrel
      go_upto_region 16 with (fail)
      go_cut [66] from 55 to 68 (fun v66 wc => ∃ b : Bool, v66 = .bool b ∧ Aside0 (b = (decide (0 < j) && mkBelow y (rd_T36 gs ((j - 1 : Nat) : Int)))) ∧ Aside0 (wc.heap[be]? = some (.cells #[.int .i64 y.f0, .int .i64 y.f1, .int .i64 y.f2] 36 (0, 0))) ∧ Aside0 (Below wo.heap.size wo wc))
      case first =>
        by_cases hj0 : j = 0
        · subst hj0
          have p6 : decide ((0 : Int) < 0) = false := rfl
          refine start_ (n := 12) (S := fun w' => True) (ds := []) #[false, false, false, false, false, false, false, false, false, false, false, false] (by kernel_rfl) rfl rfl trivial (fun hHeld => ?_)
          refine pure_ (i := 0) (N := some 55) (v := ?_) (a' := ?_) #[true, false, false, false, false, false, false, false, false, false, false, false] rfl rfl (by kernel_rfl) (fun _ _ _ h => h) (Or.inl ⟨by rfl, ?_⟩) ?_ ?_
          rotate_left
          · intro w'
            go_simp
            with_reducible rfl
          rotate_left
          · simp only [Act.put, zSa, zSb, zSc, i64_w, i32_w]
            rfl
          refine pure_ (i := 1) (N := some 56) (v := ?_) (a' := ?_) #[true, true, false, false, false, false, false, false, false, false, false, false] rfl rfl (by kernel_rfl) (fun _ _ _ h => h) (Or.inl ⟨by rfl, ?_⟩) ?_ ?_
          rotate_left
          · intro w'
            go_simp
            with_reducible rfl
          rotate_left
          · simp only [Act.put, zSa, zSb, zSc, i64_w, i32_w]
            rfl
          refine pure_ (i := 2) (N := some 57) (v := ?_) (a' := ?_) #[true, true, true, false, false, false, false, false, false, false, false, false] rfl rfl (by kernel_rfl) (fun _ _ _ h => h) (Or.inl ⟨by rfl, ?_⟩) ?_ ?_
          rotate_left
          · intro w'
            go_simp
            with_reducible rfl
          rotate_left
          · simp only [Act.put, zSa, zSb, zSc, i64_w, i32_w]
            rfl
          refine pure_ (i := 3) (N := some 58) (v := undef) (a' := ?_) #[true, true, true, true, false, false, false, false, false, false, false, false] rfl rfl (by kernel_rfl) (fun _ _ _ h => h) (Or.inr ⟨by rfl, rfl⟩) ?_ ?_
          rotate_left
          · simp only [Act.put, zSa, zSb, zSc, i64_w, i32_w]
            rfl
          refine pure_ (i := 4) (N := some 59) (v := undef) (a' := ?_) #[true, true, true, true, true, false, false, false, false, false, false, false] rfl rfl (by kernel_rfl) (fun _ _ _ h => h) (Or.inr ⟨by rfl, rfl⟩) ?_ ?_
          rotate_left
          · simp only [Act.put, zSa, zSb, zSc, i64_w, i32_w]
            rfl
          refine pure_ (i := 5) (N := some 60) (v := undef) (a' := ?_) #[true, true, true, true, true, true, false, false, false, false, false, false] rfl rfl (by kernel_rfl) (fun _ _ _ h => h) (Or.inr ⟨by rfl, rfl⟩) ?_ ?_
          rotate_left
          · simp only [Act.put, zSa, zSb, zSc, i64_w, i32_w]
            rfl
          refine pure_ (i := 6) (N := some 61) (v := undef) (a' := ?_) #[true, true, true, true, true, true, true, false, false, false, false, false] rfl rfl (by kernel_rfl) (fun _ _ _ h => h) (Or.inr ⟨by rfl, rfl⟩) ?_ ?_
          rotate_left
          · simp only [Act.put, zSa, zSb, zSc, i64_w, i32_w]
            rfl
          refine pure_ (i := 7) (N := some 62) (v := undef) (a' := ?_) #[true, true, true, true, true, true, true, true, false, false, false, false] rfl rfl (by kernel_rfl) (fun _ _ _ h => h) (Or.inr ⟨by rfl, rfl⟩) ?_ ?_
          rotate_left
          · simp only [Act.put, zSa, zSb, zSc, i64_w, i32_w]
            rfl
          refine pure_ (i := 8) (N := some 63) (v := undef) (a' := ?_) #[true, true, true, true, true, true, true, true, true, false, false, false] rfl rfl (by kernel_rfl) (fun _ _ _ h => h) (Or.inr ⟨by rfl, rfl⟩) ?_ ?_
          rotate_left
          · simp only [Act.put, zSa, zSb, zSc, i64_w, i32_w]
            rfl
          refine pure_ (i := 9) (N := some 64) (v := undef) (a' := ?_) #[true, true, true, true, true, true, true, true, true, true, false, false] rfl rfl (by kernel_rfl) (fun _ _ _ h => h) (Or.inr ⟨by rfl, rfl⟩) ?_ ?_
          rotate_left
          · simp only [Act.put, zSa, zSb, zSc, i64_w, i32_w]
            rfl
          refine pure_ (i := 10) (N := some 65) (v := undef) (a' := ?_) #[true, true, true, true, true, true, true, true, true, true, true, false] rfl rfl (by kernel_rfl) (fun _ _ _ h => h) (Or.inr ⟨by rfl, rfl⟩) ?_ ?_
          rotate_left
          · simp only [Act.put, zSa, zSb, zSc, i64_w, i32_w]
            rfl
          refine pure_ (i := 11) (N := some 66) (v := ?_) (a' := ?_) #[true, true, true, true, true, true, true, true, true, true, true, true] rfl rfl (by kernel_rfl) (fun _ _ _ h => h) (Or.inl ⟨by rfl, ?_⟩) ?_ ?_
          rotate_left
          · intro w'
            go_simp
            with_reducible rfl
          rotate_left
          · simp only [Act.put, zSa, zSb, zSc, i64_w, i32_w]
            rfl
          refine done_ (by kernel_rfl) ?_
          try go_wp2
          go_meet
          case rel => exact ⟨false, rfl, zMk rfl, zMk (zKd BE.out), zMk (zBd HB.out)⟩
        · obtain ⟨j, rfl⟩ : ∃ m, j = m + 1 := ⟨j - 1, by omega⟩
          have HB5 := zMk (zBd HB.out)
          have BE5 := zMk (zKd BE.out)
          refine wp_region_still_tail 10 (by kernel_rfl) (by kernel_rfl) ?_
          generalize hw5 : wr.drew = w5 at HB5 BE5
          show wpStill _ _ wr.drew (fun a' => wpList _ _ _ _ a' wr.drew) _ _
          rw [hw5]
          clear hw5
          have M5 := MSA.out.below HB5.out
          have d0 : 0 ≤ (j : Int) := Int.natCast_nonneg j
          have d1 : (j : Int) < (gs.length : Int) := by omega
          obtain ⟨ag, e, kx0, kx1, kx2⟩ := at_T36 (zRr M5.hR).2.2 (j : Int) d0 d1
          cases e
          simp only [zTn] at kx0 kx1 kx2
          have hj1 : (((j + 1 : Nat) : Int) - 1) = (j : Int) := by omega
          obtain ⟨z, hz⟩ : ∃ z, z = rd_T36 gs (j : Int) := ⟨_, rfl⟩
          rw [← hz] at kx0 kx1 kx2
          have HZZ := zMk hz
          clear hz
          have HBW := fun W => filigreeref04_below.calls y.f0 y.f1 y.f2 z.f0 z.f1 z.f2 _ W (mkBelow_f y z)
          have hy0 := box_cell (c := 0) (v := .int .i64 n) M5.h7 rfl
          have hy1 := box_cell (c := 1) (v := .slice (some ag) gs.length c) M5.h7 rfl
          have hz0 := box_cell (c := 0) (v := .int .i64 y.f0) BE5.out rfl
          have hz1 := box_cell (c := 1) (v := .int .i64 y.f1) BE5.out rfl
          have hz2 := box_cell (c := 2) (v := .int .i64 y.f2) BE5.out rfl
          have p3 : (0 ≤ (j : Int) + 1) = True := eq_true (by omega)
          have p6 : (0 < (j : Int) + 1) = True := eq_true (by omega)
          have p7 : (0 ≤ (j : Int)) = True := eq_true (by omega)
          have p8 : ((j : Int) < (gs.length : Int)) = True := eq_true (by omega)
          have hwj : IntKind.i64.wrap (j : Int) = (j : Int) := IntWalk.i64_in _ ⟨by omega, by have := HGS.out; omega⟩
          clear M5 d0 d1
          simp only [List.take_succ_cons, List.take_zero, List.drop_succ_cons, List.drop_zero]
          repeat still_step
          refine wpStill_nil ?_
          clear hwj
          go_wp2_with (go_at_call 37; refine (HBW _).mono ?_; rintro e w6 ⟨rfl, hb⟩; have HB6 := zMk (zBt HB5.out hb); have BE6 := zMk (zKb BE5.out hb); clear hb)
          try go_wp2
          go_meet
          case rel => exact ⟨mkBelow y z, rfl, zMk (by rw [decide_eq_true (Nat.succ_pos j), Bool.true_and, Nat.add_sub_cancel, ← HZZ.out]), BE6, HB6⟩
      case rest =>
        clear BE HB
        obtain ⟨b, rfl, HBL, BE, HB⟩ := hcut
        cases b with
        | true =>
          obtain ⟨m, rfl⟩ : ∃ m, j = m + 1 := by
            rcases j with _ | m
            · have := HBL.out; simp at this
            · exact ⟨m, rfl⟩
          have HA2 := zMk (show mkAt y gs gs.length = mkAt y gs m by
            have hb := HBL.out
            rw [decide_eq_true (Nat.succ_pos m), Bool.true_and, Nat.add_sub_cancel] at hb
            rw [HA.out, mkAt, if_pos hb.symm])
          have hm1 : (((m + 1 : Nat) : Int) - 1) = (m : Int) := by omega
          have hwm : wrap64 (m : Int) = (m : Int) := by unfold wrap64; have := HGS.out; omega
          clear HA HBL
          go_wp2
          go_roundg m
          case measure => omega
          case rel => exact ⟨m, by have hgs := HGS.out; first | rfl | exact congrArg (Value.int .i64) (by omega) | exact congrArg (Value.int .i64) (by unfold wrap64; omega) | exact congrArg (Value.int .i64) (by simp only [i64_w]; unfold wrap64; omega), by omega, Nat.le_refl _, BE, HB, HA2⟩
        | false =>
          have HA2 := zMk (show mkAt y gs gs.length = j by
            have hb := HBL.out
            rw [HA.out]
            rcases j with _ | m
            · rfl
            · rw [decide_eq_true (Nat.succ_pos m), Bool.true_and, Nat.add_sub_cancel] at hb
              rw [mkAt, if_neg (by rw [← hb]; decide)])
          clear HA HBL
          go_upto_region 18 with (fail)
          go_cut [8] from 55 to 84 (fun v8 wc => ∃ t : Bool, v8 = .bool t ∧ Aside0 (t = (tw || mkTw y gs j)) ∧ Aside0 (wc.heap[be]? = some (.cells #[.int .i64 y.f0, .int .i64 y.f1, .int .i64 y.f2] 36 (0, 0))) ∧ Aside0 (Below wo.heap.size wo wc))
          case first =>
            cases tw with
            | true =>
              refine start_ (n := 17) (S := fun w' => True) (ds := []) #[false, false, false, false, false, false, false, false, false, false, false, false, false, false, false, false, false] (by kernel_rfl) rfl rfl trivial (fun hHeld => ?_)
              refine pure_ (i := 0) (N := some 69) (v := ?_) (a' := ?_) #[true, false, false, false, false, false, false, false, false, false, false, false, false, false, false, false, false] rfl rfl (by kernel_rfl) (fun _ _ _ h => h) (Or.inl ⟨by rfl, ?_⟩) ?_ ?_
              rotate_left
              · intro w'
                go_simp
                with_reducible rfl
              rotate_left
              · simp only [Act.put, zSa, zSb, zSc, i64_w, i32_w]
                rfl
              refine pure_ (i := 1) (N := some 70) (v := ?_) (a' := ?_) #[true, true, false, false, false, false, false, false, false, false, false, false, false, false, false, false, false] rfl rfl (by kernel_rfl) (fun _ _ _ h => h) (Or.inl ⟨by rfl, ?_⟩) ?_ ?_
              rotate_left
              · intro w'
                go_simp
                with_reducible rfl
              rotate_left
              · simp only [Act.put, zSa, zSb, zSc, i64_w, i32_w]
                rfl
              refine pure_ (i := 2) (N := some 71) (v := undef) (a' := ?_) #[true, true, true, false, false, false, false, false, false, false, false, false, false, false, false, false, false] rfl rfl (by kernel_rfl) (fun _ _ _ h => h) (Or.inr ⟨by rfl, rfl⟩) ?_ ?_
              rotate_left
              · simp only [Act.put, zSa, zSb, zSc, i64_w, i32_w]
                rfl
              refine pure_ (i := 3) (N := some 72) (v := undef) (a' := ?_) #[true, true, true, true, false, false, false, false, false, false, false, false, false, false, false, false, false] rfl rfl (by kernel_rfl) (fun _ _ _ h => h) (Or.inr ⟨by rfl, rfl⟩) ?_ ?_
              rotate_left
              · simp only [Act.put, zSa, zSb, zSc, i64_w, i32_w]
                rfl
              refine pure_ (i := 4) (N := some 73) (v := undef) (a' := ?_) #[true, true, true, true, true, false, false, false, false, false, false, false, false, false, false, false, false] rfl rfl (by kernel_rfl) (fun _ _ _ h => h) (Or.inr ⟨by rfl, rfl⟩) ?_ ?_
              rotate_left
              · simp only [Act.put, zSa, zSb, zSc, i64_w, i32_w]
                rfl
              refine pure_ (i := 5) (N := some 74) (v := undef) (a' := ?_) #[true, true, true, true, true, true, false, false, false, false, false, false, false, false, false, false, false] rfl rfl (by kernel_rfl) (fun _ _ _ h => h) (Or.inr ⟨by rfl, rfl⟩) ?_ ?_
              rotate_left
              · simp only [Act.put, zSa, zSb, zSc, i64_w, i32_w]
                rfl
              refine pure_ (i := 6) (N := some 75) (v := undef) (a' := ?_) #[true, true, true, true, true, true, true, false, false, false, false, false, false, false, false, false, false] rfl rfl (by kernel_rfl) (fun _ _ _ h => h) (Or.inr ⟨by rfl, rfl⟩) ?_ ?_
              rotate_left
              · simp only [Act.put, zSa, zSb, zSc, i64_w, i32_w]
                rfl
              refine pure_ (i := 7) (N := some 76) (v := undef) (a' := ?_) #[true, true, true, true, true, true, true, true, false, false, false, false, false, false, false, false, false] rfl rfl (by kernel_rfl) (fun _ _ _ h => h) (Or.inr ⟨by rfl, rfl⟩) ?_ ?_
              rotate_left
              · simp only [Act.put, zSa, zSb, zSc, i64_w, i32_w]
                rfl
              refine pure_ (i := 8) (N := some 77) (v := undef) (a' := ?_) #[true, true, true, true, true, true, true, true, true, false, false, false, false, false, false, false, false] rfl rfl (by kernel_rfl) (fun _ _ _ h => h) (Or.inr ⟨by rfl, rfl⟩) ?_ ?_
              rotate_left
              · simp only [Act.put, zSa, zSb, zSc, i64_w, i32_w]
                rfl
              refine pure_ (i := 9) (N := some 78) (v := undef) (a' := ?_) #[true, true, true, true, true, true, true, true, true, true, false, false, false, false, false, false, false] rfl rfl (by kernel_rfl) (fun _ _ _ h => h) (Or.inr ⟨by rfl, rfl⟩) ?_ ?_
              rotate_left
              · simp only [Act.put, zSa, zSb, zSc, i64_w, i32_w]
                rfl
              refine pure_ (i := 10) (N := some 79) (v := undef) (a' := ?_) #[true, true, true, true, true, true, true, true, true, true, true, false, false, false, false, false, false] rfl rfl (by kernel_rfl) (fun _ _ _ h => h) (Or.inr ⟨by rfl, rfl⟩) ?_ ?_
              rotate_left
              · simp only [Act.put, zSa, zSb, zSc, i64_w, i32_w]
                rfl
              refine pure_ (i := 11) (N := some 80) (v := undef) (a' := ?_) #[true, true, true, true, true, true, true, true, true, true, true, true, false, false, false, false, false] rfl rfl (by kernel_rfl) (fun _ _ _ h => h) (Or.inr ⟨by rfl, rfl⟩) ?_ ?_
              rotate_left
              · simp only [Act.put, zSa, zSb, zSc, i64_w, i32_w]
                rfl
              refine pure_ (i := 12) (N := some 81) (v := undef) (a' := ?_) #[true, true, true, true, true, true, true, true, true, true, true, true, true, false, false, false, false] rfl rfl (by kernel_rfl) (fun _ _ _ h => h) (Or.inr ⟨by rfl, rfl⟩) ?_ ?_
              rotate_left
              · simp only [Act.put, zSa, zSb, zSc, i64_w, i32_w]
                rfl
              refine pure_ (i := 13) (N := some 82) (v := undef) (a' := ?_) #[true, true, true, true, true, true, true, true, true, true, true, true, true, true, false, false, false] rfl rfl (by kernel_rfl) (fun _ _ _ h => h) (Or.inr ⟨by rfl, rfl⟩) ?_ ?_
              rotate_left
              · simp only [Act.put, zSa, zSb, zSc, i64_w, i32_w]
                rfl
              refine pure_ (i := 14) (N := some 83) (v := undef) (a' := ?_) #[true, true, true, true, true, true, true, true, true, true, true, true, true, true, true, false, false] rfl rfl (by kernel_rfl) (fun _ _ _ h => h) (Or.inr ⟨by rfl, rfl⟩) ?_ ?_
              rotate_left
              · simp only [Act.put, zSa, zSb, zSc, i64_w, i32_w]
                rfl
              refine pure_ (i := 15) (N := some 84) (v := ?_) (a' := ?_) #[true, true, true, true, true, true, true, true, true, true, true, true, true, true, true, true, false] rfl rfl (by kernel_rfl) (fun _ _ _ h => h) (Or.inl ⟨by rfl, ?_⟩) ?_ ?_
              rotate_left
              · intro w'
                go_simp
                with_reducible rfl
              rotate_left
              · simp only [Act.put, zSa, zSb, zSc, i64_w, i32_w]
                rfl
              refine pure_ (i := 16) (N := some 8) (v := ?_) (a' := ?_) #[true, true, true, true, true, true, true, true, true, true, true, true, true, true, true, true, true] rfl rfl (by kernel_rfl) (fun _ _ _ h => h) (Or.inl ⟨by rfl, ?_⟩) ?_ ?_
              rotate_left
              · intro w'
                go_simp
                with_reducible rfl
              rotate_left
              · simp only [Act.put, zSa, zSb, zSc, i64_w, i32_w]
                rfl
              refine done_ (by kernel_rfl) ?_
              try go_wp2
              go_meet
              case rel => exact ⟨true, rfl, zMk rfl, zMk (zKd BE.out), zMk (zBd HB.out)⟩
            | false =>
              rcases j with _ | j
              · have p6 : decide ((0 : Int) < 0) = false := rfl
                refine start_ (n := 17) (S := fun w' => True) (ds := []) #[false, false, false, false, false, false, false, false, false, false, false, false, false, false, false, false, false] (by kernel_rfl) rfl rfl trivial (fun hHeld => ?_)
                refine pure_ (i := 0) (N := some 69) (v := ?_) (a' := ?_) #[true, false, false, false, false, false, false, false, false, false, false, false, false, false, false, false, false] rfl rfl (by kernel_rfl) (fun _ _ _ h => h) (Or.inl ⟨by rfl, ?_⟩) ?_ ?_
                rotate_left
                · intro w'
                  go_simp
                  with_reducible rfl
                rotate_left
                · simp only [Act.put, zSa, zSb, zSc, i64_w, i32_w]
                  rfl
                refine pure_ (i := 1) (N := some 70) (v := ?_) (a' := ?_) #[true, true, false, false, false, false, false, false, false, false, false, false, false, false, false, false, false] rfl rfl (by kernel_rfl) (fun _ _ _ h => h) (Or.inl ⟨by rfl, ?_⟩) ?_ ?_
                rotate_left
                · intro w'
                  go_simp
                  with_reducible rfl
                rotate_left
                · simp only [Act.put, zSa, zSb, zSc, i64_w, i32_w]
                  rfl
                refine pure_ (i := 2) (N := some 71) (v := ?_) (a' := ?_) #[true, true, true, false, false, false, false, false, false, false, false, false, false, false, false, false, false] rfl rfl (by kernel_rfl) (fun _ _ _ h => h) (Or.inl ⟨by rfl, ?_⟩) ?_ ?_
                rotate_left
                · intro w'
                  go_simp
                  with_reducible rfl
                rotate_left
                · simp only [Act.put, zSa, zSb, zSc, i64_w, i32_w]
                  rfl
                refine pure_ (i := 3) (N := some 72) (v := ?_) (a' := ?_) #[true, true, true, true, false, false, false, false, false, false, false, false, false, false, false, false, false] rfl rfl (by kernel_rfl) (fun _ _ _ h => h) (Or.inl ⟨by rfl, ?_⟩) ?_ ?_
                rotate_left
                · intro w'
                  go_simp
                  with_reducible rfl
                rotate_left
                · simp only [Act.put, zSa, zSb, zSc, i64_w, i32_w]
                  rfl
                refine pure_ (i := 4) (N := some 73) (v := ?_) (a' := ?_) #[true, true, true, true, true, false, false, false, false, false, false, false, false, false, false, false, false] rfl rfl (by kernel_rfl) (fun _ _ _ h => h) (Or.inl ⟨by rfl, ?_⟩) ?_ ?_
                rotate_left
                · intro w'
                  go_simp
                  with_reducible rfl
                rotate_left
                · simp only [Act.put, zSa, zSb, zSc, i64_w, i32_w]
                  rfl
                refine pure_ (i := 5) (N := some 74) (v := undef) (a' := ?_) #[true, true, true, true, true, true, false, false, false, false, false, false, false, false, false, false, false] rfl rfl (by kernel_rfl) (fun _ _ _ h => h) (Or.inr ⟨by rfl, rfl⟩) ?_ ?_
                rotate_left
                · simp only [Act.put, zSa, zSb, zSc, i64_w, i32_w]
                  rfl
                refine pure_ (i := 6) (N := some 75) (v := undef) (a' := ?_) #[true, true, true, true, true, true, true, false, false, false, false, false, false, false, false, false, false] rfl rfl (by kernel_rfl) (fun _ _ _ h => h) (Or.inr ⟨by rfl, rfl⟩) ?_ ?_
                rotate_left
                · simp only [Act.put, zSa, zSb, zSc, i64_w, i32_w]
                  rfl
                refine pure_ (i := 7) (N := some 76) (v := undef) (a' := ?_) #[true, true, true, true, true, true, true, true, false, false, false, false, false, false, false, false, false] rfl rfl (by kernel_rfl) (fun _ _ _ h => h) (Or.inr ⟨by rfl, rfl⟩) ?_ ?_
                rotate_left
                · simp only [Act.put, zSa, zSb, zSc, i64_w, i32_w]
                  rfl
                refine pure_ (i := 8) (N := some 77) (v := undef) (a' := ?_) #[true, true, true, true, true, true, true, true, true, false, false, false, false, false, false, false, false] rfl rfl (by kernel_rfl) (fun _ _ _ h => h) (Or.inr ⟨by rfl, rfl⟩) ?_ ?_
                rotate_left
                · simp only [Act.put, zSa, zSb, zSc, i64_w, i32_w]
                  rfl
                refine pure_ (i := 9) (N := some 78) (v := undef) (a' := ?_) #[true, true, true, true, true, true, true, true, true, true, false, false, false, false, false, false, false] rfl rfl (by kernel_rfl) (fun _ _ _ h => h) (Or.inr ⟨by rfl, rfl⟩) ?_ ?_
                rotate_left
                · simp only [Act.put, zSa, zSb, zSc, i64_w, i32_w]
                  rfl
                refine pure_ (i := 10) (N := some 79) (v := undef) (a' := ?_) #[true, true, true, true, true, true, true, true, true, true, true, false, false, false, false, false, false] rfl rfl (by kernel_rfl) (fun _ _ _ h => h) (Or.inr ⟨by rfl, rfl⟩) ?_ ?_
                rotate_left
                · simp only [Act.put, zSa, zSb, zSc, i64_w, i32_w]
                  rfl
                refine pure_ (i := 11) (N := some 80) (v := undef) (a' := ?_) #[true, true, true, true, true, true, true, true, true, true, true, true, false, false, false, false, false] rfl rfl (by kernel_rfl) (fun _ _ _ h => h) (Or.inr ⟨by rfl, rfl⟩) ?_ ?_
                rotate_left
                · simp only [Act.put, zSa, zSb, zSc, i64_w, i32_w]
                  rfl
                refine pure_ (i := 12) (N := some 81) (v := undef) (a' := ?_) #[true, true, true, true, true, true, true, true, true, true, true, true, true, false, false, false, false] rfl rfl (by kernel_rfl) (fun _ _ _ h => h) (Or.inr ⟨by rfl, rfl⟩) ?_ ?_
                rotate_left
                · simp only [Act.put, zSa, zSb, zSc, i64_w, i32_w]
                  rfl
                refine pure_ (i := 13) (N := some 82) (v := undef) (a' := ?_) #[true, true, true, true, true, true, true, true, true, true, true, true, true, true, false, false, false] rfl rfl (by kernel_rfl) (fun _ _ _ h => h) (Or.inr ⟨by rfl, rfl⟩) ?_ ?_
                rotate_left
                · simp only [Act.put, zSa, zSb, zSc, i64_w, i32_w]
                  rfl
                refine pure_ (i := 14) (N := some 83) (v := ?_) (a' := ?_) #[true, true, true, true, true, true, true, true, true, true, true, true, true, true, true, false, false] rfl rfl (by kernel_rfl) (fun _ _ _ h => h) (Or.inl ⟨by rfl, ?_⟩) ?_ ?_
                rotate_left
                · intro w'
                  go_simp
                  with_reducible rfl
                rotate_left
                · simp only [Act.put, zSa, zSb, zSc, i64_w, i32_w]
                  rfl
                refine pure_ (i := 15) (N := some 84) (v := ?_) (a' := ?_) #[true, true, true, true, true, true, true, true, true, true, true, true, true, true, true, true, false] rfl rfl (by kernel_rfl) (fun _ _ _ h => h) (Or.inl ⟨by rfl, ?_⟩) ?_ ?_
                rotate_left
                · intro w'
                  go_simp
                  with_reducible rfl
                rotate_left
                · simp only [Act.put, zSa, zSb, zSc, i64_w, i32_w]
                  rfl
                refine pure_ (i := 16) (N := some 8) (v := ?_) (a' := ?_) #[true, true, true, true, true, true, true, true, true, true, true, true, true, true, true, true, true] rfl rfl (by kernel_rfl) (fun _ _ _ h => h) (Or.inl ⟨by rfl, ?_⟩) ?_ ?_
                rotate_left
                · intro w'
                  go_simp
                  with_reducible rfl
                rotate_left
                · simp only [Act.put, zSa, zSb, zSc, i64_w, i32_w]
                  rfl
                refine done_ (by kernel_rfl) ?_
                try go_wp2
                go_meet
                case rel => exact ⟨false, rfl, zMk rfl, zMk (zKd BE.out), zMk (zBd HB.out)⟩
              · have HB5 := zMk (zBd HB.out)
                have BE5 := zMk (zKd BE.out)
                refine wp_region_still_tail 12 (by kernel_rfl) (by kernel_rfl) ?_
                generalize hw5 : wc.drew = w5 at HB5 BE5
                show wpStill _ _ wc.drew (fun a' => wpList _ _ _ _ a' wc.drew) _ _
                rw [hw5]
                clear hw5
                have M5 := MSA.out.below HB5.out
                have d0 : 0 ≤ (j : Int) := Int.natCast_nonneg j
                have d1 : (j : Int) < (gs.length : Int) := by omega
                obtain ⟨ag, e, kx0, kx1, kx2⟩ := at_T36 (zRr M5.hR).2.2 (j : Int) d0 d1
                cases e
                simp only [zTn] at kx0 kx1 kx2
                have hj1 : (((j + 1 : Nat) : Int) - 1) = (j : Int) := by omega
                obtain ⟨z, hz⟩ : ∃ z, z = rd_T36 gs (j : Int) := ⟨_, rfl⟩
                rw [← hz] at kx0 kx1 kx2
                have HZZ := zMk hz
                clear hz
                have HBW := fun W => filigreeref04_below.calls z.f0 z.f1 z.f2 y.f0 y.f1 y.f2 _ W (mkBelow_f z y)
                have hy0 := box_cell (c := 0) (v := .int .i64 n) M5.h7 rfl
                have hy1 := box_cell (c := 1) (v := .slice (some ag) gs.length c) M5.h7 rfl
                have hz0 := box_cell (c := 0) (v := .int .i64 y.f0) BE5.out rfl
                have hz1 := box_cell (c := 1) (v := .int .i64 y.f1) BE5.out rfl
                have hz2 := box_cell (c := 2) (v := .int .i64 y.f2) BE5.out rfl
                have p3 : (0 ≤ (j : Int) + 1) = True := eq_true (by omega)
                have p6 : (0 < (j : Int) + 1) = True := eq_true (by omega)
                have p7 : (0 ≤ (j : Int)) = True := eq_true (by omega)
                have p8 : ((j : Int) < (gs.length : Int)) = True := eq_true (by omega)
                have hwj : IntKind.i64.wrap (j : Int) = (j : Int) := IntWalk.i64_in _ ⟨by omega, by have := HGS.out; omega⟩
                clear M5 d0 d1
                simp only [List.take_succ_cons, List.take_zero, List.drop_succ_cons, List.drop_zero]
                repeat still_step
                refine wpStill_nil ?_
                clear hwj
                go_wp2_with (go_at_call 37; refine (HBW _).mono ?_; rintro e w6 ⟨rfl, hb⟩; have HB6 := zMk (zBt HB5.out hb); have BE6 := zMk (zKb BE5.out hb); clear hb)
                try go_wp2
                go_meet
                case rel => exact ⟨!mkBelow z y, rfl, zMk (by rw [Bool.false_or, HZZ.out, mkTw]), BE6, HB6⟩
          case rest =>
            clear BE HB
            obtain ⟨t, rfl, HT, BE, HB⟩ := hcut
            go_upto_region 19 with (fail)
            have HB5 := zMk (zBd HB.out)
            have BE5 := zMk (zKd BE.out)
            have M5 := zMk (MSA.out.below HB5.out)
            have HJ := zMk (show j ≤ gs.length from hj)
            have HTL := zMk (show (gs.take j).length = j by rw [zLt]; omega)
            have HDL := zMk (show (gs.drop j).length = gs.length - j from zLd)
            have HGL := zMk (show gs.length ≤ 4194304 by have := HGS.out; omega)
            have hcap := (zRr M5.out.hR).2.1
            have q1 : (0 ≤ (j : Int)) = True := eq_true (by omega)
            have q2 : ((j : Int) ≤ (c : Int)) = True := eq_true (by omega)
            have q3 : ((j : Int) ≤ (gs.length : Int)) = True := eq_true (by omega)
            have q4 : ((gs.length : Int) ≤ (c : Int)) = True := eq_true (by omega)
            clear hcap
            refine start_ (n := 16) (S := fun w' => w'.cell? ⟨gb, 1, none⟩ = some (.slice A gs.length c) ∧ w'.cell? ⟨be, 0, none⟩ = some (.int .i64 y.f0) ∧ w'.cell? ⟨be, 1, none⟩ = some (.int .i64 y.f1) ∧ w'.cell? ⟨be, 2, none⟩ = some (.int .i64 y.f2)) (ds := [15]) #[false, false, false, false, false, false, false, false, false, false, false, false, false, false, false, false] (by kernel_rfl) rfl rfl ⟨box_cell (c := 1) (v := .slice A gs.length c) M5.out.h7 rfl, box_cell (c := 0) (v := .int .i64 y.f0) BE5.out rfl, box_cell (c := 1) (v := .int .i64 y.f1) BE5.out rfl, box_cell (c := 2) (v := .int .i64 y.f2) BE5.out rfl⟩ (fun hHeld => ?_)
            have HS5 : Aside0 (wc.drew.cell? ⟨gb, 1, none⟩ = some (.slice A gs.length c) ∧ wc.drew.cell? ⟨be, 0, none⟩ = some (.int .i64 y.f0) ∧ wc.drew.cell? ⟨be, 1, none⟩ = some (.int .i64 y.f1) ∧ wc.drew.cell? ⟨be, 2, none⟩ = some (.int .i64 y.f2)) := ⟨hHeld⟩
            generalize wc.drew = w5 at HB5 BE5 M5 HS5 hHeld ⊢
            have HBz := zMk (Below.refl w5.heap.size w5)
            refine pure_ (i := 1) (N := some 86) (v := ?_) (a' := ?_) #[false, true, false, false, false, false, false, false, false, false, false, false, false, false, false, false] rfl rfl (by kernel_rfl) (fun _ _ _ h => h) (Or.inl ⟨by rfl, ?_⟩) ?_ ?_
            rotate_left
            · intro w'
              go_simp
              with_reducible rfl
            rotate_left
            · simp only [Act.put, zSa, zSb, zSc, i64_w, i32_w]
              rfl
            refine pure_ (i := 3) (N := some 88) (v := ?_) (a' := ?_) #[false, true, false, true, false, false, false, false, false, false, false, false, false, false, false, false] rfl rfl (by kernel_rfl) (fun _ _ _ h => h) (Or.inl ⟨by rfl, ?_⟩) ?_ ?_
            rotate_left
            · intro w'
              go_simp
              with_reducible rfl
            rotate_left
            · simp only [Act.put, zSa, zSb, zSc, i64_w, i32_w]
              rfl
            refine pure_ (i := 9) (N := some 94) (v := ?_) (a' := ?_) #[false, true, false, true, false, false, false, false, false, true, false, false, false, false, false, false] rfl rfl (by kernel_rfl) (fun _ _ _ h => h) (Or.inl ⟨by rfl, ?_⟩) ?_ ?_
            rotate_left
            · intro w'
              go_simp
              with_reducible rfl
            rotate_left
            · simp only [Act.put, zSa, zSb, zSc, i64_w, i32_w]
              rfl
            refine pure_ (i := 11) (N := some 96) (v := ?_) (a' := ?_) #[false, true, false, true, false, false, false, false, false, true, false, true, false, false, false, false] rfl rfl (by kernel_rfl) (fun _ _ _ h => h) (Or.inl ⟨by rfl, ?_⟩) ?_ ?_
            rotate_left
            · intro w'
              go_simp
              with_reducible rfl
            rotate_left
            · simp only [Act.put, zSa, zSb, zSc, i64_w, i32_w]
              rfl
            refine take_ (i := 2) (N := some 87) (v := ?_) (a' := ?_) #[false, true, true, true, false, false, false, false, false, true, false, true, false, false, false, false] rfl rfl (by kernel_rfl) (fun _ _ _ h => h) (Or.inl ⟨by rfl, ?_⟩) hHeld ?_ ?_
            rotate_left
            · rintro w' ⟨s0, s1, s2, s3⟩
              go_simp
              with_reducible rfl
            rotate_left
            · simp only [Act.put, zSa, zSb, zSc, i64_w, i32_w]
              rfl
            refine pure_ (i := 4) (N := some 89) (v := ?_) (a' := ?_) #[false, true, true, true, true, false, false, false, false, true, false, true, false, false, false, false] rfl rfl (by kernel_rfl) (fun _ _ _ h => h) (Or.inl ⟨by rfl, ?_⟩) ?_ ?_
            rotate_left
            · intro w'
              go_simp
              with_reducible rfl
            rotate_left
            · simp only [Act.put, zSa, zSb, zSc, i64_w, i32_w]
              rfl
            refine take_ (i := 6) (N := some 91) (v := ?_) (a' := ?_) #[false, true, true, true, true, false, true, false, false, true, false, true, false, false, false, false] rfl rfl (by kernel_rfl) (fun _ _ _ h => h) (Or.inl ⟨by rfl, ?_⟩) hHeld ?_ ?_
            rotate_left
            · rintro w' ⟨s0, s1, s2, s3⟩
              go_simp
              with_reducible rfl
            rotate_left
            · simp only [Act.put, zSa, zSb, zSc, i64_w, i32_w]
              rfl
            refine take_ (i := 10) (N := some 95) (v := ?_) (a' := ?_) #[false, true, true, true, true, false, true, false, false, true, true, true, false, false, false, false] rfl rfl (by kernel_rfl) (fun _ _ _ h => h) (Or.inl ⟨by rfl, ?_⟩) hHeld ?_ ?_
            rotate_left
            · rintro w' ⟨s0, s1, s2, s3⟩
              go_simp
              with_reducible rfl
            rotate_left
            · simp only [Act.put, zSa, zSb, zSc, i64_w, i32_w]
              rfl
            refine pure_ (i := 12) (N := some 97) (v := ?_) (a' := ?_) #[false, true, true, true, true, false, true, false, false, true, true, true, true, false, false, false] rfl rfl (by kernel_rfl) (fun _ _ _ h => h) (Or.inl ⟨by rfl, ?_⟩) ?_ ?_
            rotate_left
            · intro w'
              go_simp
              with_reducible rfl
            rotate_left
            · simp only [Act.put, zSa, zSb, zSc, i64_w, i32_w]
              rfl
            refine join_ (σ := Value × Value × Value) 4 #[true, true, true, true, true, true, true, true, false, true, true, true, true, false, false, false] (fun s_ => [(85, s_.1), (90, s_.2.1), (92, s_.2.2)]) (fun s_ w' => (w'.cell? ⟨gb, 1, none⟩ = some (.slice A gs.length c) ∧ w'.cell? ⟨be, 0, none⟩ = some (.int .i64 y.f0) ∧ w'.cell? ⟨be, 1, none⟩ = some (.int .i64 y.f1) ∧ w'.cell? ⟨be, 2, none⟩ = some (.int .i64 y.f2)) ∧ Kd.R k36 36 w' w5.heap.size (fun k_ => True ∧ some k_ ≠ s_.2.2.ownBlock) s_.2.1 (gs.take j) ∧ Kd.R k36 36 w' w5.heap.size (fun k_ => True ∧ some k_ ≠ s_.2.1.ownBlock) s_.2.2 [y] ∧ Below w5.heap.size w5 w') ?_ ?_
            rotate_left
            · intro hCont
              refine two_ (i := 0) (j := 7) (Ni := some 85) (Nj := some 92) #[true, true, true, true, true, false, true, false, false, true, true, true, true, false, false, false] #[false, true, true, true, true, false, true, true, false, true, true, true, true, false, false, false] rfl rfl rfl rfl (by kernel_rfl) (by decide) (by decide) (fun K hK => ?_) (fun K hK => ?_)
              · skip
                refine Kd.R_lit_step k36 _ 36 ?hg (N := 85) ?hd (xs := ([] : List S36)) (inner := []) (ok := fun _ => True) (okp := fun _ => True) ?hr ?hp (fun _ hk => hk) trivial (Below.refl _ _) (Nat.le_refl _) (by simp) ?_; (case hd => rfl); (case hg => rfl); (case hr => first | (go_simp; done) | (go_simp; rfl)); (case hp => exact (Reps.none _ _))
                intro v85 wA hoA hbA _ _
                have HO := zMk (zRl hoA (zBs HBz.out))
                replace HBz := zMk (zBt HBz.out hbA)
                clear hoA hbA
                refine hK.out _ _ ⟨(HBz.out.cell (World.block_lt_of_cell? w5 _ HS5.out.1)).trans HS5.out.1, (HBz.out.cell (World.block_lt_of_cell? w5 _ HS5.out.2.1)).trans HS5.out.2.1, (HBz.out.cell (World.block_lt_of_cell? w5 _ HS5.out.2.2.1)).trans HS5.out.2.2.1, (HBz.out.cell (World.block_lt_of_cell? w5 _ HS5.out.2.2.2)).trans HS5.out.2.2.2⟩ (fun hHeld => ?_)
                clear hK K
                refine norm_ (a' := ?_) ?_ ?_
                rotate_left
                · show Act.put _ (some 85) _ = _
                  simp only [Act.put, zSa, zSb, zSc, i64_w, i32_w]
                  rfl
                refine two_ (i := 5) (j := 7) (Ni := some 90) (Nj := some 92) #[true, true, true, true, true, true, true, false, false, true, true, true, true, false, false, false] #[true, true, true, true, true, false, true, true, false, true, true, true, true, false, false, false] rfl rfl rfl rfl (by kernel_rfl) (by decide) (by decide) (fun K hK => ?_) (fun K hK => ?_)
                · skip
                  refine Kd.R_append_rows_step k36 (w0 := w5) w5.heap.size (by rfl) (.tmp 85) (.tmp 89) 22 36 (.agg #[(.int .i64 0), (.int .i64 0), (.int .i64 0)]) 24 rfl Try.underlying22 info36 rfl (by decide) (by omega) v85 [] (gs.take j) _ _ _ (fun _ => True) (fun _ => False) rfl rfl ?aO ?aR (fun _ _ h => h) (fun _ h => h.elim) ?aF ?aB ?aS ?aL ?_
                  (case aO => exact HO.out)
                  (case aR => have hC := Kd.C_take (m := j) (zRr (zRb M5.out.hR HBz.out)).2.2 HJ.out; rw [HTL.out] at hC; exact uC hC)
                  (case aF => exact fun _ _ => trivial)
                  (case aB => exact HBz.out)
                  (case aS => exact zBs HBz.out)
                  (case aL => have h1 := HJ.out; have h2 := HGL.out; simp only [zLn]; omega)
                  intro v90 wB ho hb hg hat
                  rw [List.nil_append] at ho
                  replace HO := zMk ho
                  replace HBz := zMk hb
                  clear ho hb hg hat
                  refine hK.out _ _ ⟨(HBz.out.cell (World.block_lt_of_cell? w5 _ HS5.out.1)).trans HS5.out.1, (HBz.out.cell (World.block_lt_of_cell? w5 _ HS5.out.2.1)).trans HS5.out.2.1, (HBz.out.cell (World.block_lt_of_cell? w5 _ HS5.out.2.2.1)).trans HS5.out.2.2.1, (HBz.out.cell (World.block_lt_of_cell? w5 _ HS5.out.2.2.2)).trans HS5.out.2.2.2⟩ (fun hHeld => ?_)
                  clear hK K
                  refine norm_ (a' := ?_) ?_ ?_
                  rotate_left
                  · show Act.put _ (some 90) _ = _
                    simp only [Act.put, zSa, zSb, zSc, i64_w, i32_w]
                    rfl
                  refine one_ (i := 7) (N := some 92) #[true, true, true, true, true, true, true, true, false, true, true, true, true, false, false, false] rfl rfl (by kernel_rfl) (by decide) (fun K hK => ?_)
                  refine Kd.R_lit_step k36 _ 36 ?hg (N := 92) ?hd (xs := ([y] : List S36)) (inner := [.int .i64 y.f0, .int .i64 y.f1, .int .i64 y.f2]) (ok := fun _ => True) (okp := fun _ => True) ?hr ?hp (fun _ hk => hk) trivial (Below.refl _ _) (Nat.le_refl _) (by simp) ?_; (case hd => rfl); (case hg => rfl); (case hr => first | (go_simp; done) | (go_simp; rfl)); (case hp => exact (Reps.c3 (show Kd.M k36 _ _ _ y [.int .i64 y.f0, .int .i64 y.f1, .int .i64 y.f2] from (k36_mkM _ _ _ y)) (Reps.none _ _)))
                  intro v92 wL hoL hbL _ _
                  have HL := zMk (zRl (zRw hoL (zRt HO.out)) (zBs HBz.out))
                  replace HO := zMk (zRe HO.out (zRz hoL) hbL)
                  replace HBz := zMk (zBt HBz.out hbL)
                  clear hoL hbL
                  refine hK.out _ _ ⟨(HBz.out.cell (World.block_lt_of_cell? w5 _ HS5.out.1)).trans HS5.out.1, (HBz.out.cell (World.block_lt_of_cell? w5 _ HS5.out.2.1)).trans HS5.out.2.1, (HBz.out.cell (World.block_lt_of_cell? w5 _ HS5.out.2.2.1)).trans HS5.out.2.2.1, (HBz.out.cell (World.block_lt_of_cell? w5 _ HS5.out.2.2.2)).trans HS5.out.2.2.2⟩ (fun hHeld => ?_)
                  clear hK K
                  refine norm_ (a' := ?_) ?_ ?_
                  rotate_left
                  · show Act.put _ (some 92) _ = _
                    simp only [Act.put, zSa, zSb, zSc, i64_w, i32_w]
                    rfl
                  exact norm_ (by simp only [putAll, Act.put, zSa, zSb, zSc]) (hCont (v85, v90, v92) _ ⟨hHeld, HO.out, HL.out, HBz.out⟩)
                · skip
                  refine Kd.R_lit_step k36 _ 36 ?hg (N := 92) ?hd (xs := ([y] : List S36)) (inner := [.int .i64 y.f0, .int .i64 y.f1, .int .i64 y.f2]) (ok := fun _ => True) (okp := fun _ => True) ?hr ?hp (fun _ hk => hk) trivial (Below.refl _ _) (Nat.le_refl _) (by simp) ?_; (case hd => rfl); (case hg => rfl); (case hr => first | (go_simp; done) | (go_simp; rfl)); (case hp => exact (Reps.c3 (show Kd.M k36 _ _ _ y [.int .i64 y.f0, .int .i64 y.f1, .int .i64 y.f2] from (k36_mkM _ _ _ y)) (Reps.none _ _)))
                  intro v92 wL hoL hbL _ _
                  have HL := zMk (zRl (zRw hoL (zRt HO.out)) (zBs HBz.out))
                  replace HO := zMk (zRe HO.out (zRz hoL) hbL)
                  replace HBz := zMk (zBt HBz.out hbL)
                  clear hoL hbL
                  refine hK.out _ _ ⟨(HBz.out.cell (World.block_lt_of_cell? w5 _ HS5.out.1)).trans HS5.out.1, (HBz.out.cell (World.block_lt_of_cell? w5 _ HS5.out.2.1)).trans HS5.out.2.1, (HBz.out.cell (World.block_lt_of_cell? w5 _ HS5.out.2.2.1)).trans HS5.out.2.2.1, (HBz.out.cell (World.block_lt_of_cell? w5 _ HS5.out.2.2.2)).trans HS5.out.2.2.2⟩ (fun hHeld => ?_)
                  clear hK K
                  refine norm_ (a' := ?_) ?_ ?_
                  rotate_left
                  · show Act.put _ (some 92) _ = _
                    simp only [Act.put, zSa, zSb, zSc, i64_w, i32_w]
                    rfl
                  refine one_ (i := 5) (N := some 90) #[true, true, true, true, true, true, true, true, false, true, true, true, true, false, false, false] rfl rfl (by kernel_rfl) (by decide) (fun K hK => ?_)
                  refine Kd.R_append_rows_step k36 (w0 := w5) w5.heap.size (by rfl) (.tmp 85) (.tmp 89) 22 36 (.agg #[(.int .i64 0), (.int .i64 0), (.int .i64 0)]) 24 rfl Try.underlying22 info36 rfl (by decide) (by omega) v85 [] (gs.take j) _ _ _ (fun k_ => True ∧ some k_ ≠ (v92 : Value).ownBlock) (fun _ => False) rfl rfl ?aO ?aR (fun _ _ h => h) (fun _ h => h.elim) ?aF ?aB ?aS ?aL ?_
                  (case aO => exact HO.out)
                  (case aR => have hC := Kd.C_take (m := j) (zRr (zRb M5.out.hR HBz.out)).2.2 HJ.out; rw [HTL.out] at hC; exact uC hC)
                  (case aF => exact fun k_ hk => ⟨trivial, Kd.fresh' (zRt HL.out) k_ hk⟩)
                  (case aB => exact HBz.out)
                  (case aS => exact zBs HBz.out)
                  (case aL => have h1 := HJ.out; have h2 := HGL.out; simp only [zLn]; omega)
                  intro v90 wB ho hb hg hat
                  rw [List.nil_append] at ho
                  replace HL := zMk (Kd.R_after (ok := fun _ => True) HL.out hg hat)
                  replace HO := zMk ho
                  replace HBz := zMk hb
                  clear ho hb hg hat
                  refine hK.out _ _ ⟨(HBz.out.cell (World.block_lt_of_cell? w5 _ HS5.out.1)).trans HS5.out.1, (HBz.out.cell (World.block_lt_of_cell? w5 _ HS5.out.2.1)).trans HS5.out.2.1, (HBz.out.cell (World.block_lt_of_cell? w5 _ HS5.out.2.2.1)).trans HS5.out.2.2.1, (HBz.out.cell (World.block_lt_of_cell? w5 _ HS5.out.2.2.2)).trans HS5.out.2.2.2⟩ (fun hHeld => ?_)
                  clear hK K
                  refine norm_ (a' := ?_) ?_ ?_
                  rotate_left
                  · show Act.put _ (some 90) _ = _
                    simp only [Act.put, zSa, zSb, zSc, i64_w, i32_w]
                    rfl
                  exact norm_ (by simp only [putAll, Act.put, zSa, zSb, zSc]) (hCont (v85, v90, v92) _ ⟨hHeld, HO.out, HL.out, HBz.out⟩)
              · skip
                refine Kd.R_lit_step k36 _ 36 ?hg (N := 92) ?hd (xs := ([y] : List S36)) (inner := [.int .i64 y.f0, .int .i64 y.f1, .int .i64 y.f2]) (ok := fun _ => True) (okp := fun _ => True) ?hr ?hp (fun _ hk => hk) trivial (Below.refl _ _) (Nat.le_refl _) (by simp) ?_; (case hd => rfl); (case hg => rfl); (case hr => first | (go_simp; done) | (go_simp; rfl)); (case hp => exact (Reps.c3 (show Kd.M k36 _ _ _ y [.int .i64 y.f0, .int .i64 y.f1, .int .i64 y.f2] from (k36_mkM _ _ _ y)) (Reps.none _ _)))
                intro v92 wL hoL hbL _ _
                have HL := zMk (zRl hoL (zBs HBz.out))
                replace HBz := zMk (zBt HBz.out hbL)
                clear hoL hbL
                refine hK.out _ _ ⟨(HBz.out.cell (World.block_lt_of_cell? w5 _ HS5.out.1)).trans HS5.out.1, (HBz.out.cell (World.block_lt_of_cell? w5 _ HS5.out.2.1)).trans HS5.out.2.1, (HBz.out.cell (World.block_lt_of_cell? w5 _ HS5.out.2.2.1)).trans HS5.out.2.2.1, (HBz.out.cell (World.block_lt_of_cell? w5 _ HS5.out.2.2.2)).trans HS5.out.2.2.2⟩ (fun hHeld => ?_)
                clear hK K
                refine norm_ (a' := ?_) ?_ ?_
                rotate_left
                · show Act.put _ (some 92) _ = _
                  simp only [Act.put, zSa, zSb, zSc, i64_w, i32_w]
                  rfl
                refine one_ (i := 0) (N := some 85) #[true, true, true, true, true, false, true, true, false, true, true, true, true, false, false, false] rfl rfl (by kernel_rfl) (by decide) (fun K hK => ?_)
                refine Kd.R_lit_step k36 _ 36 ?hg (N := 85) ?hd (xs := ([] : List S36)) (inner := []) (ok := fun _ => True) (okp := fun _ => True) ?hr ?hp (fun _ hk => hk) trivial (Below.refl _ _) (Nat.le_refl _) (by simp) ?_; (case hd => rfl); (case hg => rfl); (case hr => first | (go_simp; done) | (go_simp; rfl)); (case hp => exact (Reps.none _ _))
                intro v85 wA hoA hbA _ _
                have HO := zMk (zRl (zRw hoA (zRt HL.out)) (zBs HBz.out))
                replace HL := zMk (zRe HL.out (zRz hoA) hbA)
                replace HBz := zMk (zBt HBz.out hbA)
                clear hoA hbA
                refine hK.out _ _ ⟨(HBz.out.cell (World.block_lt_of_cell? w5 _ HS5.out.1)).trans HS5.out.1, (HBz.out.cell (World.block_lt_of_cell? w5 _ HS5.out.2.1)).trans HS5.out.2.1, (HBz.out.cell (World.block_lt_of_cell? w5 _ HS5.out.2.2.1)).trans HS5.out.2.2.1, (HBz.out.cell (World.block_lt_of_cell? w5 _ HS5.out.2.2.2)).trans HS5.out.2.2.2⟩ (fun hHeld => ?_)
                clear hK K
                refine norm_ (a' := ?_) ?_ ?_
                rotate_left
                · show Act.put _ (some 85) _ = _
                  simp only [Act.put, zSa, zSb, zSc, i64_w, i32_w]
                  rfl
                refine one_ (i := 5) (N := some 90) #[true, true, true, true, true, true, true, true, false, true, true, true, true, false, false, false] rfl rfl (by kernel_rfl) (by decide) (fun K hK => ?_)
                refine Kd.R_append_rows_step k36 (w0 := w5) w5.heap.size (by rfl) (.tmp 85) (.tmp 89) 22 36 (.agg #[(.int .i64 0), (.int .i64 0), (.int .i64 0)]) 24 rfl Try.underlying22 info36 rfl (by decide) (by omega) v85 [] (gs.take j) _ _ _ (fun k_ => True ∧ some k_ ≠ (v92 : Value).ownBlock) (fun _ => False) rfl rfl ?aO ?aR (fun _ _ h => h) (fun _ h => h.elim) ?aF ?aB ?aS ?aL ?_
                (case aO => exact HO.out)
                (case aR => have hC := Kd.C_take (m := j) (zRr (zRb M5.out.hR HBz.out)).2.2 HJ.out; rw [HTL.out] at hC; exact uC hC)
                (case aF => exact fun k_ hk => ⟨trivial, Kd.fresh' (zRt HL.out) k_ hk⟩)
                (case aB => exact HBz.out)
                (case aS => exact zBs HBz.out)
                (case aL => have h1 := HJ.out; have h2 := HGL.out; simp only [zLn]; omega)
                intro v90 wB ho hb hg hat
                rw [List.nil_append] at ho
                replace HL := zMk (Kd.R_after (ok := fun _ => True) HL.out hg hat)
                replace HO := zMk ho
                replace HBz := zMk hb
                clear ho hb hg hat
                refine hK.out _ _ ⟨(HBz.out.cell (World.block_lt_of_cell? w5 _ HS5.out.1)).trans HS5.out.1, (HBz.out.cell (World.block_lt_of_cell? w5 _ HS5.out.2.1)).trans HS5.out.2.1, (HBz.out.cell (World.block_lt_of_cell? w5 _ HS5.out.2.2.1)).trans HS5.out.2.2.1, (HBz.out.cell (World.block_lt_of_cell? w5 _ HS5.out.2.2.2)).trans HS5.out.2.2.2⟩ (fun hHeld => ?_)
                clear hK K
                refine norm_ (a' := ?_) ?_ ?_
                rotate_left
                · show Act.put _ (some 90) _ = _
                  simp only [Act.put, zSa, zSb, zSc, i64_w, i32_w]
                  rfl
                exact norm_ (by simp only [putAll, Act.put, zSa, zSb, zSc]) (hCont (v85, v90, v92) _ ⟨hHeld, HO.out, HL.out, HBz.out⟩)
            rintro ⟨v85, v90, v92⟩ w7 ⟨hHeld, hO_, hL_, hB_⟩
            clear HBz
            have HO : Aside0 (Kd.R k36 36 w7 w5.heap.size (fun k_ => True ∧ some k_ ≠ (v92 : Value).ownBlock) v90 (gs.take j)) := ⟨hO_⟩
            have HL : Aside0 (Kd.R k36 36 w7 w5.heap.size (fun k_ => True ∧ some k_ ≠ (v90 : Value).ownBlock) v92 [y]) := ⟨hL_⟩
            have HBz : Aside0 (Below w5.heap.size w5 w7) := ⟨hB_⟩
            clear hO_ hL_ hB_
            obtain ⟨A2, c2, e2⟩ := zRs HL.out
            subst e2
            refine norm_ (a' := ?_) ?_ ?_
            rotate_left
            · simp only [putAll, Act.put, zSa, zSb, zSc]
              rfl
            refine one_ (i := 8) (N := some 93) #[true, true, true, true, true, true, true, true, true, true, true, true, true, false, false, false] rfl rfl (by kernel_rfl) (by decide) (fun K hK => ?_)
            refine Kd.R_append_rows_step k36 (w0 := w5) w5.heap.size (by rfl) (.tmp 90) (.tmp 92) 22 36 (.agg #[(.int .i64 0), (.int .i64 0), (.int .i64 0)]) 24 rfl Try.underlying22 info36 rfl (by decide) (by omega) v90 (gs.take j) [y] _ _ _ (fun k_ => True ∧ some k_ ≠ (.slice A2 [y].length c2 : Value).ownBlock) (fun _ => False) rfl rfl ?aO ?aR (fun _ _ h => h) (fun _ h => h.elim) ?aF ?aB ?aS ?aL ?_
            (case aO => exact HO.out)
            (case aR => exact uC (zRr HL.out).2.2)
            (case aF => exact fun k_ hk => ⟨trivial, Kd.fresh' (zRt HL.out) k_ hk⟩)
            (case aB => exact HBz.out)
            (case aS => exact zBs HBz.out)
            (case aL => have h1 := HJ.out; have h2 := HGL.out; rw [HTL.out]; simp only [zLc, zLn]; omega)
            intro v93 w8 ho hb hg hat
            replace HO := zMk (zRm ho (fun _ _ => trivial : ∀ k_, _ → True))
            replace HBz := zMk hb
            clear HL ho hb hg hat
            refine hK.out _ _ ⟨(HBz.out.cell (World.block_lt_of_cell? w5 _ HS5.out.1)).trans HS5.out.1, (HBz.out.cell (World.block_lt_of_cell? w5 _ HS5.out.2.1)).trans HS5.out.2.1, (HBz.out.cell (World.block_lt_of_cell? w5 _ HS5.out.2.2.1)).trans HS5.out.2.2.1, (HBz.out.cell (World.block_lt_of_cell? w5 _ HS5.out.2.2.2)).trans HS5.out.2.2.2⟩ (fun hHeld => ?_)
            clear hK K
            refine norm_ (a' := ?_) ?_ ?_
            rotate_left
            · show Act.put _ (some 93) _ = _
              simp only [Act.put, zSa, zSb, zSc, i64_w, i32_w]
              rfl
            refine one_ (i := 13) (N := some 98) #[true, true, true, true, true, true, true, true, true, true, true, true, true, true, false, false] rfl rfl (by kernel_rfl) (by decide) (fun K hK => ?_)
            refine Kd.R_append_rows_step k36 (w0 := w5) w5.heap.size (by rfl) (.tmp 93) (.tmp 97) 22 36 (.agg #[(.int .i64 0), (.int .i64 0), (.int .i64 0)]) 24 rfl Try.underlying22 info36 rfl (by decide) (by omega) v93 (gs.take j ++ [y]) (gs.drop j) _ _ _ (fun _ => True) (fun _ => False) rfl rfl ?aO ?aR (fun _ _ h => h) (fun _ h => h.elim) ?aF ?aB ?aS ?aL ?_
            (case aO => exact HO.out)
            (case aR => have hC := Kd.C_drop (m := j) (c := c) (zRr (zRb M5.out.hR HBz.out)).2.2 HJ.out (zRr M5.out.hR).2.1; rw [HDL.out] at hC; exact uC hC)
            (case aF => exact fun _ _ => trivial)
            (case aB => exact HBz.out)
            (case aS => exact zBs HBz.out)
            (case aL => have h1 := HJ.out; have h2 := HGL.out; simp only [List.length_append, HTL.out, zLc, zLn]; omega)
            intro v98 w9 ho hb hg hat
            generalize hgn : gs.take j ++ [y] ++ gs.drop j = gn at ho
            have HGN := zMk hgn
            clear hgn
            have M9 := zMk (M5.out.below hb)
            have hzf1 := box_frozen (c := 1) M9.out.h7
            have hzc1 := box_cell (c := 1) (v := .slice A gs.length c) M9.out.h7 rfl
            obtain ⟨A3, c3, e3⟩ := zRs ho
            subst e3
            replace HO := zMk ho
            replace HBz := zMk hb
            clear ho hb hg hat
            refine hK.out _ _ ⟨(HBz.out.cell (World.block_lt_of_cell? w5 _ HS5.out.1)).trans HS5.out.1, (HBz.out.cell (World.block_lt_of_cell? w5 _ HS5.out.2.1)).trans HS5.out.2.1, (HBz.out.cell (World.block_lt_of_cell? w5 _ HS5.out.2.2.1)).trans HS5.out.2.2.1, (HBz.out.cell (World.block_lt_of_cell? w5 _ HS5.out.2.2.2)).trans HS5.out.2.2.2⟩ (fun hHeld => ?_)
            clear hK K
            refine norm_ (a' := ?_) ?_ ?_
            rotate_left
            · show Act.put _ (some 98) _ = _
              simp only [Act.put, zSa, zSb, zSc, i64_w, i32_w]
              rfl
            refine pure_ (i := 14) (N := some 99) (v := ?_) (a' := ?_) #[true, true, true, true, true, true, true, true, true, true, true, true, true, true, true, false] rfl rfl (by kernel_rfl) (fun _ _ _ h => h) (Or.inl ⟨by rfl, ?_⟩) ?_ ?_
            rotate_left
            · intro w'
              go_simp
              with_reducible rfl
            rotate_left
            · simp only [Act.put, zSa, zSb, zSc, i64_w, i32_w]
              rfl
            refine last_ (i := 15) (N := none) #[true, true, true, true, true, true, true, true, true, true, true, true, true, true, true, true] rfl rfl (by kernel_rfl) (by decide) (fun K hK => ?_)
            refine skip_ (w1 := ?_) (by rfl) rfl ?_ ?_
            rotate_left
            · go_simp
              rfl
            refine hK.out _ _ ?_
            clear hK K
            refine done_ (by kernel_rfl) ?_
            clear hzf1 hzc1
            have hne : w.heap.size ≠ gb := Nat.ne_of_lt M9.out.hb
            have MN := zMk (show MkS w (w9.setCell ⟨gb, 1, none⟩ (.slice A3 gn.length c3)) gb n A3 c3 gn from ⟨below_set M9.out.hB (Nat.le_of_lt M9.out.hb), (Below.heap_setCell _ _ _ _ hne).trans M9.out.h4, blk_setCell_same M9.out.h7, zRm (zRl (Kd.R_far (Kd.R_types HO.out M9.out.h7 (by decide)) (fun _ hk => hk.2) _) (Nat.le_trans (zBs MSA.out.hB) (zBs HB5.out))) (fun _ _ => trivial), M9.out.hb⟩)
            generalize w9.setCell ⟨gb, 1, none⟩ (.slice A3 gn.length c3) = wn at MN ⊢
            have hgn : gn = mkPut y gs (mkAt y gs gs.length) := by rw [HA2.out, ← HGN.out]; rfl
            have hgnl : gn.length = i + 1 := by rw [hgn, mkPut_length, HGS.out]
            have HN := zMk (show mkLoop k n (l0.drop (i + 1)) gn t = some (r1, r2, r3) by
              have h := HH.out
              rw [← HY.out] at h
              rw [HT.out, hgn]
              rw [HA2.out] at h ⊢
              exact h)
            have hi64 : wrap64 ((i : Int) + 1) = ((i + 1 : Nat) : Int) := by unfold wrap64; omega
            clear M9 HO HBz HGN M5 HB5 BE5 HS5 HTL HDL HJ HGL BE HB HA2 HT HH MSA hgn
            go_wp2
            all_goals
              go_roundg (l0.length - (i + 1))
              case measure => omega
              case rel => exact ⟨i + 1, t, gn, A3, c3, rfl, by first | rfl | exact congrArg (Value.int .i64) (by omega) | exact congrArg (Value.int .i64) hi64 | exact congrArg (Value.int .i64) (by simp only [i64_w]; exact hi64), by omega, Nat.le_refl _, hgnl, MN, HN⟩

/- Chapter 04: what the reference's Make comes to: the same as the program's. -/
theorem mkBelow_ord (a b : S36) : mkBelow a b = decide (ordE a b = -1) := by
  have h1 := mkBelow_f a b
  rw [below_eq] at h1
  exact (zOi h1).symm
theorem mkNrm_nrm (e : S36) : mkNrm e = nrmE e := by
  unfold mkNrm nrmE
  rcases e with ⟨u, v, w⟩
  dsimp only
  by_cases h : v < u
  · rw [if_pos h, if_pos h, if_neg (by omega)]
  · rw [if_neg h, if_neg h]
    by_cases h2 : u < v
    · rw [if_pos h2]
    · rw [if_neg h2, show v = u by omega]
theorem mkAt_spec (y : S36) (g : List S36) : ∀ m : Nat, (∀ i : Nat, mkAt y g m ≤ i → i < m → ordE y (rd_T36 g (i : Int)) = -1) ∧ (∀ q : Nat, mkAt y g m = q + 1 → ordE y (rd_T36 g (q : Int)) ≠ -1)
  | 0 => ⟨fun i _ h => absurd h (Nat.not_lt_zero _), fun q h => by simp [mkAt] at h⟩
  | m + 1 => by
    unfold mkAt
    by_cases h : mkBelow y (rd_T36 g (m : Int)) = true
    · rw [if_pos h]
      have ih := mkAt_spec y g m
      rw [mkBelow_ord, decide_eq_true_iff] at h
      refine ⟨fun i h1 h2 => ?_, ih.2⟩
      rcases Nat.lt_or_ge i m with h3 | h3
      · exact ih.1 i h1 h3
      · rw [show i = m by omega]; exact h
    · rw [if_neg h]
      rw [mkBelow_ord, decide_eq_true_iff] at h
      refine ⟨fun i h1 h2 => by omega, fun q hq => ?_⟩
      rw [show q = m by omega]
      exact h
/-- not above -/
def leE (a b : S36) : Prop := ordE b a ≠ -1
theorem leE_trans {a b c : S36} (h1 : leE a b) (h2 : leE b c) : leE a c := by
  unfold leE ordE at *
  repeat' split at h1
  all_goals repeat' split at h2
  all_goals repeat' split
  all_goals first | omega | simp_all | (intro h; omega)
theorem eq_lt {x y z : S36} (h1 : ordE y z = -1) (h2 : ordE y x ≠ -1) : ordE x z ≠ 0 := by
  unfold ordE at *
  repeat' split at h1
  all_goals repeat' split at h2
  all_goals repeat' split
  all_goals first | omega | simp_all | (intro h; omega)
theorem dup_ins (y : S36) (b : List S36) (hb : ∀ z ∈ b, ordE y z = -1) : ∀ a : List S36, (∀ x ∈ a, ordE y x ≠ -1) →
    dupE (a ++ y :: b) = (dupE (a ++ b) || (match a.getLast? with | none => false | some x => decide (ordE x y = 0)))
  | [], _ => by
    cases b with
    | nil => rfl
    | cons z b =>
      have h := hb z (by simp)
      simp only [List.nil_append, List.getLast?_nil, Bool.or_false]
      rw [dupE, ordI_ordE, h]
      simp
  | [x], hx => by
    have h1 := hx x (by simp)
    simp only [List.singleton_append, List.getLast?_singleton]
    rw [dupE, ordI_ordE]
    cases b with
    | nil => simp [dupE]
    | cons z b =>
      have h := hb z (by simp)
      rw [dupE, dupE, ordI_ordE, ordI_ordE, h, decide_eq_false (eq_lt h h1)]
      simp [Bool.or_comm]
  | x :: x' :: a, hx => by
    have ih := dup_ins y b hb (x' :: a) (fun q hq => hx q (List.mem_cons_of_mem _ hq))
    simp only [List.cons_append] at ih ⊢
    rw [dupE, dupE, ih, List.getLast?_cons_cons, Bool.or_assoc]
theorem mk_parts (y : S36) (g : List S36) (hg : g.Pairwise leE) :
    (∀ z ∈ g.drop (mkAt y g g.length), ordE y z = -1) ∧ (∀ x ∈ g.take (mkAt y g g.length), ordE y x ≠ -1) := by
  have hs := mkAt_spec y g g.length
  have hle := mkAt_le y g g.length
  generalize mkAt y g g.length = j at hs hle
  refine ⟨fun z hz => ?_, fun x hx => ?_⟩
  · obtain ⟨i, hi, rfl⟩ := List.mem_iff_getElem.1 hz
    rw [zLd] at hi
    rw [List.getElem_drop, ← mk_rd g (j + i) (by omega)]
    exact hs.1 _ (Nat.le_add_right _ _) (by omega)
  · obtain ⟨i, hi, rfl⟩ := List.mem_iff_getElem.1 hx
    rw [zLt] at hi
    rw [List.getElem_take]
    obtain ⟨q, rfl⟩ : ∃ q, j = q + 1 := ⟨j - 1, by omega⟩
    have h := hs.2 q rfl
    rw [mk_rd g q (by omega)] at h
    rcases Nat.lt_or_ge i q with h1 | h1
    · exact leE_trans (List.pairwise_iff_getElem.1 hg i q (by omega) (by omega) h1) h
    · have : i = q := by omega
      subst this
      exact h
theorem put_perm (y : S36) (g : List S36) (j : Nat) : (mkPut y g j).Perm (g ++ [y]) := by
  unfold mkPut
  rw [List.append_assoc]
  refine List.Perm.trans (List.perm_append_comm_assoc _ _ _) ?_
  rw [List.take_append_drop]
  exact List.perm_append_comm
theorem put_sorted (y : S36) (g : List S36) (hg : g.Pairwise leE) : (mkPut y g (mkAt y g g.length)).Pairwise leE := by
  obtain ⟨h1, h2⟩ := mk_parts y g hg
  unfold mkPut
  rw [List.append_assoc, List.singleton_append, List.pairwise_append]
  refine ⟨hg.sublist (List.take_sublist _ _), ?_, ?_⟩
  · rw [List.pairwise_cons]
    refine ⟨fun z hz => ?_, hg.sublist (List.drop_sublist _ _)⟩
    have h := h1 z hz
    unfold leE
    rw [ordE_swap, h]
    decide
  · intro x hx z hz
    rcases List.mem_cons.1 hz with rfl | hz
    · exact h2 x hx
    · have h := h1 z hz
      have : leE y z := by unfold leE; rw [ordE_swap, h]; decide
      exact leE_trans (h2 x hx) this
theorem put_dup (y : S36) (g : List S36) (hg : g.Pairwise leE) : dupE (mkPut y g (mkAt y g g.length)) = (dupE g || mkTw y g (mkAt y g g.length)) := by
  obtain ⟨h1, h2⟩ := mk_parts y g hg
  have hle := mkAt_le y g g.length
  generalize mkAt y g g.length = j at h1 h2 hle
  unfold mkPut
  rw [List.append_assoc, List.singleton_append, dup_ins y _ h1 _ h2, List.take_append_drop]
  congr 1
  rcases j with _ | q
  · rfl
  · have hl : (g.take (q + 1)).getLast? = some (rd_T36 g (q : Int)) := by
      rw [List.getLast?_eq_getElem?, zLt, show min (q + 1) g.length - 1 = q by omega, List.getElem?_take_of_lt (by omega), List.getElem?_eq_getElem (by omega), mk_rd g q (by omega)]
    have h := h2 (rd_T36 g (q : Int)) (List.mem_of_getLast? hl)
    rw [hl, mkTw, mkBelow_ord]
    dsimp only
    rw [ordE_swap] at h
    rcases ordE_cases (rd_T36 g (q : Int)) y with c | c | c
    · rw [c]; rfl
    · rw [c]; rfl
    · rw [c] at h; exact absurd rfl h
theorem sorted_end {g m : List S36} (hg : g.Pairwise leE) (hp : g.Perm m) : dupE (sortE m) = dupE g ∧ (dupE g = false → sortE m = g) := by
  have h2 : dupE g = false → sortE m = g := fun h => sortE_of_up (up_pair (dup_up hg h)) hp.symm
  refine ⟨?_, h2⟩
  cases hd : dupE g with
  | false => rw [h2 hd, hd]
  | true =>
    cases hs : dupE (sortE m) with
    | true => rfl
    | false =>
      exfalso
      have h3 := sortE_dup_up m hs
      have h4 : (sortE m).Pairwise (fun a b => ordE a b ≠ 0) := h3.imp (fun h => by rw [h]; decide)
      have hpm : (sortE m).Perm g := (sortE_perm m).trans hp.symm
      have h5 : g.Pairwise (fun a b => ordE a b ≠ 0) := (hpm.pairwise_iff (fun {a b} h => by rw [ordE_swap]; omega)).1 h4
      have h6 : g.Pairwise (fun a b => ordE a b = -1) := by
        refine (List.Pairwise.and hg h5).imp ?_
        intro a b h
        obtain ⟨h, h'⟩ := h
        unfold leE at h
        rw [ordE_swap] at h
        rcases ordE_cases a b with c | c | c
        · exact c
        · exact absurd c h'
        · rw [c] at h; exact absurd rfl h
      rw [up_dup (pair_up h6)] at hd
      cases hd
theorem mkLoop_eq (k : Nat) (n : Int) : ∀ (l g d : List S36), g.Pairwise leE → g.Perm (d.map nrmE) →
    mkLoop (k + 1) n l g (dupE g) = some (if badI n l = 0 then (if dupE (sortE ((d ++ l).map nrmE)) then (0, [], 7) else (n, sortE ((d ++ l).map nrmE), 0)) else (0, [], badI n l))
  | [], g, d, hg, hp => by
    obtain ⟨h1, h2⟩ := sorted_end hg hp
    rw [mkLoop, badI, if_pos rfl, List.append_nil, h1]
    cases hd : dupE g with
    | true => rfl
    | false => rw [h2 hd]
  | x :: l, g, d, hg, hp => by
    rw [mkLoop, edge_eq, zOb, badI]
    by_cases h : aloneI n x = 0
    · rw [if_pos h, if_pos h, mkNrm_nrm, ← put_dup (nrmE x) g hg, mkLoop_eq k n l _ (d ++ [x]) (put_sorted (nrmE x) g hg) (by
        refine (put_perm _ _ _).trans ?_
        rw [List.map_append]
        exact hp.append_right _)]
      rw [List.append_assoc, List.singleton_append]
    · rw [if_neg h, if_neg h, if_neg h]
theorem refMake_eq (k : Nat) (n : Int) (l : List S36) (hk : 1 ≤ k) (hl : l.length ≤ 4194304) : filigreeref04_Make.f k n l = some (makeI n l) := by
  obtain ⟨k, rfl⟩ : ∃ m, k = m + 1 := ⟨k - 1, by omega⟩
  unfold filigreeref04_Make.f makeI
  rw [many_eq, zOb]
  by_cases h : sizesI n l.length = 0
  · have := mkLoop_eq k n l [] [] List.Pairwise.nil (List.Perm.refl _)
    rw [show dupE ([] : List S36) = false from rfl, List.nil_append] at this
    rw [if_pos h, if_pos h, if_pos hl, this]
  · rw [if_neg h, if_neg h]

attribute [local go_sem high] eqA36
/-! ### filigreeref04_Same: function 16 -/
mutual
def filigreeref04_Same.j0 : Nat → Bool → Int → List (S36) → Int → List (S36) → Option (Bool)
  | 0, _, _, _, _, _ => none
  | k + 1, x19, x140000, x140001, x141000, x141001 => if x19 = true then (some false) else (filigreeref04_Same.l0 k 0 x140000 x140001 x141000 x141001)
def filigreeref04_Same.l0 : Nat → Int → Int → List (S36) → Int → List (S36) → Option (Bool)
  | 0, _, _, _, _, _ => none
  | k + 1, x5, x140000, x140001, x141000, x141001 => if x5 < (x140001.length : Int) then (if 0 ≤ x5 then (if x5 < (x141001.length : Int) then (if (!(((rd_T36 x140001 x5).f0) == ((rd_T36 x141001 x5).f0)) || (!(((rd_T36 x140001 x5).f1) == ((rd_T36 x141001 x5).f1)) || (!(((rd_T36 x140001 x5).f2) == ((rd_T36 x141001 x5).f2))))) = true then (some false) else (filigreeref04_Same.l0 k (wrap64 (x5 + 1)) x140000 x140001 x141000 x141001)) else (none)) else (none)) else (some true)
end
def filigreeref04_Same.f (k : Nat) (a0_0 : Int) (l0_1 : List (S36)) (a1_0 : Int) (l1_1 : List (S36)) : Option (Bool) := if a0_0 = a1_0 then (filigreeref04_Same.j0 k ((l0_1.length : Int) != (l1_1.length : Int)) a0_0 l0_1 a1_0 l1_1) else (filigreeref04_Same.j0 k true a0_0 l0_1 a1_0 l1_1)
set_option maxHeartbeats 8000000 in
set_option maxRecDepth 100000 in
theorem filigreeref04_Same.calls (k : Nat) (a0_0 : Int) (A0_1 : Option Addr) (c0_1 : Nat) (l0_1 : List (S36)) (a1_0 : Int) (A1_1 : Option Addr) (c1_1 : Nat) (l1_1 : List (S36)) (r : Bool) (w : World) (hr0_1 : Kd.C k36 w A0_1 l0_1.length l0_1) (hc0_1 : l0_1.length ≤ c0_1) (hr1_1 : Kd.C k36 w A1_1 l1_1.length l1_1) (hc1_1 : l1_1.length ≤ c1_1) (h : filigreeref04_Same.f k a0_0 l0_1 a1_0 l1_1 = some r) :
    Calls Try.prog 16 #[.agg #[.int .i64 a0_0, .slice A0_1 l0_1.length c0_1], .agg #[.int .i64 a1_0, .slice A1_1 l1_1.length c1_1]] w fun e w' => e = .returned (.bool r) ∧ Below w.heap.size w w' := by
  have hu24 := Try.underlying24
  have hu36 := Try.underlying36
  have HR0_1 := zMk hr0_1
  have HC0_1 := zMk hc0_1
  clear hr0_1 hc0_1
  have HR1_1 := zMk hr1_1
  have HC1_1 := zMk hc1_1
  clear hr1_1 hc1_1
  have HB := zMk (Below.refl w.heap.size w)
  have H : (if a0_0 = a1_0 then (filigreeref04_Same.j0 k ((l0_1.length : Int) != (l1_1.length : Int)) a0_0 l0_1 a1_0 l1_1) else (filigreeref04_Same.j0 k true a0_0 l0_1 a1_0 l1_1)) = some r := h
  clear h
  have HC3 := zMk H
  clear H
  go_enter Try.func16, Try.ntmps16
  go_upto_region 1 with (first |  ((with_reducible refine gate_dst (N := 2) rfl ?_); (try (refine gate_guard (by rfl) ?_; dsimp only)); refine box_event ?hg (N := 2) ?hd (cs := #[.int .i64 a0_0, .slice A0_1 l0_1.length c0_1]) (t := 24) ?hr ?_; (case hd => rfl); (case hg => rfl); (case hr => first |  (go_simp; done)|  (go_simp; rfl)|  (go_simp; rw [show ∀ x : Int, IntKind.u32.wrap (IntKind.u8.wrap x) = x % 256 from fun x => (by show (x % 256) % 4294967296 = x % 256; omega)])); intro gb139 hg w4 hbox hb; have BK139 := zMk (hbox); have GW139 := zMk ((by rw [hg]; exact (zBs (by exact uT HB.out)) : w.heap.size ≤ gb139)); have GE139 := zMk ((by rw [hg]; exact (zBs (by exact uT HB.out)) : w.heap.size ≤ gb139)); have IGE139 := ownGe GE139.out; replace HB := zMk (zBt (by exact uT HB.out) hb); clear hb hbox hg)|  ((with_reducible refine gate_dst (N := 3) rfl ?_); (try (refine gate_guard (by rfl) ?_; dsimp only)); refine box_event ?hg (N := 3) ?hd (cs := #[.int .i64 a1_0, .slice A1_1 l1_1.length c1_1]) (t := 24) ?hr ?_; (case hd => rfl); (case hg => rfl); (case hr => first |  (go_simp; done)|  (go_simp; rfl)|  (go_simp; rw [show ∀ x : Int, IntKind.u32.wrap (IntKind.u8.wrap x) = x % 256 from fun x => (by show (x % 256) % 4294967296 = x % 256; omega)])); intro gb140 hg w5 hbox hb; have BK140 := zMk (hbox); have GW140 := zMk ((by rw [hg]; exact (zBs (by exact uT HB.out)) : w.heap.size ≤ gb140)); have GE140 := zMk ((by rw [hg]; exact (zBs (by exact uT HB.out)) : w.heap.size ≤ gb140)); have IGE140 := ownGe GE140.out; replace HB := zMk (zBt (by exact uT HB.out) hb); have NB139_140 := zMk ((by rw [hg]; exact Nat.ne_of_lt (blk_lt (g := gb139) (o := .cells #[.int .i64 a0_0, .slice A0_1 l0_1.length c0_1] 24 (0, 0)) (by (with_reducible repeat (first |  refine zKn ?_ _|  refine zKd ?_|  refine zKa ?_ _)); exact BK139.out)) : gb139 ≠ gb140)); have NB140_139 := zMk ((by rw [hg]; exact Nat.ne_of_gt (blk_lt (g := gb139) (o := .cells #[.int .i64 a0_0, .slice A0_1 l0_1.length c0_1] 24 (0, 0)) (by (with_reducible repeat (first |  refine zKn ?_ _|  refine zKd ?_|  refine zKa ?_ _)); exact BK139.out)) : gb140 ≠ gb139)); replace BK139 := zMk (zKb (g := gb139) (o := .cells #[.int .i64 a0_0, .slice A0_1 l0_1.length c0_1] 24 (0, 0)) (by (with_reducible repeat (first |  refine zKn ?_ _|  refine zKd ?_|  refine zKa ?_ _)); exact BK139.out) hb); clear hb hbox hg))
  repeat (go_quiet (first |  ((with_reducible refine gate_dst (N := 2) rfl ?_); (try (refine gate_guard (by rfl) ?_; dsimp only)); refine box_event ?hg (N := 2) ?hd (cs := #[.int .i64 a0_0, .slice A0_1 l0_1.length c0_1]) (t := 24) ?hr ?_; (case hd => rfl); (case hg => rfl); (case hr => first |  (go_simp; done)|  (go_simp; rfl)|  (go_simp; rw [show ∀ x : Int, IntKind.u32.wrap (IntKind.u8.wrap x) = x % 256 from fun x => (by show (x % 256) % 4294967296 = x % 256; omega)])); intro gb139 hg w4 hbox hb; have BK139 := zMk (hbox); have GW139 := zMk ((by rw [hg]; exact (zBs (by exact uT HB.out)) : w.heap.size ≤ gb139)); have GE139 := zMk ((by rw [hg]; exact (zBs (by exact uT HB.out)) : w.heap.size ≤ gb139)); have IGE139 := ownGe GE139.out; replace HB := zMk (zBt (by exact uT HB.out) hb); clear hb hbox hg)|  ((with_reducible refine gate_dst (N := 3) rfl ?_); (try (refine gate_guard (by rfl) ?_; dsimp only)); refine box_event ?hg (N := 3) ?hd (cs := #[.int .i64 a1_0, .slice A1_1 l1_1.length c1_1]) (t := 24) ?hr ?_; (case hd => rfl); (case hg => rfl); (case hr => first |  (go_simp; done)|  (go_simp; rfl)|  (go_simp; rw [show ∀ x : Int, IntKind.u32.wrap (IntKind.u8.wrap x) = x % 256 from fun x => (by show (x % 256) % 4294967296 = x % 256; omega)])); intro gb140 hg w5 hbox hb; have BK140 := zMk (hbox); have GW140 := zMk ((by rw [hg]; exact (zBs (by exact uT HB.out)) : w.heap.size ≤ gb140)); have GE140 := zMk ((by rw [hg]; exact (zBs (by exact uT HB.out)) : w.heap.size ≤ gb140)); have IGE140 := ownGe GE140.out; replace HB := zMk (zBt (by exact uT HB.out) hb); have NB139_140 := zMk ((by rw [hg]; exact Nat.ne_of_lt (blk_lt (g := gb139) (o := .cells #[.int .i64 a0_0, .slice A0_1 l0_1.length c0_1] 24 (0, 0)) (by (with_reducible repeat (first |  refine zKn ?_ _|  refine zKd ?_|  refine zKa ?_ _)); exact BK139.out)) : gb139 ≠ gb140)); have NB140_139 := zMk ((by rw [hg]; exact Nat.ne_of_gt (blk_lt (g := gb139) (o := .cells #[.int .i64 a0_0, .slice A0_1 l0_1.length c0_1] 24 (0, 0)) (by (with_reducible repeat (first |  refine zKn ?_ _|  refine zKd ?_|  refine zKa ?_ _)); exact BK139.out)) : gb140 ≠ gb139)); replace BK139 := zMk (zKb (g := gb139) (o := .cells #[.int .i64 a0_0, .slice A0_1 l0_1.length c0_1] 24 (0, 0)) (by (with_reducible repeat (first |  refine zKn ?_ _|  refine zKd ?_|  refine zKa ?_ _)); exact BK139.out) hb); clear hb hbox hg)); go_upto_region 1 with (first |  ((with_reducible refine gate_dst (N := 2) rfl ?_); (try (refine gate_guard (by rfl) ?_; dsimp only)); refine box_event ?hg (N := 2) ?hd (cs := #[.int .i64 a0_0, .slice A0_1 l0_1.length c0_1]) (t := 24) ?hr ?_; (case hd => rfl); (case hg => rfl); (case hr => first |  (go_simp; done)|  (go_simp; rfl)|  (go_simp; rw [show ∀ x : Int, IntKind.u32.wrap (IntKind.u8.wrap x) = x % 256 from fun x => (by show (x % 256) % 4294967296 = x % 256; omega)])); intro gb139 hg w4 hbox hb; have BK139 := zMk (hbox); have GW139 := zMk ((by rw [hg]; exact (zBs (by exact uT HB.out)) : w.heap.size ≤ gb139)); have GE139 := zMk ((by rw [hg]; exact (zBs (by exact uT HB.out)) : w.heap.size ≤ gb139)); have IGE139 := ownGe GE139.out; replace HB := zMk (zBt (by exact uT HB.out) hb); clear hb hbox hg)|  ((with_reducible refine gate_dst (N := 3) rfl ?_); (try (refine gate_guard (by rfl) ?_; dsimp only)); refine box_event ?hg (N := 3) ?hd (cs := #[.int .i64 a1_0, .slice A1_1 l1_1.length c1_1]) (t := 24) ?hr ?_; (case hd => rfl); (case hg => rfl); (case hr => first |  (go_simp; done)|  (go_simp; rfl)|  (go_simp; rw [show ∀ x : Int, IntKind.u32.wrap (IntKind.u8.wrap x) = x % 256 from fun x => (by show (x % 256) % 4294967296 = x % 256; omega)])); intro gb140 hg w5 hbox hb; have BK140 := zMk (hbox); have GW140 := zMk ((by rw [hg]; exact (zBs (by exact uT HB.out)) : w.heap.size ≤ gb140)); have GE140 := zMk ((by rw [hg]; exact (zBs (by exact uT HB.out)) : w.heap.size ≤ gb140)); have IGE140 := ownGe GE140.out; replace HB := zMk (zBt (by exact uT HB.out) hb); have NB139_140 := zMk ((by rw [hg]; exact Nat.ne_of_lt (blk_lt (g := gb139) (o := .cells #[.int .i64 a0_0, .slice A0_1 l0_1.length c0_1] 24 (0, 0)) (by (with_reducible repeat (first |  refine zKn ?_ _|  refine zKd ?_|  refine zKa ?_ _)); exact BK139.out)) : gb139 ≠ gb140)); have NB140_139 := zMk ((by rw [hg]; exact Nat.ne_of_gt (blk_lt (g := gb139) (o := .cells #[.int .i64 a0_0, .slice A0_1 l0_1.length c0_1] 24 (0, 0)) (by (with_reducible repeat (first |  refine zKn ?_ _|  refine zKd ?_|  refine zKa ?_ _)); exact BK139.out)) : gb140 ≠ gb139)); replace BK139 := zMk (zKb (g := gb139) (o := .cells #[.int .i64 a0_0, .slice A0_1 l0_1.length c0_1] 24 (0, 0)) (by (with_reducible repeat (first |  refine zKn ?_ _|  refine zKd ?_|  refine zKa ?_ _)); exact BK139.out) hb); clear hb hbox hg)))
  (try simp only [Act.put, zSa, zSb, zSc])
  go_cut [19] (fun v19 wc => ∃ (kq : Nat) (x19_2 : Bool), v19 = .bool x19_2 ∧ Aside0 (filigreeref04_Same.j0 kq x19_2 a0_0 l0_1 a1_0 l1_1 = some r) ∧ Aside0 (kq ≤ k) ∧ Aside0 (wc.heap[gb139]? = some (.cells #[.int .i64 a0_0, (.slice A0_1 l0_1.length c0_1)] 24 (0, 0))) ∧ Aside0 (wc.heap[gb140]? = some (.cells #[.int .i64 a1_0, (.slice A1_1 l1_1.length c1_1)] 24 (0, 0))) ∧ Aside0 (Below w.heap.size w wc))
  case first =>
    have H := HC3.out
    clear HC3
    by_cases c6 : a0_0 = a1_0
    · rw [if_pos c6] at H
      have c6b0 : (a0_0 == a1_0) = true := beq_iff_eq.mpr c6
      have c6b1 : (a0_0 != a1_0) = false := bne_eq_false_iff_eq.mpr c6
      clear c6
      (first | rw [c6b0] | (simp only [i64_w, i32_w]; rw [c6b0]) | rw [c6b1] | skip)
      have H' := zMk H
      clear H
      have hnb7 := NB139_140.out
      have hnc7 := NB140_139.out
      have hcz8_0 : w5.cell? ⟨gb139, 0, none⟩ = some (.int .i64 a0_0) := (zKc BK139.out 0).trans rfl
      have hcz8_1 : w5.cell? ⟨gb139, 1, none⟩ = some (.slice A0_1 l0_1.length c0_1) := (zKc BK139.out 1).trans rfl
      have hfz8_0 := zKf BK139.out 0
      have hfz8_1 := zKf BK139.out 1
      have hcz9_0 : w5.cell? ⟨gb140, 0, none⟩ = some (.int .i64 a1_0) := (zKc BK140.out 0).trans rfl
      have hcz9_1 : w5.cell? ⟨gb140, 1, none⟩ = some (.slice A1_1 l1_1.length c1_1) := (zKc BK140.out 1).trans rfl
      have hfz9_0 := zKf BK140.out 0
      have hfz9_1 := zKf BK140.out 1
      go_wp2
      repeat (go_quiet (fail); try go_wp2)
      go_meet
      case rel => exact ⟨_, (((l0_1.length : Int) != (l1_1.length : Int))), (by first | rfl | (simp; done) | (simp [*]; done)), H', ⟨by first | omega | exact Nat.le_refl _⟩, ⟨by (with_reducible repeat (first | refine zKn ?_ _ | refine zKd ?_ | refine zKa ?_ _)); exact BK139.out⟩, ⟨by (with_reducible repeat (first | refine zKn ?_ _ | refine zKd ?_ | refine zKa ?_ _)); exact BK140.out⟩, ⟨by exact uT HB.out⟩⟩
    · rw [if_neg c6] at H
      have c6b0 : (a0_0 == a1_0) = false := beq_eq_false_iff_ne.mpr c6
      have c6b1 : (a0_0 != a1_0) = true := bne_iff_ne.mpr c6
      (first | rw [c6b0] | (simp only [i64_w, i32_w]; rw [c6b0]) | rw [c6b1] | skip)
      have H' := zMk H
      clear H
      have hnb10 := NB139_140.out
      have hnc10 := NB140_139.out
      have hcz11_0 : w5.cell? ⟨gb139, 0, none⟩ = some (.int .i64 a0_0) := (zKc BK139.out 0).trans rfl
      have hcz11_1 : w5.cell? ⟨gb139, 1, none⟩ = some (.slice A0_1 l0_1.length c0_1) := (zKc BK139.out 1).trans rfl
      have hfz11_0 := zKf BK139.out 0
      have hfz11_1 := zKf BK139.out 1
      have hcz12_0 : w5.cell? ⟨gb140, 0, none⟩ = some (.int .i64 a1_0) := (zKc BK140.out 0).trans rfl
      have hcz12_1 : w5.cell? ⟨gb140, 1, none⟩ = some (.slice A1_1 l1_1.length c1_1) := (zKc BK140.out 1).trans rfl
      have hfz12_0 := zKf BK140.out 0
      have hfz12_1 := zKf BK140.out 1
      go_wp2
      repeat (go_quiet (fail); try go_wp2)
      go_meet
      case rel => exact ⟨_, (true), (by first | rfl | (simp; done) | (simp [*]; done)), H', ⟨by first | omega | exact Nat.le_refl _⟩, ⟨by (with_reducible repeat (first | refine zKn ?_ _ | refine zKd ?_ | refine zKa ?_ _)); exact BK139.out⟩, ⟨by (with_reducible repeat (first | refine zKn ?_ _ | refine zKd ?_ | refine zKa ?_ _)); exact BK140.out⟩, ⟨by exact uT HB.out⟩⟩
  case rest =>
    clear HC3
    obtain ⟨kq, x19_2, rfl, HA, HJ2, BK139, BK140, HB⟩ := hcut
    rcases kq with _ | kj2
    · exact absurd HA.out (by simp [filigreeref04_Same.j0])
    have H := HA.out
    clear HA
    simp only [filigreeref04_Same.j0] at H
    by_cases c13 : x19_2 = true
    · subst c13
      replace H : (some false) = some r := by rw [if_pos rfl] at H; exact H
      obtain rfl := zOi H
      go_wp2
      repeat (go_quiet (fail); try go_wp2)
      go_ret
      exact ⟨by first | rfl | (simp [errW_none, errW_some] <;> rfl) | (simp [*, errW_none, errW_some] <;> rfl), by exact uT HB.out⟩
    · replace c13 := Bool.eq_false_iff.mpr c13
      subst c13
      replace H : (filigreeref04_Same.l0 kj2 0 a0_0 l0_1 a1_0 l1_1) = some r := by rw [if_neg (show ¬ (false = true) by decide)] at H; exact H
      have H' := zMk H
      clear H
      go_wp2
      repeat (go_quiet (fail); try go_wp2)
      go_loopg [5] kj2 (fun kq v5 w' => ∃ (x5_2 : Int), v5 = .int .i64 x5_2 ∧ Aside0 (filigreeref04_Same.l0 kq x5_2 a0_0 l0_1 a1_0 l1_1 = some r) ∧ Aside0 (kq ≤ kj2) ∧ Aside0 (w'.heap[gb139]? = some (.cells #[.int .i64 a0_0, (.slice A0_1 l0_1.length c0_1)] 24 (0, 0))) ∧ Aside0 (w'.heap[gb140]? = some (.cells #[.int .i64 a1_0, (.slice A1_1 l1_1.length c1_1)] 24 (0, 0))) ∧ Aside0 (Below w.heap.size w w'))
      case atStart => exact ⟨(0), (by first | rfl | (simp; done) | (simp [*]; done)), H', ⟨Nat.le_refl _⟩, ⟨by (with_reducible repeat (first | refine zKn ?_ _ | refine zKd ?_ | refine zKa ?_ _)); exact BK139.out⟩, ⟨by (with_reducible repeat (first | refine zKn ?_ _ | refine zKd ?_ | refine zKa ?_ _)); exact BK140.out⟩, ⟨by exact uT HB.out⟩⟩
      clear H'
      obtain ⟨x5_2, rfl, HA, HK2, BK139, BK140, HB⟩ := hrel
      rcases gk with _ | k2
      · exact absurd HA.out (by simp [filigreeref04_Same.l0])
      have H := HA.out
      clear HA
      simp only [filigreeref04_Same.l0] at H
      by_cases c14 : x5_2 < (l0_1.length : Int)
      · rw [if_pos c14] at H
        have c14b0 : decide (x5_2 < (l0_1.length : Int)) = true := decide_eq_true c14
        clear c14
        by_cases c15 : 0 ≤ x5_2
        rotate_left
        · rw [if_neg c15] at H; exact absurd H (by simp)
        rw [if_pos c15] at H
        have c15b0 : decide (0 ≤ x5_2) = true := decide_eq_true c15
        clear c15
        by_cases c16 : x5_2 < (l1_1.length : Int)
        rotate_left
        · rw [if_neg c16] at H; exact absurd H (by simp)
        rw [if_pos c16] at H
        have c16b0 : decide (x5_2 < (l1_1.length : Int)) = true := decide_eq_true c16
        clear c16
        by_cases c17 : (!(((rd_T36 l0_1 x5_2).f0) == ((rd_T36 l1_1 x5_2).f0)) || (!(((rd_T36 l0_1 x5_2).f1) == ((rd_T36 l1_1 x5_2).f1)) || (!(((rd_T36 l0_1 x5_2).f2) == ((rd_T36 l1_1 x5_2).f2))))) = true
        · rw [if_pos c17] at H
          have c17b0 : (!(((rd_T36 l0_1 x5_2).f0) == ((rd_T36 l1_1 x5_2).f0)) || (!(((rd_T36 l0_1 x5_2).f1) == ((rd_T36 l1_1 x5_2).f1)) || (!(((rd_T36 l0_1 x5_2).f2) == ((rd_T36 l1_1 x5_2).f2))))) = true := c17
          clear c17
          obtain rfl := zOi H
          have hnb18 := NB139_140.out
          have hnc18 := NB140_139.out
          have hcz19_0 : wr.cell? ⟨gb139, 0, none⟩ = some (.int .i64 a0_0) := (zKc BK139.out 0).trans rfl
          have hcz19_1 : wr.cell? ⟨gb139, 1, none⟩ = some (.slice A0_1 l0_1.length c0_1) := (zKc BK139.out 1).trans rfl
          have hfz19_0 := zKf BK139.out 0
          have hfz19_1 := zKf BK139.out 1
          have p141 : 0 ≤ (x5_2 : Int) := of_decide_eq_true (by first | (with_reducible assumption) | assumption)
          have q141 : x5_2 < (l0_1.length : Int) := of_decide_eq_true (by first | (with_reducible assumption) | assumption)
          obtain ⟨ad141, e141, hx141_0, hx141_1, hx141_2⟩ := at_T36 HR0_1.out x5_2 p141 q141
          cases e141
          replace hx141_0 := (HB.out.cell (World.block_lt_of_cell? w _ hx141_0)).trans hx141_0
          replace hx141_1 := (HB.out.cell (World.block_lt_of_cell? w _ hx141_1)).trans hx141_1
          replace hx141_2 := (HB.out.cell (World.block_lt_of_cell? w _ hx141_2)).trans hx141_2
          replace p141 := eq_true p141
          replace q141 := eq_true q141
          have hcz20_0 : wr.cell? ⟨gb140, 0, none⟩ = some (.int .i64 a1_0) := (zKc BK140.out 0).trans rfl
          have hcz20_1 : wr.cell? ⟨gb140, 1, none⟩ = some (.slice A1_1 l1_1.length c1_1) := (zKc BK140.out 1).trans rfl
          have hfz20_0 := zKf BK140.out 0
          have hfz20_1 := zKf BK140.out 1
          have p142 : 0 ≤ (x5_2 : Int) := of_decide_eq_true (by first | (with_reducible assumption) | assumption)
          have q142 : x5_2 < (l1_1.length : Int) := of_decide_eq_true (by first | (with_reducible assumption) | assumption)
          obtain ⟨ad142, e142, hx142_0, hx142_1, hx142_2⟩ := at_T36 HR1_1.out x5_2 p142 q142
          cases e142
          replace hx142_0 := (HB.out.cell (World.block_lt_of_cell? w _ hx142_0)).trans hx142_0
          replace hx142_1 := (HB.out.cell (World.block_lt_of_cell? w _ hx142_1)).trans hx142_1
          replace hx142_2 := (HB.out.cell (World.block_lt_of_cell? w _ hx142_2)).trans hx142_2
          replace p142 := eq_true p142
          replace q142 := eq_true q142
          go_wp2
          repeat (go_quiet (fail); try go_wp2)
          go_ret
          exact ⟨by first | rfl | (simp [errW_none, errW_some] <;> rfl) | (simp [*, errW_none, errW_some] <;> rfl), by exact uT HB.out⟩
        · rw [if_neg c17] at H
          have c17b0 : (!(((rd_T36 l0_1 x5_2).f0) == ((rd_T36 l1_1 x5_2).f0)) || (!(((rd_T36 l0_1 x5_2).f1) == ((rd_T36 l1_1 x5_2).f1)) || (!(((rd_T36 l0_1 x5_2).f2) == ((rd_T36 l1_1 x5_2).f2))))) = false := by simpa using c17
          clear c17
          have H' := zMk H
          clear H
          have hnb21 := NB139_140.out
          have hnc21 := NB140_139.out
          have hcz22_0 : wr.cell? ⟨gb139, 0, none⟩ = some (.int .i64 a0_0) := (zKc BK139.out 0).trans rfl
          have hcz22_1 : wr.cell? ⟨gb139, 1, none⟩ = some (.slice A0_1 l0_1.length c0_1) := (zKc BK139.out 1).trans rfl
          have hfz22_0 := zKf BK139.out 0
          have hfz22_1 := zKf BK139.out 1
          have p141 : 0 ≤ (x5_2 : Int) := of_decide_eq_true (by first | (with_reducible assumption) | assumption)
          have q141 : x5_2 < (l0_1.length : Int) := of_decide_eq_true (by first | (with_reducible assumption) | assumption)
          obtain ⟨ad141, e141, hx141_0, hx141_1, hx141_2⟩ := at_T36 HR0_1.out x5_2 p141 q141
          cases e141
          replace hx141_0 := (HB.out.cell (World.block_lt_of_cell? w _ hx141_0)).trans hx141_0
          replace hx141_1 := (HB.out.cell (World.block_lt_of_cell? w _ hx141_1)).trans hx141_1
          replace hx141_2 := (HB.out.cell (World.block_lt_of_cell? w _ hx141_2)).trans hx141_2
          replace p141 := eq_true p141
          replace q141 := eq_true q141
          have hcz23_0 : wr.cell? ⟨gb140, 0, none⟩ = some (.int .i64 a1_0) := (zKc BK140.out 0).trans rfl
          have hcz23_1 : wr.cell? ⟨gb140, 1, none⟩ = some (.slice A1_1 l1_1.length c1_1) := (zKc BK140.out 1).trans rfl
          have hfz23_0 := zKf BK140.out 0
          have hfz23_1 := zKf BK140.out 1
          have p142 : 0 ≤ (x5_2 : Int) := of_decide_eq_true (by first | (with_reducible assumption) | assumption)
          have q142 : x5_2 < (l1_1.length : Int) := of_decide_eq_true (by first | (with_reducible assumption) | assumption)
          obtain ⟨ad142, e142, hx142_0, hx142_1, hx142_2⟩ := at_T36 HR1_1.out x5_2 p142 q142
          cases e142
          replace hx142_0 := (HB.out.cell (World.block_lt_of_cell? w _ hx142_0)).trans hx142_0
          replace hx142_1 := (HB.out.cell (World.block_lt_of_cell? w _ hx142_1)).trans hx142_1
          replace hx142_2 := (HB.out.cell (World.block_lt_of_cell? w _ hx142_2)).trans hx142_2
          replace p142 := eq_true p142
          replace q142 := eq_true q142
          go_wp2
          repeat (go_quiet (fail); try go_wp2)
          go_roundg k2
          case measure => have := HJ2.out; have := HK2.out; omega
          case rel => exact ⟨(wrap64 (x5_2 + 1)), (by first | rfl | (simp; done) | (simp [*]; done)), H', ⟨by have := HJ2.out; have := HK2.out; omega⟩, ⟨by (with_reducible repeat (first | refine zKn ?_ _ | refine zKd ?_ | refine zKa ?_ _)); exact BK139.out⟩, ⟨by (with_reducible repeat (first | refine zKn ?_ _ | refine zKd ?_ | refine zKa ?_ _)); exact BK140.out⟩, ⟨by exact uT HB.out⟩⟩
      · rw [if_neg c14] at H
        have c14b0 : decide (x5_2 < (l0_1.length : Int)) = false := decide_eq_false c14
        clear c14
        obtain rfl := zOi H
        have hnb24 := NB139_140.out
        have hnc24 := NB140_139.out
        have hcz25_0 : wr.cell? ⟨gb139, 0, none⟩ = some (.int .i64 a0_0) := (zKc BK139.out 0).trans rfl
        have hcz25_1 : wr.cell? ⟨gb139, 1, none⟩ = some (.slice A0_1 l0_1.length c0_1) := (zKc BK139.out 1).trans rfl
        have hfz25_0 := zKf BK139.out 0
        have hfz25_1 := zKf BK139.out 1
        go_wp2
        repeat (go_quiet (fail); try go_wp2)
        go_ret
        exact ⟨by first | rfl | (simp [errW_none, errW_some] <;> rfl) | (simp [*, errW_none, errW_some] <;> rfl), by exact uT HB.out⟩


/-! ### filigreelaw04_GraphMakes: function 4 -/
def filigreelaw04_GraphMakes.f (k : Nat) (a0 : Int) (l1 : List (S36)) : Option (Bool) := if (l1.length : Int) > 500 then ((filigreelaw04_alive.f k).bind fun t362 => (some t362)) else ((graph_Make.f k a0 l1).bind fun bt363 => ((filigreeref04_Make.f k a0 l1).bind fun bt369 => ((filigreeref04_Same.f k bt363.1 bt363.2.1 bt369.1 bt369.2.1).bind fun t375 => (if t375 = true then (if bt363.2.2 = bt369.2.2 then ((filigreelaw04_alive.f k).bind fun t376 => (some t376)) else (some false)) else (some false)))))
set_option maxHeartbeats 8000000 in
set_option maxRecDepth 100000 in
theorem filigreelaw04_GraphMakes.calls (k : Nat) (a0 : Int) (A1 : Option Addr) (c1 : Nat) (l1 : List (S36)) (r : Bool) (w : World) (hr1 : Kd.C k36 w A1 l1.length l1) (hc1 : l1.length ≤ c1) (h : filigreelaw04_GraphMakes.f k a0 l1 = some r) (hr_ : r = true) :
    Calls Try.prog 4 #[.int .i64 a0, .slice A1 l1.length c1] w fun e w' => e = .returned (.bool r) ∧ Below w.heap.size w w' := by
  have HRT := zMk hr_
  clear hr_
  have hu24 := Try.underlying24
  have HR1 := zMk hr1
  have HC1 := zMk hc1
  clear hr1 hc1
  have HB := zMk (Below.refl w.heap.size w)
  have H : (if (l1.length : Int) > 500 then ((filigreelaw04_alive.f k).bind fun t362 => (some t362)) else ((graph_Make.f k a0 l1).bind fun bt363 => ((filigreeref04_Make.f k a0 l1).bind fun bt369 => ((filigreeref04_Same.f k bt363.1 bt363.2.1 bt369.1 bt369.2.1).bind fun t375 => (if t375 = true then (if bt363.2.2 = bt369.2.2 then ((filigreelaw04_alive.f k).bind fun t376 => (some t376)) else (some false)) else (some false)))))) = some r := h
  clear h
  by_cases c3 : (l1.length : Int) > 500
  · rw [if_pos c3] at H
    have c3b0 : decide (500 < (l1.length : Int)) = true := decide_eq_true c3
    have c3b1 : decide (500 < l1.length) = true := decide_eq_true (by omega)
    clear c3
    replace H := bnd H
    obtain ⟨t362, A40, H⟩ := H
    have A4 := zMk A40
    clear A40
    obtain rfl := zOi H
    go_enter Try.func4, Try.ntmps4
    go_wp2_with (first |  ((with_reducible refine gate_callee (f := 13) rfl ?_); refine goesL_ (some 12) rfl rfl Try.func13 (by kernel_rfl) rfl #[] rfl (by (try simp only [zMa, zMc, zMn]); first |  done|  rfl|  (simp only [zLd, zLt]; rfl)) ?_; (with_reducible refine (filigreelaw04_alive.calls k  t362 _ A4.out).mono ?_); rintro e w5 ⟨rfl, hb⟩; refine ⟨_, rfl, ?_⟩; replace HB := zMk (zBt (by exact uT HB.out) hb); (try clear hb); (try clear hb2); (try clear hk); (try clear hi)))
    go_ret
    exact ⟨by first | rfl | (simp [errW_none, errW_some] <;> rfl) | (simp [*, errW_none, errW_some] <;> rfl), by exact uT HB.out⟩
  · rw [if_neg c3] at H
    have c3b0 : decide (500 < (l1.length : Int)) = false := decide_eq_false c3
    have c3b1 : decide (500 < l1.length) = false := decide_eq_false (by omega)
    clear c3
    replace H := bnd H
    obtain ⟨⟨t363, t364, t367⟩, A60, H⟩ := H
    replace H : ((filigreeref04_Make.f k a0 l1).bind fun bt369 => ((filigreeref04_Same.f k t363 t364 bt369.1 bt369.2.1).bind fun t375 => (if t375 = true then (if t367 = bt369.2.2 then ((filigreelaw04_alive.f k).bind fun t376 => (some t376)) else (some false)) else (some false)))) = some r := H
    have A6 := zMk A60
    clear A60
    replace H := bnd H
    obtain ⟨⟨t369, t370, t373⟩, A70, H⟩ := H
    replace H : ((filigreeref04_Same.f k t363 t364 t369 t370).bind fun t375 => (if t375 = true then (if t367 = t373 then ((filigreelaw04_alive.f k).bind fun t376 => (some t376)) else (some false)) else (some false))) = some r := H
    have A7 := zMk A70
    clear A70
    replace H := bnd H
    obtain ⟨t375, A80, H⟩ := H
    have A8 := zMk A80
    clear A80
    by_cases c9 : t375 = true
    · subst c9
      replace H : (if t367 = t373 then ((filigreelaw04_alive.f k).bind fun t376 => (some t376)) else (some false)) = some r := by rw [if_pos rfl] at H; exact H
      by_cases c10 : t367 = t373
      · rw [if_pos c10] at H
        have c10b0 : (t367 == t373) = true := beq_iff_eq.mpr c10
        have c10b1 : (t367 != t373) = false := bne_eq_false_iff_eq.mpr c10
        clear c10
        replace H := bnd H
        obtain ⟨t376, A110, H⟩ := H
        have A11 := zMk A110
        clear A110
        obtain rfl := zOi H
        go_enter Try.func4, Try.ntmps4
        go_wp2_with (first |  ((with_reducible refine gate_callee (f := 14) rfl ?_); refine goesL_ (some 16) rfl rfl Try.func14 (by kernel_rfl) rfl #[.int .i64 a0, .slice A1 l1.length c1] rfl (by (try simp only [zMa, zMc, zMn]); first |  done|  rfl|  (simp only [zLd, zLt]; rfl)) ?_; (with_reducible refine (graph_Make.calls k a0 _ _ l1 t363 t364 t367 _ ?side1 ?side2 A6.out).mono ?_); (case side1 => repeat (first |  exact HR1.out|  (with_reducible refine zCa ?_ _)|  (with_reducible refine zCn ?_ _)|  (with_reducible refine zCd ?_))); (case side2 => exact HC1.out); rintro e w12 ⟨v365, rfl, ho0, hb⟩; refine ⟨_, rfl, ?_⟩; have HO366 := zMk (zRl ho0 (zBs (by exact uT HB.out))); replace HB := zMk (zBt (by exact uT HB.out) hb); (try clear hb); (try clear hb2); (try clear hk); (try clear hi); (try clear ho0))|  ((with_reducible refine gate_dst (N := 5) rfl ?_); refine box_event ?hg (N := 5) ?hd (cs := #[.int .i64 0, .slice none 0 0]) (t := 24) ?hr ?_; (case hd => rfl); (case hg => rfl); (case hr => first |  (go_simp; done)|  (go_simp; rfl)|  (go_simp; rw [show ∀ x : Int, IntKind.u32.wrap (IntKind.u8.wrap x) = x % 256 from fun x => (by show (x % 256) % 4294967296 = x % 256; omega)])); intro gb368 hg w13 hbox hb; replace HO366 := zMk (zRb (by exact uR HO366.out) hb); have BK368 := zMk (hbox); have GW368 := zMk ((by rw [hg]; exact (zBs (by exact uT HB.out)) : w.heap.size ≤ gb368)); have GE368 := zMk ((by rw [hg]; exact (zBs (by exact uT HB.out)) : w.heap.size ≤ gb368)); have IGE368 := ownGe GE368.out; replace HB := zMk (zBt (by exact uT HB.out) hb); clear hb hbox hg; have hcz14_0 : w13.cell? ⟨gb368, 0, none⟩ = some (.int .i64 0) := (zKc BK368.out 0).trans rfl; have hcz14_1 : w13.cell? ⟨gb368, 1, none⟩ = some (.slice none 0 0) := (zKc BK368.out 1).trans rfl; have hfz14_0 := zKf BK368.out 0; have hfz14_1 := zKf BK368.out 1; obtain ⟨Ao15, co15, eo15⟩ := zRs HO366.out; subst eo15)|  ((with_reducible refine gate_callee (f := 15) rfl ?_); refine goesL_ (some 22) rfl rfl Try.func15 (by kernel_rfl) rfl #[.int .i64 a0, .slice A1 l1.length c1] rfl (by (try simp only [zMa, zMc, zMn]); first |  done|  rfl|  (simp only [zLd, zLt]; rfl)) ?_; (with_reducible refine (filigreeref04_Make.calls k a0 _ _ l1 t369 t370 t373 _ ?side1 ?side2 A7.out).mono ?_); (case side1 => exact Kd.C_below HR1.out (by exact uT HB.out)); (case side2 => exact HC1.out); rintro e w16 ⟨v371, rfl, ho0, hb⟩; refine ⟨_, rfl, ?_⟩; have HO372 := zMk (zRl (zRw ho0 (zRt (by (with_reducible repeat (first |  apply zRa|  apply zRn|  apply zRd)); exact (zRm (Kd.R_far (p := ⟨gb368, 1, none⟩) (Kd.R_far (p := ⟨gb368, 0, none⟩) (Kd.R_types HO366.out BK368.out (by decide)) (fun _ hk => hk.2) (.int .i64 t363)) (fun _ hk => hk.2) (.slice Ao15 t364.length co15)) (fun _ h_ => h_.1))))) (zBs (by exact uT HB.out))); replace HO366 := zMk (zRe (by (with_reducible repeat (first |  apply zRa|  apply zRn|  apply zRd)); exact (zRm (Kd.R_far (p := ⟨gb368, 1, none⟩) (Kd.R_far (p := ⟨gb368, 0, none⟩) (Kd.R_types HO366.out BK368.out (by decide)) (fun _ hk => hk.2) (.int .i64 t363)) (fun _ hk => hk.2) (.slice Ao15 t364.length co15)) (fun _ h_ => h_.1))) (zRz ho0) hb); replace BK368 := zMk (zKb (g := gb368) (o := .cells #[.int .i64 t363, .slice Ao15 t364.length co15] 24 (0, 0)) (by (with_reducible repeat (first |  refine zKn ?_ _|  refine zKd ?_|  refine zKa ?_ _)); refine blk_put (cs := #[.int .i64 t363, .slice none 0 0]) ?_ 1 _ rfl; (with_reducible repeat (first |  refine zKn ?_ _|  refine zKd ?_|  refine zKa ?_ _)); refine blk_put (cs := #[.int .i64 0, .slice none 0 0]) ?_ 0 _ rfl; (with_reducible repeat (first |  refine zKn ?_ _|  refine zKd ?_|  refine zKa ?_ _)); exact BK368.out) hb); replace HB := zMk (zBt (by exact uT HB.out) hb); (try clear hb); (try clear hb2); (try clear hk); (try clear hi); (try clear ho0))|  ((with_reducible refine gate_dst (N := 7) rfl ?_); refine box_event ?hg (N := 7) ?hd (cs := #[.int .i64 0, .slice none 0 0]) (t := 24) ?hr ?_; (case hd => rfl); (case hg => rfl); (case hr => first |  (go_simp; done)|  (go_simp; rfl)|  (go_simp; rw [show ∀ x : Int, IntKind.u32.wrap (IntKind.u8.wrap x) = x % 256 from fun x => (by show (x % 256) % 4294967296 = x % 256; omega)])); intro gb374 hg w17 hbox hb; replace HO366 := zMk (zRb (by exact uR HO366.out) hb); replace HO372 := zMk (zRb (by exact uR HO372.out) hb); have BK374 := zMk (hbox); have GW374 := zMk ((by rw [hg]; exact (zBs (by exact uT HB.out)) : w.heap.size ≤ gb374)); have GE374 := zMk ((by rw [hg]; exact (zBs (by exact uT HB.out)) : w.heap.size ≤ gb374)); have IGE374 := ownGe GE374.out; replace HB := zMk (zBt (by exact uT HB.out) hb); have NB368_374 := zMk ((by rw [hg]; exact Nat.ne_of_lt (blk_lt (g := gb368) (o := .cells #[.int .i64 t363, .slice Ao15 t364.length co15] 24 (0, 0)) (by (with_reducible repeat (first |  refine zKn ?_ _|  refine zKd ?_|  refine zKa ?_ _)); exact BK368.out)) : gb368 ≠ gb374)); have NB374_368 := zMk ((by rw [hg]; exact Nat.ne_of_gt (blk_lt (g := gb368) (o := .cells #[.int .i64 t363, .slice Ao15 t364.length co15] 24 (0, 0)) (by (with_reducible repeat (first |  refine zKn ?_ _|  refine zKd ?_|  refine zKa ?_ _)); exact BK368.out)) : gb374 ≠ gb368)); replace BK368 := zMk (zKb (g := gb368) (o := .cells #[.int .i64 t363, .slice Ao15 t364.length co15] 24 (0, 0)) (by (with_reducible repeat (first |  refine zKn ?_ _|  refine zKd ?_|  refine zKa ?_ _)); exact BK368.out) hb); clear hb hbox hg; have hnb18 := NB374_368.out; have hnc18 := NB368_374.out; have hcz19_0 : w17.cell? ⟨gb374, 0, none⟩ = some (.int .i64 0) := (zKc BK374.out 0).trans rfl; have hcz19_1 : w17.cell? ⟨gb374, 1, none⟩ = some (.slice none 0 0) := (zKc BK374.out 1).trans rfl; have hfz19_0 := zKf BK374.out 0; have hfz19_1 := zKf BK374.out 1; obtain ⟨Ao20, co20, eo20⟩ := zRs HO372.out; subst eo20; have hcz21_0 : w17.cell? ⟨gb368, 0, none⟩ = some (.int .i64 t363) := (zKc BK368.out 0).trans rfl; have hcz21_1 : w17.cell? ⟨gb368, 1, none⟩ = some (.slice Ao15 t364.length co15) := (zKc BK368.out 1).trans rfl; have hfz21_0 := zKf BK368.out 0; have hfz21_1 := zKf BK368.out 1)|  ((with_reducible refine gate_callee (f := 16) rfl ?_); refine goesL_ (some 27) rfl rfl Try.func16 (by kernel_rfl) rfl #[.agg #[.int .i64 t363, .slice Ao15 t364.length co15], .agg #[.int .i64 t369, .slice Ao20 t370.length co20]] rfl (by (try simp only [zMa, zMc, zMn]); first |  done|  rfl|  (simp only [zLd, zLt]; rfl)) ?_; (with_reducible refine (filigreeref04_Same.calls k t363 _ _ t364 t369 _ _ t370 true _ ?side1 ?side2 ?side3 ?side4 A8.out).mono ?_); (case side1 => refine (zRr (e := 36) (base := w.heap.size) (ok := fun k_ => (True ∧ some k_ ≠ (.slice Ao20 t370.length co20 : Value).ownBlock)) (n := t364.length) (c := co15) ?_).2.2; exact (by (with_reducible repeat (first |  apply zRa|  apply zRn|  apply zRd)); exact (zRm (Kd.R_far (p := ⟨gb374, 1, none⟩) (Kd.R_far (p := ⟨gb374, 0, none⟩) (Kd.R_types HO366.out BK374.out (by decide)) (fun _ hk => hk.2) (.int .i64 t369)) (fun _ hk => hk.2) (.slice Ao20 t370.length co20)) (fun _ h_ => h_.1)))); (case side2 => exact (zRr HO366.out).2.1); (case side3 => refine (zRr (e := 36) (base := w.heap.size) (ok := fun k_ => (True ∧ some k_ ≠ (.slice Ao15 t364.length co15 : Value).ownBlock)) (n := t370.length) (c := co20) ?_).2.2; exact (by (with_reducible repeat (first |  apply zRa|  apply zRn|  apply zRd)); exact (zRm (Kd.R_far (p := ⟨gb374, 1, none⟩) (Kd.R_far (p := ⟨gb374, 0, none⟩) (Kd.R_types HO372.out BK374.out (by decide)) (fun _ hk => hk.2) (.int .i64 t369)) (fun _ hk => hk.2) (.slice Ao20 t370.length co20)) (fun _ h_ => h_.1)))); (case side4 => exact (zRr HO372.out).2.1); rintro e w22 ⟨rfl, hb⟩; refine ⟨_, rfl, ?_⟩; replace HO366 := zMk (zRb (by (with_reducible repeat (first |  apply zRa|  apply zRn|  apply zRd)); exact (zRm (Kd.R_far (p := ⟨gb374, 1, none⟩) (Kd.R_far (p := ⟨gb374, 0, none⟩) (Kd.R_types HO366.out BK374.out (by decide)) (fun _ hk => hk.2) (.int .i64 t369)) (fun _ hk => hk.2) (.slice Ao20 t370.length co20)) (fun _ h_ => h_.1))) hb); replace HO372 := zMk (zRb (by (with_reducible repeat (first |  apply zRa|  apply zRn|  apply zRd)); exact (zRm (Kd.R_far (p := ⟨gb374, 1, none⟩) (Kd.R_far (p := ⟨gb374, 0, none⟩) (Kd.R_types HO372.out BK374.out (by decide)) (fun _ hk => hk.2) (.int .i64 t369)) (fun _ hk => hk.2) (.slice Ao20 t370.length co20)) (fun _ h_ => h_.1))) hb); replace BK368 := zMk (zKb (g := gb368) (o := .cells #[.int .i64 t363, .slice Ao15 t364.length co15] 24 (0, 0)) (by (with_reducible repeat (first |  refine zKn ?_ _|  refine zKd ?_|  refine zKa ?_ _)); refine blk_far ?_ NB368_374.out _; (with_reducible repeat (first |  refine zKn ?_ _|  refine zKd ?_|  refine zKa ?_ _)); refine blk_far ?_ NB368_374.out _; (with_reducible repeat (first |  refine zKn ?_ _|  refine zKd ?_|  refine zKa ?_ _)); exact BK368.out) hb); replace BK374 := zMk (zKb (g := gb374) (o := .cells #[.int .i64 t369, .slice Ao20 t370.length co20] 24 (0, 0)) (by (with_reducible repeat (first |  refine zKn ?_ _|  refine zKd ?_|  refine zKa ?_ _)); refine blk_put (cs := #[.int .i64 t369, .slice none 0 0]) ?_ 1 _ rfl; (with_reducible repeat (first |  refine zKn ?_ _|  refine zKd ?_|  refine zKa ?_ _)); refine blk_put (cs := #[.int .i64 0, .slice none 0 0]) ?_ 0 _ rfl; (with_reducible repeat (first |  refine zKn ?_ _|  refine zKd ?_|  refine zKa ?_ _)); exact BK374.out) hb); replace HB := zMk (zBt (by exact uT HB.out) hb); (try clear hb); (try clear hb2); (try clear hk); (try clear hi))|  (go_at_call 13; (with_reducible refine (filigreelaw04_alive.calls k  t376 _ A11.out).mono ?_); rintro e w23 ⟨rfl, hb⟩; replace HO366 := zMk (zRb (by exact uR HO366.out) hb); replace HO372 := zMk (zRb (by exact uR HO372.out) hb); replace BK368 := zMk (zKb (g := gb368) (o := .cells #[.int .i64 t363, .slice Ao15 t364.length co15] 24 (0, 0)) (by (with_reducible repeat (first |  refine zKn ?_ _|  refine zKd ?_|  refine zKa ?_ _)); exact BK368.out) hb); replace BK374 := zMk (zKb (g := gb374) (o := .cells #[.int .i64 t369, .slice Ao20 t370.length co20] 24 (0, 0)) (by (with_reducible repeat (first |  refine zKn ?_ _|  refine zKd ?_|  refine zKa ?_ _)); exact BK374.out) hb); replace HB := zMk (zBt (by exact uT HB.out) hb); (try clear hb); (try clear hb2); (try clear hk); (try clear hi)))
        go_ret
        exact ⟨by first | rfl | (simp [errW_none, errW_some] <;> rfl) | (simp [*, errW_none, errW_some] <;> rfl), by exact uT HB.out⟩
      · rw [if_neg c10] at H
        have c10b0 : (t367 == t373) = false := beq_eq_false_iff_ne.mpr c10
        have c10b1 : (t367 != t373) = true := bne_iff_ne.mpr c10
        obtain rfl := zOi H
        go_enter Try.func4, Try.ntmps4
        go_wp2_with (first |  ((with_reducible refine gate_callee (f := 14) rfl ?_); refine goesL_ (some 16) rfl rfl Try.func14 (by kernel_rfl) rfl #[.int .i64 a0, .slice A1 l1.length c1] rfl (by (try simp only [zMa, zMc, zMn]); first |  done|  rfl|  (simp only [zLd, zLt]; rfl)) ?_; (with_reducible refine (graph_Make.calls k a0 _ _ l1 t363 t364 t367 _ ?side1 ?side2 A6.out).mono ?_); (case side1 => repeat (first |  exact HR1.out|  (with_reducible refine zCa ?_ _)|  (with_reducible refine zCn ?_ _)|  (with_reducible refine zCd ?_))); (case side2 => exact HC1.out); rintro e w24 ⟨v365, rfl, ho0, hb⟩; refine ⟨_, rfl, ?_⟩; have HO366 := zMk (zRl ho0 (zBs (by exact uT HB.out))); replace HB := zMk (zBt (by exact uT HB.out) hb); (try clear hb); (try clear hb2); (try clear hk); (try clear hi); (try clear ho0))|  ((with_reducible refine gate_dst (N := 5) rfl ?_); refine box_event ?hg (N := 5) ?hd (cs := #[.int .i64 0, .slice none 0 0]) (t := 24) ?hr ?_; (case hd => rfl); (case hg => rfl); (case hr => first |  (go_simp; done)|  (go_simp; rfl)|  (go_simp; rw [show ∀ x : Int, IntKind.u32.wrap (IntKind.u8.wrap x) = x % 256 from fun x => (by show (x % 256) % 4294967296 = x % 256; omega)])); intro gb368 hg w25 hbox hb; replace HO366 := zMk (zRb (by exact uR HO366.out) hb); have BK368 := zMk (hbox); have GW368 := zMk ((by rw [hg]; exact (zBs (by exact uT HB.out)) : w.heap.size ≤ gb368)); have GE368 := zMk ((by rw [hg]; exact (zBs (by exact uT HB.out)) : w.heap.size ≤ gb368)); have IGE368 := ownGe GE368.out; replace HB := zMk (zBt (by exact uT HB.out) hb); clear hb hbox hg; have hcz26_0 : w25.cell? ⟨gb368, 0, none⟩ = some (.int .i64 0) := (zKc BK368.out 0).trans rfl; have hcz26_1 : w25.cell? ⟨gb368, 1, none⟩ = some (.slice none 0 0) := (zKc BK368.out 1).trans rfl; have hfz26_0 := zKf BK368.out 0; have hfz26_1 := zKf BK368.out 1; obtain ⟨Ao27, co27, eo27⟩ := zRs HO366.out; subst eo27)|  ((with_reducible refine gate_callee (f := 15) rfl ?_); refine goesL_ (some 22) rfl rfl Try.func15 (by kernel_rfl) rfl #[.int .i64 a0, .slice A1 l1.length c1] rfl (by (try simp only [zMa, zMc, zMn]); first |  done|  rfl|  (simp only [zLd, zLt]; rfl)) ?_; (with_reducible refine (filigreeref04_Make.calls k a0 _ _ l1 t369 t370 t373 _ ?side1 ?side2 A7.out).mono ?_); (case side1 => exact Kd.C_below HR1.out (by exact uT HB.out)); (case side2 => exact HC1.out); rintro e w28 ⟨v371, rfl, ho0, hb⟩; refine ⟨_, rfl, ?_⟩; have HO372 := zMk (zRl (zRw ho0 (zRt (by (with_reducible repeat (first |  apply zRa|  apply zRn|  apply zRd)); exact (zRm (Kd.R_far (p := ⟨gb368, 1, none⟩) (Kd.R_far (p := ⟨gb368, 0, none⟩) (Kd.R_types HO366.out BK368.out (by decide)) (fun _ hk => hk.2) (.int .i64 t363)) (fun _ hk => hk.2) (.slice Ao27 t364.length co27)) (fun _ h_ => h_.1))))) (zBs (by exact uT HB.out))); replace HO366 := zMk (zRe (by (with_reducible repeat (first |  apply zRa|  apply zRn|  apply zRd)); exact (zRm (Kd.R_far (p := ⟨gb368, 1, none⟩) (Kd.R_far (p := ⟨gb368, 0, none⟩) (Kd.R_types HO366.out BK368.out (by decide)) (fun _ hk => hk.2) (.int .i64 t363)) (fun _ hk => hk.2) (.slice Ao27 t364.length co27)) (fun _ h_ => h_.1))) (zRz ho0) hb); replace BK368 := zMk (zKb (g := gb368) (o := .cells #[.int .i64 t363, .slice Ao27 t364.length co27] 24 (0, 0)) (by (with_reducible repeat (first |  refine zKn ?_ _|  refine zKd ?_|  refine zKa ?_ _)); refine blk_put (cs := #[.int .i64 t363, .slice none 0 0]) ?_ 1 _ rfl; (with_reducible repeat (first |  refine zKn ?_ _|  refine zKd ?_|  refine zKa ?_ _)); refine blk_put (cs := #[.int .i64 0, .slice none 0 0]) ?_ 0 _ rfl; (with_reducible repeat (first |  refine zKn ?_ _|  refine zKd ?_|  refine zKa ?_ _)); exact BK368.out) hb); replace HB := zMk (zBt (by exact uT HB.out) hb); (try clear hb); (try clear hb2); (try clear hk); (try clear hi); (try clear ho0))|  ((with_reducible refine gate_dst (N := 7) rfl ?_); refine box_event ?hg (N := 7) ?hd (cs := #[.int .i64 0, .slice none 0 0]) (t := 24) ?hr ?_; (case hd => rfl); (case hg => rfl); (case hr => first |  (go_simp; done)|  (go_simp; rfl)|  (go_simp; rw [show ∀ x : Int, IntKind.u32.wrap (IntKind.u8.wrap x) = x % 256 from fun x => (by show (x % 256) % 4294967296 = x % 256; omega)])); intro gb374 hg w29 hbox hb; replace HO366 := zMk (zRb (by exact uR HO366.out) hb); replace HO372 := zMk (zRb (by exact uR HO372.out) hb); have BK374 := zMk (hbox); have GW374 := zMk ((by rw [hg]; exact (zBs (by exact uT HB.out)) : w.heap.size ≤ gb374)); have GE374 := zMk ((by rw [hg]; exact (zBs (by exact uT HB.out)) : w.heap.size ≤ gb374)); have IGE374 := ownGe GE374.out; replace HB := zMk (zBt (by exact uT HB.out) hb); have NB368_374 := zMk ((by rw [hg]; exact Nat.ne_of_lt (blk_lt (g := gb368) (o := .cells #[.int .i64 t363, .slice Ao27 t364.length co27] 24 (0, 0)) (by (with_reducible repeat (first |  refine zKn ?_ _|  refine zKd ?_|  refine zKa ?_ _)); exact BK368.out)) : gb368 ≠ gb374)); have NB374_368 := zMk ((by rw [hg]; exact Nat.ne_of_gt (blk_lt (g := gb368) (o := .cells #[.int .i64 t363, .slice Ao27 t364.length co27] 24 (0, 0)) (by (with_reducible repeat (first |  refine zKn ?_ _|  refine zKd ?_|  refine zKa ?_ _)); exact BK368.out)) : gb374 ≠ gb368)); replace BK368 := zMk (zKb (g := gb368) (o := .cells #[.int .i64 t363, .slice Ao27 t364.length co27] 24 (0, 0)) (by (with_reducible repeat (first |  refine zKn ?_ _|  refine zKd ?_|  refine zKa ?_ _)); exact BK368.out) hb); clear hb hbox hg; have hnb30 := NB374_368.out; have hnc30 := NB368_374.out; have hcz31_0 : w29.cell? ⟨gb374, 0, none⟩ = some (.int .i64 0) := (zKc BK374.out 0).trans rfl; have hcz31_1 : w29.cell? ⟨gb374, 1, none⟩ = some (.slice none 0 0) := (zKc BK374.out 1).trans rfl; have hfz31_0 := zKf BK374.out 0; have hfz31_1 := zKf BK374.out 1; obtain ⟨Ao32, co32, eo32⟩ := zRs HO372.out; subst eo32; have hcz33_0 : w29.cell? ⟨gb368, 0, none⟩ = some (.int .i64 t363) := (zKc BK368.out 0).trans rfl; have hcz33_1 : w29.cell? ⟨gb368, 1, none⟩ = some (.slice Ao27 t364.length co27) := (zKc BK368.out 1).trans rfl; have hfz33_0 := zKf BK368.out 0; have hfz33_1 := zKf BK368.out 1)|  ((with_reducible refine gate_callee (f := 16) rfl ?_); refine goesL_ (some 27) rfl rfl Try.func16 (by kernel_rfl) rfl #[.agg #[.int .i64 t363, .slice Ao27 t364.length co27], .agg #[.int .i64 t369, .slice Ao32 t370.length co32]] rfl (by (try simp only [zMa, zMc, zMn]); first |  done|  rfl|  (simp only [zLd, zLt]; rfl)) ?_; (with_reducible refine (filigreeref04_Same.calls k t363 _ _ t364 t369 _ _ t370 true _ ?side1 ?side2 ?side3 ?side4 A8.out).mono ?_); (case side1 => refine (zRr (e := 36) (base := w.heap.size) (ok := fun k_ => (True ∧ some k_ ≠ (.slice Ao32 t370.length co32 : Value).ownBlock)) (n := t364.length) (c := co27) ?_).2.2; exact (by (with_reducible repeat (first |  apply zRa|  apply zRn|  apply zRd)); exact (zRm (Kd.R_far (p := ⟨gb374, 1, none⟩) (Kd.R_far (p := ⟨gb374, 0, none⟩) (Kd.R_types HO366.out BK374.out (by decide)) (fun _ hk => hk.2) (.int .i64 t369)) (fun _ hk => hk.2) (.slice Ao32 t370.length co32)) (fun _ h_ => h_.1)))); (case side2 => exact (zRr HO366.out).2.1); (case side3 => refine (zRr (e := 36) (base := w.heap.size) (ok := fun k_ => (True ∧ some k_ ≠ (.slice Ao27 t364.length co27 : Value).ownBlock)) (n := t370.length) (c := co32) ?_).2.2; exact (by (with_reducible repeat (first |  apply zRa|  apply zRn|  apply zRd)); exact (zRm (Kd.R_far (p := ⟨gb374, 1, none⟩) (Kd.R_far (p := ⟨gb374, 0, none⟩) (Kd.R_types HO372.out BK374.out (by decide)) (fun _ hk => hk.2) (.int .i64 t369)) (fun _ hk => hk.2) (.slice Ao32 t370.length co32)) (fun _ h_ => h_.1)))); (case side4 => exact (zRr HO372.out).2.1); rintro e w34 ⟨rfl, hb⟩; refine ⟨_, rfl, ?_⟩; replace HO366 := zMk (zRb (by (with_reducible repeat (first |  apply zRa|  apply zRn|  apply zRd)); exact (zRm (Kd.R_far (p := ⟨gb374, 1, none⟩) (Kd.R_far (p := ⟨gb374, 0, none⟩) (Kd.R_types HO366.out BK374.out (by decide)) (fun _ hk => hk.2) (.int .i64 t369)) (fun _ hk => hk.2) (.slice Ao32 t370.length co32)) (fun _ h_ => h_.1))) hb); replace HO372 := zMk (zRb (by (with_reducible repeat (first |  apply zRa|  apply zRn|  apply zRd)); exact (zRm (Kd.R_far (p := ⟨gb374, 1, none⟩) (Kd.R_far (p := ⟨gb374, 0, none⟩) (Kd.R_types HO372.out BK374.out (by decide)) (fun _ hk => hk.2) (.int .i64 t369)) (fun _ hk => hk.2) (.slice Ao32 t370.length co32)) (fun _ h_ => h_.1))) hb); replace BK368 := zMk (zKb (g := gb368) (o := .cells #[.int .i64 t363, .slice Ao27 t364.length co27] 24 (0, 0)) (by (with_reducible repeat (first |  refine zKn ?_ _|  refine zKd ?_|  refine zKa ?_ _)); refine blk_far ?_ NB368_374.out _; (with_reducible repeat (first |  refine zKn ?_ _|  refine zKd ?_|  refine zKa ?_ _)); refine blk_far ?_ NB368_374.out _; (with_reducible repeat (first |  refine zKn ?_ _|  refine zKd ?_|  refine zKa ?_ _)); exact BK368.out) hb); replace BK374 := zMk (zKb (g := gb374) (o := .cells #[.int .i64 t369, .slice Ao32 t370.length co32] 24 (0, 0)) (by (with_reducible repeat (first |  refine zKn ?_ _|  refine zKd ?_|  refine zKa ?_ _)); refine blk_put (cs := #[.int .i64 t369, .slice none 0 0]) ?_ 1 _ rfl; (with_reducible repeat (first |  refine zKn ?_ _|  refine zKd ?_|  refine zKa ?_ _)); refine blk_put (cs := #[.int .i64 0, .slice none 0 0]) ?_ 0 _ rfl; (with_reducible repeat (first |  refine zKn ?_ _|  refine zKd ?_|  refine zKa ?_ _)); exact BK374.out) hb); replace HB := zMk (zBt (by exact uT HB.out) hb); (try clear hb); (try clear hb2); (try clear hk); (try clear hi)))
        go_ret
        exact ⟨by first | rfl | (simp [errW_none, errW_some] <;> rfl) | (simp [*, errW_none, errW_some] <;> rfl), by exact uT HB.out⟩
    · replace c9 := Bool.eq_false_iff.mpr c9
      subst c9
      replace H : (some false) = some r := by rw [if_neg (show ¬ (false = true) by decide)] at H; exact H
      exact absurd ((zOi H).trans HRT.out) (by decide)

/-- What the walk leaves: a statement of plain lists and numbers. -/
def filigreelaw04_GraphMakes.Pure : Prop := ∀ (a0 : Int) (l1 : List A.S36), (Lit.int .i64 a0).wf = true → l1.length ≤ maxLen → l1.length * 24 ≤ 140737488351232 → (∀ x ∈ l1, (Lit.int .i64 x.f0).wf = true ∧ (Lit.int .i64 x.f1).wf = true ∧ (Lit.int .i64 x.f2).wf = true) → ∃ k, filigreelaw04_GraphMakes.f k a0 l1 = some true
/- The plain law of GraphMakes. -/
theorem refSame_l0 (n : Int) (E : List S36) (hm : E.length ≤ 1000000) (d : Nat) : ∀ (k i : Nat), E.length - i = d → i ≤ E.length → d + 1 ≤ k → filigreeref04_Same.l0 k i n E n E = some true := by
  induction d with
  | zero =>
    intro k i hd hi hk
    obtain ⟨k, rfl⟩ : ∃ m, k = m + 1 := ⟨k - 1, by omega⟩
    simp only [filigreeref04_Same.l0]
    rw [if_neg (by omega)]
  | succ d ih =>
    intro k i hd hi hk
    obtain ⟨k, rfl⟩ : ∃ m, k = m + 1 := ⟨k - 1, by omega⟩
    have hwn : wrap64 ((i : Int) + 1) = ((i + 1 : Nat) : Int) := by rw [w64 (by omega) (by omega)]; omega
    simp only [filigreeref04_Same.l0]
    rw [if_pos (by omega), if_pos (by omega), if_pos (by omega), if_neg (by simp), hwn]
    exact ih k (i + 1) (by omega) (by omega) (by omega)
theorem refSame_refl (k : Nat) (n : Int) (E : List S36) (hm : E.length ≤ 1000000) (hk : E.length + 2 ≤ k) : filigreeref04_Same.f k n E n E = some true := by
  obtain ⟨k, rfl⟩ : ∃ m, k = m + 1 := ⟨k - 1, by omega⟩
  unfold filigreeref04_Same.f
  rw [if_pos rfl]
  simp only [filigreeref04_Same.j0]
  rw [if_neg (by simp)]
  exact refSame_l0 n E hm E.length k 0 (by omega) (by omega) (by omega)
theorem pure_GraphMakes : filigreelaw04_GraphMakes.Pure := by
  intro n l _ _ _ _
  obtain ⟨k, hk⟩ : ∃ k : Nat, k = 10000 := ⟨_, rfl⟩
  refine ⟨k, ?_⟩
  have al := alive_eq k (by omega)
  unfold filigreelaw04_GraphMakes.f
  by_cases h : (l.length : Int) > 500
  · rw [if_pos h, al]
    rfl
  · have hm : (makeI n l).2.1.length ≤ 500 := by
      unfold makeI
      repeat' split
      all_goals simp [sortE_length]
      omega
    rw [if_neg h, Make_eq k n l (by omega) (by omega), zOb, refMake_eq k n l (by omega) (by omega), zOb, refSame_refl k _ _ (by omega) (by omega), zOb, if_pos rfl, if_pos rfl, al]
    rfl
end Go.Proofs.Yteicpdkembmilaa.A
