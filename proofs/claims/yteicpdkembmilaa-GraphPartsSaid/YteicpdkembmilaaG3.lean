/- Lemmas for the statement: the walks of the functions that it reaches, and plain laws. -/
import Derived.Test.YteicpdkembmilaaG1
import Derived.Test.YteicpdkembmilaaG2
set_option linter.unusedVariables false
set_option linter.unusedSimpArgs false
namespace Go.Proofs.Yteicpdkembmilaa.A
open Go Go.RowKit Go.Proofs.YteicpdkembmilaaW.PrintWords Go.Proofs.YteicpdkembmilaaW.PrintLast Go.Proofs.YteicpdkembmilaaW.PrintMore
attribute [local go_sem] max2_int min2_int max_two min_two max_three min_three max_four min_four
open Go.Proofs.YteicpdkembmilaaW.PrintWords.Kd renaming R_alloc → zRa, R_drewN → zRn, R_drew → zRd, V_alloc → zVa, V_drewN → zVn, V_drew → zVd, V_below → zVb, C_alloc → zCa, C_drewN → zCn, C_drew → zCd, R_mono → zRm, V_mono → zVm, at_int → zAi, R_elder' → zRe, R_lower → zRl, R_new' → zRw, R_lt → zRt, R_below → zRb, R_base → zRz, R_reads' → zRr, R_slice → zRs, V_elder' → zVe, V_lower → zVl, V_slice → zVs, V_reads' → zVr
open Go.Proofs.YteicpdkembmilaaW.PrintWords renaming pw_below_drewN → zBn, below_alloc → zBa, below_drew1 → zBd, below_size → zBs, below_step → zBt, blk_drewN → zKn, blk_drew → zKd, blk_alloc → zKa, blk_below → zKb, blk_cell → zKc, blk_frozen → zKf
open List renaming setIfInBounds_toArray → zSa, set_cons_zero → zSb, set_cons_succ → zSc, length_drop → zLd, length_take → zLt, map_toArray → zMa, map_cons → zMc, map_nil → zMn, length_cons → zLc, length_nil → zLn
open Go.Proofs.YteicpdkembmilaaW.PrintWords.Aside0 renaming mk → zMk
open Option renaming bind_eq_some_iff → zBi, bind_some → zOb
open Option.some renaming inj → zOi
open Int renaming toNat_natCast → zTn

attribute [local go_sem high] eqA36
/-! ### filigreelaw04_alive: function 13 -/
def filigreelaw04_alive.f (k : Nat)  : Option (Bool) := (graph_Make.f k 3 (([(⟨2, 0, 0⟩ : S36), (⟨0, 1, 0⟩ : S36)] : List (S36)))).bind fun bt129 => (if bt129.2.2 = 0 then (if (bt129.2.1.length : Int) = 2 then (if 1 < (bt129.2.1.length : Int) then (if (((rd_T36 bt129.2.1 1).f0) == 0 && (((rd_T36 bt129.2.1 1).f1) == 2 && (((rd_T36 bt129.2.1 1).f2) == 0))) = true then ((graph_Right.f k bt129.1 bt129.2.1).bind fun t136 => (if t136 = 0 then ((graph_Find.f k bt129.1 bt129.2.1 2 0).bind fun t137 => (if t137 = 1 then ((graph_Find.f k bt129.1 bt129.2.1 1 2).bind fun t138 => (some (t138 == (-1)))) else (some false))) else (some false))) else (some false)) else (none)) else (some false)) else (some false))
set_option maxHeartbeats 8000000 in
set_option maxRecDepth 100000 in
theorem filigreelaw04_alive.calls (k : Nat)  (r : Bool) (w : World) (h : filigreelaw04_alive.f k  = some r) :
    Calls Try.prog 13 #[] w fun e w' => e = .returned (.bool r) ∧ Below w.heap.size w w' := by
  have hu36 := Try.underlying36
  have hu24 := Try.underlying24
  have HB := zMk (Below.refl w.heap.size w)
  have H : ((graph_Make.f k 3 (([(⟨2, 0, 0⟩ : S36), (⟨0, 1, 0⟩ : S36)] : List (S36)))).bind fun bt129 => (if bt129.2.2 = 0 then (if (bt129.2.1.length : Int) = 2 then (if 1 < (bt129.2.1.length : Int) then (if (((rd_T36 bt129.2.1 1).f0) == 0 && (((rd_T36 bt129.2.1 1).f1) == 2 && (((rd_T36 bt129.2.1 1).f2) == 0))) = true then ((graph_Right.f k bt129.1 bt129.2.1).bind fun t136 => (if t136 = 0 then ((graph_Find.f k bt129.1 bt129.2.1 2 0).bind fun t137 => (if t137 = 1 then ((graph_Find.f k bt129.1 bt129.2.1 1 2).bind fun t138 => (some (t138 == (-1)))) else (some false))) else (some false))) else (some false)) else (none)) else (some false)) else (some false))) = some r := h
  clear h
  obtain ⟨y126, hy126⟩ : ∃ y_ : List (S36), y_ = (([(⟨2, 0, 0⟩ : S36), (⟨0, 1, 0⟩ : S36)] : List (S36))) := ⟨_, rfl⟩
  replace H : ((graph_Make.f k 3 y126).bind fun bt129 => (if bt129.2.2 = 0 then (if (bt129.2.1.length : Int) = 2 then (if 1 < (bt129.2.1.length : Int) then (if (((rd_T36 bt129.2.1 1).f0) == 0 && (((rd_T36 bt129.2.1 1).f1) == 2 && (((rd_T36 bt129.2.1 1).f2) == 0))) = true then ((graph_Right.f k bt129.1 bt129.2.1).bind fun t136 => (if t136 = 0 then ((graph_Find.f k bt129.1 bt129.2.1 2 0).bind fun t137 => (if t137 = 1 then ((graph_Find.f k bt129.1 bt129.2.1 1 2).bind fun t138 => (some (t138 == (-1)))) else (some false))) else (some false))) else (some false)) else (none)) else (some false)) else (some false))) = some r := by first | (rw [hy126]; with_reducible exact H) | (have H2_ := bsm H; first | (rw [hy126]; with_reducible exact H2_) | with_reducible exact H2_) | with_reducible exact H | (rw [hy126]; exact H) | exact H
  have Ny126 := zMk hy126
  clear hy126
  replace H := bnd H
  obtain ⟨⟨t129, t130, t133⟩, A10, H⟩ := H
  replace H : (if t133 = 0 then (if (t130.length : Int) = 2 then (if 1 < (t130.length : Int) then (if (((rd_T36 t130 1).f0) == 0 && (((rd_T36 t130 1).f1) == 2 && (((rd_T36 t130 1).f2) == 0))) = true then ((graph_Right.f k t129 t130).bind fun t136 => (if t136 = 0 then ((graph_Find.f k t129 t130 2 0).bind fun t137 => (if t137 = 1 then ((graph_Find.f k t129 t130 1 2).bind fun t138 => (some (t138 == (-1)))) else (some false))) else (some false))) else (some false)) else (none)) else (some false)) else (some false)) = some r := H
  have A1 := zMk A10
  clear A10
  by_cases c2 : t133 = 0
  · rw [if_pos c2] at H
    have c2b0 : (t133 == 0) = true := beq_iff_eq.mpr c2
    have c2b1 : (t133 != 0) = false := bne_eq_false_iff_eq.mpr c2
    clear c2
    by_cases c3 : (t130.length : Int) = 2
    · rw [if_pos c3] at H
      have c3b0 : ((t130.length : Int) == 2) = true := beq_iff_eq.mpr c3
      have c3b1 : ((t130.length : Int) != 2) = false := bne_eq_false_iff_eq.mpr c3
      clear c3
      by_cases c4 : 1 < (t130.length : Int)
      rotate_left
      · rw [if_neg c4] at H; exact absurd H (by simp)
      rw [if_pos c4] at H
      have c4b0 : decide (1 < (t130.length : Int)) = true := decide_eq_true c4
      have c4b1 : decide (1 < t130.length) = true := decide_eq_true (by omega)
      clear c4
      by_cases c5 : (((rd_T36 t130 1).f0) == 0 && (((rd_T36 t130 1).f1) == 2 && (((rd_T36 t130 1).f2) == 0))) = true
      · rw [if_pos c5] at H
        have c5b0 : (((rd_T36 t130 1).f0) == 0 && (((rd_T36 t130 1).f1) == 2 && (((rd_T36 t130 1).f2) == 0))) = true := c5
        (try (have c5b1 : decide (((rd_T36 t130 1).f0) = 0 && (((rd_T36 t130 1).f1) == 2 && (((rd_T36 t130 1).f2) == 0))) = true := by simpa using c5))
        (try (have c5b2 : (((rd_T36 t130 1).f0) == 0 && (((rd_T36 t130 1).f1) == 2 && (((rd_T36 t130 1).f2) == 0))) = true := by simpa using c5))
        clear c5
        replace H := bnd H
        obtain ⟨t136, A60, H⟩ := H
        have A6 := zMk A60
        clear A60
        by_cases c7 : t136 = 0
        · rw [if_pos c7] at H
          have c7b0 : (t136 == 0) = true := beq_iff_eq.mpr c7
          have c7b1 : (t136 != 0) = false := bne_eq_false_iff_eq.mpr c7
          clear c7
          replace H := bnd H
          obtain ⟨t137, A80, H⟩ := H
          have A8 := zMk A80
          clear A80
          by_cases c9 : t137 = 1
          · rw [if_pos c9] at H
            have c9b0 : (t137 == 1) = true := beq_iff_eq.mpr c9
            have c9b1 : (t137 != 1) = false := bne_eq_false_iff_eq.mpr c9
            clear c9
            replace H := bnd H
            obtain ⟨t138, A100, H⟩ := H
            have A10 := zMk A100
            clear A100
            obtain rfl := zOi H
            go_enter Try.func13, Try.ntmps13
            go_wp2_with (first |  ((with_reducible refine gate_dst (N := 6) rfl ?_); (try (refine gate_guard (by rfl) ?_; dsimp only)); refine Kd.R_lit k36 _ 36 ?hg (N := 6) ?hd (xs := ([(⟨2, 0, 0⟩ : S36), (⟨0, 1, 0⟩ : S36)] : List (S36))) (inner := [.int .i64 2, .int .i64 0, .int .i64 0, .int .i64 0, .int .i64 1, .int .i64 0]) (ok := fun _ => True) (okp := fun _ => True) ?hr ?hp (fun _ hk => hk) trivial (Below.refl _ _) (Nat.le_refl _) (by simp) ?_; (case hd => rfl); (case hg => rfl); (case hr => first |  (go_simp; done)|  (go_simp; rfl)|  (go_simp; rw [show ∀ x : Int, IntKind.u32.wrap (IntKind.u8.wrap x) = x % 256 from fun x => (by show (x % 256) % 4294967296 = x % 256; omega)])); (case hp => exact (Reps.c3 (show Kd.M k36 _ _ _ (⟨2, 0, 0⟩ : S36) [.int .i64 2, .int .i64 0, .int .i64 0] from (k36_mkM _ _ _ (⟨2, 0, 0⟩ : S36) )) (Reps.c3 (show Kd.M k36 _ _ _ (⟨0, 1, 0⟩ : S36) [.int .i64 0, .int .i64 1, .int .i64 0] from (k36_mkM _ _ _ (⟨0, 1, 0⟩ : S36) )) (Reps.none _ _)))); intro v127 w11 ho12 hb hg_ hnew_; clear hg_ hnew_; (first |  rw [← Ny126.out] at ho12|  (simp only [Int.reduceToNat] at ho12; rw [← Ny126.out] at ho12)); have HO128 := zMk (zRl ho12 (zBs (by exact uT HB.out))); replace HB := zMk (zBt (by exact uT HB.out) hb); clear hb ho12; obtain ⟨Ao13, co13, eo13⟩ := zRs HO128.out; subst eo13)|  ((with_reducible refine gate_callee (f := 14) rfl ?_); refine goesL_ (some 7) rfl rfl Try.func14 (by kernel_rfl) rfl #[.int .i64 3, .slice Ao13 y126.length co13] rfl (by (try simp only [zMa, zMc, zMn]); first |  done|  rfl|  (simp only [zLd, zLt]; rfl)) ?_; (with_reducible refine (graph_Make.calls k 3 _ _ y126 t129 t130 t133 _ ?side1 ?side2 A1.out).mono ?_); (case side1 => exact uC (zRr HO128.out).2.2); (case side2 => exact (zRr HO128.out).2.1); rintro e w14 ⟨v131, rfl, ho0, hb⟩; refine ⟨_, rfl, ?_⟩; have HO132 := zMk (zRl (zRw ho0 (zRt (by exact uR HO128.out))) (zBs (by exact uT HB.out))); replace HO128 := zMk (zRe (by exact uR HO128.out) (zRz ho0) hb); replace HB := zMk (zBt (by exact uT HB.out) hb); (try clear hb); (try clear hb2); (try clear hk); (try clear hi); (try clear ho0))|  ((with_reducible refine gate_dst (N := 1) rfl ?_); (try (refine gate_guard (by rfl) ?_; dsimp only)); refine box_event ?hg (N := 1) ?hd (cs := #[.int .i64 0, .slice none 0 0]) (t := 24) ?hr ?_; (case hd => rfl); (case hg => rfl); (case hr => first |  (go_simp; done)|  (go_simp; rfl)|  (go_simp; rw [show ∀ x : Int, IntKind.u32.wrap (IntKind.u8.wrap x) = x % 256 from fun x => (by show (x % 256) % 4294967296 = x % 256; omega)])); intro gb134 hg w15 hbox hb; replace HO128 := zMk (zRb (by exact uR HO128.out) hb); replace HO132 := zMk (zRb (by exact uR HO132.out) hb); have BK134 := zMk (hbox); have GW134 := zMk ((by rw [hg]; exact (zBs (by exact uT HB.out)) : w.heap.size ≤ gb134)); have GE134 := zMk ((by rw [hg]; exact (zBs (by exact uT HB.out)) : w.heap.size ≤ gb134)); have IGE134 := ownGe GE134.out; replace HB := zMk (zBt (by exact uT HB.out) hb); clear hb hbox hg; have hcz16_0 : w15.cell? ⟨gb134, 0, none⟩ = some (.int .i64 0) := (zKc BK134.out 0).trans rfl; have hcz16_1 : w15.cell? ⟨gb134, 1, none⟩ = some (.slice none 0 0) := (zKc BK134.out 1).trans rfl; have hfz16_0 := zKf BK134.out 0; have hfz16_1 := zKf BK134.out 1; obtain ⟨Ao17, co17, eo17⟩ := zRs HO132.out; subst eo17; have p135 : 0 ≤ (1 : Int) := (by omega); have q135 : 1 < (t130.length : Int) := of_decide_eq_true (by first |  (with_reducible assumption)|  assumption); obtain ⟨ad135, e135, hx135_0, hx135_1, hx135_2⟩ := at_T36 (zRr HO132.out).2.2 1 p135 q135; cases e135; (try simp only [show (1 : Int).toNat = 1 from rfl, Nat.reduceMul, Nat.reduceEqDiff, Go.Addr.add, ↓reduceIte] at hx135_0); (try simp only [show (1 : Int).toNat = 1 from rfl, Nat.reduceMul, Nat.reduceEqDiff, Go.Addr.add, ↓reduceIte] at hx135_1); (try simp only [show (1 : Int).toNat = 1 from rfl, Nat.reduceMul, Nat.reduceEqDiff, Go.Addr.add, ↓reduceIte] at hx135_2); have qi135 : (1 < t130.length) = True := eq_true (by omega); (try rw [show ((1 : Int)).toNat = 1 from rfl] at hx135_0); (try rw [show 1 * 3 = 3 from rfl] at hx135_0); (try rw [show ((1 : Int)).toNat = 1 from rfl] at hx135_1); (try rw [show 1 * 3 = 3 from rfl] at hx135_1); (try rw [show ((1 : Int)).toNat = 1 from rfl] at hx135_2); (try rw [show 1 * 3 = 3 from rfl] at hx135_2); have hn135_0 : ad135.block ≠ gb134 := Kd.own_blk (Kd.R_ne HO132.out BK134.out (by decide)); have hn135_1 : ad135.block ≠ gb134 := Kd.own_blk (Kd.R_ne HO132.out BK134.out (by decide)); replace hx135_0 := (cell_far (p := ⟨gb134, 0, none⟩) (by first |  (rw [add_block]; exact hn135_0)|  (show (Addr.add _ _).block ≠ _; rw [add_block]; exact hn135_0)|  exact hn135_0) (.int .i64 t129)).trans hx135_0; replace hx135_1 := (cell_far (p := ⟨gb134, 0, none⟩) (by first |  (rw [add_block]; exact hn135_0)|  (show (Addr.add _ _).block ≠ _; rw [add_block]; exact hn135_0)|  exact hn135_0) (.int .i64 t129)).trans hx135_1; replace hx135_2 := (cell_far (p := ⟨gb134, 0, none⟩) (by first |  (rw [add_block]; exact hn135_0)|  (show (Addr.add _ _).block ≠ _; rw [add_block]; exact hn135_0)|  exact hn135_0) (.int .i64 t129)).trans hx135_2; replace hx135_0 := (cell_far (p := ⟨gb134, 1, none⟩) (by first |  (rw [add_block]; exact hn135_1)|  (show (Addr.add _ _).block ≠ _; rw [add_block]; exact hn135_1)|  exact hn135_1) (.slice (some ad135) t130.length co17)).trans hx135_0; replace hx135_1 := (cell_far (p := ⟨gb134, 1, none⟩) (by first |  (rw [add_block]; exact hn135_1)|  (show (Addr.add _ _).block ≠ _; rw [add_block]; exact hn135_1)|  exact hn135_1) (.slice (some ad135) t130.length co17)).trans hx135_1; replace hx135_2 := (cell_far (p := ⟨gb134, 1, none⟩) (by first |  (rw [add_block]; exact hn135_1)|  (show (Addr.add _ _).block ≠ _; rw [add_block]; exact hn135_1)|  exact hn135_1) (.slice (some ad135) t130.length co17)).trans hx135_2; clear hn135_0 hn135_1; replace p135 := eq_true p135; replace q135 := eq_true q135)|  (go_at_call 11; (with_reducible refine (graph_Right.calls k t129 _ _ t130 t136 _ ?side1 ?side2 A6.out).mono ?_); (case side1 => refine (zRr (e := 36) (base := w.heap.size) (ok := fun k_ => (True ∧ some k_ ≠ (.slice Ao13 y126.length co13 : Value).ownBlock)) (n := t130.length) (c := co17) ?_).2.2; exact (by (with_reducible repeat (first |  apply zRa|  apply zRn|  apply zRd)); exact (zRm (Kd.R_far (p := ⟨gb134, 1, none⟩) (Kd.R_far (p := ⟨gb134, 0, none⟩) (Kd.R_types HO132.out BK134.out (by decide)) (fun _ hk => hk.2) (.int .i64 t129)) (fun _ hk => hk.2) (.slice (some ad135) t130.length co17)) (fun _ h_ => h_.1)))); (case side2 => exact (zRr HO132.out).2.1); rintro e w18 ⟨rfl, hb⟩; replace HO128 := zMk (zRb (by (with_reducible repeat (first |  apply zRa|  apply zRn|  apply zRd)); exact (zRm (Kd.R_far (p := ⟨gb134, 1, none⟩) (Kd.R_far (p := ⟨gb134, 0, none⟩) (Kd.R_types HO128.out BK134.out (by decide)) (fun _ hk => hk.2) (.int .i64 t129)) (fun _ hk => hk.2) (.slice (some ad135) t130.length co17)) (fun _ h_ => h_.1))) hb); replace HO132 := zMk (zRb (by (with_reducible repeat (first |  apply zRa|  apply zRn|  apply zRd)); exact (zRm (Kd.R_far (p := ⟨gb134, 1, none⟩) (Kd.R_far (p := ⟨gb134, 0, none⟩) (Kd.R_types HO132.out BK134.out (by decide)) (fun _ hk => hk.2) (.int .i64 t129)) (fun _ hk => hk.2) (.slice (some ad135) t130.length co17)) (fun _ h_ => h_.1))) hb); replace BK134 := zMk (zKb (g := gb134) (o := .cells #[.int .i64 t129, .slice (some ad135) t130.length co17] 24 (0, 0)) (by (with_reducible repeat (first |  refine zKn ?_ _|  refine zKd ?_|  refine zKa ?_ _)); refine blk_put (cs := #[.int .i64 t129, .slice none 0 0]) ?_ 1 _ rfl; (with_reducible repeat (first |  refine zKn ?_ _|  refine zKd ?_|  refine zKa ?_ _)); refine blk_put (cs := #[.int .i64 0, .slice none 0 0]) ?_ 0 _ rfl; (with_reducible repeat (first |  refine zKn ?_ _|  refine zKd ?_|  refine zKa ?_ _)); exact BK134.out) hb); replace HB := zMk (zBt (by exact uT HB.out) hb); (try clear hb); (try clear hb2); (try clear hk); (try clear hi); have hcz19_0 : w18.cell? ⟨gb134, 0, none⟩ = some (.int .i64 t129) := (zKc BK134.out 0).trans rfl; have hcz19_1 : w18.cell? ⟨gb134, 1, none⟩ = some (.slice (some ad135) t130.length co17) := (zKc BK134.out 1).trans rfl; have hfz19_0 := zKf BK134.out 0; have hfz19_1 := zKf BK134.out 1)|  (go_at_call 25; (with_reducible refine (graph_Find.calls k t129 _ _ t130 2 0 t137 _ ?side1 ?side2 A8.out).mono ?_); (case side1 => exact uC (zRr HO132.out).2.2); (case side2 => exact (zRr HO132.out).2.1); rintro e w20 ⟨rfl, hb⟩; replace HO128 := zMk (zRb (by exact uR HO128.out) hb); replace HO132 := zMk (zRb (by exact uR HO132.out) hb); replace BK134 := zMk (zKb (g := gb134) (o := .cells #[.int .i64 t129, .slice (some ad135) t130.length co17] 24 (0, 0)) (by (with_reducible repeat (first |  refine zKn ?_ _|  refine zKd ?_|  refine zKa ?_ _)); exact BK134.out) hb); replace HB := zMk (zBt (by exact uT HB.out) hb); (try clear hb); (try clear hb2); (try clear hk); (try clear hi); have hcz21_0 : w20.cell? ⟨gb134, 0, none⟩ = some (.int .i64 t129) := (zKc BK134.out 0).trans rfl; have hcz21_1 : w20.cell? ⟨gb134, 1, none⟩ = some (.slice (some ad135) t130.length co17) := (zKc BK134.out 1).trans rfl; have hfz21_0 := zKf BK134.out 0; have hfz21_1 := zKf BK134.out 1)|  (go_at_call 25; (with_reducible refine (graph_Find.calls k t129 _ _ t130 1 2 t138 _ ?side1 ?side2 A10.out).mono ?_); (case side1 => exact uC (zRr HO132.out).2.2); (case side2 => exact (zRr HO132.out).2.1); rintro e w22 ⟨rfl, hb⟩; replace HO128 := zMk (zRb (by exact uR HO128.out) hb); replace HO132 := zMk (zRb (by exact uR HO132.out) hb); replace BK134 := zMk (zKb (g := gb134) (o := .cells #[.int .i64 t129, .slice (some ad135) t130.length co17] 24 (0, 0)) (by (with_reducible repeat (first |  refine zKn ?_ _|  refine zKd ?_|  refine zKa ?_ _)); exact BK134.out) hb); replace HB := zMk (zBt (by exact uT HB.out) hb); (try clear hb); (try clear hb2); (try clear hk); (try clear hi)))
            go_ret
            exact ⟨by first | rfl | (simp [errW_none, errW_some] <;> rfl) | (simp [*, errW_none, errW_some] <;> rfl), by exact uT HB.out⟩
          · rw [if_neg c9] at H
            have c9b0 : (t137 == 1) = false := beq_eq_false_iff_ne.mpr c9
            have c9b1 : (t137 != 1) = true := bne_iff_ne.mpr c9
            obtain rfl := zOi H
            go_enter Try.func13, Try.ntmps13
            go_wp2_with (first |  ((with_reducible refine gate_dst (N := 6) rfl ?_); (try (refine gate_guard (by rfl) ?_; dsimp only)); refine Kd.R_lit k36 _ 36 ?hg (N := 6) ?hd (xs := ([(⟨2, 0, 0⟩ : S36), (⟨0, 1, 0⟩ : S36)] : List (S36))) (inner := [.int .i64 2, .int .i64 0, .int .i64 0, .int .i64 0, .int .i64 1, .int .i64 0]) (ok := fun _ => True) (okp := fun _ => True) ?hr ?hp (fun _ hk => hk) trivial (Below.refl _ _) (Nat.le_refl _) (by simp) ?_; (case hd => rfl); (case hg => rfl); (case hr => first |  (go_simp; done)|  (go_simp; rfl)|  (go_simp; rw [show ∀ x : Int, IntKind.u32.wrap (IntKind.u8.wrap x) = x % 256 from fun x => (by show (x % 256) % 4294967296 = x % 256; omega)])); (case hp => exact (Reps.c3 (show Kd.M k36 _ _ _ (⟨2, 0, 0⟩ : S36) [.int .i64 2, .int .i64 0, .int .i64 0] from (k36_mkM _ _ _ (⟨2, 0, 0⟩ : S36) )) (Reps.c3 (show Kd.M k36 _ _ _ (⟨0, 1, 0⟩ : S36) [.int .i64 0, .int .i64 1, .int .i64 0] from (k36_mkM _ _ _ (⟨0, 1, 0⟩ : S36) )) (Reps.none _ _)))); intro v127 w23 ho24 hb hg_ hnew_; clear hg_ hnew_; (first |  rw [← Ny126.out] at ho24|  (simp only [Int.reduceToNat] at ho24; rw [← Ny126.out] at ho24)); have HO128 := zMk (zRl ho24 (zBs (by exact uT HB.out))); replace HB := zMk (zBt (by exact uT HB.out) hb); clear hb ho24; obtain ⟨Ao25, co25, eo25⟩ := zRs HO128.out; subst eo25)|  ((with_reducible refine gate_callee (f := 14) rfl ?_); refine goesL_ (some 7) rfl rfl Try.func14 (by kernel_rfl) rfl #[.int .i64 3, .slice Ao25 y126.length co25] rfl (by (try simp only [zMa, zMc, zMn]); first |  done|  rfl|  (simp only [zLd, zLt]; rfl)) ?_; (with_reducible refine (graph_Make.calls k 3 _ _ y126 t129 t130 t133 _ ?side1 ?side2 A1.out).mono ?_); (case side1 => exact uC (zRr HO128.out).2.2); (case side2 => exact (zRr HO128.out).2.1); rintro e w26 ⟨v131, rfl, ho0, hb⟩; refine ⟨_, rfl, ?_⟩; have HO132 := zMk (zRl (zRw ho0 (zRt (by exact uR HO128.out))) (zBs (by exact uT HB.out))); replace HO128 := zMk (zRe (by exact uR HO128.out) (zRz ho0) hb); replace HB := zMk (zBt (by exact uT HB.out) hb); (try clear hb); (try clear hb2); (try clear hk); (try clear hi); (try clear ho0))|  ((with_reducible refine gate_dst (N := 1) rfl ?_); (try (refine gate_guard (by rfl) ?_; dsimp only)); refine box_event ?hg (N := 1) ?hd (cs := #[.int .i64 0, .slice none 0 0]) (t := 24) ?hr ?_; (case hd => rfl); (case hg => rfl); (case hr => first |  (go_simp; done)|  (go_simp; rfl)|  (go_simp; rw [show ∀ x : Int, IntKind.u32.wrap (IntKind.u8.wrap x) = x % 256 from fun x => (by show (x % 256) % 4294967296 = x % 256; omega)])); intro gb134 hg w27 hbox hb; replace HO128 := zMk (zRb (by exact uR HO128.out) hb); replace HO132 := zMk (zRb (by exact uR HO132.out) hb); have BK134 := zMk (hbox); have GW134 := zMk ((by rw [hg]; exact (zBs (by exact uT HB.out)) : w.heap.size ≤ gb134)); have GE134 := zMk ((by rw [hg]; exact (zBs (by exact uT HB.out)) : w.heap.size ≤ gb134)); have IGE134 := ownGe GE134.out; replace HB := zMk (zBt (by exact uT HB.out) hb); clear hb hbox hg; have hcz28_0 : w27.cell? ⟨gb134, 0, none⟩ = some (.int .i64 0) := (zKc BK134.out 0).trans rfl; have hcz28_1 : w27.cell? ⟨gb134, 1, none⟩ = some (.slice none 0 0) := (zKc BK134.out 1).trans rfl; have hfz28_0 := zKf BK134.out 0; have hfz28_1 := zKf BK134.out 1; obtain ⟨Ao29, co29, eo29⟩ := zRs HO132.out; subst eo29; have p135 : 0 ≤ (1 : Int) := (by omega); have q135 : 1 < (t130.length : Int) := of_decide_eq_true (by first |  (with_reducible assumption)|  assumption); obtain ⟨ad135, e135, hx135_0, hx135_1, hx135_2⟩ := at_T36 (zRr HO132.out).2.2 1 p135 q135; cases e135; (try simp only [show (1 : Int).toNat = 1 from rfl, Nat.reduceMul, Nat.reduceEqDiff, Go.Addr.add, ↓reduceIte] at hx135_0); (try simp only [show (1 : Int).toNat = 1 from rfl, Nat.reduceMul, Nat.reduceEqDiff, Go.Addr.add, ↓reduceIte] at hx135_1); (try simp only [show (1 : Int).toNat = 1 from rfl, Nat.reduceMul, Nat.reduceEqDiff, Go.Addr.add, ↓reduceIte] at hx135_2); have qi135 : (1 < t130.length) = True := eq_true (by omega); (try rw [show ((1 : Int)).toNat = 1 from rfl] at hx135_0); (try rw [show 1 * 3 = 3 from rfl] at hx135_0); (try rw [show ((1 : Int)).toNat = 1 from rfl] at hx135_1); (try rw [show 1 * 3 = 3 from rfl] at hx135_1); (try rw [show ((1 : Int)).toNat = 1 from rfl] at hx135_2); (try rw [show 1 * 3 = 3 from rfl] at hx135_2); have hn135_0 : ad135.block ≠ gb134 := Kd.own_blk (Kd.R_ne HO132.out BK134.out (by decide)); have hn135_1 : ad135.block ≠ gb134 := Kd.own_blk (Kd.R_ne HO132.out BK134.out (by decide)); replace hx135_0 := (cell_far (p := ⟨gb134, 0, none⟩) (by first |  (rw [add_block]; exact hn135_0)|  (show (Addr.add _ _).block ≠ _; rw [add_block]; exact hn135_0)|  exact hn135_0) (.int .i64 t129)).trans hx135_0; replace hx135_1 := (cell_far (p := ⟨gb134, 0, none⟩) (by first |  (rw [add_block]; exact hn135_0)|  (show (Addr.add _ _).block ≠ _; rw [add_block]; exact hn135_0)|  exact hn135_0) (.int .i64 t129)).trans hx135_1; replace hx135_2 := (cell_far (p := ⟨gb134, 0, none⟩) (by first |  (rw [add_block]; exact hn135_0)|  (show (Addr.add _ _).block ≠ _; rw [add_block]; exact hn135_0)|  exact hn135_0) (.int .i64 t129)).trans hx135_2; replace hx135_0 := (cell_far (p := ⟨gb134, 1, none⟩) (by first |  (rw [add_block]; exact hn135_1)|  (show (Addr.add _ _).block ≠ _; rw [add_block]; exact hn135_1)|  exact hn135_1) (.slice (some ad135) t130.length co29)).trans hx135_0; replace hx135_1 := (cell_far (p := ⟨gb134, 1, none⟩) (by first |  (rw [add_block]; exact hn135_1)|  (show (Addr.add _ _).block ≠ _; rw [add_block]; exact hn135_1)|  exact hn135_1) (.slice (some ad135) t130.length co29)).trans hx135_1; replace hx135_2 := (cell_far (p := ⟨gb134, 1, none⟩) (by first |  (rw [add_block]; exact hn135_1)|  (show (Addr.add _ _).block ≠ _; rw [add_block]; exact hn135_1)|  exact hn135_1) (.slice (some ad135) t130.length co29)).trans hx135_2; clear hn135_0 hn135_1; replace p135 := eq_true p135; replace q135 := eq_true q135)|  (go_at_call 11; (with_reducible refine (graph_Right.calls k t129 _ _ t130 t136 _ ?side1 ?side2 A6.out).mono ?_); (case side1 => refine (zRr (e := 36) (base := w.heap.size) (ok := fun k_ => (True ∧ some k_ ≠ (.slice Ao25 y126.length co25 : Value).ownBlock)) (n := t130.length) (c := co29) ?_).2.2; exact (by (with_reducible repeat (first |  apply zRa|  apply zRn|  apply zRd)); exact (zRm (Kd.R_far (p := ⟨gb134, 1, none⟩) (Kd.R_far (p := ⟨gb134, 0, none⟩) (Kd.R_types HO132.out BK134.out (by decide)) (fun _ hk => hk.2) (.int .i64 t129)) (fun _ hk => hk.2) (.slice (some ad135) t130.length co29)) (fun _ h_ => h_.1)))); (case side2 => exact (zRr HO132.out).2.1); rintro e w30 ⟨rfl, hb⟩; replace HO128 := zMk (zRb (by (with_reducible repeat (first |  apply zRa|  apply zRn|  apply zRd)); exact (zRm (Kd.R_far (p := ⟨gb134, 1, none⟩) (Kd.R_far (p := ⟨gb134, 0, none⟩) (Kd.R_types HO128.out BK134.out (by decide)) (fun _ hk => hk.2) (.int .i64 t129)) (fun _ hk => hk.2) (.slice (some ad135) t130.length co29)) (fun _ h_ => h_.1))) hb); replace HO132 := zMk (zRb (by (with_reducible repeat (first |  apply zRa|  apply zRn|  apply zRd)); exact (zRm (Kd.R_far (p := ⟨gb134, 1, none⟩) (Kd.R_far (p := ⟨gb134, 0, none⟩) (Kd.R_types HO132.out BK134.out (by decide)) (fun _ hk => hk.2) (.int .i64 t129)) (fun _ hk => hk.2) (.slice (some ad135) t130.length co29)) (fun _ h_ => h_.1))) hb); replace BK134 := zMk (zKb (g := gb134) (o := .cells #[.int .i64 t129, .slice (some ad135) t130.length co29] 24 (0, 0)) (by (with_reducible repeat (first |  refine zKn ?_ _|  refine zKd ?_|  refine zKa ?_ _)); refine blk_put (cs := #[.int .i64 t129, .slice none 0 0]) ?_ 1 _ rfl; (with_reducible repeat (first |  refine zKn ?_ _|  refine zKd ?_|  refine zKa ?_ _)); refine blk_put (cs := #[.int .i64 0, .slice none 0 0]) ?_ 0 _ rfl; (with_reducible repeat (first |  refine zKn ?_ _|  refine zKd ?_|  refine zKa ?_ _)); exact BK134.out) hb); replace HB := zMk (zBt (by exact uT HB.out) hb); (try clear hb); (try clear hb2); (try clear hk); (try clear hi); have hcz31_0 : w30.cell? ⟨gb134, 0, none⟩ = some (.int .i64 t129) := (zKc BK134.out 0).trans rfl; have hcz31_1 : w30.cell? ⟨gb134, 1, none⟩ = some (.slice (some ad135) t130.length co29) := (zKc BK134.out 1).trans rfl; have hfz31_0 := zKf BK134.out 0; have hfz31_1 := zKf BK134.out 1)|  (go_at_call 25; (with_reducible refine (graph_Find.calls k t129 _ _ t130 2 0 t137 _ ?side1 ?side2 A8.out).mono ?_); (case side1 => exact uC (zRr HO132.out).2.2); (case side2 => exact (zRr HO132.out).2.1); rintro e w32 ⟨rfl, hb⟩; replace HO128 := zMk (zRb (by exact uR HO128.out) hb); replace HO132 := zMk (zRb (by exact uR HO132.out) hb); replace BK134 := zMk (zKb (g := gb134) (o := .cells #[.int .i64 t129, .slice (some ad135) t130.length co29] 24 (0, 0)) (by (with_reducible repeat (first |  refine zKn ?_ _|  refine zKd ?_|  refine zKa ?_ _)); exact BK134.out) hb); replace HB := zMk (zBt (by exact uT HB.out) hb); (try clear hb); (try clear hb2); (try clear hk); (try clear hi)))
            go_ret
            exact ⟨by first | rfl | (simp [errW_none, errW_some] <;> rfl) | (simp [*, errW_none, errW_some] <;> rfl), by exact uT HB.out⟩
        · rw [if_neg c7] at H
          have c7b0 : (t136 == 0) = false := beq_eq_false_iff_ne.mpr c7
          have c7b1 : (t136 != 0) = true := bne_iff_ne.mpr c7
          obtain rfl := zOi H
          go_enter Try.func13, Try.ntmps13
          go_wp2_with (first |  ((with_reducible refine gate_dst (N := 6) rfl ?_); (try (refine gate_guard (by rfl) ?_; dsimp only)); refine Kd.R_lit k36 _ 36 ?hg (N := 6) ?hd (xs := ([(⟨2, 0, 0⟩ : S36), (⟨0, 1, 0⟩ : S36)] : List (S36))) (inner := [.int .i64 2, .int .i64 0, .int .i64 0, .int .i64 0, .int .i64 1, .int .i64 0]) (ok := fun _ => True) (okp := fun _ => True) ?hr ?hp (fun _ hk => hk) trivial (Below.refl _ _) (Nat.le_refl _) (by simp) ?_; (case hd => rfl); (case hg => rfl); (case hr => first |  (go_simp; done)|  (go_simp; rfl)|  (go_simp; rw [show ∀ x : Int, IntKind.u32.wrap (IntKind.u8.wrap x) = x % 256 from fun x => (by show (x % 256) % 4294967296 = x % 256; omega)])); (case hp => exact (Reps.c3 (show Kd.M k36 _ _ _ (⟨2, 0, 0⟩ : S36) [.int .i64 2, .int .i64 0, .int .i64 0] from (k36_mkM _ _ _ (⟨2, 0, 0⟩ : S36) )) (Reps.c3 (show Kd.M k36 _ _ _ (⟨0, 1, 0⟩ : S36) [.int .i64 0, .int .i64 1, .int .i64 0] from (k36_mkM _ _ _ (⟨0, 1, 0⟩ : S36) )) (Reps.none _ _)))); intro v127 w33 ho34 hb hg_ hnew_; clear hg_ hnew_; (first |  rw [← Ny126.out] at ho34|  (simp only [Int.reduceToNat] at ho34; rw [← Ny126.out] at ho34)); have HO128 := zMk (zRl ho34 (zBs (by exact uT HB.out))); replace HB := zMk (zBt (by exact uT HB.out) hb); clear hb ho34; obtain ⟨Ao35, co35, eo35⟩ := zRs HO128.out; subst eo35)|  ((with_reducible refine gate_callee (f := 14) rfl ?_); refine goesL_ (some 7) rfl rfl Try.func14 (by kernel_rfl) rfl #[.int .i64 3, .slice Ao35 y126.length co35] rfl (by (try simp only [zMa, zMc, zMn]); first |  done|  rfl|  (simp only [zLd, zLt]; rfl)) ?_; (with_reducible refine (graph_Make.calls k 3 _ _ y126 t129 t130 t133 _ ?side1 ?side2 A1.out).mono ?_); (case side1 => exact uC (zRr HO128.out).2.2); (case side2 => exact (zRr HO128.out).2.1); rintro e w36 ⟨v131, rfl, ho0, hb⟩; refine ⟨_, rfl, ?_⟩; have HO132 := zMk (zRl (zRw ho0 (zRt (by exact uR HO128.out))) (zBs (by exact uT HB.out))); replace HO128 := zMk (zRe (by exact uR HO128.out) (zRz ho0) hb); replace HB := zMk (zBt (by exact uT HB.out) hb); (try clear hb); (try clear hb2); (try clear hk); (try clear hi); (try clear ho0))|  ((with_reducible refine gate_dst (N := 1) rfl ?_); (try (refine gate_guard (by rfl) ?_; dsimp only)); refine box_event ?hg (N := 1) ?hd (cs := #[.int .i64 0, .slice none 0 0]) (t := 24) ?hr ?_; (case hd => rfl); (case hg => rfl); (case hr => first |  (go_simp; done)|  (go_simp; rfl)|  (go_simp; rw [show ∀ x : Int, IntKind.u32.wrap (IntKind.u8.wrap x) = x % 256 from fun x => (by show (x % 256) % 4294967296 = x % 256; omega)])); intro gb134 hg w37 hbox hb; replace HO128 := zMk (zRb (by exact uR HO128.out) hb); replace HO132 := zMk (zRb (by exact uR HO132.out) hb); have BK134 := zMk (hbox); have GW134 := zMk ((by rw [hg]; exact (zBs (by exact uT HB.out)) : w.heap.size ≤ gb134)); have GE134 := zMk ((by rw [hg]; exact (zBs (by exact uT HB.out)) : w.heap.size ≤ gb134)); have IGE134 := ownGe GE134.out; replace HB := zMk (zBt (by exact uT HB.out) hb); clear hb hbox hg; have hcz38_0 : w37.cell? ⟨gb134, 0, none⟩ = some (.int .i64 0) := (zKc BK134.out 0).trans rfl; have hcz38_1 : w37.cell? ⟨gb134, 1, none⟩ = some (.slice none 0 0) := (zKc BK134.out 1).trans rfl; have hfz38_0 := zKf BK134.out 0; have hfz38_1 := zKf BK134.out 1; obtain ⟨Ao39, co39, eo39⟩ := zRs HO132.out; subst eo39; have p135 : 0 ≤ (1 : Int) := (by omega); have q135 : 1 < (t130.length : Int) := of_decide_eq_true (by first |  (with_reducible assumption)|  assumption); obtain ⟨ad135, e135, hx135_0, hx135_1, hx135_2⟩ := at_T36 (zRr HO132.out).2.2 1 p135 q135; cases e135; (try simp only [show (1 : Int).toNat = 1 from rfl, Nat.reduceMul, Nat.reduceEqDiff, Go.Addr.add, ↓reduceIte] at hx135_0); (try simp only [show (1 : Int).toNat = 1 from rfl, Nat.reduceMul, Nat.reduceEqDiff, Go.Addr.add, ↓reduceIte] at hx135_1); (try simp only [show (1 : Int).toNat = 1 from rfl, Nat.reduceMul, Nat.reduceEqDiff, Go.Addr.add, ↓reduceIte] at hx135_2); have qi135 : (1 < t130.length) = True := eq_true (by omega); (try rw [show ((1 : Int)).toNat = 1 from rfl] at hx135_0); (try rw [show 1 * 3 = 3 from rfl] at hx135_0); (try rw [show ((1 : Int)).toNat = 1 from rfl] at hx135_1); (try rw [show 1 * 3 = 3 from rfl] at hx135_1); (try rw [show ((1 : Int)).toNat = 1 from rfl] at hx135_2); (try rw [show 1 * 3 = 3 from rfl] at hx135_2); have hn135_0 : ad135.block ≠ gb134 := Kd.own_blk (Kd.R_ne HO132.out BK134.out (by decide)); have hn135_1 : ad135.block ≠ gb134 := Kd.own_blk (Kd.R_ne HO132.out BK134.out (by decide)); replace hx135_0 := (cell_far (p := ⟨gb134, 0, none⟩) (by first |  (rw [add_block]; exact hn135_0)|  (show (Addr.add _ _).block ≠ _; rw [add_block]; exact hn135_0)|  exact hn135_0) (.int .i64 t129)).trans hx135_0; replace hx135_1 := (cell_far (p := ⟨gb134, 0, none⟩) (by first |  (rw [add_block]; exact hn135_0)|  (show (Addr.add _ _).block ≠ _; rw [add_block]; exact hn135_0)|  exact hn135_0) (.int .i64 t129)).trans hx135_1; replace hx135_2 := (cell_far (p := ⟨gb134, 0, none⟩) (by first |  (rw [add_block]; exact hn135_0)|  (show (Addr.add _ _).block ≠ _; rw [add_block]; exact hn135_0)|  exact hn135_0) (.int .i64 t129)).trans hx135_2; replace hx135_0 := (cell_far (p := ⟨gb134, 1, none⟩) (by first |  (rw [add_block]; exact hn135_1)|  (show (Addr.add _ _).block ≠ _; rw [add_block]; exact hn135_1)|  exact hn135_1) (.slice (some ad135) t130.length co39)).trans hx135_0; replace hx135_1 := (cell_far (p := ⟨gb134, 1, none⟩) (by first |  (rw [add_block]; exact hn135_1)|  (show (Addr.add _ _).block ≠ _; rw [add_block]; exact hn135_1)|  exact hn135_1) (.slice (some ad135) t130.length co39)).trans hx135_1; replace hx135_2 := (cell_far (p := ⟨gb134, 1, none⟩) (by first |  (rw [add_block]; exact hn135_1)|  (show (Addr.add _ _).block ≠ _; rw [add_block]; exact hn135_1)|  exact hn135_1) (.slice (some ad135) t130.length co39)).trans hx135_2; clear hn135_0 hn135_1; replace p135 := eq_true p135; replace q135 := eq_true q135)|  (go_at_call 11; (with_reducible refine (graph_Right.calls k t129 _ _ t130 t136 _ ?side1 ?side2 A6.out).mono ?_); (case side1 => refine (zRr (e := 36) (base := w.heap.size) (ok := fun k_ => (True ∧ some k_ ≠ (.slice Ao35 y126.length co35 : Value).ownBlock)) (n := t130.length) (c := co39) ?_).2.2; exact (by (with_reducible repeat (first |  apply zRa|  apply zRn|  apply zRd)); exact (zRm (Kd.R_far (p := ⟨gb134, 1, none⟩) (Kd.R_far (p := ⟨gb134, 0, none⟩) (Kd.R_types HO132.out BK134.out (by decide)) (fun _ hk => hk.2) (.int .i64 t129)) (fun _ hk => hk.2) (.slice (some ad135) t130.length co39)) (fun _ h_ => h_.1)))); (case side2 => exact (zRr HO132.out).2.1); rintro e w40 ⟨rfl, hb⟩; replace HO128 := zMk (zRb (by (with_reducible repeat (first |  apply zRa|  apply zRn|  apply zRd)); exact (zRm (Kd.R_far (p := ⟨gb134, 1, none⟩) (Kd.R_far (p := ⟨gb134, 0, none⟩) (Kd.R_types HO128.out BK134.out (by decide)) (fun _ hk => hk.2) (.int .i64 t129)) (fun _ hk => hk.2) (.slice (some ad135) t130.length co39)) (fun _ h_ => h_.1))) hb); replace HO132 := zMk (zRb (by (with_reducible repeat (first |  apply zRa|  apply zRn|  apply zRd)); exact (zRm (Kd.R_far (p := ⟨gb134, 1, none⟩) (Kd.R_far (p := ⟨gb134, 0, none⟩) (Kd.R_types HO132.out BK134.out (by decide)) (fun _ hk => hk.2) (.int .i64 t129)) (fun _ hk => hk.2) (.slice (some ad135) t130.length co39)) (fun _ h_ => h_.1))) hb); replace BK134 := zMk (zKb (g := gb134) (o := .cells #[.int .i64 t129, .slice (some ad135) t130.length co39] 24 (0, 0)) (by (with_reducible repeat (first |  refine zKn ?_ _|  refine zKd ?_|  refine zKa ?_ _)); refine blk_put (cs := #[.int .i64 t129, .slice none 0 0]) ?_ 1 _ rfl; (with_reducible repeat (first |  refine zKn ?_ _|  refine zKd ?_|  refine zKa ?_ _)); refine blk_put (cs := #[.int .i64 0, .slice none 0 0]) ?_ 0 _ rfl; (with_reducible repeat (first |  refine zKn ?_ _|  refine zKd ?_|  refine zKa ?_ _)); exact BK134.out) hb); replace HB := zMk (zBt (by exact uT HB.out) hb); (try clear hb); (try clear hb2); (try clear hk); (try clear hi)))
          go_ret
          exact ⟨by first | rfl | (simp [errW_none, errW_some] <;> rfl) | (simp [*, errW_none, errW_some] <;> rfl), by exact uT HB.out⟩
      · rw [if_neg c5] at H
        have c5b0 : (((rd_T36 t130 1).f0) == 0 && (((rd_T36 t130 1).f1) == 2 && (((rd_T36 t130 1).f2) == 0))) = false := by simpa using c5
        (try (have c5b1 : decide (((rd_T36 t130 1).f0) = 0 && (((rd_T36 t130 1).f1) == 2 && (((rd_T36 t130 1).f2) == 0))) = false := by simpa using c5))
        (try (have c5b2 : (((rd_T36 t130 1).f0) == 0 && (((rd_T36 t130 1).f1) == 2 && (((rd_T36 t130 1).f2) == 0))) = false := by simpa using c5))
        (try (have c5b3 : ¬ (((rd_T36 t130 1).f0) = 0 && (((rd_T36 t130 1).f1) == 2 && (((rd_T36 t130 1).f2) == 0))) := by simpa using c5))
        clear c5
        obtain rfl := zOi H
        go_enter Try.func13, Try.ntmps13
        go_wp2_with (first |  ((with_reducible refine gate_dst (N := 6) rfl ?_); (try (refine gate_guard (by rfl) ?_; dsimp only)); refine Kd.R_lit k36 _ 36 ?hg (N := 6) ?hd (xs := ([(⟨2, 0, 0⟩ : S36), (⟨0, 1, 0⟩ : S36)] : List (S36))) (inner := [.int .i64 2, .int .i64 0, .int .i64 0, .int .i64 0, .int .i64 1, .int .i64 0]) (ok := fun _ => True) (okp := fun _ => True) ?hr ?hp (fun _ hk => hk) trivial (Below.refl _ _) (Nat.le_refl _) (by simp) ?_; (case hd => rfl); (case hg => rfl); (case hr => first |  (go_simp; done)|  (go_simp; rfl)|  (go_simp; rw [show ∀ x : Int, IntKind.u32.wrap (IntKind.u8.wrap x) = x % 256 from fun x => (by show (x % 256) % 4294967296 = x % 256; omega)])); (case hp => exact (Reps.c3 (show Kd.M k36 _ _ _ (⟨2, 0, 0⟩ : S36) [.int .i64 2, .int .i64 0, .int .i64 0] from (k36_mkM _ _ _ (⟨2, 0, 0⟩ : S36) )) (Reps.c3 (show Kd.M k36 _ _ _ (⟨0, 1, 0⟩ : S36) [.int .i64 0, .int .i64 1, .int .i64 0] from (k36_mkM _ _ _ (⟨0, 1, 0⟩ : S36) )) (Reps.none _ _)))); intro v127 w41 ho42 hb hg_ hnew_; clear hg_ hnew_; (first |  rw [← Ny126.out] at ho42|  (simp only [Int.reduceToNat] at ho42; rw [← Ny126.out] at ho42)); have HO128 := zMk (zRl ho42 (zBs (by exact uT HB.out))); replace HB := zMk (zBt (by exact uT HB.out) hb); clear hb ho42; obtain ⟨Ao43, co43, eo43⟩ := zRs HO128.out; subst eo43)|  ((with_reducible refine gate_callee (f := 14) rfl ?_); refine goesL_ (some 7) rfl rfl Try.func14 (by kernel_rfl) rfl #[.int .i64 3, .slice Ao43 y126.length co43] rfl (by (try simp only [zMa, zMc, zMn]); first |  done|  rfl|  (simp only [zLd, zLt]; rfl)) ?_; (with_reducible refine (graph_Make.calls k 3 _ _ y126 t129 t130 t133 _ ?side1 ?side2 A1.out).mono ?_); (case side1 => exact uC (zRr HO128.out).2.2); (case side2 => exact (zRr HO128.out).2.1); rintro e w44 ⟨v131, rfl, ho0, hb⟩; refine ⟨_, rfl, ?_⟩; have HO132 := zMk (zRl (zRw ho0 (zRt (by exact uR HO128.out))) (zBs (by exact uT HB.out))); replace HO128 := zMk (zRe (by exact uR HO128.out) (zRz ho0) hb); replace HB := zMk (zBt (by exact uT HB.out) hb); (try clear hb); (try clear hb2); (try clear hk); (try clear hi); (try clear ho0))|  ((with_reducible refine gate_dst (N := 1) rfl ?_); (try (refine gate_guard (by rfl) ?_; dsimp only)); refine box_event ?hg (N := 1) ?hd (cs := #[.int .i64 0, .slice none 0 0]) (t := 24) ?hr ?_; (case hd => rfl); (case hg => rfl); (case hr => first |  (go_simp; done)|  (go_simp; rfl)|  (go_simp; rw [show ∀ x : Int, IntKind.u32.wrap (IntKind.u8.wrap x) = x % 256 from fun x => (by show (x % 256) % 4294967296 = x % 256; omega)])); intro gb134 hg w45 hbox hb; replace HO128 := zMk (zRb (by exact uR HO128.out) hb); replace HO132 := zMk (zRb (by exact uR HO132.out) hb); have BK134 := zMk (hbox); have GW134 := zMk ((by rw [hg]; exact (zBs (by exact uT HB.out)) : w.heap.size ≤ gb134)); have GE134 := zMk ((by rw [hg]; exact (zBs (by exact uT HB.out)) : w.heap.size ≤ gb134)); have IGE134 := ownGe GE134.out; replace HB := zMk (zBt (by exact uT HB.out) hb); clear hb hbox hg; have hcz46_0 : w45.cell? ⟨gb134, 0, none⟩ = some (.int .i64 0) := (zKc BK134.out 0).trans rfl; have hcz46_1 : w45.cell? ⟨gb134, 1, none⟩ = some (.slice none 0 0) := (zKc BK134.out 1).trans rfl; have hfz46_0 := zKf BK134.out 0; have hfz46_1 := zKf BK134.out 1; obtain ⟨Ao47, co47, eo47⟩ := zRs HO132.out; subst eo47; have p135 : 0 ≤ (1 : Int) := (by omega); have q135 : 1 < (t130.length : Int) := of_decide_eq_true (by first |  (with_reducible assumption)|  assumption); obtain ⟨ad135, e135, hx135_0, hx135_1, hx135_2⟩ := at_T36 (zRr HO132.out).2.2 1 p135 q135; cases e135; (try simp only [show (1 : Int).toNat = 1 from rfl, Nat.reduceMul, Nat.reduceEqDiff, Go.Addr.add, ↓reduceIte] at hx135_0); (try simp only [show (1 : Int).toNat = 1 from rfl, Nat.reduceMul, Nat.reduceEqDiff, Go.Addr.add, ↓reduceIte] at hx135_1); (try simp only [show (1 : Int).toNat = 1 from rfl, Nat.reduceMul, Nat.reduceEqDiff, Go.Addr.add, ↓reduceIte] at hx135_2); have qi135 : (1 < t130.length) = True := eq_true (by omega); (try rw [show ((1 : Int)).toNat = 1 from rfl] at hx135_0); (try rw [show 1 * 3 = 3 from rfl] at hx135_0); (try rw [show ((1 : Int)).toNat = 1 from rfl] at hx135_1); (try rw [show 1 * 3 = 3 from rfl] at hx135_1); (try rw [show ((1 : Int)).toNat = 1 from rfl] at hx135_2); (try rw [show 1 * 3 = 3 from rfl] at hx135_2); have hn135_0 : ad135.block ≠ gb134 := Kd.own_blk (Kd.R_ne HO132.out BK134.out (by decide)); have hn135_1 : ad135.block ≠ gb134 := Kd.own_blk (Kd.R_ne HO132.out BK134.out (by decide)); replace hx135_0 := (cell_far (p := ⟨gb134, 0, none⟩) (by first |  (rw [add_block]; exact hn135_0)|  (show (Addr.add _ _).block ≠ _; rw [add_block]; exact hn135_0)|  exact hn135_0) (.int .i64 t129)).trans hx135_0; replace hx135_1 := (cell_far (p := ⟨gb134, 0, none⟩) (by first |  (rw [add_block]; exact hn135_0)|  (show (Addr.add _ _).block ≠ _; rw [add_block]; exact hn135_0)|  exact hn135_0) (.int .i64 t129)).trans hx135_1; replace hx135_2 := (cell_far (p := ⟨gb134, 0, none⟩) (by first |  (rw [add_block]; exact hn135_0)|  (show (Addr.add _ _).block ≠ _; rw [add_block]; exact hn135_0)|  exact hn135_0) (.int .i64 t129)).trans hx135_2; replace hx135_0 := (cell_far (p := ⟨gb134, 1, none⟩) (by first |  (rw [add_block]; exact hn135_1)|  (show (Addr.add _ _).block ≠ _; rw [add_block]; exact hn135_1)|  exact hn135_1) (.slice (some ad135) t130.length co47)).trans hx135_0; replace hx135_1 := (cell_far (p := ⟨gb134, 1, none⟩) (by first |  (rw [add_block]; exact hn135_1)|  (show (Addr.add _ _).block ≠ _; rw [add_block]; exact hn135_1)|  exact hn135_1) (.slice (some ad135) t130.length co47)).trans hx135_1; replace hx135_2 := (cell_far (p := ⟨gb134, 1, none⟩) (by first |  (rw [add_block]; exact hn135_1)|  (show (Addr.add _ _).block ≠ _; rw [add_block]; exact hn135_1)|  exact hn135_1) (.slice (some ad135) t130.length co47)).trans hx135_2; clear hn135_0 hn135_1; replace p135 := eq_true p135; replace q135 := eq_true q135))
        go_ret
        exact ⟨by first | rfl | (simp [errW_none, errW_some] <;> rfl) | (simp [*, errW_none, errW_some] <;> rfl), by exact uT HB.out⟩
    · rw [if_neg c3] at H
      have c3b0 : ((t130.length : Int) == 2) = false := beq_eq_false_iff_ne.mpr c3
      have c3b1 : ((t130.length : Int) != 2) = true := bne_iff_ne.mpr c3
      obtain rfl := zOi H
      go_enter Try.func13, Try.ntmps13
      go_wp2_with (first |  ((with_reducible refine gate_dst (N := 6) rfl ?_); (try (refine gate_guard (by rfl) ?_; dsimp only)); refine Kd.R_lit k36 _ 36 ?hg (N := 6) ?hd (xs := ([(⟨2, 0, 0⟩ : S36), (⟨0, 1, 0⟩ : S36)] : List (S36))) (inner := [.int .i64 2, .int .i64 0, .int .i64 0, .int .i64 0, .int .i64 1, .int .i64 0]) (ok := fun _ => True) (okp := fun _ => True) ?hr ?hp (fun _ hk => hk) trivial (Below.refl _ _) (Nat.le_refl _) (by simp) ?_; (case hd => rfl); (case hg => rfl); (case hr => first |  (go_simp; done)|  (go_simp; rfl)|  (go_simp; rw [show ∀ x : Int, IntKind.u32.wrap (IntKind.u8.wrap x) = x % 256 from fun x => (by show (x % 256) % 4294967296 = x % 256; omega)])); (case hp => exact (Reps.c3 (show Kd.M k36 _ _ _ (⟨2, 0, 0⟩ : S36) [.int .i64 2, .int .i64 0, .int .i64 0] from (k36_mkM _ _ _ (⟨2, 0, 0⟩ : S36) )) (Reps.c3 (show Kd.M k36 _ _ _ (⟨0, 1, 0⟩ : S36) [.int .i64 0, .int .i64 1, .int .i64 0] from (k36_mkM _ _ _ (⟨0, 1, 0⟩ : S36) )) (Reps.none _ _)))); intro v127 w48 ho49 hb hg_ hnew_; clear hg_ hnew_; (first |  rw [← Ny126.out] at ho49|  (simp only [Int.reduceToNat] at ho49; rw [← Ny126.out] at ho49)); have HO128 := zMk (zRl ho49 (zBs (by exact uT HB.out))); replace HB := zMk (zBt (by exact uT HB.out) hb); clear hb ho49; obtain ⟨Ao50, co50, eo50⟩ := zRs HO128.out; subst eo50)|  ((with_reducible refine gate_callee (f := 14) rfl ?_); refine goesL_ (some 7) rfl rfl Try.func14 (by kernel_rfl) rfl #[.int .i64 3, .slice Ao50 y126.length co50] rfl (by (try simp only [zMa, zMc, zMn]); first |  done|  rfl|  (simp only [zLd, zLt]; rfl)) ?_; (with_reducible refine (graph_Make.calls k 3 _ _ y126 t129 t130 t133 _ ?side1 ?side2 A1.out).mono ?_); (case side1 => exact uC (zRr HO128.out).2.2); (case side2 => exact (zRr HO128.out).2.1); rintro e w51 ⟨v131, rfl, ho0, hb⟩; refine ⟨_, rfl, ?_⟩; have HO132 := zMk (zRl (zRw ho0 (zRt (by exact uR HO128.out))) (zBs (by exact uT HB.out))); replace HO128 := zMk (zRe (by exact uR HO128.out) (zRz ho0) hb); replace HB := zMk (zBt (by exact uT HB.out) hb); (try clear hb); (try clear hb2); (try clear hk); (try clear hi); (try clear ho0))|  ((with_reducible refine gate_dst (N := 1) rfl ?_); (try (refine gate_guard (by rfl) ?_; dsimp only)); refine box_event ?hg (N := 1) ?hd (cs := #[.int .i64 0, .slice none 0 0]) (t := 24) ?hr ?_; (case hd => rfl); (case hg => rfl); (case hr => first |  (go_simp; done)|  (go_simp; rfl)|  (go_simp; rw [show ∀ x : Int, IntKind.u32.wrap (IntKind.u8.wrap x) = x % 256 from fun x => (by show (x % 256) % 4294967296 = x % 256; omega)])); intro gb134 hg w52 hbox hb; replace HO128 := zMk (zRb (by exact uR HO128.out) hb); replace HO132 := zMk (zRb (by exact uR HO132.out) hb); have BK134 := zMk (hbox); have GW134 := zMk ((by rw [hg]; exact (zBs (by exact uT HB.out)) : w.heap.size ≤ gb134)); have GE134 := zMk ((by rw [hg]; exact (zBs (by exact uT HB.out)) : w.heap.size ≤ gb134)); have IGE134 := ownGe GE134.out; replace HB := zMk (zBt (by exact uT HB.out) hb); clear hb hbox hg; have hcz53_0 : w52.cell? ⟨gb134, 0, none⟩ = some (.int .i64 0) := (zKc BK134.out 0).trans rfl; have hcz53_1 : w52.cell? ⟨gb134, 1, none⟩ = some (.slice none 0 0) := (zKc BK134.out 1).trans rfl; have hfz53_0 := zKf BK134.out 0; have hfz53_1 := zKf BK134.out 1; obtain ⟨Ao54, co54, eo54⟩ := zRs HO132.out; subst eo54))
      go_ret
      exact ⟨by first | rfl | (simp [errW_none, errW_some] <;> rfl) | (simp [*, errW_none, errW_some] <;> rfl), by exact uT HB.out⟩
  · rw [if_neg c2] at H
    have c2b0 : (t133 == 0) = false := beq_eq_false_iff_ne.mpr c2
    have c2b1 : (t133 != 0) = true := bne_iff_ne.mpr c2
    obtain rfl := zOi H
    go_enter Try.func13, Try.ntmps13
    go_wp2_with (first |  ((with_reducible refine gate_dst (N := 6) rfl ?_); (try (refine gate_guard (by rfl) ?_; dsimp only)); refine Kd.R_lit k36 _ 36 ?hg (N := 6) ?hd (xs := ([(⟨2, 0, 0⟩ : S36), (⟨0, 1, 0⟩ : S36)] : List (S36))) (inner := [.int .i64 2, .int .i64 0, .int .i64 0, .int .i64 0, .int .i64 1, .int .i64 0]) (ok := fun _ => True) (okp := fun _ => True) ?hr ?hp (fun _ hk => hk) trivial (Below.refl _ _) (Nat.le_refl _) (by simp) ?_; (case hd => rfl); (case hg => rfl); (case hr => first |  (go_simp; done)|  (go_simp; rfl)|  (go_simp; rw [show ∀ x : Int, IntKind.u32.wrap (IntKind.u8.wrap x) = x % 256 from fun x => (by show (x % 256) % 4294967296 = x % 256; omega)])); (case hp => exact (Reps.c3 (show Kd.M k36 _ _ _ (⟨2, 0, 0⟩ : S36) [.int .i64 2, .int .i64 0, .int .i64 0] from (k36_mkM _ _ _ (⟨2, 0, 0⟩ : S36) )) (Reps.c3 (show Kd.M k36 _ _ _ (⟨0, 1, 0⟩ : S36) [.int .i64 0, .int .i64 1, .int .i64 0] from (k36_mkM _ _ _ (⟨0, 1, 0⟩ : S36) )) (Reps.none _ _)))); intro v127 w55 ho56 hb hg_ hnew_; clear hg_ hnew_; (first |  rw [← Ny126.out] at ho56|  (simp only [Int.reduceToNat] at ho56; rw [← Ny126.out] at ho56)); have HO128 := zMk (zRl ho56 (zBs (by exact uT HB.out))); replace HB := zMk (zBt (by exact uT HB.out) hb); clear hb ho56; obtain ⟨Ao57, co57, eo57⟩ := zRs HO128.out; subst eo57)|  ((with_reducible refine gate_callee (f := 14) rfl ?_); refine goesL_ (some 7) rfl rfl Try.func14 (by kernel_rfl) rfl #[.int .i64 3, .slice Ao57 y126.length co57] rfl (by (try simp only [zMa, zMc, zMn]); first |  done|  rfl|  (simp only [zLd, zLt]; rfl)) ?_; (with_reducible refine (graph_Make.calls k 3 _ _ y126 t129 t130 t133 _ ?side1 ?side2 A1.out).mono ?_); (case side1 => exact uC (zRr HO128.out).2.2); (case side2 => exact (zRr HO128.out).2.1); rintro e w58 ⟨v131, rfl, ho0, hb⟩; refine ⟨_, rfl, ?_⟩; have HO132 := zMk (zRl (zRw ho0 (zRt (by exact uR HO128.out))) (zBs (by exact uT HB.out))); replace HO128 := zMk (zRe (by exact uR HO128.out) (zRz ho0) hb); replace HB := zMk (zBt (by exact uT HB.out) hb); (try clear hb); (try clear hb2); (try clear hk); (try clear hi); (try clear ho0))|  ((with_reducible refine gate_dst (N := 1) rfl ?_); (try (refine gate_guard (by rfl) ?_; dsimp only)); refine box_event ?hg (N := 1) ?hd (cs := #[.int .i64 0, .slice none 0 0]) (t := 24) ?hr ?_; (case hd => rfl); (case hg => rfl); (case hr => first |  (go_simp; done)|  (go_simp; rfl)|  (go_simp; rw [show ∀ x : Int, IntKind.u32.wrap (IntKind.u8.wrap x) = x % 256 from fun x => (by show (x % 256) % 4294967296 = x % 256; omega)])); intro gb134 hg w59 hbox hb; replace HO128 := zMk (zRb (by exact uR HO128.out) hb); replace HO132 := zMk (zRb (by exact uR HO132.out) hb); have BK134 := zMk (hbox); have GW134 := zMk ((by rw [hg]; exact (zBs (by exact uT HB.out)) : w.heap.size ≤ gb134)); have GE134 := zMk ((by rw [hg]; exact (zBs (by exact uT HB.out)) : w.heap.size ≤ gb134)); have IGE134 := ownGe GE134.out; replace HB := zMk (zBt (by exact uT HB.out) hb); clear hb hbox hg; have hcz60_0 : w59.cell? ⟨gb134, 0, none⟩ = some (.int .i64 0) := (zKc BK134.out 0).trans rfl; have hcz60_1 : w59.cell? ⟨gb134, 1, none⟩ = some (.slice none 0 0) := (zKc BK134.out 1).trans rfl; have hfz60_0 := zKf BK134.out 0; have hfz60_1 := zKf BK134.out 1; obtain ⟨Ao61, co61, eo61⟩ := zRs HO132.out; subst eo61))
    go_ret
    exact ⟨by first | rfl | (simp [errW_none, errW_some] <;> rfl) | (simp [*, errW_none, errW_some] <;> rfl), by exact uT HB.out⟩

/- Chapter 04: what Make comes to; the chapter's example. -/
theorem alive_at0 : filigreelaw04_alive.f 1000000 = some true := by kernel_rfl
theorem alive_at1 : filigreelaw04_alive.f 999999 = some true := by kernel_rfl
def badI (n : Int) : List S36 → Int
  | [] => 0
  | e :: l => if aloneI n e = 0 then badI n l else aloneI n e
theorem bad_eq (k : Nat) (n : Int) : ∀ l : List S36, graph_Make_bad (k + 1) n l = some (badI n l)
  | [] => rfl
  | e :: l => by
    unfold graph_Make_bad badI
    rw [alone_eq, zOb, bad_eq k n l]
    by_cases h : aloneI n e = 0
    · rw [if_pos h, if_pos h]
    · rw [if_neg h, if_neg h]
def makeI (n : Int) (l : List S36) : Int × List S36 × Int :=
  if sizesI n l.length = 0 then (if badI n l = 0 then (if dupE (sortE (l.map nrmE)) then (0, [], 7) else (n, sortE (l.map nrmE), 0)) else (0, [], badI n l)) else (0, [], sizesI n l.length)
theorem Make_eq (k : Nat) (n : Int) (l : List S36) (hk : 1 ≤ k) (hl : l.length < 5864062014805) : graph_Make.f k n l = some (makeI n l) := by
  obtain ⟨k, rfl⟩ : ∃ m, k = m + 1 := ⟨k - 1, by omega⟩
  unfold graph_Make.f makeI
  rw [if_pos hl, sizes_eq, zOb, bad_eq]
  repeat' split
  all_goals simp_all
theorem alive_eq (k : Nat) (hk : 6 ≤ k) : filigreelaw04_alive.f k = some true := by
  have h1 : makeI 3 [⟨2, 0, 0⟩, ⟨0, 1, 0⟩] = (3, [⟨0, 1, 0⟩, ⟨0, 2, 0⟩], 0) := by kernel_rfl
  have h2 : rightI 3 [⟨0, 1, 0⟩, ⟨0, 2, 0⟩] = 0 := by kernel_rfl
  have h3 : api_Edge_45.f [⟨0, 1, 0⟩, ⟨0, 2, 0⟩] (mn 2 0) (mx 2 0) 0 = some (1, true) := by kernel_rfl
  have h4 : api_Edge_45.f [⟨0, 1, 0⟩, ⟨0, 2, 0⟩] (mn 1 2) (mx 1 2) 0 = some (2, false) := by kernel_rfl
  have h5 := Right_eq k 3 [⟨0, 1, 0⟩, ⟨0, 2, 0⟩] (by simpa using hk)
  rw [h2] at h5
  unfold filigreelaw04_alive.f
  rw [Make_eq k 3 _ (by omega) (by decide), zOb, h1]
  simp only [graph_Find.f, h5, zOb, if_true, h3, h4]
  rfl
/-- a list whose neighbours go up strictly -/
def upE : List S36 → Prop
  | a :: b :: l => ordE a b = -1 ∧ upE (b :: l)
  | _ => True
theorem ordE_trans {a b c : S36} (h1 : ordE a b = -1) (h2 : ordE b c = -1) : ordE a c = -1 := by
  unfold ordE at *
  repeat' split at h1
  all_goals repeat' split at h2
  all_goals repeat' split
  all_goals first | rfl | omega
theorem up_pair : ∀ {l : List S36}, upE l → l.Pairwise (fun a b => ordE a b = -1)
  | [], _ => List.Pairwise.nil
  | [a], _ => by simp
  | a :: b :: l, h => by
    have ih := up_pair h.2
    refine List.Pairwise.cons (fun c hc => ?_) ih
    rcases List.mem_cons.1 hc with rfl | hc
    · exact h.1
    · exact ordE_trans h.1 (List.rel_of_pairwise_cons ih hc)
theorem pair_up : ∀ {l : List S36}, l.Pairwise (fun a b => ordE a b = -1) → upE l
  | [], _ => trivial
  | [a], _ => trivial
  | a :: b :: l, h => ⟨List.rel_of_pairwise_cons h (by simp), pair_up h.of_cons⟩
/-- what goes up strictly is told by what it holds -/
theorem up_unique : ∀ {l m : List S36}, l.Pairwise (fun a b => ordE a b = -1) → m.Pairwise (fun a b => ordE a b = -1) → l.Perm m → l = m
  | [], m, _, _, hp => (List.nil_perm.1 hp).symm
  | a :: l, [], _, _, hp => absurd hp.length_eq (by simp)
  | a :: l, b :: m, h1, h2, hp => by
    have ha : a ∈ b :: m := hp.subset (by simp)
    have hb : b ∈ a :: l := hp.symm.subset (by simp)
    have hab : a = b := by
      rcases List.mem_cons.1 ha with h | h
      · exact h
      rcases List.mem_cons.1 hb with h' | h'
      · exact h'.symm
      · have e1 := List.rel_of_pairwise_cons h2 h
        have e2 := List.rel_of_pairwise_cons h1 h'
        have := ordE_swap a b
        omega
    subst hab
    rw [up_unique h1.of_cons h2.of_cons hp.cons_inv]
theorem ordI_ordE (a b : S36) : ordI a.f0 a.f1 b.f0 b.f1 = ordE a b := by
  unfold ordI cmpI ordE
  repeat' split
  all_goals omega
theorem sortE_le (l : List S36) : (sortE l).Pairwise (fun a b => ordE b a ≠ -1) := by
  have h := (sortE_facts l).2
  rw [List.pairwise_iff_getElem]
  intro i j hi hj hij
  have h2 := h i j (Nat.zero_le _) hij (by rw [List.size_toArray, ← sortE_length]; exact hj)
  rw [ltE] at h2
  have e1 : (sortE l).toArray[i]! = (sortE l)[i] := by simp [hi]
  have e2 : (sortE l).toArray[j]! = (sortE l)[j] := by simp [hj]
  rw [e1, e2] at h2
  have h3 := of_decide_eq_false h2
  unfold ordE
  repeat' split
  all_goals omega
theorem dup_up : ∀ {l : List S36}, l.Pairwise (fun a b => ordE b a ≠ -1) → dupE l = false → upE l
  | [], _, _ => trivial
  | [a], _, _ => trivial
  | a :: b :: l, h, hd => by
    unfold dupE at hd
    rw [Bool.or_eq_false_iff, decide_eq_false_iff_not, ordI_ordE] at hd
    refine ⟨?_, dup_up h.of_cons hd.2⟩
    have h1 := List.rel_of_pairwise_cons h (List.mem_cons_self (a := b) (l := l))
    have := ordE_swap a b
    rcases ordE_cases a b with h2 | h2 | h2 <;> omega
theorem up_dup : ∀ {l : List S36}, upE l → dupE l = false
  | [], _ => rfl
  | [a], _ => rfl
  | a :: b :: l, h => by
    unfold dupE
    rw [ordI_ordE, h.1, up_dup h.2]
    rfl
theorem sortE_dup_up (l : List S36) (h : dupE (sortE l) = false) : (sortE l).Pairwise (fun a b => ordE a b = -1) := up_pair (dup_up (sortE_le l) h)
/-- a list that goes up strictly, in any order: sorted it is that list -/
theorem sortE_of_up {l m : List S36} (h : l.Pairwise (fun a b => ordE a b = -1)) (hp : m.Perm l) : sortE m = l := by
  have hperm : (sortE m).Perm l := (sortE_perm m).trans hp
  have hle := sortE_le m
  have hne : (sortE m).Pairwise (fun a b => ordE a b ≠ 0) := by
    refine List.Pairwise.perm (R := fun a b => ordE a b ≠ 0) (l := l) ?_ hperm.symm ?_
    · exact h.imp (fun h' => by omega)
    · intro a b h'; rw [ordE_swap]; omega
  refine up_unique ?_ h hperm
  refine (hle.and hne).imp (fun {a b} ⟨h1, h2⟩ => ?_)
  have := ordE_swap a b
  rcases ordE_cases a b with h3 | h3 | h3 <;> omega
theorem right_iff (n : Int) (l : List S36) : rightI n l = 0 ↔ sizesI n l.length = 0 ∧ (∀ e ∈ l, aloneI n e = 0 ∧ e.f0 ≤ e.f1) ∧ upE l := by
  have key : ∀ (l : List S36) (p : Option S36), rgt n p l = 0 ↔ (∀ e ∈ l, aloneI n e = 0 ∧ e.f0 ≤ e.f1) ∧ (match p with | none => upE l | some p => upE (p :: l)) := by
    intro l
    induction l with
    | nil => intro p; cases p <;> simp [rgt, upE]
    | cons e l ih =>
      intro p
      unfold rgt
      by_cases h0 : aloneI n e = 0
      · rw [if_neg (not_not_intro h0)]
        by_cases h1 : e.f0 > e.f1
        · rw [if_pos h1]
          constructor
          · intro h; omega
          · intro h; have := (h.1 e (by simp)).2; omega
        · rw [if_neg h1]
          cases p with
          | none =>
            simp only [ih, List.mem_cons, forall_eq_or_imp]
            constructor
            · intro h; exact ⟨⟨⟨h0, by omega⟩, h.1⟩, h.2⟩
            · intro h; exact ⟨h.1.2, h.2⟩
          | some p =>
            simp only [List.mem_cons, forall_eq_or_imp, upE]
            rcases ordE_cases p e with h2 | h2 | h2
            · rw [if_neg (by omega), if_neg (by omega), ih]
              constructor
              · intro h; exact ⟨⟨⟨h0, by omega⟩, h.1⟩, h2, h.2⟩
              · intro h; exact ⟨h.1.2, h.2.2⟩
            · rw [if_pos h2]
              constructor
              · intro h; omega
              · intro h; have := h.2.1; omega
            · rw [if_neg (by omega), if_pos h2]
              constructor
              · intro h; omega
              · intro h; have := h.2.1; omega
      · rw [if_pos h0]
        constructor
        · intro h; exact absurd h h0
        · intro h; exact absurd (h.1 e (by simp)).1 h0
  unfold rightI
  by_cases h : sizesI n l.length = 0
  · rw [if_pos h, key l none]
    exact ⟨fun x => ⟨h, x⟩, fun x => x.2⟩
  · rw [if_neg h]
    exact ⟨fun x => absurd x h, fun x => absurd x.1 h⟩
theorem bad_iff (n : Int) : ∀ l : List S36, badI n l = 0 ↔ ∀ e ∈ l, aloneI n e = 0
  | [] => by simp [badI]
  | e :: l => by
    unfold badI
    by_cases h : aloneI n e = 0
    · rw [if_pos h, bad_iff n l]; simp [h]
    · rw [if_neg h]; simp [h]
theorem alone_nrm (n : Int) (e : S36) : aloneI n (nrmE e) = aloneI n e := by
  unfold nrmE aloneI
  by_cases h1 : e.f1 < e.f0 <;> by_cases h2 : e.f0 < e.f1 <;> simp only [h1, h2, if_true, if_false]
  all_goals repeat' split
  all_goals first | rfl | omega
theorem nrm_le (e : S36) : (nrmE e).f0 ≤ (nrmE e).f1 := by
  unfold nrmE
  by_cases h1 : e.f1 < e.f0 <;> by_cases h2 : e.f0 < e.f1 <;> simp only [h1, h2, if_true, if_false] <;> omega
theorem nrm_of_le {e : S36} (h : e.f0 ≤ e.f1) : nrmE e = e := by
  obtain ⟨a, b, c⟩ := e
  unfold nrmE
  simp only at h ⊢
  rw [if_neg (by omega)]
  by_cases h2 : a < b
  · rw [if_pos h2]
  · rw [if_neg h2]
    have : a = b := by omega
    rw [this]
theorem nrm_swap (e : S36) : nrmE ⟨e.f1, e.f0, e.f2⟩ = nrmE e := by
  unfold nrmE
  simp only
  by_cases h1 : e.f1 < e.f0 <;> by_cases h2 : e.f0 < e.f1 <;> simp only [h1, h2, if_true, if_false]
  · omega
  · have : e.f0 = e.f1 := by omega
    rw [this]
theorem size_sortE (n : Int) (l : List S36) : sizesI n (sortE (l.map nrmE)).length = sizesI n l.length := by rw [sortE_length, List.length_map]
/-- what Make makes is right -/
theorem make_right (n : Int) (l : List S36) (h : (makeI n l).2.2 = 0) : rightI (makeI n l).1 (makeI n l).2.1 = 0 ∧ makeI n l = (n, sortE (l.map nrmE), 0) := by
  unfold makeI at h ⊢
  by_cases h1 : sizesI n l.length = 0
  · rw [if_pos h1] at h ⊢
    by_cases h2 : badI n l = 0
    · rw [if_pos h2] at h ⊢
      by_cases h3 : dupE (sortE (l.map nrmE)) = true
      · rw [if_pos h3] at h; simp at h
      · rw [if_neg h3] at h ⊢
        refine ⟨(right_iff _ _).2 ⟨(size_sortE n l).trans h1, fun e he => ?_, dup_up (sortE_le _) (by simpa using h3)⟩, rfl⟩
        obtain ⟨e', he', rfl⟩ := List.mem_map.1 ((sortE_perm _).subset he)
        exact ⟨(alone_nrm n e').trans ((bad_iff n l).1 h2 e' he'), nrm_le e'⟩
    · rw [if_neg h2] at h; exact absurd h h2
  · rw [if_neg h1] at h; exact absurd h h1
/-- a right graph is made of its edges again -/
theorem make_again (n : Int) (E l : List S36) (hr : rightI n E = 0) (hp : (l.map nrmE).Perm E) : makeI n l = (n, E, 0) := by
  obtain ⟨h1, h2, h3⟩ := (right_iff n E).1 hr
  have hlen : l.length = E.length := by rw [← hp.length_eq, List.length_map]
  have hs : sortE (l.map nrmE) = E := sortE_of_up (up_pair h3) hp
  unfold makeI
  rw [hlen, if_pos h1, hs, up_dup h3, if_pos ((bad_iff n l).2 fun e he => ?_)]
  · rfl
  · rw [← alone_nrm]
    exact (h2 _ (hp.subset (List.mem_map_of_mem he))).1

/-! ### slices_Sort_int_int: function 46 -/
section
open Go.Sort hiding Below
theorem reps_ints {l : List Int} {inner : List Value} {w : World} {base : Nat} {ok : Nat → Prop} (h : Reps ((Kd.int .i64).M w base ok) 1 l inner) : inner = l.map (.int .i64) := by
  apply List.ext_getElem?
  intro t
  rcases Nat.lt_or_ge t l.length with ht | ht
  · have h2 := h.2 t l[t] (by simp [ht])
    have h3 : ((inner.drop (t * 1)).take 1)[0]? = inner[t]? := by rw [List.getElem?_take_of_lt (by omega), List.getElem?_drop]; simp
    have h4 : (inner.drop (t * 1)).take 1 = [.int .i64 l[t]] := h2
    rw [← h3, h4]
    simp [ht]
  · rw [List.getElem?_eq_none (by rw [h.1]; omega), List.getElem?_eq_none (by simpa using ht)]
theorem ints_reps (l : List Int) {w : World} {base : Nat} {ok : Nat → Prop} : Reps ((Kd.int .i64).M w base ok) 1 l (l.map (.int .i64)) := by
  refine ⟨by simp, fun j p hj => ?_⟩
  have hl : j < l.length := by
    rcases Nat.lt_or_ge j l.length with h | h
    · exact h
    · rw [List.getElem?_eq_none h] at hj; cases hj
  have e : l[j] = p := by rw [List.getElem?_eq_getElem hl] at hj; exact zOi hj
  show _ = _
  rw [List.drop_eq_getElem_cons (by simp; omega)]
  simp [e]
theorem sortI_held {w : World} {g : Nat} {cur : Array Value} {e : TypeId} {l0 : List Int} (hb : w.heap[g]? = some (.cells cur e (0, 0))) (h4 : cur.toList.take l0.length = l0.map (.int .i64)) : Holds (Value.int .i64) w g 0 l0.toArray := by
  intro j hj
  have hj' : j < l0.length := by simpa using hj
  refine ⟨?_, by simp [World.frozen?, hb]⟩
  have h5 : cur.toList[j]? = some (.int .i64 l0[j]) := by
    have h6 : (cur.toList.take l0.length)[j]? = some (.int .i64 l0[j]) := by rw [h4]; simp [hj']
    rwa [List.getElem?_take_of_lt hj'] at h6
  unfold World.cell?
  rw [Nat.zero_add, hb]
  simp only
  rw [← Array.getElem?_toList, h5]
  simp [hj']
theorem sortI_blk {w : World} {g n : Nat} {os : Array Obj} {cur : Array Value} {e : TypeId} (d : Array Int) (hb : w.heap[g]? = some (.cells cur e (0, 0))) :
    (grow (putRow (Value.int .i64) (Sort.ahead w n) g 0 d) os).heap[g]? = some (.cells (putCells (Value.int .i64) 0 d cur) e (0, 0)) := by
  have hg : g < w.heap.size := (Array.getElem?_eq_some_iff.1 hb).1
  rw [heap_grow_old _ _ (by simpa [putRow, mapBlock, Sort.ahead] using hg)]
  simp [putRow, mapBlock, Sort.ahead, Array.getElem?_modify, hb, onCells]
theorem sortI_grown {w : World} {g n : Nat} {os : Array Obj} (d : Array Int) : w.grownBy (grow (putRow (Value.int .i64) (Sort.ahead w n) g 0 d) os) (some g) := by
  refine ⟨rfl, rfl, rfl, by simp [putRow, mapBlock, Sort.ahead], fun k hk hne => ?_⟩
  rw [heap_grow_old _ _ (by simpa [putRow, mapBlock, Sort.ahead] using hk)]
  have : g ≠ k := fun e => hne (by rw [e])
  simp [putRow, mapBlock, Sort.ahead, Array.getElem?_modify, this]
theorem sortI_take (cur : Array Value) (ts : List Int) (h : ts.length ≤ cur.size) : (putCells (Value.int .i64) 0 ts.toArray cur).toList.take ts.length = ts.map (Value.int .i64) := by
  apply List.ext_getElem?
  intro j
  by_cases hj : j < ts.length
  · rw [List.getElem?_take_of_lt hj, Array.getElem?_toList]
    simp [putCells, hj, show j < cur.size by omega]
  · rw [List.getElem?_take_eq_none (by omega), List.getElem?_eq_none (by simp; omega)]
def slices_Sort_int_int.f (l0 : List Int) : Option (List Int) := if l0.length < 4611686018427387904 then some (l0.mergeSort fun x y => decide (x ≤ y)) else none
theorem slices_Sort_int_int.calls (P0_ : Nat → Prop) (u0 : Value) (l0 : List Int) (r : List Int) (w0 w : World) (hB : Below w0.heap.size w0 w) (ho0 : Kd.R (Kd.int .i64) 3 w w0.heap.size P0_ u0 l0) (h : slices_Sort_int_int.f l0 = some r) :
    Calls Try.prog 46 #[u0] w fun e w' => e = .returned (.tuple #[]) ∧ Kd.R (Kd.int .i64) 3 w' w0.heap.size (fun k_ => (P0_ k_ ∨ w.heap.size ≤ k_)) u0 r ∧ Below w0.heap.size w0 w' ∧ Kept w w' (fun k_ => P0_ k_) := by
  unfold slices_Sort_int_int.f at h
  by_cases hl : l0.length < 4611686018427387904
  · rw [if_pos hl] at h
    obtain rfl := zOi h
    obtain ⟨hok, inner, ⟨hlen, ho⟩, hr⟩ := ho0
    rcases ho with ⟨rfl, h0⟩ | ⟨g, cap, cur, rfl, hg, hb, h1, h2, h3, h4⟩
    · have : l0 = [] := List.length_eq_zero_iff.1 h0
      subst this
      refine (Try.slices_Sort_int_none none 0 w).mono ?_
      rintro e w' ⟨rfl, rfl⟩
      refine ⟨rfl, ?_, hB, Kept.refl _ _⟩
      have : (([] : List Int).mergeSort fun x y => decide (x ≤ y)) = [] := by simp
      rw [this]
      exact Kd.R_nil _ _ _ _ _
    · have hblk : g < w.heap.size := (Array.getElem?_eq_some_iff.1 hb).1
      have hin := reps_ints hr
      subst hin
      have hH : Holds (Value.int .i64) w g 0 l0.toArray := by
        intro j hj
        have hj' : j < l0.length := by simpa using hj
        refine ⟨?_, by simp [World.frozen?, hb]⟩
        have h5 : cur.toList[j]? = some (.int .i64 l0[j]) := by
          have h6 : (cur.toList.take (l0.length * 1))[j]? = some (.int .i64 l0[j]) := by
            have h7 : cur.toList.take (l0.length * 1) = l0.map (.int .i64) := h4
            rw [h7]; simp [hj']
          rwa [List.getElem?_take_of_lt (by omega)] at h6
        unfold World.cell?
        rw [Nat.zero_add, hb]
        simp only
        rw [← Array.getElem?_toList, h5]
        simp [hj']
      refine (Try.slices_Sort_int g 0 cap l0 w hH hblk hl).mono ?_
      rintro e w' ⟨rfl, n, os, rfl⟩
      have hsl : (l0.mergeSort fun x y => decide (x ≤ y)).length = l0.length := List.length_mergeSort _
      have hgr : w.grownBy (grow (putRow (Value.int .i64) (Sort.ahead w n) g 0 (l0.mergeSort fun x y => decide (x ≤ y)).toArray) os) (some g) := sortI_grown _
      have hsz : (Kd.int .i64).sz = 1 := rfl
      have hcs : cur.size = cap := by rw [h3, hsz, Nat.mul_one]
      generalize (l0.mergeSort fun x y => decide (x ≤ y)) = m at hsl hgr ⊢
      refine ⟨rfl, ?_, hB.grown hgr hB.size (fun k hk => by cases hk; exact hg), ?_⟩
      · rw [← hsl]
        refine ⟨fun k hk => ?_, m.map (.int .i64), ⟨by rw [List.length_map, hsz, Nat.mul_one], .inr ⟨g, cap, _, rfl, hg, sortI_blk _ hb, by omega, h2, ?_, ?_⟩⟩, ints_reps _⟩
        · have : g = k := by simpa [Value.ownBlock] using hk
          exact .inl (this ▸ hok g (by simp [Value.ownBlock]))
        · rw [hsz, Nat.mul_one]; simp [putCells, hcs]
        · rw [hsz, Nat.mul_one]; exact sortI_take cur m (by omega)
      · exact Kept.of_grown hgr (Kept.refl _ _) (fun k hk => .inl (by cases hk; exact hok g (by simp [Value.ownBlock])))
  · rw [if_neg hl] at h
    cases h
/-- the same over the row's own blocks: what is written, and where -/
theorem slices_Sort_int_int.row (P0_ : Nat → Prop) (u0 : Value) (l0 : List Int) (base : Nat) (w : World) (ho0 : Kd.R (Kd.int .i64) 3 w base P0_ u0 l0) (hl : l0.length < 4611686018427387904) :
    Calls Try.prog 46 #[u0] w fun e w' => e = .returned (.tuple #[]) ∧ ∃ row, w.grownBy w' row ∧ (∀ k, row = some k → P0_ k ∧ base ≤ k) ∧ Kd.R (Kd.int .i64) 3 w' base P0_ u0 (l0.mergeSort fun x y => decide (x ≤ y)) := by
  obtain ⟨hok, inner, ⟨hlen, ho⟩, hr⟩ := ho0
  rcases ho with ⟨rfl, h0⟩ | ⟨g, cap, cur, rfl, hg, hb, h1, h2, h3, h4⟩
  · have : l0 = [] := List.length_eq_zero_iff.1 h0
    subst this
    refine (Try.slices_Sort_int_none none 0 w).mono ?_
    rintro e w' ⟨rfl, rfl⟩
    have : (([] : List Int).mergeSort fun x y => decide (x ≤ y)) = [] := by simp
    rw [this]
    exact ⟨rfl, none, ⟨rfl, rfl, rfl, Nat.le_refl _, fun _ _ _ => rfl⟩, fun k hk => by (cases hk), Kd.R_nil _ _ _ _ _⟩
  · have hblk : g < w.heap.size := (Array.getElem?_eq_some_iff.1 hb).1
    have hin := reps_ints hr
    subst hin
    have hsz : (Kd.int .i64).sz = 1 := rfl
    have hH : Holds (Value.int .i64) w g 0 l0.toArray := sortI_held hb (by rw [hsz, Nat.mul_one] at h4; exact h4)
    refine (Try.slices_Sort_int g 0 cap l0 w hH hblk hl).mono ?_
    rintro e w' ⟨rfl, n, os, rfl⟩
    have hsl : (l0.mergeSort fun x y => decide (x ≤ y)).length = l0.length := List.length_mergeSort _
    have hcs : cur.size = cap := by rw [h3, hsz, Nat.mul_one]
    generalize (l0.mergeSort fun x y => decide (x ≤ y)) = m at hsl ⊢
    have hP : P0_ g := hok g (by simp [Value.ownBlock])
    refine ⟨rfl, some g, sortI_grown _, fun k hk => by (cases hk; exact ⟨hP, hg⟩), ?_⟩
    rw [← hsl]
    refine ⟨fun k hk => ?_, m.map (.int .i64), ⟨by rw [List.length_map, hsz, Nat.mul_one], .inr ⟨g, cap, _, rfl, hg, sortI_blk _ hb, by omega, h2, ?_, ?_⟩⟩, ints_reps _⟩
    · have : g = k := by simpa [Value.ownBlock] using hk
      exact this ▸ hP
    · rw [hsz, Nat.mul_one]; simp [putCells, hcs]
    · rw [hsz, Nat.mul_one]; exact sortI_take cur m (by omega)
end


/-! ### graph_Near: function 26 -/
mutual
def graph_Near.l0 : Nat → List (List Int) → List (S36) → Int → Int → Option ((List (List Int)))
  | 0, _, _, _, _ => none
  | k + 1, x3, x15, x16, x17 => if x17 < x16 then (if 0 ≤ x17 then (if x17 < (x15.length : Int) then (if 0 ≤ ((rd_T36 x15 x17).f0) then (if ((rd_T36 x15 x17).f0) < (x3.length : Int) then (if (rd_L5 x3 ((rd_T36 x15 x17).f0)).length < 17592186044416 then ((some (x3.set (((rd_T36 x15 x17).f0) : Int).toNat ((rd_L5 x3 ((rd_T36 x15 x17).f0)) ++ [(rd_T36 x15 x17).f1]) : List (List Int))).bind fun y321 => (if 0 ≤ ((rd_T36 x15 x17).f1) then (if ((rd_T36 x15 x17).f1) < (x3.length : Int) then (if (rd_L5 y321 ((rd_T36 x15 x17).f1)).length < 17592186044416 then (graph_Near.l0 k (y321.set (((rd_T36 x15 x17).f1) : Int).toNat ((rd_L5 y321 ((rd_T36 x15 x17).f1)) ++ [(rd_T36 x15 x17).f0])) x15 x16 (wrap64 (x17 + 1))) else (none)) else (none)) else (none))) else (none)) else (none)) else (none)) else (none)) else (none)) else (graph_Near.l1 k x3 0)
def graph_Near.l1 : Nat → List (List Int) → Int → Option (List (List Int))
  | 0, _, _ => none
  | k + 1, x3, x50 => if x50 < (x3.length : Int) then (if 0 ≤ x50 then (if (rd_L5 x3 x50).length < 4611686018427387904 then (graph_Near.l1 k (x3.set x50.toNat ((rd_L5 x3 x50).mergeSort fun x y => decide (x ≤ y))) (wrap64 (x50 + 1))) else (none)) else (none)) else (some x3)
end
def graph_Near.f (k : Nat) (a0_0 : Int) (l0_1 : List (S36)) : Option ((List (List Int))) := (graph_Right.f k a0_0 l0_1).bind fun t311 => (if t311 = 0 then (if 0 ≤ a0_0 then (if (a0_0 : Int).toNat ≤ 11728124029610 then (graph_Near.l0 k (List.replicate (a0_0 : Int).toNat []) l0_1 (l0_1.length : Int) 0) else (none)) else (none)) else (some ([] : List (List Int))))
def graph_Near.T7 : Bool × List (List Nat × List Nat) := (true, [([], []), ([], []), ([1], [1]), ([], []), ([], []), ([4], [4]), ([3, 5], [3, 5]), ([6], [6]), ([], []), ([8], [8]), ([9], [9]), ([7, 10], [7, 10]), ([0, 2, 0, 1, 2, 3, 4, 5, 6, 7, 8, 9, 10, 11], [0, 2]), ([12, 11, 11, 0, 1, 2, 3, 4, 5, 6, 7, 8, 9, 10, 11], [11, 12])])
def graph_Near.B7 : List Nat := [0, 0, 2, 0, 0, 16, 56, 120, 0, 256, 768, 2040, 4095, 8191]
theorem graph_Near.tab7 : rtab .any (opsOf Try.f26 7) = graph_Near.T7 := by kernel_rfl
theorem graph_Near.bits7 : waitsOk graph_Near.T7.2 graph_Near.B7 = true := by kernel_rfl
def graph_Near.T8 : Bool × List (List Nat × List Nat) := (true, [([], []), ([], []), ([1], [1]), ([], []), ([], []), ([4], [4]), ([3, 5], [3, 5]), ([6], [6]), ([], []), ([8], [8]), ([9], [9]), ([7, 10], [7, 10]), ([0, 2, 0, 1, 2, 3, 4, 5, 6, 7, 8, 9, 10, 11], [0, 2]), ([12, 11, 11, 0, 1, 2, 3, 4, 5, 6, 7, 8, 9, 10, 11], [11, 12])])
def graph_Near.B8 : List Nat := [0, 0, 2, 0, 0, 16, 56, 120, 0, 256, 768, 2040, 4095, 8191]
theorem graph_Near.tab8 : rtab .any (opsOf Try.f26 8) = graph_Near.T8 := by kernel_rfl
theorem graph_Near.bits8 : waitsOk graph_Near.T8.2 graph_Near.B8 = true := by kernel_rfl
set_option maxHeartbeats 8000000 in
set_option maxRecDepth 100000 in
theorem graph_Near.calls (k : Nat) (a0_0 : Int) (A0_1 : Option Addr) (c0_1 : Nat) (l0_1 : List (S36)) (r : List (List Int)) (w : World) (hr0_1 : Kd.C k36 w A0_1 l0_1.length l0_1) (hc0_1 : l0_1.length ≤ c0_1) (h : graph_Near.f k a0_0 l0_1 = some r) :
    Calls Try.prog 26 #[.agg #[.int .i64 a0_0, .slice A0_1 l0_1.length c0_1]] w fun e w' => ∃ v0_ : Value, e = .returned (v0_) ∧ Kd.S (Kd.slice 3 (Kd.int .i64)) 33 w' w.heap.size (fun _ => True) v0_ r ∧ Below w.heap.size w w' := by
  have hu24 := Try.underlying24
  have hu36 := Try.underlying36
  have HR0_1 := zMk hr0_1
  have HC0_1 := zMk hc0_1
  clear hr0_1 hc0_1
  have HB := zMk (Below.refl w.heap.size w)
  have H : ((graph_Right.f k a0_0 l0_1).bind fun t311 => (if t311 = 0 then (if 0 ≤ a0_0 then (if (a0_0 : Int).toNat ≤ 11728124029610 then (graph_Near.l0 k (List.replicate (a0_0 : Int).toNat []) l0_1 (l0_1.length : Int) 0) else (none)) else (none)) else (some ([] : List (List Int))))) = some r := h
  clear h
  replace H := bnd H
  obtain ⟨t311, A20, H⟩ := H
  have A2 := zMk A20
  clear A20
  by_cases c3 : t311 = 0
  · rw [if_pos c3] at H
    have c3b0 : (t311 == 0) = true := beq_iff_eq.mpr c3
    have c3b1 : (t311 != 0) = false := bne_eq_false_iff_eq.mpr c3
    clear c3
    by_cases c4 : 0 ≤ a0_0
    rotate_left
    · rw [if_neg c4] at H; exact absurd H (by simp)
    rw [if_pos c4] at H
    have c4b0 := eq_true c4
    have c4b1 : decide (0 ≤ a0_0) = true := decide_eq_true c4
    clear c4
    by_cases c5 : (a0_0 : Int).toNat ≤ 11728124029610
    rotate_left
    · rw [if_neg c5] at H; exact absurd H (by simp)
    rw [if_pos c5] at H
    have c5b0 := eq_true c5
    have c5b1 : decide ((a0_0 : Int).toNat ≤ 11728124029610) = true := decide_eq_true c5
    clear c5
    obtain ⟨y312, hy312⟩ : ∃ y_ : List (List Int), y_ = (List.replicate (a0_0 : Int).toNat []) := ⟨_, rfl⟩
    replace H : (graph_Near.l0 k y312 l0_1 (l0_1.length : Int) 0) = some r := by first | (rw [hy312]; with_reducible exact H) | (have H2_ := bsm H; first | (rw [hy312]; with_reducible exact H2_) | with_reducible exact H2_) | with_reducible exact H | (rw [hy312]; exact H) | exact H
    have Ny312 := zMk hy312
    clear hy312
    have H' := zMk H
    clear H
    go_enter Try.func26, Try.ntmps26
    go_wp2_with (first |  ((with_reducible refine gate_dst (N := 1) rfl ?_); refine box_event ?hg (N := 1) ?hd (cs := #[.int .i64 a0_0, .slice A0_1 l0_1.length c0_1]) (t := 24) ?hr ?_; (case hd => rfl); (case hg => rfl); (case hr => first |  (go_simp; done)|  (go_simp; rfl)|  (go_simp; rw [show ∀ x : Int, IntKind.u32.wrap (IntKind.u8.wrap x) = x % 256 from fun x => (by show (x % 256) % 4294967296 = x % 256; omega)])); intro gb310 hg w6 hbox hb; have BK310 := zMk (hbox); have GW310 := zMk ((by rw [hg]; exact (zBs (by exact uT HB.out)) : w.heap.size ≤ gb310)); have GE310 := zMk ((by rw [hg]; exact (zBs (by exact uT HB.out)) : w.heap.size ≤ gb310)); have IGE310 := ownGe GE310.out; replace HB := zMk (zBt (by exact uT HB.out) hb); clear hb hbox hg; have hcz7_0 : w6.cell? ⟨gb310, 0, none⟩ = some (.int .i64 a0_0) := (zKc BK310.out 0).trans rfl; have hcz7_1 : w6.cell? ⟨gb310, 1, none⟩ = some (.slice A0_1 l0_1.length c0_1) := (zKc BK310.out 1).trans rfl; have hfz7_0 := zKf BK310.out 0; have hfz7_1 := zKf BK310.out 1)|  ((with_reducible refine gate_callee (f := 11) rfl ?_); refine goesL_ (some 9) rfl rfl Try.func11 (by kernel_rfl) rfl #[.agg #[.int .i64 a0_0, .slice A0_1 l0_1.length c0_1]] rfl (by (try simp only [zMa, zMc, zMn]); first |  done|  rfl|  (simp only [zLd, zLt]; rfl)) ?_; (with_reducible refine (graph_Right.calls k a0_0 _ _ l0_1 t311 _ ?side1 ?side2 A2.out).mono ?_); (case side1 => repeat (first |  exact (Kd.C_below HR0_1.out HB.out)|  (with_reducible refine zCa ?_ _)|  (with_reducible refine zCn ?_ _)|  (with_reducible refine zCd ?_))); (case side2 => exact HC0_1.out); rintro e w8 ⟨rfl, hb⟩; refine ⟨_, rfl, ?_⟩; replace BK310 := zMk (zKb (g := gb310) (o := .cells #[.int .i64 a0_0, .slice A0_1 l0_1.length c0_1] 24 (0, 0)) (by (with_reducible repeat (first |  refine zKn ?_ _|  refine zKd ?_|  refine zKa ?_ _)); exact BK310.out) hb); replace HB := zMk (zBt (by exact uT HB.out) hb); (try clear hb); (try clear hb2); (try clear hk); (try clear hi); have hcz9_0 : w8.cell? ⟨gb310, 0, none⟩ = some (.int .i64 a0_0) := (zKc BK310.out 0).trans rfl; have hcz9_1 : w8.cell? ⟨gb310, 1, none⟩ = some (.slice A0_1 l0_1.length c0_1) := (zKc BK310.out 1).trans rfl; have hfz9_0 := zKf BK310.out 0; have hfz9_1 := zKf BK310.out 1)|  ((with_reducible refine gate_dst (N := 13) rfl ?_); refine Kd.S_make (Kd.slice 3 (Kd.int .i64)) _ 33 rfl (N := 13) rfl 47 _ _ rfl a0_0 rfl rfl Try.underlying47 (.slice none 0 0) 24 info33 rfl (by decide) (by omega) [] (ok := fun _ => True) (okp := fun _ => True) ⟨_, rfl, Kd.R_nil _ _ _ _ _⟩ (fun _ hk => hk) trivial (of_decide_eq_true (by first |  (with_reducible assumption)|  assumption)) (Nat.le_trans (Nat.mul_le_mul_right _ (of_decide_eq_true (by first |  (with_reducible assumption)|  assumption) : a0_0.toNat ≤ 11728124029610)) (by omega)) (Below.refl _ _) (Nat.le_refl _) ?_; intro v313 w10 ho11 hb hg_ hnew_; clear hg_ hnew_; (first |  rw [← Ny312.out] at ho11|  (simp only [Int.reduceToNat] at ho11; rw [← Ny312.out] at ho11)); have HO314 := zMk (Kd.S_lower ho11 (zBs (by exact uT HB.out))); replace BK310 := zMk (zKb (g := gb310) (o := .cells #[.int .i64 a0_0, .slice A0_1 l0_1.length c0_1] 24 (0, 0)) (by (with_reducible repeat (first |  refine zKn ?_ _|  refine zKd ?_|  refine zKa ?_ _)); exact BK310.out) hb); replace HB := zMk (zBt (by exact uT HB.out) hb); clear hb ho11; have hcz12_0 : w10.cell? ⟨gb310, 0, none⟩ = some (.int .i64 a0_0) := (zKc BK310.out 0).trans rfl; have hcz12_1 : w10.cell? ⟨gb310, 1, none⟩ = some (.slice A0_1 l0_1.length c0_1) := (zKc BK310.out 1).trans rfl; have hfz12_0 := zKf BK310.out 0; have hfz12_1 := zKf BK310.out 1))
    go_loopg [17] k (fun kq v17 w' => ∃ (x3_1 : List (List Int)) (x17_1 : Int), v17 = .int .i64 x17_1 ∧ Aside0 (graph_Near.l0 kq x3_1 l0_1 (l0_1.length : Int) x17_1 = some r) ∧ Aside0 (kq ≤ k) ∧ Aside0 (Kd.S (Kd.slice 3 (Kd.int .i64)) 33 w' w.heap.size (fun _ => True) v313 x3_1) ∧ Aside0 (w'.heap[gb310]? = some (.cells #[.int .i64 a0_0, (.slice A0_1 l0_1.length c0_1)] 24 (0, 0))) ∧ Aside0 (Below w.heap.size w w'))
    case atStart => exact ⟨(y312), (0), (by first | rfl | (simp; done) | (simp [*]; done)), H', ⟨Nat.le_refl _⟩, ⟨by (with_reducible repeat (first | apply Kd.S_alloc | apply Kd.S_drewN | apply Kd.S_drew)); exact HO314.out⟩, ⟨by (with_reducible repeat (first | refine zKn ?_ _ | refine zKd ?_ | refine zKa ?_ _)); exact BK310.out⟩, ⟨by exact uT HB.out⟩⟩
    clear H'
    obtain ⟨x3_1, x17_1, rfl, HA, HK1, HO_3, BK310, HB⟩ := hrel
    rcases gk with _ | k1
    · exact absurd HA.out (by simp [graph_Near.l0])
    have H := HA.out
    clear HA
    simp only [graph_Near.l0] at H
    by_cases c13 : x17_1 < (l0_1.length : Int)
    · rw [if_pos c13] at H
      have c13b0 : decide (x17_1 < (l0_1.length : Int)) = true := decide_eq_true c13
      clear c13
      by_cases c14 : 0 ≤ x17_1
      rotate_left
      · rw [if_neg c14] at H; exact absurd H (by simp)
      rw [if_pos c14] at H
      have c14b0 : decide (0 ≤ x17_1) = true := decide_eq_true c14
      clear c14
      by_cases c15 : x17_1 < (l0_1.length : Int)
      rotate_left
      · rw [if_neg c15] at H; exact absurd H (by simp)
      rw [if_pos c15] at H
      have c15b0 : decide (x17_1 < (l0_1.length : Int)) = true := decide_eq_true c15
      clear c15
      by_cases c16 : 0 ≤ ((rd_T36 l0_1 x17_1).f0)
      rotate_left
      · rw [if_neg c16] at H; exact absurd H (by simp)
      rw [if_pos c16] at H
      have c16b0 : decide (0 ≤ ((rd_T36 l0_1 x17_1).f0)) = true := decide_eq_true c16
      clear c16
      by_cases c17 : ((rd_T36 l0_1 x17_1).f0) < (x3_1.length : Int)
      rotate_left
      · rw [if_neg c17] at H; exact absurd H (by simp)
      rw [if_pos c17] at H
      have c17b0 : decide (((rd_T36 l0_1 x17_1).f0) < (x3_1.length : Int)) = true := decide_eq_true c17
      clear c17
      by_cases c18 : (rd_L5 x3_1 ((rd_T36 l0_1 x17_1).f0)).length < 17592186044416
      rotate_left
      · rw [if_neg c18] at H; exact absurd H (by simp)
      rw [if_pos c18] at H
      have LMc18 := zMk c18
      clear c18
      obtain ⟨y318, hy318⟩ : ∃ y_ : List Int, y_ = ((rd_L5 x3_1 ((rd_T36 l0_1 x17_1).f0)) ++ [(rd_T36 l0_1 x17_1).f1]) := ⟨_, rfl⟩
      replace H : ((some (x3_1.set (((rd_T36 l0_1 x17_1).f0) : Int).toNat y318 : List (List Int))).bind fun y321 => (if 0 ≤ ((rd_T36 l0_1 x17_1).f1) then (if ((rd_T36 l0_1 x17_1).f1) < (x3_1.length : Int) then (if (rd_L5 y321 ((rd_T36 l0_1 x17_1).f1)).length < 17592186044416 then (graph_Near.l0 k1 (y321.set (((rd_T36 l0_1 x17_1).f1) : Int).toNat ((rd_L5 y321 ((rd_T36 l0_1 x17_1).f1)) ++ [(rd_T36 l0_1 x17_1).f0])) l0_1 (l0_1.length : Int) (wrap64 (x17_1 + 1))) else (none)) else (none)) else (none))) = some r := by first | (rw [hy318]; with_reducible exact H) | (have H2_ := bsm H; first | (rw [hy318]; with_reducible exact H2_) | with_reducible exact H2_) | with_reducible exact H | (rw [hy318]; exact H) | exact H
      have Ny318 := zMk hy318
      clear hy318
      obtain ⟨y321, hy321⟩ : ∃ y_ : List (List Int), y_ = (x3_1.set (((rd_T36 l0_1 x17_1).f0) : Int).toNat y318) := ⟨_, rfl⟩
      replace H : (if 0 ≤ ((rd_T36 l0_1 x17_1).f1) then (if ((rd_T36 l0_1 x17_1).f1) < (x3_1.length : Int) then (if (rd_L5 y321 ((rd_T36 l0_1 x17_1).f1)).length < 17592186044416 then (graph_Near.l0 k1 (y321.set (((rd_T36 l0_1 x17_1).f1) : Int).toNat ((rd_L5 y321 ((rd_T36 l0_1 x17_1).f1)) ++ [(rd_T36 l0_1 x17_1).f0])) l0_1 (l0_1.length : Int) (wrap64 (x17_1 + 1))) else (none)) else (none)) else (none)) = some r := by first | (rw [hy321]; with_reducible exact H) | (have H2_ := bsm H; first | (rw [hy321]; with_reducible exact H2_) | with_reducible exact H2_) | with_reducible exact H | (rw [hy321]; exact H) | exact H
      have Ny321 := zMk hy321
      clear hy321
      by_cases c20 : 0 ≤ ((rd_T36 l0_1 x17_1).f1)
      rotate_left
      · rw [if_neg c20] at H; exact absurd H (by simp)
      rw [if_pos c20] at H
      have c20b0 : decide (0 ≤ ((rd_T36 l0_1 x17_1).f1)) = true := decide_eq_true c20
      clear c20
      by_cases c21 : ((rd_T36 l0_1 x17_1).f1) < (x3_1.length : Int)
      rotate_left
      · rw [if_neg c21] at H; exact absurd H (by simp)
      rw [if_pos c21] at H
      have c21b0 : decide (((rd_T36 l0_1 x17_1).f1) < (x3_1.length : Int)) = true := decide_eq_true c21
      clear c21
      by_cases c22 : (rd_L5 y321 ((rd_T36 l0_1 x17_1).f1)).length < 17592186044416
      rotate_left
      · rw [if_neg c22] at H; exact absurd H (by simp)
      rw [if_pos c22] at H
      have LMc22 := zMk c22
      clear c22
      obtain ⟨y323, hy323⟩ : ∃ y_ : List Int, y_ = ((rd_L5 y321 ((rd_T36 l0_1 x17_1).f1)) ++ [(rd_T36 l0_1 x17_1).f0]) := ⟨_, rfl⟩
      replace H : (graph_Near.l0 k1 (y321.set (((rd_T36 l0_1 x17_1).f1) : Int).toNat y323) l0_1 (l0_1.length : Int) (wrap64 (x17_1 + 1))) = some r := by first | (rw [hy323]; with_reducible exact H) | (have H2_ := bsm H; first | (rw [hy323]; with_reducible exact H2_) | with_reducible exact H2_) | with_reducible exact H | (rw [hy323]; exact H) | exact H
      have Ny323 := zMk hy323
      clear hy323
      obtain ⟨y326, hy326⟩ : ∃ y_ : List (List Int), y_ = (y321.set (((rd_T36 l0_1 x17_1).f1) : Int).toNat y323) := ⟨_, rfl⟩
      replace H : (graph_Near.l0 k1 y326 l0_1 (l0_1.length : Int) (wrap64 (x17_1 + 1))) = some r := by first | (rw [hy326]; with_reducible exact H) | (have H2_ := bsm H; first | (rw [hy326]; with_reducible exact H2_) | with_reducible exact H2_) | with_reducible exact H | (rw [hy326]; exact H) | exact H
      have Ny326 := zMk hy326
      clear hy326
      have H' := zMk H
      clear H
      have p315 : 0 ≤ (x17_1 : Int) := of_decide_eq_true (by first | (with_reducible assumption) | assumption)
      have q315 : x17_1 < (l0_1.length : Int) := of_decide_eq_true (by first | (with_reducible assumption) | assumption)
      obtain ⟨ad315, e315, hx315_0, hx315_1, hx315_2⟩ := at_T36 HR0_1.out x17_1 p315 q315
      cases e315
      replace hx315_0 := (HB.out.cell (World.block_lt_of_cell? w _ hx315_0)).trans hx315_0
      replace hx315_1 := (HB.out.cell (World.block_lt_of_cell? w _ hx315_1)).trans hx315_1
      replace hx315_2 := (HB.out.cell (World.block_lt_of_cell? w _ hx315_2)).trans hx315_2
      replace p315 := eq_true p315
      replace q315 := eq_true q315
      try go_wp2_with (first |  ((with_reducible refine gate_dst (N := 5) rfl ?_); refine box_event ?hg (N := 5) ?hd (cs := #[.int .i64 0, .int .i64 0, .int .i64 0]) (t := 36) ?hr ?_; (case hd => rfl); (case hg => rfl); (case hr => first |  (go_simp; done)|  (go_simp; rfl)|  (go_simp; rw [show ∀ x : Int, IntKind.u32.wrap (IntKind.u8.wrap x) = x % 256 from fun x => (by show (x % 256) % 4294967296 = x % 256; omega)])); intro gb316 hg w24 hbox hb; replace HO_3 := zMk (Kd.S_below (by (with_reducible repeat (first |  apply Kd.S_alloc|  apply Kd.S_drewN|  apply Kd.S_drew)); exact HO_3.out) hb); have BK316 := zMk (hbox); have GW316 := zMk ((by rw [hg]; exact (zBs (by exact uT HB.out)) : w.heap.size ≤ gb316)); have GE316 := zMk ((by rw [hg]; exact (zBs (by exact uT HB.out)) : w.heap.size ≤ gb316)); have IGE316 := ownGe GE316.out; replace HB := zMk (zBt (by exact uT HB.out) hb); have NB310_316 := zMk ((by rw [hg]; exact Nat.ne_of_lt (blk_lt (g := gb310) (o := .cells #[.int .i64 a0_0, .slice (some ad315) l0_1.length c0_1] 24 (0, 0)) (by (with_reducible repeat (first |  refine zKn ?_ _|  refine zKd ?_|  refine zKa ?_ _)); exact BK310.out)) : gb310 ≠ gb316)); have NB316_310 := zMk ((by rw [hg]; exact Nat.ne_of_gt (blk_lt (g := gb310) (o := .cells #[.int .i64 a0_0, .slice (some ad315) l0_1.length c0_1] 24 (0, 0)) (by (with_reducible repeat (first |  refine zKn ?_ _|  refine zKd ?_|  refine zKa ?_ _)); exact BK310.out)) : gb316 ≠ gb310)); replace BK310 := zMk (zKb (g := gb310) (o := .cells #[.int .i64 a0_0, .slice (some ad315) l0_1.length c0_1] 24 (0, 0)) (by (with_reducible repeat (first |  refine zKn ?_ _|  refine zKd ?_|  refine zKa ?_ _)); exact BK310.out) hb); clear hb hbox hg; have hnb25 := NB316_310.out; have hnc25 := NB310_316.out; have hcz26_0 : w24.cell? ⟨gb316, 0, none⟩ = some (.int .i64 0) := (zKc BK316.out 0).trans rfl; have hcz26_1 : w24.cell? ⟨gb316, 1, none⟩ = some (.int .i64 0) := (zKc BK316.out 1).trans rfl; have hcz26_2 : w24.cell? ⟨gb316, 2, none⟩ = some (.int .i64 0) := (zKc BK316.out 2).trans rfl; have hfz26_0 := zKf BK316.out 0; have hfz26_1 := zKf BK316.out 1; have hfz26_2 := zKf BK316.out 2))
      have n0_ : Aside0 (Kd.S (Kd.slice 3 (Kd.int .i64)) 33 (((w24.setCell ⟨gb316, 0, none⟩ (.int .i64 ((rd_T36 l0_1 x17_1).f0))).setCell ⟨gb316, 1, none⟩ (.int .i64 ((rd_T36 l0_1 x17_1).f1))).setCell ⟨gb316, 2, none⟩ (.int .i64 ((rd_T36 l0_1 x17_1).f2))) w.heap.size (fun _ => True) v313 x3_1) := ⟨by (with_reducible repeat (first |  apply Kd.S_alloc|  apply Kd.S_drewN|  apply Kd.S_drew)); exact Kd.S_mono (Kd.S_far (p := ⟨gb316, 2, none⟩) (Kd.S_far (p := ⟨gb316, 1, none⟩) (Kd.S_far (p := ⟨gb316, 0, none⟩) (Kd.S_types HO_3.out BK316.out (by decide)) (fun _ hk => hk.2) (.int .i64 ((rd_T36 l0_1 x17_1).f0))) (fun _ hk => hk.2) (.int .i64 ((rd_T36 l0_1 x17_1).f1))) (fun _ hk => hk.2) (.int .i64 ((rd_T36 l0_1 x17_1).f2))) (fun _ hk => trivial)⟩
      have n1_ : Aside0 ((((w24.setCell ⟨gb316, 0, none⟩ (.int .i64 ((rd_T36 l0_1 x17_1).f0))).setCell ⟨gb316, 1, none⟩ (.int .i64 ((rd_T36 l0_1 x17_1).f1))).setCell ⟨gb316, 2, none⟩ (.int .i64 ((rd_T36 l0_1 x17_1).f2))).heap[gb310]? = some (.cells #[.int .i64 a0_0, .slice (some ad315) l0_1.length c0_1] 24 (0, 0))) := ⟨by (with_reducible repeat (first | refine zKn ?_ _ | refine zKd ?_ | refine zKa ?_ _)); refine blk_far ?_ NB310_316.out _; (with_reducible repeat (first | refine zKn ?_ _ | refine zKd ?_ | refine zKa ?_ _)); refine blk_far ?_ NB310_316.out _; (with_reducible repeat (first | refine zKn ?_ _ | refine zKd ?_ | refine zKa ?_ _)); refine blk_far ?_ NB310_316.out _; (with_reducible repeat (first | refine zKn ?_ _ | refine zKd ?_ | refine zKa ?_ _)); exact BK310.out⟩
      have n2_ : Aside0 ((((w24.setCell ⟨gb316, 0, none⟩ (.int .i64 ((rd_T36 l0_1 x17_1).f0))).setCell ⟨gb316, 1, none⟩ (.int .i64 ((rd_T36 l0_1 x17_1).f1))).setCell ⟨gb316, 2, none⟩ (.int .i64 ((rd_T36 l0_1 x17_1).f2))).heap[gb316]? = some (.cells #[.int .i64 ((rd_T36 l0_1 x17_1).f0), .int .i64 ((rd_T36 l0_1 x17_1).f1), .int .i64 ((rd_T36 l0_1 x17_1).f2)] 36 (0, 0))) := ⟨by (with_reducible repeat (first | refine zKn ?_ _ | refine zKd ?_ | refine zKa ?_ _)); refine blk_put (cs := #[.int .i64 ((rd_T36 l0_1 x17_1).f0), .int .i64 ((rd_T36 l0_1 x17_1).f1), .int .i64 0]) ?_ 2 _ rfl; (with_reducible repeat (first | refine zKn ?_ _ | refine zKd ?_ | refine zKa ?_ _)); refine blk_put (cs := #[.int .i64 ((rd_T36 l0_1 x17_1).f0), .int .i64 0, .int .i64 0]) ?_ 1 _ rfl; (with_reducible repeat (first | refine zKn ?_ _ | refine zKd ?_ | refine zKa ?_ _)); refine blk_put (cs := #[.int .i64 0, .int .i64 0, .int .i64 0]) ?_ 0 _ rfl; (with_reducible repeat (first | refine zKn ?_ _ | refine zKd ?_ | refine zKa ?_ _)); exact BK316.out⟩
      have n3_ : Aside0 (Below w.heap.size w (((w24.setCell ⟨gb316, 0, none⟩ (.int .i64 ((rd_T36 l0_1 x17_1).f0))).setCell ⟨gb316, 1, none⟩ (.int .i64 ((rd_T36 l0_1 x17_1).f1))).setCell ⟨gb316, 2, none⟩ (.int .i64 ((rd_T36 l0_1 x17_1).f2)))) := ⟨by exact uT HB.out⟩
      (try clear HO_3)
      (try clear BK310)
      (try clear BK316)
      (try clear HB)
      generalize (((w24.setCell ⟨gb316, 0, none⟩ (.int .i64 ((rd_T36 l0_1 x17_1).f0))).setCell ⟨gb316, 1, none⟩ (.int .i64 ((rd_T36 l0_1 x17_1).f1))).setCell ⟨gb316, 2, none⟩ (.int .i64 ((rd_T36 l0_1 x17_1).f2))) = w27 at n0_ n1_ n2_ n3_ ⊢
      have HO_3 := n0_
      have BK310 := n1_
      have BK316 := n2_
      have HB := n3_
      clear n0_ n1_ n2_ n3_
      replace HO_3 := zMk (Kd.S_drew HO_3.out)
      replace BK310 := zMk (zKd BK310.out)
      replace BK316 := zMk (zKd BK316.out)
      replace HB := zMk (zBd HB.out)
      obtain ⟨Ao29, co29, eo29⟩ := Kd.S_slice HO_3.out
      (first |  subst eo29|  (injection eo29 with f1_ f2_ f3_; have f4_ := f1_.symm; have f5_ := f3_.symm; clear f1_ f2_ f3_; subst f4_; subst f5_))
      have p317 : 0 ≤ (((rd_T36 l0_1 x17_1).f0) : Int) := of_decide_eq_true (by first | (with_reducible assumption) | assumption)
      have q317 : ((rd_T36 l0_1 x17_1).f0) < (x3_1.length : Int) := of_decide_eq_true (by first | (with_reducible assumption) | assumption)
      obtain ⟨ad317, A317_0, c317_0, e317, hx317_0, hl317_0, hi317_0⟩ := at_L5 (Kd.S_reads' HO_3.out).2.2 ((rd_T36 l0_1 x17_1).f0) p317 q317
      cases e317
      obtain ⟨ce317, hce317, hMe317, hcc317⟩ := Kd.S_get HO_3.out [] ((rd_T36 l0_1 x17_1).f0) p317 (by first | exact q317 | exact of_decide_eq_true (by first | (with_reducible assumption) | assumption) | (have e_ := (Kd.S_reads' HO_3.out).1; omega))
      obtain ⟨ve317_0, rfl, ge317_0⟩ := hMe317
      have hv317_0 := hcc317 0 _ rfl
      rw [Nat.add_zero, show ((Kd.slice 3 (Kd.int .i64))).sz = 1 from rfl, Nat.mul_one] at hv317_0
      replace hv317_0 := zOi (hv317_0.symm.trans hx317_0)
      rw [hv317_0] at ge317_0
      have HL317_0 := zMk (show Kd.R (Kd.int .i64) 3 _ _ _ _ (rd_L5 x3_1 ((rd_T36 l0_1 x17_1).f0)) from ge317_0)
      clear hv317_0 ge317_0
      have HX317_0 := zMk hx317_0
      clear hcc317 hce317
      have HR317_0 := zMk hi317_0
      have HC317_0 := zMk hl317_0
      clear hi317_0 hl317_0
      replace p317 := eq_true p317
      replace q317 := eq_true q317
      obtain ⟨go30, co30, eo30, gb30, gl30, cl30, HG30⟩ := Kd.S_form HO_3.out (by have h_ : (((rd_T36 l0_1 x17_1).f0) : Int) < ((x3_1.length : Int) : Int) := of_decide_eq_true (by first | (with_reducible assumption) | assumption); have h2_ : 0 ≤ (((rd_T36 l0_1 x17_1).f0) : Int) := (of_decide_eq_true (by first | (with_reducible assumption) | assumption)); omega)
      (first |  cases eo30|  (injection eo30 with ea_ en_ ec_; (first |  subst ea_|  (injection ea_ with ea_; subst ea_)); subst ec_; clear en_))
      have GB30 := zMk gb30
      have IGB30 := ownGe GB30.out
      have GG30 := zMk HG30
      clear gb30 gl30 HG30
      (first | simp only [add_plain] at hx317_0 | skip)
      obtain ⟨oki30, ce30, hcl30, hM30, hcc30, _, _, hH30⟩ := Kd.S_elem HO_3.out [] (((rd_T36 l0_1 x17_1).f0) : Int) (of_decide_eq_true (by first | (with_reducible assumption) | assumption)) (by have h_ : (((rd_T36 l0_1 x17_1).f0) : Int) < ((x3_1.length : Int) : Int) := of_decide_eq_true (by first | (with_reducible assumption) | assumption); first | exact h_ | (have e_ := (Kd.S_reads' HO_3.out).1; omega) | simpa using h_)
      obtain ⟨ve30_0, rfl, ge30_0⟩ := hM30
      have hv30 := hcc30 0 _ rfl
      have hX30 := HX317_0.out
      (try simp only [add_plain] at hX30)
      (try simp only [Nat.add_zero] at hv30)
      (try rw [show ((Kd.slice 3 (Kd.int .i64))).sz = 1 from rfl, Nat.mul_one] at hv30)
      replace hv30 := zOi (hv30.symm.trans hX30)
      subst hv30
      clear hX30 hcc30 hcl30
      have UU30 := zMk (show Kd.R (Kd.int .i64) 3 _ w.heap.size oki30 (.slice A317_0 (rd_L5 x3_1 ((rd_T36 l0_1 x17_1).f0)).length c317_0) (rd_L5 x3_1 ((rd_T36 l0_1 x17_1).f0)) from ge30_0)
      have HH30 := zMk hH30
      have HN30 := zMk (Kd.S_reads' HO_3.out).1
      clear hH30 ge30_0
      refine start_ (n := 14) (S := fun w' => w'.cell? ⟨gb316, 0, none⟩ = some (.int .i64 ((rd_T36 l0_1 x17_1).f0)) ∧ w'.cell? ⟨gb316, 1, none⟩ = some (.int .i64 ((rd_T36 l0_1 x17_1).f1)) ∧ w'.cell? ⟨gb316, 2, none⟩ = some (.int .i64 ((rd_T36 l0_1 x17_1).f2)) ∧ w'.cell? ⟨go30, (((rd_T36 l0_1 x17_1).f0)).toNat, none⟩ = some (.slice A317_0 (rd_L5 x3_1 ((rd_T36 l0_1 x17_1).f0)).length c317_0)) (ds := [13]) #[false, false, false, false, false, false, false, false, false, false, false, false, false, false] (by kernel_rfl) rfl rfl ⟨(zKc BK316.out 0).trans rfl, (zKc BK316.out 1).trans rfl, (zKc BK316.out 2).trans rfl, hx317_0⟩ (fun hHeld => ?_); refine with_tabW graph_Near.tab7 graph_Near.bits7 (fun HT_ HW_ => ?_)
      generalize w27.drew = w28 at HO_3 BK310 BK316 HB GG30 HH30 HL317_0 HR317_0 HX317_0 UU30 hx317_0 hHeld ⊢
      refine pure_ (i := 0) (N := some 21) (v := ?_) (a' := ?_) #[true, false, false, false, false, false, false, false, false, false, false, false, false, false] rfl rfl (any_of HT_.out (by kernel_rfl)) (fun _ _ _ h => h) (Or.inl ⟨by rfl, ?_⟩) ?_ ?_
      rotate_left
      · intro w'
        go_simp
        with_reducible rfl
      rotate_left
      · simp only [Act.put, zSa, zSb, zSc, i64_w, i32_w]
        rfl
      refine pure_ (i := 1) (N := some 22) (v := ?_) (a' := ?_) #[true, true, false, false, false, false, false, false, false, false, false, false, false, false] rfl rfl (any_of HT_.out (by kernel_rfl)) (fun _ _ _ h => h) (Or.inl ⟨by rfl, ?_⟩) ?_ ?_
      rotate_left
      · intro w'
        go_simp
        with_reducible rfl
      rotate_left
      · simp only [Act.put, zSa, zSb, zSc, i64_w, i32_w]
        rfl
      refine pure_ (i := 3) (N := some 24) (v := ?_) (a' := ?_) #[true, true, false, true, false, false, false, false, false, false, false, false, false, false] rfl rfl (any_of HT_.out (by kernel_rfl)) (fun _ _ _ h => h) (Or.inl ⟨by rfl, ?_⟩) ?_ ?_
      rotate_left
      · intro w'
        go_simp
        with_reducible rfl
      rotate_left
      · simp only [Act.put, zSa, zSb, zSc, i64_w, i32_w]
        rfl
      refine pure_ (i := 4) (N := some 25) (v := ?_) (a' := ?_) #[true, true, false, true, true, false, false, false, false, false, false, false, false, false] rfl rfl (any_of HT_.out (by kernel_rfl)) (fun _ _ _ h => h) (Or.inl ⟨by rfl, ?_⟩) ?_ ?_
      rotate_left
      · intro w'
        go_simp
        with_reducible rfl
      rotate_left
      · simp only [Act.put, zSa, zSb, zSc, i64_w, i32_w]
        rfl
      refine pure_ (i := 8) (N := some 29) (v := ?_) (a' := ?_) #[true, true, false, true, true, false, false, false, true, false, false, false, false, false] rfl rfl (any_of HT_.out (by kernel_rfl)) (fun _ _ _ h => h) (Or.inl ⟨by rfl, ?_⟩) ?_ ?_
      rotate_left
      · intro w'
        go_simp
        with_reducible rfl
      rotate_left
      · simp only [Act.put, zSa, zSb, zSc, i64_w, i32_w]
        rfl
      refine take_ (i := 2) (N := some 23) (v := ?_) (a' := ?_) #[true, true, true, true, true, false, false, false, true, false, false, false, false, false] rfl rfl (take_ofW HT_.out HW_.out (by kernel_rfl)) (fun _ _ _ h => h) (Or.inl ⟨by rfl, ?_⟩) hHeld ?_ ?_
      rotate_left
      · rintro w' ⟨s0, s1, s2, s3⟩
        go_simp
        with_reducible rfl
      rotate_left
      · simp only [Act.put, zSa, zSb, zSc, i64_w, i32_w]
        rfl
      refine take_ (i := 5) (N := some 26) (v := ?_) (a' := ?_) #[true, true, true, true, true, true, false, false, true, false, false, false, false, false] rfl rfl (take_ofW HT_.out HW_.out (by kernel_rfl)) (fun _ _ _ h => h) (Or.inl ⟨by rfl, ?_⟩) hHeld ?_ ?_
      rotate_left
      · rintro w' ⟨s0, s1, s2, s3⟩
        go_simp
        with_reducible rfl
      rotate_left
      · simp only [Act.put, zSa, zSb, zSc, i64_w, i32_w]
        rfl
      refine pure_ (i := 6) (N := some 27) (v := ?_) (a' := ?_) #[true, true, true, true, true, true, true, false, true, false, false, false, false, false] rfl rfl (any_of HT_.out (by kernel_rfl)) (fun _ _ _ h => h) (Or.inl ⟨by rfl, ?_⟩) ?_ ?_
      rotate_left
      · intro w'
        go_simp
        with_reducible rfl
      rotate_left
      · simp only [Act.put, zSa, zSb, zSc, i64_w, i32_w]
        rfl
      refine take_ (i := 7) (N := some 28) (v := ?_) (a' := ?_) #[true, true, true, true, true, true, true, true, true, false, false, false, false, false] rfl rfl (take_ofW HT_.out HW_.out (by kernel_rfl)) (fun _ _ _ h => h) (Or.inl ⟨by rfl, ?_⟩) hHeld ?_ ?_
      rotate_left
      · rintro w' ⟨s0, s1, s2, s3⟩
        go_simp
        with_reducible rfl
      rotate_left
      · simp only [Act.put, zSa, zSb, zSc, i64_w, i32_w]
        rfl
      refine take_ (i := 9) (N := some 30) (v := ?_) (a' := ?_) #[true, true, true, true, true, true, true, true, true, true, false, false, false, false] rfl rfl (take_ofW HT_.out HW_.out (by kernel_rfl)) (fun _ _ _ h => h) (Or.inl ⟨by rfl, ?_⟩) hHeld ?_ ?_
      rotate_left
      · rintro w' ⟨s0, s1, s2, s3⟩
        go_simp
        with_reducible rfl
      rotate_left
      · simp only [Act.put, zSa, zSb, zSc, i64_w, i32_w]
        rfl
      refine one_ (i := 10) (N := some 31) #[true, true, true, true, true, true, true, true, true, true, true, false, false, false] rfl rfl (one_of HT_.out (by kernel_rfl)) (by decide) (fun K hK => ?_)
      refine value_ (w1 := ?_) (v := ?_) (by rfl) rfl ?_ ?_
      rotate_left 2
      · go_simp
        constructor
        · rfl
        · rfl
      refine hK.out _ _ ⟨(zKc (zKa BK316.out _) 0).trans rfl, (zKc (zKa BK316.out _) 1).trans rfl, (zKc (zKa BK316.out _) 2).trans rfl, (World.cell?_alloc_lt _ _ _ (World.block_lt_of_cell? _ _ (hHeld.2.2.2))).trans (hHeld.2.2.2)⟩ (fun hHeld => ?_)
      clear hK K
      refine norm_ (a' := ?_) ?_ ?_
      rotate_left
      · show Act.put _ (some 31) _ = _
        simp only [Act.put, zSa, zSb, zSc, i64_w, i32_w]
        rfl
      refine one_ (i := 11) (N := some 32) #[true, true, true, true, true, true, true, true, true, true, true, true, false, false] rfl rfl (one_of HT_.out (by kernel_rfl)) (by decide) (fun K hK => ?_)
      refine Kd.R_append_step (Kd.int .i64) (w0 := w) w.heap.size (by rfl) (.tmp 28) (.tmp 31) 33 3 (.int .i64 0) 8 rfl Try.underlying33 info3 rfl (by decide) (by omega) (.slice A317_0 (rd_L5 x3_1 ((rd_T36 l0_1 x17_1).f0)).length c317_0) (rd_L5 x3_1 ((rd_T36 l0_1 x17_1).f0)) ((rd_T36 l0_1 x17_1).f1) [.int .i64 ((rd_T36 l0_1 x17_1).f1)] (fun k_ => oki30 k_ ∨ ((fun _ => True)) k_ ∧ w28.heap.size ≤ k_) (fun _ => False) rfl rfl ?aP (fun _ hk => hk.elim) ?aF ?aO ?aB ?aS ?aL ?_
      (case aP => exact rfl)
      (case aB => exact (by exact uT HB.out))
      (case aF => exact (fun k_ hk => .inr ⟨trivial, hk⟩))
      (case aO => exact (by (with_reducible repeat (first | apply zRa | apply zRn | apply zRd)); exact zRm UU30.out (fun _ hk => .inl hk)))
      (case aS => exact (zBs (by exact uT HB.out)))
      (case aL => have := LMc18.out; omega)
      intro v319 w31 ho hb hg hat
      (first | have HS3_ := Go.Proofs.YteicpdkembmilaaW.PrintWords.cell_grown hg (hHeld.2.2.2) (by first | (rw [add_block]; exact (fun e_ => ((HL317_0.out.1 _ e_.symm).2) rfl)) | (show some (Addr.add _ _).block ≠ _; rw [add_block]; exact (fun e_ => ((HL317_0.out.1 _ e_.symm).2) rfl)) | exact (fun e_ => ((HL317_0.out.1 _ e_.symm).2) rfl)) | have HS3_ := Go.Proofs.YteicpdkembmilaaW.PrintWords.cell_grown hg (cell_unalloc (hHeld.2.2.2) (by first | (rw [add_block]; exact Kd.S_lt HO_3.out _ rfl) | (show (Addr.add _ _).block < _; rw [add_block]; exact Kd.S_lt HO_3.out _ rfl) | exact Kd.S_lt HO_3.out _ rfl)) (by first | (rw [add_block]; exact (fun e_ => ((HL317_0.out.1 _ e_.symm).2) rfl)) | (show some (Addr.add _ _).block ≠ _; rw [add_block]; exact (fun e_ => ((HL317_0.out.1 _ e_.symm).2) rfl)) | exact (fun e_ => ((HL317_0.out.1 _ e_.symm).2) rfl)))
      rw [← Ny318.out] at ho
      replace BK310 := zMk (blk_grown (g := gb310) (o := .cells #[.int .i64 a0_0, .slice (some ad315) l0_1.length c0_1] 24 (0, 0)) (by (with_reducible repeat (first | refine zKn ?_ _ | refine zKd ?_ | refine zKa ?_ _)); exact BK310.out) hg (Kd.R_ne HL317_0.out BK310.out (by decide)))
      replace BK316 := zMk (blk_grown (g := gb316) (o := .cells #[.int .i64 ((rd_T36 l0_1 x17_1).f0), .int .i64 ((rd_T36 l0_1 x17_1).f1), .int .i64 ((rd_T36 l0_1 x17_1).f2)] 36 (0, 0)) (by (with_reducible repeat (first | refine zKn ?_ _ | refine zKd ?_ | refine zKa ?_ _)); exact BK316.out) hg (Kd.R_ne HL317_0.out BK316.out (by decide)))
      replace HB := zMk (hb)
      replace HH30 := zMk (Kd.H_grown (Kd.H_widen (by repeat (first | exact HH30.out | refine Kd.H_alloc ?_ _ | refine Kd.H_drewN ?_ _ | refine Kd.H_drew ?_))) hg (fun k_ e_ => .inl (UU30.out.1 k_ e_)))
      have HO320 := zMk (ho)
      clear HO_3 UU30 HL317_0 ho hb hg hat
      have p19 : 0 ≤ (((rd_T36 l0_1 x17_1).f0) : Int) := of_decide_eq_true (by first | (with_reducible assumption) | assumption)
      have q19 : (((rd_T36 l0_1 x17_1).f0) : Int) < ((x3_1.length : Int) : Int) := of_decide_eq_true (by first | (with_reducible assumption) | assumption)
      replace p19 := eq_true p19
      replace q19 := eq_true q19
      obtain ⟨Ao34, co34, eo34⟩ := zRs HO320.out
      (first |  subst eo34|  (injection eo34 with f1_ f2_ f3_; have f4_ := f1_.symm; have f5_ := f3_.symm; clear f1_ f2_ f3_; subst f4_; subst f5_))
      obtain ⟨_, _, hraw32, _, _, hcc32, _⟩ := Kd.H_raw HH30.out (of_decide_eq_true (by first | (with_reducible assumption) | assumption)) (by have h_ : (((rd_T36 l0_1 x17_1).f0) : Int) < ((x3_1.length : Int) : Int) := of_decide_eq_true (by first | (with_reducible assumption) | assumption); first | exact h_ | (have e_ := (HN30.out); omega) | simpa using h_)
      obtain ⟨_, hfr32⟩ := Kd.H_at HH30.out (of_decide_eq_true (by first | (with_reducible assumption) | assumption)) (by have h_ : (((rd_T36 l0_1 x17_1).f0) : Int) < ((x3_1.length : Int) : Int) := of_decide_eq_true (by first | (with_reducible assumption) | assumption); first | exact h_ | (have e_ := (HN30.out); omega) | simpa using h_)
      have hx32_0 := hcc32 0 _ rfl
      have hf32_0 := hfr32 0
      (try simp only [Nat.add_zero] at hx32_0 hf32_0)
      (try rw [show ((Kd.slice 3 (Kd.int .i64))).sz = 1 from rfl, Nat.mul_one] at hx32_0)
      (try rw [show ((Kd.slice 3 (Kd.int .i64))).sz = 1 from rfl, Nat.mul_one] at hf32_0)
      have HP32 := Kd.S_seg0 HH30.out (of_decide_eq_true (by first | (with_reducible assumption) | assumption)) (by have h_ : (((rd_T36 l0_1 x17_1).f0) : Int) < ((x3_1.length : Int) : Int) := of_decide_eq_true (by first | (with_reducible assumption) | assumption); first | exact h_ | (have e_ := (HN30.out); omega) | simpa using h_) (seg := [.slice Ao34 y318.length co34]) (j := 0) (show 1 ≤ 1 from by decide) (x' := y318) (Kd.M_row HO320.out) (fun _ hk => hk)
      (try simp only [show ((Kd.slice 3 (Kd.int .i64))).sz = 1 from rfl, Nat.mul_one, Nat.add_zero] at HP32)
      clear hcc32 hfr32
      have HNB310_go30 := zMk (show gb310 ≠ go30 from by have h_ := Kd.R_ne hraw32 BK310.out (by decide); intro e_; exact h_ (by rw [e_]; rfl))
      have HNB316_go30 := zMk (show gb316 ≠ go30 from by have h_ := Kd.R_ne hraw32 BK316.out (by decide); intro e_; exact h_ (by rw [e_]; rfl))
      have HS32 := HP32.1
      rw [← Ny321.out] at HS32
      have HQ32 := zMk HS32
      obtain ⟨_, hgg32⟩ := Kd.R_typed hraw32 go30 rfl
      have GG32_ := zMk hgg32
      clear HP32 HS32 hgg32
      refine hK.out _ _ ⟨(zKc BK316.out 0).trans rfl, (zKc BK316.out 1).trans rfl, (zKc BK316.out 2).trans rfl, HS3_⟩ (fun hHeld => ?_)
      clear hK K
      refine norm_ (a' := ?_) ?_ ?_
      rotate_left
      · show Act.put _ (some 32) _ = _
        simp only [Act.put, zSa, zSb, zSc, i64_w, i32_w]
        rfl
      refine pure_ (i := 12) (N := some 33) (v := ?_) (a' := ?_) #[true, true, true, true, true, true, true, true, true, true, true, true, true, false] rfl rfl (any_of HT_.out (by kernel_rfl)) (fun _ _ _ h => h) (Or.inl ⟨by rfl, ?_⟩) ?_ ?_
      rotate_left
      · intro w'
        go_simp
        with_reducible rfl
      rotate_left
      · simp only [Act.put, zSa, zSb, zSc, i64_w, i32_w]
        rfl
      refine last_ (i := 13) (N := none) #[true, true, true, true, true, true, true, true, true, true, true, true, true, true] rfl rfl (one_of HT_.out (by kernel_rfl)) (by decide) (fun K hK => ?_)
      refine skip_ (w1 := ?_) (by rfl) rfl ?_ ?_
      rotate_left
      · go_simp
        rfl
      refine hK.out _ _ ?_
      clear hK K
      refine done_ (done_of HT_.out (by kernel_rfl)) ?_
      try go_wp2
      have n0_ : Aside0 (Kd.S (Kd.slice 3 (Kd.int .i64)) 33 (w31.setCell ⟨go30, (((rd_T36 l0_1 x17_1).f0) : Int).toNat, none⟩ (.slice Ao34 y318.length co34)) w.heap.size (fun _ => True) (.slice (some ⟨go30, 0, none⟩) x3_1.length co29) y321) := ⟨by (with_reducible repeat (first |  apply Kd.S_alloc|  apply Kd.S_drewN|  apply Kd.S_drew)); exact HQ32.out⟩
      have n1_ : Aside0 ((w31.setCell ⟨go30, (((rd_T36 l0_1 x17_1).f0) : Int).toNat, none⟩ (.slice Ao34 y318.length co34)).heap[gb310]? = some (.cells #[.int .i64 a0_0, .slice (some ad315) l0_1.length c0_1] 24 (0, 0))) := ⟨by (with_reducible repeat (first | refine zKn ?_ _ | refine zKd ?_ | refine zKa ?_ _)); refine blk_far ?_ HNB310_go30.out _; (with_reducible repeat (first | refine zKn ?_ _ | refine zKd ?_ | refine zKa ?_ _)); exact BK310.out⟩
      have n2_ : Aside0 ((w31.setCell ⟨go30, (((rd_T36 l0_1 x17_1).f0) : Int).toNat, none⟩ (.slice Ao34 y318.length co34)).heap[gb316]? = some (.cells #[.int .i64 ((rd_T36 l0_1 x17_1).f0), .int .i64 ((rd_T36 l0_1 x17_1).f1), .int .i64 ((rd_T36 l0_1 x17_1).f2)] 36 (0, 0))) := ⟨by (with_reducible repeat (first | refine zKn ?_ _ | refine zKd ?_ | refine zKa ?_ _)); refine blk_far ?_ HNB316_go30.out _; (with_reducible repeat (first | refine zKn ?_ _ | refine zKd ?_ | refine zKa ?_ _)); exact BK316.out⟩
      have n3_ : Aside0 (Below w.heap.size w (w31.setCell ⟨go30, (((rd_T36 l0_1 x17_1).f0) : Int).toNat, none⟩ (.slice Ao34 y318.length co34))) := ⟨by exact uT HB.out⟩
      (try clear HO_3)
      (try clear BK310)
      (try clear BK316)
      (try clear HB)
      generalize (w31.setCell ⟨go30, (((rd_T36 l0_1 x17_1).f0) : Int).toNat, none⟩ (.slice Ao34 y318.length co34)) = w35 at n0_ n1_ n2_ n3_ ⊢
      have HO_3 := n0_
      have BK310 := n1_
      have BK316 := n2_
      have HB := n3_
      clear n0_ n1_ n2_ n3_
      replace HO_3 := zMk (Kd.S_drew HO_3.out)
      replace BK310 := zMk (zKd BK310.out)
      replace BK316 := zMk (zKd BK316.out)
      replace HB := zMk (zBd HB.out)
      have p322 : 0 ≤ (((rd_T36 l0_1 x17_1).f1) : Int) := of_decide_eq_true (by first | (with_reducible assumption) | assumption)
      have q322 : ((rd_T36 l0_1 x17_1).f1) < (y321.length : Int) := (by have h_ : (((rd_T36 l0_1 x17_1).f1) : Int) < ((x3_1.length : Int) : Int) := of_decide_eq_true (by first | (with_reducible assumption) | assumption); first | (have e_ := (Kd.S_reads' HO_3.out).1; omega) | simpa only [Ny321.out, List.length_set] using h_)
      have ql322 : ((((rd_T36 l0_1 x17_1).f1) : Int) < ((x3_1.length : Int) : Int)) = True := eq_true (of_decide_eq_true (by first | (with_reducible assumption) | assumption))
      obtain ⟨ad322, A322_0, c322_0, e322, hx322_0, hl322_0, hi322_0⟩ := at_L5 (Kd.S_reads' HO_3.out).2.2 ((rd_T36 l0_1 x17_1).f1) p322 q322
      obtain rfl : (⟨go30, 0, none⟩ : Addr) = ad322 := (by injection e322)
      obtain ⟨ce322, hce322, hMe322, hcc322⟩ := Kd.S_get HO_3.out [] ((rd_T36 l0_1 x17_1).f1) p322 (by first | exact q322 | exact of_decide_eq_true (by first | (with_reducible assumption) | assumption) | (have e_ := (Kd.S_reads' HO_3.out).1; omega))
      obtain ⟨ve322_0, rfl, ge322_0⟩ := hMe322
      have hv322_0 := hcc322 0 _ rfl
      rw [Nat.add_zero, show ((Kd.slice 3 (Kd.int .i64))).sz = 1 from rfl, Nat.mul_one] at hv322_0
      replace hv322_0 := zOi (hv322_0.symm.trans hx322_0)
      rw [hv322_0] at ge322_0
      have HL322_0 := zMk (show Kd.R (Kd.int .i64) 3 _ _ _ _ (rd_L5 y321 ((rd_T36 l0_1 x17_1).f1)) from ge322_0)
      clear hv322_0 ge322_0
      have HX322_0 := zMk hx322_0
      clear hcc322 hce322
      (first | simp only [add_plain] at hx322_0 | simp only [add_at] at hx322_0 | simp only [Addr.add, Nat.zero_add] at hx322_0 | skip)
      have HR322_0 := zMk hi322_0
      have HC322_0 := zMk hl322_0
      clear hi322_0 hl322_0
      replace p322 := eq_true p322
      replace q322 := eq_true q322
      obtain ⟨oki37, ce37, hcl37, hM37, hcc37, _, _, hH37⟩ := Kd.S_elem HO_3.out [] (((rd_T36 l0_1 x17_1).f1) : Int) (of_decide_eq_true (by first | (with_reducible assumption) | assumption)) (by have h_ : (((rd_T36 l0_1 x17_1).f1) : Int) < ((x3_1.length : Int) : Int) := of_decide_eq_true (by first | (with_reducible assumption) | assumption); first | exact h_ | (have e_ := (Kd.S_reads' HO_3.out).1; omega) | simpa using h_)
      obtain ⟨ve37_0, rfl, ge37_0⟩ := hM37
      have hv37 := hcc37 0 _ rfl
      have hX37 := HX322_0.out
      (try simp only [add_plain] at hX37)
      (try simp only [Nat.add_zero] at hv37)
      (try rw [show ((Kd.slice 3 (Kd.int .i64))).sz = 1 from rfl, Nat.mul_one] at hv37)
      replace hv37 := zOi (hv37.symm.trans hX37)
      subst hv37
      clear hX37 hcc37 hcl37
      have UU37 := zMk (show Kd.R (Kd.int .i64) 3 _ w.heap.size oki37 (.slice A322_0 (rd_L5 y321 ((rd_T36 l0_1 x17_1).f1)).length c322_0) (rd_L5 y321 ((rd_T36 l0_1 x17_1).f1)) from ge37_0)
      have HH37 := zMk hH37
      have HN37 := zMk (Kd.S_reads' HO_3.out).1
      clear hH37 ge37_0
      refine start_ (n := 14) (S := fun w' => w'.cell? ⟨gb316, 0, none⟩ = some (.int .i64 ((rd_T36 l0_1 x17_1).f0)) ∧ w'.cell? ⟨gb316, 1, none⟩ = some (.int .i64 ((rd_T36 l0_1 x17_1).f1)) ∧ w'.cell? ⟨gb316, 2, none⟩ = some (.int .i64 ((rd_T36 l0_1 x17_1).f2)) ∧ w'.cell? ⟨go30, (((rd_T36 l0_1 x17_1).f1)).toNat, none⟩ = some (.slice A322_0 (rd_L5 y321 ((rd_T36 l0_1 x17_1).f1)).length c322_0)) (ds := [13]) #[false, false, false, false, false, false, false, false, false, false, false, false, false, false] (by kernel_rfl) rfl rfl ⟨(zKc BK316.out 0).trans rfl, (zKc BK316.out 1).trans rfl, (zKc BK316.out 2).trans rfl, hx322_0⟩ (fun hHeld => ?_); refine with_tabW graph_Near.tab8 graph_Near.bits8 (fun HT_ HW_ => ?_)
      generalize w35.drew = w36 at HO_3 BK310 BK316 HB HH37 HL322_0 HQ32 HR322_0 HX322_0 UU37 hx322_0 hHeld ⊢
      refine pure_ (i := 0) (N := some 34) (v := ?_) (a' := ?_) #[true, false, false, false, false, false, false, false, false, false, false, false, false, false] rfl rfl (any_of HT_.out (by kernel_rfl)) (fun _ _ _ h => h) (Or.inl ⟨by rfl, ?_⟩) ?_ ?_
      rotate_left
      · intro w'
        go_simp
        with_reducible rfl
      rotate_left
      · simp only [Act.put, zSa, zSb, zSc, i64_w, i32_w]
        rfl
      refine pure_ (i := 1) (N := some 35) (v := ?_) (a' := ?_) #[true, true, false, false, false, false, false, false, false, false, false, false, false, false] rfl rfl (any_of HT_.out (by kernel_rfl)) (fun _ _ _ h => h) (Or.inl ⟨by rfl, ?_⟩) ?_ ?_
      rotate_left
      · intro w'
        go_simp
        with_reducible rfl
      rotate_left
      · simp only [Act.put, zSa, zSb, zSc, i64_w, i32_w]
        rfl
      refine pure_ (i := 3) (N := some 37) (v := ?_) (a' := ?_) #[true, true, false, true, false, false, false, false, false, false, false, false, false, false] rfl rfl (any_of HT_.out (by kernel_rfl)) (fun _ _ _ h => h) (Or.inl ⟨by rfl, ?_⟩) ?_ ?_
      rotate_left
      · intro w'
        go_simp
        with_reducible rfl
      rotate_left
      · simp only [Act.put, zSa, zSb, zSc, i64_w, i32_w]
        rfl
      refine pure_ (i := 4) (N := some 38) (v := ?_) (a' := ?_) #[true, true, false, true, true, false, false, false, false, false, false, false, false, false] rfl rfl (any_of HT_.out (by kernel_rfl)) (fun _ _ _ h => h) (Or.inl ⟨by rfl, ?_⟩) ?_ ?_
      rotate_left
      · intro w'
        go_simp
        with_reducible rfl
      rotate_left
      · simp only [Act.put, zSa, zSb, zSc, i64_w, i32_w]
        rfl
      refine pure_ (i := 8) (N := some 42) (v := ?_) (a' := ?_) #[true, true, false, true, true, false, false, false, true, false, false, false, false, false] rfl rfl (any_of HT_.out (by kernel_rfl)) (fun _ _ _ h => h) (Or.inl ⟨by rfl, ?_⟩) ?_ ?_
      rotate_left
      · intro w'
        go_simp
        with_reducible rfl
      rotate_left
      · simp only [Act.put, zSa, zSb, zSc, i64_w, i32_w]
        rfl
      refine take_ (i := 2) (N := some 36) (v := ?_) (a' := ?_) #[true, true, true, true, true, false, false, false, true, false, false, false, false, false] rfl rfl (take_ofW HT_.out HW_.out (by kernel_rfl)) (fun _ _ _ h => h) (Or.inl ⟨by rfl, ?_⟩) hHeld ?_ ?_
      rotate_left
      · rintro w' ⟨s0, s1, s2, s3⟩
        go_simp
        with_reducible rfl
      rotate_left
      · simp only [Act.put, zSa, zSb, zSc, i64_w, i32_w]
        rfl
      refine take_ (i := 5) (N := some 39) (v := ?_) (a' := ?_) #[true, true, true, true, true, true, false, false, true, false, false, false, false, false] rfl rfl (take_ofW HT_.out HW_.out (by kernel_rfl)) (fun _ _ _ h => h) (Or.inl ⟨by rfl, ?_⟩) hHeld ?_ ?_
      rotate_left
      · rintro w' ⟨s0, s1, s2, s3⟩
        go_simp
        with_reducible rfl
      rotate_left
      · simp only [Act.put, zSa, zSb, zSc, i64_w, i32_w]
        rfl
      refine pure_ (i := 6) (N := some 40) (v := ?_) (a' := ?_) #[true, true, true, true, true, true, true, false, true, false, false, false, false, false] rfl rfl (any_of HT_.out (by kernel_rfl)) (fun _ _ _ h => h) (Or.inl ⟨by rfl, ?_⟩) ?_ ?_
      rotate_left
      · intro w'
        go_simp
        with_reducible rfl
      rotate_left
      · simp only [Act.put, zSa, zSb, zSc, i64_w, i32_w]
        rfl
      refine take_ (i := 7) (N := some 41) (v := ?_) (a' := ?_) #[true, true, true, true, true, true, true, true, true, false, false, false, false, false] rfl rfl (take_ofW HT_.out HW_.out (by kernel_rfl)) (fun _ _ _ h => h) (Or.inl ⟨by rfl, ?_⟩) hHeld ?_ ?_
      rotate_left
      · rintro w' ⟨s0, s1, s2, s3⟩
        go_simp
        with_reducible rfl
      rotate_left
      · simp only [Act.put, zSa, zSb, zSc, i64_w, i32_w]
        rfl
      refine take_ (i := 9) (N := some 43) (v := ?_) (a' := ?_) #[true, true, true, true, true, true, true, true, true, true, false, false, false, false] rfl rfl (take_ofW HT_.out HW_.out (by kernel_rfl)) (fun _ _ _ h => h) (Or.inl ⟨by rfl, ?_⟩) hHeld ?_ ?_
      rotate_left
      · rintro w' ⟨s0, s1, s2, s3⟩
        go_simp
        with_reducible rfl
      rotate_left
      · simp only [Act.put, zSa, zSb, zSc, i64_w, i32_w]
        rfl
      refine one_ (i := 10) (N := some 44) #[true, true, true, true, true, true, true, true, true, true, true, false, false, false] rfl rfl (one_of HT_.out (by kernel_rfl)) (by decide) (fun K hK => ?_)
      refine value_ (w1 := ?_) (v := ?_) (by rfl) rfl ?_ ?_
      rotate_left 2
      · go_simp
        constructor
        · rfl
        · rfl
      refine hK.out _ _ ⟨(zKc (zKa BK316.out _) 0).trans rfl, (zKc (zKa BK316.out _) 1).trans rfl, (zKc (zKa BK316.out _) 2).trans rfl, (World.cell?_alloc_lt _ _ _ (World.block_lt_of_cell? _ _ (hHeld.2.2.2))).trans (hHeld.2.2.2)⟩ (fun hHeld => ?_)
      clear hK K
      refine norm_ (a' := ?_) ?_ ?_
      rotate_left
      · show Act.put _ (some 44) _ = _
        simp only [Act.put, zSa, zSb, zSc, i64_w, i32_w]
        rfl
      refine one_ (i := 11) (N := some 45) #[true, true, true, true, true, true, true, true, true, true, true, true, false, false] rfl rfl (one_of HT_.out (by kernel_rfl)) (by decide) (fun K hK => ?_)
      refine Kd.R_append_step (Kd.int .i64) (w0 := w) w.heap.size (by rfl) (.tmp 41) (.tmp 44) 33 3 (.int .i64 0) 8 rfl Try.underlying33 info3 rfl (by decide) (by omega) (.slice A322_0 (rd_L5 y321 ((rd_T36 l0_1 x17_1).f1)).length c322_0) (rd_L5 y321 ((rd_T36 l0_1 x17_1).f1)) ((rd_T36 l0_1 x17_1).f0) [.int .i64 ((rd_T36 l0_1 x17_1).f0)] (fun k_ => oki37 k_ ∨ ((fun _ => True)) k_ ∧ w36.heap.size ≤ k_) (fun _ => False) rfl rfl ?aP (fun _ hk => hk.elim) ?aF ?aO ?aB ?aS ?aL ?_
      (case aP => exact rfl)
      (case aB => exact (by exact uT HB.out))
      (case aF => exact (fun k_ hk => .inr ⟨trivial, hk⟩))
      (case aO => exact (by (with_reducible repeat (first | apply zRa | apply zRn | apply zRd)); exact zRm UU37.out (fun _ hk => .inl hk)))
      (case aS => exact (zBs (by exact uT HB.out)))
      (case aL => have := LMc22.out; omega)
      intro v324 w38 ho hb hg hat
      (first | have HS3_ := Go.Proofs.YteicpdkembmilaaW.PrintWords.cell_grown hg (hHeld.2.2.2) (by first | (rw [add_block]; exact (fun e_ => ((HL322_0.out.1 _ e_.symm).2) rfl)) | (show some (Addr.add _ _).block ≠ _; rw [add_block]; exact (fun e_ => ((HL322_0.out.1 _ e_.symm).2) rfl)) | exact (fun e_ => ((HL322_0.out.1 _ e_.symm).2) rfl)) | have HS3_ := Go.Proofs.YteicpdkembmilaaW.PrintWords.cell_grown hg (cell_unalloc (hHeld.2.2.2) (by first | (rw [add_block]; exact Kd.S_lt HO_3.out _ rfl) | (show (Addr.add _ _).block < _; rw [add_block]; exact Kd.S_lt HO_3.out _ rfl) | exact Kd.S_lt HO_3.out _ rfl)) (by first | (rw [add_block]; exact (fun e_ => ((HL322_0.out.1 _ e_.symm).2) rfl)) | (show some (Addr.add _ _).block ≠ _; rw [add_block]; exact (fun e_ => ((HL322_0.out.1 _ e_.symm).2) rfl)) | exact (fun e_ => ((HL322_0.out.1 _ e_.symm).2) rfl)))
      rw [← Ny323.out] at ho
      replace BK310 := zMk (blk_grown (g := gb310) (o := .cells #[.int .i64 a0_0, .slice (some ad315) l0_1.length c0_1] 24 (0, 0)) (by (with_reducible repeat (first | refine zKn ?_ _ | refine zKd ?_ | refine zKa ?_ _)); exact BK310.out) hg (Kd.R_ne HL322_0.out BK310.out (by decide)))
      replace BK316 := zMk (blk_grown (g := gb316) (o := .cells #[.int .i64 ((rd_T36 l0_1 x17_1).f0), .int .i64 ((rd_T36 l0_1 x17_1).f1), .int .i64 ((rd_T36 l0_1 x17_1).f2)] 36 (0, 0)) (by (with_reducible repeat (first | refine zKn ?_ _ | refine zKd ?_ | refine zKa ?_ _)); exact BK316.out) hg (Kd.R_ne HL322_0.out BK316.out (by decide)))
      replace HB := zMk (hb)
      replace HH37 := zMk (Kd.H_grown (Kd.H_widen (by repeat (first | exact HH37.out | refine Kd.H_alloc ?_ _ | refine Kd.H_drewN ?_ _ | refine Kd.H_drew ?_))) hg (fun k_ e_ => .inl (UU37.out.1 k_ e_)))
      have HO325 := zMk (ho)
      clear HO_3 UU37 HL322_0 ho hb hg hat
      have p23 : 0 ≤ (((rd_T36 l0_1 x17_1).f1) : Int) := of_decide_eq_true (by first | (with_reducible assumption) | assumption)
      have q23 : (((rd_T36 l0_1 x17_1).f1) : Int) < ((x3_1.length : Int) : Int) := of_decide_eq_true (by first | (with_reducible assumption) | assumption)
      replace p23 := eq_true p23
      replace q23 := eq_true q23
      obtain ⟨Ao41, co41, eo41⟩ := zRs HO325.out
      (first |  subst eo41|  (injection eo41 with f1_ f2_ f3_; have f4_ := f1_.symm; have f5_ := f3_.symm; clear f1_ f2_ f3_; subst f4_; subst f5_))
      obtain ⟨_, _, hraw39, _, _, hcc39, _⟩ := Kd.H_raw HH37.out (of_decide_eq_true (by first | (with_reducible assumption) | assumption)) (by have h_ : (((rd_T36 l0_1 x17_1).f1) : Int) < ((x3_1.length : Int) : Int) := of_decide_eq_true (by first | (with_reducible assumption) | assumption); first | exact h_ | (have e_ := (HN37.out); omega) | simpa using h_)
      obtain ⟨_, hfr39⟩ := Kd.H_at HH37.out (of_decide_eq_true (by first | (with_reducible assumption) | assumption)) (by have h_ : (((rd_T36 l0_1 x17_1).f1) : Int) < ((x3_1.length : Int) : Int) := of_decide_eq_true (by first | (with_reducible assumption) | assumption); first | exact h_ | (have e_ := (HN37.out); omega) | simpa using h_)
      have hx39_0 := hcc39 0 _ rfl
      have hf39_0 := hfr39 0
      (try simp only [Nat.add_zero] at hx39_0 hf39_0)
      (try rw [show ((Kd.slice 3 (Kd.int .i64))).sz = 1 from rfl, Nat.mul_one] at hx39_0)
      (try rw [show ((Kd.slice 3 (Kd.int .i64))).sz = 1 from rfl, Nat.mul_one] at hf39_0)
      have HP39 := Kd.S_seg0 HH37.out (of_decide_eq_true (by first | (with_reducible assumption) | assumption)) (by have h_ : (((rd_T36 l0_1 x17_1).f1) : Int) < ((x3_1.length : Int) : Int) := of_decide_eq_true (by first | (with_reducible assumption) | assumption); first | exact h_ | (have e_ := (HN37.out); omega) | simpa using h_) (seg := [.slice Ao41 y323.length co41]) (j := 0) (show 1 ≤ 1 from by decide) (x' := y323) (Kd.M_row HO325.out) (fun _ hk => hk)
      (try simp only [show ((Kd.slice 3 (Kd.int .i64))).sz = 1 from rfl, Nat.mul_one, Nat.add_zero] at HP39)
      clear hcc39 hfr39
      have HNB310_go30 := zMk (show gb310 ≠ go30 from by have h_ := Kd.R_ne hraw39 BK310.out (by decide); intro e_; exact h_ (by rw [e_]; rfl))
      have HNB316_go30 := zMk (show gb316 ≠ go30 from by have h_ := Kd.R_ne hraw39 BK316.out (by decide); intro e_; exact h_ (by rw [e_]; rfl))
      have HS39 := HP39.1
      rw [← Ny326.out] at HS39
      have HQ39 := zMk HS39
      obtain ⟨_, hgg39⟩ := Kd.R_typed hraw39 go30 rfl
      have GG39_ := zMk hgg39
      clear HP39 HS39 hgg39
      refine hK.out _ _ ⟨(zKc BK316.out 0).trans rfl, (zKc BK316.out 1).trans rfl, (zKc BK316.out 2).trans rfl, HS3_⟩ (fun hHeld => ?_)
      clear hK K
      refine norm_ (a' := ?_) ?_ ?_
      rotate_left
      · show Act.put _ (some 45) _ = _
        simp only [Act.put, zSa, zSb, zSc, i64_w, i32_w]
        rfl
      refine pure_ (i := 12) (N := some 46) (v := ?_) (a' := ?_) #[true, true, true, true, true, true, true, true, true, true, true, true, true, false] rfl rfl (any_of HT_.out (by kernel_rfl)) (fun _ _ _ h => h) (Or.inl ⟨by rfl, ?_⟩) ?_ ?_
      rotate_left
      · intro w'
        go_simp
        with_reducible rfl
      rotate_left
      · simp only [Act.put, zSa, zSb, zSc, i64_w, i32_w]
        rfl
      refine last_ (i := 13) (N := none) #[true, true, true, true, true, true, true, true, true, true, true, true, true, true] rfl rfl (one_of HT_.out (by kernel_rfl)) (by decide) (fun K hK => ?_)
      refine skip_ (w1 := ?_) (by rfl) rfl ?_ ?_
      rotate_left
      · go_simp
        rfl
      refine hK.out _ _ ?_
      clear hK K
      refine done_ (done_of HT_.out (by kernel_rfl)) ?_
      try go_wp2
      go_roundg k1
      case measure => have := HK1.out; omega
      case rel => exact ⟨(y326), (wrap64 (x17_1 + 1)), (by first | rfl | (simp; done) | (simp [*]; done)), H', ⟨by have := HK1.out; omega⟩, ⟨by (with_reducible repeat (first | apply Kd.S_alloc | apply Kd.S_drewN | apply Kd.S_drew)); exact HQ39.out⟩, ⟨by (with_reducible repeat (first | refine zKn ?_ _ | refine zKd ?_ | refine zKa ?_ _)); refine blk_far ?_ HNB310_go30.out _; (with_reducible repeat (first | refine zKn ?_ _ | refine zKd ?_ | refine zKa ?_ _)); exact BK310.out⟩, ⟨by exact uT HB.out⟩⟩
    · rw [if_neg c13] at H
      have c13b0 : decide (x17_1 < (l0_1.length : Int)) = false := decide_eq_false c13
      clear c13
      have H' := zMk H
      clear H
      obtain ⟨Ao42, co42, eo42⟩ := Kd.S_slice HO_3.out
      subst eo42
      go_wp2
      go_loopg [50] k1 (fun kq v50 w' => ∃ (X : List (List Int)) (x50_2 : Int), v50 = .int .i64 x50_2 ∧ Aside0 (X.length = x3_1.length) ∧ Aside0 (graph_Near.l1 kq X x50_2 = some r) ∧ Aside0 (kq ≤ k1) ∧ Aside0 (Kd.S (Kd.slice 3 (Kd.int .i64)) 33 w' w.heap.size (fun _ => True) (.slice Ao42 x3_1.length co42) X) ∧ Aside0 (Below w.heap.size w w'))
      case atStart => exact ⟨x3_1, 0, (by first | rfl | (simp; done) | (simp [*]; done)), ⟨rfl⟩, H', ⟨Nat.le_refl _⟩, ⟨by (with_reducible repeat (first | apply Kd.S_alloc | apply Kd.S_drewN | apply Kd.S_drew)); exact HO_3.out⟩, ⟨by exact uT HB.out⟩⟩
      clear H' HB HO_3
      obtain ⟨X, x50_2, rfl, HXL, HA, HK2, HO, HB⟩ := hrel
      rcases gk with _ | k2
      · exact absurd HA.out (by simp [graph_Near.l1])
      have H := HA.out
      clear HA
      simp only [graph_Near.l1] at H
      by_cases c43 : x50_2 < (X.length : Int)
      · rw [if_pos c43] at H
        by_cases c44 : 0 ≤ x50_2
        rotate_left
        · rw [if_neg c44] at H; exact absurd H (by simp)
        rw [if_pos c44] at H
        by_cases c45 : (rd_L5 X x50_2).length < 4611686018427387904
        rotate_left
        · rw [if_neg c45] at H; exact absurd H (by simp)
        rw [if_pos c45] at H
        have H' := zMk H
        clear H
        have c43a : x50_2 < (x3_1.length : Int) := by have := HXL.out; omega
        obtain ⟨g_, cap_, hv_, _, _, _⟩ := Kd.S_form HO.out (by have := HXL.out; omega)
        obtain ⟨ad, rfl⟩ : ∃ ad, Ao42 = some ad := by injection hv_ with e1_ _ _; exact ⟨_, e1_⟩
        obtain ⟨oki, c, hcl, hM, hcc, hoki, hset⟩ := Kd.S_borrow HO.out [] x50_2 c44 c43a
        obtain ⟨ve, rfl, ge⟩ := hM
        have hx := hcc 0 _ rfl
        rw [Nat.add_zero, show ((Kd.slice 3 (Kd.int .i64))).sz = 1 from rfl, Nat.mul_one] at hx
        have HS := slices_Sort_int_int.row oki ve _ w.heap.size _ ge c45
        have HSET := zMk @hset
        have GE := zMk ge
        clear hset ge hcc hoki hcl hv_ c45
        have p327 := eq_true c44
        have q327 := eq_true c43a
        have c43b0 : decide (x50_2 < (x3_1.length : Int)) = true := decide_eq_true c43a
        clear c43
        go_wp2_with (go_at_call 46; refine HS.mono ?_; rintro e w47 ⟨rfl, row, hg, hrow, hR⟩; have n1_ := zMk (HSET.out hg (fun k hk => (hrow k hk).1) ⟨ve, rfl, hR⟩); have n2_ := zMk (HB.out.grown hg HB.out.size (fun k hk => (hrow k hk).2)); clear HB HO; have HO := n1_; have HB := n2_; clear n1_ n2_ hg hrow hR)
        go_roundg k2
        case measure => have := HK1.out; have := HK2.out; omega
        case rel => exact ⟨_, (wrap64 (x50_2 + 1)), (by first | rfl | (simp; done) | (simp [*]; done)), ⟨by rw [List.length_set]; exact HXL.out⟩, H', ⟨by have := HK1.out; have := HK2.out; omega⟩, HO, HB⟩
      · rw [if_neg c43] at H
        have c43a : ¬ x50_2 < (x3_1.length : Int) := by have := HXL.out; omega
        have c43b0 : decide (x50_2 < (x3_1.length : Int)) = false := decide_eq_false c43a
        have HX := HXL.out
        obtain rfl := zOi H
        clear HXL c43 H
        have HXL := zMk HX
        clear HX
        go_wp2
        go_ret
        exact ⟨_, rfl, HO.out, HB.out⟩
  · rw [if_neg c3] at H
    have c3b0 : (t311 == 0) = false := beq_eq_false_iff_ne.mpr c3
    have c3b1 : (t311 != 0) = true := bne_iff_ne.mpr c3
    obtain rfl := zOi H
    go_enter Try.func26, Try.ntmps26
    go_wp2_with (first |  ((with_reducible refine gate_dst (N := 1) rfl ?_); refine box_event ?hg (N := 1) ?hd (cs := #[.int .i64 a0_0, .slice A0_1 l0_1.length c0_1]) (t := 24) ?hr ?_; (case hd => rfl); (case hg => rfl); (case hr => first |  (go_simp; done)|  (go_simp; rfl)|  (go_simp; rw [show ∀ x : Int, IntKind.u32.wrap (IntKind.u8.wrap x) = x % 256 from fun x => (by show (x % 256) % 4294967296 = x % 256; omega)])); intro gb310 hg w48 hbox hb; have BK310 := zMk (hbox); have GW310 := zMk ((by rw [hg]; exact (zBs (by exact uT HB.out)) : w.heap.size ≤ gb310)); have GE310 := zMk ((by rw [hg]; exact (zBs (by exact uT HB.out)) : w.heap.size ≤ gb310)); have IGE310 := ownGe GE310.out; replace HB := zMk (zBt (by exact uT HB.out) hb); clear hb hbox hg; have hcz49_0 : w48.cell? ⟨gb310, 0, none⟩ = some (.int .i64 a0_0) := (zKc BK310.out 0).trans rfl; have hcz49_1 : w48.cell? ⟨gb310, 1, none⟩ = some (.slice A0_1 l0_1.length c0_1) := (zKc BK310.out 1).trans rfl; have hfz49_0 := zKf BK310.out 0; have hfz49_1 := zKf BK310.out 1)|  ((with_reducible refine gate_callee (f := 11) rfl ?_); refine goesL_ (some 9) rfl rfl Try.func11 (by kernel_rfl) rfl #[.agg #[.int .i64 a0_0, .slice A0_1 l0_1.length c0_1]] rfl (by (try simp only [zMa, zMc, zMn]); first |  done|  rfl|  (simp only [zLd, zLt]; rfl)) ?_; (with_reducible refine (graph_Right.calls k a0_0 _ _ l0_1 t311 _ ?side1 ?side2 A2.out).mono ?_); (case side1 => repeat (first |  exact (Kd.C_below HR0_1.out HB.out)|  (with_reducible refine zCa ?_ _)|  (with_reducible refine zCn ?_ _)|  (with_reducible refine zCd ?_))); (case side2 => exact HC0_1.out); rintro e w50 ⟨rfl, hb⟩; refine ⟨_, rfl, ?_⟩; replace BK310 := zMk (zKb (g := gb310) (o := .cells #[.int .i64 a0_0, .slice A0_1 l0_1.length c0_1] 24 (0, 0)) (by (with_reducible repeat (first |  refine zKn ?_ _|  refine zKd ?_|  refine zKa ?_ _)); exact BK310.out) hb); replace HB := zMk (zBt (by exact uT HB.out) hb); (try clear hb); (try clear hb2); (try clear hk); (try clear hi)))
    go_ret
    exact ⟨_, by first | rfl | (simp [errW_none, errW_some] <;> rfl) | (simp [*, errW_none, errW_some] <;> rfl), by first | exact Kd.S_nil _ _ _ _ _ | exact Kd.N_nil _ _ _ _ _ | exact Kd.V_nil _ _ _ _ _ | exact Kd.Q_nil _ _ _ _ _ | exact Kd.R_nil _ _ _ _ _, by exact uT HB.out⟩


/-! ### graph_Degrees: function 27 -/
def graph_Degrees.l0 : Nat → List Int → List (S36) → Int → Int → Option (List Int)
  | 0, _, _, _, _ => none
  | k + 1, x3, x13, x14, x15 => if x15 < x14 then (if 0 ≤ x15 then (if x15 < (x13.length : Int) then (if 0 ≤ ((rd_T36 x13 x15).f0) then (if ((rd_T36 x13 x15).f0) < (x3.length : Int) then ((some (x3.set (((rd_T36 x13 x15).f0) : Int).toNat (wrap64 ((rd x3 ((rd_T36 x13 x15).f0)) + 1)) : List Int)).bind fun y336 => (if 0 ≤ ((rd_T36 x13 x15).f1) then (if ((rd_T36 x13 x15).f1) < (x3.length : Int) then (graph_Degrees.l0 k (y336.set (((rd_T36 x13 x15).f1) : Int).toNat (wrap64 ((rd y336 ((rd_T36 x13 x15).f1)) + 1))) x13 x14 (wrap64 (x15 + 1))) else (none)) else (none))) else (none)) else (none)) else (none)) else (none)) else (some x3)
def graph_Degrees.f (k : Nat) (a0_0 : Int) (l0_1 : List (S36)) : Option (List Int) := (graph_Right.f k a0_0 l0_1).bind fun t329 => (if t329 = 0 then (if 0 ≤ a0_0 then (if (a0_0 : Int).toNat ≤ 35184372088832 then (graph_Degrees.l0 k (List.replicate (a0_0 : Int).toNat 0) l0_1 (l0_1.length : Int) 0) else (none)) else (none)) else (some ([] : List Int)))
set_option maxHeartbeats 8000000 in
set_option maxRecDepth 100000 in
theorem graph_Degrees.calls (k : Nat) (a0_0 : Int) (A0_1 : Option Addr) (c0_1 : Nat) (l0_1 : List (S36)) (r : List Int) (w : World) (hr0_1 : Kd.C k36 w A0_1 l0_1.length l0_1) (hc0_1 : l0_1.length ≤ c0_1) (h : graph_Degrees.f k a0_0 l0_1 = some r) :
    Calls Try.prog 27 #[.agg #[.int .i64 a0_0, .slice A0_1 l0_1.length c0_1]] w fun e w' => ∃ v0_ : Value, e = .returned (v0_) ∧ Kd.R (Kd.int .i64) 3 w' w.heap.size (fun _ => True) v0_ r ∧ Below w.heap.size w w' := by
  have hu24 := Try.underlying24
  have hu36 := Try.underlying36
  have HR0_1 := zMk hr0_1
  have HC0_1 := zMk hc0_1
  clear hr0_1 hc0_1
  have HB := zMk (Below.refl w.heap.size w)
  have H : ((graph_Right.f k a0_0 l0_1).bind fun t329 => (if t329 = 0 then (if 0 ≤ a0_0 then (if (a0_0 : Int).toNat ≤ 35184372088832 then (graph_Degrees.l0 k (List.replicate (a0_0 : Int).toNat 0) l0_1 (l0_1.length : Int) 0) else (none)) else (none)) else (some ([] : List Int)))) = some r := h
  clear h
  replace H := bnd H
  obtain ⟨t329, A20, H⟩ := H
  have A2 := zMk A20
  clear A20
  by_cases c3 : t329 = 0
  · rw [if_pos c3] at H
    have c3b0 : (t329 == 0) = true := beq_iff_eq.mpr c3
    have c3b1 : (t329 != 0) = false := bne_eq_false_iff_eq.mpr c3
    clear c3
    by_cases c4 : 0 ≤ a0_0
    rotate_left
    · rw [if_neg c4] at H; exact absurd H (by simp)
    rw [if_pos c4] at H
    have c4b0 := eq_true c4
    have c4b1 : decide (0 ≤ a0_0) = true := decide_eq_true c4
    clear c4
    by_cases c5 : (a0_0 : Int).toNat ≤ 35184372088832
    rotate_left
    · rw [if_neg c5] at H; exact absurd H (by simp)
    rw [if_pos c5] at H
    have c5b0 := eq_true c5
    have c5b1 : decide ((a0_0 : Int).toNat ≤ 35184372088832) = true := decide_eq_true c5
    clear c5
    obtain ⟨y330, hy330⟩ : ∃ y_ : List Int, y_ = (List.replicate (a0_0 : Int).toNat 0) := ⟨_, rfl⟩
    replace H : (graph_Degrees.l0 k y330 l0_1 (l0_1.length : Int) 0) = some r := by first | (rw [hy330]; with_reducible exact H) | (have H2_ := bsm H; first | (rw [hy330]; with_reducible exact H2_) | with_reducible exact H2_) | with_reducible exact H | (rw [hy330]; exact H) | exact H
    have Ny330 := zMk hy330
    clear hy330
    have H' := zMk H
    clear H
    go_enter Try.func27, Try.ntmps27
    go_wp2_with (first |  ((with_reducible refine gate_dst (N := 1) rfl ?_); refine box_event ?hg (N := 1) ?hd (cs := #[.int .i64 a0_0, .slice A0_1 l0_1.length c0_1]) (t := 24) ?hr ?_; (case hd => rfl); (case hg => rfl); (case hr => first |  (go_simp; done)|  (go_simp; rfl)|  (go_simp; rw [show ∀ x : Int, IntKind.u32.wrap (IntKind.u8.wrap x) = x % 256 from fun x => (by show (x % 256) % 4294967296 = x % 256; omega)])); intro gb328 hg w6 hbox hb; have BK328 := zMk (hbox); have GW328 := zMk ((by rw [hg]; exact (zBs (by exact uT HB.out)) : w.heap.size ≤ gb328)); have GE328 := zMk ((by rw [hg]; exact (zBs (by exact uT HB.out)) : w.heap.size ≤ gb328)); have IGE328 := ownGe GE328.out; replace HB := zMk (zBt (by exact uT HB.out) hb); clear hb hbox hg; have hcz7_0 : w6.cell? ⟨gb328, 0, none⟩ = some (.int .i64 a0_0) := (zKc BK328.out 0).trans rfl; have hcz7_1 : w6.cell? ⟨gb328, 1, none⟩ = some (.slice A0_1 l0_1.length c0_1) := (zKc BK328.out 1).trans rfl; have hfz7_0 := zKf BK328.out 0; have hfz7_1 := zKf BK328.out 1)|  ((with_reducible refine gate_callee (f := 11) rfl ?_); refine goesL_ (some 7) rfl rfl Try.func11 (by kernel_rfl) rfl #[.agg #[.int .i64 a0_0, .slice A0_1 l0_1.length c0_1]] rfl (by (try simp only [zMa, zMc, zMn]); first |  done|  rfl|  (simp only [zLd, zLt]; rfl)) ?_; (with_reducible refine (graph_Right.calls k a0_0 _ _ l0_1 t329 _ ?side1 ?side2 A2.out).mono ?_); (case side1 => repeat (first |  exact (Kd.C_below HR0_1.out HB.out)|  (with_reducible refine zCa ?_ _)|  (with_reducible refine zCn ?_ _)|  (with_reducible refine zCd ?_))); (case side2 => exact HC0_1.out); rintro e w8 ⟨rfl, hb⟩; refine ⟨_, rfl, ?_⟩; replace BK328 := zMk (zKb (g := gb328) (o := .cells #[.int .i64 a0_0, .slice A0_1 l0_1.length c0_1] 24 (0, 0)) (by (with_reducible repeat (first |  refine zKn ?_ _|  refine zKd ?_|  refine zKa ?_ _)); exact BK328.out) hb); replace HB := zMk (zBt (by exact uT HB.out) hb); (try clear hb); (try clear hb2); (try clear hk); (try clear hi); have hcz9_0 : w8.cell? ⟨gb328, 0, none⟩ = some (.int .i64 a0_0) := (zKc BK328.out 0).trans rfl; have hcz9_1 : w8.cell? ⟨gb328, 1, none⟩ = some (.slice A0_1 l0_1.length c0_1) := (zKc BK328.out 1).trans rfl; have hfz9_0 := zKf BK328.out 0; have hfz9_1 := zKf BK328.out 1)|  ((with_reducible refine gate_dst (N := 11) rfl ?_); refine Kd.R_make (Kd.int .i64) _ 3 rfl (N := 11) rfl 33 _ _ rfl a0_0 rfl rfl Try.underlying33 (.int .i64 0) 8 info3 rfl (by decide) (by omega) 0 (ok := fun _ => True) (okp := fun _ => True) rfl (fun _ hk => hk) trivial (of_decide_eq_true (by first |  (with_reducible assumption)|  assumption)) (Nat.le_trans (Nat.mul_le_mul_right _ (of_decide_eq_true (by first |  (with_reducible assumption)|  assumption) : a0_0.toNat ≤ 35184372088832)) (by omega)) (Below.refl _ _) (Nat.le_refl _) ?_; intro v331 w10 ho11 hb hg_ hnew_; clear hg_ hnew_; (first |  rw [← Ny330.out] at ho11|  (simp only [Int.reduceToNat] at ho11; rw [← Ny330.out] at ho11)); have HO332 := zMk (zRl ho11 (zBs (by exact uT HB.out))); replace BK328 := zMk (zKb (g := gb328) (o := .cells #[.int .i64 a0_0, .slice A0_1 l0_1.length c0_1] 24 (0, 0)) (by (with_reducible repeat (first |  refine zKn ?_ _|  refine zKd ?_|  refine zKa ?_ _)); exact BK328.out) hb); replace HB := zMk (zBt (by exact uT HB.out) hb); clear hb ho11; have hcz12_0 : w10.cell? ⟨gb328, 0, none⟩ = some (.int .i64 a0_0) := (zKc BK328.out 0).trans rfl; have hcz12_1 : w10.cell? ⟨gb328, 1, none⟩ = some (.slice A0_1 l0_1.length c0_1) := (zKc BK328.out 1).trans rfl; have hfz12_0 := zKf BK328.out 0; have hfz12_1 := zKf BK328.out 1))
    go_loopg [15] k (fun kq v15 w' => ∃ (x3_1 : List Int) (x15_1 : Int), v15 = .int .i64 x15_1 ∧ Aside0 (graph_Degrees.l0 kq x3_1 l0_1 (l0_1.length : Int) x15_1 = some r) ∧ Aside0 (kq ≤ k) ∧ Aside0 (Kd.R (Kd.int .i64) 3 w' w.heap.size (fun _ => True) v331 x3_1) ∧ Aside0 (w'.heap[gb328]? = some (.cells #[.int .i64 a0_0, (.slice A0_1 l0_1.length c0_1)] 24 (0, 0))) ∧ Aside0 (Below w.heap.size w w'))
    case atStart => exact ⟨(y330), (0), (by first | rfl | (simp; done) | (simp [*]; done)), H', ⟨Nat.le_refl _⟩, ⟨by exact uR HO332.out⟩, ⟨by (with_reducible repeat (first | refine zKn ?_ _ | refine zKd ?_ | refine zKa ?_ _)); exact BK328.out⟩, ⟨by exact uT HB.out⟩⟩
    clear H'
    obtain ⟨x3_1, x15_1, rfl, HA, HK1, HO_3, BK328, HB⟩ := hrel
    rcases gk with _ | k1
    · exact absurd HA.out (by simp [graph_Degrees.l0])
    have H := HA.out
    clear HA
    simp only [graph_Degrees.l0] at H
    by_cases c13 : x15_1 < (l0_1.length : Int)
    · rw [if_pos c13] at H
      have c13b0 : decide (x15_1 < (l0_1.length : Int)) = true := decide_eq_true c13
      clear c13
      by_cases c14 : 0 ≤ x15_1
      rotate_left
      · rw [if_neg c14] at H; exact absurd H (by simp)
      rw [if_pos c14] at H
      have c14b0 : decide (0 ≤ x15_1) = true := decide_eq_true c14
      clear c14
      by_cases c15 : x15_1 < (l0_1.length : Int)
      rotate_left
      · rw [if_neg c15] at H; exact absurd H (by simp)
      rw [if_pos c15] at H
      have c15b0 : decide (x15_1 < (l0_1.length : Int)) = true := decide_eq_true c15
      clear c15
      by_cases c16 : 0 ≤ ((rd_T36 l0_1 x15_1).f0)
      rotate_left
      · rw [if_neg c16] at H; exact absurd H (by simp)
      rw [if_pos c16] at H
      have c16b0 : decide (0 ≤ ((rd_T36 l0_1 x15_1).f0)) = true := decide_eq_true c16
      clear c16
      by_cases c17 : ((rd_T36 l0_1 x15_1).f0) < (x3_1.length : Int)
      rotate_left
      · rw [if_neg c17] at H; exact absurd H (by simp)
      rw [if_pos c17] at H
      have c17b0 : decide (((rd_T36 l0_1 x15_1).f0) < (x3_1.length : Int)) = true := decide_eq_true c17
      clear c17
      obtain ⟨y336, hy336⟩ : ∃ y_ : List Int, y_ = (x3_1.set (((rd_T36 l0_1 x15_1).f0) : Int).toNat (wrap64 ((rd x3_1 ((rd_T36 l0_1 x15_1).f0)) + 1))) := ⟨_, rfl⟩
      replace H : (if 0 ≤ ((rd_T36 l0_1 x15_1).f1) then (if ((rd_T36 l0_1 x15_1).f1) < (x3_1.length : Int) then (graph_Degrees.l0 k1 (y336.set (((rd_T36 l0_1 x15_1).f1) : Int).toNat (wrap64 ((rd y336 ((rd_T36 l0_1 x15_1).f1)) + 1))) l0_1 (l0_1.length : Int) (wrap64 (x15_1 + 1))) else (none)) else (none)) = some r := by first | (rw [hy336]; with_reducible exact H) | (have H2_ := bsm H; first | (rw [hy336]; with_reducible exact H2_) | with_reducible exact H2_) | with_reducible exact H | (rw [hy336]; exact H) | exact H
      have Ny336 := zMk hy336
      clear hy336
      by_cases c19 : 0 ≤ ((rd_T36 l0_1 x15_1).f1)
      rotate_left
      · rw [if_neg c19] at H; exact absurd H (by simp)
      rw [if_pos c19] at H
      have c19b0 : decide (0 ≤ ((rd_T36 l0_1 x15_1).f1)) = true := decide_eq_true c19
      clear c19
      by_cases c20 : ((rd_T36 l0_1 x15_1).f1) < (x3_1.length : Int)
      rotate_left
      · rw [if_neg c20] at H; exact absurd H (by simp)
      rw [if_pos c20] at H
      have c20b0 : decide (((rd_T36 l0_1 x15_1).f1) < (x3_1.length : Int)) = true := decide_eq_true c20
      clear c20
      obtain ⟨y338, hy338⟩ : ∃ y_ : List Int, y_ = (y336.set (((rd_T36 l0_1 x15_1).f1) : Int).toNat (wrap64 ((rd y336 ((rd_T36 l0_1 x15_1).f1)) + 1))) := ⟨_, rfl⟩
      replace H : (graph_Degrees.l0 k1 y338 l0_1 (l0_1.length : Int) (wrap64 (x15_1 + 1))) = some r := by first | (rw [hy338]; with_reducible exact H) | (have H2_ := bsm H; first | (rw [hy338]; with_reducible exact H2_) | with_reducible exact H2_) | with_reducible exact H | (rw [hy338]; exact H) | exact H
      have Ny338 := zMk hy338
      clear hy338
      have H' := zMk H
      clear H
      have p333 : 0 ≤ (x15_1 : Int) := of_decide_eq_true (by first | (with_reducible assumption) | assumption)
      have q333 : x15_1 < (l0_1.length : Int) := of_decide_eq_true (by first | (with_reducible assumption) | assumption)
      obtain ⟨ad333, e333, hx333_0, hx333_1, hx333_2⟩ := at_T36 HR0_1.out x15_1 p333 q333
      cases e333
      replace hx333_0 := (HB.out.cell (World.block_lt_of_cell? w _ hx333_0)).trans hx333_0
      replace hx333_1 := (HB.out.cell (World.block_lt_of_cell? w _ hx333_1)).trans hx333_1
      replace hx333_2 := (HB.out.cell (World.block_lt_of_cell? w _ hx333_2)).trans hx333_2
      replace p333 := eq_true p333
      replace q333 := eq_true q333
      go_wp2_with (first |  ((with_reducible refine gate_dst (N := 5) rfl ?_); refine box_event ?hg (N := 5) ?hd (cs := #[.int .i64 0, .int .i64 0, .int .i64 0]) (t := 36) ?hr ?_; (case hd => rfl); (case hg => rfl); (case hr => first |  (go_simp; done)|  (go_simp; rfl)|  (go_simp; rw [show ∀ x : Int, IntKind.u32.wrap (IntKind.u8.wrap x) = x % 256 from fun x => (by show (x % 256) % 4294967296 = x % 256; omega)])); intro gb334 hg w22 hbox hb; replace HO_3 := zMk (zRb (by exact uR HO_3.out) hb); have BK334 := zMk (hbox); have GW334 := zMk ((by rw [hg]; exact (zBs (by exact uT HB.out)) : w.heap.size ≤ gb334)); have GE334 := zMk ((by rw [hg]; exact (zBs (by exact uT HB.out)) : w.heap.size ≤ gb334)); have IGE334 := ownGe GE334.out; replace HB := zMk (zBt (by exact uT HB.out) hb); have NB328_334 := zMk ((by rw [hg]; exact Nat.ne_of_lt (blk_lt (g := gb328) (o := .cells #[.int .i64 a0_0, .slice (some ad333) l0_1.length c0_1] 24 (0, 0)) (by (with_reducible repeat (first |  refine zKn ?_ _|  refine zKd ?_|  refine zKa ?_ _)); exact BK328.out)) : gb328 ≠ gb334)); have NB334_328 := zMk ((by rw [hg]; exact Nat.ne_of_gt (blk_lt (g := gb328) (o := .cells #[.int .i64 a0_0, .slice (some ad333) l0_1.length c0_1] 24 (0, 0)) (by (with_reducible repeat (first |  refine zKn ?_ _|  refine zKd ?_|  refine zKa ?_ _)); exact BK328.out)) : gb334 ≠ gb328)); replace BK328 := zMk (zKb (g := gb328) (o := .cells #[.int .i64 a0_0, .slice (some ad333) l0_1.length c0_1] 24 (0, 0)) (by (with_reducible repeat (first |  refine zKn ?_ _|  refine zKd ?_|  refine zKa ?_ _)); exact BK328.out) hb); clear hb hbox hg; have hnb23 := NB334_328.out; have hnc23 := NB328_334.out; have hcz24_0 : w22.cell? ⟨gb334, 0, none⟩ = some (.int .i64 0) := (zKc BK334.out 0).trans rfl; have hcz24_1 : w22.cell? ⟨gb334, 1, none⟩ = some (.int .i64 0) := (zKc BK334.out 1).trans rfl; have hcz24_2 : w22.cell? ⟨gb334, 2, none⟩ = some (.int .i64 0) := (zKc BK334.out 2).trans rfl; have hfz24_0 := zKf BK334.out 0; have hfz24_1 := zKf BK334.out 1; have hfz24_2 := zKf BK334.out 2)|  ((with_reducible refine gate_store (t := 36) (p := 5) rfl ?_); refine store_event (t := 36) (p := 5) (v := ?vo_w25) (w1 := (((w22.setCell ⟨gb334, 0, none⟩ (.int .i64 ((rd_T36 l0_1 x15_1).f0))).setCell ⟨gb334, 1, none⟩ (.int .i64 ((rd_T36 l0_1 x15_1).f1))).setCell ⟨gb334, 2, none⟩ (.int .i64 ((rd_T36 l0_1 x15_1).f2)))) ?hg ?ho ?hn ?hr ?_; (case ho => rfl); (case hg => rfl); (case hn => rfl); (case hr => first |  (go_simp; done)|  (go_simp; rfl)|  (go_simp; rw [show ∀ x : Int, IntKind.u32.wrap (IntKind.u8.wrap x) = x % 256 from fun x => (by show (x % 256) % 4294967296 = x % 256; omega)])); intro w25 hw; have n0_ : Aside0 (Kd.R (Kd.int .i64) 3 w25 w.heap.size (fun _ => True) v331 x3_1) := ⟨(by rw [hw]; exact (by (with_reducible repeat (first |  apply zRa|  apply zRn|  apply zRd)); exact zRm (Kd.R_far (p := ⟨gb334, 2, none⟩) (Kd.R_far (p := ⟨gb334, 1, none⟩) (Kd.R_far (p := ⟨gb334, 0, none⟩) (Kd.R_types HO_3.out BK334.out (by decide)) (fun _ hk => hk.2) (.int .i64 ((rd_T36 l0_1 x15_1).f0))) (fun _ hk => hk.2) (.int .i64 ((rd_T36 l0_1 x15_1).f1))) (fun _ hk => hk.2) (.int .i64 ((rd_T36 l0_1 x15_1).f2))) (fun _ hk => trivial)))⟩; have n1_ : Aside0 (w25.heap[gb328]? = some (.cells #[.int .i64 a0_0, .slice (some ad333) l0_1.length c0_1] 24 (0, 0))) := ⟨(by rw [hw]; exact (by (with_reducible repeat (first |  refine zKn ?_ _|  refine zKd ?_|  refine zKa ?_ _)); refine blk_far ?_ NB328_334.out _; (with_reducible repeat (first |  refine zKn ?_ _|  refine zKd ?_|  refine zKa ?_ _)); refine blk_far ?_ NB328_334.out _; (with_reducible repeat (first |  refine zKn ?_ _|  refine zKd ?_|  refine zKa ?_ _)); refine blk_far ?_ NB328_334.out _; (with_reducible repeat (first |  refine zKn ?_ _|  refine zKd ?_|  refine zKa ?_ _)); exact BK328.out))⟩; have n2_ : Aside0 (w25.heap[gb334]? = some (.cells #[.int .i64 ((rd_T36 l0_1 x15_1).f0), .int .i64 ((rd_T36 l0_1 x15_1).f1), .int .i64 ((rd_T36 l0_1 x15_1).f2)] 36 (0, 0))) := ⟨(by rw [hw]; exact (by (with_reducible repeat (first |  refine zKn ?_ _|  refine zKd ?_|  refine zKa ?_ _)); refine blk_put (cs := #[.int .i64 ((rd_T36 l0_1 x15_1).f0), .int .i64 ((rd_T36 l0_1 x15_1).f1), .int .i64 0]) ?_ 2 _ rfl; (with_reducible repeat (first |  refine zKn ?_ _|  refine zKd ?_|  refine zKa ?_ _)); refine blk_put (cs := #[.int .i64 ((rd_T36 l0_1 x15_1).f0), .int .i64 0, .int .i64 0]) ?_ 1 _ rfl; (with_reducible repeat (first |  refine zKn ?_ _|  refine zKd ?_|  refine zKa ?_ _)); refine blk_put (cs := #[.int .i64 0, .int .i64 0, .int .i64 0]) ?_ 0 _ rfl; (with_reducible repeat (first |  refine zKn ?_ _|  refine zKd ?_|  refine zKa ?_ _)); exact BK334.out))⟩; have n3_ : Aside0 (Below w.heap.size w w25) := ⟨(by rw [hw]; exact (by exact uT HB.out))⟩; clear hw HO_3 BK328 BK334 HB; have HO_3 := n0_; have BK328 := n1_; have BK334 := n2_; have HB := n3_; clear n0_ n1_ n2_ n3_; have hcz26_0 : w25.cell? ⟨gb334, 0, none⟩ = some (.int .i64 ((rd_T36 l0_1 x15_1).f0)) := (zKc BK334.out 0).trans rfl; have hcz26_1 : w25.cell? ⟨gb334, 1, none⟩ = some (.int .i64 ((rd_T36 l0_1 x15_1).f1)) := (zKc BK334.out 1).trans rfl; have hcz26_2 : w25.cell? ⟨gb334, 2, none⟩ = some (.int .i64 ((rd_T36 l0_1 x15_1).f2)) := (zKc BK334.out 2).trans rfl; have hfz26_0 := zKf BK334.out 0; have hfz26_1 := zKf BK334.out 1; have hfz26_2 := zKf BK334.out 2; obtain ⟨Ao27, co27, eo27⟩ := zRs HO_3.out; subst eo27; have p335 : 0 ≤ (((rd_T36 l0_1 x15_1).f0) : Int) := of_decide_eq_true (by first |  (with_reducible assumption)|  assumption); have q335 : ((rd_T36 l0_1 x15_1).f0) < (x3_1.length : Int) := of_decide_eq_true (by first |  (with_reducible assumption)|  assumption); obtain ⟨ad335, e335, hx335_0⟩ := zAi (zRr HO_3.out).2.2 ((rd_T36 l0_1 x15_1).f0) p335 q335; cases e335; replace p335 := eq_true p335; replace q335 := eq_true q335; have p18 : 0 ≤ (((rd_T36 l0_1 x15_1).f0) : Int) := of_decide_eq_true (by first |  (with_reducible assumption)|  assumption); have q18 : (((rd_T36 l0_1 x15_1).f0) : Int) < ((x3_1.length : Int) : Int) := of_decide_eq_true (by first |  (with_reducible assumption)|  assumption); obtain ⟨go18, co18, eo18, gb18, gl18, cl18, HG18⟩ := Kd.R_form HO_3.out (by omega); (first |  cases eo18|  (injection eo18 with ea_ en_ ec_; (first |  subst ea_|  (injection ea_ with ea_; subst ea_)); subst ec_; clear en_)); have GB18 := zMk gb18; have IGB18 := ownGe GB18.out; have GG18 := zMk HG18; clear gb18 gl18 HG18; (first |  simp only [add_plain] at hx335_0|  skip); obtain ⟨hx18_0, hf18_0⟩ := Kd.R_celln 0 HO_3.out (((rd_T36 l0_1 x15_1).f0) : Int) p18 q18; replace p18 := eq_true p18; replace q18 := eq_true q18; obtain ⟨hy28_, hz28_⟩ := Kd.R_celln 0 HO_3.out (((rd_T36 l0_1 x15_1).f0) : Int) (of_decide_eq_true (by first |  (with_reducible assumption)|  assumption)) (of_decide_eq_true (by first |  (with_reducible assumption)|  assumption)); have HP28 := Kd.R_putg HO_3.out (((rd_T36 l0_1 x15_1).f0) : Int) (wrap64 ((rd x3_1 ((rd_T36 l0_1 x15_1).f0)) + 1)))|  ((with_reducible refine gate_store (t := 3) (p := 25) rfl ?_); refine store_event (t := 3) (p := 25) (v := ?vo_w29) (w1 := (w25.setCell ⟨go18, (((rd_T36 l0_1 x15_1).f0) : Int).toNat, none⟩ (.int .i64 (wrap64 ((rd x3_1 ((rd_T36 l0_1 x15_1).f0)) + 1))))) ?hg ?ho ?hn ?hr ?_; (case ho => rfl); (case hg => rfl); (case hn => rfl); (case hr => first |  (go_simp; done)|  (go_simp; rfl)|  (go_simp; rw [show ∀ x : Int, IntKind.u32.wrap (IntKind.u8.wrap x) = x % 256 from fun x => (by show (x % 256) % 4294967296 = x % 256; omega)])); intro w29 hw; have hg : w25.grownBy w29 (some go18) := (by rw [hw]; exact HP28.2); have hp_ : Kd.R (Kd.int .i64) 3 w29 w.heap.size (fun _ => True) (.slice (some ⟨go18, 0, none⟩) x3_1.length co27) y336 := (by rw [hw, Ny336.out]; exact HP28.1); clear HP28; replace BK328 := zMk (blk_grown (g := gb328) (o := .cells #[.int .i64 a0_0, .slice (some ad333) l0_1.length c0_1] 24 (0, 0)) (by (with_reducible repeat (first |  refine zKn ?_ _|  refine zKd ?_|  refine zKa ?_ _)); exact BK328.out) hg (Kd.R_ne HO_3.out BK328.out (by decide))); replace BK334 := zMk (blk_grown (g := gb334) (o := .cells #[.int .i64 ((rd_T36 l0_1 x15_1).f0), .int .i64 ((rd_T36 l0_1 x15_1).f1), .int .i64 ((rd_T36 l0_1 x15_1).f2)] 36 (0, 0)) (by (with_reducible repeat (first |  refine zKn ?_ _|  refine zKd ?_|  refine zKa ?_ _)); exact BK334.out) hg (Kd.R_ne HO_3.out BK334.out (by decide))); replace HO_3 := zMk (hp_); replace HB := zMk ((by rw [hw]; exact below_set (HB.out) GB18.out : Below w.heap.size w w29)); clear hg hw hp_; have hcz30_0 : w29.cell? ⟨gb334, 0, none⟩ = some (.int .i64 ((rd_T36 l0_1 x15_1).f0)) := (zKc BK334.out 0).trans rfl; have hcz30_1 : w29.cell? ⟨gb334, 1, none⟩ = some (.int .i64 ((rd_T36 l0_1 x15_1).f1)) := (zKc BK334.out 1).trans rfl; have hcz30_2 : w29.cell? ⟨gb334, 2, none⟩ = some (.int .i64 ((rd_T36 l0_1 x15_1).f2)) := (zKc BK334.out 2).trans rfl; have hfz30_0 := zKf BK334.out 0; have hfz30_1 := zKf BK334.out 1; have hfz30_2 := zKf BK334.out 2; have p337 : 0 ≤ (((rd_T36 l0_1 x15_1).f1) : Int) := of_decide_eq_true (by first |  (with_reducible assumption)|  assumption); have q337 : ((rd_T36 l0_1 x15_1).f1) < (y336.length : Int) := (by have h_ : (((rd_T36 l0_1 x15_1).f1) : Int) < ((x3_1.length : Int) : Int) := of_decide_eq_true (by first |  (with_reducible assumption)|  assumption); first |  (have e_ := (zRr HO_3.out).1; omega)|  simpa only [Ny336.out, List.length_set] using h_); have ql337 : ((((rd_T36 l0_1 x15_1).f1) : Int) < ((x3_1.length : Int) : Int)) = True := eq_true (of_decide_eq_true (by first |  (with_reducible assumption)|  assumption)); obtain ⟨ad337, e337, hx337_0⟩ := zAi (zRr HO_3.out).2.2 ((rd_T36 l0_1 x15_1).f1) p337 q337; obtain rfl : (⟨go18, 0, none⟩ : Addr) = ad337 := (by injection e337); (first |  simp only [add_plain] at hx337_0|  simp only [add_at] at hx337_0|  simp only [Addr.add, Nat.zero_add] at hx337_0|  skip); replace p337 := eq_true p337; replace q337 := eq_true q337; have p21 : 0 ≤ (((rd_T36 l0_1 x15_1).f1) : Int) := of_decide_eq_true (by first |  (with_reducible assumption)|  assumption); have q21 : (((rd_T36 l0_1 x15_1).f1) : Int) < ((x3_1.length : Int) : Int) := of_decide_eq_true (by first |  (with_reducible assumption)|  assumption); obtain ⟨hx21_0, hf21_0⟩ := Kd.R_celln 0 HO_3.out (((rd_T36 l0_1 x15_1).f1) : Int) p21 q21; replace p21 := eq_true p21; replace q21 := eq_true q21; obtain ⟨hy31_, hz31_⟩ := Kd.R_celln 0 HO_3.out (((rd_T36 l0_1 x15_1).f1) : Int) (of_decide_eq_true (by first |  (with_reducible assumption)|  assumption)) (of_decide_eq_true (by first |  (with_reducible assumption)|  assumption)); have HP31 := Kd.R_putg HO_3.out (((rd_T36 l0_1 x15_1).f1) : Int) (wrap64 ((rd y336 ((rd_T36 l0_1 x15_1).f1)) + 1)))|  ((with_reducible refine gate_store (t := 3) (p := 32) rfl ?_); refine store_event (t := 3) (p := 32) (v := ?vo_w32) (w1 := (w29.setCell ⟨go18, (((rd_T36 l0_1 x15_1).f1) : Int).toNat, none⟩ (.int .i64 (wrap64 ((rd y336 ((rd_T36 l0_1 x15_1).f1)) + 1))))) ?hg ?ho ?hn ?hr ?_; (case ho => rfl); (case hg => rfl); (case hn => rfl); (case hr => first |  (go_simp; done)|  (go_simp; rfl)|  (go_simp; rw [show ∀ x : Int, IntKind.u32.wrap (IntKind.u8.wrap x) = x % 256 from fun x => (by show (x % 256) % 4294967296 = x % 256; omega)])); intro w32 hw; have hg : w29.grownBy w32 (some go18) := (by rw [hw]; exact HP31.2); have hp_ : Kd.R (Kd.int .i64) 3 w32 w.heap.size (fun _ => True) (.slice (some ⟨go18, 0, none⟩) x3_1.length co27) y338 := (by rw [hw, Ny338.out]; exact HP31.1); clear HP31; replace BK328 := zMk (blk_grown (g := gb328) (o := .cells #[.int .i64 a0_0, .slice (some ad333) l0_1.length c0_1] 24 (0, 0)) (by (with_reducible repeat (first |  refine zKn ?_ _|  refine zKd ?_|  refine zKa ?_ _)); exact BK328.out) hg (Kd.R_ne HO_3.out BK328.out (by decide))); replace BK334 := zMk (blk_grown (g := gb334) (o := .cells #[.int .i64 ((rd_T36 l0_1 x15_1).f0), .int .i64 ((rd_T36 l0_1 x15_1).f1), .int .i64 ((rd_T36 l0_1 x15_1).f2)] 36 (0, 0)) (by (with_reducible repeat (first |  refine zKn ?_ _|  refine zKd ?_|  refine zKa ?_ _)); exact BK334.out) hg (Kd.R_ne HO_3.out BK334.out (by decide))); replace HO_3 := zMk (hp_); replace HB := zMk ((by rw [hw]; exact below_set (HB.out) GB18.out : Below w.heap.size w w32)); clear hg hw hp_))
      go_roundg k1
      case measure => have := HK1.out; omega
      case rel => exact ⟨(y338), (wrap64 (x15_1 + 1)), (by first | rfl | (simp; done) | (simp [*]; done)), H', ⟨by have := HK1.out; omega⟩, ⟨by exact uR HO_3.out⟩, ⟨by (with_reducible repeat (first | refine zKn ?_ _ | refine zKd ?_ | refine zKa ?_ _)); exact BK328.out⟩, ⟨by exact uT HB.out⟩⟩
    · rw [if_neg c13] at H
      have c13b0 : decide (x15_1 < (l0_1.length : Int)) = false := decide_eq_false c13
      clear c13
      obtain rfl := zOi H
      go_wp2
      go_ret
      exact ⟨_, by first | rfl | (simp [errW_none, errW_some] <;> rfl) | (simp [*, errW_none, errW_some] <;> rfl), by exact uR HO_3.out, by exact uT HB.out⟩
  · rw [if_neg c3] at H
    have c3b0 : (t329 == 0) = false := beq_eq_false_iff_ne.mpr c3
    have c3b1 : (t329 != 0) = true := bne_iff_ne.mpr c3
    obtain rfl := zOi H
    go_enter Try.func27, Try.ntmps27
    go_wp2_with (first |  ((with_reducible refine gate_dst (N := 1) rfl ?_); refine box_event ?hg (N := 1) ?hd (cs := #[.int .i64 a0_0, .slice A0_1 l0_1.length c0_1]) (t := 24) ?hr ?_; (case hd => rfl); (case hg => rfl); (case hr => first |  (go_simp; done)|  (go_simp; rfl)|  (go_simp; rw [show ∀ x : Int, IntKind.u32.wrap (IntKind.u8.wrap x) = x % 256 from fun x => (by show (x % 256) % 4294967296 = x % 256; omega)])); intro gb328 hg w33 hbox hb; have BK328 := zMk (hbox); have GW328 := zMk ((by rw [hg]; exact (zBs (by exact uT HB.out)) : w.heap.size ≤ gb328)); have GE328 := zMk ((by rw [hg]; exact (zBs (by exact uT HB.out)) : w.heap.size ≤ gb328)); have IGE328 := ownGe GE328.out; replace HB := zMk (zBt (by exact uT HB.out) hb); clear hb hbox hg; have hcz34_0 : w33.cell? ⟨gb328, 0, none⟩ = some (.int .i64 a0_0) := (zKc BK328.out 0).trans rfl; have hcz34_1 : w33.cell? ⟨gb328, 1, none⟩ = some (.slice A0_1 l0_1.length c0_1) := (zKc BK328.out 1).trans rfl; have hfz34_0 := zKf BK328.out 0; have hfz34_1 := zKf BK328.out 1)|  ((with_reducible refine gate_callee (f := 11) rfl ?_); refine goesL_ (some 7) rfl rfl Try.func11 (by kernel_rfl) rfl #[.agg #[.int .i64 a0_0, .slice A0_1 l0_1.length c0_1]] rfl (by (try simp only [zMa, zMc, zMn]); first |  done|  rfl|  (simp only [zLd, zLt]; rfl)) ?_; (with_reducible refine (graph_Right.calls k a0_0 _ _ l0_1 t329 _ ?side1 ?side2 A2.out).mono ?_); (case side1 => repeat (first |  exact (Kd.C_below HR0_1.out HB.out)|  (with_reducible refine zCa ?_ _)|  (with_reducible refine zCn ?_ _)|  (with_reducible refine zCd ?_))); (case side2 => exact HC0_1.out); rintro e w35 ⟨rfl, hb⟩; refine ⟨_, rfl, ?_⟩; replace BK328 := zMk (zKb (g := gb328) (o := .cells #[.int .i64 a0_0, .slice A0_1 l0_1.length c0_1] 24 (0, 0)) (by (with_reducible repeat (first |  refine zKn ?_ _|  refine zKd ?_|  refine zKa ?_ _)); exact BK328.out) hb); replace HB := zMk (zBt (by exact uT HB.out) hb); (try clear hb); (try clear hb2); (try clear hk); (try clear hi)))
    go_ret
    exact ⟨_, by first | rfl | (simp [errW_none, errW_some] <;> rfl) | (simp [*, errW_none, errW_some] <;> rfl), by first | exact Kd.R_nil _ _ _ _ _ | exact Kd.N_nil _ _ _ _ _ | exact Kd.V_nil _ _ _ _ _ | exact Kd.Q_nil _ _ _ _ _ | exact Kd.S_nil _ _ _ _ _, by exact uT HB.out⟩

/- Chapter 04: what is next to each vertex, and how many. -/
def nbe (e : S36) (v : Int) : List Int := (if e.f0 = v then [e.f1] else []) ++ (if e.f1 = v then [e.f0] else [])
def nbr (E : List S36) (v : Int) : List Int := E.flatMap fun e => nbe e v
theorem nbe_len (e : S36) (v : Int) : (nbe e v).length ≤ 2 := by
  unfold nbe
  rw [List.length_append]
  repeat' split
  all_goals simp
theorem nbr_len (E : List S36) (v : Int) : (nbr E v).length ≤ 2 * E.length := by
  induction E with
  | nil => simp [nbr]
  | cons e E ih =>
    have h := nbe_len e v
    unfold nbr at ih ⊢
    rw [List.flatMap_cons, List.length_append, zLc]
    omega
theorem nbr_snoc (E : List S36) (e : S36) (v : Int) : nbr (E ++ [e]) v = nbr E v ++ nbe e v := by simp [nbr]
theorem mem_nbr {E : List S36} {v x : Int} : x ∈ nbr E v ↔ ∃ e ∈ E, (e.f0 = v ∧ e.f1 = x) ∨ (e.f1 = v ∧ e.f0 = x) := by
  unfold nbr nbe
  rw [List.mem_flatMap]
  constructor
  · rintro ⟨e, he, h⟩
    refine ⟨e, he, ?_⟩
    rw [List.mem_append] at h
    rcases h with h | h
    · split at h
      · simp at h; exact .inl ⟨by assumption, h.symm⟩
      · simp at h
    · split at h
      · simp at h; exact .inr ⟨by assumption, h.symm⟩
      · simp at h
  · rintro ⟨e, he, h⟩
    refine ⟨e, he, ?_⟩
    rw [List.mem_append]
    rcases h with ⟨h1, h2⟩ | ⟨h1, h2⟩
    · exact .inl (by rw [if_pos h1]; simp [h2])
    · exact .inr (by rw [if_pos h1]; simp [h2])
def rows (N : Nat) (f : Int → List Int) : List (List Int) := (List.range N).map fun v => f (v : Nat)
theorem rows_len (N : Nat) (f : Int → List Int) : (rows N f).length = N := by simp [rows]
theorem rows_rd (N : Nat) (f : Int → List Int) (v : Int) (h0 : 0 ≤ v) (h1 : v < N) : rd_L5 (rows N f) v = f v := by
  obtain ⟨v, rfl⟩ := Int.eq_ofNat_of_zero_le h0
  unfold rd_L5 rows
  rw [zTn]
  simp [show v < N by omega]
theorem rows_set (N : Nat) (f : Int → List Int) (v : Int) (h0 : 0 ≤ v) (x : List Int) : (rows N f).set v.toNat x = rows N (fun w => if w = v then x else f w) := by
  obtain ⟨v, rfl⟩ := Int.eq_ofNat_of_zero_le h0
  rw [zTn]
  apply List.ext_getElem
  · simp [rows]
  · intro i h1 h2
    simp only [rows, List.getElem_set, List.getElem_map, List.getElem_range]
    by_cases h : v = i
    · subst h; simp
    · rw [if_neg h, if_neg (by omega)]
theorem rows_congr {N : Nat} {f g : Int → List Int} (h : ∀ v : Nat, v < N → f v = g v) : rows N f = rows N g := by
  unfold rows
  exact List.map_congr_left fun v hv => h v (by simpa using hv)
theorem takeE (l : List S36) (i : Nat) (h : i < l.length) : l.take (i + 1) = l.take i ++ [rd_T36 l (i : Int)] := by
  rw [List.take_succ_eq_append_getElem h, rdE_get l i h]
/-- ends of an edge that nothing stands against -/
theorem alone_ends {n : Int} {e : S36} (h : aloneI n e = 0) : 0 ≤ e.f0 ∧ e.f0 < n ∧ 0 ≤ e.f1 ∧ e.f1 < n ∧ e.f0 ≠ e.f1 := by
  unfold aloneI at h
  repeat' split at h
  all_goals first | (exfalso; omega) | (refine ⟨?_, ?_, ?_, ?_, ?_⟩ <;> omega)
theorem rdE_mem (l : List S36) (i : Nat) (h : i < l.length) : rd_T36 l (i : Int) ∈ l := by rw [rdE_get l i h]; exact List.getElem_mem h
theorem Near_l0 (N : Nat) (E : List S36) (hE : ∀ e ∈ E, aloneI N e = 0) (hm : E.length ≤ 1000000) (r : Option (List (List Int))) (k0 : Nat) (hr : ∀ k, k0 ≤ k → graph_Near.l1 k (rows N (nbr E)) 0 = r) (d : Nat) : ∀ (k i : Nat), E.length - i = d → i ≤ E.length → d + k0 + 1 ≤ k →
    graph_Near.l0 k (rows N (nbr (E.take i))) E (E.length : Int) i = r := by
  induction d with
  | zero =>
    intro k i hd hi hk
    obtain ⟨k, rfl⟩ : ∃ m, k = m + 1 := ⟨k - 1, by omega⟩
    obtain rfl : i = E.length := by omega
    rw [List.take_length]
    simp only [graph_Near.l0]
    rw [if_neg (by omega)]
    exact hr k (by omega)
  | succ d ih =>
    intro k i hd hi hk
    obtain ⟨k, rfl⟩ : ∃ m, k = m + 1 := ⟨k - 1, by omega⟩
    have hlt : i < E.length := by omega
    have hwn : wrap64 ((i : Int) + 1) = ((i + 1 : Nat) : Int) := by rw [w64 (by omega) (by omega)]; omega
    have hnext := ih k (i + 1) (by omega) (by omega) (by omega)
    obtain ⟨a1, a2, b1, b2, hab⟩ := alone_ends (hE _ (rdE_mem E i hlt))
    rw [takeE E i hlt] at hnext
    simp only [graph_Near.l0, rows_len]
    generalize rd_T36 E (i : Int) = e at *
    have hlen : ∀ v, (nbr (E.take i) v).length ≤ 2000000 := fun v => by have := nbr_len (E.take i) v; rw [zLt] at this; omega
    rw [if_pos (by omega), if_pos (by omega), if_pos (by omega), if_pos a1, if_pos a2, rows_rd N _ _ a1 a2, if_pos (by have := hlen e.f0; omega), zOb, if_pos b1, if_pos b2, rows_set N _ _ a1, rows_rd N _ _ b1 b2, if_neg (show ¬ e.f1 = e.f0 from fun h => hab h.symm), if_pos (by have := hlen e.f1; omega), rows_set N _ _ b1, hwn]
    rw [← hnext]
    congr 1
    refine rows_congr fun v hv => ?_
    simp only [nbr_snoc, nbe]
    by_cases h1 : (v : Int) = e.f1
    · rw [if_pos h1, if_neg (by omega), if_pos h1.symm, h1]; rfl
    · rw [if_neg h1]
      by_cases h0 : (v : Int) = e.f0
      · rw [if_pos h0, if_pos h0.symm, if_neg (by omega), h0]; simp
      · rw [if_neg h0, if_neg (by omega), if_neg (by omega)]; simp
theorem Near_l1 (N : Nat) (f : Int → List Int) (hN : N ≤ 1100000) (hf : ∀ v, (f v).length < 4611686018427387904) (hs : ∀ v : Nat, v < N → ((f v).mergeSort fun x y => decide (x ≤ y)) = f v) (d : Nat) : ∀ (k i : Nat), N - i = d → i ≤ N → d + 1 ≤ k →
    graph_Near.l1 k (rows N f) i = some (rows N f) := by
  induction d with
  | zero =>
    intro k i hd hi hk
    obtain ⟨k, rfl⟩ : ∃ m, k = m + 1 := ⟨k - 1, by omega⟩
    simp only [graph_Near.l1, rows_len]
    rw [if_neg (by omega)]
  | succ d ih =>
    intro k i hd hi hk
    obtain ⟨k, rfl⟩ : ∃ m, k = m + 1 := ⟨k - 1, by omega⟩
    have hwn : wrap64 ((i : Int) + 1) = ((i + 1 : Nat) : Int) := by rw [w64 (by omega) (by omega)]; omega
    simp only [graph_Near.l1, rows_len]
    rw [if_pos (by omega), if_pos (by omega), rows_rd N f (i : Int) (by omega) (by omega), if_pos (hf _), hs i (by omega), rows_set N f _ (by omega), hwn]
    rw [show rows N (fun w => if w = (i : Int) then f i else f w) = rows N f from rows_congr fun v _ => by
      by_cases h : (v : Int) = i
      · rw [if_pos h, h]
      · rw [if_neg h]]
    exact ih k (i + 1) (by omega) (by omega) (by omega)
/-- of a right graph the neighbours come in order -/
theorem nbr_up (n : Int) (E : List S36) (h : rightI n E = 0) (v : Int) : (nbr E v).Pairwise (· < ·) := by
  obtain ⟨_, h2, h3⟩ := (right_iff n E).1 h
  have hl : ∀ e ∈ E, e.f0 < e.f1 := fun e he => by
    have a := alone_ends (h2 e he).1
    have b := (h2 e he).2
    omega
  unfold nbr
  rw [List.pairwise_flatMap]
  refine ⟨fun e he => ?_, ?_⟩
  · have := hl e he
    unfold nbe
    by_cases h4 : e.f0 = v
    · rw [if_pos h4, if_neg (by omega)]; simp
    · rw [if_neg h4]; split <;> simp
  · have hp := up_pair h3
    refine List.Pairwise.imp_of_mem ?_ hp
    intro a b ha hb hab x hx y hy
    have h5 := hl a ha
    have h6 := hl b hb
    have h7 : a.f0 < b.f0 ∨ a.f0 = b.f0 ∧ a.f1 < b.f1 := by
      unfold ordE at hab
      repeat' split at hab
      all_goals first | omega | (exfalso; revert hab; decide)
    have h8 : (a.f0 = v ∧ a.f1 = x) ∨ (a.f1 = v ∧ a.f0 = x) := by
      obtain ⟨e, he, h⟩ := (mem_nbr (E := [a])).1 (by simpa [nbr] using hx)
      rw [List.mem_singleton.1 he] at h; exact h
    have h9 : (b.f0 = v ∧ b.f1 = y) ∨ (b.f1 = v ∧ b.f0 = y) := by
      obtain ⟨e, he, h⟩ := (mem_nbr (E := [b])).1 (by simpa [nbr] using hy)
      rw [List.mem_singleton.1 he] at h; exact h
    omega
theorem sizes_le {n m : Int} (h : sizesI n m = 0) : 0 ≤ n ∧ n ≤ 1048576 ∧ m ≤ 4194304 := by
  unfold sizesI at h
  repeat' split at h
  all_goals first | omega | (refine ⟨?_, ?_, ?_⟩ <;> omega)
theorem Near_eq (k : Nat) (n : Int) (E : List S36) (hm : E.length ≤ 1000000) (hk : E.length + n.toNat + 8 ≤ k) : graph_Near.f k n E = some (if rightI n E = 0 then rows n.toNat (nbr E) else []) := by
  unfold graph_Near.f
  rw [Right_eq k n E (by omega), zOb]
  by_cases h : rightI n E = 0
  · obtain ⟨h1, h2, h3⟩ := (right_iff n E).1 h
    obtain ⟨n0, n1, _⟩ := sizes_le h1
    obtain ⟨N, rfl⟩ := Int.eq_ofNat_of_zero_le n0
    rw [if_pos h, if_pos h, if_pos n0, zTn, if_pos (by omega)]
    have h0 : List.replicate N ([] : List Int) = rows N (nbr (E.take 0)) := by
      apply List.ext_getElem
      · simp [rows]
      · intro i a b; simp [rows, nbr]
    rw [h0]
    refine Near_l0 N E (fun e he => (h2 e he).1) hm _ (N + 1) (fun k' hk' => ?_) E.length k 0 (by omega) (by omega) (by omega)
    refine Near_l1 N _ (by omega) (fun v => by have := nbr_len E v; omega) (fun v hv => ?_) N k' 0 (by omega) (by omega) (by omega)
    refine List.mergeSort_of_pairwise ?_
    exact (nbr_up _ E h v).imp (fun hxy => by simpa using Int.le_of_lt hxy)
  · rw [if_neg h, if_neg h]
/-! degrees -/
def degs (N : Nat) (f : Int → Int) : List Int := (List.range N).map fun v => f (v : Nat)
theorem degs_len (N : Nat) (f : Int → Int) : (degs N f).length = N := by simp [degs]
theorem degs_rd (N : Nat) (f : Int → Int) (v : Int) (h0 : 0 ≤ v) (h1 : v < N) : rd (degs N f) v = f v := by
  obtain ⟨v, rfl⟩ := Int.eq_ofNat_of_zero_le h0
  unfold rd degs
  rw [zTn]
  simp [show v < N by omega]
theorem degs_set (N : Nat) (f : Int → Int) (v : Int) (h0 : 0 ≤ v) (x : Int) : (degs N f).set v.toNat x = degs N (fun w => if w = v then x else f w) := by
  obtain ⟨v, rfl⟩ := Int.eq_ofNat_of_zero_le h0
  rw [zTn]
  apply List.ext_getElem
  · simp [degs]
  · intro i h1 h2
    simp only [degs, List.getElem_set, List.getElem_map, List.getElem_range]
    by_cases h : v = i
    · subst h; simp
    · rw [if_neg h, if_neg (by omega)]
theorem degs_congr {N : Nat} {f g : Int → Int} (h : ∀ v : Nat, v < N → f v = g v) : degs N f = degs N g := by
  unfold degs
  exact List.map_congr_left fun v hv => h v (by simpa using hv)
theorem Degrees_l0 (N : Nat) (E : List S36) (hE : ∀ e ∈ E, aloneI N e = 0) (hm : E.length ≤ 1000000) (d : Nat) : ∀ (k i : Nat), E.length - i = d → i ≤ E.length → d + 1 ≤ k →
    graph_Degrees.l0 k (degs N fun v => ((nbr (E.take i) v).length : Int)) E (E.length : Int) i = some (degs N fun v => ((nbr E v).length : Int)) := by
  induction d with
  | zero =>
    intro k i hd hi hk
    obtain ⟨k, rfl⟩ : ∃ m, k = m + 1 := ⟨k - 1, by omega⟩
    obtain rfl : i = E.length := by omega
    rw [List.take_length]
    simp only [graph_Degrees.l0]
    rw [if_neg (by omega)]
  | succ d ih =>
    intro k i hd hi hk
    obtain ⟨k, rfl⟩ : ∃ m, k = m + 1 := ⟨k - 1, by omega⟩
    have hlt : i < E.length := by omega
    have hwn : wrap64 ((i : Int) + 1) = ((i + 1 : Nat) : Int) := by rw [w64 (by omega) (by omega)]; omega
    have hnext := ih k (i + 1) (by omega) (by omega) (by omega)
    obtain ⟨a1, a2, b1, b2, hab⟩ := alone_ends (hE _ (rdE_mem E i hlt))
    rw [takeE E i hlt] at hnext
    simp only [graph_Degrees.l0, degs_len]
    generalize rd_T36 E (i : Int) = e at *
    have hlen : ∀ v, (nbr (E.take i) v).length ≤ 2000000 := fun v => by have := nbr_len (E.take i) v; rw [zLt] at this; omega
    have l1 := hlen e.f0
    have l2 := hlen e.f1
    rw [if_pos (by omega), if_pos (by omega), if_pos (by omega), if_pos a1, if_pos a2, degs_rd N _ _ a1 a2, w64 (by omega) (by omega), zOb, if_pos b1, if_pos b2, degs_set N _ _ a1, degs_rd N _ _ b1 b2, if_neg (show ¬ e.f1 = e.f0 from fun h => hab h.symm), w64 (by omega) (by omega), degs_set N _ _ b1, hwn, ← hnext]
    congr 1
    refine degs_congr fun v hv => ?_
    simp only [nbr_snoc, nbe]
    by_cases h1 : (v : Int) = e.f1
    · rw [if_pos h1, if_neg (by omega), if_pos h1.symm, h1]; simp
    · rw [if_neg h1]
      by_cases h0 : (v : Int) = e.f0
      · rw [if_pos h0, if_pos h0.symm, if_neg (by omega), h0]; simp
      · rw [if_neg h0, if_neg (by omega), if_neg (by omega)]; simp
theorem Degrees_eq (k : Nat) (n : Int) (E : List S36) (hm : E.length ≤ 1000000) (hk : E.length + 8 ≤ k) : graph_Degrees.f k n E = some (if rightI n E = 0 then degs n.toNat (fun v => ((nbr E v).length : Int)) else []) := by
  unfold graph_Degrees.f
  rw [Right_eq k n E (by omega), zOb]
  by_cases h : rightI n E = 0
  · obtain ⟨h1, h2, h3⟩ := (right_iff n E).1 h
    obtain ⟨n0, n1, _⟩ := sizes_le h1
    obtain ⟨N, rfl⟩ := Int.eq_ofNat_of_zero_le n0
    rw [if_pos h, if_pos h, if_pos n0, zTn, if_pos (by omega)]
    have h0 : List.replicate N (0 : Int) = degs N (fun v => ((nbr (E.take 0) v).length : Int)) := by
      apply List.ext_getElem
      · simp [degs]
      · intro i a b; simp [degs, nbr]
    rw [h0]
    exact Degrees_l0 N E (fun e he => (h2 e he).1) hm E.length k 0 (by omega) (by omega) (by omega)
  · rw [if_neg h, if_neg h]
end Go.Proofs.Yteicpdkembmilaa.A
