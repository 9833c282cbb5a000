/- Lemmas for the statement: the walks of the functions that it reaches, and plain laws. -/
import Derived.Test.YteicpdkembmilaaG1
import Derived.Test.YteicpdkembmilaaG2
set_option linter.unusedVariables false
set_option linter.unusedSimpArgs false
namespace Go.Proofs.Yteicpdkembmilaa.A
open Go Go.RowKit Go.Proofs.YteicpdkembmilaaW.PrintWords Go.Proofs.YteicpdkembmilaaW.PrintLast Go.Proofs.YteicpdkembmilaaW.PrintMore
attribute [local go_sem] max2_int min2_int max_two min_two max_three min_three max_four min_four
open Go.Proofs.YteicpdkembmilaaW.PrintWords.Kd renaming R_alloc → zRa, R_drewN → zRn, R_drew → zRd, V_alloc → zVa, V_drewN → zVn, V_drew → zVd, V_below → zVb, C_alloc → zCa, C_drewN → zCn, C_drew → zCd, R_mono → zRm, V_mono → zVm, at_int → zAi, R_elder' → zRe, R_lower → zRl, R_new' → zRw, R_lt → zRt, R_below → zRb, R_base → zRz, R_reads' → zRr, R_slice → zRs, V_elder' → zVe, V_lower → zVl, V_slice → zVs, V_reads' → zVr
open Go.Proofs.YteicpdkembmilaaW.PrintWords renaming pw_below_drewN → zBn, below_alloc → zBa, below_drew1 → zBd, below_size → zBs, below_step → zBt, blk_drewN → zKn, blk_drew → zKd, blk_alloc → zKa, blk_below → zKb, blk_cell → zKc, blk_frozen → zKf
open List renaming setIfInBounds_toArray → zSa, set_cons_zero → zSb, set_cons_succ → zSc, length_drop → zLd, length_take → zLt, map_toArray → zMa, map_cons → zMc, map_nil → zMn, length_cons → zLc, length_nil → zLn
open Go.Proofs.YteicpdkembmilaaW.PrintWords.Aside0 renaming mk → zMk
open Option renaming bind_eq_some_iff → zBi, bind_some → zOb
open Option.some renaming inj → zOi
open Int renaming toNat_natCast → zTn

attribute [local go_sem high] eqA36
/-! ### filigreelaw04_alive: function 13 -/
def filigreelaw04_alive.f (k : Nat)  : Option (Bool) := (graph_Make.f k 3 (([(⟨2, 0, 0⟩ : S36), (⟨0, 1, 0⟩ : S36)] : List (S36)))).bind fun bt129 => (if bt129.2.2 = 0 then (if (bt129.2.1.length : Int) = 2 then (if 1 < (bt129.2.1.length : Int) then (if (((rd_T36 bt129.2.1 1).f0) == 0 && (((rd_T36 bt129.2.1 1).f1) == 2 && (((rd_T36 bt129.2.1 1).f2) == 0))) = true then ((graph_Right.f k bt129.1 bt129.2.1).bind fun t136 => (if t136 = 0 then ((graph_Find.f k bt129.1 bt129.2.1 2 0).bind fun t137 => (if t137 = 1 then ((graph_Find.f k bt129.1 bt129.2.1 1 2).bind fun t138 => (some (t138 == (-1)))) else (some false))) else (some false))) else (some false)) else (none)) else (some false)) else (some false))
set_option maxHeartbeats 8000000 in
set_option maxRecDepth 100000 in
theorem filigreelaw04_alive.calls (k : Nat)  (r : Bool) (w : World) (h : filigreelaw04_alive.f k  = some r) :
    Calls Try.prog 13 #[] w fun e w' => e = .returned (.bool r) ∧ Below w.heap.size w w' := by
  have hu36 := Try.underlying36
  have hu24 := Try.underlying24
  have HB := zMk (Below.refl w.heap.size w)
  have H : ((graph_Make.f k 3 (([(⟨2, 0, 0⟩ : S36), (⟨0, 1, 0⟩ : S36)] : List (S36)))).bind fun bt129 => (if bt129.2.2 = 0 then (if (bt129.2.1.length : Int) = 2 then (if 1 < (bt129.2.1.length : Int) then (if (((rd_T36 bt129.2.1 1).f0) == 0 && (((rd_T36 bt129.2.1 1).f1) == 2 && (((rd_T36 bt129.2.1 1).f2) == 0))) = true then ((graph_Right.f k bt129.1 bt129.2.1).bind fun t136 => (if t136 = 0 then ((graph_Find.f k bt129.1 bt129.2.1 2 0).bind fun t137 => (if t137 = 1 then ((graph_Find.f k bt129.1 bt129.2.1 1 2).bind fun t138 => (some (t138 == (-1)))) else (some false))) else (some false))) else (some false)) else (none)) else (some false)) else (some false))) = some r := h
  clear h
  obtain ⟨y126, hy126⟩ : ∃ y_ : List (S36), y_ = (([(⟨2, 0, 0⟩ : S36), (⟨0, 1, 0⟩ : S36)] : List (S36))) := ⟨_, rfl⟩
  replace H : ((graph_Make.f k 3 y126).bind fun bt129 => (if bt129.2.2 = 0 then (if (bt129.2.1.length : Int) = 2 then (if 1 < (bt129.2.1.length : Int) then (if (((rd_T36 bt129.2.1 1).f0) == 0 && (((rd_T36 bt129.2.1 1).f1) == 2 && (((rd_T36 bt129.2.1 1).f2) == 0))) = true then ((graph_Right.f k bt129.1 bt129.2.1).bind fun t136 => (if t136 = 0 then ((graph_Find.f k bt129.1 bt129.2.1 2 0).bind fun t137 => (if t137 = 1 then ((graph_Find.f k bt129.1 bt129.2.1 1 2).bind fun t138 => (some (t138 == (-1)))) else (some false))) else (some false))) else (some false)) else (none)) else (some false)) else (some false))) = some r := by first | (rw [hy126]; with_reducible exact H) | (have H2_ := bsm H; first | (rw [hy126]; with_reducible exact H2_) | with_reducible exact H2_) | with_reducible exact H | (rw [hy126]; exact H) | exact H
  have Ny126 := zMk hy126
  clear hy126
  replace H := bnd H
  obtain ⟨⟨t129, t130, t133⟩, A10, H⟩ := H
  replace H : (if t133 = 0 then (if (t130.length : Int) = 2 then (if 1 < (t130.length : Int) then (if (((rd_T36 t130 1).f0) == 0 && (((rd_T36 t130 1).f1) == 2 && (((rd_T36 t130 1).f2) == 0))) = true then ((graph_Right.f k t129 t130).bind fun t136 => (if t136 = 0 then ((graph_Find.f k t129 t130 2 0).bind fun t137 => (if t137 = 1 then ((graph_Find.f k t129 t130 1 2).bind fun t138 => (some (t138 == (-1)))) else (some false))) else (some false))) else (some false)) else (none)) else (some false)) else (some false)) = some r := H
  have A1 := zMk A10
  clear A10
  by_cases c2 : t133 = 0
  · rw [if_pos c2] at H
    have c2b0 : (t133 == 0) = true := beq_iff_eq.mpr c2
    have c2b1 : (t133 != 0) = false := bne_eq_false_iff_eq.mpr c2
    clear c2
    by_cases c3 : (t130.length : Int) = 2
    · rw [if_pos c3] at H
      have c3b0 : ((t130.length : Int) == 2) = true := beq_iff_eq.mpr c3
      have c3b1 : ((t130.length : Int) != 2) = false := bne_eq_false_iff_eq.mpr c3
      clear c3
      by_cases c4 : 1 < (t130.length : Int)
      rotate_left
      · rw [if_neg c4] at H; exact absurd H (by simp)
      rw [if_pos c4] at H
      have c4b0 : decide (1 < (t130.length : Int)) = true := decide_eq_true c4
      have c4b1 : decide (1 < t130.length) = true := decide_eq_true (by omega)
      clear c4
      by_cases c5 : (((rd_T36 t130 1).f0) == 0 && (((rd_T36 t130 1).f1) == 2 && (((rd_T36 t130 1).f2) == 0))) = true
      · rw [if_pos c5] at H
        have c5b0 : (((rd_T36 t130 1).f0) == 0 && (((rd_T36 t130 1).f1) == 2 && (((rd_T36 t130 1).f2) == 0))) = true := c5
        (try (have c5b1 : decide (((rd_T36 t130 1).f0) = 0 && (((rd_T36 t130 1).f1) == 2 && (((rd_T36 t130 1).f2) == 0))) = true := by simpa using c5))
        (try (have c5b2 : (((rd_T36 t130 1).f0) == 0 && (((rd_T36 t130 1).f1) == 2 && (((rd_T36 t130 1).f2) == 0))) = true := by simpa using c5))
        clear c5
        replace H := bnd H
        obtain ⟨t136, A60, H⟩ := H
        have A6 := zMk A60
        clear A60
        by_cases c7 : t136 = 0
        · rw [if_pos c7] at H
          have c7b0 : (t136 == 0) = true := beq_iff_eq.mpr c7
          have c7b1 : (t136 != 0) = false := bne_eq_false_iff_eq.mpr c7
          clear c7
          replace H := bnd H
          obtain ⟨t137, A80, H⟩ := H
          have A8 := zMk A80
          clear A80
          by_cases c9 : t137 = 1
          · rw [if_pos c9] at H
            have c9b0 : (t137 == 1) = true := beq_iff_eq.mpr c9
            have c9b1 : (t137 != 1) = false := bne_eq_false_iff_eq.mpr c9
            clear c9
            replace H := bnd H
            obtain ⟨t138, A100, H⟩ := H
            have A10 := zMk A100
            clear A100
            obtain rfl := zOi H
            go_enter Try.func13, Try.ntmps13
            go_wp2_with (first |  ((with_reducible refine gate_dst (N := 6) rfl ?_); (try (refine gate_guard (by rfl) ?_; dsimp only)); refine Kd.R_lit k36 _ 36 ?hg (N := 6) ?hd (xs := ([(⟨2, 0, 0⟩ : S36), (⟨0, 1, 0⟩ : S36)] : List (S36))) (inner := [.int .i64 2, .int .i64 0, .int .i64 0, .int .i64 0, .int .i64 1, .int .i64 0]) (ok := fun _ => True) (okp := fun _ => True) ?hr ?hp (fun _ hk => hk) trivial (Below.refl _ _) (Nat.le_refl _) (by simp) ?_; (case hd => rfl); (case hg => rfl); (case hr => first |  (go_simp; done)|  (go_simp; rfl)|  (go_simp; rw [show ∀ x : Int, IntKind.u32.wrap (IntKind.u8.wrap x) = x % 256 from fun x => (by show (x % 256) % 4294967296 = x % 256; omega)])); (case hp => exact (Reps.c3 (show Kd.M k36 _ _ _ (⟨2, 0, 0⟩ : S36) [.int .i64 2, .int .i64 0, .int .i64 0] from (k36_mkM _ _ _ (⟨2, 0, 0⟩ : S36) )) (Reps.c3 (show Kd.M k36 _ _ _ (⟨0, 1, 0⟩ : S36) [.int .i64 0, .int .i64 1, .int .i64 0] from (k36_mkM _ _ _ (⟨0, 1, 0⟩ : S36) )) (Reps.none _ _)))); intro v127 w11 ho12 hb hg_ hnew_; clear hg_ hnew_; (first |  rw [← Ny126.out] at ho12|  (simp only [Int.reduceToNat] at ho12; rw [← Ny126.out] at ho12)); have HO128 := zMk (zRl ho12 (zBs (by exact uT HB.out))); replace HB := zMk (zBt (by exact uT HB.out) hb); clear hb ho12; obtain ⟨Ao13, co13, eo13⟩ := zRs HO128.out; subst eo13)|  ((with_reducible refine gate_callee (f := 14) rfl ?_); refine goesL_ (some 7) rfl rfl Try.func14 (by kernel_rfl) rfl #[.int .i64 3, .slice Ao13 y126.length co13] rfl (by (try simp only [zMa, zMc, zMn]); first |  done|  rfl|  (simp only [zLd, zLt]; rfl)) ?_; (with_reducible refine (graph_Make.calls k 3 _ _ y126 t129 t130 t133 _ ?side1 ?side2 A1.out).mono ?_); (case side1 => exact uC (zRr HO128.out).2.2); (case side2 => exact (zRr HO128.out).2.1); rintro e w14 ⟨v131, rfl, ho0, hb⟩; refine ⟨_, rfl, ?_⟩; have HO132 := zMk (zRl (zRw ho0 (zRt (by exact uR HO128.out))) (zBs (by exact uT HB.out))); replace HO128 := zMk (zRe (by exact uR HO128.out) (zRz ho0) hb); replace HB := zMk (zBt (by exact uT HB.out) hb); (try clear hb); (try clear hb2); (try clear hk); (try clear hi); (try clear ho0))|  ((with_reducible refine gate_dst (N := 1) rfl ?_); (try (refine gate_guard (by rfl) ?_; dsimp only)); refine box_event ?hg (N := 1) ?hd (cs := #[.int .i64 0, .slice none 0 0]) (t := 24) ?hr ?_; (case hd => rfl); (case hg => rfl); (case hr => first |  (go_simp; done)|  (go_simp; rfl)|  (go_simp; rw [show ∀ x : Int, IntKind.u32.wrap (IntKind.u8.wrap x) = x % 256 from fun x => (by show (x % 256) % 4294967296 = x % 256; omega)])); intro gb134 hg w15 hbox hb; replace HO128 := zMk (zRb (by exact uR HO128.out) hb); replace HO132 := zMk (zRb (by exact uR HO132.out) hb); have BK134 := zMk (hbox); have GW134 := zMk ((by rw [hg]; exact (zBs (by exact uT HB.out)) : w.heap.size ≤ gb134)); have GE134 := zMk ((by rw [hg]; exact (zBs (by exact uT HB.out)) : w.heap.size ≤ gb134)); have IGE134 := ownGe GE134.out; replace HB := zMk (zBt (by exact uT HB.out) hb); clear hb hbox hg; have hcz16_0 : w15.cell? ⟨gb134, 0, none⟩ = some (.int .i64 0) := (zKc BK134.out 0).trans rfl; have hcz16_1 : w15.cell? ⟨gb134, 1, none⟩ = some (.slice none 0 0) := (zKc BK134.out 1).trans rfl; have hfz16_0 := zKf BK134.out 0; have hfz16_1 := zKf BK134.out 1; obtain ⟨Ao17, co17, eo17⟩ := zRs HO132.out; subst eo17; have p135 : 0 ≤ (1 : Int) := (by omega); have q135 : 1 < (t130.length : Int) := of_decide_eq_true (by first |  (with_reducible assumption)|  assumption); obtain ⟨ad135, e135, hx135_0, hx135_1, hx135_2⟩ := at_T36 (zRr HO132.out).2.2 1 p135 q135; cases e135; (try simp only [show (1 : Int).toNat = 1 from rfl, Nat.reduceMul, Nat.reduceEqDiff, Go.Addr.add, ↓reduceIte] at hx135_0); (try simp only [show (1 : Int).toNat = 1 from rfl, Nat.reduceMul, Nat.reduceEqDiff, Go.Addr.add, ↓reduceIte] at hx135_1); (try simp only [show (1 : Int).toNat = 1 from rfl, Nat.reduceMul, Nat.reduceEqDiff, Go.Addr.add, ↓reduceIte] at hx135_2); have qi135 : (1 < t130.length) = True := eq_true (by omega); (try rw [show ((1 : Int)).toNat = 1 from rfl] at hx135_0); (try rw [show 1 * 3 = 3 from rfl] at hx135_0); (try rw [show ((1 : Int)).toNat = 1 from rfl] at hx135_1); (try rw [show 1 * 3 = 3 from rfl] at hx135_1); (try rw [show ((1 : Int)).toNat = 1 from rfl] at hx135_2); (try rw [show 1 * 3 = 3 from rfl] at hx135_2); have hn135_0 : ad135.block ≠ gb134 := Kd.own_blk (Kd.R_ne HO132.out BK134.out (by decide)); have hn135_1 : ad135.block ≠ gb134 := Kd.own_blk (Kd.R_ne HO132.out BK134.out (by decide)); replace hx135_0 := (cell_far (p := ⟨gb134, 0, none⟩) (by first |  (rw [add_block]; exact hn135_0)|  (show (Addr.add _ _).block ≠ _; rw [add_block]; exact hn135_0)|  exact hn135_0) (.int .i64 t129)).trans hx135_0; replace hx135_1 := (cell_far (p := ⟨gb134, 0, none⟩) (by first |  (rw [add_block]; exact hn135_0)|  (show (Addr.add _ _).block ≠ _; rw [add_block]; exact hn135_0)|  exact hn135_0) (.int .i64 t129)).trans hx135_1; replace hx135_2 := (cell_far (p := ⟨gb134, 0, none⟩) (by first |  (rw [add_block]; exact hn135_0)|  (show (Addr.add _ _).block ≠ _; rw [add_block]; exact hn135_0)|  exact hn135_0) (.int .i64 t129)).trans hx135_2; replace hx135_0 := (cell_far (p := ⟨gb134, 1, none⟩) (by first |  (rw [add_block]; exact hn135_1)|  (show (Addr.add _ _).block ≠ _; rw [add_block]; exact hn135_1)|  exact hn135_1) (.slice (some ad135) t130.length co17)).trans hx135_0; replace hx135_1 := (cell_far (p := ⟨gb134, 1, none⟩) (by first |  (rw [add_block]; exact hn135_1)|  (show (Addr.add _ _).block ≠ _; rw [add_block]; exact hn135_1)|  exact hn135_1) (.slice (some ad135) t130.length co17)).trans hx135_1; replace hx135_2 := (cell_far (p := ⟨gb134, 1, none⟩) (by first |  (rw [add_block]; exact hn135_1)|  (show (Addr.add _ _).block ≠ _; rw [add_block]; exact hn135_1)|  exact hn135_1) (.slice (some ad135) t130.length co17)).trans hx135_2; clear hn135_0 hn135_1; replace p135 := eq_true p135; replace q135 := eq_true q135)|  (go_at_call 11; (with_reducible refine (graph_Right.calls k t129 _ _ t130 t136 _ ?side1 ?side2 A6.out).mono ?_); (case side1 => refine (zRr (e := 36) (base := w.heap.size) (ok := fun k_ => (True ∧ some k_ ≠ (.slice Ao13 y126.length co13 : Value).ownBlock)) (n := t130.length) (c := co17) ?_).2.2; exact (by (with_reducible repeat (first |  apply zRa|  apply zRn|  apply zRd)); exact (zRm (Kd.R_far (p := ⟨gb134, 1, none⟩) (Kd.R_far (p := ⟨gb134, 0, none⟩) (Kd.R_types HO132.out BK134.out (by decide)) (fun _ hk => hk.2) (.int .i64 t129)) (fun _ hk => hk.2) (.slice (some ad135) t130.length co17)) (fun _ h_ => h_.1)))); (case side2 => exact (zRr HO132.out).2.1); rintro e w18 ⟨rfl, hb⟩; replace HO128 := zMk (zRb (by (with_reducible repeat (first |  apply zRa|  apply zRn|  apply zRd)); exact (zRm (Kd.R_far (p := ⟨gb134, 1, none⟩) (Kd.R_far (p := ⟨gb134, 0, none⟩) (Kd.R_types HO128.out BK134.out (by decide)) (fun _ hk => hk.2) (.int .i64 t129)) (fun _ hk => hk.2) (.slice (some ad135) t130.length co17)) (fun _ h_ => h_.1))) hb); replace HO132 := zMk (zRb (by (with_reducible repeat (first |  apply zRa|  apply zRn|  apply zRd)); exact (zRm (Kd.R_far (p := ⟨gb134, 1, none⟩) (Kd.R_far (p := ⟨gb134, 0, none⟩) (Kd.R_types HO132.out BK134.out (by decide)) (fun _ hk => hk.2) (.int .i64 t129)) (fun _ hk => hk.2) (.slice (some ad135) t130.length co17)) (fun _ h_ => h_.1))) hb); replace BK134 := zMk (zKb (g := gb134) (o := .cells #[.int .i64 t129, .slice (some ad135) t130.length co17] 24 (0, 0)) (by (with_reducible repeat (first |  refine zKn ?_ _|  refine zKd ?_|  refine zKa ?_ _)); refine blk_put (cs := #[.int .i64 t129, .slice none 0 0]) ?_ 1 _ rfl; (with_reducible repeat (first |  refine zKn ?_ _|  refine zKd ?_|  refine zKa ?_ _)); refine blk_put (cs := #[.int .i64 0, .slice none 0 0]) ?_ 0 _ rfl; (with_reducible repeat (first |  refine zKn ?_ _|  refine zKd ?_|  refine zKa ?_ _)); exact BK134.out) hb); replace HB := zMk (zBt (by exact uT HB.out) hb); (try clear hb); (try clear hb2); (try clear hk); (try clear hi); have hcz19_0 : w18.cell? ⟨gb134, 0, none⟩ = some (.int .i64 t129) := (zKc BK134.out 0).trans rfl; have hcz19_1 : w18.cell? ⟨gb134, 1, none⟩ = some (.slice (some ad135) t130.length co17) := (zKc BK134.out 1).trans rfl; have hfz19_0 := zKf BK134.out 0; have hfz19_1 := zKf BK134.out 1)|  (go_at_call 25; (with_reducible refine (graph_Find.calls k t129 _ _ t130 2 0 t137 _ ?side1 ?side2 A8.out).mono ?_); (case side1 => exact uC (zRr HO132.out).2.2); (case side2 => exact (zRr HO132.out).2.1); rintro e w20 ⟨rfl, hb⟩; replace HO128 := zMk (zRb (by exact uR HO128.out) hb); replace HO132 := zMk (zRb (by exact uR HO132.out) hb); replace BK134 := zMk (zKb (g := gb134) (o := .cells #[.int .i64 t129, .slice (some ad135) t130.length co17] 24 (0, 0)) (by (with_reducible repeat (first |  refine zKn ?_ _|  refine zKd ?_|  refine zKa ?_ _)); exact BK134.out) hb); replace HB := zMk (zBt (by exact uT HB.out) hb); (try clear hb); (try clear hb2); (try clear hk); (try clear hi); have hcz21_0 : w20.cell? ⟨gb134, 0, none⟩ = some (.int .i64 t129) := (zKc BK134.out 0).trans rfl; have hcz21_1 : w20.cell? ⟨gb134, 1, none⟩ = some (.slice (some ad135) t130.length co17) := (zKc BK134.out 1).trans rfl; have hfz21_0 := zKf BK134.out 0; have hfz21_1 := zKf BK134.out 1)|  (go_at_call 25; (with_reducible refine (graph_Find.calls k t129 _ _ t130 1 2 t138 _ ?side1 ?side2 A10.out).mono ?_); (case side1 => exact uC (zRr HO132.out).2.2); (case side2 => exact (zRr HO132.out).2.1); rintro e w22 ⟨rfl, hb⟩; replace HO128 := zMk (zRb (by exact uR HO128.out) hb); replace HO132 := zMk (zRb (by exact uR HO132.out) hb); replace BK134 := zMk (zKb (g := gb134) (o := .cells #[.int .i64 t129, .slice (some ad135) t130.length co17] 24 (0, 0)) (by (with_reducible repeat (first |  refine zKn ?_ _|  refine zKd ?_|  refine zKa ?_ _)); exact BK134.out) hb); replace HB := zMk (zBt (by exact uT HB.out) hb); (try clear hb); (try clear hb2); (try clear hk); (try clear hi)))
            go_ret
            exact ⟨by first | rfl | (simp [errW_none, errW_some] <;> rfl) | (simp [*, errW_none, errW_some] <;> rfl), by exact uT HB.out⟩
          · rw [if_neg c9] at H
            have c9b0 : (t137 == 1) = false := beq_eq_false_iff_ne.mpr c9
            have c9b1 : (t137 != 1) = true := bne_iff_ne.mpr c9
            obtain rfl := zOi H
            go_enter Try.func13, Try.ntmps13
            go_wp2_with (first |  ((with_reducible refine gate_dst (N := 6) rfl ?_); (try (refine gate_guard (by rfl) ?_; dsimp only)); refine Kd.R_lit k36 _ 36 ?hg (N := 6) ?hd (xs := ([(⟨2, 0, 0⟩ : S36), (⟨0, 1, 0⟩ : S36)] : List (S36))) (inner := [.int .i64 2, .int .i64 0, .int .i64 0, .int .i64 0, .int .i64 1, .int .i64 0]) (ok := fun _ => True) (okp := fun _ => True) ?hr ?hp (fun _ hk => hk) trivial (Below.refl _ _) (Nat.le_refl _) (by simp) ?_; (case hd => rfl); (case hg => rfl); (case hr => first |  (go_simp; done)|  (go_simp; rfl)|  (go_simp; rw [show ∀ x : Int, IntKind.u32.wrap (IntKind.u8.wrap x) = x % 256 from fun x => (by show (x % 256) % 4294967296 = x % 256; omega)])); (case hp => exact (Reps.c3 (show Kd.M k36 _ _ _ (⟨2, 0, 0⟩ : S36) [.int .i64 2, .int .i64 0, .int .i64 0] from (k36_mkM _ _ _ (⟨2, 0, 0⟩ : S36) )) (Reps.c3 (show Kd.M k36 _ _ _ (⟨0, 1, 0⟩ : S36) [.int .i64 0, .int .i64 1, .int .i64 0] from (k36_mkM _ _ _ (⟨0, 1, 0⟩ : S36) )) (Reps.none _ _)))); intro v127 w23 ho24 hb hg_ hnew_; clear hg_ hnew_; (first |  rw [← Ny126.out] at ho24|  (simp only [Int.reduceToNat] at ho24; rw [← Ny126.out] at ho24)); have HO128 := zMk (zRl ho24 (zBs (by exact uT HB.out))); replace HB := zMk (zBt (by exact uT HB.out) hb); clear hb ho24; obtain ⟨Ao25, co25, eo25⟩ := zRs HO128.out; subst eo25)|  ((with_reducible refine gate_callee (f := 14) rfl ?_); refine goesL_ (some 7) rfl rfl Try.func14 (by kernel_rfl) rfl #[.int .i64 3, .slice Ao25 y126.length co25] rfl (by (try simp only [zMa, zMc, zMn]); first |  done|  rfl|  (simp only [zLd, zLt]; rfl)) ?_; (with_reducible refine (graph_Make.calls k 3 _ _ y126 t129 t130 t133 _ ?side1 ?side2 A1.out).mono ?_); (case side1 => exact uC (zRr HO128.out).2.2); (case side2 => exact (zRr HO128.out).2.1); rintro e w26 ⟨v131, rfl, ho0, hb⟩; refine ⟨_, rfl, ?_⟩; have HO132 := zMk (zRl (zRw ho0 (zRt (by exact uR HO128.out))) (zBs (by exact uT HB.out))); replace HO128 := zMk (zRe (by exact uR HO128.out) (zRz ho0) hb); replace HB := zMk (zBt (by exact uT HB.out) hb); (try clear hb); (try clear hb2); (try clear hk); (try clear hi); (try clear ho0))|  ((with_reducible refine gate_dst (N := 1) rfl ?_); (try (refine gate_guard (by rfl) ?_; dsimp only)); refine box_event ?hg (N := 1) ?hd (cs := #[.int .i64 0, .slice none 0 0]) (t := 24) ?hr ?_; (case hd => rfl); (case hg => rfl); (case hr => first |  (go_simp; done)|  (go_simp; rfl)|  (go_simp; rw [show ∀ x : Int, IntKind.u32.wrap (IntKind.u8.wrap x) = x % 256 from fun x => (by show (x % 256) % 4294967296 = x % 256; omega)])); intro gb134 hg w27 hbox hb; replace HO128 := zMk (zRb (by exact uR HO128.out) hb); replace HO132 := zMk (zRb (by exact uR HO132.out) hb); have BK134 := zMk (hbox); have GW134 := zMk ((by rw [hg]; exact (zBs (by exact uT HB.out)) : w.heap.size ≤ gb134)); have GE134 := zMk ((by rw [hg]; exact (zBs (by exact uT HB.out)) : w.heap.size ≤ gb134)); have IGE134 := ownGe GE134.out; replace HB := zMk (zBt (by exact uT HB.out) hb); clear hb hbox hg; have hcz28_0 : w27.cell? ⟨gb134, 0, none⟩ = some (.int .i64 0) := (zKc BK134.out 0).trans rfl; have hcz28_1 : w27.cell? ⟨gb134, 1, none⟩ = some (.slice none 0 0) := (zKc BK134.out 1).trans rfl; have hfz28_0 := zKf BK134.out 0; have hfz28_1 := zKf BK134.out 1; obtain ⟨Ao29, co29, eo29⟩ := zRs HO132.out; subst eo29; have p135 : 0 ≤ (1 : Int) := (by omega); have q135 : 1 < (t130.length : Int) := of_decide_eq_true (by first |  (with_reducible assumption)|  assumption); obtain ⟨ad135, e135, hx135_0, hx135_1, hx135_2⟩ := at_T36 (zRr HO132.out).2.2 1 p135 q135; cases e135; (try simp only [show (1 : Int).toNat = 1 from rfl, Nat.reduceMul, Nat.reduceEqDiff, Go.Addr.add, ↓reduceIte] at hx135_0); (try simp only [show (1 : Int).toNat = 1 from rfl, Nat.reduceMul, Nat.reduceEqDiff, Go.Addr.add, ↓reduceIte] at hx135_1); (try simp only [show (1 : Int).toNat = 1 from rfl, Nat.reduceMul, Nat.reduceEqDiff, Go.Addr.add, ↓reduceIte] at hx135_2); have qi135 : (1 < t130.length) = True := eq_true (by omega); (try rw [show ((1 : Int)).toNat = 1 from rfl] at hx135_0); (try rw [show 1 * 3 = 3 from rfl] at hx135_0); (try rw [show ((1 : Int)).toNat = 1 from rfl] at hx135_1); (try rw [show 1 * 3 = 3 from rfl] at hx135_1); (try rw [show ((1 : Int)).toNat = 1 from rfl] at hx135_2); (try rw [show 1 * 3 = 3 from rfl] at hx135_2); have hn135_0 : ad135.block ≠ gb134 := Kd.own_blk (Kd.R_ne HO132.out BK134.out (by decide)); have hn135_1 : ad135.block ≠ gb134 := Kd.own_blk (Kd.R_ne HO132.out BK134.out (by decide)); replace hx135_0 := (cell_far (p := ⟨gb134, 0, none⟩) (by first |  (rw [add_block]; exact hn135_0)|  (show (Addr.add _ _).block ≠ _; rw [add_block]; exact hn135_0)|  exact hn135_0) (.int .i64 t129)).trans hx135_0; replace hx135_1 := (cell_far (p := ⟨gb134, 0, none⟩) (by first |  (rw [add_block]; exact hn135_0)|  (show (Addr.add _ _).block ≠ _; rw [add_block]; exact hn135_0)|  exact hn135_0) (.int .i64 t129)).trans hx135_1; replace hx135_2 := (cell_far (p := ⟨gb134, 0, none⟩) (by first |  (rw [add_block]; exact hn135_0)|  (show (Addr.add _ _).block ≠ _; rw [add_block]; exact hn135_0)|  exact hn135_0) (.int .i64 t129)).trans hx135_2; replace hx135_0 := (cell_far (p := ⟨gb134, 1, none⟩) (by first |  (rw [add_block]; exact hn135_1)|  (show (Addr.add _ _).block ≠ _; rw [add_block]; exact hn135_1)|  exact hn135_1) (.slice (some ad135) t130.length co29)).trans hx135_0; replace hx135_1 := (cell_far (p := ⟨gb134, 1, none⟩) (by first |  (rw [add_block]; exact hn135_1)|  (show (Addr.add _ _).block ≠ _; rw [add_block]; exact hn135_1)|  exact hn135_1) (.slice (some ad135) t130.length co29)).trans hx135_1; replace hx135_2 := (cell_far (p := ⟨gb134, 1, none⟩) (by first |  (rw [add_block]; exact hn135_1)|  (show (Addr.add _ _).block ≠ _; rw [add_block]; exact hn135_1)|  exact hn135_1) (.slice (some ad135) t130.length co29)).trans hx135_2; clear hn135_0 hn135_1; replace p135 := eq_true p135; replace q135 := eq_true q135)|  (go_at_call 11; (with_reducible refine (graph_Right.calls k t129 _ _ t130 t136 _ ?side1 ?side2 A6.out).mono ?_); (case side1 => refine (zRr (e := 36) (base := w.heap.size) (ok := fun k_ => (True ∧ some k_ ≠ (.slice Ao25 y126.length co25 : Value).ownBlock)) (n := t130.length) (c := co29) ?_).2.2; exact (by (with_reducible repeat (first |  apply zRa|  apply zRn|  apply zRd)); exact (zRm (Kd.R_far (p := ⟨gb134, 1, none⟩) (Kd.R_far (p := ⟨gb134, 0, none⟩) (Kd.R_types HO132.out BK134.out (by decide)) (fun _ hk => hk.2) (.int .i64 t129)) (fun _ hk => hk.2) (.slice (some ad135) t130.length co29)) (fun _ h_ => h_.1)))); (case side2 => exact (zRr HO132.out).2.1); rintro e w30 ⟨rfl, hb⟩; replace HO128 := zMk (zRb (by (with_reducible repeat (first |  apply zRa|  apply zRn|  apply zRd)); exact (zRm (Kd.R_far (p := ⟨gb134, 1, none⟩) (Kd.R_far (p := ⟨gb134, 0, none⟩) (Kd.R_types HO128.out BK134.out (by decide)) (fun _ hk => hk.2) (.int .i64 t129)) (fun _ hk => hk.2) (.slice (some ad135) t130.length co29)) (fun _ h_ => h_.1))) hb); replace HO132 := zMk (zRb (by (with_reducible repeat (first |  apply zRa|  apply zRn|  apply zRd)); exact (zRm (Kd.R_far (p := ⟨gb134, 1, none⟩) (Kd.R_far (p := ⟨gb134, 0, none⟩) (Kd.R_types HO132.out BK134.out (by decide)) (fun _ hk => hk.2) (.int .i64 t129)) (fun _ hk => hk.2) (.slice (some ad135) t130.length co29)) (fun _ h_ => h_.1))) hb); replace BK134 := zMk (zKb (g := gb134) (o := .cells #[.int .i64 t129, .slice (some ad135) t130.length co29] 24 (0, 0)) (by (with_reducible repeat (first |  refine zKn ?_ _|  refine zKd ?_|  refine zKa ?_ _)); refine blk_put (cs := #[.int .i64 t129, .slice none 0 0]) ?_ 1 _ rfl; (with_reducible repeat (first |  refine zKn ?_ _|  refine zKd ?_|  refine zKa ?_ _)); refine blk_put (cs := #[.int .i64 0, .slice none 0 0]) ?_ 0 _ rfl; (with_reducible repeat (first |  refine zKn ?_ _|  refine zKd ?_|  refine zKa ?_ _)); exact BK134.out) hb); replace HB := zMk (zBt (by exact uT HB.out) hb); (try clear hb); (try clear hb2); (try clear hk); (try clear hi); have hcz31_0 : w30.cell? ⟨gb134, 0, none⟩ = some (.int .i64 t129) := (zKc BK134.out 0).trans rfl; have hcz31_1 : w30.cell? ⟨gb134, 1, none⟩ = some (.slice (some ad135) t130.length co29) := (zKc BK134.out 1).trans rfl; have hfz31_0 := zKf BK134.out 0; have hfz31_1 := zKf BK134.out 1)|  (go_at_call 25; (with_reducible refine (graph_Find.calls k t129 _ _ t130 2 0 t137 _ ?side1 ?side2 A8.out).mono ?_); (case side1 => exact uC (zRr HO132.out).2.2); (case side2 => exact (zRr HO132.out).2.1); rintro e w32 ⟨rfl, hb⟩; replace HO128 := zMk (zRb (by exact uR HO128.out) hb); replace HO132 := zMk (zRb (by exact uR HO132.out) hb); replace BK134 := zMk (zKb (g := gb134) (o := .cells #[.int .i64 t129, .slice (some ad135) t130.length co29] 24 (0, 0)) (by (with_reducible repeat (first |  refine zKn ?_ _|  refine zKd ?_|  refine zKa ?_ _)); exact BK134.out) hb); replace HB := zMk (zBt (by exact uT HB.out) hb); (try clear hb); (try clear hb2); (try clear hk); (try clear hi)))
            go_ret
            exact ⟨by first | rfl | (simp [errW_none, errW_some] <;> rfl) | (simp [*, errW_none, errW_some] <;> rfl), by exact uT HB.out⟩
        · rw [if_neg c7] at H
          have c7b0 : (t136 == 0) = false := beq_eq_false_iff_ne.mpr c7
          have c7b1 : (t136 != 0) = true := bne_iff_ne.mpr c7
          obtain rfl := zOi H
          go_enter Try.func13, Try.ntmps13
          go_wp2_with (first |  ((with_reducible refine gate_dst (N := 6) rfl ?_); (try (refine gate_guard (by rfl) ?_; dsimp only)); refine Kd.R_lit k36 _ 36 ?hg (N := 6) ?hd (xs := ([(⟨2, 0, 0⟩ : S36), (⟨0, 1, 0⟩ : S36)] : List (S36))) (inner := [.int .i64 2, .int .i64 0, .int .i64 0, .int .i64 0, .int .i64 1, .int .i64 0]) (ok := fun _ => True) (okp := fun _ => True) ?hr ?hp (fun _ hk => hk) trivial (Below.refl _ _) (Nat.le_refl _) (by simp) ?_; (case hd => rfl); (case hg => rfl); (case hr => first |  (go_simp; done)|  (go_simp; rfl)|  (go_simp; rw [show ∀ x : Int, IntKind.u32.wrap (IntKind.u8.wrap x) = x % 256 from fun x => (by show (x % 256) % 4294967296 = x % 256; omega)])); (case hp => exact (Reps.c3 (show Kd.M k36 _ _ _ (⟨2, 0, 0⟩ : S36) [.int .i64 2, .int .i64 0, .int .i64 0] from (k36_mkM _ _ _ (⟨2, 0, 0⟩ : S36) )) (Reps.c3 (show Kd.M k36 _ _ _ (⟨0, 1, 0⟩ : S36) [.int .i64 0, .int .i64 1, .int .i64 0] from (k36_mkM _ _ _ (⟨0, 1, 0⟩ : S36) )) (Reps.none _ _)))); intro v127 w33 ho34 hb hg_ hnew_; clear hg_ hnew_; (first |  rw [← Ny126.out] at ho34|  (simp only [Int.reduceToNat] at ho34; rw [← Ny126.out] at ho34)); have HO128 := zMk (zRl ho34 (zBs (by exact uT HB.out))); replace HB := zMk (zBt (by exact uT HB.out) hb); clear hb ho34; obtain ⟨Ao35, co35, eo35⟩ := zRs HO128.out; subst eo35)|  ((with_reducible refine gate_callee (f := 14) rfl ?_); refine goesL_ (some 7) rfl rfl Try.func14 (by kernel_rfl) rfl #[.int .i64 3, .slice Ao35 y126.length co35] rfl (by (try simp only [zMa, zMc, zMn]); first |  done|  rfl|  (simp only [zLd, zLt]; rfl)) ?_; (with_reducible refine (graph_Make.calls k 3 _ _ y126 t129 t130 t133 _ ?side1 ?side2 A1.out).mono ?_); (case side1 => exact uC (zRr HO128.out).2.2); (case side2 => exact (zRr HO128.out).2.1); rintro e w36 ⟨v131, rfl, ho0, hb⟩; refine ⟨_, rfl, ?_⟩; have HO132 := zMk (zRl (zRw ho0 (zRt (by exact uR HO128.out))) (zBs (by exact uT HB.out))); replace HO128 := zMk (zRe (by exact uR HO128.out) (zRz ho0) hb); replace HB := zMk (zBt (by exact uT HB.out) hb); (try clear hb); (try clear hb2); (try clear hk); (try clear hi); (try clear ho0))|  ((with_reducible refine gate_dst (N := 1) rfl ?_); (try (refine gate_guard (by rfl) ?_; dsimp only)); refine box_event ?hg (N := 1) ?hd (cs := #[.int .i64 0, .slice none 0 0]) (t := 24) ?hr ?_; (case hd => rfl); (case hg => rfl); (case hr => first |  (go_simp; done)|  (go_simp; rfl)|  (go_simp; rw [show ∀ x : Int, IntKind.u32.wrap (IntKind.u8.wrap x) = x % 256 from fun x => (by show (x % 256) % 4294967296 = x % 256; omega)])); intro gb134 hg w37 hbox hb; replace HO128 := zMk (zRb (by exact uR HO128.out) hb); replace HO132 := zMk (zRb (by exact uR HO132.out) hb); have BK134 := zMk (hbox); have GW134 := zMk ((by rw [hg]; exact (zBs (by exact uT HB.out)) : w.heap.size ≤ gb134)); have GE134 := zMk ((by rw [hg]; exact (zBs (by exact uT HB.out)) : w.heap.size ≤ gb134)); have IGE134 := ownGe GE134.out; replace HB := zMk (zBt (by exact uT HB.out) hb); clear hb hbox hg; have hcz38_0 : w37.cell? ⟨gb134, 0, none⟩ = some (.int .i64 0) := (zKc BK134.out 0).trans rfl; have hcz38_1 : w37.cell? ⟨gb134, 1, none⟩ = some (.slice none 0 0) := (zKc BK134.out 1).trans rfl; have hfz38_0 := zKf BK134.out 0; have hfz38_1 := zKf BK134.out 1; obtain ⟨Ao39, co39, eo39⟩ := zRs HO132.out; subst eo39; have p135 : 0 ≤ (1 : Int) := (by omega); have q135 : 1 < (t130.length : Int) := of_decide_eq_true (by first |  (with_reducible assumption)|  assumption); obtain ⟨ad135, e135, hx135_0, hx135_1, hx135_2⟩ := at_T36 (zRr HO132.out).2.2 1 p135 q135; cases e135; (try simp only [show (1 : Int).toNat = 1 from rfl, Nat.reduceMul, Nat.reduceEqDiff, Go.Addr.add, ↓reduceIte] at hx135_0); (try simp only [show (1 : Int).toNat = 1 from rfl, Nat.reduceMul, Nat.reduceEqDiff, Go.Addr.add, ↓reduceIte] at hx135_1); (try simp only [show (1 : Int).toNat = 1 from rfl, Nat.reduceMul, Nat.reduceEqDiff, Go.Addr.add, ↓reduceIte] at hx135_2); have qi135 : (1 < t130.length) = True := eq_true (by omega); (try rw [show ((1 : Int)).toNat = 1 from rfl] at hx135_0); (try rw [show 1 * 3 = 3 from rfl] at hx135_0); (try rw [show ((1 : Int)).toNat = 1 from rfl] at hx135_1); (try rw [show 1 * 3 = 3 from rfl] at hx135_1); (try rw [show ((1 : Int)).toNat = 1 from rfl] at hx135_2); (try rw [show 1 * 3 = 3 from rfl] at hx135_2); have hn135_0 : ad135.block ≠ gb134 := Kd.own_blk (Kd.R_ne HO132.out BK134.out (by decide)); have hn135_1 : ad135.block ≠ gb134 := Kd.own_blk (Kd.R_ne HO132.out BK134.out (by decide)); replace hx135_0 := (cell_far (p := ⟨gb134, 0, none⟩) (by first |  (rw [add_block]; exact hn135_0)|  (show (Addr.add _ _).block ≠ _; rw [add_block]; exact hn135_0)|  exact hn135_0) (.int .i64 t129)).trans hx135_0; replace hx135_1 := (cell_far (p := ⟨gb134, 0, none⟩) (by first |  (rw [add_block]; exact hn135_0)|  (show (Addr.add _ _).block ≠ _; rw [add_block]; exact hn135_0)|  exact hn135_0) (.int .i64 t129)).trans hx135_1; replace hx135_2 := (cell_far (p := ⟨gb134, 0, none⟩) (by first |  (rw [add_block]; exact hn135_0)|  (show (Addr.add _ _).block ≠ _; rw [add_block]; exact hn135_0)|  exact hn135_0) (.int .i64 t129)).trans hx135_2; replace hx135_0 := (cell_far (p := ⟨gb134, 1, none⟩) (by first |  (rw [add_block]; exact hn135_1)|  (show (Addr.add _ _).block ≠ _; rw [add_block]; exact hn135_1)|  exact hn135_1) (.slice (some ad135) t130.length co39)).trans hx135_0; replace hx135_1 := (cell_far (p := ⟨gb134, 1, none⟩) (by first |  (rw [add_block]; exact hn135_1)|  (show (Addr.add _ _).block ≠ _; rw [add_block]; exact hn135_1)|  exact hn135_1) (.slice (some ad135) t130.length co39)).trans hx135_1; replace hx135_2 := (cell_far (p := ⟨gb134, 1, none⟩) (by first |  (rw [add_block]; exact hn135_1)|  (show (Addr.add _ _).block ≠ _; rw [add_block]; exact hn135_1)|  exact hn135_1) (.slice (some ad135) t130.length co39)).trans hx135_2; clear hn135_0 hn135_1; replace p135 := eq_true p135; replace q135 := eq_true q135)|  (go_at_call 11; (with_reducible refine (graph_Right.calls k t129 _ _ t130 t136 _ ?side1 ?side2 A6.out).mono ?_); (case side1 => refine (zRr (e := 36) (base := w.heap.size) (ok := fun k_ => (True ∧ some k_ ≠ (.slice Ao35 y126.length co35 : Value).ownBlock)) (n := t130.length) (c := co39) ?_).2.2; exact (by (with_reducible repeat (first |  apply zRa|  apply zRn|  apply zRd)); exact (zRm (Kd.R_far (p := ⟨gb134, 1, none⟩) (Kd.R_far (p := ⟨gb134, 0, none⟩) (Kd.R_types HO132.out BK134.out (by decide)) (fun _ hk => hk.2) (.int .i64 t129)) (fun _ hk => hk.2) (.slice (some ad135) t130.length co39)) (fun _ h_ => h_.1)))); (case side2 => exact (zRr HO132.out).2.1); rintro e w40 ⟨rfl, hb⟩; replace HO128 := zMk (zRb (by (with_reducible repeat (first |  apply zRa|  apply zRn|  apply zRd)); exact (zRm (Kd.R_far (p := ⟨gb134, 1, none⟩) (Kd.R_far (p := ⟨gb134, 0, none⟩) (Kd.R_types HO128.out BK134.out (by decide)) (fun _ hk => hk.2) (.int .i64 t129)) (fun _ hk => hk.2) (.slice (some ad135) t130.length co39)) (fun _ h_ => h_.1))) hb); replace HO132 := zMk (zRb (by (with_reducible repeat (first |  apply zRa|  apply zRn|  apply zRd)); exact (zRm (Kd.R_far (p := ⟨gb134, 1, none⟩) (Kd.R_far (p := ⟨gb134, 0, none⟩) (Kd.R_types HO132.out BK134.out (by decide)) (fun _ hk => hk.2) (.int .i64 t129)) (fun _ hk => hk.2) (.slice (some ad135) t130.length co39)) (fun _ h_ => h_.1))) hb); replace BK134 := zMk (zKb (g := gb134) (o := .cells #[.int .i64 t129, .slice (some ad135) t130.length co39] 24 (0, 0)) (by (with_reducible repeat (first |  refine zKn ?_ _|  refine zKd ?_|  refine zKa ?_ _)); refine blk_put (cs := #[.int .i64 t129, .slice none 0 0]) ?_ 1 _ rfl; (with_reducible repeat (first |  refine zKn ?_ _|  refine zKd ?_|  refine zKa ?_ _)); refine blk_put (cs := #[.int .i64 0, .slice none 0 0]) ?_ 0 _ rfl; (with_reducible repeat (first |  refine zKn ?_ _|  refine zKd ?_|  refine zKa ?_ _)); exact BK134.out) hb); replace HB := zMk (zBt (by exact uT HB.out) hb); (try clear hb); (try clear hb2); (try clear hk); (try clear hi)))
          go_ret
          exact ⟨by first | rfl | (simp [errW_none, errW_some] <;> rfl) | (simp [*, errW_none, errW_some] <;> rfl), by exact uT HB.out⟩
      · rw [if_neg c5] at H
        have c5b0 : (((rd_T36 t130 1).f0) == 0 && (((rd_T36 t130 1).f1) == 2 && (((rd_T36 t130 1).f2) == 0))) = false := by simpa using c5
        (try (have c5b1 : decide (((rd_T36 t130 1).f0) = 0 && (((rd_T36 t130 1).f1) == 2 && (((rd_T36 t130 1).f2) == 0))) = false := by simpa using c5))
        (try (have c5b2 : (((rd_T36 t130 1).f0) == 0 && (((rd_T36 t130 1).f1) == 2 && (((rd_T36 t130 1).f2) == 0))) = false := by simpa using c5))
        (try (have c5b3 : ¬ (((rd_T36 t130 1).f0) = 0 && (((rd_T36 t130 1).f1) == 2 && (((rd_T36 t130 1).f2) == 0))) := by simpa using c5))
        clear c5
        obtain rfl := zOi H
        go_enter Try.func13, Try.ntmps13
        go_wp2_with (first |  ((with_reducible refine gate_dst (N := 6) rfl ?_); (try (refine gate_guard (by rfl) ?_; dsimp only)); refine Kd.R_lit k36 _ 36 ?hg (N := 6) ?hd (xs := ([(⟨2, 0, 0⟩ : S36), (⟨0, 1, 0⟩ : S36)] : List (S36))) (inner := [.int .i64 2, .int .i64 0, .int .i64 0, .int .i64 0, .int .i64 1, .int .i64 0]) (ok := fun _ => True) (okp := fun _ => True) ?hr ?hp (fun _ hk => hk) trivial (Below.refl _ _) (Nat.le_refl _) (by simp) ?_; (case hd => rfl); (case hg => rfl); (case hr => first |  (go_simp; done)|  (go_simp; rfl)|  (go_simp; rw [show ∀ x : Int, IntKind.u32.wrap (IntKind.u8.wrap x) = x % 256 from fun x => (by show (x % 256) % 4294967296 = x % 256; omega)])); (case hp => exact (Reps.c3 (show Kd.M k36 _ _ _ (⟨2, 0, 0⟩ : S36) [.int .i64 2, .int .i64 0, .int .i64 0] from (k36_mkM _ _ _ (⟨2, 0, 0⟩ : S36) )) (Reps.c3 (show Kd.M k36 _ _ _ (⟨0, 1, 0⟩ : S36) [.int .i64 0, .int .i64 1, .int .i64 0] from (k36_mkM _ _ _ (⟨0, 1, 0⟩ : S36) )) (Reps.none _ _)))); intro v127 w41 ho42 hb hg_ hnew_; clear hg_ hnew_; (first |  rw [← Ny126.out] at ho42|  (simp only [Int.reduceToNat] at ho42; rw [← Ny126.out] at ho42)); have HO128 := zMk (zRl ho42 (zBs (by exact uT HB.out))); replace HB := zMk (zBt (by exact uT HB.out) hb); clear hb ho42; obtain ⟨Ao43, co43, eo43⟩ := zRs HO128.out; subst eo43)|  ((with_reducible refine gate_callee (f := 14) rfl ?_); refine goesL_ (some 7) rfl rfl Try.func14 (by kernel_rfl) rfl #[.int .i64 3, .slice Ao43 y126.length co43] rfl (by (try simp only [zMa, zMc, zMn]); first |  done|  rfl|  (simp only [zLd, zLt]; rfl)) ?_; (with_reducible refine (graph_Make.calls k 3 _ _ y126 t129 t130 t133 _ ?side1 ?side2 A1.out).mono ?_); (case side1 => exact uC (zRr HO128.out).2.2); (case side2 => exact (zRr HO128.out).2.1); rintro e w44 ⟨v131, rfl, ho0, hb⟩; refine ⟨_, rfl, ?_⟩; have HO132 := zMk (zRl (zRw ho0 (zRt (by exact uR HO128.out))) (zBs (by exact uT HB.out))); replace HO128 := zMk (zRe (by exact uR HO128.out) (zRz ho0) hb); replace HB := zMk (zBt (by exact uT HB.out) hb); (try clear hb); (try clear hb2); (try clear hk); (try clear hi); (try clear ho0))|  ((with_reducible refine gate_dst (N := 1) rfl ?_); (try (refine gate_guard (by rfl) ?_; dsimp only)); refine box_event ?hg (N := 1) ?hd (cs := #[.int .i64 0, .slice none 0 0]) (t := 24) ?hr ?_; (case hd => rfl); (case hg => rfl); (case hr => first |  (go_simp; done)|  (go_simp; rfl)|  (go_simp; rw [show ∀ x : Int, IntKind.u32.wrap (IntKind.u8.wrap x) = x % 256 from fun x => (by show (x % 256) % 4294967296 = x % 256; omega)])); intro gb134 hg w45 hbox hb; replace HO128 := zMk (zRb (by exact uR HO128.out) hb); replace HO132 := zMk (zRb (by exact uR HO132.out) hb); have BK134 := zMk (hbox); have GW134 := zMk ((by rw [hg]; exact (zBs (by exact uT HB.out)) : w.heap.size ≤ gb134)); have GE134 := zMk ((by rw [hg]; exact (zBs (by exact uT HB.out)) : w.heap.size ≤ gb134)); have IGE134 := ownGe GE134.out; replace HB := zMk (zBt (by exact uT HB.out) hb); clear hb hbox hg; have hcz46_0 : w45.cell? ⟨gb134, 0, none⟩ = some (.int .i64 0) := (zKc BK134.out 0).trans rfl; have hcz46_1 : w45.cell? ⟨gb134, 1, none⟩ = some (.slice none 0 0) := (zKc BK134.out 1).trans rfl; have hfz46_0 := zKf BK134.out 0; have hfz46_1 := zKf BK134.out 1; obtain ⟨Ao47, co47, eo47⟩ := zRs HO132.out; subst eo47; have p135 : 0 ≤ (1 : Int) := (by omega); have q135 : 1 < (t130.length : Int) := of_decide_eq_true (by first |  (with_reducible assumption)|  assumption); obtain ⟨ad135, e135, hx135_0, hx135_1, hx135_2⟩ := at_T36 (zRr HO132.out).2.2 1 p135 q135; cases e135; (try simp only [show (1 : Int).toNat = 1 from rfl, Nat.reduceMul, Nat.reduceEqDiff, Go.Addr.add, ↓reduceIte] at hx135_0); (try simp only [show (1 : Int).toNat = 1 from rfl, Nat.reduceMul, Nat.reduceEqDiff, Go.Addr.add, ↓reduceIte] at hx135_1); (try simp only [show (1 : Int).toNat = 1 from rfl, Nat.reduceMul, Nat.reduceEqDiff, Go.Addr.add, ↓reduceIte] at hx135_2); have qi135 : (1 < t130.length) = True := eq_true (by omega); (try rw [show ((1 : Int)).toNat = 1 from rfl] at hx135_0); (try rw [show 1 * 3 = 3 from rfl] at hx135_0); (try rw [show ((1 : Int)).toNat = 1 from rfl] at hx135_1); (try rw [show 1 * 3 = 3 from rfl] at hx135_1); (try rw [show ((1 : Int)).toNat = 1 from rfl] at hx135_2); (try rw [show 1 * 3 = 3 from rfl] at hx135_2); have hn135_0 : ad135.block ≠ gb134 := Kd.own_blk (Kd.R_ne HO132.out BK134.out (by decide)); have hn135_1 : ad135.block ≠ gb134 := Kd.own_blk (Kd.R_ne HO132.out BK134.out (by decide)); replace hx135_0 := (cell_far (p := ⟨gb134, 0, none⟩) (by first |  (rw [add_block]; exact hn135_0)|  (show (Addr.add _ _).block ≠ _; rw [add_block]; exact hn135_0)|  exact hn135_0) (.int .i64 t129)).trans hx135_0; replace hx135_1 := (cell_far (p := ⟨gb134, 0, none⟩) (by first |  (rw [add_block]; exact hn135_0)|  (show (Addr.add _ _).block ≠ _; rw [add_block]; exact hn135_0)|  exact hn135_0) (.int .i64 t129)).trans hx135_1; replace hx135_2 := (cell_far (p := ⟨gb134, 0, none⟩) (by first |  (rw [add_block]; exact hn135_0)|  (show (Addr.add _ _).block ≠ _; rw [add_block]; exact hn135_0)|  exact hn135_0) (.int .i64 t129)).trans hx135_2; replace hx135_0 := (cell_far (p := ⟨gb134, 1, none⟩) (by first |  (rw [add_block]; exact hn135_1)|  (show (Addr.add _ _).block ≠ _; rw [add_block]; exact hn135_1)|  exact hn135_1) (.slice (some ad135) t130.length co47)).trans hx135_0; replace hx135_1 := (cell_far (p := ⟨gb134, 1, none⟩) (by first |  (rw [add_block]; exact hn135_1)|  (show (Addr.add _ _).block ≠ _; rw [add_block]; exact hn135_1)|  exact hn135_1) (.slice (some ad135) t130.length co47)).trans hx135_1; replace hx135_2 := (cell_far (p := ⟨gb134, 1, none⟩) (by first |  (rw [add_block]; exact hn135_1)|  (show (Addr.add _ _).block ≠ _; rw [add_block]; exact hn135_1)|  exact hn135_1) (.slice (some ad135) t130.length co47)).trans hx135_2; clear hn135_0 hn135_1; replace p135 := eq_true p135; replace q135 := eq_true q135))
        go_ret
        exact ⟨by first | rfl | (simp [errW_none, errW_some] <;> rfl) | (simp [*, errW_none, errW_some] <;> rfl), by exact uT HB.out⟩
    · rw [if_neg c3] at H
      have c3b0 : ((t130.length : Int) == 2) = false := beq_eq_false_iff_ne.mpr c3
      have c3b1 : ((t130.length : Int) != 2) = true := bne_iff_ne.mpr c3
      obtain rfl := zOi H
      go_enter Try.func13, Try.ntmps13
      go_wp2_with (first |  ((with_reducible refine gate_dst (N := 6) rfl ?_); (try (refine gate_guard (by rfl) ?_; dsimp only)); refine Kd.R_lit k36 _ 36 ?hg (N := 6) ?hd (xs := ([(⟨2, 0, 0⟩ : S36), (⟨0, 1, 0⟩ : S36)] : List (S36))) (inner := [.int .i64 2, .int .i64 0, .int .i64 0, .int .i64 0, .int .i64 1, .int .i64 0]) (ok := fun _ => True) (okp := fun _ => True) ?hr ?hp (fun _ hk => hk) trivial (Below.refl _ _) (Nat.le_refl _) (by simp) ?_; (case hd => rfl); (case hg => rfl); (case hr => first |  (go_simp; done)|  (go_simp; rfl)|  (go_simp; rw [show ∀ x : Int, IntKind.u32.wrap (IntKind.u8.wrap x) = x % 256 from fun x => (by show (x % 256) % 4294967296 = x % 256; omega)])); (case hp => exact (Reps.c3 (show Kd.M k36 _ _ _ (⟨2, 0, 0⟩ : S36) [.int .i64 2, .int .i64 0, .int .i64 0] from (k36_mkM _ _ _ (⟨2, 0, 0⟩ : S36) )) (Reps.c3 (show Kd.M k36 _ _ _ (⟨0, 1, 0⟩ : S36) [.int .i64 0, .int .i64 1, .int .i64 0] from (k36_mkM _ _ _ (⟨0, 1, 0⟩ : S36) )) (Reps.none _ _)))); intro v127 w48 ho49 hb hg_ hnew_; clear hg_ hnew_; (first |  rw [← Ny126.out] at ho49|  (simp only [Int.reduceToNat] at ho49; rw [← Ny126.out] at ho49)); have HO128 := zMk (zRl ho49 (zBs (by exact uT HB.out))); replace HB := zMk (zBt (by exact uT HB.out) hb); clear hb ho49; obtain ⟨Ao50, co50, eo50⟩ := zRs HO128.out; subst eo50)|  ((with_reducible refine gate_callee (f := 14) rfl ?_); refine goesL_ (some 7) rfl rfl Try.func14 (by kernel_rfl) rfl #[.int .i64 3, .slice Ao50 y126.length co50] rfl (by (try simp only [zMa, zMc, zMn]); first |  done|  rfl|  (simp only [zLd, zLt]; rfl)) ?_; (with_reducible refine (graph_Make.calls k 3 _ _ y126 t129 t130 t133 _ ?side1 ?side2 A1.out).mono ?_); (case side1 => exact uC (zRr HO128.out).2.2); (case side2 => exact (zRr HO128.out).2.1); rintro e w51 ⟨v131, rfl, ho0, hb⟩; refine ⟨_, rfl, ?_⟩; have HO132 := zMk (zRl (zRw ho0 (zRt (by exact uR HO128.out))) (zBs (by exact uT HB.out))); replace HO128 := zMk (zRe (by exact uR HO128.out) (zRz ho0) hb); replace HB := zMk (zBt (by exact uT HB.out) hb); (try clear hb); (try clear hb2); (try clear hk); (try clear hi); (try clear ho0))|  ((with_reducible refine gate_dst (N := 1) rfl ?_); (try (refine gate_guard (by rfl) ?_; dsimp only)); refine box_event ?hg (N := 1) ?hd (cs := #[.int .i64 0, .slice none 0 0]) (t := 24) ?hr ?_; (case hd => rfl); (case hg => rfl); (case hr => first |  (go_simp; done)|  (go_simp; rfl)|  (go_simp; rw [show ∀ x : Int, IntKind.u32.wrap (IntKind.u8.wrap x) = x % 256 from fun x => (by show (x % 256) % 4294967296 = x % 256; omega)])); intro gb134 hg w52 hbox hb; replace HO128 := zMk (zRb (by exact uR HO128.out) hb); replace HO132 := zMk (zRb (by exact uR HO132.out) hb); have BK134 := zMk (hbox); have GW134 := zMk ((by rw [hg]; exact (zBs (by exact uT HB.out)) : w.heap.size ≤ gb134)); have GE134 := zMk ((by rw [hg]; exact (zBs (by exact uT HB.out)) : w.heap.size ≤ gb134)); have IGE134 := ownGe GE134.out; replace HB := zMk (zBt (by exact uT HB.out) hb); clear hb hbox hg; have hcz53_0 : w52.cell? ⟨gb134, 0, none⟩ = some (.int .i64 0) := (zKc BK134.out 0).trans rfl; have hcz53_1 : w52.cell? ⟨gb134, 1, none⟩ = some (.slice none 0 0) := (zKc BK134.out 1).trans rfl; have hfz53_0 := zKf BK134.out 0; have hfz53_1 := zKf BK134.out 1; obtain ⟨Ao54, co54, eo54⟩ := zRs HO132.out; subst eo54))
      go_ret
      exact ⟨by first | rfl | (simp [errW_none, errW_some] <;> rfl) | (simp [*, errW_none, errW_some] <;> rfl), by exact uT HB.out⟩
  · rw [if_neg c2] at H
    have c2b0 : (t133 == 0) = false := beq_eq_false_iff_ne.mpr c2
    have c2b1 : (t133 != 0) = true := bne_iff_ne.mpr c2
    obtain rfl := zOi H
    go_enter Try.func13, Try.ntmps13
    go_wp2_with (first |  ((with_reducible refine gate_dst (N := 6) rfl ?_); (try (refine gate_guard (by rfl) ?_; dsimp only)); refine Kd.R_lit k36 _ 36 ?hg (N := 6) ?hd (xs := ([(⟨2, 0, 0⟩ : S36), (⟨0, 1, 0⟩ : S36)] : List (S36))) (inner := [.int .i64 2, .int .i64 0, .int .i64 0, .int .i64 0, .int .i64 1, .int .i64 0]) (ok := fun _ => True) (okp := fun _ => True) ?hr ?hp (fun _ hk => hk) trivial (Below.refl _ _) (Nat.le_refl _) (by simp) ?_; (case hd => rfl); (case hg => rfl); (case hr => first |  (go_simp; done)|  (go_simp; rfl)|  (go_simp; rw [show ∀ x : Int, IntKind.u32.wrap (IntKind.u8.wrap x) = x % 256 from fun x => (by show (x % 256) % 4294967296 = x % 256; omega)])); (case hp => exact (Reps.c3 (show Kd.M k36 _ _ _ (⟨2, 0, 0⟩ : S36) [.int .i64 2, .int .i64 0, .int .i64 0] from (k36_mkM _ _ _ (⟨2, 0, 0⟩ : S36) )) (Reps.c3 (show Kd.M k36 _ _ _ (⟨0, 1, 0⟩ : S36) [.int .i64 0, .int .i64 1, .int .i64 0] from (k36_mkM _ _ _ (⟨0, 1, 0⟩ : S36) )) (Reps.none _ _)))); intro v127 w55 ho56 hb hg_ hnew_; clear hg_ hnew_; (first |  rw [← Ny126.out] at ho56|  (simp only [Int.reduceToNat] at ho56; rw [← Ny126.out] at ho56)); have HO128 := zMk (zRl ho56 (zBs (by exact uT HB.out))); replace HB := zMk (zBt (by exact uT HB.out) hb); clear hb ho56; obtain ⟨Ao57, co57, eo57⟩ := zRs HO128.out; subst eo57)|  ((with_reducible refine gate_callee (f := 14) rfl ?_); refine goesL_ (some 7) rfl rfl Try.func14 (by kernel_rfl) rfl #[.int .i64 3, .slice Ao57 y126.length co57] rfl (by (try simp only [zMa, zMc, zMn]); first |  done|  rfl|  (simp only [zLd, zLt]; rfl)) ?_; (with_reducible refine (graph_Make.calls k 3 _ _ y126 t129 t130 t133 _ ?side1 ?side2 A1.out).mono ?_); (case side1 => exact uC (zRr HO128.out).2.2); (case side2 => exact (zRr HO128.out).2.1); rintro e w58 ⟨v131, rfl, ho0, hb⟩; refine ⟨_, rfl, ?_⟩; have HO132 := zMk (zRl (zRw ho0 (zRt (by exact uR HO128.out))) (zBs (by exact uT HB.out))); replace HO128 := zMk (zRe (by exact uR HO128.out) (zRz ho0) hb); replace HB := zMk (zBt (by exact uT HB.out) hb); (try clear hb); (try clear hb2); (try clear hk); (try clear hi); (try clear ho0))|  ((with_reducible refine gate_dst (N := 1) rfl ?_); (try (refine gate_guard (by rfl) ?_; dsimp only)); refine box_event ?hg (N := 1) ?hd (cs := #[.int .i64 0, .slice none 0 0]) (t := 24) ?hr ?_; (case hd => rfl); (case hg => rfl); (case hr => first |  (go_simp; done)|  (go_simp; rfl)|  (go_simp; rw [show ∀ x : Int, IntKind.u32.wrap (IntKind.u8.wrap x) = x % 256 from fun x => (by show (x % 256) % 4294967296 = x % 256; omega)])); intro gb134 hg w59 hbox hb; replace HO128 := zMk (zRb (by exact uR HO128.out) hb); replace HO132 := zMk (zRb (by exact uR HO132.out) hb); have BK134 := zMk (hbox); have GW134 := zMk ((by rw [hg]; exact (zBs (by exact uT HB.out)) : w.heap.size ≤ gb134)); have GE134 := zMk ((by rw [hg]; exact (zBs (by exact uT HB.out)) : w.heap.size ≤ gb134)); have IGE134 := ownGe GE134.out; replace HB := zMk (zBt (by exact uT HB.out) hb); clear hb hbox hg; have hcz60_0 : w59.cell? ⟨gb134, 0, none⟩ = some (.int .i64 0) := (zKc BK134.out 0).trans rfl; have hcz60_1 : w59.cell? ⟨gb134, 1, none⟩ = some (.slice none 0 0) := (zKc BK134.out 1).trans rfl; have hfz60_0 := zKf BK134.out 0; have hfz60_1 := zKf BK134.out 1; obtain ⟨Ao61, co61, eo61⟩ := zRs HO132.out; subst eo61))
    go_ret
    exact ⟨by first | rfl | (simp [errW_none, errW_some] <;> rfl) | (simp [*, errW_none, errW_some] <;> rfl), by exact uT HB.out⟩

/- Chapter 04: the chapter's example. -/
theorem alive_at0 : filigreelaw04_alive.f 1000000 = some true := by kernel_rfl
theorem alive_at1 : filigreelaw04_alive.f 999999 = some true := by kernel_rfl

/-! ### filigreelaw04_GraphRight: function 3 -/
def filigreelaw04_GraphRight.f (k : Nat) (a0_0 : Int) (l0_1 : List (S36)) : Option (Bool) := if (l0_1.length : Int) > 1000 then (some true) else ((graph_Right.f k a0_0 l0_1).bind fun t440 => ((filigreeref04_Right.f k a0_0 l0_1).bind fun t441 => (if t440 = t441 then ((filigreelaw04_alive.f k).bind fun t442 => (some t442)) else (some false))))
def filigreelaw04_GraphRight.T1 : Bool × List (List Nat × List Nat) := (true, [([], []), ([0], [0]), ([1], [1]), ([2], [2]), ([3], [3]), ([4], [4]), ([5, 4, 4], [4, 5]), ([4], [4]), ([7, 6, 4], [4, 7]), ([6, 8, 4], [4, 6, 8]), ([9, 8, 4], [4, 9]), ([10, 10], [10]), ([10, 11, 4], [4, 10, 11]), ([4, 12], [4, 12]), ([13, 11, 0, 1, 2, 3, 4, 5, 6, 7, 8, 9, 10, 11, 12, 13], [13])])
def filigreelaw04_GraphRight.B1 : List Nat := [0, 1, 3, 7, 15, 31, 63, 31, 255, 511, 1023, 2047, 4095, 8191, 16383]
theorem filigreelaw04_GraphRight.tab1 : rtab .any (opsOf Try.f3 1) = filigreelaw04_GraphRight.T1 := by kernel_rfl
theorem filigreelaw04_GraphRight.bits1 : waitsOk filigreelaw04_GraphRight.T1.2 filigreelaw04_GraphRight.B1 = true := by kernel_rfl
set_option maxHeartbeats 8000000 in
set_option maxRecDepth 100000 in
theorem filigreelaw04_GraphRight.calls (k : Nat) (a0_0 : Int) (A0_1 : Option Addr) (c0_1 : Nat) (l0_1 : List (S36)) (r : Bool) (w : World) (hr0_1 : Kd.C k36 w A0_1 l0_1.length l0_1) (hc0_1 : l0_1.length ≤ c0_1) (h : filigreelaw04_GraphRight.f k a0_0 l0_1 = some r) (hr_ : r = true) :
    Calls Try.prog 3 #[.agg #[.int .i64 a0_0, .slice A0_1 l0_1.length c0_1]] w fun e w' => e = .returned (.bool r) ∧ Below w.heap.size w w' := by
  have HRT := zMk hr_
  clear hr_
  have hu24 := Try.underlying24
  have HR0_1 := zMk hr0_1
  have HC0_1 := zMk hc0_1
  clear hr0_1 hc0_1
  have HB := zMk (Below.refl w.heap.size w)
  have H : (if (l0_1.length : Int) > 1000 then (some true) else ((graph_Right.f k a0_0 l0_1).bind fun t440 => ((filigreeref04_Right.f k a0_0 l0_1).bind fun t441 => (if t440 = t441 then ((filigreelaw04_alive.f k).bind fun t442 => (some t442)) else (some false))))) = some r := h
  clear h
  by_cases c2 : (l0_1.length : Int) > 1000
  · rw [if_pos c2] at H
    have c2b0 : decide (1000 < (l0_1.length : Int)) = true := decide_eq_true c2
    have c2b1 : decide (1000 < l0_1.length) = true := decide_eq_true (by omega)
    clear c2
    obtain rfl := zOi H
    go_enter Try.func3, Try.ntmps3
    try go_wp2_with (first |  ((with_reducible refine gate_dst (N := 1) rfl ?_); refine box_event ?hg (N := 1) ?hd (cs := #[.int .i64 a0_0, .slice A0_1 l0_1.length c0_1]) (t := 24) ?hr ?_; (case hd => rfl); (case hg => rfl); (case hr => first |  (go_simp; done)|  (go_simp; rfl)|  (go_simp; rw [show ∀ x : Int, IntKind.u32.wrap (IntKind.u8.wrap x) = x % 256 from fun x => (by show (x % 256) % 4294967296 = x % 256; omega)])); intro gb439 hg w3 hbox hb; have BK439 := zMk (hbox); have GW439 := zMk ((by rw [hg]; exact (zBs (by exact uT HB.out)) : w.heap.size ≤ gb439)); have GE439 := zMk ((by rw [hg]; exact (zBs (by exact uT HB.out)) : w.heap.size ≤ gb439)); have IGE439 := ownGe GE439.out; replace HB := zMk (zBt (by exact uT HB.out) hb); clear hb hbox hg))
    replace BK439 := zMk (zKd BK439.out)
    replace HB := zMk (zBd HB.out)
    refine start_ (n := 15) (S := fun w' => w'.cell? ⟨gb439, 0, none⟩ = some (.int .i64 a0_0) ∧ w'.cell? ⟨gb439, 1, none⟩ = some (.slice A0_1 l0_1.length c0_1)) (ds := []) #[false, false, false, false, false, false, false, false, false, false, false, false, false, false, false] (by kernel_rfl) rfl rfl ⟨(zKc BK439.out 0).trans rfl, (zKc BK439.out 1).trans rfl⟩ (fun hHeld => ?_); refine with_tabW filigreelaw04_GraphRight.tab1 filigreelaw04_GraphRight.bits1 (fun HT_ HW_ => ?_)
    generalize w3.drew = w4 at BK439 HB hHeld ⊢
    refine pure_ (i := 0) (N := some 3) (v := ?_) (a' := ?_) #[true, false, false, false, false, false, false, false, false, false, false, false, false, false, false] rfl rfl (any_of HT_.out (by kernel_rfl)) (fun _ _ _ h => h) (Or.inl ⟨by rfl, ?_⟩) ?_ ?_
    rotate_left
    · intro w'
      go_simp
      with_reducible rfl
    rotate_left
    · simp only [Act.put, zSa, zSb, zSc, i64_w, i32_w]
      rfl
    refine take_ (i := 1) (N := some 4) (v := ?_) (a' := ?_) #[true, true, false, false, false, false, false, false, false, false, false, false, false, false, false] rfl rfl (take_ofW HT_.out HW_.out (by kernel_rfl)) (fun _ _ _ h => h) (Or.inl ⟨by rfl, ?_⟩) hHeld ?_ ?_
    rotate_left
    · rintro w' ⟨s0, s1⟩
      go_simp
      with_reducible rfl
    rotate_left
    · simp only [Act.put, zSa, zSb, zSc, i64_w, i32_w]
      rfl
    refine pure_ (i := 2) (N := some 5) (v := ?_) (a' := ?_) #[true, true, true, false, false, false, false, false, false, false, false, false, false, false, false] rfl rfl (any_of HT_.out (by kernel_rfl)) (fun _ _ _ h => h) (Or.inl ⟨by rfl, ?_⟩) ?_ ?_
    rotate_left
    · intro w'
      go_simp
      with_reducible rfl
    rotate_left
    · simp only [Act.put, zSa, zSb, zSc, i64_w, i32_w]
      rfl
    refine pure_ (i := 3) (N := some 6) (v := ?_) (a' := ?_) #[true, true, true, true, false, false, false, false, false, false, false, false, false, false, false] rfl rfl (any_of HT_.out (by kernel_rfl)) (fun _ _ _ h => h) (Or.inl ⟨by rfl, ?_⟩) ?_ ?_
    rotate_left
    · intro w'
      go_simp
      with_reducible rfl
    rotate_left
    · simp only [Act.put, zSa, zSb, zSc, i64_w, i32_w]
      rfl
    refine pure_ (i := 4) (N := some 7) (v := ?_) (a' := ?_) #[true, true, true, true, true, false, false, false, false, false, false, false, false, false, false] rfl rfl (any_of HT_.out (by kernel_rfl)) (fun _ _ _ h => h) (Or.inl ⟨by rfl, ?_⟩) ?_ ?_
    rotate_left
    · intro w'
      go_simp
      with_reducible rfl
    rotate_left
    · simp only [Act.put, zSa, zSb, zSc, i64_w, i32_w]
      rfl
    refine pure_ (i := 5) (N := some 8) (v := undef) (a' := ?_) #[true, true, true, true, true, true, false, false, false, false, false, false, false, false, false] rfl rfl (any_of HT_.out (by kernel_rfl)) (fun _ _ _ h => h) (Or.inr ⟨by rfl, rfl⟩) ?_ ?_
    rotate_left
    · simp only [Act.put, zSa, zSb, zSc, i64_w, i32_w]
      rfl
    refine pure_ (i := 6) (N := some 9) (v := undef) (a' := ?_) #[true, true, true, true, true, true, true, false, false, false, false, false, false, false, false] rfl rfl (any_of HT_.out (by kernel_rfl)) (fun _ _ _ h => h) (Or.inr ⟨by rfl, rfl⟩) ?_ ?_
    rotate_left
    · simp only [Act.put, zSa, zSb, zSc, i64_w, i32_w]
      rfl
    refine pure_ (i := 7) (N := some 10) (v := undef) (a' := ?_) #[true, true, true, true, true, true, true, true, false, false, false, false, false, false, false] rfl rfl (any_of HT_.out (by kernel_rfl)) (fun _ _ _ h => h) (Or.inr ⟨by rfl, rfl⟩) ?_ ?_
    rotate_left
    · simp only [Act.put, zSa, zSb, zSc, i64_w, i32_w]
      rfl
    refine pure_ (i := 8) (N := some 11) (v := undef) (a' := ?_) #[true, true, true, true, true, true, true, true, true, false, false, false, false, false, false] rfl rfl (any_of HT_.out (by kernel_rfl)) (fun _ _ _ h => h) (Or.inr ⟨by rfl, rfl⟩) ?_ ?_
    rotate_left
    · simp only [Act.put, zSa, zSb, zSc, i64_w, i32_w]
      rfl
    refine pure_ (i := 9) (N := some 12) (v := undef) (a' := ?_) #[true, true, true, true, true, true, true, true, true, true, false, false, false, false, false] rfl rfl (any_of HT_.out (by kernel_rfl)) (fun _ _ _ h => h) (Or.inr ⟨by rfl, rfl⟩) ?_ ?_
    rotate_left
    · simp only [Act.put, zSa, zSb, zSc, i64_w, i32_w]
      rfl
    refine pure_ (i := 10) (N := some 13) (v := undef) (a' := ?_) #[true, true, true, true, true, true, true, true, true, true, true, false, false, false, false] rfl rfl (any_of HT_.out (by kernel_rfl)) (fun _ _ _ h => h) (Or.inr ⟨by rfl, rfl⟩) ?_ ?_
    rotate_left
    · simp only [Act.put, zSa, zSb, zSc, i64_w, i32_w]
      rfl
    refine pure_ (i := 11) (N := some 14) (v := undef) (a' := ?_) #[true, true, true, true, true, true, true, true, true, true, true, true, false, false, false] rfl rfl (any_of HT_.out (by kernel_rfl)) (fun _ _ _ h => h) (Or.inr ⟨by rfl, rfl⟩) ?_ ?_
    rotate_left
    · simp only [Act.put, zSa, zSb, zSc, i64_w, i32_w]
      rfl
    refine pure_ (i := 12) (N := some 15) (v := undef) (a' := ?_) #[true, true, true, true, true, true, true, true, true, true, true, true, true, false, false] rfl rfl (any_of HT_.out (by kernel_rfl)) (fun _ _ _ h => h) (Or.inr ⟨by rfl, rfl⟩) ?_ ?_
    rotate_left
    · simp only [Act.put, zSa, zSb, zSc, i64_w, i32_w]
      rfl
    refine pure_ (i := 13) (N := some 16) (v := ?_) (a' := ?_) #[true, true, true, true, true, true, true, true, true, true, true, true, true, true, false] rfl rfl (any_of HT_.out (by kernel_rfl)) (fun _ _ _ h => h) (Or.inl ⟨by rfl, ?_⟩) ?_ ?_
    rotate_left
    · intro w'
      go_simp
      with_reducible rfl
    rotate_left
    · simp only [Act.put, zSa, zSb, zSc, i64_w, i32_w]
      rfl
    refine pure_ (i := 14) (N := some 2) (v := ?_) (a' := ?_) #[true, true, true, true, true, true, true, true, true, true, true, true, true, true, true] rfl rfl (any_of HT_.out (by kernel_rfl)) (fun _ _ _ h => h) (Or.inl ⟨by rfl, ?_⟩) ?_ ?_
    rotate_left
    · intro w'
      go_simp
      with_reducible rfl
    rotate_left
    · simp only [Act.put, zSa, zSb, zSc, i64_w, i32_w]
      rfl
    refine done_ (done_of HT_.out (by kernel_rfl)) ?_
    try go_wp2
    go_ret
    exact ⟨by first | rfl | (simp [errW_none, errW_some] <;> rfl) | (simp [*, errW_none, errW_some] <;> rfl), by exact uT HB.out⟩
  · rw [if_neg c2] at H
    have c2b0 : decide (1000 < (l0_1.length : Int)) = false := decide_eq_false c2
    have c2b1 : decide (1000 < l0_1.length) = false := decide_eq_false (by omega)
    clear c2
    replace H := bnd H
    obtain ⟨t440, A50, H⟩ := H
    have A5 := zMk A50
    clear A50
    replace H := bnd H
    obtain ⟨t441, A60, H⟩ := H
    have A6 := zMk A60
    clear A60
    by_cases c7 : t440 = t441
    · rw [if_pos c7] at H
      have c7b0 : (t440 == t441) = true := beq_iff_eq.mpr c7
      have c7b1 : (t440 != t441) = false := bne_eq_false_iff_eq.mpr c7
      clear c7
      replace H := bnd H
      obtain ⟨t442, A80, H⟩ := H
      have A8 := zMk A80
      clear A80
      obtain rfl := zOi H
      go_enter Try.func3, Try.ntmps3
      try go_wp2_with (first |  ((with_reducible refine gate_dst (N := 1) rfl ?_); refine box_event ?hg (N := 1) ?hd (cs := #[.int .i64 a0_0, .slice A0_1 l0_1.length c0_1]) (t := 24) ?hr ?_; (case hd => rfl); (case hg => rfl); (case hr => first |  (go_simp; done)|  (go_simp; rfl)|  (go_simp; rw [show ∀ x : Int, IntKind.u32.wrap (IntKind.u8.wrap x) = x % 256 from fun x => (by show (x % 256) % 4294967296 = x % 256; omega)])); intro gb439 hg w9 hbox hb; have BK439 := zMk (hbox); have GW439 := zMk ((by rw [hg]; exact (zBs (by exact uT HB.out)) : w.heap.size ≤ gb439)); have GE439 := zMk ((by rw [hg]; exact (zBs (by exact uT HB.out)) : w.heap.size ≤ gb439)); have IGE439 := ownGe GE439.out; replace HB := zMk (zBt (by exact uT HB.out) hb); clear hb hbox hg))
      replace BK439 := zMk (zKd BK439.out)
      replace HB := zMk (zBd HB.out)
      refine start_ (n := 15) (S := fun w' => w'.cell? ⟨gb439, 0, none⟩ = some (.int .i64 a0_0) ∧ w'.cell? ⟨gb439, 1, none⟩ = some (.slice A0_1 l0_1.length c0_1)) (ds := []) #[false, false, false, false, false, false, false, false, false, false, false, false, false, false, false] (by kernel_rfl) rfl rfl ⟨(zKc BK439.out 0).trans rfl, (zKc BK439.out 1).trans rfl⟩ (fun hHeld => ?_); refine with_tabW filigreelaw04_GraphRight.tab1 filigreelaw04_GraphRight.bits1 (fun HT_ HW_ => ?_)
      generalize w9.drew = w10 at BK439 HB hHeld ⊢
      refine pure_ (i := 0) (N := some 3) (v := ?_) (a' := ?_) #[true, false, false, false, false, false, false, false, false, false, false, false, false, false, false] rfl rfl (any_of HT_.out (by kernel_rfl)) (fun _ _ _ h => h) (Or.inl ⟨by rfl, ?_⟩) ?_ ?_
      rotate_left
      · intro w'
        go_simp
        with_reducible rfl
      rotate_left
      · simp only [Act.put, zSa, zSb, zSc, i64_w, i32_w]
        rfl
      refine take_ (i := 1) (N := some 4) (v := ?_) (a' := ?_) #[true, true, false, false, false, false, false, false, false, false, false, false, false, false, false] rfl rfl (take_ofW HT_.out HW_.out (by kernel_rfl)) (fun _ _ _ h => h) (Or.inl ⟨by rfl, ?_⟩) hHeld ?_ ?_
      rotate_left
      · rintro w' ⟨s0, s1⟩
        go_simp
        with_reducible rfl
      rotate_left
      · simp only [Act.put, zSa, zSb, zSc, i64_w, i32_w]
        rfl
      refine pure_ (i := 2) (N := some 5) (v := ?_) (a' := ?_) #[true, true, true, false, false, false, false, false, false, false, false, false, false, false, false] rfl rfl (any_of HT_.out (by kernel_rfl)) (fun _ _ _ h => h) (Or.inl ⟨by rfl, ?_⟩) ?_ ?_
      rotate_left
      · intro w'
        go_simp
        with_reducible rfl
      rotate_left
      · simp only [Act.put, zSa, zSb, zSc, i64_w, i32_w]
        rfl
      refine pure_ (i := 3) (N := some 6) (v := ?_) (a' := ?_) #[true, true, true, true, false, false, false, false, false, false, false, false, false, false, false] rfl rfl (any_of HT_.out (by kernel_rfl)) (fun _ _ _ h => h) (Or.inl ⟨by rfl, ?_⟩) ?_ ?_
      rotate_left
      · intro w'
        go_simp
        with_reducible rfl
      rotate_left
      · simp only [Act.put, zSa, zSb, zSc, i64_w, i32_w]
        rfl
      refine pure_ (i := 4) (N := some 7) (v := ?_) (a' := ?_) #[true, true, true, true, true, false, false, false, false, false, false, false, false, false, false] rfl rfl (any_of HT_.out (by kernel_rfl)) (fun _ _ _ h => h) (Or.inl ⟨by rfl, ?_⟩) ?_ ?_
      rotate_left
      · intro w'
        go_simp
        with_reducible rfl
      rotate_left
      · simp only [Act.put, zSa, zSb, zSc, i64_w, i32_w]
        rfl
      refine take_ (i := 5) (N := some 8) (v := ?_) (a' := ?_) #[true, true, true, true, true, true, false, false, false, false, false, false, false, false, false] rfl rfl (take_ofW HT_.out HW_.out (by kernel_rfl)) (fun _ _ _ h => h) (Or.inl ⟨by rfl, ?_⟩) hHeld ?_ ?_
      rotate_left
      · rintro w' ⟨s0, s1⟩
        go_simp
        with_reducible rfl
      rotate_left
      · simp only [Act.put, zSa, zSb, zSc, i64_w, i32_w]
        rfl
      refine take_ (i := 7) (N := some 10) (v := ?_) (a' := ?_) #[true, true, true, true, true, true, false, true, false, false, false, false, false, false, false] rfl rfl (take_ofW HT_.out HW_.out (by kernel_rfl)) (fun _ _ _ h => h) (Or.inl ⟨by rfl, ?_⟩) hHeld ?_ ?_
      rotate_left
      · rintro w' ⟨s0, s1⟩
        go_simp
        with_reducible rfl
      rotate_left
      · simp only [Act.put, zSa, zSb, zSc, i64_w, i32_w]
        rfl
      refine one_ (i := 6) (N := some 9) #[true, true, true, true, true, true, true, true, false, false, false, false, false, false, false] rfl rfl (one_of HT_.out (by kernel_rfl)) (by decide) (fun K hK => ?_)
      refine goes_ Try.func11 (by kernel_rfl) rfl #[.agg #[.int .i64 a0_0, .slice A0_1 l0_1.length c0_1]] (by rfl) rfl rfl (by (try simp only [zMa, zMc, zMn]); first | done | rfl | (simp only [zLd, zLt]; rfl)) ?_
      with_reducible refine (graph_Right.calls k a0_0 _ _ l0_1 t440 _ ?side1 ?side2 A5.out).mono ?_
      (case side1 => repeat (first | exact (Kd.C_below HR0_1.out HB.out) | (with_reducible refine zCa ?_ _) | (with_reducible refine zCn ?_ _) | (with_reducible refine zCd ?_)))
      (case side2 => exact HC0_1.out)
      rintro e w11 ⟨rfl, hb⟩
      refine ⟨_, rfl, ?_⟩
      replace BK439 := zMk (zKb (g := gb439) (o := .cells #[.int .i64 a0_0, .slice A0_1 l0_1.length c0_1] 24 (0, 0)) (by (with_reducible repeat (first | refine zKn ?_ _ | refine zKd ?_ | refine zKa ?_ _)); exact BK439.out) hb)
      replace HB := zMk (zBt (by exact uT HB.out) hb)
      (try clear hb)
      (try clear hb2)
      (try clear hk)
      (try clear hi)
      refine hK.out _ _ ⟨(zKc BK439.out 0).trans rfl, (zKc BK439.out 1).trans rfl⟩ (fun hHeld => ?_)
      clear hK K
      refine norm_ (a' := ?_) ?_ ?_
      rotate_left
      · show Act.put _ (some 9) _ = _
        simp only [Act.put, zSa, zSb, zSc, i64_w, i32_w]
        rfl
      refine one_ (i := 8) (N := some 11) #[true, true, true, true, true, true, true, true, true, false, false, false, false, false, false] rfl rfl (one_of HT_.out (by kernel_rfl)) (by decide) (fun K hK => ?_)
      refine goes_ Try.func12 (by kernel_rfl) rfl #[.agg #[.int .i64 a0_0, .slice A0_1 l0_1.length c0_1]] (by rfl) rfl rfl (by (try simp only [zMa, zMc, zMn]); first | done | rfl | (simp only [zLd, zLt]; rfl)) ?_
      with_reducible refine (filigreeref04_Right.calls k a0_0 _ _ l0_1 t441 _ ?side1 ?side2 A6.out).mono ?_
      (case side1 => repeat (first | exact (Kd.C_below HR0_1.out HB.out) | (with_reducible refine zCa ?_ _) | (with_reducible refine zCn ?_ _) | (with_reducible refine zCd ?_)))
      (case side2 => exact HC0_1.out)
      rintro e w12 ⟨rfl, hb⟩
      refine ⟨_, rfl, ?_⟩
      replace BK439 := zMk (zKb (g := gb439) (o := .cells #[.int .i64 a0_0, .slice A0_1 l0_1.length c0_1] 24 (0, 0)) (by (with_reducible repeat (first | refine zKn ?_ _ | refine zKd ?_ | refine zKa ?_ _)); exact BK439.out) hb)
      replace HB := zMk (zBt (by exact uT HB.out) hb)
      (try clear hb)
      (try clear hb2)
      (try clear hk)
      (try clear hi)
      refine hK.out _ _ ⟨(zKc BK439.out 0).trans rfl, (zKc BK439.out 1).trans rfl⟩ (fun hHeld => ?_)
      clear hK K
      refine norm_ (a' := ?_) ?_ ?_
      rotate_left
      · show Act.put _ (some 11) _ = _
        simp only [Act.put, zSa, zSb, zSc, i64_w, i32_w]
        rfl
      refine pure_ (i := 9) (N := some 12) (v := ?_) (a' := ?_) #[true, true, true, true, true, true, true, true, true, true, false, false, false, false, false] rfl rfl (any_of HT_.out (by kernel_rfl)) (fun _ _ _ h => h) (Or.inl ⟨by rfl, ?_⟩) ?_ ?_
      rotate_left
      · intro w'
        go_simp
        with_reducible rfl
      rotate_left
      · simp only [Act.put, zSa, zSb, zSc, i64_w, i32_w]
        rfl
      refine pure_ (i := 10) (N := some 13) (v := ?_) (a' := ?_) #[true, true, true, true, true, true, true, true, true, true, true, false, false, false, false] rfl rfl (any_of HT_.out (by kernel_rfl)) (fun _ _ _ h => h) (Or.inl ⟨by rfl, ?_⟩) ?_ ?_
      rotate_left
      · intro w'
        go_simp
        with_reducible rfl
      rotate_left
      · simp only [Act.put, zSa, zSb, zSc, i64_w, i32_w]
        rfl
      refine one_ (i := 11) (N := some 14) #[true, true, true, true, true, true, true, true, true, true, true, true, false, false, false] rfl rfl (one_of HT_.out (by kernel_rfl)) (by decide) (fun K hK => ?_)
      refine goes_ Try.func13 (by kernel_rfl) rfl #[] (by rfl) rfl rfl (by (try simp only [zMa, zMc, zMn]); first | done | rfl | (simp only [zLd, zLt]; rfl)) ?_
      with_reducible refine (filigreelaw04_alive.calls k  t442 _ A8.out).mono ?_
      rintro e w13 ⟨rfl, hb⟩
      refine ⟨_, rfl, ?_⟩
      replace BK439 := zMk (zKb (g := gb439) (o := .cells #[.int .i64 a0_0, .slice A0_1 l0_1.length c0_1] 24 (0, 0)) (by (with_reducible repeat (first | refine zKn ?_ _ | refine zKd ?_ | refine zKa ?_ _)); exact BK439.out) hb)
      replace HB := zMk (zBt (by exact uT HB.out) hb)
      (try clear hb)
      (try clear hb2)
      (try clear hk)
      (try clear hi)
      refine hK.out _ _ ⟨(zKc BK439.out 0).trans rfl, (zKc BK439.out 1).trans rfl⟩ (fun hHeld => ?_)
      clear hK K
      refine norm_ (a' := ?_) ?_ ?_
      rotate_left
      · show Act.put _ (some 14) _ = _
        simp only [Act.put, zSa, zSb, zSc, i64_w, i32_w]
        rfl
      refine pure_ (i := 12) (N := some 15) (v := ?_) (a' := ?_) #[true, true, true, true, true, true, true, true, true, true, true, true, true, false, false] rfl rfl (any_of HT_.out (by kernel_rfl)) (fun _ _ _ h => h) (Or.inl ⟨by rfl, ?_⟩) ?_ ?_
      rotate_left
      · intro w'
        go_simp
        with_reducible rfl
      rotate_left
      · simp only [Act.put, zSa, zSb, zSc, i64_w, i32_w]
        rfl
      refine pure_ (i := 13) (N := some 16) (v := ?_) (a' := ?_) #[true, true, true, true, true, true, true, true, true, true, true, true, true, true, false] rfl rfl (any_of HT_.out (by kernel_rfl)) (fun _ _ _ h => h) (Or.inl ⟨by rfl, ?_⟩) ?_ ?_
      rotate_left
      · intro w'
        go_simp
        with_reducible rfl
      rotate_left
      · simp only [Act.put, zSa, zSb, zSc, i64_w, i32_w]
        rfl
      refine pure_ (i := 14) (N := some 2) (v := ?_) (a' := ?_) #[true, true, true, true, true, true, true, true, true, true, true, true, true, true, true] rfl rfl (any_of HT_.out (by kernel_rfl)) (fun _ _ _ h => h) (Or.inl ⟨by rfl, ?_⟩) ?_ ?_
      rotate_left
      · intro w'
        go_simp
        with_reducible rfl
      rotate_left
      · simp only [Act.put, zSa, zSb, zSc, i64_w, i32_w]
        rfl
      refine done_ (done_of HT_.out (by kernel_rfl)) ?_
      try go_wp2
      go_ret
      exact ⟨by first | rfl | (simp [errW_none, errW_some] <;> rfl) | (simp [*, errW_none, errW_some] <;> rfl), by exact uT HB.out⟩
    · rw [if_neg c7] at H
      have c7b0 : (t440 == t441) = false := beq_eq_false_iff_ne.mpr c7
      have c7b1 : (t440 != t441) = true := bne_iff_ne.mpr c7
      obtain rfl := zOi H
      go_enter Try.func3, Try.ntmps3
      try go_wp2_with (first |  ((with_reducible refine gate_dst (N := 1) rfl ?_); refine box_event ?hg (N := 1) ?hd (cs := #[.int .i64 a0_0, .slice A0_1 l0_1.length c0_1]) (t := 24) ?hr ?_; (case hd => rfl); (case hg => rfl); (case hr => first |  (go_simp; done)|  (go_simp; rfl)|  (go_simp; rw [show ∀ x : Int, IntKind.u32.wrap (IntKind.u8.wrap x) = x % 256 from fun x => (by show (x % 256) % 4294967296 = x % 256; omega)])); intro gb439 hg w14 hbox hb; have BK439 := zMk (hbox); have GW439 := zMk ((by rw [hg]; exact (zBs (by exact uT HB.out)) : w.heap.size ≤ gb439)); have GE439 := zMk ((by rw [hg]; exact (zBs (by exact uT HB.out)) : w.heap.size ≤ gb439)); have IGE439 := ownGe GE439.out; replace HB := zMk (zBt (by exact uT HB.out) hb); clear hb hbox hg))
      replace BK439 := zMk (zKd BK439.out)
      replace HB := zMk (zBd HB.out)
      refine start_ (n := 15) (S := fun w' => w'.cell? ⟨gb439, 0, none⟩ = some (.int .i64 a0_0) ∧ w'.cell? ⟨gb439, 1, none⟩ = some (.slice A0_1 l0_1.length c0_1)) (ds := []) #[false, false, false, false, false, false, false, false, false, false, false, false, false, false, false] (by kernel_rfl) rfl rfl ⟨(zKc BK439.out 0).trans rfl, (zKc BK439.out 1).trans rfl⟩ (fun hHeld => ?_); refine with_tabW filigreelaw04_GraphRight.tab1 filigreelaw04_GraphRight.bits1 (fun HT_ HW_ => ?_)
      generalize w14.drew = w15 at BK439 HB hHeld ⊢
      refine pure_ (i := 0) (N := some 3) (v := ?_) (a' := ?_) #[true, false, false, false, false, false, false, false, false, false, false, false, false, false, false] rfl rfl (any_of HT_.out (by kernel_rfl)) (fun _ _ _ h => h) (Or.inl ⟨by rfl, ?_⟩) ?_ ?_
      rotate_left
      · intro w'
        go_simp
        with_reducible rfl
      rotate_left
      · simp only [Act.put, zSa, zSb, zSc, i64_w, i32_w]
        rfl
      refine take_ (i := 1) (N := some 4) (v := ?_) (a' := ?_) #[true, true, false, false, false, false, false, false, false, false, false, false, false, false, false] rfl rfl (take_ofW HT_.out HW_.out (by kernel_rfl)) (fun _ _ _ h => h) (Or.inl ⟨by rfl, ?_⟩) hHeld ?_ ?_
      rotate_left
      · rintro w' ⟨s0, s1⟩
        go_simp
        with_reducible rfl
      rotate_left
      · simp only [Act.put, zSa, zSb, zSc, i64_w, i32_w]
        rfl
      refine pure_ (i := 2) (N := some 5) (v := ?_) (a' := ?_) #[true, true, true, false, false, false, false, false, false, false, false, false, false, false, false] rfl rfl (any_of HT_.out (by kernel_rfl)) (fun _ _ _ h => h) (Or.inl ⟨by rfl, ?_⟩) ?_ ?_
      rotate_left
      · intro w'
        go_simp
        with_reducible rfl
      rotate_left
      · simp only [Act.put, zSa, zSb, zSc, i64_w, i32_w]
        rfl
      refine pure_ (i := 3) (N := some 6) (v := ?_) (a' := ?_) #[true, true, true, true, false, false, false, false, false, false, false, false, false, false, false] rfl rfl (any_of HT_.out (by kernel_rfl)) (fun _ _ _ h => h) (Or.inl ⟨by rfl, ?_⟩) ?_ ?_
      rotate_left
      · intro w'
        go_simp
        with_reducible rfl
      rotate_left
      · simp only [Act.put, zSa, zSb, zSc, i64_w, i32_w]
        rfl
      refine pure_ (i := 4) (N := some 7) (v := ?_) (a' := ?_) #[true, true, true, true, true, false, false, false, false, false, false, false, false, false, false] rfl rfl (any_of HT_.out (by kernel_rfl)) (fun _ _ _ h => h) (Or.inl ⟨by rfl, ?_⟩) ?_ ?_
      rotate_left
      · intro w'
        go_simp
        with_reducible rfl
      rotate_left
      · simp only [Act.put, zSa, zSb, zSc, i64_w, i32_w]
        rfl
      refine take_ (i := 5) (N := some 8) (v := ?_) (a' := ?_) #[true, true, true, true, true, true, false, false, false, false, false, false, false, false, false] rfl rfl (take_ofW HT_.out HW_.out (by kernel_rfl)) (fun _ _ _ h => h) (Or.inl ⟨by rfl, ?_⟩) hHeld ?_ ?_
      rotate_left
      · rintro w' ⟨s0, s1⟩
        go_simp
        with_reducible rfl
      rotate_left
      · simp only [Act.put, zSa, zSb, zSc, i64_w, i32_w]
        rfl
      refine take_ (i := 7) (N := some 10) (v := ?_) (a' := ?_) #[true, true, true, true, true, true, false, true, false, false, false, false, false, false, false] rfl rfl (take_ofW HT_.out HW_.out (by kernel_rfl)) (fun _ _ _ h => h) (Or.inl ⟨by rfl, ?_⟩) hHeld ?_ ?_
      rotate_left
      · rintro w' ⟨s0, s1⟩
        go_simp
        with_reducible rfl
      rotate_left
      · simp only [Act.put, zSa, zSb, zSc, i64_w, i32_w]
        rfl
      refine one_ (i := 6) (N := some 9) #[true, true, true, true, true, true, true, true, false, false, false, false, false, false, false] rfl rfl (one_of HT_.out (by kernel_rfl)) (by decide) (fun K hK => ?_)
      refine goes_ Try.func11 (by kernel_rfl) rfl #[.agg #[.int .i64 a0_0, .slice A0_1 l0_1.length c0_1]] (by rfl) rfl rfl (by (try simp only [zMa, zMc, zMn]); first | done | rfl | (simp only [zLd, zLt]; rfl)) ?_
      with_reducible refine (graph_Right.calls k a0_0 _ _ l0_1 t440 _ ?side1 ?side2 A5.out).mono ?_
      (case side1 => repeat (first | exact (Kd.C_below HR0_1.out HB.out) | (with_reducible refine zCa ?_ _) | (with_reducible refine zCn ?_ _) | (with_reducible refine zCd ?_)))
      (case side2 => exact HC0_1.out)
      rintro e w16 ⟨rfl, hb⟩
      refine ⟨_, rfl, ?_⟩
      replace BK439 := zMk (zKb (g := gb439) (o := .cells #[.int .i64 a0_0, .slice A0_1 l0_1.length c0_1] 24 (0, 0)) (by (with_reducible repeat (first | refine zKn ?_ _ | refine zKd ?_ | refine zKa ?_ _)); exact BK439.out) hb)
      replace HB := zMk (zBt (by exact uT HB.out) hb)
      (try clear hb)
      (try clear hb2)
      (try clear hk)
      (try clear hi)
      refine hK.out _ _ ⟨(zKc BK439.out 0).trans rfl, (zKc BK439.out 1).trans rfl⟩ (fun hHeld => ?_)
      clear hK K
      refine norm_ (a' := ?_) ?_ ?_
      rotate_left
      · show Act.put _ (some 9) _ = _
        simp only [Act.put, zSa, zSb, zSc, i64_w, i32_w]
        rfl
      refine one_ (i := 8) (N := some 11) #[true, true, true, true, true, true, true, true, true, false, false, false, false, false, false] rfl rfl (one_of HT_.out (by kernel_rfl)) (by decide) (fun K hK => ?_)
      refine goes_ Try.func12 (by kernel_rfl) rfl #[.agg #[.int .i64 a0_0, .slice A0_1 l0_1.length c0_1]] (by rfl) rfl rfl (by (try simp only [zMa, zMc, zMn]); first | done | rfl | (simp only [zLd, zLt]; rfl)) ?_
      with_reducible refine (filigreeref04_Right.calls k a0_0 _ _ l0_1 t441 _ ?side1 ?side2 A6.out).mono ?_
      (case side1 => repeat (first | exact (Kd.C_below HR0_1.out HB.out) | (with_reducible refine zCa ?_ _) | (with_reducible refine zCn ?_ _) | (with_reducible refine zCd ?_)))
      (case side2 => exact HC0_1.out)
      rintro e w17 ⟨rfl, hb⟩
      refine ⟨_, rfl, ?_⟩
      replace BK439 := zMk (zKb (g := gb439) (o := .cells #[.int .i64 a0_0, .slice A0_1 l0_1.length c0_1] 24 (0, 0)) (by (with_reducible repeat (first | refine zKn ?_ _ | refine zKd ?_ | refine zKa ?_ _)); exact BK439.out) hb)
      replace HB := zMk (zBt (by exact uT HB.out) hb)
      (try clear hb)
      (try clear hb2)
      (try clear hk)
      (try clear hi)
      refine hK.out _ _ ⟨(zKc BK439.out 0).trans rfl, (zKc BK439.out 1).trans rfl⟩ (fun hHeld => ?_)
      clear hK K
      refine norm_ (a' := ?_) ?_ ?_
      rotate_left
      · show Act.put _ (some 11) _ = _
        simp only [Act.put, zSa, zSb, zSc, i64_w, i32_w]
        rfl
      refine pure_ (i := 9) (N := some 12) (v := ?_) (a' := ?_) #[true, true, true, true, true, true, true, true, true, true, false, false, false, false, false] rfl rfl (any_of HT_.out (by kernel_rfl)) (fun _ _ _ h => h) (Or.inl ⟨by rfl, ?_⟩) ?_ ?_
      rotate_left
      · intro w'
        go_simp
        with_reducible rfl
      rotate_left
      · simp only [Act.put, zSa, zSb, zSc, i64_w, i32_w]
        rfl
      refine pure_ (i := 10) (N := some 13) (v := ?_) (a' := ?_) #[true, true, true, true, true, true, true, true, true, true, true, false, false, false, false] rfl rfl (any_of HT_.out (by kernel_rfl)) (fun _ _ _ h => h) (Or.inl ⟨by rfl, ?_⟩) ?_ ?_
      rotate_left
      · intro w'
        go_simp
        with_reducible rfl
      rotate_left
      · simp only [Act.put, zSa, zSb, zSc, i64_w, i32_w]
        rfl
      refine pure_ (i := 11) (N := some 14) (v := undef) (a' := ?_) #[true, true, true, true, true, true, true, true, true, true, true, true, false, false, false] rfl rfl (any_of HT_.out (by kernel_rfl)) (fun _ _ _ h => h) (Or.inr ⟨by rfl, rfl⟩) ?_ ?_
      rotate_left
      · simp only [Act.put, zSa, zSb, zSc, i64_w, i32_w]
        rfl
      refine pure_ (i := 12) (N := some 15) (v := ?_) (a' := ?_) #[true, true, true, true, true, true, true, true, true, true, true, true, true, false, false] rfl rfl (any_of HT_.out (by kernel_rfl)) (fun _ _ _ h => h) (Or.inl ⟨by rfl, ?_⟩) ?_ ?_
      rotate_left
      · intro w'
        go_simp
        with_reducible rfl
      rotate_left
      · simp only [Act.put, zSa, zSb, zSc, i64_w, i32_w]
        rfl
      refine pure_ (i := 13) (N := some 16) (v := ?_) (a' := ?_) #[true, true, true, true, true, true, true, true, true, true, true, true, true, true, false] rfl rfl (any_of HT_.out (by kernel_rfl)) (fun _ _ _ h => h) (Or.inl ⟨by rfl, ?_⟩) ?_ ?_
      rotate_left
      · intro w'
        go_simp
        with_reducible rfl
      rotate_left
      · simp only [Act.put, zSa, zSb, zSc, i64_w, i32_w]
        rfl
      refine pure_ (i := 14) (N := some 2) (v := ?_) (a' := ?_) #[true, true, true, true, true, true, true, true, true, true, true, true, true, true, true] rfl rfl (any_of HT_.out (by kernel_rfl)) (fun _ _ _ h => h) (Or.inl ⟨by rfl, ?_⟩) ?_ ?_
      rotate_left
      · intro w'
        go_simp
        with_reducible rfl
      rotate_left
      · simp only [Act.put, zSa, zSb, zSc, i64_w, i32_w]
        rfl
      refine done_ (done_of HT_.out (by kernel_rfl)) ?_
      try go_wp2
      go_ret
      exact ⟨by first | rfl | (simp [errW_none, errW_some] <;> rfl) | (simp [*, errW_none, errW_some] <;> rfl), by exact uT HB.out⟩

/-- What the walk leaves: a statement of plain lists and numbers. -/
def filigreelaw04_GraphRight.Pure : Prop := ∀ (a0_0 : Int) (l0_1 : List A.S36), (Lit.int .i64 a0_0).wf = true → l0_1.length ≤ maxLen → (∀ x ∈ l0_1, (Lit.int .i64 x.f0).wf = true ∧ (Lit.int .i64 x.f1).wf = true ∧ (Lit.int .i64 x.f2).wf = true) → ∃ k, filigreelaw04_GraphRight.f k a0_0 l0_1 = some true
/- The plain law of GraphRight. -/
theorem pure_GraphRight : filigreelaw04_GraphRight.Pure := by
  intro n l _ _ _
  obtain ⟨k, hk⟩ : ∃ k : Nat, k = 1000000 := ⟨_, rfl⟩
  refine ⟨k, ?_⟩
  unfold filigreelaw04_GraphRight.f
  by_cases h : (l.length : Int) > 1000
  · rw [if_pos h]
  · rw [if_neg h, Right_eq k n l (by omega), zOb, refRight_eq k n l (by omega), zOb, if_pos rfl, hk, alive_at0]
    rfl
end Go.Proofs.Yteicpdkembmilaa.A
