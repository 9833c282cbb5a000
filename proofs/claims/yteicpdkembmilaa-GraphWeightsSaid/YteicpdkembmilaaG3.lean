/- Lemmas for the statement: the walks of the functions that it reaches, and plain laws. -/
import Derived.Test.YteicpdkembmilaaG1
import Derived.Test.YteicpdkembmilaaG2
set_option linter.unusedVariables false
set_option linter.unusedSimpArgs false
namespace Go.Proofs.Yteicpdkembmilaa.A
open Go Go.RowKit Go.Proofs.YteicpdkembmilaaW.PrintWords Go.Proofs.YteicpdkembmilaaW.PrintLast Go.Proofs.YteicpdkembmilaaW.PrintMore
attribute [local go_sem] max2_int min2_int max_two min_two max_three min_three max_four min_four
open Go.Proofs.YteicpdkembmilaaW.PrintWords.Kd renaming R_alloc → zRa, R_drewN → zRn, R_drew → zRd, V_alloc → zVa, V_drewN → zVn, V_drew → zVd, V_below → zVb, C_alloc → zCa, C_drewN → zCn, C_drew → zCd, R_mono → zRm, V_mono → zVm, at_int → zAi, R_elder' → zRe, R_lower → zRl, R_new' → zRw, R_lt → zRt, R_below → zRb, R_base → zRz, R_reads' → zRr, R_slice → zRs, V_elder' → zVe, V_lower → zVl, V_slice → zVs, V_reads' → zVr
open Go.Proofs.YteicpdkembmilaaW.PrintWords renaming pw_below_drewN → zBn, below_alloc → zBa, below_drew1 → zBd, below_size → zBs, below_step → zBt, blk_drewN → zKn, blk_drew → zKd, blk_alloc → zKa, blk_below → zKb, blk_cell → zKc, blk_frozen → zKf
open List renaming setIfInBounds_toArray → zSa, set_cons_zero → zSb, set_cons_succ → zSc, length_drop → zLd, length_take → zLt, map_toArray → zMa, map_cons → zMc, map_nil → zMn, length_cons → zLc, length_nil → zLn
open Go.Proofs.YteicpdkembmilaaW.PrintWords.Aside0 renaming mk → zMk
open Option renaming bind_eq_some_iff → zBi, bind_some → zOb
open Option.some renaming inj → zOi
open Int renaming toNat_natCast → zTn

attribute [local go_sem high] eqA36
/-! ### filigreelaw04_alive: function 13 -/
def filigreelaw04_alive.f (k : Nat)  : Option (Bool) := (graph_Make.f k 3 (([(⟨2, 0, 0⟩ : S36), (⟨0, 1, 0⟩ : S36)] : List (S36)))).bind fun bt129 => (if bt129.2.2 = 0 then (if (bt129.2.1.length : Int) = 2 then (if 1 < (bt129.2.1.length : Int) then (if (((rd_T36 bt129.2.1 1).f0) == 0 && (((rd_T36 bt129.2.1 1).f1) == 2 && (((rd_T36 bt129.2.1 1).f2) == 0))) = true then ((graph_Right.f k bt129.1 bt129.2.1).bind fun t136 => (if t136 = 0 then ((graph_Find.f k bt129.1 bt129.2.1 2 0).bind fun t137 => (if t137 = 1 then ((graph_Find.f k bt129.1 bt129.2.1 1 2).bind fun t138 => (some (t138 == (-1)))) else (some false))) else (some false))) else (some false)) else (none)) else (some false)) else (some false))
set_option maxHeartbeats 8000000 in
set_option maxRecDepth 100000 in
theorem filigreelaw04_alive.calls (k : Nat)  (r : Bool) (w : World) (h : filigreelaw04_alive.f k  = some r) :
    Calls Try.prog 13 #[] w fun e w' => e = .returned (.bool r) ∧ Below w.heap.size w w' := by
  have hu36 := Try.underlying36
  have hu24 := Try.underlying24
  have HB := zMk (Below.refl w.heap.size w)
  have H : ((graph_Make.f k 3 (([(⟨2, 0, 0⟩ : S36), (⟨0, 1, 0⟩ : S36)] : List (S36)))).bind fun bt129 => (if bt129.2.2 = 0 then (if (bt129.2.1.length : Int) = 2 then (if 1 < (bt129.2.1.length : Int) then (if (((rd_T36 bt129.2.1 1).f0) == 0 && (((rd_T36 bt129.2.1 1).f1) == 2 && (((rd_T36 bt129.2.1 1).f2) == 0))) = true then ((graph_Right.f k bt129.1 bt129.2.1).bind fun t136 => (if t136 = 0 then ((graph_Find.f k bt129.1 bt129.2.1 2 0).bind fun t137 => (if t137 = 1 then ((graph_Find.f k bt129.1 bt129.2.1 1 2).bind fun t138 => (some (t138 == (-1)))) else (some false))) else (some false))) else (some false)) else (none)) else (some false)) else (some false))) = some r := h
  clear h
  obtain ⟨y126, hy126⟩ : ∃ y_ : List (S36), y_ = (([(⟨2, 0, 0⟩ : S36), (⟨0, 1, 0⟩ : S36)] : List (S36))) := ⟨_, rfl⟩
  replace H : ((graph_Make.f k 3 y126).bind fun bt129 => (if bt129.2.2 = 0 then (if (bt129.2.1.length : Int) = 2 then (if 1 < (bt129.2.1.length : Int) then (if (((rd_T36 bt129.2.1 1).f0) == 0 && (((rd_T36 bt129.2.1 1).f1) == 2 && (((rd_T36 bt129.2.1 1).f2) == 0))) = true then ((graph_Right.f k bt129.1 bt129.2.1).bind fun t136 => (if t136 = 0 then ((graph_Find.f k bt129.1 bt129.2.1 2 0).bind fun t137 => (if t137 = 1 then ((graph_Find.f k bt129.1 bt129.2.1 1 2).bind fun t138 => (some (t138 == (-1)))) else (some false))) else (some false))) else (some false)) else (none)) else (some false)) else (some false))) = some r := by first | (rw [hy126]; with_reducible exact H) | (have H2_ := bsm H; first | (rw [hy126]; with_reducible exact H2_) | with_reducible exact H2_) | with_reducible exact H | (rw [hy126]; exact H) | exact H
  have Ny126 := zMk hy126
  clear hy126
  replace H := bnd H
  obtain ⟨⟨t129, t130, t133⟩, A10, H⟩ := H
  replace H : (if t133 = 0 then (if (t130.length : Int) = 2 then (if 1 < (t130.length : Int) then (if (((rd_T36 t130 1).f0) == 0 && (((rd_T36 t130 1).f1) == 2 && (((rd_T36 t130 1).f2) == 0))) = true then ((graph_Right.f k t129 t130).bind fun t136 => (if t136 = 0 then ((graph_Find.f k t129 t130 2 0).bind fun t137 => (if t137 = 1 then ((graph_Find.f k t129 t130 1 2).bind fun t138 => (some (t138 == (-1)))) else (some false))) else (some false))) else (some false)) else (none)) else (some false)) else (some false)) = some r := H
  have A1 := zMk A10
  clear A10
  by_cases c2 : t133 = 0
  · rw [if_pos c2] at H
    have c2b0 : (t133 == 0) = true := beq_iff_eq.mpr c2
    have c2b1 : (t133 != 0) = false := bne_eq_false_iff_eq.mpr c2
    clear c2
    by_cases c3 : (t130.length : Int) = 2
    · rw [if_pos c3] at H
      have c3b0 : ((t130.length : Int) == 2) = true := beq_iff_eq.mpr c3
      have c3b1 : ((t130.length : Int) != 2) = false := bne_eq_false_iff_eq.mpr c3
      clear c3
      by_cases c4 : 1 < (t130.length : Int)
      rotate_left
      · rw [if_neg c4] at H; exact absurd H (by simp)
      rw [if_pos c4] at H
      have c4b0 : decide (1 < (t130.length : Int)) = true := decide_eq_true c4
      have c4b1 : decide (1 < t130.length) = true := decide_eq_true (by omega)
      clear c4
      by_cases c5 : (((rd_T36 t130 1).f0) == 0 && (((rd_T36 t130 1).f1) == 2 && (((rd_T36 t130 1).f2) == 0))) = true
      · rw [if_pos c5] at H
        have c5b0 : (((rd_T36 t130 1).f0) == 0 && (((rd_T36 t130 1).f1) == 2 && (((rd_T36 t130 1).f2) == 0))) = true := c5
        (try (have c5b1 : decide (((rd_T36 t130 1).f0) = 0 && (((rd_T36 t130 1).f1) == 2 && (((rd_T36 t130 1).f2) == 0))) = true := by simpa using c5))
        (try (have c5b2 : (((rd_T36 t130 1).f0) == 0 && (((rd_T36 t130 1).f1) == 2 && (((rd_T36 t130 1).f2) == 0))) = true := by simpa using c5))
        clear c5
        replace H := bnd H
        obtain ⟨t136, A60, H⟩ := H
        have A6 := zMk A60
        clear A60
        by_cases c7 : t136 = 0
        · rw [if_pos c7] at H
          have c7b0 : (t136 == 0) = true := beq_iff_eq.mpr c7
          have c7b1 : (t136 != 0) = false := bne_eq_false_iff_eq.mpr c7
          clear c7
          replace H := bnd H
          obtain ⟨t137, A80, H⟩ := H
          have A8 := zMk A80
          clear A80
          by_cases c9 : t137 = 1
          · rw [if_pos c9] at H
            have c9b0 : (t137 == 1) = true := beq_iff_eq.mpr c9
            have c9b1 : (t137 != 1) = false := bne_eq_false_iff_eq.mpr c9
            clear c9
            replace H := bnd H
            obtain ⟨t138, A100, H⟩ := H
            have A10 := zMk A100
            clear A100
            obtain rfl := zOi H
            go_enter Try.func13, Try.ntmps13
            go_wp2_with (first |  ((with_reducible refine gate_dst (N := 6) rfl ?_); (try (refine gate_guard (by rfl) ?_; dsimp only)); refine Kd.R_lit k36 _ 36 ?hg (N := 6) ?hd (xs := ([(⟨2, 0, 0⟩ : S36), (⟨0, 1, 0⟩ : S36)] : List (S36))) (inner := [.int .i64 2, .int .i64 0, .int .i64 0, .int .i64 0, .int .i64 1, .int .i64 0]) (ok := fun _ => True) (okp := fun _ => True) ?hr ?hp (fun _ hk => hk) trivial (Below.refl _ _) (Nat.le_refl _) (by simp) ?_; (case hd => rfl); (case hg => rfl); (case hr => first |  (go_simp; done)|  (go_simp; rfl)|  (go_simp; rw [show ∀ x : Int, IntKind.u32.wrap (IntKind.u8.wrap x) = x % 256 from fun x => (by show (x % 256) % 4294967296 = x % 256; omega)])); (case hp => exact (Reps.c3 (show Kd.M k36 _ _ _ (⟨2, 0, 0⟩ : S36) [.int .i64 2, .int .i64 0, .int .i64 0] from (k36_mkM _ _ _ (⟨2, 0, 0⟩ : S36) )) (Reps.c3 (show Kd.M k36 _ _ _ (⟨0, 1, 0⟩ : S36) [.int .i64 0, .int .i64 1, .int .i64 0] from (k36_mkM _ _ _ (⟨0, 1, 0⟩ : S36) )) (Reps.none _ _)))); intro v127 w11 ho12 hb hg_ hnew_; clear hg_ hnew_; (first |  rw [← Ny126.out] at ho12|  (simp only [Int.reduceToNat] at ho12; rw [← Ny126.out] at ho12)); have HO128 := zMk (zRl ho12 (zBs (by exact uT HB.out))); replace HB := zMk (zBt (by exact uT HB.out) hb); clear hb ho12; obtain ⟨Ao13, co13, eo13⟩ := zRs HO128.out; subst eo13)|  ((with_reducible refine gate_callee (f := 14) rfl ?_); refine goesL_ (some 7) rfl rfl Try.func14 (by kernel_rfl) rfl #[.int .i64 3, .slice Ao13 y126.length co13] rfl (by (try simp only [zMa, zMc, zMn]); first |  done|  rfl|  (simp only [zLd, zLt]; rfl)) ?_; (with_reducible refine (graph_Make.calls k 3 _ _ y126 t129 t130 t133 _ ?side1 ?side2 A1.out).mono ?_); (case side1 => exact uC (zRr HO128.out).2.2); (case side2 => exact (zRr HO128.out).2.1); rintro e w14 ⟨v131, rfl, ho0, hb⟩; refine ⟨_, rfl, ?_⟩; have HO132 := zMk (zRl (zRw ho0 (zRt (by exact uR HO128.out))) (zBs (by exact uT HB.out))); replace HO128 := zMk (zRe (by exact uR HO128.out) (zRz ho0) hb); replace HB := zMk (zBt (by exact uT HB.out) hb); (try clear hb); (try clear hb2); (try clear hk); (try clear hi); (try clear ho0))|  ((with_reducible refine gate_dst (N := 1) rfl ?_); (try (refine gate_guard (by rfl) ?_; dsimp only)); refine box_event ?hg (N := 1) ?hd (cs := #[.int .i64 0, .slice none 0 0]) (t := 24) ?hr ?_; (case hd => rfl); (case hg => rfl); (case hr => first |  (go_simp; done)|  (go_simp; rfl)|  (go_simp; rw [show ∀ x : Int, IntKind.u32.wrap (IntKind.u8.wrap x) = x % 256 from fun x => (by show (x % 256) % 4294967296 = x % 256; omega)])); intro gb134 hg w15 hbox hb; replace HO128 := zMk (zRb (by exact uR HO128.out) hb); replace HO132 := zMk (zRb (by exact uR HO132.out) hb); have BK134 := zMk (hbox); have GW134 := zMk ((by rw [hg]; exact (zBs (by exact uT HB.out)) : w.heap.size ≤ gb134)); have GE134 := zMk ((by rw [hg]; exact (zBs (by exact uT HB.out)) : w.heap.size ≤ gb134)); have IGE134 := ownGe GE134.out; replace HB := zMk (zBt (by exact uT HB.out) hb); clear hb hbox hg; have hcz16_0 : w15.cell? ⟨gb134, 0, none⟩ = some (.int .i64 0) := (zKc BK134.out 0).trans rfl; have hcz16_1 : w15.cell? ⟨gb134, 1, none⟩ = some (.slice none 0 0) := (zKc BK134.out 1).trans rfl; have hfz16_0 := zKf BK134.out 0; have hfz16_1 := zKf BK134.out 1; obtain ⟨Ao17, co17, eo17⟩ := zRs HO132.out; subst eo17; have p135 : 0 ≤ (1 : Int) := (by omega); have q135 : 1 < (t130.length : Int) := of_decide_eq_true (by first |  (with_reducible assumption)|  assumption); obtain ⟨ad135, e135, hx135_0, hx135_1, hx135_2⟩ := at_T36 (zRr HO132.out).2.2 1 p135 q135; cases e135; (try simp only [show (1 : Int).toNat = 1 from rfl, Nat.reduceMul, Nat.reduceEqDiff, Go.Addr.add, ↓reduceIte] at hx135_0); (try simp only [show (1 : Int).toNat = 1 from rfl, Nat.reduceMul, Nat.reduceEqDiff, Go.Addr.add, ↓reduceIte] at hx135_1); (try simp only [show (1 : Int).toNat = 1 from rfl, Nat.reduceMul, Nat.reduceEqDiff, Go.Addr.add, ↓reduceIte] at hx135_2); have qi135 : (1 < t130.length) = True := eq_true (by omega); (try rw [show ((1 : Int)).toNat = 1 from rfl] at hx135_0); (try rw [show 1 * 3 = 3 from rfl] at hx135_0); (try rw [show ((1 : Int)).toNat = 1 from rfl] at hx135_1); (try rw [show 1 * 3 = 3 from rfl] at hx135_1); (try rw [show ((1 : Int)).toNat = 1 from rfl] at hx135_2); (try rw [show 1 * 3 = 3 from rfl] at hx135_2); have hn135_0 : ad135.block ≠ gb134 := Kd.own_blk (Kd.R_ne HO132.out BK134.out (by decide)); have hn135_1 : ad135.block ≠ gb134 := Kd.own_blk (Kd.R_ne HO132.out BK134.out (by decide)); replace hx135_0 := (cell_far (p := ⟨gb134, 0, none⟩) (by first |  (rw [add_block]; exact hn135_0)|  (show (Addr.add _ _).block ≠ _; rw [add_block]; exact hn135_0)|  exact hn135_0) (.int .i64 t129)).trans hx135_0; replace hx135_1 := (cell_far (p := ⟨gb134, 0, none⟩) (by first |  (rw [add_block]; exact hn135_0)|  (show (Addr.add _ _).block ≠ _; rw [add_block]; exact hn135_0)|  exact hn135_0) (.int .i64 t129)).trans hx135_1; replace hx135_2 := (cell_far (p := ⟨gb134, 0, none⟩) (by first |  (rw [add_block]; exact hn135_0)|  (show (Addr.add _ _).block ≠ _; rw [add_block]; exact hn135_0)|  exact hn135_0) (.int .i64 t129)).trans hx135_2; replace hx135_0 := (cell_far (p := ⟨gb134, 1, none⟩) (by first |  (rw [add_block]; exact hn135_1)|  (show (Addr.add _ _).block ≠ _; rw [add_block]; exact hn135_1)|  exact hn135_1) (.slice (some ad135) t130.length co17)).trans hx135_0; replace hx135_1 := (cell_far (p := ⟨gb134, 1, none⟩) (by first |  (rw [add_block]; exact hn135_1)|  (show (Addr.add _ _).block ≠ _; rw [add_block]; exact hn135_1)|  exact hn135_1) (.slice (some ad135) t130.length co17)).trans hx135_1; replace hx135_2 := (cell_far (p := ⟨gb134, 1, none⟩) (by first |  (rw [add_block]; exact hn135_1)|  (show (Addr.add _ _).block ≠ _; rw [add_block]; exact hn135_1)|  exact hn135_1) (.slice (some ad135) t130.length co17)).trans hx135_2; clear hn135_0 hn135_1; replace p135 := eq_true p135; replace q135 := eq_true q135)|  (go_at_call 11; (with_reducible refine (graph_Right.calls k t129 _ _ t130 t136 _ ?side1 ?side2 A6.out).mono ?_); (case side1 => refine (zRr (e := 36) (base := w.heap.size) (ok := fun k_ => (True ∧ some k_ ≠ (.slice Ao13 y126.length co13 : Value).ownBlock)) (n := t130.length) (c := co17) ?_).2.2; exact (by (with_reducible repeat (first |  apply zRa|  apply zRn|  apply zRd)); exact (zRm (Kd.R_far (p := ⟨gb134, 1, none⟩) (Kd.R_far (p := ⟨gb134, 0, none⟩) (Kd.R_types HO132.out BK134.out (by decide)) (fun _ hk => hk.2) (.int .i64 t129)) (fun _ hk => hk.2) (.slice (some ad135) t130.length co17)) (fun _ h_ => h_.1)))); (case side2 => exact (zRr HO132.out).2.1); rintro e w18 ⟨rfl, hb⟩; replace HO128 := zMk (zRb (by (with_reducible repeat (first |  apply zRa|  apply zRn|  apply zRd)); exact (zRm (Kd.R_far (p := ⟨gb134, 1, none⟩) (Kd.R_far (p := ⟨gb134, 0, none⟩) (Kd.R_types HO128.out BK134.out (by decide)) (fun _ hk => hk.2) (.int .i64 t129)) (fun _ hk => hk.2) (.slice (some ad135) t130.length co17)) (fun _ h_ => h_.1))) hb); replace HO132 := zMk (zRb (by (with_reducible repeat (first |  apply zRa|  apply zRn|  apply zRd)); exact (zRm (Kd.R_far (p := ⟨gb134, 1, none⟩) (Kd.R_far (p := ⟨gb134, 0, none⟩) (Kd.R_types HO132.out BK134.out (by decide)) (fun _ hk => hk.2) (.int .i64 t129)) (fun _ hk => hk.2) (.slice (some ad135) t130.length co17)) (fun _ h_ => h_.1))) hb); replace BK134 := zMk (zKb (g := gb134) (o := .cells #[.int .i64 t129, .slice (some ad135) t130.length co17] 24 (0, 0)) (by (with_reducible repeat (first |  refine zKn ?_ _|  refine zKd ?_|  refine zKa ?_ _)); refine blk_put (cs := #[.int .i64 t129, .slice none 0 0]) ?_ 1 _ rfl; (with_reducible repeat (first |  refine zKn ?_ _|  refine zKd ?_|  refine zKa ?_ _)); refine blk_put (cs := #[.int .i64 0, .slice none 0 0]) ?_ 0 _ rfl; (with_reducible repeat (first |  refine zKn ?_ _|  refine zKd ?_|  refine zKa ?_ _)); exact BK134.out) hb); replace HB := zMk (zBt (by exact uT HB.out) hb); (try clear hb); (try clear hb2); (try clear hk); (try clear hi); have hcz19_0 : w18.cell? ⟨gb134, 0, none⟩ = some (.int .i64 t129) := (zKc BK134.out 0).trans rfl; have hcz19_1 : w18.cell? ⟨gb134, 1, none⟩ = some (.slice (some ad135) t130.length co17) := (zKc BK134.out 1).trans rfl; have hfz19_0 := zKf BK134.out 0; have hfz19_1 := zKf BK134.out 1)|  (go_at_call 25; (with_reducible refine (graph_Find.calls k t129 _ _ t130 2 0 t137 _ ?side1 ?side2 A8.out).mono ?_); (case side1 => exact uC (zRr HO132.out).2.2); (case side2 => exact (zRr HO132.out).2.1); rintro e w20 ⟨rfl, hb⟩; replace HO128 := zMk (zRb (by exact uR HO128.out) hb); replace HO132 := zMk (zRb (by exact uR HO132.out) hb); replace BK134 := zMk (zKb (g := gb134) (o := .cells #[.int .i64 t129, .slice (some ad135) t130.length co17] 24 (0, 0)) (by (with_reducible repeat (first |  refine zKn ?_ _|  refine zKd ?_|  refine zKa ?_ _)); exact BK134.out) hb); replace HB := zMk (zBt (by exact uT HB.out) hb); (try clear hb); (try clear hb2); (try clear hk); (try clear hi); have hcz21_0 : w20.cell? ⟨gb134, 0, none⟩ = some (.int .i64 t129) := (zKc BK134.out 0).trans rfl; have hcz21_1 : w20.cell? ⟨gb134, 1, none⟩ = some (.slice (some ad135) t130.length co17) := (zKc BK134.out 1).trans rfl; have hfz21_0 := zKf BK134.out 0; have hfz21_1 := zKf BK134.out 1)|  (go_at_call 25; (with_reducible refine (graph_Find.calls k t129 _ _ t130 1 2 t138 _ ?side1 ?side2 A10.out).mono ?_); (case side1 => exact uC (zRr HO132.out).2.2); (case side2 => exact (zRr HO132.out).2.1); rintro e w22 ⟨rfl, hb⟩; replace HO128 := zMk (zRb (by exact uR HO128.out) hb); replace HO132 := zMk (zRb (by exact uR HO132.out) hb); replace BK134 := zMk (zKb (g := gb134) (o := .cells #[.int .i64 t129, .slice (some ad135) t130.length co17] 24 (0, 0)) (by (with_reducible repeat (first |  refine zKn ?_ _|  refine zKd ?_|  refine zKa ?_ _)); exact BK134.out) hb); replace HB := zMk (zBt (by exact uT HB.out) hb); (try clear hb); (try clear hb2); (try clear hk); (try clear hi)))
            go_ret
            exact ⟨by first | rfl | (simp [errW_none, errW_some] <;> rfl) | (simp [*, errW_none, errW_some] <;> rfl), by exact uT HB.out⟩
          · rw [if_neg c9] at H
            have c9b0 : (t137 == 1) = false := beq_eq_false_iff_ne.mpr c9
            have c9b1 : (t137 != 1) = true := bne_iff_ne.mpr c9
            obtain rfl := zOi H
            go_enter Try.func13, Try.ntmps13
            go_wp2_with (first |  ((with_reducible refine gate_dst (N := 6) rfl ?_); (try (refine gate_guard (by rfl) ?_; dsimp only)); refine Kd.R_lit k36 _ 36 ?hg (N := 6) ?hd (xs := ([(⟨2, 0, 0⟩ : S36), (⟨0, 1, 0⟩ : S36)] : List (S36))) (inner := [.int .i64 2, .int .i64 0, .int .i64 0, .int .i64 0, .int .i64 1, .int .i64 0]) (ok := fun _ => True) (okp := fun _ => True) ?hr ?hp (fun _ hk => hk) trivial (Below.refl _ _) (Nat.le_refl _) (by simp) ?_; (case hd => rfl); (case hg => rfl); (case hr => first |  (go_simp; done)|  (go_simp; rfl)|  (go_simp; rw [show ∀ x : Int, IntKind.u32.wrap (IntKind.u8.wrap x) = x % 256 from fun x => (by show (x % 256) % 4294967296 = x % 256; omega)])); (case hp => exact (Reps.c3 (show Kd.M k36 _ _ _ (⟨2, 0, 0⟩ : S36) [.int .i64 2, .int .i64 0, .int .i64 0] from (k36_mkM _ _ _ (⟨2, 0, 0⟩ : S36) )) (Reps.c3 (show Kd.M k36 _ _ _ (⟨0, 1, 0⟩ : S36) [.int .i64 0, .int .i64 1, .int .i64 0] from (k36_mkM _ _ _ (⟨0, 1, 0⟩ : S36) )) (Reps.none _ _)))); intro v127 w23 ho24 hb hg_ hnew_; clear hg_ hnew_; (first |  rw [← Ny126.out] at ho24|  (simp only [Int.reduceToNat] at ho24; rw [← Ny126.out] at ho24)); have HO128 := zMk (zRl ho24 (zBs (by exact uT HB.out))); replace HB := zMk (zBt (by exact uT HB.out) hb); clear hb ho24; obtain ⟨Ao25, co25, eo25⟩ := zRs HO128.out; subst eo25)|  ((with_reducible refine gate_callee (f := 14) rfl ?_); refine goesL_ (some 7) rfl rfl Try.func14 (by kernel_rfl) rfl #[.int .i64 3, .slice Ao25 y126.length co25] rfl (by (try simp only [zMa, zMc, zMn]); first |  done|  rfl|  (simp only [zLd, zLt]; rfl)) ?_; (with_reducible refine (graph_Make.calls k 3 _ _ y126 t129 t130 t133 _ ?side1 ?side2 A1.out).mono ?_); (case side1 => exact uC (zRr HO128.out).2.2); (case side2 => exact (zRr HO128.out).2.1); rintro e w26 ⟨v131, rfl, ho0, hb⟩; refine ⟨_, rfl, ?_⟩; have HO132 := zMk (zRl (zRw ho0 (zRt (by exact uR HO128.out))) (zBs (by exact uT HB.out))); replace HO128 := zMk (zRe (by exact uR HO128.out) (zRz ho0) hb); replace HB := zMk (zBt (by exact uT HB.out) hb); (try clear hb); (try clear hb2); (try clear hk); (try clear hi); (try clear ho0))|  ((with_reducible refine gate_dst (N := 1) rfl ?_); (try (refine gate_guard (by rfl) ?_; dsimp only)); refine box_event ?hg (N := 1) ?hd (cs := #[.int .i64 0, .slice none 0 0]) (t := 24) ?hr ?_; (case hd => rfl); (case hg => rfl); (case hr => first |  (go_simp; done)|  (go_simp; rfl)|  (go_simp; rw [show ∀ x : Int, IntKind.u32.wrap (IntKind.u8.wrap x) = x % 256 from fun x => (by show (x % 256) % 4294967296 = x % 256; omega)])); intro gb134 hg w27 hbox hb; replace HO128 := zMk (zRb (by exact uR HO128.out) hb); replace HO132 := zMk (zRb (by exact uR HO132.out) hb); have BK134 := zMk (hbox); have GW134 := zMk ((by rw [hg]; exact (zBs (by exact uT HB.out)) : w.heap.size ≤ gb134)); have GE134 := zMk ((by rw [hg]; exact (zBs (by exact uT HB.out)) : w.heap.size ≤ gb134)); have IGE134 := ownGe GE134.out; replace HB := zMk (zBt (by exact uT HB.out) hb); clear hb hbox hg; have hcz28_0 : w27.cell? ⟨gb134, 0, none⟩ = some (.int .i64 0) := (zKc BK134.out 0).trans rfl; have hcz28_1 : w27.cell? ⟨gb134, 1, none⟩ = some (.slice none 0 0) := (zKc BK134.out 1).trans rfl; have hfz28_0 := zKf BK134.out 0; have hfz28_1 := zKf BK134.out 1; obtain ⟨Ao29, co29, eo29⟩ := zRs HO132.out; subst eo29; have p135 : 0 ≤ (1 : Int) := (by omega); have q135 : 1 < (t130.length : Int) := of_decide_eq_true (by first |  (with_reducible assumption)|  assumption); obtain ⟨ad135, e135, hx135_0, hx135_1, hx135_2⟩ := at_T36 (zRr HO132.out).2.2 1 p135 q135; cases e135; (try simp only [show (1 : Int).toNat = 1 from rfl, Nat.reduceMul, Nat.reduceEqDiff, Go.Addr.add, ↓reduceIte] at hx135_0); (try simp only [show (1 : Int).toNat = 1 from rfl, Nat.reduceMul, Nat.reduceEqDiff, Go.Addr.add, ↓reduceIte] at hx135_1); (try simp only [show (1 : Int).toNat = 1 from rfl, Nat.reduceMul, Nat.reduceEqDiff, Go.Addr.add, ↓reduceIte] at hx135_2); have qi135 : (1 < t130.length) = True := eq_true (by omega); (try rw [show ((1 : Int)).toNat = 1 from rfl] at hx135_0); (try rw [show 1 * 3 = 3 from rfl] at hx135_0); (try rw [show ((1 : Int)).toNat = 1 from rfl] at hx135_1); (try rw [show 1 * 3 = 3 from rfl] at hx135_1); (try rw [show ((1 : Int)).toNat = 1 from rfl] at hx135_2); (try rw [show 1 * 3 = 3 from rfl] at hx135_2); have hn135_0 : ad135.block ≠ gb134 := Kd.own_blk (Kd.R_ne HO132.out BK134.out (by decide)); have hn135_1 : ad135.block ≠ gb134 := Kd.own_blk (Kd.R_ne HO132.out BK134.out (by decide)); replace hx135_0 := (cell_far (p := ⟨gb134, 0, none⟩) (by first |  (rw [add_block]; exact hn135_0)|  (show (Addr.add _ _).block ≠ _; rw [add_block]; exact hn135_0)|  exact hn135_0) (.int .i64 t129)).trans hx135_0; replace hx135_1 := (cell_far (p := ⟨gb134, 0, none⟩) (by first |  (rw [add_block]; exact hn135_0)|  (show (Addr.add _ _).block ≠ _; rw [add_block]; exact hn135_0)|  exact hn135_0) (.int .i64 t129)).trans hx135_1; replace hx135_2 := (cell_far (p := ⟨gb134, 0, none⟩) (by first |  (rw [add_block]; exact hn135_0)|  (show (Addr.add _ _).block ≠ _; rw [add_block]; exact hn135_0)|  exact hn135_0) (.int .i64 t129)).trans hx135_2; replace hx135_0 := (cell_far (p := ⟨gb134, 1, none⟩) (by first |  (rw [add_block]; exact hn135_1)|  (show (Addr.add _ _).block ≠ _; rw [add_block]; exact hn135_1)|  exact hn135_1) (.slice (some ad135) t130.length co29)).trans hx135_0; replace hx135_1 := (cell_far (p := ⟨gb134, 1, none⟩) (by first |  (rw [add_block]; exact hn135_1)|  (show (Addr.add _ _).block ≠ _; rw [add_block]; exact hn135_1)|  exact hn135_1) (.slice (some ad135) t130.length co29)).trans hx135_1; replace hx135_2 := (cell_far (p := ⟨gb134, 1, none⟩) (by first |  (rw [add_block]; exact hn135_1)|  (show (Addr.add _ _).block ≠ _; rw [add_block]; exact hn135_1)|  exact hn135_1) (.slice (some ad135) t130.length co29)).trans hx135_2; clear hn135_0 hn135_1; replace p135 := eq_true p135; replace q135 := eq_true q135)|  (go_at_call 11; (with_reducible refine (graph_Right.calls k t129 _ _ t130 t136 _ ?side1 ?side2 A6.out).mono ?_); (case side1 => refine (zRr (e := 36) (base := w.heap.size) (ok := fun k_ => (True ∧ some k_ ≠ (.slice Ao25 y126.length co25 : Value).ownBlock)) (n := t130.length) (c := co29) ?_).2.2; exact (by (with_reducible repeat (first |  apply zRa|  apply zRn|  apply zRd)); exact (zRm (Kd.R_far (p := ⟨gb134, 1, none⟩) (Kd.R_far (p := ⟨gb134, 0, none⟩) (Kd.R_types HO132.out BK134.out (by decide)) (fun _ hk => hk.2) (.int .i64 t129)) (fun _ hk => hk.2) (.slice (some ad135) t130.length co29)) (fun _ h_ => h_.1)))); (case side2 => exact (zRr HO132.out).2.1); rintro e w30 ⟨rfl, hb⟩; replace HO128 := zMk (zRb (by (with_reducible repeat (first |  apply zRa|  apply zRn|  apply zRd)); exact (zRm (Kd.R_far (p := ⟨gb134, 1, none⟩) (Kd.R_far (p := ⟨gb134, 0, none⟩) (Kd.R_types HO128.out BK134.out (by decide)) (fun _ hk => hk.2) (.int .i64 t129)) (fun _ hk => hk.2) (.slice (some ad135) t130.length co29)) (fun _ h_ => h_.1))) hb); replace HO132 := zMk (zRb (by (with_reducible repeat (first |  apply zRa|  apply zRn|  apply zRd)); exact (zRm (Kd.R_far (p := ⟨gb134, 1, none⟩) (Kd.R_far (p := ⟨gb134, 0, none⟩) (Kd.R_types HO132.out BK134.out (by decide)) (fun _ hk => hk.2) (.int .i64 t129)) (fun _ hk => hk.2) (.slice (some ad135) t130.length co29)) (fun _ h_ => h_.1))) hb); replace BK134 := zMk (zKb (g := gb134) (o := .cells #[.int .i64 t129, .slice (some ad135) t130.length co29] 24 (0, 0)) (by (with_reducible repeat (first |  refine zKn ?_ _|  refine zKd ?_|  refine zKa ?_ _)); refine blk_put (cs := #[.int .i64 t129, .slice none 0 0]) ?_ 1 _ rfl; (with_reducible repeat (first |  refine zKn ?_ _|  refine zKd ?_|  refine zKa ?_ _)); refine blk_put (cs := #[.int .i64 0, .slice none 0 0]) ?_ 0 _ rfl; (with_reducible repeat (first |  refine zKn ?_ _|  refine zKd ?_|  refine zKa ?_ _)); exact BK134.out) hb); replace HB := zMk (zBt (by exact uT HB.out) hb); (try clear hb); (try clear hb2); (try clear hk); (try clear hi); have hcz31_0 : w30.cell? ⟨gb134, 0, none⟩ = some (.int .i64 t129) := (zKc BK134.out 0).trans rfl; have hcz31_1 : w30.cell? ⟨gb134, 1, none⟩ = some (.slice (some ad135) t130.length co29) := (zKc BK134.out 1).trans rfl; have hfz31_0 := zKf BK134.out 0; have hfz31_1 := zKf BK134.out 1)|  (go_at_call 25; (with_reducible refine (graph_Find.calls k t129 _ _ t130 2 0 t137 _ ?side1 ?side2 A8.out).mono ?_); (case side1 => exact uC (zRr HO132.out).2.2); (case side2 => exact (zRr HO132.out).2.1); rintro e w32 ⟨rfl, hb⟩; replace HO128 := zMk (zRb (by exact uR HO128.out) hb); replace HO132 := zMk (zRb (by exact uR HO132.out) hb); replace BK134 := zMk (zKb (g := gb134) (o := .cells #[.int .i64 t129, .slice (some ad135) t130.length co29] 24 (0, 0)) (by (with_reducible repeat (first |  refine zKn ?_ _|  refine zKd ?_|  refine zKa ?_ _)); exact BK134.out) hb); replace HB := zMk (zBt (by exact uT HB.out) hb); (try clear hb); (try clear hb2); (try clear hk); (try clear hi)))
            go_ret
            exact ⟨by first | rfl | (simp [errW_none, errW_some] <;> rfl) | (simp [*, errW_none, errW_some] <;> rfl), by exact uT HB.out⟩
        · rw [if_neg c7] at H
          have c7b0 : (t136 == 0) = false := beq_eq_false_iff_ne.mpr c7
          have c7b1 : (t136 != 0) = true := bne_iff_ne.mpr c7
          obtain rfl := zOi H
          go_enter Try.func13, Try.ntmps13
          go_wp2_with (first |  ((with_reducible refine gate_dst (N := 6) rfl ?_); (try (refine gate_guard (by rfl) ?_; dsimp only)); refine Kd.R_lit k36 _ 36 ?hg (N := 6) ?hd (xs := ([(⟨2, 0, 0⟩ : S36), (⟨0, 1, 0⟩ : S36)] : List (S36))) (inner := [.int .i64 2, .int .i64 0, .int .i64 0, .int .i64 0, .int .i64 1, .int .i64 0]) (ok := fun _ => True) (okp := fun _ => True) ?hr ?hp (fun _ hk => hk) trivial (Below.refl _ _) (Nat.le_refl _) (by simp) ?_; (case hd => rfl); (case hg => rfl); (case hr => first |  (go_simp; done)|  (go_simp; rfl)|  (go_simp; rw [show ∀ x : Int, IntKind.u32.wrap (IntKind.u8.wrap x) = x % 256 from fun x => (by show (x % 256) % 4294967296 = x % 256; omega)])); (case hp => exact (Reps.c3 (show Kd.M k36 _ _ _ (⟨2, 0, 0⟩ : S36) [.int .i64 2, .int .i64 0, .int .i64 0] from (k36_mkM _ _ _ (⟨2, 0, 0⟩ : S36) )) (Reps.c3 (show Kd.M k36 _ _ _ (⟨0, 1, 0⟩ : S36) [.int .i64 0, .int .i64 1, .int .i64 0] from (k36_mkM _ _ _ (⟨0, 1, 0⟩ : S36) )) (Reps.none _ _)))); intro v127 w33 ho34 hb hg_ hnew_; clear hg_ hnew_; (first |  rw [← Ny126.out] at ho34|  (simp only [Int.reduceToNat] at ho34; rw [← Ny126.out] at ho34)); have HO128 := zMk (zRl ho34 (zBs (by exact uT HB.out))); replace HB := zMk (zBt (by exact uT HB.out) hb); clear hb ho34; obtain ⟨Ao35, co35, eo35⟩ := zRs HO128.out; subst eo35)|  ((with_reducible refine gate_callee (f := 14) rfl ?_); refine goesL_ (some 7) rfl rfl Try.func14 (by kernel_rfl) rfl #[.int .i64 3, .slice Ao35 y126.length co35] rfl (by (try simp only [zMa, zMc, zMn]); first |  done|  rfl|  (simp only [zLd, zLt]; rfl)) ?_; (with_reducible refine (graph_Make.calls k 3 _ _ y126 t129 t130 t133 _ ?side1 ?side2 A1.out).mono ?_); (case side1 => exact uC (zRr HO128.out).2.2); (case side2 => exact (zRr HO128.out).2.1); rintro e w36 ⟨v131, rfl, ho0, hb⟩; refine ⟨_, rfl, ?_⟩; have HO132 := zMk (zRl (zRw ho0 (zRt (by exact uR HO128.out))) (zBs (by exact uT HB.out))); replace HO128 := zMk (zRe (by exact uR HO128.out) (zRz ho0) hb); replace HB := zMk (zBt (by exact uT HB.out) hb); (try clear hb); (try clear hb2); (try clear hk); (try clear hi); (try clear ho0))|  ((with_reducible refine gate_dst (N := 1) rfl ?_); (try (refine gate_guard (by rfl) ?_; dsimp only)); refine box_event ?hg (N := 1) ?hd (cs := #[.int .i64 0, .slice none 0 0]) (t := 24) ?hr ?_; (case hd => rfl); (case hg => rfl); (case hr => first |  (go_simp; done)|  (go_simp; rfl)|  (go_simp; rw [show ∀ x : Int, IntKind.u32.wrap (IntKind.u8.wrap x) = x % 256 from fun x => (by show (x % 256) % 4294967296 = x % 256; omega)])); intro gb134 hg w37 hbox hb; replace HO128 := zMk (zRb (by exact uR HO128.out) hb); replace HO132 := zMk (zRb (by exact uR HO132.out) hb); have BK134 := zMk (hbox); have GW134 := zMk ((by rw [hg]; exact (zBs (by exact uT HB.out)) : w.heap.size ≤ gb134)); have GE134 := zMk ((by rw [hg]; exact (zBs (by exact uT HB.out)) : w.heap.size ≤ gb134)); have IGE134 := ownGe GE134.out; replace HB := zMk (zBt (by exact uT HB.out) hb); clear hb hbox hg; have hcz38_0 : w37.cell? ⟨gb134, 0, none⟩ = some (.int .i64 0) := (zKc BK134.out 0).trans rfl; have hcz38_1 : w37.cell? ⟨gb134, 1, none⟩ = some (.slice none 0 0) := (zKc BK134.out 1).trans rfl; have hfz38_0 := zKf BK134.out 0; have hfz38_1 := zKf BK134.out 1; obtain ⟨Ao39, co39, eo39⟩ := zRs HO132.out; subst eo39; have p135 : 0 ≤ (1 : Int) := (by omega); have q135 : 1 < (t130.length : Int) := of_decide_eq_true (by first |  (with_reducible assumption)|  assumption); obtain ⟨ad135, e135, hx135_0, hx135_1, hx135_2⟩ := at_T36 (zRr HO132.out).2.2 1 p135 q135; cases e135; (try simp only [show (1 : Int).toNat = 1 from rfl, Nat.reduceMul, Nat.reduceEqDiff, Go.Addr.add, ↓reduceIte] at hx135_0); (try simp only [show (1 : Int).toNat = 1 from rfl, Nat.reduceMul, Nat.reduceEqDiff, Go.Addr.add, ↓reduceIte] at hx135_1); (try simp only [show (1 : Int).toNat = 1 from rfl, Nat.reduceMul, Nat.reduceEqDiff, Go.Addr.add, ↓reduceIte] at hx135_2); have qi135 : (1 < t130.length) = True := eq_true (by omega); (try rw [show ((1 : Int)).toNat = 1 from rfl] at hx135_0); (try rw [show 1 * 3 = 3 from rfl] at hx135_0); (try rw [show ((1 : Int)).toNat = 1 from rfl] at hx135_1); (try rw [show 1 * 3 = 3 from rfl] at hx135_1); (try rw [show ((1 : Int)).toNat = 1 from rfl] at hx135_2); (try rw [show 1 * 3 = 3 from rfl] at hx135_2); have hn135_0 : ad135.block ≠ gb134 := Kd.own_blk (Kd.R_ne HO132.out BK134.out (by decide)); have hn135_1 : ad135.block ≠ gb134 := Kd.own_blk (Kd.R_ne HO132.out BK134.out (by decide)); replace hx135_0 := (cell_far (p := ⟨gb134, 0, none⟩) (by first |  (rw [add_block]; exact hn135_0)|  (show (Addr.add _ _).block ≠ _; rw [add_block]; exact hn135_0)|  exact hn135_0) (.int .i64 t129)).trans hx135_0; replace hx135_1 := (cell_far (p := ⟨gb134, 0, none⟩) (by first |  (rw [add_block]; exact hn135_0)|  (show (Addr.add _ _).block ≠ _; rw [add_block]; exact hn135_0)|  exact hn135_0) (.int .i64 t129)).trans hx135_1; replace hx135_2 := (cell_far (p := ⟨gb134, 0, none⟩) (by first |  (rw [add_block]; exact hn135_0)|  (show (Addr.add _ _).block ≠ _; rw [add_block]; exact hn135_0)|  exact hn135_0) (.int .i64 t129)).trans hx135_2; replace hx135_0 := (cell_far (p := ⟨gb134, 1, none⟩) (by first |  (rw [add_block]; exact hn135_1)|  (show (Addr.add _ _).block ≠ _; rw [add_block]; exact hn135_1)|  exact hn135_1) (.slice (some ad135) t130.length co39)).trans hx135_0; replace hx135_1 := (cell_far (p := ⟨gb134, 1, none⟩) (by first |  (rw [add_block]; exact hn135_1)|  (show (Addr.add _ _).block ≠ _; rw [add_block]; exact hn135_1)|  exact hn135_1) (.slice (some ad135) t130.length co39)).trans hx135_1; replace hx135_2 := (cell_far (p := ⟨gb134, 1, none⟩) (by first |  (rw [add_block]; exact hn135_1)|  (show (Addr.add _ _).block ≠ _; rw [add_block]; exact hn135_1)|  exact hn135_1) (.slice (some ad135) t130.length co39)).trans hx135_2; clear hn135_0 hn135_1; replace p135 := eq_true p135; replace q135 := eq_true q135)|  (go_at_call 11; (with_reducible refine (graph_Right.calls k t129 _ _ t130 t136 _ ?side1 ?side2 A6.out).mono ?_); (case side1 => refine (zRr (e := 36) (base := w.heap.size) (ok := fun k_ => (True ∧ some k_ ≠ (.slice Ao35 y126.length co35 : Value).ownBlock)) (n := t130.length) (c := co39) ?_).2.2; exact (by (with_reducible repeat (first |  apply zRa|  apply zRn|  apply zRd)); exact (zRm (Kd.R_far (p := ⟨gb134, 1, none⟩) (Kd.R_far (p := ⟨gb134, 0, none⟩) (Kd.R_types HO132.out BK134.out (by decide)) (fun _ hk => hk.2) (.int .i64 t129)) (fun _ hk => hk.2) (.slice (some ad135) t130.length co39)) (fun _ h_ => h_.1)))); (case side2 => exact (zRr HO132.out).2.1); rintro e w40 ⟨rfl, hb⟩; replace HO128 := zMk (zRb (by (with_reducible repeat (first |  apply zRa|  apply zRn|  apply zRd)); exact (zRm (Kd.R_far (p := ⟨gb134, 1, none⟩) (Kd.R_far (p := ⟨gb134, 0, none⟩) (Kd.R_types HO128.out BK134.out (by decide)) (fun _ hk => hk.2) (.int .i64 t129)) (fun _ hk => hk.2) (.slice (some ad135) t130.length co39)) (fun _ h_ => h_.1))) hb); replace HO132 := zMk (zRb (by (with_reducible repeat (first |  apply zRa|  apply zRn|  apply zRd)); exact (zRm (Kd.R_far (p := ⟨gb134, 1, none⟩) (Kd.R_far (p := ⟨gb134, 0, none⟩) (Kd.R_types HO132.out BK134.out (by decide)) (fun _ hk => hk.2) (.int .i64 t129)) (fun _ hk => hk.2) (.slice (some ad135) t130.length co39)) (fun _ h_ => h_.1))) hb); replace BK134 := zMk (zKb (g := gb134) (o := .cells #[.int .i64 t129, .slice (some ad135) t130.length co39] 24 (0, 0)) (by (with_reducible repeat (first |  refine zKn ?_ _|  refine zKd ?_|  refine zKa ?_ _)); refine blk_put (cs := #[.int .i64 t129, .slice none 0 0]) ?_ 1 _ rfl; (with_reducible repeat (first |  refine zKn ?_ _|  refine zKd ?_|  refine zKa ?_ _)); refine blk_put (cs := #[.int .i64 0, .slice none 0 0]) ?_ 0 _ rfl; (with_reducible repeat (first |  refine zKn ?_ _|  refine zKd ?_|  refine zKa ?_ _)); exact BK134.out) hb); replace HB := zMk (zBt (by exact uT HB.out) hb); (try clear hb); (try clear hb2); (try clear hk); (try clear hi)))
          go_ret
          exact ⟨by first | rfl | (simp [errW_none, errW_some] <;> rfl) | (simp [*, errW_none, errW_some] <;> rfl), by exact uT HB.out⟩
      · rw [if_neg c5] at H
        have c5b0 : (((rd_T36 t130 1).f0) == 0 && (((rd_T36 t130 1).f1) == 2 && (((rd_T36 t130 1).f2) == 0))) = false := by simpa using c5
        (try (have c5b1 : decide (((rd_T36 t130 1).f0) = 0 && (((rd_T36 t130 1).f1) == 2 && (((rd_T36 t130 1).f2) == 0))) = false := by simpa using c5))
        (try (have c5b2 : (((rd_T36 t130 1).f0) == 0 && (((rd_T36 t130 1).f1) == 2 && (((rd_T36 t130 1).f2) == 0))) = false := by simpa using c5))
        (try (have c5b3 : ¬ (((rd_T36 t130 1).f0) = 0 && (((rd_T36 t130 1).f1) == 2 && (((rd_T36 t130 1).f2) == 0))) := by simpa using c5))
        clear c5
        obtain rfl := zOi H
        go_enter Try.func13, Try.ntmps13
        go_wp2_with (first |  ((with_reducible refine gate_dst (N := 6) rfl ?_); (try (refine gate_guard (by rfl) ?_; dsimp only)); refine Kd.R_lit k36 _ 36 ?hg (N := 6) ?hd (xs := ([(⟨2, 0, 0⟩ : S36), (⟨0, 1, 0⟩ : S36)] : List (S36))) (inner := [.int .i64 2, .int .i64 0, .int .i64 0, .int .i64 0, .int .i64 1, .int .i64 0]) (ok := fun _ => True) (okp := fun _ => True) ?hr ?hp (fun _ hk => hk) trivial (Below.refl _ _) (Nat.le_refl _) (by simp) ?_; (case hd => rfl); (case hg => rfl); (case hr => first |  (go_simp; done)|  (go_simp; rfl)|  (go_simp; rw [show ∀ x : Int, IntKind.u32.wrap (IntKind.u8.wrap x) = x % 256 from fun x => (by show (x % 256) % 4294967296 = x % 256; omega)])); (case hp => exact (Reps.c3 (show Kd.M k36 _ _ _ (⟨2, 0, 0⟩ : S36) [.int .i64 2, .int .i64 0, .int .i64 0] from (k36_mkM _ _ _ (⟨2, 0, 0⟩ : S36) )) (Reps.c3 (show Kd.M k36 _ _ _ (⟨0, 1, 0⟩ : S36) [.int .i64 0, .int .i64 1, .int .i64 0] from (k36_mkM _ _ _ (⟨0, 1, 0⟩ : S36) )) (Reps.none _ _)))); intro v127 w41 ho42 hb hg_ hnew_; clear hg_ hnew_; (first |  rw [← Ny126.out] at ho42|  (simp only [Int.reduceToNat] at ho42; rw [← Ny126.out] at ho42)); have HO128 := zMk (zRl ho42 (zBs (by exact uT HB.out))); replace HB := zMk (zBt (by exact uT HB.out) hb); clear hb ho42; obtain ⟨Ao43, co43, eo43⟩ := zRs HO128.out; subst eo43)|  ((with_reducible refine gate_callee (f := 14) rfl ?_); refine goesL_ (some 7) rfl rfl Try.func14 (by kernel_rfl) rfl #[.int .i64 3, .slice Ao43 y126.length co43] rfl (by (try simp only [zMa, zMc, zMn]); first |  done|  rfl|  (simp only [zLd, zLt]; rfl)) ?_; (with_reducible refine (graph_Make.calls k 3 _ _ y126 t129 t130 t133 _ ?side1 ?side2 A1.out).mono ?_); (case side1 => exact uC (zRr HO128.out).2.2); (case side2 => exact (zRr HO128.out).2.1); rintro e w44 ⟨v131, rfl, ho0, hb⟩; refine ⟨_, rfl, ?_⟩; have HO132 := zMk (zRl (zRw ho0 (zRt (by exact uR HO128.out))) (zBs (by exact uT HB.out))); replace HO128 := zMk (zRe (by exact uR HO128.out) (zRz ho0) hb); replace HB := zMk (zBt (by exact uT HB.out) hb); (try clear hb); (try clear hb2); (try clear hk); (try clear hi); (try clear ho0))|  ((with_reducible refine gate_dst (N := 1) rfl ?_); (try (refine gate_guard (by rfl) ?_; dsimp only)); refine box_event ?hg (N := 1) ?hd (cs := #[.int .i64 0, .slice none 0 0]) (t := 24) ?hr ?_; (case hd => rfl); (case hg => rfl); (case hr => first |  (go_simp; done)|  (go_simp; rfl)|  (go_simp; rw [show ∀ x : Int, IntKind.u32.wrap (IntKind.u8.wrap x) = x % 256 from fun x => (by show (x % 256) % 4294967296 = x % 256; omega)])); intro gb134 hg w45 hbox hb; replace HO128 := zMk (zRb (by exact uR HO128.out) hb); replace HO132 := zMk (zRb (by exact uR HO132.out) hb); have BK134 := zMk (hbox); have GW134 := zMk ((by rw [hg]; exact (zBs (by exact uT HB.out)) : w.heap.size ≤ gb134)); have GE134 := zMk ((by rw [hg]; exact (zBs (by exact uT HB.out)) : w.heap.size ≤ gb134)); have IGE134 := ownGe GE134.out; replace HB := zMk (zBt (by exact uT HB.out) hb); clear hb hbox hg; have hcz46_0 : w45.cell? ⟨gb134, 0, none⟩ = some (.int .i64 0) := (zKc BK134.out 0).trans rfl; have hcz46_1 : w45.cell? ⟨gb134, 1, none⟩ = some (.slice none 0 0) := (zKc BK134.out 1).trans rfl; have hfz46_0 := zKf BK134.out 0; have hfz46_1 := zKf BK134.out 1; obtain ⟨Ao47, co47, eo47⟩ := zRs HO132.out; subst eo47; have p135 : 0 ≤ (1 : Int) := (by omega); have q135 : 1 < (t130.length : Int) := of_decide_eq_true (by first |  (with_reducible assumption)|  assumption); obtain ⟨ad135, e135, hx135_0, hx135_1, hx135_2⟩ := at_T36 (zRr HO132.out).2.2 1 p135 q135; cases e135; (try simp only [show (1 : Int).toNat = 1 from rfl, Nat.reduceMul, Nat.reduceEqDiff, Go.Addr.add, ↓reduceIte] at hx135_0); (try simp only [show (1 : Int).toNat = 1 from rfl, Nat.reduceMul, Nat.reduceEqDiff, Go.Addr.add, ↓reduceIte] at hx135_1); (try simp only [show (1 : Int).toNat = 1 from rfl, Nat.reduceMul, Nat.reduceEqDiff, Go.Addr.add, ↓reduceIte] at hx135_2); have qi135 : (1 < t130.length) = True := eq_true (by omega); (try rw [show ((1 : Int)).toNat = 1 from rfl] at hx135_0); (try rw [show 1 * 3 = 3 from rfl] at hx135_0); (try rw [show ((1 : Int)).toNat = 1 from rfl] at hx135_1); (try rw [show 1 * 3 = 3 from rfl] at hx135_1); (try rw [show ((1 : Int)).toNat = 1 from rfl] at hx135_2); (try rw [show 1 * 3 = 3 from rfl] at hx135_2); have hn135_0 : ad135.block ≠ gb134 := Kd.own_blk (Kd.R_ne HO132.out BK134.out (by decide)); have hn135_1 : ad135.block ≠ gb134 := Kd.own_blk (Kd.R_ne HO132.out BK134.out (by decide)); replace hx135_0 := (cell_far (p := ⟨gb134, 0, none⟩) (by first |  (rw [add_block]; exact hn135_0)|  (show (Addr.add _ _).block ≠ _; rw [add_block]; exact hn135_0)|  exact hn135_0) (.int .i64 t129)).trans hx135_0; replace hx135_1 := (cell_far (p := ⟨gb134, 0, none⟩) (by first |  (rw [add_block]; exact hn135_0)|  (show (Addr.add _ _).block ≠ _; rw [add_block]; exact hn135_0)|  exact hn135_0) (.int .i64 t129)).trans hx135_1; replace hx135_2 := (cell_far (p := ⟨gb134, 0, none⟩) (by first |  (rw [add_block]; exact hn135_0)|  (show (Addr.add _ _).block ≠ _; rw [add_block]; exact hn135_0)|  exact hn135_0) (.int .i64 t129)).trans hx135_2; replace hx135_0 := (cell_far (p := ⟨gb134, 1, none⟩) (by first |  (rw [add_block]; exact hn135_1)|  (show (Addr.add _ _).block ≠ _; rw [add_block]; exact hn135_1)|  exact hn135_1) (.slice (some ad135) t130.length co47)).trans hx135_0; replace hx135_1 := (cell_far (p := ⟨gb134, 1, none⟩) (by first |  (rw [add_block]; exact hn135_1)|  (show (Addr.add _ _).block ≠ _; rw [add_block]; exact hn135_1)|  exact hn135_1) (.slice (some ad135) t130.length co47)).trans hx135_1; replace hx135_2 := (cell_far (p := ⟨gb134, 1, none⟩) (by first |  (rw [add_block]; exact hn135_1)|  (show (Addr.add _ _).block ≠ _; rw [add_block]; exact hn135_1)|  exact hn135_1) (.slice (some ad135) t130.length co47)).trans hx135_2; clear hn135_0 hn135_1; replace p135 := eq_true p135; replace q135 := eq_true q135))
        go_ret
        exact ⟨by first | rfl | (simp [errW_none, errW_some] <;> rfl) | (simp [*, errW_none, errW_some] <;> rfl), by exact uT HB.out⟩
    · rw [if_neg c3] at H
      have c3b0 : ((t130.length : Int) == 2) = false := beq_eq_false_iff_ne.mpr c3
      have c3b1 : ((t130.length : Int) != 2) = true := bne_iff_ne.mpr c3
      obtain rfl := zOi H
      go_enter Try.func13, Try.ntmps13
      go_wp2_with (first |  ((with_reducible refine gate_dst (N := 6) rfl ?_); (try (refine gate_guard (by rfl) ?_; dsimp only)); refine Kd.R_lit k36 _ 36 ?hg (N := 6) ?hd (xs := ([(⟨2, 0, 0⟩ : S36), (⟨0, 1, 0⟩ : S36)] : List (S36))) (inner := [.int .i64 2, .int .i64 0, .int .i64 0, .int .i64 0, .int .i64 1, .int .i64 0]) (ok := fun _ => True) (okp := fun _ => True) ?hr ?hp (fun _ hk => hk) trivial (Below.refl _ _) (Nat.le_refl _) (by simp) ?_; (case hd => rfl); (case hg => rfl); (case hr => first |  (go_simp; done)|  (go_simp; rfl)|  (go_simp; rw [show ∀ x : Int, IntKind.u32.wrap (IntKind.u8.wrap x) = x % 256 from fun x => (by show (x % 256) % 4294967296 = x % 256; omega)])); (case hp => exact (Reps.c3 (show Kd.M k36 _ _ _ (⟨2, 0, 0⟩ : S36) [.int .i64 2, .int .i64 0, .int .i64 0] from (k36_mkM _ _ _ (⟨2, 0, 0⟩ : S36) )) (Reps.c3 (show Kd.M k36 _ _ _ (⟨0, 1, 0⟩ : S36) [.int .i64 0, .int .i64 1, .int .i64 0] from (k36_mkM _ _ _ (⟨0, 1, 0⟩ : S36) )) (Reps.none _ _)))); intro v127 w48 ho49 hb hg_ hnew_; clear hg_ hnew_; (first |  rw [← Ny126.out] at ho49|  (simp only [Int.reduceToNat] at ho49; rw [← Ny126.out] at ho49)); have HO128 := zMk (zRl ho49 (zBs (by exact uT HB.out))); replace HB := zMk (zBt (by exact uT HB.out) hb); clear hb ho49; obtain ⟨Ao50, co50, eo50⟩ := zRs HO128.out; subst eo50)|  ((with_reducible refine gate_callee (f := 14) rfl ?_); refine goesL_ (some 7) rfl rfl Try.func14 (by kernel_rfl) rfl #[.int .i64 3, .slice Ao50 y126.length co50] rfl (by (try simp only [zMa, zMc, zMn]); first |  done|  rfl|  (simp only [zLd, zLt]; rfl)) ?_; (with_reducible refine (graph_Make.calls k 3 _ _ y126 t129 t130 t133 _ ?side1 ?side2 A1.out).mono ?_); (case side1 => exact uC (zRr HO128.out).2.2); (case side2 => exact (zRr HO128.out).2.1); rintro e w51 ⟨v131, rfl, ho0, hb⟩; refine ⟨_, rfl, ?_⟩; have HO132 := zMk (zRl (zRw ho0 (zRt (by exact uR HO128.out))) (zBs (by exact uT HB.out))); replace HO128 := zMk (zRe (by exact uR HO128.out) (zRz ho0) hb); replace HB := zMk (zBt (by exact uT HB.out) hb); (try clear hb); (try clear hb2); (try clear hk); (try clear hi); (try clear ho0))|  ((with_reducible refine gate_dst (N := 1) rfl ?_); (try (refine gate_guard (by rfl) ?_; dsimp only)); refine box_event ?hg (N := 1) ?hd (cs := #[.int .i64 0, .slice none 0 0]) (t := 24) ?hr ?_; (case hd => rfl); (case hg => rfl); (case hr => first |  (go_simp; done)|  (go_simp; rfl)|  (go_simp; rw [show ∀ x : Int, IntKind.u32.wrap (IntKind.u8.wrap x) = x % 256 from fun x => (by show (x % 256) % 4294967296 = x % 256; omega)])); intro gb134 hg w52 hbox hb; replace HO128 := zMk (zRb (by exact uR HO128.out) hb); replace HO132 := zMk (zRb (by exact uR HO132.out) hb); have BK134 := zMk (hbox); have GW134 := zMk ((by rw [hg]; exact (zBs (by exact uT HB.out)) : w.heap.size ≤ gb134)); have GE134 := zMk ((by rw [hg]; exact (zBs (by exact uT HB.out)) : w.heap.size ≤ gb134)); have IGE134 := ownGe GE134.out; replace HB := zMk (zBt (by exact uT HB.out) hb); clear hb hbox hg; have hcz53_0 : w52.cell? ⟨gb134, 0, none⟩ = some (.int .i64 0) := (zKc BK134.out 0).trans rfl; have hcz53_1 : w52.cell? ⟨gb134, 1, none⟩ = some (.slice none 0 0) := (zKc BK134.out 1).trans rfl; have hfz53_0 := zKf BK134.out 0; have hfz53_1 := zKf BK134.out 1; obtain ⟨Ao54, co54, eo54⟩ := zRs HO132.out; subst eo54))
      go_ret
      exact ⟨by first | rfl | (simp [errW_none, errW_some] <;> rfl) | (simp [*, errW_none, errW_some] <;> rfl), by exact uT HB.out⟩
  · rw [if_neg c2] at H
    have c2b0 : (t133 == 0) = false := beq_eq_false_iff_ne.mpr c2
    have c2b1 : (t133 != 0) = true := bne_iff_ne.mpr c2
    obtain rfl := zOi H
    go_enter Try.func13, Try.ntmps13
    go_wp2_with (first |  ((with_reducible refine gate_dst (N := 6) rfl ?_); (try (refine gate_guard (by rfl) ?_; dsimp only)); refine Kd.R_lit k36 _ 36 ?hg (N := 6) ?hd (xs := ([(⟨2, 0, 0⟩ : S36), (⟨0, 1, 0⟩ : S36)] : List (S36))) (inner := [.int .i64 2, .int .i64 0, .int .i64 0, .int .i64 0, .int .i64 1, .int .i64 0]) (ok := fun _ => True) (okp := fun _ => True) ?hr ?hp (fun _ hk => hk) trivial (Below.refl _ _) (Nat.le_refl _) (by simp) ?_; (case hd => rfl); (case hg => rfl); (case hr => first |  (go_simp; done)|  (go_simp; rfl)|  (go_simp; rw [show ∀ x : Int, IntKind.u32.wrap (IntKind.u8.wrap x) = x % 256 from fun x => (by show (x % 256) % 4294967296 = x % 256; omega)])); (case hp => exact (Reps.c3 (show Kd.M k36 _ _ _ (⟨2, 0, 0⟩ : S36) [.int .i64 2, .int .i64 0, .int .i64 0] from (k36_mkM _ _ _ (⟨2, 0, 0⟩ : S36) )) (Reps.c3 (show Kd.M k36 _ _ _ (⟨0, 1, 0⟩ : S36) [.int .i64 0, .int .i64 1, .int .i64 0] from (k36_mkM _ _ _ (⟨0, 1, 0⟩ : S36) )) (Reps.none _ _)))); intro v127 w55 ho56 hb hg_ hnew_; clear hg_ hnew_; (first |  rw [← Ny126.out] at ho56|  (simp only [Int.reduceToNat] at ho56; rw [← Ny126.out] at ho56)); have HO128 := zMk (zRl ho56 (zBs (by exact uT HB.out))); replace HB := zMk (zBt (by exact uT HB.out) hb); clear hb ho56; obtain ⟨Ao57, co57, eo57⟩ := zRs HO128.out; subst eo57)|  ((with_reducible refine gate_callee (f := 14) rfl ?_); refine goesL_ (some 7) rfl rfl Try.func14 (by kernel_rfl) rfl #[.int .i64 3, .slice Ao57 y126.length co57] rfl (by (try simp only [zMa, zMc, zMn]); first |  done|  rfl|  (simp only [zLd, zLt]; rfl)) ?_; (with_reducible refine (graph_Make.calls k 3 _ _ y126 t129 t130 t133 _ ?side1 ?side2 A1.out).mono ?_); (case side1 => exact uC (zRr HO128.out).2.2); (case side2 => exact (zRr HO128.out).2.1); rintro e w58 ⟨v131, rfl, ho0, hb⟩; refine ⟨_, rfl, ?_⟩; have HO132 := zMk (zRl (zRw ho0 (zRt (by exact uR HO128.out))) (zBs (by exact uT HB.out))); replace HO128 := zMk (zRe (by exact uR HO128.out) (zRz ho0) hb); replace HB := zMk (zBt (by exact uT HB.out) hb); (try clear hb); (try clear hb2); (try clear hk); (try clear hi); (try clear ho0))|  ((with_reducible refine gate_dst (N := 1) rfl ?_); (try (refine gate_guard (by rfl) ?_; dsimp only)); refine box_event ?hg (N := 1) ?hd (cs := #[.int .i64 0, .slice none 0 0]) (t := 24) ?hr ?_; (case hd => rfl); (case hg => rfl); (case hr => first |  (go_simp; done)|  (go_simp; rfl)|  (go_simp; rw [show ∀ x : Int, IntKind.u32.wrap (IntKind.u8.wrap x) = x % 256 from fun x => (by show (x % 256) % 4294967296 = x % 256; omega)])); intro gb134 hg w59 hbox hb; replace HO128 := zMk (zRb (by exact uR HO128.out) hb); replace HO132 := zMk (zRb (by exact uR HO132.out) hb); have BK134 := zMk (hbox); have GW134 := zMk ((by rw [hg]; exact (zBs (by exact uT HB.out)) : w.heap.size ≤ gb134)); have GE134 := zMk ((by rw [hg]; exact (zBs (by exact uT HB.out)) : w.heap.size ≤ gb134)); have IGE134 := ownGe GE134.out; replace HB := zMk (zBt (by exact uT HB.out) hb); clear hb hbox hg; have hcz60_0 : w59.cell? ⟨gb134, 0, none⟩ = some (.int .i64 0) := (zKc BK134.out 0).trans rfl; have hcz60_1 : w59.cell? ⟨gb134, 1, none⟩ = some (.slice none 0 0) := (zKc BK134.out 1).trans rfl; have hfz60_0 := zKf BK134.out 0; have hfz60_1 := zKf BK134.out 1; obtain ⟨Ao61, co61, eo61⟩ := zRs HO132.out; subst eo61))
    go_ret
    exact ⟨by first | rfl | (simp [errW_none, errW_some] <;> rfl) | (simp [*, errW_none, errW_some] <;> rfl), by exact uT HB.out⟩

/- Chapter 04: the chapter's example. -/
theorem alive_at0 : filigreelaw04_alive.f 1000000 = some true := by kernel_rfl
theorem alive_at1 : filigreelaw04_alive.f 999999 = some true := by kernel_rfl

/-! ### graph_Weight: function 19 -/
def graph_Weight.l0 : Nat → List Bool → Int → List Int → Int → Int → Int → List (S36) → Option (Int × Int)
  | 0, _, _, _, _, _, _, _ => none
  | k + 1, x6, x7, x17, x18, x19, x444000, x444001 => if x19 < x18 then (if 0 ≤ x19 then (if x19 < (x17.length : Int) then (if (rd x17 x19) < 0 then (some (0, 1)) else (if (rd x17 x19) ≥ (x6.length : Int) then (some (0, 1)) else (if 0 ≤ (rd x17 x19) then (if (rd x17 x19) < (x6.length : Int) then (if rdOf false x6 (rd x17 x19) = true then (some (0, 1)) else (if (rd x17 x19) < (x444001.length : Int) then (graph_Weight.l0 k (x6.set ((rd x17 x19) : Int).toNat true) (wrap64 (x7 + ((rd_T36 x444001 (rd x17 x19)).f2))) x17 x18 (wrap64 (x19 + 1)) x444000 x444001) else (none))) else (none)) else (none)))) else (none)) else (none)) else (some (x7, 0))
def graph_Weight.f (k : Nat) (a0_0 : Int) (l0_1 : List (S36)) (l1 : List Int) : Option (Int × Int) := (graph_Right.f k a0_0 l0_1).bind fun t444 => (if t444 = 0 then (if 0 ≤ (l0_1.length : Int) then (if ((l0_1.length : Int) : Int).toNat ≤ 281474976710656 then (graph_Weight.l0 k (List.replicate ((l0_1.length : Int) : Int).toNat false) 0 l1 (l1.length : Int) 0 a0_0 l0_1) else (none)) else (none)) else (some (0, 1)))
set_option maxHeartbeats 8000000 in
set_option maxRecDepth 100000 in
theorem graph_Weight.calls (k : Nat) (a0_0 : Int) (A0_1 : Option Addr) (c0_1 : Nat) (l0_1 : List (S36)) (A1 : Option Addr) (c1 : Nat) (l1 : List Int) (r1 : Int) (r2 : Int) (w : World) (hr0_1 : Kd.C k36 w A0_1 l0_1.length l0_1) (hc0_1 : l0_1.length ≤ c0_1) (hr1 : Kd.C (Kd.int .i64) w A1 l1.length l1) (hc1 : l1.length ≤ c1) (h : graph_Weight.f k a0_0 l0_1 l1 = some (r1, r2)) :
    Calls Try.prog 19 #[.agg #[.int .i64 a0_0, .slice A0_1 l0_1.length c0_1], .slice A1 l1.length c1] w fun e w' => e = .returned (.tuple #[.int .i64 r1, .int .i64 r2]) ∧ Below w.heap.size w w' := by
  have hu24 := Try.underlying24
  have HR0_1 := zMk hr0_1
  have HC0_1 := zMk hc0_1
  clear hr0_1 hc0_1
  have HR1 := zMk hr1
  have HC1 := zMk hc1
  clear hr1 hc1
  have HB := zMk (Below.refl w.heap.size w)
  have H : ((graph_Right.f k a0_0 l0_1).bind fun t444 => (if t444 = 0 then (if 0 ≤ (l0_1.length : Int) then (if ((l0_1.length : Int) : Int).toNat ≤ 281474976710656 then (graph_Weight.l0 k (List.replicate ((l0_1.length : Int) : Int).toNat false) 0 l1 (l1.length : Int) 0 a0_0 l0_1) else (none)) else (none)) else (some (0, 1)))) = some (r1, r2) := h
  clear h
  replace H := bnd H
  obtain ⟨t444, A30, H⟩ := H
  have A3 := zMk A30
  clear A30
  by_cases c4 : t444 = 0
  · rw [if_pos c4] at H
    have c4b0 : (t444 == 0) = true := beq_iff_eq.mpr c4
    have c4b1 : (t444 != 0) = false := bne_eq_false_iff_eq.mpr c4
    clear c4
    by_cases c5 : 0 ≤ (l0_1.length : Int)
    rotate_left
    · rw [if_neg c5] at H; exact absurd H (by simp)
    rw [if_pos c5] at H
    have c5b0 := eq_true c5
    have c5b1 : decide (0 ≤ (l0_1.length : Int)) = true := decide_eq_true c5
    clear c5
    by_cases c6 : ((l0_1.length : Int) : Int).toNat ≤ 281474976710656
    rotate_left
    · rw [if_neg c6] at H; exact absurd H (by simp)
    rw [if_pos c6] at H
    have c6b0 := eq_true c6
    have c6b1 : decide (((l0_1.length : Int) : Int).toNat ≤ 281474976710656) = true := decide_eq_true c6
    clear c6
    obtain ⟨y445, hy445⟩ : ∃ y_ : List Bool, y_ = (List.replicate ((l0_1.length : Int) : Int).toNat false) := ⟨_, rfl⟩
    replace H : (graph_Weight.l0 k y445 0 l1 (l1.length : Int) 0 a0_0 l0_1) = some (r1, r2) := by first | (rw [hy445]; with_reducible exact H) | (have H2_ := bsm H; first | (rw [hy445]; with_reducible exact H2_) | with_reducible exact H2_) | with_reducible exact H | (rw [hy445]; exact H) | exact H
    have Ny445 := zMk hy445
    clear hy445
    have H' := zMk H
    clear H
    go_enter Try.func19, Try.ntmps19
    go_wp2_with (first |  ((with_reducible refine gate_dst (N := 2) rfl ?_); (try (refine gate_guard (by rfl) ?_; dsimp only)); refine box_event ?hg (N := 2) ?hd (cs := #[.int .i64 a0_0, .slice A0_1 l0_1.length c0_1]) (t := 24) ?hr ?_; (case hd => rfl); (case hg => rfl); (case hr => first |  (go_simp; done)|  (go_simp; rfl)|  (go_simp; rw [show ∀ x : Int, IntKind.u32.wrap (IntKind.u8.wrap x) = x % 256 from fun x => (by show (x % 256) % 4294967296 = x % 256; omega)])); intro gb443 hg w7 hbox hb; have BK443 := zMk (hbox); have GW443 := zMk ((by rw [hg]; exact (zBs (by exact uT HB.out)) : w.heap.size ≤ gb443)); have GE443 := zMk ((by rw [hg]; exact (zBs (by exact uT HB.out)) : w.heap.size ≤ gb443)); have IGE443 := ownGe GE443.out; replace HB := zMk (zBt (by exact uT HB.out) hb); clear hb hbox hg; have hcz8_0 : w7.cell? ⟨gb443, 0, none⟩ = some (.int .i64 a0_0) := (zKc BK443.out 0).trans rfl; have hcz8_1 : w7.cell? ⟨gb443, 1, none⟩ = some (.slice A0_1 l0_1.length c0_1) := (zKc BK443.out 1).trans rfl; have hfz8_0 := zKf BK443.out 0; have hfz8_1 := zKf BK443.out 1)|  ((with_reducible refine gate_callee (f := 11) rfl ?_); refine goesL_ (some 11) rfl rfl Try.func11 (by kernel_rfl) rfl #[.agg #[.int .i64 a0_0, .slice A0_1 l0_1.length c0_1]] rfl (by (try simp only [zMa, zMc, zMn]); first |  done|  rfl|  (simp only [zLd, zLt]; rfl)) ?_; (with_reducible refine (graph_Right.calls k a0_0 _ _ l0_1 t444 _ ?side1 ?side2 A3.out).mono ?_); (case side1 => repeat (first |  exact (Kd.C_below HR0_1.out HB.out)|  (with_reducible refine zCa ?_ _)|  (with_reducible refine zCn ?_ _)|  (with_reducible refine zCd ?_))); (case side2 => exact HC0_1.out); rintro e w9 ⟨rfl, hb⟩; refine ⟨_, rfl, ?_⟩; replace BK443 := zMk (zKb (g := gb443) (o := .cells #[.int .i64 a0_0, .slice A0_1 l0_1.length c0_1] 24 (0, 0)) (by (with_reducible repeat (first |  refine zKn ?_ _|  refine zKd ?_|  refine zKa ?_ _)); exact BK443.out) hb); replace HB := zMk (zBt (by exact uT HB.out) hb); (try clear hb); (try clear hb2); (try clear hk); (try clear hi); have hcz10_0 : w9.cell? ⟨gb443, 0, none⟩ = some (.int .i64 a0_0) := (zKc BK443.out 0).trans rfl; have hcz10_1 : w9.cell? ⟨gb443, 1, none⟩ = some (.slice A0_1 l0_1.length c0_1) := (zKc BK443.out 1).trans rfl; have hfz10_0 := zKf BK443.out 0; have hfz10_1 := zKf BK443.out 1)|  ((with_reducible refine gate_dst (N := 16) rfl ?_); (try (refine gate_guard (by rfl) ?_; dsimp only)); refine Kd.R_make Kd.bool _ 4 rfl (N := 16) rfl 41 _ _ rfl (l0_1.length : Int) rfl rfl Try.underlying41 (.bool false) 1 info4 rfl (by decide) (by omega) false (ok := fun _ => True) (okp := fun _ => True) rfl (fun _ hk => hk) trivial (of_decide_eq_true (by first |  (with_reducible assumption)|  assumption)) (Nat.le_trans (Nat.mul_le_mul_right _ (of_decide_eq_true (by first |  (with_reducible assumption)|  assumption) : (l0_1.length : Int).toNat ≤ 281474976710656)) (by omega)) (Below.refl _ _) (Nat.le_refl _) ?_; intro v446 w11 ho12 hb hg_ hnew_; clear hg_ hnew_; (first |  rw [← Ny445.out] at ho12|  (simp only [Int.reduceToNat] at ho12; rw [← Ny445.out] at ho12)); have HO447 := zMk (zRl ho12 (zBs (by exact uT HB.out))); replace BK443 := zMk (zKb (g := gb443) (o := .cells #[.int .i64 a0_0, .slice A0_1 l0_1.length c0_1] 24 (0, 0)) (by (with_reducible repeat (first |  refine zKn ?_ _|  refine zKd ?_|  refine zKa ?_ _)); exact BK443.out) hb); replace HB := zMk (zBt (by exact uT HB.out) hb); clear hb ho12))
    go_loopg [7, 19] k (fun kq v7 v19 w' => ∃ (x6_1 : List Bool) (x7_1 : Int) (x19_1 : Int), v7 = .int .i64 x7_1 ∧ v19 = .int .i64 x19_1 ∧ Aside0 (graph_Weight.l0 kq x6_1 x7_1 l1 (l1.length : Int) x19_1 a0_0 l0_1 = some (r1, r2)) ∧ Aside0 (kq ≤ k) ∧ Aside0 (Kd.R Kd.bool 4 w' w.heap.size (fun _ => True) v446 x6_1) ∧ Aside0 (w'.heap[gb443]? = some (.cells #[.int .i64 a0_0, (.slice A0_1 l0_1.length c0_1)] 24 (0, 0))) ∧ Aside0 (Below w.heap.size w w'))
    case atStart => exact ⟨(y445), (0), (0), (by first | rfl | (simp; done) | (simp [*]; done)), (by first | rfl | (simp; done) | (simp [*]; done)), H', ⟨Nat.le_refl _⟩, ⟨by exact uR HO447.out⟩, ⟨by (with_reducible repeat (first | refine zKn ?_ _ | refine zKd ?_ | refine zKa ?_ _)); exact BK443.out⟩, ⟨by exact uT HB.out⟩⟩
    clear H'
    obtain ⟨x6_1, x7_1, x19_1, rfl, rfl, HA, HK1, HO_6, BK443, HB⟩ := hrel
    rcases gk with _ | k1
    · exact absurd HA.out (by simp [graph_Weight.l0])
    have H := HA.out
    clear HA
    simp only [graph_Weight.l0] at H
    by_cases c13 : x19_1 < (l1.length : Int)
    · rw [if_pos c13] at H
      have c13b0 : decide (x19_1 < (l1.length : Int)) = true := decide_eq_true c13
      clear c13
      by_cases c14 : 0 ≤ x19_1
      rotate_left
      · rw [if_neg c14] at H; exact absurd H (by simp)
      rw [if_pos c14] at H
      have c14b0 : decide (0 ≤ x19_1) = true := decide_eq_true c14
      clear c14
      by_cases c15 : x19_1 < (l1.length : Int)
      rotate_left
      · rw [if_neg c15] at H; exact absurd H (by simp)
      rw [if_pos c15] at H
      have c15b0 : decide (x19_1 < (l1.length : Int)) = true := decide_eq_true c15
      clear c15
      by_cases c16 : (rd l1 x19_1) < 0
      · rw [if_pos c16] at H
        have c16b0 : decide ((rd l1 x19_1) < 0) = true := decide_eq_true c16
        clear c16
        simp only [Option.some.injEq, Prod.mk.injEq] at H
        obtain ⟨rfl, rfl⟩ := H
        have p448 : 0 ≤ (x19_1 : Int) := of_decide_eq_true (by first | (with_reducible assumption) | assumption)
        have q448 : x19_1 < (l1.length : Int) := of_decide_eq_true (by first | (with_reducible assumption) | assumption)
        obtain ⟨ad448, e448, hx448_0⟩ := zAi HR1.out x19_1 p448 q448
        cases e448
        replace hx448_0 := (HB.out.cell (World.block_lt_of_cell? w _ hx448_0)).trans hx448_0
        replace p448 := eq_true p448
        replace q448 := eq_true q448
        go_wp2
        go_ret2
        exact ⟨by first | rfl | (simp [errW_none, errW_some] <;> rfl) | (simp [*, errW_none, errW_some] <;> rfl), by exact uT HB.out⟩
      · rw [if_neg c16] at H
        have c16b0 : decide ((rd l1 x19_1) < 0) = false := decide_eq_false c16
        clear c16
        by_cases c17 : (rd l1 x19_1) ≥ (x6_1.length : Int)
        · rw [if_pos c17] at H
          have c17b0 : decide ((x6_1.length : Int) ≤ (rd l1 x19_1)) = true := decide_eq_true c17
          clear c17
          simp only [Option.some.injEq, Prod.mk.injEq] at H
          obtain ⟨rfl, rfl⟩ := H
          have p448 : 0 ≤ (x19_1 : Int) := of_decide_eq_true (by first | (with_reducible assumption) | assumption)
          have q448 : x19_1 < (l1.length : Int) := of_decide_eq_true (by first | (with_reducible assumption) | assumption)
          obtain ⟨ad448, e448, hx448_0⟩ := zAi HR1.out x19_1 p448 q448
          cases e448
          replace hx448_0 := (HB.out.cell (World.block_lt_of_cell? w _ hx448_0)).trans hx448_0
          replace p448 := eq_true p448
          replace q448 := eq_true q448
          obtain ⟨Ao18, co18, eo18⟩ := zRs HO_6.out
          subst eo18
          go_wp2
          go_ret2
          exact ⟨by first | rfl | (simp [errW_none, errW_some] <;> rfl) | (simp [*, errW_none, errW_some] <;> rfl), by exact uT HB.out⟩
        · rw [if_neg c17] at H
          have c17b0 : decide ((x6_1.length : Int) ≤ (rd l1 x19_1)) = false := decide_eq_false c17
          clear c17
          by_cases c19 : 0 ≤ (rd l1 x19_1)
          rotate_left
          · rw [if_neg c19] at H; exact absurd H (by simp)
          rw [if_pos c19] at H
          have c19b0 : decide (0 ≤ (rd l1 x19_1)) = true := decide_eq_true c19
          clear c19
          by_cases c20 : (rd l1 x19_1) < (x6_1.length : Int)
          rotate_left
          · rw [if_neg c20] at H; exact absurd H (by simp)
          rw [if_pos c20] at H
          have c20b0 : decide ((rd l1 x19_1) < (x6_1.length : Int)) = true := decide_eq_true c20
          clear c20
          obtain ⟨bq21, hbq21⟩ : ∃ b_ : Bool, b_ = (rdOf false x6_1 (rd l1 x19_1)) := ⟨_, rfl⟩
          replace H : (if bq21 = true then (some (0, 1)) else (if (rd l1 x19_1) < (l0_1.length : Int) then (graph_Weight.l0 k1 (x6_1.set ((rd l1 x19_1) : Int).toNat true) (wrap64 (x7_1 + ((rd_T36 l0_1 (rd l1 x19_1)).f2))) l1 (l1.length : Int) (wrap64 (x19_1 + 1)) a0_0 l0_1) else (none))) = some (r1, r2) := by rw [← hbq21] at H; exact H
          have Nbq21 := zMk hbq21
          clear hbq21
          by_cases c22 : bq21 = true
          · subst c22
            replace H : (some (0, 1)) = some (r1, r2) := by rw [if_pos rfl] at H; exact H
            simp only [Option.some.injEq, Prod.mk.injEq] at H
            obtain ⟨rfl, rfl⟩ := H
            have p448 : 0 ≤ (x19_1 : Int) := of_decide_eq_true (by first | (with_reducible assumption) | assumption)
            have q448 : x19_1 < (l1.length : Int) := of_decide_eq_true (by first | (with_reducible assumption) | assumption)
            obtain ⟨ad448, e448, hx448_0⟩ := zAi HR1.out x19_1 p448 q448
            cases e448
            replace hx448_0 := (HB.out.cell (World.block_lt_of_cell? w _ hx448_0)).trans hx448_0
            replace p448 := eq_true p448
            replace q448 := eq_true q448
            obtain ⟨Ao23, co23, eo23⟩ := zRs HO_6.out
            subst eo23
            have p449 : 0 ≤ ((rd l1 x19_1) : Int) := of_decide_eq_true (by first | (with_reducible assumption) | assumption)
            have q449 : (rd l1 x19_1) < (x6_1.length : Int) := of_decide_eq_true (by first | (with_reducible assumption) | assumption)
            obtain ⟨ad449, e449, hx449_0⟩ := Kd.at_bool (zRr HO_6.out).2.2 (rd l1 x19_1) p449 q449
            (try rw [← Nbq21.out] at hx449_0)
            cases e449
            replace p449 := eq_true p449
            replace q449 := eq_true q449
            go_wp2
            go_ret2
            exact ⟨by first | rfl | (simp [errW_none, errW_some] <;> rfl) | (simp [*, errW_none, errW_some] <;> rfl), by exact uT HB.out⟩
          · replace c22 := Bool.eq_false_iff.mpr c22
            subst c22
            replace H : (if (rd l1 x19_1) < (l0_1.length : Int) then (graph_Weight.l0 k1 (x6_1.set ((rd l1 x19_1) : Int).toNat true) (wrap64 (x7_1 + ((rd_T36 l0_1 (rd l1 x19_1)).f2))) l1 (l1.length : Int) (wrap64 (x19_1 + 1)) a0_0 l0_1) else (none)) = some (r1, r2) := by rw [if_neg (show ¬ (false = true) by decide)] at H; exact H
            obtain ⟨y450, hy450⟩ : ∃ y_ : List Bool, y_ = (x6_1.set ((rd l1 x19_1) : Int).toNat true) := ⟨_, rfl⟩
            replace H : (if (rd l1 x19_1) < (l0_1.length : Int) then (graph_Weight.l0 k1 y450 (wrap64 (x7_1 + ((rd_T36 l0_1 (rd l1 x19_1)).f2))) l1 (l1.length : Int) (wrap64 (x19_1 + 1)) a0_0 l0_1) else (none)) = some (r1, r2) := by first | (rw [hy450]; with_reducible exact H) | (have H2_ := bsm H; first | (rw [hy450]; with_reducible exact H2_) | with_reducible exact H2_) | with_reducible exact H | (rw [hy450]; exact H) | exact H
            have Ny450 := zMk hy450
            clear hy450
            by_cases c25 : (rd l1 x19_1) < (l0_1.length : Int)
            rotate_left
            · rw [if_neg c25] at H; exact absurd H (by simp)
            rw [if_pos c25] at H
            have c25b0 : decide ((rd l1 x19_1) < (l0_1.length : Int)) = true := decide_eq_true c25
            clear c25
            have H' := zMk H
            clear H
            have p448 : 0 ≤ (x19_1 : Int) := of_decide_eq_true (by first | (with_reducible assumption) | assumption)
            have q448 : x19_1 < (l1.length : Int) := of_decide_eq_true (by first | (with_reducible assumption) | assumption)
            obtain ⟨ad448, e448, hx448_0⟩ := zAi HR1.out x19_1 p448 q448
            cases e448
            replace hx448_0 := (HB.out.cell (World.block_lt_of_cell? w _ hx448_0)).trans hx448_0
            replace p448 := eq_true p448
            replace q448 := eq_true q448
            obtain ⟨Ao26, co26, eo26⟩ := zRs HO_6.out
            subst eo26
            have p449 : 0 ≤ ((rd l1 x19_1) : Int) := of_decide_eq_true (by first | (with_reducible assumption) | assumption)
            have q449 : (rd l1 x19_1) < (x6_1.length : Int) := of_decide_eq_true (by first | (with_reducible assumption) | assumption)
            obtain ⟨ad449, e449, hx449_0⟩ := Kd.at_bool (zRr HO_6.out).2.2 (rd l1 x19_1) p449 q449
            (try rw [← Nbq21.out] at hx449_0)
            cases e449
            replace p449 := eq_true p449
            replace q449 := eq_true q449
            have p24 : 0 ≤ ((rd l1 x19_1) : Int) := of_decide_eq_true (by first | (with_reducible assumption) | assumption)
            have q24 : ((rd l1 x19_1) : Int) < ((x6_1.length : Int) : Int) := of_decide_eq_true (by first | (with_reducible assumption) | assumption)
            obtain ⟨go24, co24, eo24, gb24, gl24, cl24, HG24⟩ := Kd.R_form HO_6.out (by omega)
            (first |  cases eo24|  (injection eo24 with ea_ en_ ec_; (first |  subst ea_|  (injection ea_ with ea_; subst ea_)); subst ec_; clear en_))
            have GB24 := zMk gb24
            have IGB24 := ownGe GB24.out
            have GG24 := zMk HG24
            clear gb24 gl24 HG24
            (first | simp only [add_plain] at hx449_0 | skip)
            obtain ⟨hx24_0, hf24_0⟩ := Kd.R_celln false HO_6.out ((rd l1 x19_1) : Int) p24 q24
            replace p24 := eq_true p24
            replace q24 := eq_true q24
            have HP27 := Kd.R_putg HO_6.out ((rd l1 x19_1) : Int) true
            go_wp2_with (first |  ((with_reducible refine gate_store (t := 4) (p := 39) rfl ?_); refine store_event (t := 4) (p := 39) (v := ?vo_w28) (w1 := (wr.setCell ⟨go24, ((rd l1 x19_1) : Int).toNat, none⟩ (.bool true))) ?hg ?ho ?hn ?hr ?_; (case ho => rfl); (case hg => rfl); (case hn => rfl); (case hr => first |  (go_simp; done)|  (go_simp; rfl)|  (go_simp; rw [show ∀ x : Int, IntKind.u32.wrap (IntKind.u8.wrap x) = x % 256 from fun x => (by show (x % 256) % 4294967296 = x % 256; omega)])); intro w28 hw; have hg : wr.grownBy w28 (some go24) := (by rw [hw]; exact HP27.2); have hp_ : Kd.R Kd.bool 4 w28 w.heap.size (fun _ => True) (.slice (some ⟨go24, 0, none⟩) x6_1.length co26) y450 := (by rw [hw, Ny450.out]; exact HP27.1); clear HP27; replace BK443 := zMk (blk_grown (g := gb443) (o := .cells #[.int .i64 a0_0, .slice A0_1 l0_1.length c0_1] 24 (0, 0)) (by (with_reducible repeat (first |  refine zKn ?_ _|  refine zKd ?_|  refine zKa ?_ _)); exact BK443.out) hg (Kd.R_ne HO_6.out BK443.out (by decide))); replace HO_6 := zMk (hp_); replace HB := zMk ((by rw [hw]; exact below_set (HB.out) GB24.out : Below w.heap.size w w28)); clear hg hw hp_; have hcz29_0 : w28.cell? ⟨gb443, 0, none⟩ = some (.int .i64 a0_0) := (zKc BK443.out 0).trans rfl; have hcz29_1 : w28.cell? ⟨gb443, 1, none⟩ = some (.slice A0_1 l0_1.length c0_1) := (zKc BK443.out 1).trans rfl; have hfz29_0 := zKf BK443.out 0; have hfz29_1 := zKf BK443.out 1; have p451 : 0 ≤ ((rd l1 x19_1) : Int) := of_decide_eq_true (by first |  (with_reducible assumption)|  assumption); have q451 : (rd l1 x19_1) < (l0_1.length : Int) := of_decide_eq_true (by first |  (with_reducible assumption)|  assumption); obtain ⟨ad451, e451, hx451_0, hx451_1, hx451_2⟩ := at_T36 HR0_1.out (rd l1 x19_1) p451 q451; cases e451; replace hx451_0 := (HB.out.cell (World.block_lt_of_cell? w _ hx451_0)).trans hx451_0; replace hx451_1 := (HB.out.cell (World.block_lt_of_cell? w _ hx451_1)).trans hx451_1; replace hx451_2 := (HB.out.cell (World.block_lt_of_cell? w _ hx451_2)).trans hx451_2; replace p451 := eq_true p451; replace q451 := eq_true q451))
            go_roundg k1
            case measure => have := HK1.out; omega
            case rel => exact ⟨(y450), (wrap64 (x7_1 + ((rd_T36 l0_1 (rd l1 x19_1)).f2))), (wrap64 (x19_1 + 1)), (by first | rfl | (simp; done) | (simp [*]; done)), (by first | rfl | (simp; done) | (simp [*]; done)), H', ⟨by have := HK1.out; omega⟩, ⟨by exact uR HO_6.out⟩, ⟨by (with_reducible repeat (first | refine zKn ?_ _ | refine zKd ?_ | refine zKa ?_ _)); exact BK443.out⟩, ⟨by exact uT HB.out⟩⟩
    · rw [if_neg c13] at H
      have c13b0 : decide (x19_1 < (l1.length : Int)) = false := decide_eq_false c13
      clear c13
      simp only [Option.some.injEq, Prod.mk.injEq] at H
      obtain ⟨rfl, rfl⟩ := H
      go_wp2
      go_ret2
      exact ⟨by first | rfl | (simp [errW_none, errW_some] <;> rfl) | (simp [*, errW_none, errW_some] <;> rfl), by exact uT HB.out⟩
  · rw [if_neg c4] at H
    have c4b0 : (t444 == 0) = false := beq_eq_false_iff_ne.mpr c4
    have c4b1 : (t444 != 0) = true := bne_iff_ne.mpr c4
    simp only [Option.some.injEq, Prod.mk.injEq] at H
    obtain ⟨rfl, rfl⟩ := H
    go_enter Try.func19, Try.ntmps19
    go_wp2_with (first |  ((with_reducible refine gate_dst (N := 2) rfl ?_); (try (refine gate_guard (by rfl) ?_; dsimp only)); refine box_event ?hg (N := 2) ?hd (cs := #[.int .i64 a0_0, .slice A0_1 l0_1.length c0_1]) (t := 24) ?hr ?_; (case hd => rfl); (case hg => rfl); (case hr => first |  (go_simp; done)|  (go_simp; rfl)|  (go_simp; rw [show ∀ x : Int, IntKind.u32.wrap (IntKind.u8.wrap x) = x % 256 from fun x => (by show (x % 256) % 4294967296 = x % 256; omega)])); intro gb443 hg w30 hbox hb; have BK443 := zMk (hbox); have GW443 := zMk ((by rw [hg]; exact (zBs (by exact uT HB.out)) : w.heap.size ≤ gb443)); have GE443 := zMk ((by rw [hg]; exact (zBs (by exact uT HB.out)) : w.heap.size ≤ gb443)); have IGE443 := ownGe GE443.out; replace HB := zMk (zBt (by exact uT HB.out) hb); clear hb hbox hg; have hcz31_0 : w30.cell? ⟨gb443, 0, none⟩ = some (.int .i64 a0_0) := (zKc BK443.out 0).trans rfl; have hcz31_1 : w30.cell? ⟨gb443, 1, none⟩ = some (.slice A0_1 l0_1.length c0_1) := (zKc BK443.out 1).trans rfl; have hfz31_0 := zKf BK443.out 0; have hfz31_1 := zKf BK443.out 1)|  ((with_reducible refine gate_callee (f := 11) rfl ?_); refine goesL_ (some 11) rfl rfl Try.func11 (by kernel_rfl) rfl #[.agg #[.int .i64 a0_0, .slice A0_1 l0_1.length c0_1]] rfl (by (try simp only [zMa, zMc, zMn]); first |  done|  rfl|  (simp only [zLd, zLt]; rfl)) ?_; (with_reducible refine (graph_Right.calls k a0_0 _ _ l0_1 t444 _ ?side1 ?side2 A3.out).mono ?_); (case side1 => repeat (first |  exact (Kd.C_below HR0_1.out HB.out)|  (with_reducible refine zCa ?_ _)|  (with_reducible refine zCn ?_ _)|  (with_reducible refine zCd ?_))); (case side2 => exact HC0_1.out); rintro e w32 ⟨rfl, hb⟩; refine ⟨_, rfl, ?_⟩; replace BK443 := zMk (zKb (g := gb443) (o := .cells #[.int .i64 a0_0, .slice A0_1 l0_1.length c0_1] 24 (0, 0)) (by (with_reducible repeat (first |  refine zKn ?_ _|  refine zKd ?_|  refine zKa ?_ _)); exact BK443.out) hb); replace HB := zMk (zBt (by exact uT HB.out) hb); (try clear hb); (try clear hb2); (try clear hk); (try clear hi)))
    go_ret2
    exact ⟨by first | rfl | (simp [errW_none, errW_some] <;> rfl) | (simp [*, errW_none, errW_some] <;> rfl), by exact uT HB.out⟩


/-! ### filigreeref04_Has: function 31 -/
def filigreeref04_Has.l0 : Nat → List Int → Int → Int → Option (Bool)
  | 0, _, _, _ => none
  | k + 1, x0, x1, x5 => if x5 < (x0.length : Int) then (if 0 ≤ x5 then (if (rd x0 x5) = x1 then (some true) else (filigreeref04_Has.l0 k x0 x1 (wrap64 (x5 + 1)))) else (none)) else (some false)
def filigreeref04_Has.f (k : Nat) (l0 : List Int) (a1 : Int) : Option (Bool) := filigreeref04_Has.l0 k l0 a1 0
set_option maxHeartbeats 8000000 in
set_option maxRecDepth 100000 in
theorem filigreeref04_Has.calls (k : Nat) (A0 : Option Addr) (c0 : Nat) (l0 : List Int) (a1 : Int) (r : Bool) (w : World) (hr0 : Kd.C (Kd.int .i64) w A0 l0.length l0) (hc0 : l0.length ≤ c0) (h : filigreeref04_Has.f k l0 a1 = some r) :
    Calls Try.prog 31 #[.slice A0 l0.length c0, .int .i64 a1] w fun e w' => e = .returned (.bool r) ∧ Drawn0 w w' := by
  have HR0 := zMk hr0
  have HC0 := zMk hc0
  clear hr0 hc0
  have H : (filigreeref04_Has.l0 k l0 a1 0) = some r := h
  clear h
  have H' := zMk H
  clear H
  go_enter Try.func31, Try.ntmps31
  go_wp2
  go_loopg [5] k (fun kq v5 w' => ∃ (x5_1 : Int), v5 = .int .i64 x5_1 ∧ Aside0 (filigreeref04_Has.l0 kq l0 a1 x5_1 = some r) ∧ Aside0 (kq ≤ k) ∧ Drawn0 w w')
  case atStart => exact ⟨(0), (by first | rfl | (simp; done) | (simp [*]; done)), H', ⟨Nat.le_refl _⟩, by repeat (first | exact Drawn0.refl _ | apply Drawn0.step)⟩
  clear H'
  obtain ⟨x5_1, rfl, HA, HK1, ⟨m1, rfl⟩⟩ := hrel
  rcases gk with _ | k1
  · exact absurd HA.out (by simp [filigreeref04_Has.l0])
  have H := HA.out
  clear HA
  simp only [filigreeref04_Has.l0] at H
  by_cases c3 : x5_1 < (l0.length : Int)
  · rw [if_pos c3] at H
    have c3b0 : decide (x5_1 < (l0.length : Int)) = true := decide_eq_true c3
    clear c3
    by_cases c4 : 0 ≤ x5_1
    rotate_left
    · rw [if_neg c4] at H; exact absurd H (by simp)
    rw [if_pos c4] at H
    have c4b0 : decide (0 ≤ x5_1) = true := decide_eq_true c4
    clear c4
    by_cases c5 : (rd l0 x5_1) = a1
    · rw [if_pos c5] at H
      have c5b0 : ((rd l0 x5_1) == a1) = true := beq_iff_eq.mpr c5
      have c5b1 : ((rd l0 x5_1) != a1) = false := bne_eq_false_iff_eq.mpr c5
      clear c5
      obtain rfl := zOi H
      have p340 : 0 ≤ (x5_1 : Int) := of_decide_eq_true (by first | (with_reducible assumption) | assumption)
      have q340 : x5_1 < (l0.length : Int) := of_decide_eq_true (by first | (with_reducible assumption) | assumption)
      obtain ⟨ad340, e340, hx340_0⟩ := zAi HR0.out x5_1 p340 q340
      cases e340
      replace p340 := eq_true p340
      replace q340 := eq_true q340
      go_wp2
      go_ret
      exact ⟨by first | rfl | (simp; done) | (simp [*]; done), by repeat (first | exact Drawn0.refl _ | apply Drawn0.step)⟩
    · rw [if_neg c5] at H
      have c5b0 : ((rd l0 x5_1) == a1) = false := beq_eq_false_iff_ne.mpr c5
      have c5b1 : ((rd l0 x5_1) != a1) = true := bne_iff_ne.mpr c5
      have H' := zMk H
      clear H
      have p340 : 0 ≤ (x5_1 : Int) := of_decide_eq_true (by first | (with_reducible assumption) | assumption)
      have q340 : x5_1 < (l0.length : Int) := of_decide_eq_true (by first | (with_reducible assumption) | assumption)
      obtain ⟨ad340, e340, hx340_0⟩ := zAi HR0.out x5_1 p340 q340
      cases e340
      replace p340 := eq_true p340
      replace q340 := eq_true q340
      go_wp2
      go_roundg k1
      case measure => have := HK1.out; omega
      case rel => exact ⟨(wrap64 (x5_1 + 1)), (by first | rfl | (simp; done) | (simp [*]; done)), H', ⟨by have := HK1.out; omega⟩, by repeat (first | exact Drawn0.refl _ | apply Drawn0.step)⟩
  · rw [if_neg c3] at H
    have c3b0 : decide (x5_1 < (l0.length : Int)) = false := decide_eq_false c3
    clear c3
    obtain rfl := zOi H
    go_wp2
    go_ret
    exact ⟨by first | rfl | (simp; done) | (simp [*]; done), by repeat (first | exact Drawn0.refl _ | apply Drawn0.step)⟩


/-! ### filigreeref04_Weight: function 20 -/
def filigreeref04_Weight.l0 : Nat → List Int → Int → Int → Int → List (S36) → Option (Int × Int)
  | 0, _, _, _, _, _ => none
  | k + 1, x1, x6, x7, x467000, x467001 => if x7 < (x1.length : Int) then (if 0 ≤ x7 then (if (rd x1 x7) < 0 then (some (0, 1)) else (if (rd x1 x7) ≥ (x467001.length : Int) then (some (0, 1)) else (if x7 ≤ (x1.length : Int) then ((filigreeref04_Has.f k (x1.take (x7 : Int).toNat) (rd x1 x7)).bind fun t471 => (if t471 = true then (some (0, 1)) else (if 0 ≤ (rd x1 x7) then (if (rd x1 x7) < (x467001.length : Int) then (filigreeref04_Weight.l0 k x1 (wrap64 (x6 + ((rd_T36 x467001 (rd x1 x7)).f2))) (wrap64 (x7 + 1)) x467000 x467001) else (none)) else (none)))) else (none)))) else (none)) else (some (x6, 0))
def filigreeref04_Weight.f (k : Nat) (a0_0 : Int) (l0_1 : List (S36)) (l1 : List Int) : Option (Int × Int) := filigreeref04_Weight.l0 k l1 0 0 a0_0 l0_1
theorem filigreeref04_Weight.has_len (k : Nat) (A0 : Option Addr) (c0 : Nat) (l0 : List Int) (a1 : Int) (r : Bool) (w : World) (n : Nat) (hn : l0.length = n) (hr : Kd.C (Kd.int .i64) w A0 l0.length l0) (hc : l0.length ≤ c0) (h : filigreeref04_Has.f k l0 a1 = some r) :
    Calls Try.prog 31 #[.slice A0 n c0, .int .i64 a1] w fun e w' => e = .returned (.bool r) ∧ Drawn0 w w' := by
  subst hn
  exact filigreeref04_Has.calls k A0 c0 l0 a1 r w hr hc h
theorem filigreeref04_Weight.take_len {l : List Int} {x : Int} (h : decide (x ≤ (l.length : Int)) = true) : (l.take x.toNat).length = x.toNat := by
  have := of_decide_eq_true h
  rw [zLt]
  omega
set_option maxHeartbeats 8000000 in
set_option maxRecDepth 100000 in
theorem filigreeref04_Weight.calls (k : Nat) (a0_0 : Int) (A0_1 : Option Addr) (c0_1 : Nat) (l0_1 : List (S36)) (A1 : Option Addr) (c1 : Nat) (l1 : List Int) (r1 : Int) (r2 : Int) (w : World) (hr0_1 : Kd.C k36 w A0_1 l0_1.length l0_1) (hc0_1 : l0_1.length ≤ c0_1) (hr1 : Kd.C (Kd.int .i64) w A1 l1.length l1) (hc1 : l1.length ≤ c1) (h : filigreeref04_Weight.f k a0_0 l0_1 l1 = some (r1, r2)) :
    Calls Try.prog 20 #[.agg #[.int .i64 a0_0, .slice A0_1 l0_1.length c0_1], .slice A1 l1.length c1] w fun e w' => e = .returned (.tuple #[.int .i64 r1, .int .i64 r2]) ∧ Below w.heap.size w w' := by
  have hu24 := Try.underlying24
  have HR0_1 := zMk hr0_1
  have HC0_1 := zMk hc0_1
  clear hr0_1 hc0_1
  have HR1 := zMk hr1
  have HC1 := zMk hc1
  clear hr1 hc1
  have HB := zMk (Below.refl w.heap.size w)
  have H : (filigreeref04_Weight.l0 k l1 0 0 a0_0 l0_1) = some (r1, r2) := h
  clear h
  have H' := zMk H
  clear H
  go_enter Try.func20, Try.ntmps20
  go_wp2_with (first |  ((with_reducible refine gate_dst (N := 2) rfl ?_); (try (refine gate_guard (by rfl) ?_; dsimp only)); refine box_event ?hg (N := 2) ?hd (cs := #[.int .i64 a0_0, .slice A0_1 l0_1.length c0_1]) (t := 24) ?hr ?_; (case hd => rfl); (case hg => rfl); (case hr => first |  (go_simp; done)|  (go_simp; rfl)|  (go_simp; rw [show ∀ x : Int, IntKind.u32.wrap (IntKind.u8.wrap x) = x % 256 from fun x => (by show (x % 256) % 4294967296 = x % 256; omega)])); intro gb466 hg w3 hbox hb; have BK466 := zMk (hbox); have GW466 := zMk ((by rw [hg]; exact (zBs (by exact uT HB.out)) : w.heap.size ≤ gb466)); have GE466 := zMk ((by rw [hg]; exact (zBs (by exact uT HB.out)) : w.heap.size ≤ gb466)); have IGE466 := ownGe GE466.out; replace HB := zMk (zBt (by exact uT HB.out) hb); clear hb hbox hg))
  repeat (go_quiet (first |  ((with_reducible refine gate_dst (N := 2) rfl ?_); (try (refine gate_guard (by rfl) ?_; dsimp only)); refine box_event ?hg (N := 2) ?hd (cs := #[.int .i64 a0_0, .slice A0_1 l0_1.length c0_1]) (t := 24) ?hr ?_; (case hd => rfl); (case hg => rfl); (case hr => first |  (go_simp; done)|  (go_simp; rfl)|  (go_simp; rw [show ∀ x : Int, IntKind.u32.wrap (IntKind.u8.wrap x) = x % 256 from fun x => (by show (x % 256) % 4294967296 = x % 256; omega)])); intro gb466 hg w3 hbox hb; have BK466 := zMk (hbox); have GW466 := zMk ((by rw [hg]; exact (zBs (by exact uT HB.out)) : w.heap.size ≤ gb466)); have GE466 := zMk ((by rw [hg]; exact (zBs (by exact uT HB.out)) : w.heap.size ≤ gb466)); have IGE466 := ownGe GE466.out; replace HB := zMk (zBt (by exact uT HB.out) hb); clear hb hbox hg)); try go_wp2_with (first |  ((with_reducible refine gate_dst (N := 2) rfl ?_); (try (refine gate_guard (by rfl) ?_; dsimp only)); refine box_event ?hg (N := 2) ?hd (cs := #[.int .i64 a0_0, .slice A0_1 l0_1.length c0_1]) (t := 24) ?hr ?_; (case hd => rfl); (case hg => rfl); (case hr => first |  (go_simp; done)|  (go_simp; rfl)|  (go_simp; rw [show ∀ x : Int, IntKind.u32.wrap (IntKind.u8.wrap x) = x % 256 from fun x => (by show (x % 256) % 4294967296 = x % 256; omega)])); intro gb466 hg w3 hbox hb; have BK466 := zMk (hbox); have GW466 := zMk ((by rw [hg]; exact (zBs (by exact uT HB.out)) : w.heap.size ≤ gb466)); have GE466 := zMk ((by rw [hg]; exact (zBs (by exact uT HB.out)) : w.heap.size ≤ gb466)); have IGE466 := ownGe GE466.out; replace HB := zMk (zBt (by exact uT HB.out) hb); clear hb hbox hg)))
  go_loopg [6, 7] k (fun kq v6 v7 w' => ∃ (x6_1 : Int) (x7_1 : Int), v6 = .int .i64 x6_1 ∧ v7 = .int .i64 x7_1 ∧ Aside0 (filigreeref04_Weight.l0 kq l1 x6_1 x7_1 a0_0 l0_1 = some (r1, r2)) ∧ Aside0 (kq ≤ k) ∧ Aside0 (w'.heap[gb466]? = some (.cells #[.int .i64 a0_0, (.slice A0_1 l0_1.length c0_1)] 24 (0, 0))) ∧ Aside0 (Below w.heap.size w w'))
  case atStart => exact ⟨(0), (0), (by first | rfl | (simp; done) | (simp [*]; done)), (by first | rfl | (simp; done) | (simp [*]; done)), H', ⟨Nat.le_refl _⟩, ⟨by (with_reducible repeat (first | refine zKn ?_ _ | refine zKd ?_ | refine zKa ?_ _)); exact BK466.out⟩, ⟨by exact uT HB.out⟩⟩
  clear H'
  obtain ⟨x6_1, x7_1, rfl, rfl, HA, HK1, BK466, HB⟩ := hrel
  rcases gk with _ | k1
  · exact absurd HA.out (by simp [filigreeref04_Weight.l0])
  have H := HA.out
  clear HA
  simp only [filigreeref04_Weight.l0] at H
  by_cases c4 : x7_1 < (l1.length : Int)
  · rw [if_pos c4] at H
    have c4b0 : decide (x7_1 < (l1.length : Int)) = true := decide_eq_true c4
    clear c4
    by_cases c5 : 0 ≤ x7_1
    rotate_left
    · rw [if_neg c5] at H; exact absurd H (by simp)
    rw [if_pos c5] at H
    have c5b0 : decide (0 ≤ x7_1) = true := decide_eq_true c5
    clear c5
    by_cases c6 : (rd l1 x7_1) < 0
    · rw [if_pos c6] at H
      have c6b0 : decide ((rd l1 x7_1) < 0) = true := decide_eq_true c6
      clear c6
      simp only [Option.some.injEq, Prod.mk.injEq] at H
      obtain ⟨rfl, rfl⟩ := H
      have p467 : 0 ≤ (x7_1 : Int) := of_decide_eq_true (by first | (with_reducible assumption) | assumption)
      have q467 : x7_1 < (l1.length : Int) := of_decide_eq_true (by first | (with_reducible assumption) | assumption)
      obtain ⟨ad467, e467, hx467_0⟩ := zAi HR1.out x7_1 p467 q467
      cases e467
      replace hx467_0 := (HB.out.cell (World.block_lt_of_cell? w _ hx467_0)).trans hx467_0
      replace p467 := eq_true p467
      replace q467 := eq_true q467
      go_wp2
      repeat (go_quiet (fail); try go_wp2)
      go_ret2
      exact ⟨by first | rfl | (simp [errW_none, errW_some] <;> rfl) | (simp [*, errW_none, errW_some] <;> rfl), by exact uT HB.out⟩
    · rw [if_neg c6] at H
      have c6b0 : decide ((rd l1 x7_1) < 0) = false := decide_eq_false c6
      clear c6
      by_cases c7 : (rd l1 x7_1) ≥ (l0_1.length : Int)
      · rw [if_pos c7] at H
        have c7b0 : decide ((l0_1.length : Int) ≤ (rd l1 x7_1)) = true := decide_eq_true c7
        clear c7
        simp only [Option.some.injEq, Prod.mk.injEq] at H
        obtain ⟨rfl, rfl⟩ := H
        have p467 : 0 ≤ (x7_1 : Int) := of_decide_eq_true (by first | (with_reducible assumption) | assumption)
        have q467 : x7_1 < (l1.length : Int) := of_decide_eq_true (by first | (with_reducible assumption) | assumption)
        obtain ⟨ad467, e467, hx467_0⟩ := zAi HR1.out x7_1 p467 q467
        cases e467
        replace hx467_0 := (HB.out.cell (World.block_lt_of_cell? w _ hx467_0)).trans hx467_0
        replace p467 := eq_true p467
        replace q467 := eq_true q467
        have p468 : 0 ≤ (x7_1 : Int) := of_decide_eq_true (by first | (with_reducible assumption) | assumption)
        have q468 : x7_1 < (l1.length : Int) := of_decide_eq_true (by first | (with_reducible assumption) | assumption)
        obtain ⟨ad468, e468, hx468_0⟩ := zAi HR1.out x7_1 p468 q468
        obtain rfl : ad467 = ad468 := (by injection e468)
        replace hx468_0 := (HB.out.cell (World.block_lt_of_cell? w _ hx468_0)).trans hx468_0
        replace p468 := eq_true p468
        replace q468 := eq_true q468
        have hcz8_0 : wr.cell? ⟨gb466, 0, none⟩ = some (.int .i64 a0_0) := (zKc BK466.out 0).trans rfl
        have hcz8_1 : wr.cell? ⟨gb466, 1, none⟩ = some (.slice A0_1 l0_1.length c0_1) := (zKc BK466.out 1).trans rfl
        have hfz8_0 := zKf BK466.out 0
        have hfz8_1 := zKf BK466.out 1
        go_wp2
        repeat (go_quiet (fail); try go_wp2)
        go_ret2
        exact ⟨by first | rfl | (simp [errW_none, errW_some] <;> rfl) | (simp [*, errW_none, errW_some] <;> rfl), by exact uT HB.out⟩
      · rw [if_neg c7] at H
        have c7b0 : decide ((l0_1.length : Int) ≤ (rd l1 x7_1)) = false := decide_eq_false c7
        clear c7
        have c9b0 := eq_true (of_decide_eq_true (by first | (with_reducible assumption) | assumption) : 0 ≤ x7_1)
        by_cases c10 : x7_1 ≤ (l1.length : Int)
        rotate_left
        · rw [if_neg c10] at H; exact absurd H (by simp)
        rw [if_pos c10] at H
        have c10b0 := eq_true c10
        have c10b1 : decide (x7_1 ≤ (l1.length : Int)) = true := decide_eq_true c10
        clear c10
        replace H := bnd H
        obtain ⟨t471, A110, H⟩ := H
        have A11 := zMk A110
        clear A110
        by_cases c12 : t471 = true
        · subst c12
          replace H : (some (0, 1)) = some (r1, r2) := by rw [if_pos rfl] at H; exact H
          simp only [Option.some.injEq, Prod.mk.injEq] at H
          obtain ⟨rfl, rfl⟩ := H
          have p467 : 0 ≤ (x7_1 : Int) := of_decide_eq_true (by first | (with_reducible assumption) | assumption)
          have q467 : x7_1 < (l1.length : Int) := of_decide_eq_true (by first | (with_reducible assumption) | assumption)
          obtain ⟨ad467, e467, hx467_0⟩ := zAi HR1.out x7_1 p467 q467
          cases e467
          replace hx467_0 := (HB.out.cell (World.block_lt_of_cell? w _ hx467_0)).trans hx467_0
          replace p467 := eq_true p467
          replace q467 := eq_true q467
          have p468 : 0 ≤ (x7_1 : Int) := of_decide_eq_true (by first | (with_reducible assumption) | assumption)
          have q468 : x7_1 < (l1.length : Int) := of_decide_eq_true (by first | (with_reducible assumption) | assumption)
          obtain ⟨ad468, e468, hx468_0⟩ := zAi HR1.out x7_1 p468 q468
          obtain rfl : ad467 = ad468 := (by injection e468)
          replace hx468_0 := (HB.out.cell (World.block_lt_of_cell? w _ hx468_0)).trans hx468_0
          replace p468 := eq_true p468
          replace q468 := eq_true q468
          have hcz13_0 : wr.cell? ⟨gb466, 0, none⟩ = some (.int .i64 a0_0) := (zKc BK466.out 0).trans rfl
          have hcz13_1 : wr.cell? ⟨gb466, 1, none⟩ = some (.slice A0_1 l0_1.length c0_1) := (zKc BK466.out 1).trans rfl
          have hfz13_0 := zKf BK466.out 0
          have hfz13_1 := zKf BK466.out 1
          obtain ⟨i014, hi014, _, hsz14, _⟩ := info_parts info3
          obtain ⟨hcut14, hA14, hC14⟩ := print_take_of (P := Try.prog) (Value.int .i64) 0 33 3 .i64 Try.underlying33 hi014 hsz14 (some ad467) c1 l1 x7_1 (of_decide_eq_true (by first | (with_reducible assumption) | assumption)) (of_decide_eq_true (by first | (with_reducible assumption) | assumption)) HC1.out
          have HR469 := zMk (Kd.C_of_reads (h1 := fun _ => rfl) (hA14 _ (Kd.reads_of_C HR1.out)))
          have HC469 := zMk hC14
          clear hA14 hC14 hi014 hsz14
          have p470 : 0 ≤ (x7_1 : Int) := of_decide_eq_true (by first | (with_reducible assumption) | assumption)
          have q470 : x7_1 < (l1.length : Int) := of_decide_eq_true (by first | (with_reducible assumption) | assumption)
          obtain ⟨ad470, e470, hx470_0⟩ := zAi HR1.out x7_1 p470 q470
          obtain rfl : ad467 = ad470 := (by injection e470)
          replace hx470_0 := (HB.out.cell (World.block_lt_of_cell? w _ hx470_0)).trans hx470_0
          replace p470 := eq_true p470
          replace q470 := eq_true q470
          go_wp2_with (first | (go_at_call 31; (with_reducible refine (filigreeref04_Weight.has_len k1 _ _ (l1.take (x7_1 : Int).toNat) (rd l1 x7_1) true _ _ (filigreeref04_Weight.take_len c10b1) ?side1 ?side2 A11.out).mono ?_); (case side1 => repeat (first | exact (Kd.C_below HR469.out HB.out) | (with_reducible refine zCa ?_ _) | (with_reducible refine zCn ?_ _) | (with_reducible refine zCd ?_))); (case side2 => exact HC469.out); rintro e w' ⟨rfl, ⟨nd, rfl⟩⟩; (try first | exact ⟨rfl, _, World.drewN_drewN _ _ _⟩ | exact ⟨rfl, _, Eq.trans (World.drewN_drewN _ _ _) (congrArg (World.drewN _) (Nat.add_assoc _ _ _))⟩)))
          repeat (go_quiet (first | (go_at_call 31; (with_reducible refine (filigreeref04_Weight.has_len k1 _ _ (l1.take (x7_1 : Int).toNat) (rd l1 x7_1) true _ _ (filigreeref04_Weight.take_len c10b1) ?side1 ?side2 A11.out).mono ?_); (case side1 => repeat (first | exact (Kd.C_below HR469.out HB.out) | (with_reducible refine zCa ?_ _) | (with_reducible refine zCn ?_ _) | (with_reducible refine zCd ?_))); (case side2 => exact HC469.out); rintro e w' ⟨rfl, ⟨nd, rfl⟩⟩; (try first | exact ⟨rfl, _, World.drewN_drewN _ _ _⟩ | exact ⟨rfl, _, Eq.trans (World.drewN_drewN _ _ _) (congrArg (World.drewN _) (Nat.add_assoc _ _ _))⟩))); try go_wp2_with (first | (go_at_call 31; (with_reducible refine (filigreeref04_Weight.has_len k1 _ _ (l1.take (x7_1 : Int).toNat) (rd l1 x7_1) true _ _ (filigreeref04_Weight.take_len c10b1) ?side1 ?side2 A11.out).mono ?_); (case side1 => repeat (first | exact (Kd.C_below HR469.out HB.out) | (with_reducible refine zCa ?_ _) | (with_reducible refine zCn ?_ _) | (with_reducible refine zCd ?_))); (case side2 => exact HC469.out); rintro e w' ⟨rfl, ⟨nd, rfl⟩⟩; (try first | exact ⟨rfl, _, World.drewN_drewN _ _ _⟩ | exact ⟨rfl, _, Eq.trans (World.drewN_drewN _ _ _) (congrArg (World.drewN _) (Nat.add_assoc _ _ _))⟩))))
          go_ret2
          exact ⟨by first | rfl | (simp [errW_none, errW_some] <;> rfl) | (simp [*, errW_none, errW_some] <;> rfl), by exact uT HB.out⟩
        · replace c12 := Bool.eq_false_iff.mpr c12
          subst c12
          replace H : (if 0 ≤ (rd l1 x7_1) then (if (rd l1 x7_1) < (l0_1.length : Int) then (filigreeref04_Weight.l0 k1 l1 (wrap64 (x6_1 + ((rd_T36 l0_1 (rd l1 x7_1)).f2))) (wrap64 (x7_1 + 1)) a0_0 l0_1) else (none)) else (none)) = some (r1, r2) := by rw [if_neg (show ¬ (false = true) by decide)] at H; exact H
          by_cases c15 : 0 ≤ (rd l1 x7_1)
          rotate_left
          · rw [if_neg c15] at H; exact absurd H (by simp)
          rw [if_pos c15] at H
          have c15b0 : decide (0 ≤ (rd l1 x7_1)) = true := decide_eq_true c15
          clear c15
          by_cases c16 : (rd l1 x7_1) < (l0_1.length : Int)
          rotate_left
          · rw [if_neg c16] at H; exact absurd H (by simp)
          rw [if_pos c16] at H
          have c16b0 : decide ((rd l1 x7_1) < (l0_1.length : Int)) = true := decide_eq_true c16
          clear c16
          have H' := zMk H
          clear H
          have p467 : 0 ≤ (x7_1 : Int) := of_decide_eq_true (by first | (with_reducible assumption) | assumption)
          have q467 : x7_1 < (l1.length : Int) := of_decide_eq_true (by first | (with_reducible assumption) | assumption)
          obtain ⟨ad467, e467, hx467_0⟩ := zAi HR1.out x7_1 p467 q467
          cases e467
          replace hx467_0 := (HB.out.cell (World.block_lt_of_cell? w _ hx467_0)).trans hx467_0
          replace p467 := eq_true p467
          replace q467 := eq_true q467
          have p468 : 0 ≤ (x7_1 : Int) := of_decide_eq_true (by first | (with_reducible assumption) | assumption)
          have q468 : x7_1 < (l1.length : Int) := of_decide_eq_true (by first | (with_reducible assumption) | assumption)
          obtain ⟨ad468, e468, hx468_0⟩ := zAi HR1.out x7_1 p468 q468
          obtain rfl : ad467 = ad468 := (by injection e468)
          replace hx468_0 := (HB.out.cell (World.block_lt_of_cell? w _ hx468_0)).trans hx468_0
          replace p468 := eq_true p468
          replace q468 := eq_true q468
          have hcz17_0 : wr.cell? ⟨gb466, 0, none⟩ = some (.int .i64 a0_0) := (zKc BK466.out 0).trans rfl
          have hcz17_1 : wr.cell? ⟨gb466, 1, none⟩ = some (.slice A0_1 l0_1.length c0_1) := (zKc BK466.out 1).trans rfl
          have hfz17_0 := zKf BK466.out 0
          have hfz17_1 := zKf BK466.out 1
          obtain ⟨i018, hi018, _, hsz18, _⟩ := info_parts info3
          obtain ⟨hcut18, hA18, hC18⟩ := print_take_of (P := Try.prog) (Value.int .i64) 0 33 3 .i64 Try.underlying33 hi018 hsz18 (some ad467) c1 l1 x7_1 (of_decide_eq_true (by first | (with_reducible assumption) | assumption)) (of_decide_eq_true (by first | (with_reducible assumption) | assumption)) HC1.out
          have HR469 := zMk (Kd.C_of_reads (h1 := fun _ => rfl) (hA18 _ (Kd.reads_of_C HR1.out)))
          have HC469 := zMk hC18
          clear hA18 hC18 hi018 hsz18
          have p470 : 0 ≤ (x7_1 : Int) := of_decide_eq_true (by first | (with_reducible assumption) | assumption)
          have q470 : x7_1 < (l1.length : Int) := of_decide_eq_true (by first | (with_reducible assumption) | assumption)
          obtain ⟨ad470, e470, hx470_0⟩ := zAi HR1.out x7_1 p470 q470
          obtain rfl : ad467 = ad470 := (by injection e470)
          replace hx470_0 := (HB.out.cell (World.block_lt_of_cell? w _ hx470_0)).trans hx470_0
          replace p470 := eq_true p470
          replace q470 := eq_true q470
          go_wp2_with (first | (go_at_call 31; (with_reducible refine (filigreeref04_Weight.has_len k1 _ _ (l1.take (x7_1 : Int).toNat) (rd l1 x7_1) false _ _ (filigreeref04_Weight.take_len c10b1) ?side1 ?side2 A11.out).mono ?_); (case side1 => repeat (first | exact (Kd.C_below HR469.out HB.out) | (with_reducible refine zCa ?_ _) | (with_reducible refine zCn ?_ _) | (with_reducible refine zCd ?_))); (case side2 => exact HC469.out); rintro e w' ⟨rfl, ⟨nd, rfl⟩⟩; (try first | exact ⟨rfl, _, World.drewN_drewN _ _ _⟩ | exact ⟨rfl, _, Eq.trans (World.drewN_drewN _ _ _) (congrArg (World.drewN _) (Nat.add_assoc _ _ _))⟩); have p472 : 0 ≤ (x7_1 : Int) := of_decide_eq_true (by first | (with_reducible assumption) | assumption); have q472 : x7_1 < (l1.length : Int) := of_decide_eq_true (by first | (with_reducible assumption) | assumption); obtain ⟨ad472, e472, hx472_0⟩ := zAi HR1.out x7_1 p472 q472; obtain rfl : ad467 = ad472 := (by injection e472); replace hx472_0 := (HB.out.cell (World.block_lt_of_cell? w _ hx472_0)).trans hx472_0; replace p472 := eq_true p472; replace q472 := eq_true q472; have p473 : 0 ≤ ((rd l1 x7_1) : Int) := of_decide_eq_true (by first | (with_reducible assumption) | assumption); have q473 : (rd l1 x7_1) < (l0_1.length : Int) := of_decide_eq_true (by first | (with_reducible assumption) | assumption); obtain ⟨ad473, e473, hx473_0, hx473_1, hx473_2⟩ := at_T36 HR0_1.out (rd l1 x7_1) p473 q473; cases e473; replace hx473_0 := (HB.out.cell (World.block_lt_of_cell? w _ hx473_0)).trans hx473_0; replace hx473_1 := (HB.out.cell (World.block_lt_of_cell? w _ hx473_1)).trans hx473_1; replace hx473_2 := (HB.out.cell (World.block_lt_of_cell? w _ hx473_2)).trans hx473_2; replace p473 := eq_true p473; replace q473 := eq_true q473))
          repeat (go_quiet (first | (go_at_call 31; (with_reducible refine (filigreeref04_Weight.has_len k1 _ _ (l1.take (x7_1 : Int).toNat) (rd l1 x7_1) false _ _ (filigreeref04_Weight.take_len c10b1) ?side1 ?side2 A11.out).mono ?_); (case side1 => repeat (first | exact (Kd.C_below HR469.out HB.out) | (with_reducible refine zCa ?_ _) | (with_reducible refine zCn ?_ _) | (with_reducible refine zCd ?_))); (case side2 => exact HC469.out); rintro e w' ⟨rfl, ⟨nd, rfl⟩⟩; (try first | exact ⟨rfl, _, World.drewN_drewN _ _ _⟩ | exact ⟨rfl, _, Eq.trans (World.drewN_drewN _ _ _) (congrArg (World.drewN _) (Nat.add_assoc _ _ _))⟩); have p472 : 0 ≤ (x7_1 : Int) := of_decide_eq_true (by first | (with_reducible assumption) | assumption); have q472 : x7_1 < (l1.length : Int) := of_decide_eq_true (by first | (with_reducible assumption) | assumption); obtain ⟨ad472, e472, hx472_0⟩ := zAi HR1.out x7_1 p472 q472; obtain rfl : ad467 = ad472 := (by injection e472); replace hx472_0 := (HB.out.cell (World.block_lt_of_cell? w _ hx472_0)).trans hx472_0; replace p472 := eq_true p472; replace q472 := eq_true q472; have p473 : 0 ≤ ((rd l1 x7_1) : Int) := of_decide_eq_true (by first | (with_reducible assumption) | assumption); have q473 : (rd l1 x7_1) < (l0_1.length : Int) := of_decide_eq_true (by first | (with_reducible assumption) | assumption); obtain ⟨ad473, e473, hx473_0, hx473_1, hx473_2⟩ := at_T36 HR0_1.out (rd l1 x7_1) p473 q473; cases e473; replace hx473_0 := (HB.out.cell (World.block_lt_of_cell? w _ hx473_0)).trans hx473_0; replace hx473_1 := (HB.out.cell (World.block_lt_of_cell? w _ hx473_1)).trans hx473_1; replace hx473_2 := (HB.out.cell (World.block_lt_of_cell? w _ hx473_2)).trans hx473_2; replace p473 := eq_true p473; replace q473 := eq_true q473)); try go_wp2_with (first | (go_at_call 31; (with_reducible refine (filigreeref04_Weight.has_len k1 _ _ (l1.take (x7_1 : Int).toNat) (rd l1 x7_1) false _ _ (filigreeref04_Weight.take_len c10b1) ?side1 ?side2 A11.out).mono ?_); (case side1 => repeat (first | exact (Kd.C_below HR469.out HB.out) | (with_reducible refine zCa ?_ _) | (with_reducible refine zCn ?_ _) | (with_reducible refine zCd ?_))); (case side2 => exact HC469.out); rintro e w' ⟨rfl, ⟨nd, rfl⟩⟩; (try first | exact ⟨rfl, _, World.drewN_drewN _ _ _⟩ | exact ⟨rfl, _, Eq.trans (World.drewN_drewN _ _ _) (congrArg (World.drewN _) (Nat.add_assoc _ _ _))⟩); have p472 : 0 ≤ (x7_1 : Int) := of_decide_eq_true (by first | (with_reducible assumption) | assumption); have q472 : x7_1 < (l1.length : Int) := of_decide_eq_true (by first | (with_reducible assumption) | assumption); obtain ⟨ad472, e472, hx472_0⟩ := zAi HR1.out x7_1 p472 q472; obtain rfl : ad467 = ad472 := (by injection e472); replace hx472_0 := (HB.out.cell (World.block_lt_of_cell? w _ hx472_0)).trans hx472_0; replace p472 := eq_true p472; replace q472 := eq_true q472; have p473 : 0 ≤ ((rd l1 x7_1) : Int) := of_decide_eq_true (by first | (with_reducible assumption) | assumption); have q473 : (rd l1 x7_1) < (l0_1.length : Int) := of_decide_eq_true (by first | (with_reducible assumption) | assumption); obtain ⟨ad473, e473, hx473_0, hx473_1, hx473_2⟩ := at_T36 HR0_1.out (rd l1 x7_1) p473 q473; cases e473; replace hx473_0 := (HB.out.cell (World.block_lt_of_cell? w _ hx473_0)).trans hx473_0; replace hx473_1 := (HB.out.cell (World.block_lt_of_cell? w _ hx473_1)).trans hx473_1; replace hx473_2 := (HB.out.cell (World.block_lt_of_cell? w _ hx473_2)).trans hx473_2; replace p473 := eq_true p473; replace q473 := eq_true q473)))
          go_roundg k1
          case measure => have := HK1.out; omega
          case rel => exact ⟨(wrap64 (x6_1 + ((rd_T36 l0_1 (rd l1 x7_1)).f2))), (wrap64 (x7_1 + 1)), (by first | rfl | (simp; done) | (simp [*]; done)), (by first | rfl | (simp; done) | (simp [*]; done)), H', ⟨by have := HK1.out; omega⟩, ⟨by (with_reducible repeat (first | refine zKn ?_ _ | refine zKd ?_ | refine zKa ?_ _)); exact BK466.out⟩, ⟨by exact uT HB.out⟩⟩
  · rw [if_neg c4] at H
    have c4b0 : decide (x7_1 < (l1.length : Int)) = false := decide_eq_false c4
    clear c4
    simp only [Option.some.injEq, Prod.mk.injEq] at H
    obtain ⟨rfl, rfl⟩ := H
    go_wp2
    repeat (go_quiet (fail); try go_wp2)
    go_ret2
    exact ⟨by first | rfl | (simp [errW_none, errW_some] <;> rfl) | (simp [*, errW_none, errW_some] <;> rfl), by exact uT HB.out⟩

/- Chapter 04: the weight of some of a graph's edges, by marks and by looking back. -/
theorem rdI_get (l : List Int) (i : Nat) (h : i < l.length) : rd l (i : Int) = l[i] := by
  unfold rd
  rw [zTn]
  simp [h]
theorem dropI (l : List Int) (i : Nat) (h : i < l.length) : l.drop i = rd l (i : Int) :: l.drop (i + 1) := by
  rw [List.drop_eq_getElem_cons h, rdI_get l i h]
theorem Has_l0 (l : List Int) (x : Int) (hm : l.length ≤ 1000000) (d : Nat) : ∀ (k i : Nat), l.length - i = d → i ≤ l.length → d + 1 ≤ k →
    filigreeref04_Has.l0 k l x i = some (decide (x ∈ l.drop i)) := by
  induction d with
  | zero =>
    intro k i hd hi hk
    obtain ⟨k, rfl⟩ : ∃ m, k = m + 1 := ⟨k - 1, by omega⟩
    obtain rfl : i = l.length := by omega
    rw [List.drop_length]
    simp only [filigreeref04_Has.l0]
    rw [if_neg (by omega)]
    simp
  | succ d ih =>
    intro k i hd hi hk
    obtain ⟨k, rfl⟩ : ∃ m, k = m + 1 := ⟨k - 1, by omega⟩
    have hlt : i < l.length := by omega
    have hwn : wrap64 ((i : Int) + 1) = ((i + 1 : Nat) : Int) := by rw [w64 (by omega) (by omega)]; omega
    rw [dropI l i hlt]
    simp only [filigreeref04_Has.l0]
    rw [if_pos (by omega), if_pos (by omega), hwn, ih k (i + 1) (by omega) (by omega) (by omega)]
    by_cases h : rd l (i : Int) = x
    · rw [if_pos h]; simp [h]
    · rw [if_neg h]
      congr 1
      rw [decide_eq_decide, List.mem_cons]
      constructor
      · exact Or.inr
      · rintro (h1 | h1)
        · exact absurd h1.symm h
        · exact h1
theorem Has_eq (k : Nat) (l : List Int) (x : Int) (hm : l.length ≤ 1000000) (hk : l.length + 1 ≤ k) : filigreeref04_Has.f k l x = some (decide (x ∈ l)) := by
  unfold filigreeref04_Has.f
  have := Has_l0 l x hm l.length k 0 (by omega) (by omega) hk
  simpa using this
/-- the weight of edges, those ahead known -/
def wgt (E : List S36) : List Int → Int → List Int → Int × Int
  | _, w, [] => (w, 0)
  | seen, w, x :: t => if x < 0 then (0, 1) else if x ≥ E.length then (0, 1) else if x ∈ seen then (0, 1) else wgt E (seen ++ [x]) (wrap64 (w + (rd_T36 E x).f2)) t
theorem takeI (l : List Int) (i : Nat) (h : i < l.length) : l.take (i + 1) = l.take i ++ [rd l (i : Int)] := by
  rw [List.take_succ_eq_append_getElem h, rdI_get l i h]
theorem refWeight_l0 (n : Int) (E : List S36) (l : List Int) (hm : l.length ≤ 1000000) (d : Nat) : ∀ (k i : Nat) (w : Int), l.length - i = d → i ≤ l.length → l.length + d + 2 ≤ k →
    filigreeref04_Weight.l0 k l w i n E = some (wgt E (l.take i) w (l.drop i)) := by
  induction d with
  | zero =>
    intro k i w hd hi hk
    obtain ⟨k, rfl⟩ : ∃ m, k = m + 1 := ⟨k - 1, by omega⟩
    obtain rfl : i = l.length := by omega
    rw [List.drop_length]
    simp only [filigreeref04_Weight.l0]
    rw [if_neg (by omega)]
    simp [wgt]
  | succ d ih =>
    intro k i w hd hi hk
    obtain ⟨k, rfl⟩ : ∃ m, k = m + 1 := ⟨k - 1, by omega⟩
    have hlt : i < l.length := by omega
    have hwn : wrap64 ((i : Int) + 1) = ((i + 1 : Nat) : Int) := by rw [w64 (by omega) (by omega)]; omega
    rw [dropI l i hlt]
    simp only [filigreeref04_Weight.l0]
    rw [if_pos (by omega), if_pos (by omega)]
    unfold wgt
    by_cases h1 : rd l (i : Int) < 0
    · rw [if_pos h1, if_pos h1]
    rw [if_neg h1, if_neg h1]
    by_cases h2 : rd l (i : Int) ≥ (E.length : Int)
    · rw [if_pos h2, if_pos h2]
    rw [if_neg h2, if_neg h2, if_pos (by omega), zTn, Has_eq k _ _ (by rw [zLt]; omega) (by rw [zLt]; omega), zOb]
    by_cases h3 : rd l (i : Int) ∈ l.take i
    · rw [if_pos (decide_eq_true h3), if_pos h3]
    rw [if_neg (by simpa using h3), if_neg h3, if_pos (by omega), if_pos (by omega), hwn, ih k (i + 1) _ (by omega) (by omega) (by omega), takeI l i hlt]
theorem refWeight_eq (k : Nat) (n : Int) (E : List S36) (l : List Int) (hm : l.length ≤ 1000000) (hk : 2 * l.length + 2 ≤ k) : filigreeref04_Weight.f k n E l = some (wgt E [] 0 l) := by
  unfold filigreeref04_Weight.f
  have := refWeight_l0 n E l hm l.length k 0 0 (by omega) (by omega) (by omega)
  simpa using this
theorem Weight_l0 (n : Int) (E : List S36) (l : List Int) (hm : l.length ≤ 1000000) (d : Nat) : ∀ (k i : Nat) (w : Int) (met : List Bool), l.length - i = d → i ≤ l.length → d + 1 ≤ k → met.length = E.length →
    (∀ j : Nat, j < E.length → met.getD j false = decide ((j : Int) ∈ l.take i)) →
    graph_Weight.l0 k met w l (l.length : Int) i n E = some (wgt E (l.take i) w (l.drop i)) := by
  induction d with
  | zero =>
    intro k i w met hd hi hk hl hmet
    obtain ⟨k, rfl⟩ : ∃ m, k = m + 1 := ⟨k - 1, by omega⟩
    obtain rfl : i = l.length := by omega
    rw [List.drop_length]
    simp only [graph_Weight.l0]
    rw [if_neg (by omega)]
    simp [wgt]
  | succ d ih =>
    intro k i w met hd hi hk hl hmet
    obtain ⟨k, rfl⟩ : ∃ m, k = m + 1 := ⟨k - 1, by omega⟩
    have hlt : i < l.length := by omega
    have hwn : wrap64 ((i : Int) + 1) = ((i + 1 : Nat) : Int) := by rw [w64 (by omega) (by omega)]; omega
    rw [dropI l i hlt]
    simp only [graph_Weight.l0]
    rw [if_pos (by omega), if_pos (by omega), if_pos (by omega)]
    unfold wgt
    by_cases h1 : rd l (i : Int) < 0
    · rw [if_pos h1, if_pos h1]
    rw [if_neg h1, if_neg h1]
    by_cases h2 : rd l (i : Int) ≥ (E.length : Int)
    · rw [if_pos (by omega), if_pos h2]
    obtain ⟨q, hq⟩ : ∃ q : Nat, rd l (i : Int) = q := ⟨(rd l (i : Int)).toNat, by omega⟩
    have hmq := hmet q (by omega)
    have hrq : rdOf false met (rd l (i : Int)) = decide (rd l (i : Int) ∈ l.take i) := by
      unfold rdOf
      rw [hq, zTn]
      exact hmq
    rw [if_neg (by omega), if_neg h2, if_pos (by omega), if_pos (by omega), hrq]
    by_cases h3 : rd l (i : Int) ∈ l.take i
    · rw [if_pos (decide_eq_true h3), if_pos h3]
    rw [if_neg (by simpa using h3), if_neg h3, if_pos (by omega), hwn, ih k (i + 1) _ _ (by omega) (by omega) (by omega) (by rw [List.length_set]; exact hl) ?_, takeI l i hlt]
    intro j hj
    rw [takeI l i hlt, hq, zTn]
    by_cases hjq : j = q
    · subst hjq
      simp [List.getD_eq_getElem?_getD, hl, hj]
    · have : (met.set q true).getD j false = met.getD j false := by
        simp [List.getD_eq_getElem?_getD, Ne.symm hjq]
      rw [this, hmet j hj, decide_eq_decide, List.mem_append]
      constructor
      · exact Or.inl
      · rintro (h | h)
        · exact h
        · simp at h; omega
theorem Weight_eq (k : Nat) (n : Int) (E : List S36) (l : List Int) (hm : l.length ≤ 1000000) (hE : E.length ≤ 1000000) (hk : l.length + E.length + 4 ≤ k) :
    graph_Weight.f k n E l = some (if rightI n E = 0 then wgt E [] 0 l else (0, 1)) := by
  unfold graph_Weight.f
  rw [Right_eq k n E (by omega), zOb]
  by_cases h : rightI n E = 0
  · rw [if_pos h, if_pos h, if_pos (by omega), if_pos (by omega)]
    have := Weight_l0 n E l hm l.length k 0 0 (List.replicate (E.length : Int).toNat false) (by omega) (by omega) (by omega) (by simp) (by intro j hj; simp [List.getD_eq_getElem?_getD, List.getElem?_replicate, hj])
    simpa using this
  · rw [if_neg h, if_neg h]

/-! ### filigreelaw04_Light: function 17 -/
def filigreelaw04_Light.f (a0_0 : Int) (l0_1 : List (S36)) (a1 : Int) : Option (Bool) := if a0_0 ≤ a1 then (some (decide ((l0_1.length : Int) ≤ (wrap64 (4 * a1))))) else (some false)
set_option maxHeartbeats 8000000 in
set_option maxRecDepth 100000 in
theorem filigreelaw04_Light.calls (a0_0 : Int) (A0_1 : Option Addr) (c0_1 : Nat) (l0_1 : List (S36)) (a1 : Int) (r : Bool) (w : World) (hr0_1 : Kd.C k36 w A0_1 l0_1.length l0_1) (hc0_1 : l0_1.length ≤ c0_1) (h : filigreelaw04_Light.f a0_0 l0_1 a1 = some r) :
    Calls Try.prog 17 #[.agg #[.int .i64 a0_0, .slice A0_1 l0_1.length c0_1], .int .i64 a1] w fun e w' => e = .returned (.bool r) ∧ Below w.heap.size w w' := by
  have hu24 := Try.underlying24
  have HR0_1 := zMk hr0_1
  have HC0_1 := zMk hc0_1
  clear hr0_1 hc0_1
  have HB := zMk (Below.refl w.heap.size w)
  have H : (if a0_0 ≤ a1 then (some (decide ((l0_1.length : Int) ≤ (wrap64 (4 * a1))))) else (some false)) = some r := h
  clear h
  by_cases c3 : a0_0 ≤ a1
  · rw [if_pos c3] at H
    have c3b0 : decide (a0_0 ≤ a1) = true := decide_eq_true c3
    clear c3
    obtain rfl := zOi H
    go_enter Try.func17, Try.ntmps17
    go_wp2_with (first |  ((with_reducible refine gate_dst (N := 2) rfl ?_); (try (refine gate_guard (by rfl) ?_; dsimp only)); refine box_event ?hg (N := 2) ?hd (cs := #[.int .i64 a0_0, .slice A0_1 l0_1.length c0_1]) (t := 24) ?hr ?_; (case hd => rfl); (case hg => rfl); (case hr => first |  (go_simp; done)|  (go_simp; rfl)|  (go_simp; rw [show ∀ x : Int, IntKind.u32.wrap (IntKind.u8.wrap x) = x % 256 from fun x => (by show (x % 256) % 4294967296 = x % 256; omega)])); intro gb143 hg w4 hbox hb; have BK143 := zMk (hbox); have GW143 := zMk ((by rw [hg]; exact (zBs (by exact uT HB.out)) : w.heap.size ≤ gb143)); have GE143 := zMk ((by rw [hg]; exact (zBs (by exact uT HB.out)) : w.heap.size ≤ gb143)); have IGE143 := ownGe GE143.out; replace HB := zMk (zBt (by exact uT HB.out) hb); clear hb hbox hg; have hcz5_0 : w4.cell? ⟨gb143, 0, none⟩ = some (.int .i64 a0_0) := (zKc BK143.out 0).trans rfl; have hcz5_1 : w4.cell? ⟨gb143, 1, none⟩ = some (.slice A0_1 l0_1.length c0_1) := (zKc BK143.out 1).trans rfl; have hfz5_0 := zKf BK143.out 0; have hfz5_1 := zKf BK143.out 1))
    go_ret
    exact ⟨by first | rfl | (simp [errW_none, errW_some] <;> rfl) | (simp [*, errW_none, errW_some] <;> rfl), by exact uT HB.out⟩
  · rw [if_neg c3] at H
    have c3b0 : decide (a0_0 ≤ a1) = false := decide_eq_false c3
    clear c3
    obtain rfl := zOi H
    go_enter Try.func17, Try.ntmps17
    go_wp2_with (first |  ((with_reducible refine gate_dst (N := 2) rfl ?_); (try (refine gate_guard (by rfl) ?_; dsimp only)); refine box_event ?hg (N := 2) ?hd (cs := #[.int .i64 a0_0, .slice A0_1 l0_1.length c0_1]) (t := 24) ?hr ?_; (case hd => rfl); (case hg => rfl); (case hr => first |  (go_simp; done)|  (go_simp; rfl)|  (go_simp; rw [show ∀ x : Int, IntKind.u32.wrap (IntKind.u8.wrap x) = x % 256 from fun x => (by show (x % 256) % 4294967296 = x % 256; omega)])); intro gb143 hg w6 hbox hb; have BK143 := zMk (hbox); have GW143 := zMk ((by rw [hg]; exact (zBs (by exact uT HB.out)) : w.heap.size ≤ gb143)); have GE143 := zMk ((by rw [hg]; exact (zBs (by exact uT HB.out)) : w.heap.size ≤ gb143)); have IGE143 := ownGe GE143.out; replace HB := zMk (zBt (by exact uT HB.out) hb); clear hb hbox hg; have hcz7_0 : w6.cell? ⟨gb143, 0, none⟩ = some (.int .i64 a0_0) := (zKc BK143.out 0).trans rfl; have hcz7_1 : w6.cell? ⟨gb143, 1, none⟩ = some (.slice A0_1 l0_1.length c0_1) := (zKc BK143.out 1).trans rfl; have hfz7_0 := zKf BK143.out 0; have hfz7_1 := zKf BK143.out 1))
    go_ret
    exact ⟨by first | rfl | (simp [errW_none, errW_some] <;> rfl) | (simp [*, errW_none, errW_some] <;> rfl), by exact uT HB.out⟩


/-! ### filigreelaw04_GraphWeights: function 6 -/
def filigreelaw04_GraphWeights.j0 : Nat → List Int → Bool → Int → List (S36) → Option (Bool)
  | 0, _, _, _, _ => none
  | k + 1, x1, x16, x475000, x475001 => if x16 = true then ((filigreelaw04_alive.f k).bind fun t476 => (some t476)) else ((graph_Weight.f k x475000 x475001 x1).bind fun bt477 => ((filigreeref04_Right.f k x475000 x475001).bind fun t479 => (if t479 = 0 then ((filigreeref04_Weight.f k x475000 x475001 x1).bind fun bt480 => (if bt477.1 = bt480.1 then (if bt477.2 = bt480.2 then ((filigreelaw04_alive.f k).bind fun t482 => (some t482)) else (some false)) else (some false))) else (if bt477.1 = 0 then (if bt477.2 = 1 then ((filigreelaw04_alive.f k).bind fun t483 => (some t483)) else (some false)) else (some false)))))
def filigreelaw04_GraphWeights.f (k : Nat) (a0_0 : Int) (l0_1 : List (S36)) (l1 : List Int) : Option (Bool) := (filigreelaw04_Light.f a0_0 l0_1 60).bind fun t475 => (if t475 = true then (filigreelaw04_GraphWeights.j0 k l1 (decide ((l1.length : Int) > 500)) a0_0 l0_1) else (filigreelaw04_GraphWeights.j0 k l1 true a0_0 l0_1))
set_option maxHeartbeats 8000000 in
set_option maxRecDepth 100000 in
theorem filigreelaw04_GraphWeights.calls (k : Nat) (a0_0 : Int) (A0_1 : Option Addr) (c0_1 : Nat) (l0_1 : List (S36)) (A1 : Option Addr) (c1 : Nat) (l1 : List Int) (r : Bool) (w : World) (hr0_1 : Kd.C k36 w A0_1 l0_1.length l0_1) (hc0_1 : l0_1.length ≤ c0_1) (hr1 : Kd.C (Kd.int .i64) w A1 l1.length l1) (hc1 : l1.length ≤ c1) (h : filigreelaw04_GraphWeights.f k a0_0 l0_1 l1 = some r) (hr_ : r = true) :
    Calls Try.prog 6 #[.agg #[.int .i64 a0_0, .slice A0_1 l0_1.length c0_1], .slice A1 l1.length c1] w fun e w' => e = .returned (.bool r) ∧ Below w.heap.size w w' := by
  have HRT := zMk hr_
  clear hr_
  have hu24 := Try.underlying24
  have HR0_1 := zMk hr0_1
  have HC0_1 := zMk hc0_1
  clear hr0_1 hc0_1
  have HR1 := zMk hr1
  have HC1 := zMk hc1
  clear hr1 hc1
  have HB := zMk (Below.refl w.heap.size w)
  have H : ((filigreelaw04_Light.f a0_0 l0_1 60).bind fun t475 => (if t475 = true then (filigreelaw04_GraphWeights.j0 k l1 (decide ((l1.length : Int) > 500)) a0_0 l0_1) else (filigreelaw04_GraphWeights.j0 k l1 true a0_0 l0_1))) = some r := h
  clear h
  have HC3 := zMk H
  clear H
  go_enter Try.func6, Try.ntmps6
  go_upto_region 1 with (first |  ((with_reducible refine gate_dst (N := 2) rfl ?_); (try (refine gate_guard (by rfl) ?_; dsimp only)); refine box_event ?hg (N := 2) ?hd (cs := #[.int .i64 a0_0, .slice A0_1 l0_1.length c0_1]) (t := 24) ?hr ?_; (case hd => rfl); (case hg => rfl); (case hr => first |  (go_simp; done)|  (go_simp; rfl)|  (go_simp; rw [show ∀ x : Int, IntKind.u32.wrap (IntKind.u8.wrap x) = x % 256 from fun x => (by show (x % 256) % 4294967296 = x % 256; omega)])); intro gb474 hg w4 hbox hb; have BK474 := zMk (hbox); have GW474 := zMk ((by rw [hg]; exact (zBs (by exact uT HB.out)) : w.heap.size ≤ gb474)); have GE474 := zMk ((by rw [hg]; exact (zBs (by exact uT HB.out)) : w.heap.size ≤ gb474)); have IGE474 := ownGe GE474.out; replace HB := zMk (zBt (by exact uT HB.out) hb); clear hb hbox hg))
  (try simp only [Act.put, zSa, zSb, zSc])
  go_cut [16] (fun v16 wc => ∃ (kq : Nat) (x16_2 : Bool), v16 = .bool x16_2 ∧ Aside0 (filigreelaw04_GraphWeights.j0 kq l1 x16_2 a0_0 l0_1 = some r) ∧ Aside0 (kq ≤ k) ∧ Aside0 (wc.heap[gb474]? = some (.cells #[.int .i64 a0_0, (.slice A0_1 l0_1.length c0_1)] 24 (0, 0))) ∧ Aside0 (Below w.heap.size w wc))
  case first =>
    have H := HC3.out
    clear HC3
    replace H := bnd H
    obtain ⟨t475, A50, H⟩ := H
    have A5 := zMk A50
    clear A50
    by_cases c6 : t475 = true
    · subst c6
      replace H : (filigreelaw04_GraphWeights.j0 k l1 (decide ((l1.length : Int) > 500)) a0_0 l0_1) = some r := by rw [if_pos rfl] at H; exact H
      have H' := zMk H
      clear H
      have hcz7_0 : w4.cell? ⟨gb474, 0, none⟩ = some (.int .i64 a0_0) := (zKc BK474.out 0).trans rfl
      have hcz7_1 : w4.cell? ⟨gb474, 1, none⟩ = some (.slice A0_1 l0_1.length c0_1) := (zKc BK474.out 1).trans rfl
      have hfz7_0 := zKf BK474.out 0
      have hfz7_1 := zKf BK474.out 1
      go_wp2_with (first |  ((with_reducible refine gate_callee (f := 17) rfl ?_); refine goesL_ (some 10) rfl rfl Try.func17 (by kernel_rfl) rfl #[.agg #[.int .i64 a0_0, .slice A0_1 l0_1.length c0_1], .int .i64 60] rfl (by (try simp only [zMa, zMc, zMn]); first |  done|  rfl|  (simp only [zLd, zLt]; rfl)) ?_; (with_reducible refine (filigreelaw04_Light.calls a0_0 _ _ l0_1 60 true _ ?side1 ?side2 A5.out).mono ?_); (case side1 => repeat (first |  exact (Kd.C_below HR0_1.out HB.out)|  (with_reducible refine zCa ?_ _)|  (with_reducible refine zCn ?_ _)|  (with_reducible refine zCd ?_))); (case side2 => exact HC0_1.out); rintro e w8 ⟨rfl, hb⟩; refine ⟨_, rfl, ?_⟩; replace BK474 := zMk (zKb (g := gb474) (o := .cells #[.int .i64 a0_0, .slice A0_1 l0_1.length c0_1] 24 (0, 0)) (by (with_reducible repeat (first |  refine zKn ?_ _|  refine zKd ?_|  refine zKa ?_ _)); exact BK474.out) hb); replace HB := zMk (zBt (by exact uT HB.out) hb); (try clear hb); (try clear hb2); (try clear hk); (try clear hi)))
      go_meet
      case rel => exact ⟨_, (decide ((l1.length : Int) > 500)), (by first | rfl | (simp; done) | (simp [*]; done)), H', ⟨by first | omega | exact Nat.le_refl _⟩, ⟨by (with_reducible repeat (first | refine zKn ?_ _ | refine zKd ?_ | refine zKa ?_ _)); exact BK474.out⟩, ⟨by exact uT HB.out⟩⟩
    · replace c6 := Bool.eq_false_iff.mpr c6
      subst c6
      replace H : (filigreelaw04_GraphWeights.j0 k l1 true a0_0 l0_1) = some r := by rw [if_neg (show ¬ (false = true) by decide)] at H; exact H
      have H' := zMk H
      clear H
      have hcz9_0 : w4.cell? ⟨gb474, 0, none⟩ = some (.int .i64 a0_0) := (zKc BK474.out 0).trans rfl
      have hcz9_1 : w4.cell? ⟨gb474, 1, none⟩ = some (.slice A0_1 l0_1.length c0_1) := (zKc BK474.out 1).trans rfl
      have hfz9_0 := zKf BK474.out 0
      have hfz9_1 := zKf BK474.out 1
      go_wp2_with (first |  ((with_reducible refine gate_callee (f := 17) rfl ?_); refine goesL_ (some 10) rfl rfl Try.func17 (by kernel_rfl) rfl #[.agg #[.int .i64 a0_0, .slice A0_1 l0_1.length c0_1], .int .i64 60] rfl (by (try simp only [zMa, zMc, zMn]); first |  done|  rfl|  (simp only [zLd, zLt]; rfl)) ?_; (with_reducible refine (filigreelaw04_Light.calls a0_0 _ _ l0_1 60 false _ ?side1 ?side2 A5.out).mono ?_); (case side1 => repeat (first |  exact (Kd.C_below HR0_1.out HB.out)|  (with_reducible refine zCa ?_ _)|  (with_reducible refine zCn ?_ _)|  (with_reducible refine zCd ?_))); (case side2 => exact HC0_1.out); rintro e w10 ⟨rfl, hb⟩; refine ⟨_, rfl, ?_⟩; replace BK474 := zMk (zKb (g := gb474) (o := .cells #[.int .i64 a0_0, .slice A0_1 l0_1.length c0_1] 24 (0, 0)) (by (with_reducible repeat (first |  refine zKn ?_ _|  refine zKd ?_|  refine zKa ?_ _)); exact BK474.out) hb); replace HB := zMk (zBt (by exact uT HB.out) hb); (try clear hb); (try clear hb2); (try clear hk); (try clear hi)))
      go_meet
      case rel => exact ⟨_, (true), (by first | rfl | (simp; done) | (simp [*]; done)), H', ⟨by first | omega | exact Nat.le_refl _⟩, ⟨by (with_reducible repeat (first | refine zKn ?_ _ | refine zKd ?_ | refine zKa ?_ _)); exact BK474.out⟩, ⟨by exact uT HB.out⟩⟩
  case rest =>
    clear HC3
    obtain ⟨kq, x16_2, rfl, HA, HJ2, BK474, HB⟩ := hcut
    rcases kq with _ | kj2
    · exact absurd HA.out (by simp [filigreelaw04_GraphWeights.j0])
    have H := HA.out
    clear HA
    simp only [filigreelaw04_GraphWeights.j0] at H
    by_cases c11 : x16_2 = true
    · subst c11
      replace H : ((filigreelaw04_alive.f kj2).bind fun t476 => (some t476)) = some r := by rw [if_pos rfl] at H; exact H
      replace H := bnd H
      obtain ⟨t476, A120, H⟩ := H
      have A12 := zMk A120
      clear A120
      obtain rfl := zOi H
      go_wp2_with (first |  ((with_reducible refine gate_callee (f := 13) rfl ?_); refine goesL_ (some 17) rfl rfl Try.func13 (by kernel_rfl) rfl #[] rfl (by (try simp only [zMa, zMc, zMn]); first |  done|  rfl|  (simp only [zLd, zLt]; rfl)) ?_; (with_reducible refine (filigreelaw04_alive.calls kj2  t476 _ A12.out).mono ?_); rintro e w13 ⟨rfl, hb⟩; refine ⟨_, rfl, ?_⟩; replace BK474 := zMk (zKb (g := gb474) (o := .cells #[.int .i64 a0_0, .slice A0_1 l0_1.length c0_1] 24 (0, 0)) (by (with_reducible repeat (first |  refine zKn ?_ _|  refine zKd ?_|  refine zKa ?_ _)); exact BK474.out) hb); replace HB := zMk (zBt (by exact uT HB.out) hb); (try clear hb); (try clear hb2); (try clear hk); (try clear hi)))
      go_ret
      exact ⟨by first | rfl | (simp [errW_none, errW_some] <;> rfl) | (simp [*, errW_none, errW_some] <;> rfl), by exact uT HB.out⟩
    · replace c11 := Bool.eq_false_iff.mpr c11
      subst c11
      replace H : ((graph_Weight.f kj2 a0_0 l0_1 l1).bind fun bt477 => ((filigreeref04_Right.f kj2 a0_0 l0_1).bind fun t479 => (if t479 = 0 then ((filigreeref04_Weight.f kj2 a0_0 l0_1 l1).bind fun bt480 => (if bt477.1 = bt480.1 then (if bt477.2 = bt480.2 then ((filigreelaw04_alive.f kj2).bind fun t482 => (some t482)) else (some false)) else (some false))) else (if bt477.1 = 0 then (if bt477.2 = 1 then ((filigreelaw04_alive.f kj2).bind fun t483 => (some t483)) else (some false)) else (some false))))) = some r := by rw [if_neg (show ¬ (false = true) by decide)] at H; exact H
      replace H := bnd H
      obtain ⟨⟨t477, t478⟩, A140, H⟩ := H
      replace H : ((filigreeref04_Right.f kj2 a0_0 l0_1).bind fun t479 => (if t479 = 0 then ((filigreeref04_Weight.f kj2 a0_0 l0_1 l1).bind fun bt480 => (if t477 = bt480.1 then (if t478 = bt480.2 then ((filigreelaw04_alive.f kj2).bind fun t482 => (some t482)) else (some false)) else (some false))) else (if t477 = 0 then (if t478 = 1 then ((filigreelaw04_alive.f kj2).bind fun t483 => (some t483)) else (some false)) else (some false)))) = some r := H
      have A14 := zMk A140
      clear A140
      replace H := bnd H
      obtain ⟨t479, A150, H⟩ := H
      have A15 := zMk A150
      clear A150
      by_cases c16 : t479 = 0
      · rw [if_pos c16] at H
        have c16b0 : (t479 == 0) = true := beq_iff_eq.mpr c16
        have c16b1 : (t479 != 0) = false := bne_eq_false_iff_eq.mpr c16
        clear c16
        replace H := bnd H
        obtain ⟨⟨t480, t481⟩, A170, H⟩ := H
        replace H : (if t477 = t480 then (if t478 = t481 then ((filigreelaw04_alive.f kj2).bind fun t482 => (some t482)) else (some false)) else (some false)) = some r := H
        have A17 := zMk A170
        clear A170
        by_cases c18 : t477 = t480
        · rw [if_pos c18] at H
          have c18b0 : (t477 == t480) = true := beq_iff_eq.mpr c18
          have c18b1 : (t477 != t480) = false := bne_eq_false_iff_eq.mpr c18
          clear c18
          by_cases c19 : t478 = t481
          · rw [if_pos c19] at H
            have c19b0 : (t478 == t481) = true := beq_iff_eq.mpr c19
            have c19b1 : (t478 != t481) = false := bne_eq_false_iff_eq.mpr c19
            clear c19
            replace H := bnd H
            obtain ⟨t482, A200, H⟩ := H
            have A20 := zMk A200
            clear A200
            obtain rfl := zOi H
            have hcz21_0 : wc.cell? ⟨gb474, 0, none⟩ = some (.int .i64 a0_0) := (zKc BK474.out 0).trans rfl
            have hcz21_1 : wc.cell? ⟨gb474, 1, none⟩ = some (.slice A0_1 l0_1.length c0_1) := (zKc BK474.out 1).trans rfl
            have hfz21_0 := zKf BK474.out 0
            have hfz21_1 := zKf BK474.out 1
            go_wp2_with (first |  ((with_reducible refine gate_callee (f := 19) rfl ?_); refine goesL_ (some 21) rfl rfl Try.func19 (by kernel_rfl) rfl #[.agg #[.int .i64 a0_0, .slice A0_1 l0_1.length c0_1], .slice A1 l1.length c1] rfl (by (try simp only [zMa, zMc, zMn]); first |  done|  rfl|  (simp only [zLd, zLt]; rfl)) ?_; (with_reducible refine (graph_Weight.calls kj2 a0_0 _ _ l0_1 _ _ l1 t477 t478 _ ?side1 ?side2 ?side3 ?side4 A14.out).mono ?_); (case side1 => repeat (first |  exact (Kd.C_below HR0_1.out HB.out)|  (with_reducible refine zCa ?_ _)|  (with_reducible refine zCn ?_ _)|  (with_reducible refine zCd ?_))); (case side2 => exact HC0_1.out); (case side3 => repeat (first |  exact (Kd.C_below HR1.out HB.out)|  (with_reducible refine zCa ?_ _)|  (with_reducible refine zCn ?_ _)|  (with_reducible refine zCd ?_))); (case side4 => exact HC1.out); rintro e w22 ⟨rfl, hb⟩; refine ⟨_, rfl, ?_⟩; replace BK474 := zMk (zKb (g := gb474) (o := .cells #[.int .i64 a0_0, .slice A0_1 l0_1.length c0_1] 24 (0, 0)) (by (with_reducible repeat (first |  refine zKn ?_ _|  refine zKd ?_|  refine zKa ?_ _)); exact BK474.out) hb); replace HB := zMk (zBt (by exact uT HB.out) hb); (try clear hb); (try clear hb2); (try clear hk); (try clear hi); have hcz23_0 : w22.cell? ⟨gb474, 0, none⟩ = some (.int .i64 a0_0) := (zKc BK474.out 0).trans rfl; have hcz23_1 : w22.cell? ⟨gb474, 1, none⟩ = some (.slice A0_1 l0_1.length c0_1) := (zKc BK474.out 1).trans rfl; have hfz23_0 := zKf BK474.out 0; have hfz23_1 := zKf BK474.out 1)|  ((with_reducible refine gate_callee (f := 12) rfl ?_); refine goesL_ (some 25) rfl rfl Try.func12 (by kernel_rfl) rfl #[.agg #[.int .i64 a0_0, .slice A0_1 l0_1.length c0_1]] rfl (by (try simp only [zMa, zMc, zMn]); first |  done|  rfl|  (simp only [zLd, zLt]; rfl)) ?_; (with_reducible refine (filigreeref04_Right.calls kj2 a0_0 _ _ l0_1 t479 _ ?side1 ?side2 A15.out).mono ?_); (case side1 => repeat (first |  exact (Kd.C_below HR0_1.out HB.out)|  (with_reducible refine zCa ?_ _)|  (with_reducible refine zCn ?_ _)|  (with_reducible refine zCd ?_))); (case side2 => exact HC0_1.out); rintro e w24 ⟨rfl, hb⟩; refine ⟨_, rfl, ?_⟩; replace BK474 := zMk (zKb (g := gb474) (o := .cells #[.int .i64 a0_0, .slice A0_1 l0_1.length c0_1] 24 (0, 0)) (by (with_reducible repeat (first |  refine zKn ?_ _|  refine zKd ?_|  refine zKa ?_ _)); exact BK474.out) hb); replace HB := zMk (zBt (by exact uT HB.out) hb); (try clear hb); (try clear hb2); (try clear hk); (try clear hi); have hcz25_0 : w24.cell? ⟨gb474, 0, none⟩ = some (.int .i64 a0_0) := (zKc BK474.out 0).trans rfl; have hcz25_1 : w24.cell? ⟨gb474, 1, none⟩ = some (.slice A0_1 l0_1.length c0_1) := (zKc BK474.out 1).trans rfl; have hfz25_0 := zKf BK474.out 0; have hfz25_1 := zKf BK474.out 1)|  ((with_reducible refine gate_callee (f := 20) rfl ?_); refine goesL_ (some 39) rfl rfl Try.func20 (by kernel_rfl) rfl #[.agg #[.int .i64 a0_0, .slice A0_1 l0_1.length c0_1], .slice A1 l1.length c1] rfl (by (try simp only [zMa, zMc, zMn]); first |  done|  rfl|  (simp only [zLd, zLt]; rfl)) ?_; (with_reducible refine (filigreeref04_Weight.calls kj2 a0_0 _ _ l0_1 _ _ l1 t480 t481 _ ?side1 ?side2 ?side3 ?side4 A17.out).mono ?_); (case side1 => repeat (first |  exact (Kd.C_below HR0_1.out HB.out)|  (with_reducible refine zCa ?_ _)|  (with_reducible refine zCn ?_ _)|  (with_reducible refine zCd ?_))); (case side2 => exact HC0_1.out); (case side3 => repeat (first |  exact (Kd.C_below HR1.out HB.out)|  (with_reducible refine zCa ?_ _)|  (with_reducible refine zCn ?_ _)|  (with_reducible refine zCd ?_))); (case side4 => exact HC1.out); rintro e w26 ⟨rfl, hb⟩; refine ⟨_, rfl, ?_⟩; replace BK474 := zMk (zKb (g := gb474) (o := .cells #[.int .i64 a0_0, .slice A0_1 l0_1.length c0_1] 24 (0, 0)) (by (with_reducible repeat (first |  refine zKn ?_ _|  refine zKd ?_|  refine zKa ?_ _)); exact BK474.out) hb); replace HB := zMk (zBt (by exact uT HB.out) hb); (try clear hb); (try clear hb2); (try clear hk); (try clear hi))|  (go_at_call 13; (with_reducible refine (filigreelaw04_alive.calls kj2  t482 _ A20.out).mono ?_); rintro e w27 ⟨rfl, hb⟩; replace BK474 := zMk (zKb (g := gb474) (o := .cells #[.int .i64 a0_0, .slice A0_1 l0_1.length c0_1] 24 (0, 0)) (by (with_reducible repeat (first |  refine zKn ?_ _|  refine zKd ?_|  refine zKa ?_ _)); exact BK474.out) hb); replace HB := zMk (zBt (by exact uT HB.out) hb); (try clear hb); (try clear hb2); (try clear hk); (try clear hi)))
            go_ret
            exact ⟨by first | rfl | (simp [errW_none, errW_some] <;> rfl) | (simp [*, errW_none, errW_some] <;> rfl), by exact uT HB.out⟩
          · rw [if_neg c19] at H
            have c19b0 : (t478 == t481) = false := beq_eq_false_iff_ne.mpr c19
            have c19b1 : (t478 != t481) = true := bne_iff_ne.mpr c19
            exact absurd ((zOi H).trans HRT.out) (by decide)
        · rw [if_neg c18] at H
          have c18b0 : (t477 == t480) = false := beq_eq_false_iff_ne.mpr c18
          have c18b1 : (t477 != t480) = true := bne_iff_ne.mpr c18
          exact absurd ((zOi H).trans HRT.out) (by decide)
      · rw [if_neg c16] at H
        have c16b0 : (t479 == 0) = false := beq_eq_false_iff_ne.mpr c16
        have c16b1 : (t479 != 0) = true := bne_iff_ne.mpr c16
        by_cases c40 : t477 = 0
        · rw [if_pos c40] at H
          have c40b0 : (t477 == 0) = true := beq_iff_eq.mpr c40
          have c40b1 : (t477 != 0) = false := bne_eq_false_iff_eq.mpr c40
          clear c40
          by_cases c41 : t478 = 1
          · rw [if_pos c41] at H
            have c41b0 : (t478 == 1) = true := beq_iff_eq.mpr c41
            have c41b1 : (t478 != 1) = false := bne_eq_false_iff_eq.mpr c41
            clear c41
            replace H := bnd H
            obtain ⟨t483, A420, H⟩ := H
            have A42 := zMk A420
            clear A420
            obtain rfl := zOi H
            have hcz43_0 : wc.cell? ⟨gb474, 0, none⟩ = some (.int .i64 a0_0) := (zKc BK474.out 0).trans rfl
            have hcz43_1 : wc.cell? ⟨gb474, 1, none⟩ = some (.slice A0_1 l0_1.length c0_1) := (zKc BK474.out 1).trans rfl
            have hfz43_0 := zKf BK474.out 0
            have hfz43_1 := zKf BK474.out 1
            go_wp2_with (first |  ((with_reducible refine gate_callee (f := 19) rfl ?_); refine goesL_ (some 21) rfl rfl Try.func19 (by kernel_rfl) rfl #[.agg #[.int .i64 a0_0, .slice A0_1 l0_1.length c0_1], .slice A1 l1.length c1] rfl (by (try simp only [zMa, zMc, zMn]); first |  done|  rfl|  (simp only [zLd, zLt]; rfl)) ?_; (with_reducible refine (graph_Weight.calls kj2 a0_0 _ _ l0_1 _ _ l1 t477 t478 _ ?side1 ?side2 ?side3 ?side4 A14.out).mono ?_); (case side1 => repeat (first |  exact (Kd.C_below HR0_1.out HB.out)|  (with_reducible refine zCa ?_ _)|  (with_reducible refine zCn ?_ _)|  (with_reducible refine zCd ?_))); (case side2 => exact HC0_1.out); (case side3 => repeat (first |  exact (Kd.C_below HR1.out HB.out)|  (with_reducible refine zCa ?_ _)|  (with_reducible refine zCn ?_ _)|  (with_reducible refine zCd ?_))); (case side4 => exact HC1.out); rintro e w44 ⟨rfl, hb⟩; refine ⟨_, rfl, ?_⟩; replace BK474 := zMk (zKb (g := gb474) (o := .cells #[.int .i64 a0_0, .slice A0_1 l0_1.length c0_1] 24 (0, 0)) (by (with_reducible repeat (first |  refine zKn ?_ _|  refine zKd ?_|  refine zKa ?_ _)); exact BK474.out) hb); replace HB := zMk (zBt (by exact uT HB.out) hb); (try clear hb); (try clear hb2); (try clear hk); (try clear hi); have hcz45_0 : w44.cell? ⟨gb474, 0, none⟩ = some (.int .i64 a0_0) := (zKc BK474.out 0).trans rfl; have hcz45_1 : w44.cell? ⟨gb474, 1, none⟩ = some (.slice A0_1 l0_1.length c0_1) := (zKc BK474.out 1).trans rfl; have hfz45_0 := zKf BK474.out 0; have hfz45_1 := zKf BK474.out 1)|  ((with_reducible refine gate_callee (f := 12) rfl ?_); refine goesL_ (some 25) rfl rfl Try.func12 (by kernel_rfl) rfl #[.agg #[.int .i64 a0_0, .slice A0_1 l0_1.length c0_1]] rfl (by (try simp only [zMa, zMc, zMn]); first |  done|  rfl|  (simp only [zLd, zLt]; rfl)) ?_; (with_reducible refine (filigreeref04_Right.calls kj2 a0_0 _ _ l0_1 t479 _ ?side1 ?side2 A15.out).mono ?_); (case side1 => repeat (first |  exact (Kd.C_below HR0_1.out HB.out)|  (with_reducible refine zCa ?_ _)|  (with_reducible refine zCn ?_ _)|  (with_reducible refine zCd ?_))); (case side2 => exact HC0_1.out); rintro e w46 ⟨rfl, hb⟩; refine ⟨_, rfl, ?_⟩; replace BK474 := zMk (zKb (g := gb474) (o := .cells #[.int .i64 a0_0, .slice A0_1 l0_1.length c0_1] 24 (0, 0)) (by (with_reducible repeat (first |  refine zKn ?_ _|  refine zKd ?_|  refine zKa ?_ _)); exact BK474.out) hb); replace HB := zMk (zBt (by exact uT HB.out) hb); (try clear hb); (try clear hb2); (try clear hk); (try clear hi))|  (go_at_call 13; (with_reducible refine (filigreelaw04_alive.calls kj2  t483 _ A42.out).mono ?_); rintro e w47 ⟨rfl, hb⟩; replace BK474 := zMk (zKb (g := gb474) (o := .cells #[.int .i64 a0_0, .slice A0_1 l0_1.length c0_1] 24 (0, 0)) (by (with_reducible repeat (first |  refine zKn ?_ _|  refine zKd ?_|  refine zKa ?_ _)); exact BK474.out) hb); replace HB := zMk (zBt (by exact uT HB.out) hb); (try clear hb); (try clear hb2); (try clear hk); (try clear hi)))
            go_ret
            exact ⟨by first | rfl | (simp [errW_none, errW_some] <;> rfl) | (simp [*, errW_none, errW_some] <;> rfl), by exact uT HB.out⟩
          · rw [if_neg c41] at H
            have c41b0 : (t478 == 1) = false := beq_eq_false_iff_ne.mpr c41
            have c41b1 : (t478 != 1) = true := bne_iff_ne.mpr c41
            exact absurd ((zOi H).trans HRT.out) (by decide)
        · rw [if_neg c40] at H
          have c40b0 : (t477 == 0) = false := beq_eq_false_iff_ne.mpr c40
          have c40b1 : (t477 != 0) = true := bne_iff_ne.mpr c40
          exact absurd ((zOi H).trans HRT.out) (by decide)

/-- What the walk leaves: a statement of plain lists and numbers. -/
def filigreelaw04_GraphWeights.Pure : Prop := ∀ (a0_0 : Int) (l0_1 : List A.S36) (l1 : List Int), (Lit.int .i64 a0_0).wf = true → l0_1.length ≤ maxLen → (∀ x ∈ l0_1, (Lit.int .i64 x.f0).wf = true ∧ (Lit.int .i64 x.f1).wf = true ∧ (Lit.int .i64 x.f2).wf = true) → l1.length ≤ maxLen → l1.length * 8 ≤ 140737488351232 → (∀ x ∈ l1, (Lit.int .i64 x).wf = true) → ∃ k, filigreelaw04_GraphWeights.f k a0_0 l0_1 l1 = some true
/- The plain law of GraphWeights. -/
theorem pure_GraphWeights : filigreelaw04_GraphWeights.Pure := by
  intro n E l _ _ _ _ _ _
  obtain ⟨k, hk⟩ : ∃ k : Nat, k = 999999 := ⟨_, rfl⟩
  have al : filigreelaw04_alive.f k = some true := by rw [hk]; exact alive_at1
  refine ⟨k + 1, ?_⟩
  unfold filigreelaw04_GraphWeights.f filigreelaw04_Light.f
  have h4 : wrap64 (4 * 60) = 240 := w64 (by omega) (by omega)
  rw [h4]
  by_cases h1 : n ≤ 60
  · rw [if_pos h1, zOb]
    by_cases h2 : (E.length : Int) ≤ 240
    · rw [if_pos (decide_eq_true h2)]
      simp only [filigreelaw04_GraphWeights.j0, al, zOb]
      by_cases h3 : (l.length : Int) > 500
      · rw [if_pos (decide_eq_true h3)]
      · rw [if_neg (by simpa using h3), Weight_eq k n E l (by omega) (by omega) (by omega), zOb, refRight_eq k n E (by omega), zOb]
        by_cases h : rightI n E = 0
        · rw [if_pos h, if_pos h, refWeight_eq k n E l (by omega) (by omega), zOb, if_pos rfl, if_pos rfl]
        · rw [if_neg h, if_neg h, if_pos rfl, if_pos rfl]
    · rw [if_neg (by simpa using h2)]
      simp only [filigreelaw04_GraphWeights.j0, al, zOb, if_true]
  · rw [if_neg h1, zOb, if_neg (by simp)]
    simp only [filigreelaw04_GraphWeights.j0, al, zOb, if_true]
end Go.Proofs.Yteicpdkembmilaa.A
