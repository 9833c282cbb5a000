/- Lemmas for the statement: the walks of the functions that it reaches, and plain laws. -/
import Derived.Test.YtkiemlbobcklpaaG4
import Derived.Test.YtkiemlbobcklpaaG1
import Derived.Test.YtkiemlbobcklpaaG3
import Derived.Test.YtkiemlbobcklpaaG2
set_option linter.unusedVariables false
set_option linter.unusedSimpArgs false
set_option maxHeartbeats 8000000
set_option maxRecDepth 100000
namespace Go.Proofs.Ytkiemlbobcklpaa.A
open Go Go.RowKit Go.Proofs.YtkiemlbobcklpaaW.PrintWords Go.Proofs.YtkiemlbobcklpaaW.PrintLast Go.Proofs.YtkiemlbobcklpaaW.PrintMore
attribute [local go_sem] max2_int min2_int max_two min_two max_three min_three max_four min_four
open Go.Proofs.YtkiemlbobcklpaaW.PrintWords.Kd renaming R_alloc → zRa, R_drewN → zRn, R_drew → zRd, C_alloc → zCa, C_drewN → zCn, C_drew → zCd, R_mono → zRm, at_int → zAi, R_elder' → zRe, R_lower → zRl, R_new' → zRw, R_lt → zRt, R_below → zRb, R_base → zRz, R_reads' → zRr, R_slice → zRs
open Go.Proofs.YtkiemlbobcklpaaW.PrintWords renaming pw_below_drewN → zBn, below_alloc → zBa, below_drew1 → zBd, below_size → zBs, below_step → zBt, blk_drewN → zKn, blk_drew → zKd, blk_alloc → zKa, blk_below → zKb, blk_cell → zKc, blk_frozen → zKf
open List renaming setIfInBounds_toArray → zSa, set_cons_zero → zSb, set_cons_succ → zSc, length_drop → zLd, length_take → zLt, map_toArray → zMa, map_cons → zMc, map_nil → zMn, length_cons → zLc, length_nil → zLn
open Go.Proofs.YtkiemlbobcklpaaW.PrintWords.Aside0 renaming mk → zMk
open Option renaming bind_eq_some_iff → zBi, bind_some → zOb
open Option.some renaming inj → zOi
open Int renaming toNat_natCast → zTn

def filigreelaw06_alive.f (k : Nat)  : Option (Bool) := (some (([(⟨0, 1, 0⟩ : S43), (⟨0, 2, 0⟩ : S43), (⟨1, 2, 0⟩ : S43), (⟨2, 3, 0⟩ : S43), (⟨2, 4, 0⟩ : S43), (⟨3, 4, 0⟩ : S43)] : List (S43)) : List (S43))).bind fun y287 => ((parts_Components.f k 5 y287).bind fun t291 => (if (t291.length : Int) = 1 then ((parts_Cuts.f k 5 y287).bind fun t294 => ((filigreeref04_Ints.f k t294 (([2] : List Int))).bind fun t300 => (if t300 = true then ((parts_Bridges.f k 5 y287).bind fun t301 => (if (t301.length : Int) = 0 then ((parts_Blocks.f k 5 y287).bind fun t304 => (some ((t304.length : Int) == 2))) else (some false))) else (some false)))) else (some false)))
theorem filigreelaw06_alive.calls (k : Nat)  (r : Bool) (w : World) (h : filigreelaw06_alive.f k  = some r) :
    Calls Try.prog 9 #[] w fun e w' => e = .returned (.bool r) ∧ Below w.heap.size w w' := by
  have hu43 := Try.underlying43
  have hu24 := Try.underlying24
  have HB := zMk (Below.refl w.heap.size w)
  have H : ((some (([(⟨0, 1, 0⟩ : S43), (⟨0, 2, 0⟩ : S43), (⟨1, 2, 0⟩ : S43), (⟨2, 3, 0⟩ : S43), (⟨2, 4, 0⟩ : S43), (⟨3, 4, 0⟩ : S43)] : List (S43)) : List (S43))).bind fun y287 => ((parts_Components.f k 5 y287).bind fun t291 => (if (t291.length : Int) = 1 then ((parts_Cuts.f k 5 y287).bind fun t294 => ((filigreeref04_Ints.f k t294 (([2] : List Int))).bind fun t300 => (if t300 = true then ((parts_Bridges.f k 5 y287).bind fun t301 => (if (t301.length : Int) = 0 then ((parts_Blocks.f k 5 y287).bind fun t304 => (some ((t304.length : Int) == 2))) else (some false))) else (some false)))) else (some false)))) = some r := h
  clear h
  obtain ⟨y287, hy287⟩ : ∃ y_ : List (S43), y_ = (([(⟨0, 1, 0⟩ : S43), (⟨0, 2, 0⟩ : S43), (⟨1, 2, 0⟩ : S43), (⟨2, 3, 0⟩ : S43), (⟨2, 4, 0⟩ : S43), (⟨3, 4, 0⟩ : S43)] : List (S43))) := ⟨_, rfl⟩
  replace H : ((parts_Components.f k 5 y287).bind fun t291 => (if (t291.length : Int) = 1 then ((parts_Cuts.f k 5 y287).bind fun t294 => ((filigreeref04_Ints.f k t294 (([2] : List Int))).bind fun t300 => (if t300 = true then ((parts_Bridges.f k 5 y287).bind fun t301 => (if (t301.length : Int) = 0 then ((parts_Blocks.f k 5 y287).bind fun t304 => (some ((t304.length : Int) == 2))) else (some false))) else (some false)))) else (some false))) = some r := by first | (rw [hy287]; with_reducible exact H) | (have H2_ := bsm H; first | (rw [hy287]; with_reducible exact H2_) | with_reducible exact H2_) | with_reducible exact H | (rw [hy287]; exact H) | exact H
  have Ny287 := zMk hy287
  clear hy287
  replace H := bnd H
  obtain ⟨t291, A10, H⟩ := H
  have A1 := zMk A10
  clear A10
  by_cases c2 : (t291.length : Int) = 1
  · rw [if_pos c2] at H
    have c2b0 : ((t291.length : Int) == 1) = true := beq_iff_eq.mpr c2
    have c2b1 : ((t291.length : Int) != 1) = false := bne_eq_false_iff_eq.mpr c2
    clear c2
    replace H := bnd H
    obtain ⟨t294, A30, H⟩ := H
    have A3 := zMk A30
    clear A30
    obtain ⟨y297, hy297⟩ : ∃ y_ : List Int, y_ = (([2] : List Int)) := ⟨_, rfl⟩
    replace H : ((filigreeref04_Ints.f k t294 y297).bind fun t300 => (if t300 = true then ((parts_Bridges.f k 5 y287).bind fun t301 => (if (t301.length : Int) = 0 then ((parts_Blocks.f k 5 y287).bind fun t304 => (some ((t304.length : Int) == 2))) else (some false))) else (some false))) = some r := by first | (rw [hy297]; with_reducible exact H) | (have H2_ := bsm H; first | (rw [hy297]; with_reducible exact H2_) | with_reducible exact H2_) | with_reducible exact H | (rw [hy297]; exact H) | exact H
    have Ny297 := zMk hy297
    clear hy297
    replace H := bnd H
    obtain ⟨t300, A40, H⟩ := H
    have A4 := zMk A40
    clear A40
    by_cases c5 : t300 = true
    · subst c5
      replace H : ((parts_Bridges.f k 5 y287).bind fun t301 => (if (t301.length : Int) = 0 then ((parts_Blocks.f k 5 y287).bind fun t304 => (some ((t304.length : Int) == 2))) else (some false))) = some r := by rw [if_pos rfl] at H; exact H
      replace H := bnd H
      obtain ⟨t301, A60, H⟩ := H
      have A6 := zMk A60
      clear A60
      by_cases c7 : (t301.length : Int) = 0
      · rw [if_pos c7] at H
        have c7b0 : ((t301.length : Int) == 0) = true := beq_iff_eq.mpr c7
        have c7b1 : ((t301.length : Int) != 0) = false := bne_eq_false_iff_eq.mpr c7
        clear c7
        replace H := bnd H
        obtain ⟨t304, A80, H⟩ := H
        have A8 := zMk A80
        clear A80
        obtain rfl := zOi H
        go_enter Try.func9, Try.ntmps9
        go_wp2_with (first | ((with_reducible refine gate_dst (N := 8) rfl ?_); (try (refine gate_guard (by rfl) ?_; dsimp only)); refine Kd.R_lit k43 _ 43 ?hg (N := 8) ?hd (xs := ([(⟨0, 1, 0⟩ : S43), (⟨0, 2, 0⟩ : S43), (⟨1, 2, 0⟩ : S43), (⟨2, 3, 0⟩ : S43), (⟨2, 4, 0⟩ : S43), (⟨3, 4, 0⟩ : S43)] : List (S43))) (inner := [.int .i64 0, .int .i64 1, .int .i64 0, .int .i64 0, .int .i64 2, .int .i64 0, .int .i64 1, .int .i64 2, .int .i64 0, .int .i64 2, .int .i64 3, .int .i64 0, .int .i64 2, .int .i64 4, .int .i64 0, .int .i64 3, .int .i64 4, .int .i64 0]) (ok := fun _ => True) (okp := fun _ => True) ?hr ?hp (fun _ hk => hk) trivial (Below.refl _ _) (Nat.le_refl _) (by simp) ?_; (case hd => rfl); (case hg => rfl); (case hr => first | (go_simp; done)|(go_simp; rfl)|(go_simp; rw [show ∀ x : Int, IntKind.u32.wrap (IntKind.u8.wrap x) = x % 256 from fun x => (by show (x % 256) % 4294967296 = x % 256; omega)])); (case hp => exact (Reps.c3 (show Kd.M k43 _ _ _ (⟨0, 1, 0⟩ : S43) [.int .i64 0, .int .i64 1, .int .i64 0] from (k43_mkM _ _ _ (⟨0, 1, 0⟩ : S43) )) (Reps.c3 (show Kd.M k43 _ _ _ (⟨0, 2, 0⟩ : S43) [.int .i64 0, .int .i64 2, .int .i64 0] from (k43_mkM _ _ _ (⟨0, 2, 0⟩ : S43) )) (Reps.c3 (show Kd.M k43 _ _ _ (⟨1, 2, 0⟩ : S43) [.int .i64 1, .int .i64 2, .int .i64 0] from (k43_mkM _ _ _ (⟨1, 2, 0⟩ : S43) )) (Reps.c3 (show Kd.M k43 _ _ _ (⟨2, 3, 0⟩ : S43) [.int .i64 2, .int .i64 3, .int .i64 0] from (k43_mkM _ _ _ (⟨2, 3, 0⟩ : S43) )) (Reps.c3 (show Kd.M k43 _ _ _ (⟨2, 4, 0⟩ : S43) [.int .i64 2, .int .i64 4, .int .i64 0] from (k43_mkM _ _ _ (⟨2, 4, 0⟩ : S43) )) (Reps.c3 (show Kd.M k43 _ _ _ (⟨3, 4, 0⟩ : S43) [.int .i64 3, .int .i64 4, .int .i64 0] from (k43_mkM _ _ _ (⟨3, 4, 0⟩ : S43) )) (Reps.none _ _)))))))); intro v288 w9 ho10 hb hg_ hnew_; clear hg_ hnew_; (first |  rw [← Ny287.out] at ho10|  (simp only [Int.reduceToNat] at ho10; rw [← Ny287.out] at ho10)); have HO289 := zMk (zRl ho10 (zBs (by exact uT HB.out))); replace HB := zMk (zBt (by exact uT HB.out) hb); clear hb ho10; obtain ⟨Ao11, co11, eo11⟩ := zRs HO289.out; subst eo11)|((with_reducible refine gate_dst (N := 1) rfl ?_); (try (refine gate_guard (by rfl) ?_; dsimp only)); refine box_event ?hg (N := 1) ?hd (cs := #[.int .i64 0, .slice none 0 0]) (t := 24) ?hr ?_; (case hd => rfl); (case hg => rfl); (case hr => first | (go_simp; done)|(go_simp; rfl)|(go_simp; rw [show ∀ x : Int, IntKind.u32.wrap (IntKind.u8.wrap x) = x % 256 from fun x => (by show (x % 256) % 4294967296 = x % 256; omega)])); intro gb290 hg w12 hbox hb; replace HO289 := zMk (zRb (by exact uR HO289.out) hb); have BK290 := zMk (hbox); have GW290 := zMk ((by rw [hg]; exact (zBs (by exact uT HB.out)) : w.heap.size ≤ gb290)); have GE290 := zMk ((by rw [hg]; exact (zBs (by exact uT HB.out)) : w.heap.size ≤ gb290)); have IGE290 := ownGe GE290.out; replace HB := zMk (zBt (by exact uT HB.out) hb); clear hb hbox hg; have hcz13_0 : w12.cell? ⟨gb290, 0, none⟩ = some (.int .i64 0) := (zKc BK290.out 0).trans rfl; have hcz13_1 : w12.cell? ⟨gb290, 1, none⟩ = some (.slice none 0 0) := (zKc BK290.out 1).trans rfl; have hfz13_0 := zKf BK290.out 0; have hfz13_1 := zKf BK290.out 1)|((with_reducible refine gate_callee (f := 11) rfl ?_); refine goesL_ (some 11) rfl rfl Try.func11 (by kernel_rfl) rfl #[.agg #[.int .i64 5, .slice Ao11 y287.length co11]] rfl (by (try simp only [zMa, zMc, zMn]); first |  done|  rfl|  (simp only [zLd, zLt]; rfl)) ?_; (with_reducible refine (parts_Components.calls k 5 _ _ y287 t291 _ ?side1 ?side2 A1.out).mono ?_); (case side1 => refine (zRr (e := 43) (base := w.heap.size) (ok := fun k_ => True) (n := y287.length) (c := co11) ?_).2.2; exact (by (with_reducible repeat (first |  apply zRa|  apply zRn|  apply zRd)); exact (zRm (Kd.R_far (p := ⟨gb290, 1, none⟩) (Kd.R_far (p := ⟨gb290, 0, none⟩) (Kd.R_types HO289.out BK290.out (by decide)) (fun _ hk => hk.2) (.int .i64 5)) (fun _ hk => hk.2) (.slice Ao11 y287.length co11)) (fun _ h_ => h_.1)))); (case side2 => exact (zRr HO289.out).2.1); rintro e w14 ⟨v292, rfl, ho0, hb⟩; refine ⟨_, rfl, ?_⟩; replace HO289 := zMk (zRb (by (with_reducible repeat (first |  apply zRa|  apply zRn|  apply zRd)); exact (zRm (Kd.R_far (p := ⟨gb290, 1, none⟩) (Kd.R_far (p := ⟨gb290, 0, none⟩) (Kd.R_types HO289.out BK290.out (by decide)) (fun _ hk => hk.2) (.int .i64 5)) (fun _ hk => hk.2) (.slice Ao11 y287.length co11)) (fun _ h_ => h_.1))) hb); have HO293 := zMk (Kd.S_lower ho0 (zBs (by exact uT HB.out))); replace BK290 := zMk (zKb (g := gb290) (o := .cells #[.int .i64 5, .slice Ao11 y287.length co11] 24 (0, 0)) (by (with_reducible repeat (first |  refine zKn ?_ _|  refine zKd ?_|  refine zKa ?_ _)); refine blk_put (cs := #[.int .i64 5, .slice none 0 0]) ?_ 1 _ rfl; (with_reducible repeat (first |  refine zKn ?_ _|  refine zKd ?_|  refine zKa ?_ _)); refine blk_put (cs := #[.int .i64 0, .slice none 0 0]) ?_ 0 _ rfl; (with_reducible repeat (first |  refine zKn ?_ _|  refine zKd ?_|  refine zKa ?_ _)); exact BK290.out) hb); replace HB := zMk (zBt (by exact uT HB.out) hb); obtain ⟨Ao15, co15, eo15⟩ := Kd.S_slice HO293.out; subst eo15; have hcz16_0 : w14.cell? ⟨gb290, 0, none⟩ = some (.int .i64 5) := (zKc BK290.out 0).trans rfl; have hcz16_1 : w14.cell? ⟨gb290, 1, none⟩ = some (.slice Ao11 y287.length co11) := (zKc BK290.out 1).trans rfl; have hfz16_0 := zKf BK290.out 0; have hfz16_1 := zKf BK290.out 1)|(go_at_call 14; (with_reducible refine (parts_Cuts.calls k 5 _ _ y287 t294 _ ?side1 ?side2 A3.out).mono ?_); (case side1 => exact uC (zRr HO289.out).2.2); (case side2 => exact (zRr HO289.out).2.1); rintro e w17 ⟨v295, rfl, ho0, hb⟩; replace HO289 := zMk (zRb (by exact uR HO289.out) hb); replace HO293 := zMk (Kd.S_elder' (by (with_reducible repeat (first |  apply Kd.S_alloc|  apply Kd.S_drewN|  apply Kd.S_drew)); exact HO293.out) (zRz ho0) hb); have HO296 := zMk (zRl ho0 (zBs (by exact uT HB.out))); replace BK290 := zMk (zKb (g := gb290) (o := .cells #[.int .i64 5, .slice Ao11 y287.length co11] 24 (0, 0)) (by (with_reducible repeat (first |  refine zKn ?_ _|  refine zKd ?_|  refine zKa ?_ _)); exact BK290.out) hb); replace HB := zMk (zBt (by exact uT HB.out) hb))|((with_reducible refine gate_dst (N := 17) rfl ?_); (try (refine gate_guard (by rfl) ?_; dsimp only)); refine Kd.R_lit (Kd.int .i64) _ 3 ?hg (N := 17) ?hd (xs := ([2] : List Int)) (inner := [.int .i64 2]) (ok := fun _ => True) (okp := fun _ => True) ?hr ?hp (fun _ hk => hk) trivial (Below.refl _ _) (Nat.le_refl _) (by simp) ?_; (case hd => rfl); (case hg => rfl); (case hr => first | (go_simp; done)|(go_simp; rfl)|(go_simp; rw [show ∀ x : Int, IntKind.u32.wrap (IntKind.u8.wrap x) = x % 256 from fun x => (by show (x % 256) % 4294967296 = x % 256; omega)])); (case hp => exact (Reps.one (show Kd.M (Kd.int .i64) _ _ _ 2 [.int .i64 2] from rfl) (Reps.none _ _))); intro v298 w18 ho19 hb hg_ hnew_; clear hg_ hnew_; (first |  rw [← Ny297.out] at ho19|  (simp only [Int.reduceToNat] at ho19; rw [← Ny297.out] at ho19)); replace HO289 := zMk (zRb (by exact uR HO289.out) hb); replace HO293 := zMk (Kd.S_elder' (by (with_reducible repeat (first |  apply Kd.S_alloc|  apply Kd.S_drewN|  apply Kd.S_drew)); exact HO293.out) (zRz ho19) hb); have HO299 := zMk (zRl (zRw ho19 (zRt (by exact uR HO296.out))) (zBs (by exact uT HB.out))); replace HO296 := zMk (zRe (by exact uR HO296.out) (zRz ho19) hb); replace BK290 := zMk (zKb (g := gb290) (o := .cells #[.int .i64 5, .slice Ao11 y287.length co11] 24 (0, 0)) (by (with_reducible repeat (first |  refine zKn ?_ _|  refine zKd ?_|  refine zKa ?_ _)); exact BK290.out) hb); replace HB := zMk (zBt (by exact uT HB.out) hb); clear hb ho19; obtain ⟨Ao20, co20, eo20⟩ := zRs HO296.out; subst eo20; obtain ⟨Ao21, co21, eo21⟩ := zRs HO299.out; subst eo21)|(go_at_call 16; (with_reducible refine (filigreeref04_Ints.calls k _ _ t294 _ _ y297 true _ ?side1 ?side2 ?side3 ?side4 A4.out).mono ?_); (case side1 => exact uC (zRr HO296.out).2.2); (case side2 => exact (zRr HO296.out).2.1); (case side3 => exact uC (zRr HO299.out).2.2); (case side4 => exact (zRr HO299.out).2.1); rintro e w' ⟨rfl, ⟨nd, rfl⟩⟩; have hcz22_0 : w18.cell? ⟨gb290, 0, none⟩ = some (.int .i64 5) := (zKc BK290.out 0).trans rfl; have hcz22_1 : w18.cell? ⟨gb290, 1, none⟩ = some (.slice Ao11 y287.length co11) := (zKc BK290.out 1).trans rfl; have hfz22_0 := zKf BK290.out 0; have hfz22_1 := zKf BK290.out 1)|(go_at_call 15; (with_reducible refine (parts_Bridges.calls k 5 _ _ y287 t301 _ ?side1 ?side2 A6.out).mono ?_); (case side1 => exact uC (zRr HO289.out).2.2); (case side2 => exact (zRr HO289.out).2.1); rintro e w23 ⟨v302, rfl, ho0, hb⟩; replace HO289 := zMk (zRb (by exact uR HO289.out) hb); replace HO293 := zMk (Kd.S_elder' (by (with_reducible repeat (first |  apply Kd.S_alloc|  apply Kd.S_drewN|  apply Kd.S_drew)); exact HO293.out) (zRz ho0) hb); have HO303 := zMk (zRl (zRw (zRw ho0 (zRt (by exact uR HO296.out))) (zRt (by exact uR HO299.out))) (zBs (by exact uT HB.out))); replace HO296 := zMk (zRe (by exact uR HO296.out) (zRz ho0) hb); replace HO299 := zMk (zRe (by exact uR HO299.out) (zRz ho0) hb); replace BK290 := zMk (zKb (g := gb290) (o := .cells #[.int .i64 5, .slice Ao11 y287.length co11] 24 (0, 0)) (by (with_reducible repeat (first |  refine zKn ?_ _|  refine zKd ?_|  refine zKa ?_ _)); exact BK290.out) hb); replace HB := zMk (zBt (by exact uT HB.out) hb); obtain ⟨Ao24, co24, eo24⟩ := zRs HO303.out; subst eo24; have hcz25_0 : w23.cell? ⟨gb290, 0, none⟩ = some (.int .i64 5) := (zKc BK290.out 0).trans rfl; have hcz25_1 : w23.cell? ⟨gb290, 1, none⟩ = some (.slice Ao11 y287.length co11) := (zKc BK290.out 1).trans rfl; have hfz25_0 := zKf BK290.out 0; have hfz25_1 := zKf BK290.out 1)|(go_at_call 19; (with_reducible refine (parts_Blocks.calls k 5 _ _ y287 t304 _ ?side1 ?side2 A8.out).mono ?_); (case side1 => exact uC (zRr HO289.out).2.2); (case side2 => exact (zRr HO289.out).2.1); rintro e w26 ⟨v305, rfl, ho0, hb⟩; replace HO289 := zMk (zRb (by exact uR HO289.out) hb); have HO306 := zMk (Kd.S_lower (Kd.S_new' (Kd.S_new' (Kd.S_new' (Kd.S_new' ho0 (Kd.S_lt (by (with_reducible repeat (first |  apply Kd.S_alloc|  apply Kd.S_drewN|  apply Kd.S_drew)); exact HO293.out))) (zRt (by exact uR HO296.out))) (zRt (by exact uR HO299.out))) (zRt (by exact uR HO303.out))) (zBs (by exact uT HB.out))); replace HO293 := zMk (Kd.S_elder' (by (with_reducible repeat (first |  apply Kd.S_alloc|  apply Kd.S_drewN|  apply Kd.S_drew)); exact HO293.out) (Kd.S_base ho0) hb); replace HO296 := zMk (zRb (by exact uR HO296.out) hb); replace HO299 := zMk (zRb (by exact uR HO299.out) hb); replace HO303 := zMk (zRb (by exact uR HO303.out) hb); replace BK290 := zMk (zKb (g := gb290) (o := .cells #[.int .i64 5, .slice Ao11 y287.length co11] 24 (0, 0)) (by (with_reducible repeat (first |  refine zKn ?_ _|  refine zKd ?_|  refine zKa ?_ _)); exact BK290.out) hb); replace HB := zMk (zBt (by exact uT HB.out) hb); obtain ⟨Ao27, co27, eo27⟩ := Kd.S_slice HO306.out; subst eo27))
        go_ret
        exact ⟨by first | rfl | (simp [errW_none, errW_some] <;> rfl) | (simp [*, errW_none, errW_some] <;> rfl), by exact uT HB.out⟩
      · rw [if_neg c7] at H
        have c7b0 : ((t301.length : Int) == 0) = false := beq_eq_false_iff_ne.mpr c7
        have c7b1 : ((t301.length : Int) != 0) = true := bne_iff_ne.mpr c7
        have c7b2 : ¬ (t301 = []) := fun h_ => c7 (by rw [h_]; rfl)
        obtain rfl := zOi H
        go_enter Try.func9, Try.ntmps9
        go_wp2_with (first | ((with_reducible refine gate_dst (N := 8) rfl ?_); (try (refine gate_guard (by rfl) ?_; dsimp only)); refine Kd.R_lit k43 _ 43 ?hg (N := 8) ?hd (xs := ([(⟨0, 1, 0⟩ : S43), (⟨0, 2, 0⟩ : S43), (⟨1, 2, 0⟩ : S43), (⟨2, 3, 0⟩ : S43), (⟨2, 4, 0⟩ : S43), (⟨3, 4, 0⟩ : S43)] : List (S43))) (inner := [.int .i64 0, .int .i64 1, .int .i64 0, .int .i64 0, .int .i64 2, .int .i64 0, .int .i64 1, .int .i64 2, .int .i64 0, .int .i64 2, .int .i64 3, .int .i64 0, .int .i64 2, .int .i64 4, .int .i64 0, .int .i64 3, .int .i64 4, .int .i64 0]) (ok := fun _ => True) (okp := fun _ => True) ?hr ?hp (fun _ hk => hk) trivial (Below.refl _ _) (Nat.le_refl _) (by simp) ?_; (case hd => rfl); (case hg => rfl); (case hr => first | (go_simp; done)|(go_simp; rfl)|(go_simp; rw [show ∀ x : Int, IntKind.u32.wrap (IntKind.u8.wrap x) = x % 256 from fun x => (by show (x % 256) % 4294967296 = x % 256; omega)])); (case hp => exact (Reps.c3 (show Kd.M k43 _ _ _ (⟨0, 1, 0⟩ : S43) [.int .i64 0, .int .i64 1, .int .i64 0] from (k43_mkM _ _ _ (⟨0, 1, 0⟩ : S43) )) (Reps.c3 (show Kd.M k43 _ _ _ (⟨0, 2, 0⟩ : S43) [.int .i64 0, .int .i64 2, .int .i64 0] from (k43_mkM _ _ _ (⟨0, 2, 0⟩ : S43) )) (Reps.c3 (show Kd.M k43 _ _ _ (⟨1, 2, 0⟩ : S43) [.int .i64 1, .int .i64 2, .int .i64 0] from (k43_mkM _ _ _ (⟨1, 2, 0⟩ : S43) )) (Reps.c3 (show Kd.M k43 _ _ _ (⟨2, 3, 0⟩ : S43) [.int .i64 2, .int .i64 3, .int .i64 0] from (k43_mkM _ _ _ (⟨2, 3, 0⟩ : S43) )) (Reps.c3 (show Kd.M k43 _ _ _ (⟨2, 4, 0⟩ : S43) [.int .i64 2, .int .i64 4, .int .i64 0] from (k43_mkM _ _ _ (⟨2, 4, 0⟩ : S43) )) (Reps.c3 (show Kd.M k43 _ _ _ (⟨3, 4, 0⟩ : S43) [.int .i64 3, .int .i64 4, .int .i64 0] from (k43_mkM _ _ _ (⟨3, 4, 0⟩ : S43) )) (Reps.none _ _)))))))); intro v288 w28 ho29 hb hg_ hnew_; clear hg_ hnew_; (first |  rw [← Ny287.out] at ho29|  (simp only [Int.reduceToNat] at ho29; rw [← Ny287.out] at ho29)); have HO289 := zMk (zRl ho29 (zBs (by exact uT HB.out))); replace HB := zMk (zBt (by exact uT HB.out) hb); clear hb ho29; obtain ⟨Ao30, co30, eo30⟩ := zRs HO289.out; subst eo30)|((with_reducible refine gate_dst (N := 1) rfl ?_); (try (refine gate_guard (by rfl) ?_; dsimp only)); refine box_event ?hg (N := 1) ?hd (cs := #[.int .i64 0, .slice none 0 0]) (t := 24) ?hr ?_; (case hd => rfl); (case hg => rfl); (case hr => first | (go_simp; done)|(go_simp; rfl)|(go_simp; rw [show ∀ x : Int, IntKind.u32.wrap (IntKind.u8.wrap x) = x % 256 from fun x => (by show (x % 256) % 4294967296 = x % 256; omega)])); intro gb290 hg w31 hbox hb; replace HO289 := zMk (zRb (by exact uR HO289.out) hb); have BK290 := zMk (hbox); have GW290 := zMk ((by rw [hg]; exact (zBs (by exact uT HB.out)) : w.heap.size ≤ gb290)); have GE290 := zMk ((by rw [hg]; exact (zBs (by exact uT HB.out)) : w.heap.size ≤ gb290)); have IGE290 := ownGe GE290.out; replace HB := zMk (zBt (by exact uT HB.out) hb); clear hb hbox hg; have hcz32_0 : w31.cell? ⟨gb290, 0, none⟩ = some (.int .i64 0) := (zKc BK290.out 0).trans rfl; have hcz32_1 : w31.cell? ⟨gb290, 1, none⟩ = some (.slice none 0 0) := (zKc BK290.out 1).trans rfl; have hfz32_0 := zKf BK290.out 0; have hfz32_1 := zKf BK290.out 1)|((with_reducible refine gate_callee (f := 11) rfl ?_); refine goesL_ (some 11) rfl rfl Try.func11 (by kernel_rfl) rfl #[.agg #[.int .i64 5, .slice Ao30 y287.length co30]] rfl (by (try simp only [zMa, zMc, zMn]); first |  done|  rfl|  (simp only [zLd, zLt]; rfl)) ?_; (with_reducible refine (parts_Components.calls k 5 _ _ y287 t291 _ ?side1 ?side2 A1.out).mono ?_); (case side1 => refine (zRr (e := 43) (base := w.heap.size) (ok := fun k_ => True) (n := y287.length) (c := co30) ?_).2.2; exact (by (with_reducible repeat (first |  apply zRa|  apply zRn|  apply zRd)); exact (zRm (Kd.R_far (p := ⟨gb290, 1, none⟩) (Kd.R_far (p := ⟨gb290, 0, none⟩) (Kd.R_types HO289.out BK290.out (by decide)) (fun _ hk => hk.2) (.int .i64 5)) (fun _ hk => hk.2) (.slice Ao30 y287.length co30)) (fun _ h_ => h_.1)))); (case side2 => exact (zRr HO289.out).2.1); rintro e w33 ⟨v292, rfl, ho0, hb⟩; refine ⟨_, rfl, ?_⟩; replace HO289 := zMk (zRb (by (with_reducible repeat (first |  apply zRa|  apply zRn|  apply zRd)); exact (zRm (Kd.R_far (p := ⟨gb290, 1, none⟩) (Kd.R_far (p := ⟨gb290, 0, none⟩) (Kd.R_types HO289.out BK290.out (by decide)) (fun _ hk => hk.2) (.int .i64 5)) (fun _ hk => hk.2) (.slice Ao30 y287.length co30)) (fun _ h_ => h_.1))) hb); have HO293 := zMk (Kd.S_lower ho0 (zBs (by exact uT HB.out))); replace BK290 := zMk (zKb (g := gb290) (o := .cells #[.int .i64 5, .slice Ao30 y287.length co30] 24 (0, 0)) (by (with_reducible repeat (first |  refine zKn ?_ _|  refine zKd ?_|  refine zKa ?_ _)); refine blk_put (cs := #[.int .i64 5, .slice none 0 0]) ?_ 1 _ rfl; (with_reducible repeat (first |  refine zKn ?_ _|  refine zKd ?_|  refine zKa ?_ _)); refine blk_put (cs := #[.int .i64 0, .slice none 0 0]) ?_ 0 _ rfl; (with_reducible repeat (first |  refine zKn ?_ _|  refine zKd ?_|  refine zKa ?_ _)); exact BK290.out) hb); replace HB := zMk (zBt (by exact uT HB.out) hb); obtain ⟨Ao34, co34, eo34⟩ := Kd.S_slice HO293.out; subst eo34; have hcz35_0 : w33.cell? ⟨gb290, 0, none⟩ = some (.int .i64 5) := (zKc BK290.out 0).trans rfl; have hcz35_1 : w33.cell? ⟨gb290, 1, none⟩ = some (.slice Ao30 y287.length co30) := (zKc BK290.out 1).trans rfl; have hfz35_0 := zKf BK290.out 0; have hfz35_1 := zKf BK290.out 1)|(go_at_call 14; (with_reducible refine (parts_Cuts.calls k 5 _ _ y287 t294 _ ?side1 ?side2 A3.out).mono ?_); (case side1 => exact uC (zRr HO289.out).2.2); (case side2 => exact (zRr HO289.out).2.1); rintro e w36 ⟨v295, rfl, ho0, hb⟩; replace HO289 := zMk (zRb (by exact uR HO289.out) hb); replace HO293 := zMk (Kd.S_elder' (by (with_reducible repeat (first |  apply Kd.S_alloc|  apply Kd.S_drewN|  apply Kd.S_drew)); exact HO293.out) (zRz ho0) hb); have HO296 := zMk (zRl ho0 (zBs (by exact uT HB.out))); replace BK290 := zMk (zKb (g := gb290) (o := .cells #[.int .i64 5, .slice Ao30 y287.length co30] 24 (0, 0)) (by (with_reducible repeat (first |  refine zKn ?_ _|  refine zKd ?_|  refine zKa ?_ _)); exact BK290.out) hb); replace HB := zMk (zBt (by exact uT HB.out) hb))|((with_reducible refine gate_dst (N := 17) rfl ?_); (try (refine gate_guard (by rfl) ?_; dsimp only)); refine Kd.R_lit (Kd.int .i64) _ 3 ?hg (N := 17) ?hd (xs := ([2] : List Int)) (inner := [.int .i64 2]) (ok := fun _ => True) (okp := fun _ => True) ?hr ?hp (fun _ hk => hk) trivial (Below.refl _ _) (Nat.le_refl _) (by simp) ?_; (case hd => rfl); (case hg => rfl); (case hr => first | (go_simp; done)|(go_simp; rfl)|(go_simp; rw [show ∀ x : Int, IntKind.u32.wrap (IntKind.u8.wrap x) = x % 256 from fun x => (by show (x % 256) % 4294967296 = x % 256; omega)])); (case hp => exact (Reps.one (show Kd.M (Kd.int .i64) _ _ _ 2 [.int .i64 2] from rfl) (Reps.none _ _))); intro v298 w37 ho38 hb hg_ hnew_; clear hg_ hnew_; (first |  rw [← Ny297.out] at ho38|  (simp only [Int.reduceToNat] at ho38; rw [← Ny297.out] at ho38)); replace HO289 := zMk (zRb (by exact uR HO289.out) hb); replace HO293 := zMk (Kd.S_elder' (by (with_reducible repeat (first |  apply Kd.S_alloc|  apply Kd.S_drewN|  apply Kd.S_drew)); exact HO293.out) (zRz ho38) hb); have HO299 := zMk (zRl (zRw ho38 (zRt (by exact uR HO296.out))) (zBs (by exact uT HB.out))); replace HO296 := zMk (zRe (by exact uR HO296.out) (zRz ho38) hb); replace BK290 := zMk (zKb (g := gb290) (o := .cells #[.int .i64 5, .slice Ao30 y287.length co30] 24 (0, 0)) (by (with_reducible repeat (first |  refine zKn ?_ _|  refine zKd ?_|  refine zKa ?_ _)); exact BK290.out) hb); replace HB := zMk (zBt (by exact uT HB.out) hb); clear hb ho38; obtain ⟨Ao39, co39, eo39⟩ := zRs HO296.out; subst eo39; obtain ⟨Ao40, co40, eo40⟩ := zRs HO299.out; subst eo40)|(go_at_call 16; (with_reducible refine (filigreeref04_Ints.calls k _ _ t294 _ _ y297 true _ ?side1 ?side2 ?side3 ?side4 A4.out).mono ?_); (case side1 => exact uC (zRr HO296.out).2.2); (case side2 => exact (zRr HO296.out).2.1); (case side3 => exact uC (zRr HO299.out).2.2); (case side4 => exact (zRr HO299.out).2.1); rintro e w' ⟨rfl, ⟨nd, rfl⟩⟩; have hcz41_0 : w37.cell? ⟨gb290, 0, none⟩ = some (.int .i64 5) := (zKc BK290.out 0).trans rfl; have hcz41_1 : w37.cell? ⟨gb290, 1, none⟩ = some (.slice Ao30 y287.length co30) := (zKc BK290.out 1).trans rfl; have hfz41_0 := zKf BK290.out 0; have hfz41_1 := zKf BK290.out 1)|(go_at_call 15; (with_reducible refine (parts_Bridges.calls k 5 _ _ y287 t301 _ ?side1 ?side2 A6.out).mono ?_); (case side1 => exact uC (zRr HO289.out).2.2); (case side2 => exact (zRr HO289.out).2.1); rintro e w42 ⟨v302, rfl, ho0, hb⟩; replace HO289 := zMk (zRb (by exact uR HO289.out) hb); replace HO293 := zMk (Kd.S_elder' (by (with_reducible repeat (first |  apply Kd.S_alloc|  apply Kd.S_drewN|  apply Kd.S_drew)); exact HO293.out) (zRz ho0) hb); have HO303 := zMk (zRl (zRw (zRw ho0 (zRt (by exact uR HO296.out))) (zRt (by exact uR HO299.out))) (zBs (by exact uT HB.out))); replace HO296 := zMk (zRe (by exact uR HO296.out) (zRz ho0) hb); replace HO299 := zMk (zRe (by exact uR HO299.out) (zRz ho0) hb); replace BK290 := zMk (zKb (g := gb290) (o := .cells #[.int .i64 5, .slice Ao30 y287.length co30] 24 (0, 0)) (by (with_reducible repeat (first |  refine zKn ?_ _|  refine zKd ?_|  refine zKa ?_ _)); exact BK290.out) hb); replace HB := zMk (zBt (by exact uT HB.out) hb); obtain ⟨Ao43, co43, eo43⟩ := zRs HO303.out; subst eo43))
        go_ret
        exact ⟨by first | rfl | (simp [errW_none, errW_some] <;> rfl) | (simp [*, errW_none, errW_some] <;> rfl), by exact uT HB.out⟩
    · replace c5 := Bool.eq_false_iff.mpr c5
      subst c5
      replace H : (some false) = some r := by rw [if_neg (show ¬ (false = true) by decide)] at H; exact H
      obtain rfl := zOi H
      go_enter Try.func9, Try.ntmps9
      go_wp2_with (first | ((with_reducible refine gate_dst (N := 8) rfl ?_); (try (refine gate_guard (by rfl) ?_; dsimp only)); refine Kd.R_lit k43 _ 43 ?hg (N := 8) ?hd (xs := ([(⟨0, 1, 0⟩ : S43), (⟨0, 2, 0⟩ : S43), (⟨1, 2, 0⟩ : S43), (⟨2, 3, 0⟩ : S43), (⟨2, 4, 0⟩ : S43), (⟨3, 4, 0⟩ : S43)] : List (S43))) (inner := [.int .i64 0, .int .i64 1, .int .i64 0, .int .i64 0, .int .i64 2, .int .i64 0, .int .i64 1, .int .i64 2, .int .i64 0, .int .i64 2, .int .i64 3, .int .i64 0, .int .i64 2, .int .i64 4, .int .i64 0, .int .i64 3, .int .i64 4, .int .i64 0]) (ok := fun _ => True) (okp := fun _ => True) ?hr ?hp (fun _ hk => hk) trivial (Below.refl _ _) (Nat.le_refl _) (by simp) ?_; (case hd => rfl); (case hg => rfl); (case hr => first | (go_simp; done)|(go_simp; rfl)|(go_simp; rw [show ∀ x : Int, IntKind.u32.wrap (IntKind.u8.wrap x) = x % 256 from fun x => (by show (x % 256) % 4294967296 = x % 256; omega)])); (case hp => exact (Reps.c3 (show Kd.M k43 _ _ _ (⟨0, 1, 0⟩ : S43) [.int .i64 0, .int .i64 1, .int .i64 0] from (k43_mkM _ _ _ (⟨0, 1, 0⟩ : S43) )) (Reps.c3 (show Kd.M k43 _ _ _ (⟨0, 2, 0⟩ : S43) [.int .i64 0, .int .i64 2, .int .i64 0] from (k43_mkM _ _ _ (⟨0, 2, 0⟩ : S43) )) (Reps.c3 (show Kd.M k43 _ _ _ (⟨1, 2, 0⟩ : S43) [.int .i64 1, .int .i64 2, .int .i64 0] from (k43_mkM _ _ _ (⟨1, 2, 0⟩ : S43) )) (Reps.c3 (show Kd.M k43 _ _ _ (⟨2, 3, 0⟩ : S43) [.int .i64 2, .int .i64 3, .int .i64 0] from (k43_mkM _ _ _ (⟨2, 3, 0⟩ : S43) )) (Reps.c3 (show Kd.M k43 _ _ _ (⟨2, 4, 0⟩ : S43) [.int .i64 2, .int .i64 4, .int .i64 0] from (k43_mkM _ _ _ (⟨2, 4, 0⟩ : S43) )) (Reps.c3 (show Kd.M k43 _ _ _ (⟨3, 4, 0⟩ : S43) [.int .i64 3, .int .i64 4, .int .i64 0] from (k43_mkM _ _ _ (⟨3, 4, 0⟩ : S43) )) (Reps.none _ _)))))))); intro v288 w44 ho45 hb hg_ hnew_; clear hg_ hnew_; (first |  rw [← Ny287.out] at ho45|  (simp only [Int.reduceToNat] at ho45; rw [← Ny287.out] at ho45)); have HO289 := zMk (zRl ho45 (zBs (by exact uT HB.out))); replace HB := zMk (zBt (by exact uT HB.out) hb); clear hb ho45; obtain ⟨Ao46, co46, eo46⟩ := zRs HO289.out; subst eo46)|((with_reducible refine gate_dst (N := 1) rfl ?_); (try (refine gate_guard (by rfl) ?_; dsimp only)); refine box_event ?hg (N := 1) ?hd (cs := #[.int .i64 0, .slice none 0 0]) (t := 24) ?hr ?_; (case hd => rfl); (case hg => rfl); (case hr => first | (go_simp; done)|(go_simp; rfl)|(go_simp; rw [show ∀ x : Int, IntKind.u32.wrap (IntKind.u8.wrap x) = x % 256 from fun x => (by show (x % 256) % 4294967296 = x % 256; omega)])); intro gb290 hg w47 hbox hb; replace HO289 := zMk (zRb (by exact uR HO289.out) hb); have BK290 := zMk (hbox); have GW290 := zMk ((by rw [hg]; exact (zBs (by exact uT HB.out)) : w.heap.size ≤ gb290)); have GE290 := zMk ((by rw [hg]; exact (zBs (by exact uT HB.out)) : w.heap.size ≤ gb290)); have IGE290 := ownGe GE290.out; replace HB := zMk (zBt (by exact uT HB.out) hb); clear hb hbox hg; have hcz48_0 : w47.cell? ⟨gb290, 0, none⟩ = some (.int .i64 0) := (zKc BK290.out 0).trans rfl; have hcz48_1 : w47.cell? ⟨gb290, 1, none⟩ = some (.slice none 0 0) := (zKc BK290.out 1).trans rfl; have hfz48_0 := zKf BK290.out 0; have hfz48_1 := zKf BK290.out 1)|((with_reducible refine gate_callee (f := 11) rfl ?_); refine goesL_ (some 11) rfl rfl Try.func11 (by kernel_rfl) rfl #[.agg #[.int .i64 5, .slice Ao46 y287.length co46]] rfl (by (try simp only [zMa, zMc, zMn]); first |  done|  rfl|  (simp only [zLd, zLt]; rfl)) ?_; (with_reducible refine (parts_Components.calls k 5 _ _ y287 t291 _ ?side1 ?side2 A1.out).mono ?_); (case side1 => refine (zRr (e := 43) (base := w.heap.size) (ok := fun k_ => True) (n := y287.length) (c := co46) ?_).2.2; exact (by (with_reducible repeat (first |  apply zRa|  apply zRn|  apply zRd)); exact (zRm (Kd.R_far (p := ⟨gb290, 1, none⟩) (Kd.R_far (p := ⟨gb290, 0, none⟩) (Kd.R_types HO289.out BK290.out (by decide)) (fun _ hk => hk.2) (.int .i64 5)) (fun _ hk => hk.2) (.slice Ao46 y287.length co46)) (fun _ h_ => h_.1)))); (case side2 => exact (zRr HO289.out).2.1); rintro e w49 ⟨v292, rfl, ho0, hb⟩; refine ⟨_, rfl, ?_⟩; replace HO289 := zMk (zRb (by (with_reducible repeat (first |  apply zRa|  apply zRn|  apply zRd)); exact (zRm (Kd.R_far (p := ⟨gb290, 1, none⟩) (Kd.R_far (p := ⟨gb290, 0, none⟩) (Kd.R_types HO289.out BK290.out (by decide)) (fun _ hk => hk.2) (.int .i64 5)) (fun _ hk => hk.2) (.slice Ao46 y287.length co46)) (fun _ h_ => h_.1))) hb); have HO293 := zMk (Kd.S_lower ho0 (zBs (by exact uT HB.out))); replace BK290 := zMk (zKb (g := gb290) (o := .cells #[.int .i64 5, .slice Ao46 y287.length co46] 24 (0, 0)) (by (with_reducible repeat (first |  refine zKn ?_ _|  refine zKd ?_|  refine zKa ?_ _)); refine blk_put (cs := #[.int .i64 5, .slice none 0 0]) ?_ 1 _ rfl; (with_reducible repeat (first |  refine zKn ?_ _|  refine zKd ?_|  refine zKa ?_ _)); refine blk_put (cs := #[.int .i64 0, .slice none 0 0]) ?_ 0 _ rfl; (with_reducible repeat (first |  refine zKn ?_ _|  refine zKd ?_|  refine zKa ?_ _)); exact BK290.out) hb); replace HB := zMk (zBt (by exact uT HB.out) hb); obtain ⟨Ao50, co50, eo50⟩ := Kd.S_slice HO293.out; subst eo50; have hcz51_0 : w49.cell? ⟨gb290, 0, none⟩ = some (.int .i64 5) := (zKc BK290.out 0).trans rfl; have hcz51_1 : w49.cell? ⟨gb290, 1, none⟩ = some (.slice Ao46 y287.length co46) := (zKc BK290.out 1).trans rfl; have hfz51_0 := zKf BK290.out 0; have hfz51_1 := zKf BK290.out 1)|(go_at_call 14; (with_reducible refine (parts_Cuts.calls k 5 _ _ y287 t294 _ ?side1 ?side2 A3.out).mono ?_); (case side1 => exact uC (zRr HO289.out).2.2); (case side2 => exact (zRr HO289.out).2.1); rintro e w52 ⟨v295, rfl, ho0, hb⟩; replace HO289 := zMk (zRb (by exact uR HO289.out) hb); replace HO293 := zMk (Kd.S_elder' (by (with_reducible repeat (first |  apply Kd.S_alloc|  apply Kd.S_drewN|  apply Kd.S_drew)); exact HO293.out) (zRz ho0) hb); have HO296 := zMk (zRl ho0 (zBs (by exact uT HB.out))); replace BK290 := zMk (zKb (g := gb290) (o := .cells #[.int .i64 5, .slice Ao46 y287.length co46] 24 (0, 0)) (by (with_reducible repeat (first |  refine zKn ?_ _|  refine zKd ?_|  refine zKa ?_ _)); exact BK290.out) hb); replace HB := zMk (zBt (by exact uT HB.out) hb))|((with_reducible refine gate_dst (N := 17) rfl ?_); (try (refine gate_guard (by rfl) ?_; dsimp only)); refine Kd.R_lit (Kd.int .i64) _ 3 ?hg (N := 17) ?hd (xs := ([2] : List Int)) (inner := [.int .i64 2]) (ok := fun _ => True) (okp := fun _ => True) ?hr ?hp (fun _ hk => hk) trivial (Below.refl _ _) (Nat.le_refl _) (by simp) ?_; (case hd => rfl); (case hg => rfl); (case hr => first | (go_simp; done)|(go_simp; rfl)|(go_simp; rw [show ∀ x : Int, IntKind.u32.wrap (IntKind.u8.wrap x) = x % 256 from fun x => (by show (x % 256) % 4294967296 = x % 256; omega)])); (case hp => exact (Reps.one (show Kd.M (Kd.int .i64) _ _ _ 2 [.int .i64 2] from rfl) (Reps.none _ _))); intro v298 w53 ho54 hb hg_ hnew_; clear hg_ hnew_; (first |  rw [← Ny297.out] at ho54|  (simp only [Int.reduceToNat] at ho54; rw [← Ny297.out] at ho54)); replace HO289 := zMk (zRb (by exact uR HO289.out) hb); replace HO293 := zMk (Kd.S_elder' (by (with_reducible repeat (first |  apply Kd.S_alloc|  apply Kd.S_drewN|  apply Kd.S_drew)); exact HO293.out) (zRz ho54) hb); have HO299 := zMk (zRl (zRw ho54 (zRt (by exact uR HO296.out))) (zBs (by exact uT HB.out))); replace HO296 := zMk (zRe (by exact uR HO296.out) (zRz ho54) hb); replace BK290 := zMk (zKb (g := gb290) (o := .cells #[.int .i64 5, .slice Ao46 y287.length co46] 24 (0, 0)) (by (with_reducible repeat (first |  refine zKn ?_ _|  refine zKd ?_|  refine zKa ?_ _)); exact BK290.out) hb); replace HB := zMk (zBt (by exact uT HB.out) hb); clear hb ho54; obtain ⟨Ao55, co55, eo55⟩ := zRs HO296.out; subst eo55; obtain ⟨Ao56, co56, eo56⟩ := zRs HO299.out; subst eo56)|(go_at_call 16; (with_reducible refine (filigreeref04_Ints.calls k _ _ t294 _ _ y297 false _ ?side1 ?side2 ?side3 ?side4 A4.out).mono ?_); (case side1 => exact uC (zRr HO296.out).2.2); (case side2 => exact (zRr HO296.out).2.1); (case side3 => exact uC (zRr HO299.out).2.2); (case side4 => exact (zRr HO299.out).2.1); rintro e w' ⟨rfl, ⟨nd, rfl⟩⟩))
      go_ret
      exact ⟨by first | rfl | (simp [errW_none, errW_some] <;> rfl) | (simp [*, errW_none, errW_some] <;> rfl), by exact uT HB.out⟩
  · rw [if_neg c2] at H
    have c2b0 : ((t291.length : Int) == 1) = false := beq_eq_false_iff_ne.mpr c2
    have c2b1 : ((t291.length : Int) != 1) = true := bne_iff_ne.mpr c2
    obtain rfl := zOi H
    go_enter Try.func9, Try.ntmps9
    go_wp2_with (first | ((with_reducible refine gate_dst (N := 8) rfl ?_); (try (refine gate_guard (by rfl) ?_; dsimp only)); refine Kd.R_lit k43 _ 43 ?hg (N := 8) ?hd (xs := ([(⟨0, 1, 0⟩ : S43), (⟨0, 2, 0⟩ : S43), (⟨1, 2, 0⟩ : S43), (⟨2, 3, 0⟩ : S43), (⟨2, 4, 0⟩ : S43), (⟨3, 4, 0⟩ : S43)] : List (S43))) (inner := [.int .i64 0, .int .i64 1, .int .i64 0, .int .i64 0, .int .i64 2, .int .i64 0, .int .i64 1, .int .i64 2, .int .i64 0, .int .i64 2, .int .i64 3, .int .i64 0, .int .i64 2, .int .i64 4, .int .i64 0, .int .i64 3, .int .i64 4, .int .i64 0]) (ok := fun _ => True) (okp := fun _ => True) ?hr ?hp (fun _ hk => hk) trivial (Below.refl _ _) (Nat.le_refl _) (by simp) ?_; (case hd => rfl); (case hg => rfl); (case hr => first | (go_simp; done)|(go_simp; rfl)|(go_simp; rw [show ∀ x : Int, IntKind.u32.wrap (IntKind.u8.wrap x) = x % 256 from fun x => (by show (x % 256) % 4294967296 = x % 256; omega)])); (case hp => exact (Reps.c3 (show Kd.M k43 _ _ _ (⟨0, 1, 0⟩ : S43) [.int .i64 0, .int .i64 1, .int .i64 0] from (k43_mkM _ _ _ (⟨0, 1, 0⟩ : S43) )) (Reps.c3 (show Kd.M k43 _ _ _ (⟨0, 2, 0⟩ : S43) [.int .i64 0, .int .i64 2, .int .i64 0] from (k43_mkM _ _ _ (⟨0, 2, 0⟩ : S43) )) (Reps.c3 (show Kd.M k43 _ _ _ (⟨1, 2, 0⟩ : S43) [.int .i64 1, .int .i64 2, .int .i64 0] from (k43_mkM _ _ _ (⟨1, 2, 0⟩ : S43) )) (Reps.c3 (show Kd.M k43 _ _ _ (⟨2, 3, 0⟩ : S43) [.int .i64 2, .int .i64 3, .int .i64 0] from (k43_mkM _ _ _ (⟨2, 3, 0⟩ : S43) )) (Reps.c3 (show Kd.M k43 _ _ _ (⟨2, 4, 0⟩ : S43) [.int .i64 2, .int .i64 4, .int .i64 0] from (k43_mkM _ _ _ (⟨2, 4, 0⟩ : S43) )) (Reps.c3 (show Kd.M k43 _ _ _ (⟨3, 4, 0⟩ : S43) [.int .i64 3, .int .i64 4, .int .i64 0] from (k43_mkM _ _ _ (⟨3, 4, 0⟩ : S43) )) (Reps.none _ _)))))))); intro v288 w57 ho58 hb hg_ hnew_; clear hg_ hnew_; (first |  rw [← Ny287.out] at ho58|  (simp only [Int.reduceToNat] at ho58; rw [← Ny287.out] at ho58)); have HO289 := zMk (zRl ho58 (zBs (by exact uT HB.out))); replace HB := zMk (zBt (by exact uT HB.out) hb); clear hb ho58; obtain ⟨Ao59, co59, eo59⟩ := zRs HO289.out; subst eo59)|((with_reducible refine gate_dst (N := 1) rfl ?_); (try (refine gate_guard (by rfl) ?_; dsimp only)); refine box_event ?hg (N := 1) ?hd (cs := #[.int .i64 0, .slice none 0 0]) (t := 24) ?hr ?_; (case hd => rfl); (case hg => rfl); (case hr => first | (go_simp; done)|(go_simp; rfl)|(go_simp; rw [show ∀ x : Int, IntKind.u32.wrap (IntKind.u8.wrap x) = x % 256 from fun x => (by show (x % 256) % 4294967296 = x % 256; omega)])); intro gb290 hg w60 hbox hb; replace HO289 := zMk (zRb (by exact uR HO289.out) hb); have BK290 := zMk (hbox); have GW290 := zMk ((by rw [hg]; exact (zBs (by exact uT HB.out)) : w.heap.size ≤ gb290)); have GE290 := zMk ((by rw [hg]; exact (zBs (by exact uT HB.out)) : w.heap.size ≤ gb290)); have IGE290 := ownGe GE290.out; replace HB := zMk (zBt (by exact uT HB.out) hb); clear hb hbox hg; have hcz61_0 : w60.cell? ⟨gb290, 0, none⟩ = some (.int .i64 0) := (zKc BK290.out 0).trans rfl; have hcz61_1 : w60.cell? ⟨gb290, 1, none⟩ = some (.slice none 0 0) := (zKc BK290.out 1).trans rfl; have hfz61_0 := zKf BK290.out 0; have hfz61_1 := zKf BK290.out 1)|((with_reducible refine gate_callee (f := 11) rfl ?_); refine goesL_ (some 11) rfl rfl Try.func11 (by kernel_rfl) rfl #[.agg #[.int .i64 5, .slice Ao59 y287.length co59]] rfl (by (try simp only [zMa, zMc, zMn]); first |  done|  rfl|  (simp only [zLd, zLt]; rfl)) ?_; (with_reducible refine (parts_Components.calls k 5 _ _ y287 t291 _ ?side1 ?side2 A1.out).mono ?_); (case side1 => refine (zRr (e := 43) (base := w.heap.size) (ok := fun k_ => True) (n := y287.length) (c := co59) ?_).2.2; exact (by (with_reducible repeat (first |  apply zRa|  apply zRn|  apply zRd)); exact (zRm (Kd.R_far (p := ⟨gb290, 1, none⟩) (Kd.R_far (p := ⟨gb290, 0, none⟩) (Kd.R_types HO289.out BK290.out (by decide)) (fun _ hk => hk.2) (.int .i64 5)) (fun _ hk => hk.2) (.slice Ao59 y287.length co59)) (fun _ h_ => h_.1)))); (case side2 => exact (zRr HO289.out).2.1); rintro e w62 ⟨v292, rfl, ho0, hb⟩; refine ⟨_, rfl, ?_⟩; replace HO289 := zMk (zRb (by (with_reducible repeat (first |  apply zRa|  apply zRn|  apply zRd)); exact (zRm (Kd.R_far (p := ⟨gb290, 1, none⟩) (Kd.R_far (p := ⟨gb290, 0, none⟩) (Kd.R_types HO289.out BK290.out (by decide)) (fun _ hk => hk.2) (.int .i64 5)) (fun _ hk => hk.2) (.slice Ao59 y287.length co59)) (fun _ h_ => h_.1))) hb); have HO293 := zMk (Kd.S_lower ho0 (zBs (by exact uT HB.out))); replace BK290 := zMk (zKb (g := gb290) (o := .cells #[.int .i64 5, .slice Ao59 y287.length co59] 24 (0, 0)) (by (with_reducible repeat (first |  refine zKn ?_ _|  refine zKd ?_|  refine zKa ?_ _)); refine blk_put (cs := #[.int .i64 5, .slice none 0 0]) ?_ 1 _ rfl; (with_reducible repeat (first |  refine zKn ?_ _|  refine zKd ?_|  refine zKa ?_ _)); refine blk_put (cs := #[.int .i64 0, .slice none 0 0]) ?_ 0 _ rfl; (with_reducible repeat (first |  refine zKn ?_ _|  refine zKd ?_|  refine zKa ?_ _)); exact BK290.out) hb); replace HB := zMk (zBt (by exact uT HB.out) hb); obtain ⟨Ao63, co63, eo63⟩ := Kd.S_slice HO293.out; subst eo63))
    go_ret
    exact ⟨by first | rfl | (simp [errW_none, errW_some] <;> rfl) | (simp [*, errW_none, errW_some] <;> rfl), by exact uT HB.out⟩

theorem alive_at (k : Nat) : filigreelaw06_alive.f (k + 200) = some true := by kernel_rfl
theorem alive_ev : Ev (fun k => filigreelaw06_alive.f k) true := ⟨200, fun k hk => by
  obtain ⟨m, rfl⟩ : ∃ m, k = m + 200 := ⟨k - 200, by omega⟩
  exact alive_at m⟩

def filigreelaw04_Light.f (a0_0 : Int) (l0_1 : List (S43)) (a1 : Int) : Option (Bool) := if a0_0 ≤ a1 then (some (decide ((l0_1.length : Int) ≤ (wrap64 (4 * a1))))) else (some false)
theorem filigreelaw04_Light.calls (a0_0 : Int) (A0_1 : Option Addr) (c0_1 : Nat) (l0_1 : List (S43)) (a1 : Int) (r : Bool) (w : World) (hr0_1 : Kd.C k43 w A0_1 l0_1.length l0_1) (hc0_1 : l0_1.length ≤ c0_1) (h : filigreelaw04_Light.f a0_0 l0_1 a1 = some r) :
    Calls Try.prog 8 #[.agg #[.int .i64 a0_0, .slice A0_1 l0_1.length c0_1], .int .i64 a1] w fun e w' => e = .returned (.bool r) ∧ Below w.heap.size w w' := by
  have hu24 := Try.underlying24
  have HR0_1 := zMk hr0_1
  have HC0_1 := zMk hc0_1
  clear hr0_1 hc0_1
  have HB := zMk (Below.refl w.heap.size w)
  have H : (if a0_0 ≤ a1 then (some (decide ((l0_1.length : Int) ≤ (wrap64 (4 * a1))))) else (some false)) = some r := h
  clear h
  by_cases c3 : a0_0 ≤ a1
  · rw [if_pos c3] at H
    have c3b0 : decide (a0_0 ≤ a1) = true := decide_eq_true c3
    clear c3
    obtain rfl := zOi H
    go_enter Try.func8, Try.ntmps8
    go_wp2_with (first | ((with_reducible refine gate_dst (N := 2) rfl ?_); (try (refine gate_guard (by rfl) ?_; dsimp only)); refine box_event ?hg (N := 2) ?hd (cs := #[.int .i64 a0_0, .slice A0_1 l0_1.length c0_1]) (t := 24) ?hr ?_; (case hd => rfl); (case hg => rfl); (case hr => first | (go_simp; done)|(go_simp; rfl)|(go_simp; rw [show ∀ x : Int, IntKind.u32.wrap (IntKind.u8.wrap x) = x % 256 from fun x => (by show (x % 256) % 4294967296 = x % 256; omega)])); intro gb101 hg w4 hbox hb; have BK101 := zMk (hbox); have GW101 := zMk ((by rw [hg]; exact (zBs (by exact uT HB.out)) : w.heap.size ≤ gb101)); have GE101 := zMk ((by rw [hg]; exact (zBs (by exact uT HB.out)) : w.heap.size ≤ gb101)); have IGE101 := ownGe GE101.out; replace HB := zMk (zBt (by exact uT HB.out) hb); clear hb hbox hg; have hcz5_0 : w4.cell? ⟨gb101, 0, none⟩ = some (.int .i64 a0_0) := (zKc BK101.out 0).trans rfl; have hcz5_1 : w4.cell? ⟨gb101, 1, none⟩ = some (.slice A0_1 l0_1.length c0_1) := (zKc BK101.out 1).trans rfl; have hfz5_0 := zKf BK101.out 0; have hfz5_1 := zKf BK101.out 1))
    go_ret
    exact ⟨by first | rfl | (simp [errW_none, errW_some] <;> rfl) | (simp [*, errW_none, errW_some] <;> rfl), by exact uT HB.out⟩
  · rw [if_neg c3] at H
    have c3b0 : decide (a0_0 ≤ a1) = false := decide_eq_false c3
    clear c3
    obtain rfl := zOi H
    go_enter Try.func8, Try.ntmps8
    go_wp2_with (first | ((with_reducible refine gate_dst (N := 2) rfl ?_); (try (refine gate_guard (by rfl) ?_; dsimp only)); refine box_event ?hg (N := 2) ?hd (cs := #[.int .i64 a0_0, .slice A0_1 l0_1.length c0_1]) (t := 24) ?hr ?_; (case hd => rfl); (case hg => rfl); (case hr => first | (go_simp; done)|(go_simp; rfl)|(go_simp; rw [show ∀ x : Int, IntKind.u32.wrap (IntKind.u8.wrap x) = x % 256 from fun x => (by show (x % 256) % 4294967296 = x % 256; omega)])); intro gb101 hg w6 hbox hb; have BK101 := zMk (hbox); have GW101 := zMk ((by rw [hg]; exact (zBs (by exact uT HB.out)) : w.heap.size ≤ gb101)); have GE101 := zMk ((by rw [hg]; exact (zBs (by exact uT HB.out)) : w.heap.size ≤ gb101)); have IGE101 := ownGe GE101.out; replace HB := zMk (zBt (by exact uT HB.out) hb); clear hb hbox hg; have hcz7_0 : w6.cell? ⟨gb101, 0, none⟩ = some (.int .i64 a0_0) := (zKc BK101.out 0).trans rfl; have hcz7_1 : w6.cell? ⟨gb101, 1, none⟩ = some (.slice A0_1 l0_1.length c0_1) := (zKc BK101.out 1).trans rfl; have hfz7_0 := zKf BK101.out 0; have hfz7_1 := zKf BK101.out 1))
    go_ret
    exact ⟨by first | rfl | (simp [errW_none, errW_some] <;> rfl) | (simp [*, errW_none, errW_some] <;> rfl), by exact uT HB.out⟩


def filigreeref04_Lists.l0 : Nat → List (List Int) → List (List Int) → Int → Option (Bool)
  | 0, _, _, _ => none
  | k + 1, x0, x1, x5 => if x5 < (x0.length : Int) then (if 0 ≤ x5 then (if x5 < (x1.length : Int) then ((filigreeref04_Ints.f k (rd_L4 x0 x5) (rd_L4 x1 x5)).bind fun t374 => (if t374 = true then (filigreeref04_Lists.l0 k x0 x1 (wrap64 (x5 + 1))) else (some false))) else (none)) else (none)) else (some true)
def filigreeref04_Lists.f (k : Nat) (l0 : List (List Int)) (l1 : List (List Int)) : Option (Bool) := if (l0.length : Int) = (l1.length : Int) then (filigreeref04_Lists.l0 k l0 l1 0) else (some false)
theorem filigreeref04_Lists.calls (k : Nat) (A0 : Option Addr) (c0 : Nat) (l0 : List (List Int)) (A1 : Option Addr) (c1 : Nat) (l1 : List (List Int)) (r : Bool) (w : World) (hr0 : Kd.C (Kd.slice 3 (Kd.int .i64)) w A0 l0.length l0) (hc0 : l0.length ≤ c0) (hr1 : Kd.C (Kd.slice 3 (Kd.int .i64)) w A1 l1.length l1) (hc1 : l1.length ≤ c1) (h : filigreeref04_Lists.f k l0 l1 = some r) :
    Calls Try.prog 12 #[.slice A0 l0.length c0, .slice A1 l1.length c1] w fun e w' => e = .returned (.bool r) ∧ Drawn0 w w' := by
  have HR0 := zMk hr0
  have HC0 := zMk hc0
  clear hr0 hc0
  have HR1 := zMk hr1
  have HC1 := zMk hc1
  clear hr1 hc1
  have H : (if (l0.length : Int) = (l1.length : Int) then (filigreeref04_Lists.l0 k l0 l1 0) else (some false)) = some r := h
  clear h
  by_cases c3 : (l0.length : Int) = (l1.length : Int)
  · rw [if_pos c3] at H
    have c3b0 : ((l0.length : Int) == (l1.length : Int)) = true := beq_iff_eq.mpr c3
    have c3b1 : ((l0.length : Int) != (l1.length : Int)) = false := bne_eq_false_iff_eq.mpr c3
    have c3b2 : (l0.length == l1.length) = true := by first | simpa using c3 | (simp at c3 ⊢; omega)
    clear c3
    have H' := zMk H
    clear H
    go_enter Try.func12, Try.ntmps12
    go_wp2
    repeat (go_quiet (fail); try go_wp2)
    go_loopg [5] k (fun kq v5 w' => ∃ (x5_1 : Int), v5 = .int .i64 x5_1 ∧ Aside0 (filigreeref04_Lists.l0 kq l0 l1 x5_1 = some r) ∧ Aside0 (kq ≤ k) ∧ Drawn0 w w')
    case atStart => exact ⟨(0), (by first | rfl | (simp; done) | (simp [*]; done)), H', ⟨Nat.le_refl _⟩, by repeat (first | exact Drawn0.refl _ | apply Drawn0.step)⟩
    clear H'
    obtain ⟨x5_1, rfl, HA, HK1, ⟨m1, rfl⟩⟩ := hrel
    rcases gk with _ | k1
    · exact absurd HA.out (by simp [filigreeref04_Lists.l0])
    have H := HA.out
    clear HA
    simp only [filigreeref04_Lists.l0] at H
    by_cases c4 : x5_1 < (l0.length : Int)
    · rw [if_pos c4] at H
      have c4b0 : decide (x5_1 < (l0.length : Int)) = true := decide_eq_true c4
      clear c4
      by_cases c5 : 0 ≤ x5_1
      rotate_left
      · rw [if_neg c5] at H; exact absurd H (by simp)
      rw [if_pos c5] at H
      have c5b0 : decide (0 ≤ x5_1) = true := decide_eq_true c5
      clear c5
      by_cases c6 : x5_1 < (l1.length : Int)
      rotate_left
      · rw [if_neg c6] at H; exact absurd H (by simp)
      rw [if_pos c6] at H
      have c6b0 : decide (x5_1 < (l1.length : Int)) = true := decide_eq_true c6
      clear c6
      replace H := bnd H
      obtain ⟨t374, A70, H⟩ := H
      have A7 := zMk A70
      clear A70
      by_cases c8 : t374 = true
      · subst c8
        replace H : (filigreeref04_Lists.l0 k1 l0 l1 (wrap64 (x5_1 + 1))) = some r := by rw [if_pos rfl] at H; exact H
        have H' := zMk H
        clear H
        have p372 : 0 ≤ (x5_1 : Int) := of_decide_eq_true (by assumption)
        have q372 : x5_1 < (l0.length : Int) := of_decide_eq_true (by assumption)
        obtain ⟨ad372, A372_0, c372_0, e372, hx372_0, hl372_0, hi372_0⟩ := at_L4 HR0.out x5_1 p372 q372
        cases e372
        have HR372_0 := zMk hi372_0
        have HC372_0 := zMk hl372_0
        clear hi372_0 hl372_0
        replace p372 := eq_true p372
        replace q372 := eq_true q372
        have p373 : 0 ≤ (x5_1 : Int) := of_decide_eq_true (by assumption)
        have q373 : x5_1 < (l1.length : Int) := of_decide_eq_true (by assumption)
        obtain ⟨ad373, A373_0, c373_0, e373, hx373_0, hl373_0, hi373_0⟩ := at_L4 HR1.out x5_1 p373 q373
        cases e373
        have HR373_0 := zMk hi373_0
        have HC373_0 := zMk hl373_0
        clear hi373_0 hl373_0
        replace p373 := eq_true p373
        replace q373 := eq_true q373
        go_wp2_with (first | (go_at_call 16; (with_reducible refine (filigreeref04_Ints.calls k1 _ _ (rd_L4 l0 x5_1) _ _ (rd_L4 l1 x5_1) true _ ?side1 ?side2 ?side3 ?side4 A7.out).mono ?_); (case side1 => repeat (first | exact HR372_0.out | (with_reducible refine zCa ?_ _) | (with_reducible refine zCn ?_ _) | (with_reducible refine zCd ?_))); (case side2 => exact HC372_0.out); (case side3 => repeat (first | exact HR373_0.out | (with_reducible refine zCa ?_ _) | (with_reducible refine zCn ?_ _) | (with_reducible refine zCd ?_))); (case side4 => exact HC373_0.out); rintro e w' ⟨rfl, ⟨nd, rfl⟩⟩; (try first | exact ⟨rfl, _, World.drewN_drewN _ _ _⟩ | exact ⟨rfl, _, Eq.trans (World.drewN_drewN _ _ _) (congrArg (World.drewN _) (Nat.add_assoc _ _ _))⟩)))
        repeat (go_quiet (first | (go_at_call 16; (with_reducible refine (filigreeref04_Ints.calls k1 _ _ (rd_L4 l0 x5_1) _ _ (rd_L4 l1 x5_1) true _ ?side1 ?side2 ?side3 ?side4 A7.out).mono ?_); (case side1 => repeat (first | exact HR372_0.out | (with_reducible refine zCa ?_ _) | (with_reducible refine zCn ?_ _) | (with_reducible refine zCd ?_))); (case side2 => exact HC372_0.out); (case side3 => repeat (first | exact HR373_0.out | (with_reducible refine zCa ?_ _) | (with_reducible refine zCn ?_ _) | (with_reducible refine zCd ?_))); (case side4 => exact HC373_0.out); rintro e w' ⟨rfl, ⟨nd, rfl⟩⟩; (try first | exact ⟨rfl, _, World.drewN_drewN _ _ _⟩ | exact ⟨rfl, _, Eq.trans (World.drewN_drewN _ _ _) (congrArg (World.drewN _) (Nat.add_assoc _ _ _))⟩))); try go_wp2_with (first | (go_at_call 16; (with_reducible refine (filigreeref04_Ints.calls k1 _ _ (rd_L4 l0 x5_1) _ _ (rd_L4 l1 x5_1) true _ ?side1 ?side2 ?side3 ?side4 A7.out).mono ?_); (case side1 => repeat (first | exact HR372_0.out | (with_reducible refine zCa ?_ _) | (with_reducible refine zCn ?_ _) | (with_reducible refine zCd ?_))); (case side2 => exact HC372_0.out); (case side3 => repeat (first | exact HR373_0.out | (with_reducible refine zCa ?_ _) | (with_reducible refine zCn ?_ _) | (with_reducible refine zCd ?_))); (case side4 => exact HC373_0.out); rintro e w' ⟨rfl, ⟨nd, rfl⟩⟩; (try first | exact ⟨rfl, _, World.drewN_drewN _ _ _⟩ | exact ⟨rfl, _, Eq.trans (World.drewN_drewN _ _ _) (congrArg (World.drewN _) (Nat.add_assoc _ _ _))⟩))))
        go_roundg k1
        case measure => have := HK1.out; omega
        case rel => exact ⟨(wrap64 (x5_1 + 1)), (by first | rfl | (simp; done) | (simp [*]; done)), H', ⟨by have := HK1.out; omega⟩, by repeat (first | exact Drawn0.refl _ | apply Drawn0.step)⟩
      · replace c8 := Bool.eq_false_iff.mpr c8
        subst c8
        replace H : (some false) = some r := by rw [if_neg (show ¬ (false = true) by decide)] at H; exact H
        obtain rfl := zOi H
        have p372 : 0 ≤ (x5_1 : Int) := of_decide_eq_true (by assumption)
        have q372 : x5_1 < (l0.length : Int) := of_decide_eq_true (by assumption)
        obtain ⟨ad372, A372_0, c372_0, e372, hx372_0, hl372_0, hi372_0⟩ := at_L4 HR0.out x5_1 p372 q372
        cases e372
        have HR372_0 := zMk hi372_0
        have HC372_0 := zMk hl372_0
        clear hi372_0 hl372_0
        replace p372 := eq_true p372
        replace q372 := eq_true q372
        have p373 : 0 ≤ (x5_1 : Int) := of_decide_eq_true (by assumption)
        have q373 : x5_1 < (l1.length : Int) := of_decide_eq_true (by assumption)
        obtain ⟨ad373, A373_0, c373_0, e373, hx373_0, hl373_0, hi373_0⟩ := at_L4 HR1.out x5_1 p373 q373
        cases e373
        have HR373_0 := zMk hi373_0
        have HC373_0 := zMk hl373_0
        clear hi373_0 hl373_0
        replace p373 := eq_true p373
        replace q373 := eq_true q373
        go_wp2_with (first | (go_at_call 16; (with_reducible refine (filigreeref04_Ints.calls k1 _ _ (rd_L4 l0 x5_1) _ _ (rd_L4 l1 x5_1) false _ ?side1 ?side2 ?side3 ?side4 A7.out).mono ?_); (case side1 => repeat (first | exact HR372_0.out | (with_reducible refine zCa ?_ _) | (with_reducible refine zCn ?_ _) | (with_reducible refine zCd ?_))); (case side2 => exact HC372_0.out); (case side3 => repeat (first | exact HR373_0.out | (with_reducible refine zCa ?_ _) | (with_reducible refine zCn ?_ _) | (with_reducible refine zCd ?_))); (case side4 => exact HC373_0.out); rintro e w' ⟨rfl, ⟨nd, rfl⟩⟩; (try first | exact ⟨rfl, _, World.drewN_drewN _ _ _⟩ | exact ⟨rfl, _, Eq.trans (World.drewN_drewN _ _ _) (congrArg (World.drewN _) (Nat.add_assoc _ _ _))⟩)))
        repeat (go_quiet (first | (go_at_call 16; (with_reducible refine (filigreeref04_Ints.calls k1 _ _ (rd_L4 l0 x5_1) _ _ (rd_L4 l1 x5_1) false _ ?side1 ?side2 ?side3 ?side4 A7.out).mono ?_); (case side1 => repeat (first | exact HR372_0.out | (with_reducible refine zCa ?_ _) | (with_reducible refine zCn ?_ _) | (with_reducible refine zCd ?_))); (case side2 => exact HC372_0.out); (case side3 => repeat (first | exact HR373_0.out | (with_reducible refine zCa ?_ _) | (with_reducible refine zCn ?_ _) | (with_reducible refine zCd ?_))); (case side4 => exact HC373_0.out); rintro e w' ⟨rfl, ⟨nd, rfl⟩⟩; (try first | exact ⟨rfl, _, World.drewN_drewN _ _ _⟩ | exact ⟨rfl, _, Eq.trans (World.drewN_drewN _ _ _) (congrArg (World.drewN _) (Nat.add_assoc _ _ _))⟩))); try go_wp2_with (first | (go_at_call 16; (with_reducible refine (filigreeref04_Ints.calls k1 _ _ (rd_L4 l0 x5_1) _ _ (rd_L4 l1 x5_1) false _ ?side1 ?side2 ?side3 ?side4 A7.out).mono ?_); (case side1 => repeat (first | exact HR372_0.out | (with_reducible refine zCa ?_ _) | (with_reducible refine zCn ?_ _) | (with_reducible refine zCd ?_))); (case side2 => exact HC372_0.out); (case side3 => repeat (first | exact HR373_0.out | (with_reducible refine zCa ?_ _) | (with_reducible refine zCn ?_ _) | (with_reducible refine zCd ?_))); (case side4 => exact HC373_0.out); rintro e w' ⟨rfl, ⟨nd, rfl⟩⟩; (try first | exact ⟨rfl, _, World.drewN_drewN _ _ _⟩ | exact ⟨rfl, _, Eq.trans (World.drewN_drewN _ _ _) (congrArg (World.drewN _) (Nat.add_assoc _ _ _))⟩))))
        go_ret
        exact ⟨by first | rfl | (simp; done) | (simp [*]; done), by repeat (first | exact Drawn0.refl _ | apply Drawn0.step)⟩
    · rw [if_neg c4] at H
      have c4b0 : decide (x5_1 < (l0.length : Int)) = false := decide_eq_false c4
      clear c4
      obtain rfl := zOi H
      go_wp2
      repeat (go_quiet (fail); try go_wp2)
      go_ret
      exact ⟨by first | rfl | (simp; done) | (simp [*]; done), by repeat (first | exact Drawn0.refl _ | apply Drawn0.step)⟩
  · rw [if_neg c3] at H
    have c3b0 : ((l0.length : Int) == (l1.length : Int)) = false := beq_eq_false_iff_ne.mpr c3
    have c3b1 : ((l0.length : Int) != (l1.length : Int)) = true := bne_iff_ne.mpr c3
    have c3b2 : (l0.length == l1.length) = false := by first | simpa using c3 | (simp at c3 ⊢; omega)
    obtain rfl := zOi H
    go_enter Try.func12, Try.ntmps12
    go_wp2
    repeat (go_quiet (fail); try go_wp2)
    go_ret
    exact ⟨by first | rfl | (simp; done) | (simp [*]; done), by repeat (first | exact Drawn0.refl _ | apply Drawn0.step)⟩

def upE : List S43 → Prop
  | a :: b :: l => ordE a b = -1 ∧ upE (b :: l)
  | _ => True
theorem ordE_trans {a b c : S43} (h1 : ordE a b = -1) (h2 : ordE b c = -1) : ordE a c = -1 := by
  unfold ordE at *
  repeat' split at h1
  all_goals repeat' split at h2
  all_goals repeat' split
  all_goals first | rfl | omega
theorem right_iff (n : Int) (l : List S43) : rightI n l = 0 ↔ sizesI n l.length = 0 ∧ (∀ e ∈ l, aloneI n e = 0 ∧ e.f0 ≤ e.f1) ∧ upE l := by
  have key : ∀ (l : List S43) (p : Option S43), rgt n p l = 0 ↔ (∀ e ∈ l, aloneI n e = 0 ∧ e.f0 ≤ e.f1) ∧ (match p with | none => upE l | some p => upE (p :: l)) := by
    intro l
    induction l with
    | nil => intro p; cases p <;> simp [rgt, upE]
    | cons e l ih =>
      intro p
      unfold rgt
      by_cases h0 : aloneI n e = 0
      · rw [if_neg (not_not_intro h0)]
        by_cases h1 : e.f0 > e.f1
        · rw [if_pos h1]
          constructor
          · intro h; omega
          · intro h; have := (h.1 e (by simp)).2; omega
        · rw [if_neg h1]
          cases p with
          | none =>
            simp only [ih, List.mem_cons, forall_eq_or_imp]
            constructor
            · intro h; exact ⟨⟨⟨h0, by omega⟩, h.1⟩, h.2⟩
            · intro h; exact ⟨h.1.2, h.2⟩
          | some p =>
            simp only [List.mem_cons, forall_eq_or_imp, upE]
            rcases ordE_cases p e with h2 | h2 | h2
            · rw [if_neg (by omega), if_neg (by omega), ih]
              constructor
              · intro h; exact ⟨⟨⟨h0, by omega⟩, h.1⟩, h2, h.2⟩
              · intro h; exact ⟨h.1.2, h.2.2⟩
            · rw [if_pos h2]
              constructor
              · intro h; omega
              · intro h; have := h.2.1; omega
            · rw [if_neg (by omega), if_pos h2]
              constructor
              · intro h; omega
              · intro h; have := h.2.1; omega
      · rw [if_pos h0]
        constructor
        · intro h; exact absurd h h0
        · intro h; exact absurd (h.1 e (by simp)).1 h0
  unfold rightI
  by_cases h : sizesI n l.length = 0
  · rw [if_pos h, key l none]
    exact ⟨fun x => ⟨h, x⟩, fun x => x.2⟩
  · rw [if_neg h]
    exact ⟨fun x => absurd x h, fun x => absurd x.1 h⟩
theorem alone_ends {n : Int} {e : S43} (h : aloneI n e = 0) : 0 ≤ e.f0 ∧ e.f0 < n ∧ 0 ≤ e.f1 ∧ e.f1 < n ∧ e.f0 ≠ e.f1 := by
  unfold aloneI at h
  repeat' split at h
  all_goals first | (exfalso; omega) | (refine ⟨?_, ?_, ?_, ?_, ?_⟩ <;> omega)
theorem up_pair : ∀ {l : List S43}, upE l → l.Pairwise (fun a b => ordE a b = -1)
  | [], _ => List.Pairwise.nil
  | [a], _ => List.pairwise_singleton _ _
  | a :: b :: l, h => by
    have ih := up_pair h.2
    rw [List.pairwise_cons]
    refine ⟨fun c hc => ?_, ih⟩
    rcases List.mem_cons.1 hc with rfl | hc
    · exact h.1
    · exact ordE_trans h.1 (List.rel_of_pairwise_cons ih hc)
structure Rt (N : Nat) (E : List S43) : Prop where
  N1 : N ≤ 1048576
  E1 : E.length ≤ 4194304
  ends : Ends N E
  lt : ∀ e ∈ E, e.f0 < e.f1
  up : E.Pairwise (fun a b => ordE a b = -1)
theorem Rt.ne {N : Nat} {E : List S43} (h : Rt N E) : ∀ e ∈ E, e.f0 ≠ e.f1 := fun e he => by have := h.lt e he; omega
theorem right_of {n : Int} {E : List S43} (h : rightI n E = 0) : ∃ N : Nat, n = (N : Int) ∧ Rt N E := by
  obtain ⟨h1, h2, h3⟩ := (right_iff n E).1 h
  have hs : 0 ≤ n ∧ n ≤ 1048576 ∧ (E.length : Int) ≤ 4194304 := by
    unfold sizesI at h1
    repeat' split at h1
    all_goals omega
  obtain ⟨N, rfl⟩ := Int.eq_ofNat_of_zero_le hs.1
  refine ⟨N, rfl, by omega, by omega, fun e he => ?_, fun e he => ?_, up_pair h3⟩
  · obtain ⟨a, b, c, d, -⟩ := alone_ends (h2 e he).1
    exact ⟨a, b, c, d⟩
  · obtain ⟨a, b, c, d, f⟩ := alone_ends (h2 e he).1
    have := (h2 e he).2
    omega
theorem Right_ev (n : Int) (E : List S43) : Ev (fun k => graph_Right.f k n E) (rightI n E) := ⟨E.length + 4, fun k hk => Right_eq k n E hk⟩
theorem refRight_ev (n : Int) (E : List S43) : Ev (fun k => filigreeref04_Right.f k n E) (rightI n E) := ⟨2 * E.length + 3, fun k hk => refRight_eq k n E hk⟩
theorem light_eq (n : Int) (E : List S43) (a : Int) (h0 : 0 ≤ a) (h1 : a ≤ 1000000) : filigreelaw04_Light.f n E a = some (decide (n ≤ a ∧ (E.length : Int) ≤ 4 * a)) := by
  unfold filigreelaw04_Light.f
  rw [w64 (by omega) (by omega)]
  by_cases h : n ≤ a
  · rw [if_pos h]; congr 1; rw [decide_eq_decide]; exact ⟨fun x => ⟨h, x⟩, fun x => x.2⟩
  · rw [if_neg h]; congr 1; symm; rw [decide_eq_false_iff_not]; exact fun x => h x.1
theorem Ints_l0 (l : List Int) (hm : l.length ≤ 1000000000) (d : Nat) : ∀ (i : Nat), l.length - i = d → i ≤ l.length → Ev (fun k => filigreeref04_Ints.l0 k l l i) true := by
  induction d with
  | zero =>
    intro i hd hi
    refine Ev.step (fun k => ?_) (Ev.now _)
    simp only [filigreeref04_Ints.l0]
    rw [if_neg (by omega)]
  | succ d ih =>
    intro i hd hi
    refine Ev.step (fun k => ?_) (ih (i + 1) (by omega) (by omega))
    simp only [filigreeref04_Ints.l0, if_true]
    rw [if_pos (by omega), if_pos (by omega), if_pos (by omega), w64n i (by omega)]
theorem Ints_ev (l : List Int) (hm : l.length ≤ 1000000000) : Ev (fun k => filigreeref04_Ints.f k l l) true := by
  refine Ev.congr (fun k => ?_) (Ints_l0 l hm l.length 0 rfl (Nat.zero_le _))
  unfold filigreeref04_Ints.f
  rw [if_pos rfl]; rfl
theorem rdL4_mem (l : List (List Int)) (i : Nat) (h : i < l.length) : rd_L4 l (i : Int) ∈ l := by
  unfold rd_L4
  rw [zTn, List.getD_eq_getElem?_getD, List.getElem?_eq_getElem h]
  exact List.getElem_mem h
theorem Lists_l0 (l : List (List Int)) (hl : ∀ x ∈ l, x.length ≤ 1000000000) (hm : l.length ≤ 1000000000) (d : Nat) : ∀ (i : Nat), l.length - i = d → i ≤ l.length → Ev (fun k => filigreeref04_Lists.l0 k l l i) true := by
  induction d with
  | zero =>
    intro i hd hi
    refine Ev.step (fun k => ?_) (Ev.now _)
    simp only [filigreeref04_Lists.l0]
    rw [if_neg (by omega)]
  | succ d ih =>
    intro i hd hi
    have h1 := Ints_ev (rd_L4 l (i : Int)) (hl _ (rdL4_mem l i (by omega)))
    refine Ev.step (fun k => ?_) (Ev.bind h1 (f := fun k t => if t = true then filigreeref04_Lists.l0 k l l (wrap64 ((i : Int) + 1)) else some false) (Ev.congr (fun k => ?_) (ih (i + 1) (by omega) (by omega))))
    · simp only [filigreeref04_Lists.l0]
      rw [if_pos (by omega), if_pos (by omega), if_pos (by omega)]
    · rw [if_pos rfl, w64n i (by omega)]
theorem Lists_ev (l : List (List Int)) (hl : ∀ x ∈ l, x.length ≤ 1000000000) (hm : l.length ≤ 1000000000) : Ev (fun k => filigreeref04_Lists.f k l l) true := by
  refine Ev.congr (fun k => ?_) (Lists_l0 l hl hm l.length 0 rfl (Nat.zero_le _))
  unfold filigreeref04_Lists.f
  rw [if_pos rfl]; rfl

def filigreelaw06_PartsComponents.f (k : Nat) (a0_0 : Int) (l0_1 : List (S43)) : Option (Bool) := (filigreelaw04_Light.f a0_0 l0_1 40).bind fun t471 => (if t471 = true then ((filigreeref04_Right.f k a0_0 l0_1).bind fun t473 => (if t473 = 0 then ((parts_Components.f k a0_0 l0_1).bind fun t478 => ((filigreeref06_Components.f k a0_0 l0_1).bind fun t481 => ((filigreeref04_Lists.f k t478 t481).bind fun t484 => (if t484 = true then ((filigreelaw06_alive.f k).bind fun t485 => (some t485)) else (some false))))) else ((parts_Components.f k a0_0 l0_1).bind fun t474 => (if (t474.length : Int) = 0 then ((filigreelaw06_alive.f k).bind fun t477 => (some t477)) else (some false))))) else ((filigreelaw06_alive.f k).bind fun t472 => (some t472)))
def filigreelaw06_PartsComponents.T5 : Bool × List (List Nat × List Nat) := (true, [([], []), ([0], [0]), ([], []), ([2, 1], [2]), ([1, 3, 3], [1, 3]), ([4, 4], [4]), ([5, 5], [5]), ([5, 6], [5, 6]), ([7, 6, 0, 1, 2, 3, 4, 5, 6, 7], [7])])
def filigreelaw06_PartsComponents.B5 : List Nat := [0, 1, 0, 7, 15, 31, 63, 127, 255]
theorem filigreelaw06_PartsComponents.tab5 : rtab .any (opsOf Try.f3 5) = filigreelaw06_PartsComponents.T5 := by kernel_rfl
theorem filigreelaw06_PartsComponents.bits5 : waitsOk filigreelaw06_PartsComponents.T5.2 filigreelaw06_PartsComponents.B5 = true := by kernel_rfl
theorem filigreelaw06_PartsComponents.calls (k : Nat) (a0_0 : Int) (A0_1 : Option Addr) (c0_1 : Nat) (l0_1 : List (S43)) (r : Bool) (w : World) (hr0_1 : Kd.C k43 w A0_1 l0_1.length l0_1) (hc0_1 : l0_1.length ≤ c0_1) (h : filigreelaw06_PartsComponents.f k a0_0 l0_1 = some r) (hr_ : r = true) :
    Calls Try.prog 3 #[.agg #[.int .i64 a0_0, .slice A0_1 l0_1.length c0_1]] w fun e w' => e = .returned (.bool r) ∧ Below w.heap.size w w' := by
  have HRT := zMk hr_
  clear hr_
  have hu24 := Try.underlying24
  have HR0_1 := zMk hr0_1
  have HC0_1 := zMk hc0_1
  clear hr0_1 hc0_1
  have HB := zMk (Below.refl w.heap.size w)
  have H : ((filigreelaw04_Light.f a0_0 l0_1 40).bind fun t471 => (if t471 = true then ((filigreeref04_Right.f k a0_0 l0_1).bind fun t473 => (if t473 = 0 then ((parts_Components.f k a0_0 l0_1).bind fun t478 => ((filigreeref06_Components.f k a0_0 l0_1).bind fun t481 => ((filigreeref04_Lists.f k t478 t481).bind fun t484 => (if t484 = true then ((filigreelaw06_alive.f k).bind fun t485 => (some t485)) else (some false))))) else ((parts_Components.f k a0_0 l0_1).bind fun t474 => (if (t474.length : Int) = 0 then ((filigreelaw06_alive.f k).bind fun t477 => (some t477)) else (some false))))) else ((filigreelaw06_alive.f k).bind fun t472 => (some t472)))) = some r := h
  clear h
  replace H := bnd H
  obtain ⟨t471, A20, H⟩ := H
  have A2 := zMk A20
  clear A20
  by_cases c3 : t471 = true
  · subst c3
    replace H : ((filigreeref04_Right.f k a0_0 l0_1).bind fun t473 => (if t473 = 0 then ((parts_Components.f k a0_0 l0_1).bind fun t478 => ((filigreeref06_Components.f k a0_0 l0_1).bind fun t481 => ((filigreeref04_Lists.f k t478 t481).bind fun t484 => (if t484 = true then ((filigreelaw06_alive.f k).bind fun t485 => (some t485)) else (some false))))) else ((parts_Components.f k a0_0 l0_1).bind fun t474 => (if (t474.length : Int) = 0 then ((filigreelaw06_alive.f k).bind fun t477 => (some t477)) else (some false))))) = some r := by rw [if_pos rfl] at H; exact H
    replace H := bnd H
    obtain ⟨t473, A40, H⟩ := H
    have A4 := zMk A40
    clear A40
    by_cases c5 : t473 = 0
    · rw [if_pos c5] at H
      have c5b0 : (t473 == 0) = true := beq_iff_eq.mpr c5
      have c5b1 : (t473 != 0) = false := bne_eq_false_iff_eq.mpr c5
      clear c5
      replace H := bnd H
      obtain ⟨t478, A60, H⟩ := H
      have A6 := zMk A60
      clear A60
      replace H := bnd H
      obtain ⟨t481, A70, H⟩ := H
      have A7 := zMk A70
      clear A70
      replace H := bnd H
      obtain ⟨t484, A80, H⟩ := H
      have A8 := zMk A80
      clear A80
      by_cases c9 : t484 = true
      · subst c9
        replace H : ((filigreelaw06_alive.f k).bind fun t485 => (some t485)) = some r := by rw [if_pos rfl] at H; exact H
        replace H := bnd H
        obtain ⟨t485, A100, H⟩ := H
        have A10 := zMk A100
        clear A100
        obtain rfl := zOi H
        go_enter Try.func3, Try.ntmps3
        try go_wp2_with (first | ((with_reducible refine gate_dst (N := 1) rfl ?_); refine box_event ?hg (N := 1) ?hd (cs := #[.int .i64 a0_0, .slice A0_1 l0_1.length c0_1]) (t := 24) ?hr ?_; (case hd => rfl); (case hg => rfl); (case hr => first | (go_simp; done)|(go_simp; rfl)|(go_simp; rw [show ∀ x : Int, IntKind.u32.wrap (IntKind.u8.wrap x) = x % 256 from fun x => (by show (x % 256) % 4294967296 = x % 256; omega)])); intro gb470 hg w11 hbox hb; have BK470 := zMk (hbox); have GW470 := zMk ((by rw [hg]; exact (zBs (by exact uT HB.out)) : w.heap.size ≤ gb470)); have GE470 := zMk ((by rw [hg]; exact (zBs (by exact uT HB.out)) : w.heap.size ≤ gb470)); have IGE470 := ownGe GE470.out; replace HB := zMk (zBt (by exact uT HB.out) hb); clear hb hbox hg; have hcz12_0 : w11.cell? ⟨gb470, 0, none⟩ = some (.int .i64 a0_0) := (zKc BK470.out 0).trans rfl; have hcz12_1 : w11.cell? ⟨gb470, 1, none⟩ = some (.slice A0_1 l0_1.length c0_1) := (zKc BK470.out 1).trans rfl; have hfz12_0 := zKf BK470.out 0; have hfz12_1 := zKf BK470.out 1)|((with_reducible refine gate_callee (f := 8) rfl ?_); refine goesL_ (some 4) rfl rfl Try.func8 (by kernel_rfl) rfl #[.agg #[.int .i64 a0_0, .slice A0_1 l0_1.length c0_1], .int .i64 40] rfl (by (try simp only [zMa, zMc, zMn]); first |  done|  rfl|  (simp only [zLd, zLt]; rfl)) ?_; (with_reducible refine (filigreelaw04_Light.calls a0_0 _ _ l0_1 40 true _ ?side1 ?side2 A2.out).mono ?_); (case side1 => repeat (first |  exact (Kd.C_below HR0_1.out HB.out)|(with_reducible refine zCa ?_ _)|(with_reducible refine zCn ?_ _)|(with_reducible refine zCd ?_))); (case side2 => exact HC0_1.out); rintro e w13 ⟨rfl, hb⟩; refine ⟨_, rfl, ?_⟩; replace BK470 := zMk (zKb (g := gb470) (o := .cells #[.int .i64 a0_0, .slice A0_1 l0_1.length c0_1] 24 (0, 0)) (by (with_reducible repeat (first |  refine zKn ?_ _|  refine zKd ?_|  refine zKa ?_ _)); exact BK470.out) hb); replace HB := zMk (zBt (by exact uT HB.out) hb); have hcz14_0 : w13.cell? ⟨gb470, 0, none⟩ = some (.int .i64 a0_0) := (zKc BK470.out 0).trans rfl; have hcz14_1 : w13.cell? ⟨gb470, 1, none⟩ = some (.slice A0_1 l0_1.length c0_1) := (zKc BK470.out 1).trans rfl; have hfz14_0 := zKf BK470.out 0; have hfz14_1 := zKf BK470.out 1)|((with_reducible refine gate_callee (f := 10) rfl ?_); refine goesL_ (some 8) rfl rfl Try.func10 (by kernel_rfl) rfl #[.agg #[.int .i64 a0_0, .slice A0_1 l0_1.length c0_1]] rfl (by (try simp only [zMa, zMc, zMn]); first |  done|  rfl|  (simp only [zLd, zLt]; rfl)) ?_; (with_reducible refine (filigreeref04_Right.calls k a0_0 _ _ l0_1 t473 _ ?side1 ?side2 A4.out).mono ?_); (case side1 => repeat (first |  exact (Kd.C_below HR0_1.out HB.out)|(with_reducible refine zCa ?_ _)|(with_reducible refine zCn ?_ _)|(with_reducible refine zCd ?_))); (case side2 => exact HC0_1.out); rintro e w15 ⟨rfl, hb⟩; refine ⟨_, rfl, ?_⟩; replace BK470 := zMk (zKb (g := gb470) (o := .cells #[.int .i64 a0_0, .slice A0_1 l0_1.length c0_1] 24 (0, 0)) (by (with_reducible repeat (first |  refine zKn ?_ _|  refine zKd ?_|  refine zKa ?_ _)); exact BK470.out) hb); replace HB := zMk (zBt (by exact uT HB.out) hb)))
        replace BK470 := zMk (zKd BK470.out)
        replace HB := zMk (zBd HB.out)
        refine start_ (n := 9) (S := fun w' => w'.cell? ⟨gb470, 0, none⟩ = some (.int .i64 a0_0) ∧ w'.cell? ⟨gb470, 1, none⟩ = some (.slice A0_1 l0_1.length c0_1)) (ds := []) #[false, false, false, false, false, false, false, false, false] (by kernel_rfl) rfl rfl ⟨(zKc BK470.out 0).trans rfl, (zKc BK470.out 1).trans rfl⟩ (fun hHeld => ?_); refine with_tabW filigreelaw06_PartsComponents.tab5 filigreelaw06_PartsComponents.bits5 (fun HT_ HW_ => ?_)
        generalize w15.drew = w16 at BK470 HB hHeld ⊢
        refine take_ (i := 0) (N := some 17) (v := ?_) (a' := ?_) #[true, false, false, false, false, false, false, false, false] rfl rfl (take_ofW HT_.out HW_.out (by kernel_rfl)) (fun _ _ _ h => h) (Or.inl ⟨by rfl, ?_⟩) hHeld ?_ ?_
        rotate_left
        · rintro w' ⟨s0, s1⟩
          go_simp
          with_reducible rfl
        rotate_left
        · simp only [Act.put, zSa, zSb, zSc, i64_w, i32_w]
          rfl
        refine take_ (i := 2) (N := some 19) (v := ?_) (a' := ?_) #[true, false, true, false, false, false, false, false, false] rfl rfl (take_ofW HT_.out HW_.out (by kernel_rfl)) (fun _ _ _ h => h) (Or.inl ⟨by rfl, ?_⟩) hHeld ?_ ?_
        rotate_left
        · rintro w' ⟨s0, s1⟩
          go_simp
          with_reducible rfl
        rotate_left
        · simp only [Act.put, zSa, zSb, zSc, i64_w, i32_w]
          rfl
        refine one_ (i := 1) (N := some 18) #[true, true, true, false, false, false, false, false, false] rfl rfl (one_of HT_.out (by kernel_rfl)) (by decide) (fun K hK => ?_)
        refine goes_ Try.func11 (by kernel_rfl) rfl #[.agg #[.int .i64 a0_0, .slice A0_1 l0_1.length c0_1]] (by rfl) rfl rfl (by (try simp only [zMa, zMc, zMn]); first | done | rfl | (simp only [zLd, zLt]; rfl)) ?_
        with_reducible refine (parts_Components.calls k a0_0 _ _ l0_1 t478 _ ?side1 ?side2 A6.out).mono ?_
        (case side1 => repeat (first | exact (Kd.C_below HR0_1.out HB.out) | (with_reducible refine zCa ?_ _) | (with_reducible refine zCn ?_ _) | (with_reducible refine zCd ?_)))
        (case side2 => exact HC0_1.out)
        rintro e w17 ⟨v479, rfl, ho0, hb⟩
        refine ⟨_, rfl, ?_⟩
        have HO480 := zMk (Kd.S_lower ho0 (zBs (by exact uT HB.out)))
        replace BK470 := zMk (zKb (g := gb470) (o := .cells #[.int .i64 a0_0, .slice A0_1 l0_1.length c0_1] 24 (0, 0)) (by (with_reducible repeat (first | refine zKn ?_ _ | refine zKd ?_ | refine zKa ?_ _)); exact BK470.out) hb)
        replace HB := zMk (zBt (by exact uT HB.out) hb)
        refine hK.out _ _ ⟨(zKc BK470.out 0).trans rfl, (zKc BK470.out 1).trans rfl⟩ (fun hHeld => ?_)
        clear hK K
        refine norm_ (a' := ?_) ?_ ?_
        rotate_left
        · show Act.put _ (some 18) _ = _
          simp only [Act.put, zSa, zSb, zSc, i64_w, i32_w]
          rfl
        refine one_ (i := 3) (N := some 20) #[true, true, true, true, false, false, false, false, false] rfl rfl (one_of HT_.out (by kernel_rfl)) (by decide) (fun K hK => ?_)
        refine goes_ Try.func13 (by kernel_rfl) rfl #[.agg #[.int .i64 a0_0, .slice A0_1 l0_1.length c0_1]] (by rfl) rfl rfl (by (try simp only [zMa, zMc, zMn]); first | done | rfl | (simp only [zLd, zLt]; rfl)) ?_
        with_reducible refine (filigreeref06_Components.calls k a0_0 _ _ l0_1 t481 _ ?side1 ?side2 A7.out).mono ?_
        (case side1 => repeat (first | exact (Kd.C_below HR0_1.out HB.out) | (with_reducible refine zCa ?_ _) | (with_reducible refine zCn ?_ _) | (with_reducible refine zCd ?_)))
        (case side2 => exact HC0_1.out)
        rintro e w18 ⟨v482, rfl, ho0, hb⟩
        refine ⟨_, rfl, ?_⟩
        have HO483 := zMk (Kd.S_lower (Kd.S_new' ho0 (Kd.S_lt (by (with_reducible repeat (first | apply Kd.S_alloc | apply Kd.S_drewN | apply Kd.S_drew)); exact HO480.out))) (zBs (by exact uT HB.out)))
        replace HO480 := zMk (Kd.S_elder' (by (with_reducible repeat (first | apply Kd.S_alloc | apply Kd.S_drewN | apply Kd.S_drew)); exact HO480.out) (Kd.S_base ho0) hb)
        replace BK470 := zMk (zKb (g := gb470) (o := .cells #[.int .i64 a0_0, .slice A0_1 l0_1.length c0_1] 24 (0, 0)) (by (with_reducible repeat (first | refine zKn ?_ _ | refine zKd ?_ | refine zKa ?_ _)); exact BK470.out) hb)
        replace HB := zMk (zBt (by exact uT HB.out) hb)
        obtain ⟨Ao19, co19, eo19⟩ := Kd.S_slice HO480.out
        (first |  subst eo19|  (injection eo19 with f1_ f2_ f3_; have f4_ := f1_.symm; have f5_ := f3_.symm; clear f1_ f2_ f3_; subst f4_; subst f5_))
        obtain ⟨Ao20, co20, eo20⟩ := Kd.S_slice HO483.out
        (first |  subst eo20|  (injection eo20 with f1_ f2_ f3_; have f4_ := f1_.symm; have f5_ := f3_.symm; clear f1_ f2_ f3_; subst f4_; subst f5_))
        refine hK.out _ _ ⟨(zKc BK470.out 0).trans rfl, (zKc BK470.out 1).trans rfl⟩ (fun hHeld => ?_)
        clear hK K
        refine norm_ (a' := ?_) ?_ ?_
        rotate_left
        · show Act.put _ (some 20) _ = _
          simp only [Act.put, zSa, zSb, zSc, i64_w, i32_w]
          rfl
        refine one_ (i := 4) (N := some 21) #[true, true, true, true, true, false, false, false, false] rfl rfl (one_of HT_.out (by kernel_rfl)) (by decide) (fun K hK => ?_)
        refine goes_ Try.func12 (by kernel_rfl) rfl #[.slice Ao19 t478.length co19, .slice Ao20 t481.length co20] (by rfl) rfl rfl (by (try simp only [zMa, zMc, zMn]); first | done | rfl | (simp only [zLd, zLt]; rfl)) ?_
        with_reducible refine (filigreeref04_Lists.calls k _ _ t478 _ _ t481 true _ ?side1 ?side2 ?side3 ?side4 A8.out).mono ?_
        (case side1 => repeat (first | exact (Kd.S_reads' HO480.out).2.2 | (with_reducible refine zCa ?_ _) | (with_reducible refine zCn ?_ _) | (with_reducible refine zCd ?_)))
        (case side2 => exact (Kd.S_reads' HO480.out).2.1)
        (case side3 => repeat (first | exact (Kd.S_reads' HO483.out).2.2 | (with_reducible refine zCa ?_ _) | (with_reducible refine zCn ?_ _) | (with_reducible refine zCd ?_)))
        (case side4 => exact (Kd.S_reads' HO483.out).2.1)
        rintro e w' ⟨rfl, ⟨nd, rfl⟩⟩
        refine ⟨_, rfl, ?_⟩
        refine hK.out _ _ ⟨(zKc BK470.out 0).trans rfl, (zKc BK470.out 1).trans rfl⟩ (fun hHeld => ?_)
        clear hK K
        refine norm_ (a' := ?_) ?_ ?_
        rotate_left
        · show Act.put _ (some 21) _ = _
          simp only [Act.put, zSa, zSb, zSc, i64_w, i32_w]
          rfl
        refine pure_ (i := 5) (N := some 22) (v := ?_) (a' := ?_) #[true, true, true, true, true, true, false, false, false] rfl rfl (any_of HT_.out (by kernel_rfl)) (fun _ _ _ h => h) (Or.inl ⟨by rfl, ?_⟩) ?_ ?_
        rotate_left
        · intro w'
          go_simp
          with_reducible rfl
        rotate_left
        · simp only [Act.put, zSa, zSb, zSc, i64_w, i32_w]
          rfl
        refine one_ (i := 6) (N := some 23) #[true, true, true, true, true, true, true, false, false] rfl rfl (one_of HT_.out (by kernel_rfl)) (by decide) (fun K hK => ?_)
        refine goes_ Try.func9 (by kernel_rfl) rfl #[] (by rfl) rfl rfl (by (try simp only [zMa, zMc, zMn]); first | done | rfl | (simp only [zLd, zLt]; rfl)) ?_
        with_reducible refine (filigreelaw06_alive.calls k  t485 _ A10.out).mono ?_
        rintro e w21 ⟨rfl, hb⟩
        refine ⟨_, rfl, ?_⟩
        replace HO480 := zMk (Kd.S_below (by (with_reducible repeat (first | apply Kd.S_alloc | apply Kd.S_drewN | apply Kd.S_drew)); exact HO480.out) hb)
        replace HO483 := zMk (Kd.S_below (by (with_reducible repeat (first | apply Kd.S_alloc | apply Kd.S_drewN | apply Kd.S_drew)); exact HO483.out) hb)
        replace BK470 := zMk (zKb (g := gb470) (o := .cells #[.int .i64 a0_0, .slice A0_1 l0_1.length c0_1] 24 (0, 0)) (by (with_reducible repeat (first | refine zKn ?_ _ | refine zKd ?_ | refine zKa ?_ _)); exact BK470.out) hb)
        replace HB := zMk (zBt (by exact uT HB.out) hb)
        refine hK.out _ _ ⟨(zKc BK470.out 0).trans rfl, (zKc BK470.out 1).trans rfl⟩ (fun hHeld => ?_)
        clear hK K
        refine norm_ (a' := ?_) ?_ ?_
        rotate_left
        · show Act.put _ (some 23) _ = _
          simp only [Act.put, zSa, zSb, zSc, i64_w, i32_w]
          rfl
        refine pure_ (i := 7) (N := some 24) (v := ?_) (a' := ?_) #[true, true, true, true, true, true, true, true, false] rfl rfl (any_of HT_.out (by kernel_rfl)) (fun _ _ _ h => h) (Or.inl ⟨by rfl, ?_⟩) ?_ ?_
        rotate_left
        · intro w'
          go_simp
          with_reducible rfl
        rotate_left
        · simp only [Act.put, zSa, zSb, zSc, i64_w, i32_w]
          rfl
        refine pure_ (i := 8) (N := some 2) (v := ?_) (a' := ?_) #[true, true, true, true, true, true, true, true, true] rfl rfl (any_of HT_.out (by kernel_rfl)) (fun _ _ _ h => h) (Or.inl ⟨by rfl, ?_⟩) ?_ ?_
        rotate_left
        · intro w'
          go_simp
          with_reducible rfl
        rotate_left
        · simp only [Act.put, zSa, zSb, zSc, i64_w, i32_w]
          rfl
        refine done_ (done_of HT_.out (by kernel_rfl)) ?_
        try go_wp2
        go_ret
        exact ⟨by first | rfl | (simp [errW_none, errW_some] <;> rfl) | (simp [*, errW_none, errW_some] <;> rfl), by exact uT HB.out⟩
      · replace c9 := Bool.eq_false_iff.mpr c9
        subst c9
        replace H : (some false) = some r := by rw [if_neg (show ¬ (false = true) by decide)] at H; exact H
        exact absurd ((zOi H).trans HRT.out) (by decide)
    · rw [if_neg c5] at H
      have c5b0 : (t473 == 0) = false := beq_eq_false_iff_ne.mpr c5
      have c5b1 : (t473 != 0) = true := bne_iff_ne.mpr c5
      replace H := bnd H
      obtain ⟨t474, A320, H⟩ := H
      have A32 := zMk A320
      clear A320
      by_cases c33 : (t474.length : Int) = 0
      · rw [if_pos c33] at H
        have c33b0 : ((t474.length : Int) == 0) = true := beq_iff_eq.mpr c33
        have c33b1 : ((t474.length : Int) != 0) = false := bne_eq_false_iff_eq.mpr c33
        clear c33
        replace H := bnd H
        obtain ⟨t477, A340, H⟩ := H
        have A34 := zMk A340
        clear A340
        obtain rfl := zOi H
        go_enter Try.func3, Try.ntmps3
        go_wp2_with (first | ((with_reducible refine gate_dst (N := 1) rfl ?_); refine box_event ?hg (N := 1) ?hd (cs := #[.int .i64 a0_0, .slice A0_1 l0_1.length c0_1]) (t := 24) ?hr ?_; (case hd => rfl); (case hg => rfl); (case hr => first | (go_simp; done)|(go_simp; rfl)|(go_simp; rw [show ∀ x : Int, IntKind.u32.wrap (IntKind.u8.wrap x) = x % 256 from fun x => (by show (x % 256) % 4294967296 = x % 256; omega)])); intro gb470 hg w35 hbox hb; have BK470 := zMk (hbox); have GW470 := zMk ((by rw [hg]; exact (zBs (by exact uT HB.out)) : w.heap.size ≤ gb470)); have GE470 := zMk ((by rw [hg]; exact (zBs (by exact uT HB.out)) : w.heap.size ≤ gb470)); have IGE470 := ownGe GE470.out; replace HB := zMk (zBt (by exact uT HB.out) hb); clear hb hbox hg; have hcz36_0 : w35.cell? ⟨gb470, 0, none⟩ = some (.int .i64 a0_0) := (zKc BK470.out 0).trans rfl; have hcz36_1 : w35.cell? ⟨gb470, 1, none⟩ = some (.slice A0_1 l0_1.length c0_1) := (zKc BK470.out 1).trans rfl; have hfz36_0 := zKf BK470.out 0; have hfz36_1 := zKf BK470.out 1)|((with_reducible refine gate_callee (f := 8) rfl ?_); refine goesL_ (some 4) rfl rfl Try.func8 (by kernel_rfl) rfl #[.agg #[.int .i64 a0_0, .slice A0_1 l0_1.length c0_1], .int .i64 40] rfl (by (try simp only [zMa, zMc, zMn]); first |  done|  rfl|  (simp only [zLd, zLt]; rfl)) ?_; (with_reducible refine (filigreelaw04_Light.calls a0_0 _ _ l0_1 40 true _ ?side1 ?side2 A2.out).mono ?_); (case side1 => repeat (first |  exact (Kd.C_below HR0_1.out HB.out)|(with_reducible refine zCa ?_ _)|(with_reducible refine zCn ?_ _)|(with_reducible refine zCd ?_))); (case side2 => exact HC0_1.out); rintro e w37 ⟨rfl, hb⟩; refine ⟨_, rfl, ?_⟩; replace BK470 := zMk (zKb (g := gb470) (o := .cells #[.int .i64 a0_0, .slice A0_1 l0_1.length c0_1] 24 (0, 0)) (by (with_reducible repeat (first |  refine zKn ?_ _|  refine zKd ?_|  refine zKa ?_ _)); exact BK470.out) hb); replace HB := zMk (zBt (by exact uT HB.out) hb); have hcz38_0 : w37.cell? ⟨gb470, 0, none⟩ = some (.int .i64 a0_0) := (zKc BK470.out 0).trans rfl; have hcz38_1 : w37.cell? ⟨gb470, 1, none⟩ = some (.slice A0_1 l0_1.length c0_1) := (zKc BK470.out 1).trans rfl; have hfz38_0 := zKf BK470.out 0; have hfz38_1 := zKf BK470.out 1)|((with_reducible refine gate_callee (f := 10) rfl ?_); refine goesL_ (some 8) rfl rfl Try.func10 (by kernel_rfl) rfl #[.agg #[.int .i64 a0_0, .slice A0_1 l0_1.length c0_1]] rfl (by (try simp only [zMa, zMc, zMn]); first |  done|  rfl|  (simp only [zLd, zLt]; rfl)) ?_; (with_reducible refine (filigreeref04_Right.calls k a0_0 _ _ l0_1 t473 _ ?side1 ?side2 A4.out).mono ?_); (case side1 => repeat (first |  exact (Kd.C_below HR0_1.out HB.out)|(with_reducible refine zCa ?_ _)|(with_reducible refine zCn ?_ _)|(with_reducible refine zCd ?_))); (case side2 => exact HC0_1.out); rintro e w39 ⟨rfl, hb⟩; refine ⟨_, rfl, ?_⟩; replace BK470 := zMk (zKb (g := gb470) (o := .cells #[.int .i64 a0_0, .slice A0_1 l0_1.length c0_1] 24 (0, 0)) (by (with_reducible repeat (first |  refine zKn ?_ _|  refine zKd ?_|  refine zKa ?_ _)); exact BK470.out) hb); replace HB := zMk (zBt (by exact uT HB.out) hb); have hcz40_0 : w39.cell? ⟨gb470, 0, none⟩ = some (.int .i64 a0_0) := (zKc BK470.out 0).trans rfl; have hcz40_1 : w39.cell? ⟨gb470, 1, none⟩ = some (.slice A0_1 l0_1.length c0_1) := (zKc BK470.out 1).trans rfl; have hfz40_0 := zKf BK470.out 0; have hfz40_1 := zKf BK470.out 1)|((with_reducible refine gate_callee (f := 11) rfl ?_); refine goesL_ (some 11) rfl rfl Try.func11 (by kernel_rfl) rfl #[.agg #[.int .i64 a0_0, .slice A0_1 l0_1.length c0_1]] rfl (by (try simp only [zMa, zMc, zMn]); first |  done|  rfl|  (simp only [zLd, zLt]; rfl)) ?_; (with_reducible refine (parts_Components.calls k a0_0 _ _ l0_1 t474 _ ?side1 ?side2 A32.out).mono ?_); (case side1 => repeat (first |  exact (Kd.C_below HR0_1.out HB.out)|(with_reducible refine zCa ?_ _)|(with_reducible refine zCn ?_ _)|(with_reducible refine zCd ?_))); (case side2 => exact HC0_1.out); rintro e w41 ⟨v475, rfl, ho0, hb⟩; refine ⟨_, rfl, ?_⟩; have HO476 := zMk (Kd.S_lower ho0 (zBs (by exact uT HB.out))); replace BK470 := zMk (zKb (g := gb470) (o := .cells #[.int .i64 a0_0, .slice A0_1 l0_1.length c0_1] 24 (0, 0)) (by (with_reducible repeat (first |  refine zKn ?_ _|  refine zKd ?_|  refine zKa ?_ _)); exact BK470.out) hb); replace HB := zMk (zBt (by exact uT HB.out) hb); obtain ⟨Ao42, co42, eo42⟩ := Kd.S_slice HO476.out; subst eo42)|(go_at_call 9; (with_reducible refine (filigreelaw06_alive.calls k  t477 _ A34.out).mono ?_); rintro e w43 ⟨rfl, hb⟩; replace HO476 := zMk (Kd.S_below (by (with_reducible repeat (first |  apply Kd.S_alloc|  apply Kd.S_drewN|  apply Kd.S_drew)); exact HO476.out) hb); replace BK470 := zMk (zKb (g := gb470) (o := .cells #[.int .i64 a0_0, .slice A0_1 l0_1.length c0_1] 24 (0, 0)) (by (with_reducible repeat (first |  refine zKn ?_ _|  refine zKd ?_|  refine zKa ?_ _)); exact BK470.out) hb); replace HB := zMk (zBt (by exact uT HB.out) hb)))
        go_ret
        exact ⟨by first | rfl | (simp [errW_none, errW_some] <;> rfl) | (simp [*, errW_none, errW_some] <;> rfl), by exact uT HB.out⟩
      · rw [if_neg c33] at H
        have c33b0 : ((t474.length : Int) == 0) = false := beq_eq_false_iff_ne.mpr c33
        have c33b1 : ((t474.length : Int) != 0) = true := bne_iff_ne.mpr c33
        have c33b2 : ¬ (t474 = []) := fun h_ => c33 (by rw [h_]; rfl)
        obtain rfl := zOi H
        go_enter Try.func3, Try.ntmps3
        go_wp2_with (first | ((with_reducible refine gate_dst (N := 1) rfl ?_); refine box_event ?hg (N := 1) ?hd (cs := #[.int .i64 a0_0, .slice A0_1 l0_1.length c0_1]) (t := 24) ?hr ?_; (case hd => rfl); (case hg => rfl); (case hr => first | (go_simp; done)|(go_simp; rfl)|(go_simp; rw [show ∀ x : Int, IntKind.u32.wrap (IntKind.u8.wrap x) = x % 256 from fun x => (by show (x % 256) % 4294967296 = x % 256; omega)])); intro gb470 hg w44 hbox hb; have BK470 := zMk (hbox); have GW470 := zMk ((by rw [hg]; exact (zBs (by exact uT HB.out)) : w.heap.size ≤ gb470)); have GE470 := zMk ((by rw [hg]; exact (zBs (by exact uT HB.out)) : w.heap.size ≤ gb470)); have IGE470 := ownGe GE470.out; replace HB := zMk (zBt (by exact uT HB.out) hb); clear hb hbox hg; have hcz45_0 : w44.cell? ⟨gb470, 0, none⟩ = some (.int .i64 a0_0) := (zKc BK470.out 0).trans rfl; have hcz45_1 : w44.cell? ⟨gb470, 1, none⟩ = some (.slice A0_1 l0_1.length c0_1) := (zKc BK470.out 1).trans rfl; have hfz45_0 := zKf BK470.out 0; have hfz45_1 := zKf BK470.out 1)|((with_reducible refine gate_callee (f := 8) rfl ?_); refine goesL_ (some 4) rfl rfl Try.func8 (by kernel_rfl) rfl #[.agg #[.int .i64 a0_0, .slice A0_1 l0_1.length c0_1], .int .i64 40] rfl (by (try simp only [zMa, zMc, zMn]); first |  done|  rfl|  (simp only [zLd, zLt]; rfl)) ?_; (with_reducible refine (filigreelaw04_Light.calls a0_0 _ _ l0_1 40 true _ ?side1 ?side2 A2.out).mono ?_); (case side1 => repeat (first |  exact (Kd.C_below HR0_1.out HB.out)|(with_reducible refine zCa ?_ _)|(with_reducible refine zCn ?_ _)|(with_reducible refine zCd ?_))); (case side2 => exact HC0_1.out); rintro e w46 ⟨rfl, hb⟩; refine ⟨_, rfl, ?_⟩; replace BK470 := zMk (zKb (g := gb470) (o := .cells #[.int .i64 a0_0, .slice A0_1 l0_1.length c0_1] 24 (0, 0)) (by (with_reducible repeat (first |  refine zKn ?_ _|  refine zKd ?_|  refine zKa ?_ _)); exact BK470.out) hb); replace HB := zMk (zBt (by exact uT HB.out) hb); have hcz47_0 : w46.cell? ⟨gb470, 0, none⟩ = some (.int .i64 a0_0) := (zKc BK470.out 0).trans rfl; have hcz47_1 : w46.cell? ⟨gb470, 1, none⟩ = some (.slice A0_1 l0_1.length c0_1) := (zKc BK470.out 1).trans rfl; have hfz47_0 := zKf BK470.out 0; have hfz47_1 := zKf BK470.out 1)|((with_reducible refine gate_callee (f := 10) rfl ?_); refine goesL_ (some 8) rfl rfl Try.func10 (by kernel_rfl) rfl #[.agg #[.int .i64 a0_0, .slice A0_1 l0_1.length c0_1]] rfl (by (try simp only [zMa, zMc, zMn]); first |  done|  rfl|  (simp only [zLd, zLt]; rfl)) ?_; (with_reducible refine (filigreeref04_Right.calls k a0_0 _ _ l0_1 t473 _ ?side1 ?side2 A4.out).mono ?_); (case side1 => repeat (first |  exact (Kd.C_below HR0_1.out HB.out)|(with_reducible refine zCa ?_ _)|(with_reducible refine zCn ?_ _)|(with_reducible refine zCd ?_))); (case side2 => exact HC0_1.out); rintro e w48 ⟨rfl, hb⟩; refine ⟨_, rfl, ?_⟩; replace BK470 := zMk (zKb (g := gb470) (o := .cells #[.int .i64 a0_0, .slice A0_1 l0_1.length c0_1] 24 (0, 0)) (by (with_reducible repeat (first |  refine zKn ?_ _|  refine zKd ?_|  refine zKa ?_ _)); exact BK470.out) hb); replace HB := zMk (zBt (by exact uT HB.out) hb); have hcz49_0 : w48.cell? ⟨gb470, 0, none⟩ = some (.int .i64 a0_0) := (zKc BK470.out 0).trans rfl; have hcz49_1 : w48.cell? ⟨gb470, 1, none⟩ = some (.slice A0_1 l0_1.length c0_1) := (zKc BK470.out 1).trans rfl; have hfz49_0 := zKf BK470.out 0; have hfz49_1 := zKf BK470.out 1)|((with_reducible refine gate_callee (f := 11) rfl ?_); refine goesL_ (some 11) rfl rfl Try.func11 (by kernel_rfl) rfl #[.agg #[.int .i64 a0_0, .slice A0_1 l0_1.length c0_1]] rfl (by (try simp only [zMa, zMc, zMn]); first |  done|  rfl|  (simp only [zLd, zLt]; rfl)) ?_; (with_reducible refine (parts_Components.calls k a0_0 _ _ l0_1 t474 _ ?side1 ?side2 A32.out).mono ?_); (case side1 => repeat (first |  exact (Kd.C_below HR0_1.out HB.out)|(with_reducible refine zCa ?_ _)|(with_reducible refine zCn ?_ _)|(with_reducible refine zCd ?_))); (case side2 => exact HC0_1.out); rintro e w50 ⟨v475, rfl, ho0, hb⟩; refine ⟨_, rfl, ?_⟩; have HO476 := zMk (Kd.S_lower ho0 (zBs (by exact uT HB.out))); replace BK470 := zMk (zKb (g := gb470) (o := .cells #[.int .i64 a0_0, .slice A0_1 l0_1.length c0_1] 24 (0, 0)) (by (with_reducible repeat (first |  refine zKn ?_ _|  refine zKd ?_|  refine zKa ?_ _)); exact BK470.out) hb); replace HB := zMk (zBt (by exact uT HB.out) hb); obtain ⟨Ao51, co51, eo51⟩ := Kd.S_slice HO476.out; subst eo51))
        go_ret
        exact ⟨by first | rfl | (simp [errW_none, errW_some] <;> rfl) | (simp [*, errW_none, errW_some] <;> rfl), by exact uT HB.out⟩
  · replace c3 := Bool.eq_false_iff.mpr c3
    subst c3
    replace H : ((filigreelaw06_alive.f k).bind fun t472 => (some t472)) = some r := by rw [if_neg (show ¬ (false = true) by decide)] at H; exact H
    replace H := bnd H
    obtain ⟨t472, A520, H⟩ := H
    have A52 := zMk A520
    clear A520
    obtain rfl := zOi H
    go_enter Try.func3, Try.ntmps3
    go_wp2_with (first | ((with_reducible refine gate_dst (N := 1) rfl ?_); refine box_event ?hg (N := 1) ?hd (cs := #[.int .i64 a0_0, .slice A0_1 l0_1.length c0_1]) (t := 24) ?hr ?_; (case hd => rfl); (case hg => rfl); (case hr => first | (go_simp; done)|(go_simp; rfl)|(go_simp; rw [show ∀ x : Int, IntKind.u32.wrap (IntKind.u8.wrap x) = x % 256 from fun x => (by show (x % 256) % 4294967296 = x % 256; omega)])); intro gb470 hg w53 hbox hb; have BK470 := zMk (hbox); have GW470 := zMk ((by rw [hg]; exact (zBs (by exact uT HB.out)) : w.heap.size ≤ gb470)); have GE470 := zMk ((by rw [hg]; exact (zBs (by exact uT HB.out)) : w.heap.size ≤ gb470)); have IGE470 := ownGe GE470.out; replace HB := zMk (zBt (by exact uT HB.out) hb); clear hb hbox hg; have hcz54_0 : w53.cell? ⟨gb470, 0, none⟩ = some (.int .i64 a0_0) := (zKc BK470.out 0).trans rfl; have hcz54_1 : w53.cell? ⟨gb470, 1, none⟩ = some (.slice A0_1 l0_1.length c0_1) := (zKc BK470.out 1).trans rfl; have hfz54_0 := zKf BK470.out 0; have hfz54_1 := zKf BK470.out 1)|((with_reducible refine gate_callee (f := 8) rfl ?_); refine goesL_ (some 4) rfl rfl Try.func8 (by kernel_rfl) rfl #[.agg #[.int .i64 a0_0, .slice A0_1 l0_1.length c0_1], .int .i64 40] rfl (by (try simp only [zMa, zMc, zMn]); first |  done|  rfl|  (simp only [zLd, zLt]; rfl)) ?_; (with_reducible refine (filigreelaw04_Light.calls a0_0 _ _ l0_1 40 false _ ?side1 ?side2 A2.out).mono ?_); (case side1 => repeat (first |  exact (Kd.C_below HR0_1.out HB.out)|(with_reducible refine zCa ?_ _)|(with_reducible refine zCn ?_ _)|(with_reducible refine zCd ?_))); (case side2 => exact HC0_1.out); rintro e w55 ⟨rfl, hb⟩; refine ⟨_, rfl, ?_⟩; replace BK470 := zMk (zKb (g := gb470) (o := .cells #[.int .i64 a0_0, .slice A0_1 l0_1.length c0_1] 24 (0, 0)) (by (with_reducible repeat (first |  refine zKn ?_ _|  refine zKd ?_|  refine zKa ?_ _)); exact BK470.out) hb); replace HB := zMk (zBt (by exact uT HB.out) hb))|((with_reducible refine gate_callee (f := 9) rfl ?_); refine goesL_ (some 6) rfl rfl Try.func9 (by kernel_rfl) rfl #[] rfl (by (try simp only [zMa, zMc, zMn]); first |  done|  rfl|  (simp only [zLd, zLt]; rfl)) ?_; (with_reducible refine (filigreelaw06_alive.calls k  t472 _ A52.out).mono ?_); rintro e w56 ⟨rfl, hb⟩; refine ⟨_, rfl, ?_⟩; replace BK470 := zMk (zKb (g := gb470) (o := .cells #[.int .i64 a0_0, .slice A0_1 l0_1.length c0_1] 24 (0, 0)) (by (with_reducible repeat (first |  refine zKn ?_ _|  refine zKd ?_|  refine zKa ?_ _)); exact BK470.out) hb); replace HB := zMk (zBt (by exact uT HB.out) hb)))
    go_ret
    exact ⟨by first | rfl | (simp [errW_none, errW_some] <;> rfl) | (simp [*, errW_none, errW_some] <;> rfl), by exact uT HB.out⟩

def filigreelaw06_PartsComponents.Pure : Prop := ∀ (a0_0 : Int) (l0_1 : List A.S43), (Lit.int .i64 a0_0).wf = true → l0_1.length ≤ maxLen → (∀ x ∈ l0_1, (Lit.int .i64 x.f0).wf = true ∧ (Lit.int .i64 x.f1).wf = true ∧ (Lit.int .i64 x.f2).wf = true) → ∃ k, filigreelaw06_PartsComponents.f k a0_0 l0_1 = some true
theorem progComp_bad (n : Int) (E : List S43) (h : rightI n E ≠ 0) : Ev (fun k => parts_Components.f k n E) [] := by
  have h2 := Ev.bind (Right_ev n E) (f := fun k q => if q = 0 then (parts_arcs.f k n E).bind fun near => if 0 ≤ n ∧ n ≤ 9223372036854775807 ∧ n.toNat ≤ 281474976710656 then pcAll near k n.toNat 0 (List.replicate n.toNat false) [] else none else some [])
    (r := []) (Ev.congr (fun k => by rw [if_neg h]) (Ev.now _))
  exact h2
theorem cls_len (N : Nat) (l : List Int) (v : Int) : (clsL N l v).length ≤ N := by
  have := List.length_filter_le (fun u => rd l u == v) (ups N)
  rwa [ups_len] at this
theorem comps_len (N : Nat) (l : List Int) : (compsL N l).length ≤ N := by
  unfold compsL
  rw [List.length_map]
  have := List.length_filter_le (fun v => rd l v == v) (ups N)
  rwa [ups_len] at this
theorem pure_PartsComponents : filigreelaw06_PartsComponents.Pure := by
  intro n E _ _ _
  refine Ev.rounds (r := true) ?_
  have hal : Ev (fun k => (filigreelaw06_alive.f k).bind fun t => some t) true := Ev.bind alive_ev (f := fun _ t => some t) (Ev.now _)
  have hl := light_eq n E 40 (by omega) (by omega)
  by_cases h1 : n ≤ 40 ∧ (E.length : Int) ≤ 4 * 40
  rotate_left
  · rw [decide_eq_false h1] at hl
    refine Ev.congr (fun k => ?_) hal
    unfold filigreelaw06_PartsComponents.f
    rw [hl, zOb, if_neg (by simp)]
  rw [decide_eq_true h1] at hl
  by_cases hr : rightI n E = 0
  · have hR := refRight_ev n E
    have hG := Right_ev n E
    rw [hr] at hR hG
    obtain ⟨N, rfl, h⟩ := right_of hr
    have hN : N ≤ 40 := by omega
    have hp := progComp_ev N E h.ends h.ne (by omega) (by omega) hG
    have hq := refComp_ev N E h.ends (by omega) (by omega)
    have hls := Lists_ev (compsL N (labs N E)) (fun x hx => by
      obtain ⟨v, -, rfl⟩ := List.mem_map.1 hx
      have := cls_len N (labs N E) v
      omega) (by have := comps_len N (labs N E); omega)
    have key := Ev.bind hR (f := fun k t => if t = 0 then (parts_Components.f k N E).bind fun t478 => (filigreeref06_Components.f k N E).bind fun t481 => (filigreeref04_Lists.f k t478 t481).bind fun t484 => if t484 = true then (filigreelaw06_alive.f k).bind fun t485 => some t485 else some false else (parts_Components.f k N E).bind fun t474 => if (t474.length : Int) = 0 then (filigreelaw06_alive.f k).bind fun t477 => some t477 else some false)
      (Ev.congr (fun k => by rw [if_pos rfl]) (Ev.bind hp (f := fun k t478 => (filigreeref06_Components.f k N E).bind fun t481 => (filigreeref04_Lists.f k t478 t481).bind fun t484 => if t484 = true then (filigreelaw06_alive.f k).bind fun t485 => some t485 else some false)
        (Ev.bind hq (f := fun k t481 => (filigreeref04_Lists.f k (compsL N (labs N E)) t481).bind fun t484 => if t484 = true then (filigreelaw06_alive.f k).bind fun t485 => some t485 else some false)
          (Ev.bind hls (f := fun k t484 => if t484 = true then (filigreelaw06_alive.f k).bind fun t485 => some t485 else some false) (Ev.congr (fun k => by rw [if_pos rfl]) hal)))))
    refine Ev.congr (fun k => ?_) key
    unfold filigreelaw06_PartsComponents.f
    rw [hl, zOb, if_pos rfl]
  · have hp := progComp_bad n E hr
    have hz : ∀ k, (if (([] : List (List Int)).length : Int) = 0 then (filigreelaw06_alive.f k).bind fun t477 => some t477 else some false) = (filigreelaw06_alive.f k).bind fun t => some t := fun k => if_pos rfl
    have key := Ev.bind (refRight_ev n E) (f := fun k t => if t = 0 then (parts_Components.f k n E).bind fun t478 => (filigreeref06_Components.f k n E).bind fun t481 => (filigreeref04_Lists.f k t478 t481).bind fun t484 => if t484 = true then (filigreelaw06_alive.f k).bind fun t485 => some t485 else some false else (parts_Components.f k n E).bind fun t474 => if (t474.length : Int) = 0 then (filigreelaw06_alive.f k).bind fun t477 => some t477 else some false)
      (Ev.congr (fun k => by rw [if_neg hr]) (Ev.bind hp (f := fun k t474 => if (t474.length : Int) = 0 then (filigreelaw06_alive.f k).bind fun t477 => some t477 else some false) (Ev.congr hz hal)))
    refine Ev.congr (fun k => ?_) key
    unfold filigreelaw06_PartsComponents.f
    rw [hl, zOb, if_pos rfl]
end Go.Proofs.Ytkiemlbobcklpaa.A
