/- Lemmas for the statement: the walks of the functions that it reaches, and plain laws. -/
import Derived.Test.YtnigaojboililaaG1
set_option linter.unusedVariables false
set_option linter.unusedSimpArgs false
set_option maxHeartbeats 8000000
set_option maxRecDepth 100000
namespace Go.Proofs.Ytnigaojboililaa.A
open Go Go.RowKit Go.Proofs.YtnigaojboililaaW.PrintWords Go.Proofs.YtnigaojboililaaW.PrintLast Go.Proofs.YtnigaojboililaaW.PrintMore
attribute [local go_sem] max2_int min2_int max_two min_two max_three min_three max_four min_four
open Go.Proofs.YtnigaojboililaaW.PrintWords.Kd renaming R_alloc → zRa, R_drewN → zRn, R_drew → zRd, C_alloc → zCa, C_drewN → zCn, C_drew → zCd, R_mono → zRm, at_int → zAi, R_elder' → zRe, R_lower → zRl, R_new' → zRw, R_lt → zRt, R_below → zRb, R_base → zRz, R_reads' → zRr, R_slice → zRs
open Go.Proofs.YtnigaojboililaaW.PrintWords renaming pw_below_drewN → zBn, below_alloc → zBa, below_drew1 → zBd, below_size → zBs, below_step → zBt, blk_drewN → zKn, blk_drew → zKd, blk_alloc → zKa, blk_below → zKb, blk_cell → zKc, blk_frozen → zKf
open List renaming setIfInBounds_toArray → zSa, set_cons_zero → zSb, set_cons_succ → zSc, length_drop → zLd, length_take → zLt, map_toArray → zMa, map_cons → zMc, map_nil → zMn
open Go.Proofs.YtnigaojboililaaW.PrintWords.Aside0 renaming mk → zMk
open Option renaming bind_eq_some_iff → zBi, bind_some → zOb
open Option.some renaming inj → zOi
open Int renaming toNat_natCast → zTn

def paths_line_Swap.f (l0 : List (S48)) (a1 : Int) (a2 : Int) : Option ((List (S48))) := if 0 ≤ a2 then (if a2 < (l0.length : Int) then (if 0 ≤ a1 then (if a1 < (l0.length : Int) then (some ((l0.set (a1 : Int).toNat (⟨(rd_T48 l0 a2).f0, (rd_T48 l0 a2).f1, (rd_T48 l0 a2).f2⟩ : S48)).set (a2 : Int).toNat (⟨(rd_T48 l0 a1).f0, (rd_T48 l0 a1).f1, (rd_T48 l0 a1).f2⟩ : S48))) else (none)) else (none)) else (none)) else (none)
def paths_line_Swap.T0 : Bool × List (List Nat × List Nat) := (true, [([], []), ([], []), ([], []), ([], []), ([], []), ([], []), ([4, 5], [4, 5]), ([6], [6]), ([], []), ([], []), ([8, 9], [8, 9]), ([10], [10]), ([0, 1, 0, 1, 4, 5, 6, 7, 11], [0, 1]), ([12, 7, 0, 1, 4, 5, 6, 7, 11], [7, 12]), ([2, 3, 0, 1, 2, 3, 4, 5, 6, 7, 8, 9, 10, 11, 12, 13], [2, 3]), ([14, 11, 13, 0, 1, 2, 3, 4, 5, 6, 7, 8, 9, 10, 11, 12, 13], [11, 14])])
def paths_line_Swap.B0 : List Nat := [0, 0, 0, 0, 0, 0, 48, 112, 0, 0, 768, 1792, 4083, 8179, 16383, 32767]
theorem paths_line_Swap.tab0 : rtab .any (opsOf Try.f54 0) = paths_line_Swap.T0 := by kernel_rfl
theorem paths_line_Swap.bits0 : waitsOk paths_line_Swap.T0.2 paths_line_Swap.B0 = true := by kernel_rfl
theorem paths_line_Swap.calls (P0_ : Nat → Prop) (u9000_ : Value) (l0 : List (S48)) (a1 : Int) (a2 : Int) (r : List (S48)) (w0 w : World) (hB : Below w0.heap.size w0 w) (ho0 : Kd.R k48 48 w w0.heap.size P0_ u9000_ l0) (h : paths_line_Swap.f l0 a1 a2 = some r) :
    Calls Try.prog 54 #[u9000_, .int .i64 a1, .int .i64 a2] w fun e w' => e = .returned (.tuple #[]) ∧ Kd.R k48 48 w' w0.heap.size (fun k_ => (P0_ k_ ∨ w.heap.size ≤ k_)) u9000_ r ∧ Below w0.heap.size w0 w' ∧ Kept w w' (fun k_ => P0_ k_) := by
  have hu48 := Try.underlying48
  have HO0 := zMk (show Kd.R k48 48 w w0.heap.size (fun k_ => (P0_ k_ ∨ w.heap.size ≤ k_)) u9000_ l0 from zRm ho0 (fun k_ hk => (.inl hk)))
  have HK := zMk (Kept.refl w (fun k_ => P0_ k_))
  have HW0 := zMk hB.size
  have HB := zMk hB
  clear hB
  have H : (if 0 ≤ a2 then (if a2 < (l0.length : Int) then (if 0 ≤ a1 then (if a1 < (l0.length : Int) then (some ((l0.set (a1 : Int).toNat (⟨(rd_T48 l0 a2).f0, (rd_T48 l0 a2).f1, (rd_T48 l0 a2).f2⟩ : S48)).set (a2 : Int).toNat (⟨(rd_T48 l0 a1).f0, (rd_T48 l0 a1).f1, (rd_T48 l0 a1).f2⟩ : S48))) else (none)) else (none)) else (none)) else (none)) = some r := h
  clear h
  by_cases c4 : 0 ≤ a2
  · rw [if_pos c4] at H
    have c4b0 : decide (0 ≤ a2) = true := decide_eq_true c4
    clear c4
    by_cases c5 : a2 < (l0.length : Int)
    rotate_left
    · rw [if_neg c5] at H; exact absurd H (by simp)
    rw [if_pos c5] at H
    have c5b0 : decide (a2 < (l0.length : Int)) = true := decide_eq_true c5
    clear c5
    by_cases c6 : 0 ≤ a1
    rotate_left
    · rw [if_neg c6] at H; exact absurd H (by simp)
    rw [if_pos c6] at H
    have c6b0 : decide (0 ≤ a1) = true := decide_eq_true c6
    clear c6
    by_cases c7 : a1 < (l0.length : Int)
    rotate_left
    · rw [if_neg c7] at H; exact absurd H (by simp)
    rw [if_pos c7] at H
    have c7b0 : decide (a1 < (l0.length : Int)) = true := decide_eq_true c7
    clear c7
    obtain ⟨y103, hy103⟩ : ∃ y_ : List (S48), y_ = (l0.set (a1 : Int).toNat (⟨(rd_T48 l0 a2).f0, (rd_T48 l0 a2).f1, (rd_T48 l0 a2).f2⟩ : S48)) := ⟨_, rfl⟩
    replace H : (some (y103.set (a2 : Int).toNat (⟨(rd_T48 l0 a1).f0, (rd_T48 l0 a1).f1, (rd_T48 l0 a1).f2⟩ : S48))) = some r := by first | (rw [hy103]; with_reducible exact H) | (have H2_ := bsm H; first | (rw [hy103]; with_reducible exact H2_) | with_reducible exact H2_) | with_reducible exact H | (rw [hy103]; exact H) | exact H
    have Ny103 := zMk hy103
    clear hy103
    obtain ⟨y104, hy104⟩ : ∃ y_ : List (S48), y_ = (y103.set (a2 : Int).toNat (⟨(rd_T48 l0 a1).f0, (rd_T48 l0 a1).f1, (rd_T48 l0 a1).f2⟩ : S48)) := ⟨_, rfl⟩
    replace H : (some y104) = some r := by first | (rw [hy104]; with_reducible exact H) | (have H2_ := bsm H; first | (rw [hy104]; with_reducible exact H2_) | with_reducible exact H2_) | with_reducible exact H | (rw [hy104]; exact H) | exact H
    have Ny104 := zMk hy104
    clear hy104
    obtain rfl := zOi H
    go_enter Try.func54, Try.ntmps54
    try go_wp2
    replace HO0 := zMk (zRd HO0.out)
    replace HK := zMk (Kept.drew HK.out)
    replace HB := zMk (zBd HB.out)
    obtain ⟨Ao11, co11, eo11⟩ := zRs HO0.out
    (first |  subst eo11|  (injection eo11 with f1_ f2_ f3_; have f4_ := f1_.symm; have f5_ := f3_.symm; clear f1_ f2_ f3_; subst f4_; subst f5_))
    have p101 : 0 ≤ (a2 : Int) := of_decide_eq_true (by assumption)
    have q101 : a2 < (l0.length : Int) := of_decide_eq_true (by assumption)
    obtain ⟨ad101, e101, hx101_0, hx101_1, hx101_2⟩ := at_T48 (zRr HO0.out).2.2 a2 p101 q101
    cases e101
    replace p101 := eq_true p101
    replace q101 := eq_true q101
    have p102 : 0 ≤ (a1 : Int) := of_decide_eq_true (by assumption)
    have q102 : a1 < (l0.length : Int) := of_decide_eq_true (by assumption)
    obtain ⟨ad102, e102, hx102_0, hx102_1, hx102_2⟩ := at_T48 (zRr HO0.out).2.2 a1 p102 q102
    obtain rfl : ad101 = ad102 := (by injection e102)
    replace p102 := eq_true p102
    replace q102 := eq_true q102
    have p8 : 0 ≤ (a1 : Int) := of_decide_eq_true (by assumption)
    have q8 : (a1 : Int) < ((l0.length : Int) : Int) := of_decide_eq_true (by assumption)
    obtain ⟨go8, co8, eo8, gb8, gl8, cl8, HG8⟩ := Kd.R_form HO0.out (by omega)
    (first |  cases eo8|  (injection eo8 with ea_ en_ ec_; (first |  subst ea_|  (injection ea_ with ea_; subst ea_)); subst ec_; clear en_))
    have GB8 := zMk gb8
    have IGB8 := ownGe GB8.out
    have IGB8 := ownGe GB8.out
    have GG8 := zMk HG8
    clear gb8 gl8 HG8
    have HMgo8 := zMk (show (P0_ go8 ∨ w.heap.size ≤ go8) from (HO0.out.1 _ rfl))
    (first | simp only [add_plain] at hx101_0 | skip)
    (first | simp only [add_plain] at hx101_1 | skip)
    (first | simp only [add_plain] at hx101_2 | skip)
    (first | simp only [add_plain] at hx102_0 | skip)
    (first | simp only [add_plain] at hx102_1 | skip)
    (first | simp only [add_plain] at hx102_2 | skip)
    obtain ⟨ce8, hcl8, hM8, hcc8, hfr8⟩ := Kd.R_elem HO0.out z48 (a1 : Int) p8 q8
    obtain rfl := k48_openM hM8
    have hx8_0 : World.cell? _ ⟨go8, (a1 : Int).toNat * 3, none⟩ = some (.int .i64 ((rd_T48 l0 a1).f0)) := hcc8 0 _ rfl
    have hx8_1 : World.cell? _ ⟨go8, (a1 : Int).toNat * 3 + 1, none⟩ = some (.int .i64 ((rd_T48 l0 a1).f1)) := hcc8 1 _ rfl
    have hx8_2 : World.cell? _ ⟨go8, (a1 : Int).toNat * 3 + 2, none⟩ = some (.int .i64 ((rd_T48 l0 a1).f2)) := hcc8 2 _ rfl
    have hf8_0 : World.frozen? _ ⟨go8, (a1 : Int).toNat * 3, none⟩ = false := hfr8 0
    have hf8_1 : World.frozen? _ ⟨go8, (a1 : Int).toNat * 3 + 1, none⟩ = false := hfr8 1
    have hf8_2 : World.frozen? _ ⟨go8, (a1 : Int).toNat * 3 + 2, none⟩ = false := hfr8 2
    clear hcl8 hcc8 hfr8 hM8
    replace p8 := eq_true p8
    replace q8 := eq_true q8
    obtain ⟨ce12, hcl12, hM12, hcc12, hfr12⟩ := Kd.R_elem HO0.out z48 (a1 : Int) (of_decide_eq_true (by assumption)) (by have h_ : (a1 : Int) < ((l0.length : Int) : Int) := of_decide_eq_true (by assumption); first | exact h_ | (have e_ := (zRr HO0.out).1; omega) | simpa using h_)
    obtain rfl := k48_openM hM12
    have HP12 := (Kd.R_seg HO0.out (a1 : Int) (of_decide_eq_true (by assumption)) (by have h_ : (a1 : Int) < ((l0.length : Int) : Int) := of_decide_eq_true (by assumption); first | exact h_ | (have e_ := (zRr HO0.out).1; omega) | simpa using h_) (seg := [.int .i64 ((rd_T48 l0 a2).f0), .int .i64 ((rd_T48 l0 a2).f1), .int .i64 ((rd_T48 l0 a2).f2)]) (j := 0) hcl12 hcc12 (show 3 ≤ 3 from by decide) (x' := (⟨(rd_T48 l0 a2).f0, (rd_T48 l0 a2).f1, (rd_T48 l0 a2).f2⟩ : S48)) (k48_mkM _ _ _ (⟨(rd_T48 l0 a2).f0, (rd_T48 l0 a2).f1, (rd_T48 l0 a2).f2⟩ : S48) ) (fun _ hk => hk)).1
    rw [← Ny103.out] at HP12
    have HQ12 := zMk HP12
    clear hcl12 hcc12 hfr12 hM12 HP12
    have p9 : 0 ≤ (a2 : Int) := of_decide_eq_true (by assumption)
    have q9 : (a2 : Int) < ((l0.length : Int) : Int) := of_decide_eq_true (by assumption)
    obtain ⟨ce9, hcl9, hM9, hcc9, hfr9⟩ := Kd.R_elem HQ12.out z48 (a2 : Int) p9 q9
    obtain rfl := k48_openM hM9
    have hx9_0 : World.cell? _ ⟨go8, (a2 : Int).toNat * 3, none⟩ = some (.int .i64 ((rd_T48 y103 a2).f0)) := hcc9 0 _ rfl
    have hx9_1 : World.cell? _ ⟨go8, (a2 : Int).toNat * 3 + 1, none⟩ = some (.int .i64 ((rd_T48 y103 a2).f1)) := hcc9 1 _ rfl
    have hx9_2 : World.cell? _ ⟨go8, (a2 : Int).toNat * 3 + 2, none⟩ = some (.int .i64 ((rd_T48 y103 a2).f2)) := hcc9 2 _ rfl
    have hf9_0 : World.frozen? _ ⟨go8, (a2 : Int).toNat * 3, none⟩ = false := hfr9 0
    have hf9_1 : World.frozen? _ ⟨go8, (a2 : Int).toNat * 3 + 1, none⟩ = false := hfr9 1
    have hf9_2 : World.frozen? _ ⟨go8, (a2 : Int).toNat * 3 + 2, none⟩ = false := hfr9 2
    clear hcl9 hcc9 hfr9 hM9
    replace p9 := eq_true p9
    replace q9 := eq_true q9
    obtain ⟨ce13, hcl13, hM13, hcc13, hfr13⟩ := Kd.R_elem HQ12.out z48 (a2 : Int) (of_decide_eq_true (by assumption)) (by have h_ : (a2 : Int) < ((l0.length : Int) : Int) := of_decide_eq_true (by assumption); first | exact h_ | (have e_ := (zRr HO0.out).1; omega) | simpa using h_)
    obtain rfl := k48_openM hM13
    have HP13 := (Kd.R_seg HQ12.out (a2 : Int) (of_decide_eq_true (by assumption)) (by have h_ : (a2 : Int) < ((l0.length : Int) : Int) := of_decide_eq_true (by assumption); first | exact h_ | (have e_ := (zRr HO0.out).1; omega) | simpa using h_) (seg := [.int .i64 ((rd_T48 l0 a1).f0), .int .i64 ((rd_T48 l0 a1).f1), .int .i64 ((rd_T48 l0 a1).f2)]) (j := 0) hcl13 hcc13 (show 3 ≤ 3 from by decide) (x' := (⟨(rd_T48 l0 a1).f0, (rd_T48 l0 a1).f1, (rd_T48 l0 a1).f2⟩ : S48)) (k48_mkM _ _ _ (⟨(rd_T48 l0 a1).f0, (rd_T48 l0 a1).f1, (rd_T48 l0 a1).f2⟩ : S48) ) (fun _ hk => hk)).1
    rw [← Ny104.out] at HP13
    have HQ13 := zMk HP13
    clear hcl13 hcc13 hfr13 hM13 HP13
    refine start_ (n := 16) (S := fun w' => w'.cell? ⟨go8, ((a2).toNat * 3), none⟩ = some (.int .i64 ((rd_T48 l0 a2).f0)) ∧ w'.cell? ⟨go8, ((a2).toNat * 3) + 1, none⟩ = some (.int .i64 ((rd_T48 l0 a2).f1)) ∧ w'.cell? ⟨go8, ((a2).toNat * 3) + 2, none⟩ = some (.int .i64 ((rd_T48 l0 a2).f2)) ∧ w'.cell? ⟨go8, ((a1).toNat * 3), none⟩ = some (.int .i64 ((rd_T48 l0 a1).f0)) ∧ w'.cell? ⟨go8, ((a1).toNat * 3) + 1, none⟩ = some (.int .i64 ((rd_T48 l0 a1).f1)) ∧ w'.cell? ⟨go8, ((a1).toNat * 3) + 2, none⟩ = some (.int .i64 ((rd_T48 l0 a1).f2))) (ds := [13, 15]) #[false, false, false, false, false, false, false, false, false, false, false, false, false, false, false, false] (by kernel_rfl) rfl rfl ⟨hx101_0, hx101_1, hx101_2, hx102_0, hx102_1, hx102_2⟩ (fun hHeld => ?_); refine with_tabW paths_line_Swap.tab0 paths_line_Swap.bits0 (fun HT_ HW_ => ?_)
    generalize w.drew = w10 at HO0 HK HB GG8 HQ12 HQ13 hf8_0 hf8_1 hf8_2 hf9_0 hf9_1 hf9_2 hx101_0 hx101_1 hx101_2 hx102_0 hx102_1 hx102_2 hx8_0 hx8_1 hx8_2 hx9_0 hx9_1 hx9_2 hHeld ⊢
    obtain ⟨sw0_, hsw0_⟩ := cell?_setCell_some (w := w10) (p := ⟨go8, (a1 : Int).toNat * 3, none⟩) (x := .int .i64 ((rd_T48 l0 a2).f0)) (q := ⟨go8, (a2 : Int).toNat * 3, none⟩) (v := .int .i64 ((rd_T48 l0 a2).f0)) (by first | assumption | (go_simp; done))
    obtain ⟨sw1_, hsw1_⟩ := cell?_setCell_some (w := (w10.setCell ⟨go8, (a1 : Int).toNat * 3, none⟩ (.int .i64 ((rd_T48 l0 a2).f0)))) (p := ⟨go8, (a1 : Int).toNat * 3 + 1, none⟩) (x := .int .i64 ((rd_T48 l0 a2).f1)) (q := ⟨go8, (a2 : Int).toNat * 3 + 1, none⟩) (v := .int .i64 ((rd_T48 l0 a2).f1)) (by first | assumption | (go_simp; done))
    obtain ⟨sw2_, hsw2_⟩ := cell?_setCell_some (w := ((w10.setCell ⟨go8, (a1 : Int).toNat * 3, none⟩ (.int .i64 ((rd_T48 l0 a2).f0))).setCell ⟨go8, (a1 : Int).toNat * 3 + 1, none⟩ (.int .i64 ((rd_T48 l0 a2).f1)))) (p := ⟨go8, (a1 : Int).toNat * 3 + 2, none⟩) (x := .int .i64 ((rd_T48 l0 a2).f2)) (q := ⟨go8, (a2 : Int).toNat * 3 + 2, none⟩) (v := .int .i64 ((rd_T48 l0 a2).f2)) (by first | assumption | (go_simp; done))
    obtain ⟨swc_, swl_, swm_, swv_, swf_⟩ := Kd.R_elem HO0.out z48 ((a2) : Int) (of_eq_true p101) (of_eq_true q101)
    clear swl_ swm_ swv_
    have swf0_ : w10.frozen? ⟨go8, ((a2) : Int).toNat * 3, none⟩ = false := swf_ 0
    have swf1_ : w10.frozen? ⟨go8, ((a2) : Int).toNat * 3 + 1, none⟩ = false := swf_ 1
    have swf2_ : w10.frozen? ⟨go8, ((a2) : Int).toNat * 3 + 2, none⟩ = false := swf_ 2
    clear swf_
    refine pure_ (i := 0) (N := some 6) (v := ?_) (a' := ?_) #[true, false, false, false, false, false, false, false, false, false, false, false, false, false, false, false] rfl rfl (any_of HT_.out (by kernel_rfl)) (fun _ _ _ h => h) (Or.inl ⟨by rfl, ?_⟩) ?_ ?_
    rotate_left
    · intro w'
      go_simp
      with_reducible rfl
    rotate_left
    · simp only [Act.put, zSa, zSb, zSc, i64_w, i32_w]
      rfl
    refine pure_ (i := 1) (N := some 7) (v := ?_) (a' := ?_) #[true, true, false, false, false, false, false, false, false, false, false, false, false, false, false, false] rfl rfl (any_of HT_.out (by kernel_rfl)) (fun _ _ _ h => h) (Or.inl ⟨by rfl, ?_⟩) ?_ ?_
    rotate_left
    · intro w'
      go_simp
      with_reducible rfl
    rotate_left
    · simp only [Act.put, zSa, zSb, zSc, i64_w, i32_w]
      rfl
    refine pure_ (i := 2) (N := some 8) (v := ?_) (a' := ?_) #[true, true, true, false, false, false, false, false, false, false, false, false, false, false, false, false] rfl rfl (any_of HT_.out (by kernel_rfl)) (fun _ _ _ h => h) (Or.inl ⟨by rfl, ?_⟩) ?_ ?_
    rotate_left
    · intro w'
      go_simp
      with_reducible rfl
    rotate_left
    · simp only [Act.put, zSa, zSb, zSc, i64_w, i32_w]
      rfl
    refine pure_ (i := 3) (N := some 9) (v := ?_) (a' := ?_) #[true, true, true, true, false, false, false, false, false, false, false, false, false, false, false, false] rfl rfl (any_of HT_.out (by kernel_rfl)) (fun _ _ _ h => h) (Or.inl ⟨by rfl, ?_⟩) ?_ ?_
    rotate_left
    · intro w'
      go_simp
      with_reducible rfl
    rotate_left
    · simp only [Act.put, zSa, zSb, zSc, i64_w, i32_w]
      rfl
    refine pure_ (i := 4) (N := some 10) (v := ?_) (a' := ?_) #[true, true, true, true, true, false, false, false, false, false, false, false, false, false, false, false] rfl rfl (any_of HT_.out (by kernel_rfl)) (fun _ _ _ h => h) (Or.inl ⟨by rfl, ?_⟩) ?_ ?_
    rotate_left
    · intro w'
      go_simp
      with_reducible rfl
    rotate_left
    · simp only [Act.put, zSa, zSb, zSc, i64_w, i32_w]
      rfl
    refine pure_ (i := 5) (N := some 11) (v := ?_) (a' := ?_) #[true, true, true, true, true, true, false, false, false, false, false, false, false, false, false, false] rfl rfl (any_of HT_.out (by kernel_rfl)) (fun _ _ _ h => h) (Or.inl ⟨by rfl, ?_⟩) ?_ ?_
    rotate_left
    · intro w'
      go_simp
      with_reducible rfl
    rotate_left
    · simp only [Act.put, zSa, zSb, zSc, i64_w, i32_w]
      rfl
    refine pure_ (i := 6) (N := some 12) (v := ?_) (a' := ?_) #[true, true, true, true, true, true, true, false, false, false, false, false, false, false, false, false] rfl rfl (any_of HT_.out (by kernel_rfl)) (fun _ _ _ h => h) (Or.inl ⟨by rfl, ?_⟩) ?_ ?_
    rotate_left
    · intro w'
      go_simp
      with_reducible rfl
    rotate_left
    · simp only [Act.put, zSa, zSb, zSc, i64_w, i32_w]
      rfl
    refine pure_ (i := 8) (N := some 14) (v := ?_) (a' := ?_) #[true, true, true, true, true, true, true, false, true, false, false, false, false, false, false, false] rfl rfl (any_of HT_.out (by kernel_rfl)) (fun _ _ _ h => h) (Or.inl ⟨by rfl, ?_⟩) ?_ ?_
    rotate_left
    · intro w'
      go_simp
      with_reducible rfl
    rotate_left
    · simp only [Act.put, zSa, zSb, zSc, i64_w, i32_w]
      rfl
    refine pure_ (i := 9) (N := some 15) (v := ?_) (a' := ?_) #[true, true, true, true, true, true, true, false, true, true, false, false, false, false, false, false] rfl rfl (any_of HT_.out (by kernel_rfl)) (fun _ _ _ h => h) (Or.inl ⟨by rfl, ?_⟩) ?_ ?_
    rotate_left
    · intro w'
      go_simp
      with_reducible rfl
    rotate_left
    · simp only [Act.put, zSa, zSb, zSc, i64_w, i32_w]
      rfl
    refine pure_ (i := 10) (N := some 16) (v := ?_) (a' := ?_) #[true, true, true, true, true, true, true, false, true, true, true, false, false, false, false, false] rfl rfl (any_of HT_.out (by kernel_rfl)) (fun _ _ _ h => h) (Or.inl ⟨by rfl, ?_⟩) ?_ ?_
    rotate_left
    · intro w'
      go_simp
      with_reducible rfl
    rotate_left
    · simp only [Act.put, zSa, zSb, zSc, i64_w, i32_w]
      rfl
    refine take_ (i := 7) (N := some 13) (v := ?_) (a' := ?_) #[true, true, true, true, true, true, true, true, true, true, true, false, false, false, false, false] rfl rfl (take_ofW HT_.out HW_.out (by kernel_rfl)) (fun _ _ _ h => h) (Or.inl ⟨by rfl, ?_⟩) hHeld ?_ ?_
    rotate_left
    · rintro w' ⟨s0, s1, s2, s3, s4, s5⟩
      go_simp
      with_reducible rfl
    rotate_left
    · simp only [Act.put, zSa, zSb, zSc, i64_w, i32_w]
      rfl
    refine take_ (i := 11) (N := some 17) (v := ?_) (a' := ?_) #[true, true, true, true, true, true, true, true, true, true, true, true, false, false, false, false] rfl rfl (take_ofW HT_.out HW_.out (by kernel_rfl)) (fun _ _ _ h => h) (Or.inl ⟨by rfl, ?_⟩) hHeld ?_ ?_
    rotate_left
    · rintro w' ⟨s0, s1, s2, s3, s4, s5⟩
      go_simp
      with_reducible rfl
    rotate_left
    · simp only [Act.put, zSa, zSb, zSc, i64_w, i32_w]
      rfl
    refine pure_ (i := 12) (N := some 18) (v := ?_) (a' := ?_) #[true, true, true, true, true, true, true, true, true, true, true, true, true, false, false, false] rfl rfl (any_of HT_.out (by kernel_rfl)) (fun _ _ _ h => h) (Or.inl ⟨by rfl, ?_⟩) ?_ ?_
    rotate_left
    · intro w'
      go_simp
      with_reducible rfl
    rotate_left
    · simp only [Act.put, zSa, zSb, zSc, i64_w, i32_w]
      rfl
    refine last_ (i := 13) (N := none) #[true, true, true, true, true, true, true, true, true, true, true, true, true, true, false, false] rfl rfl (one_of HT_.out (by kernel_rfl)) (by decide) (fun K hK => ?_)
    refine skip_ (w1 := ?_) (by rfl) rfl ?_ ?_
    rotate_left
    · go_simp
      rfl
    refine hK.out _ _ ?_
    clear hK K
    refine pure_ (i := 14) (N := some 19) (v := ?_) (a' := ?_) #[true, true, true, true, true, true, true, true, true, true, true, true, true, true, true, false] rfl rfl (any_of HT_.out (by kernel_rfl)) (fun _ _ _ h => h) (Or.inl ⟨by rfl, ?_⟩) ?_ ?_
    rotate_left
    · intro w'
      go_simp
      with_reducible rfl
    rotate_left
    · simp only [Act.put, zSa, zSb, zSc, i64_w, i32_w]
      rfl
    refine last_ (i := 15) (N := none) #[true, true, true, true, true, true, true, true, true, true, true, true, true, true, true, true] rfl rfl (one_of HT_.out (by kernel_rfl)) (by decide) (fun K hK => ?_)
    refine skip_ (w1 := ?_) (by rfl) rfl ?_ ?_
    rotate_left
    · go_simp
      rfl
    refine hK.out _ _ ?_
    clear hK K
    refine done_ (done_of HT_.out (by kernel_rfl)) ?_
    try go_wp2
    first | go_end0 | ((try simp only [Exit.inBlock, Exit.then]); refine bodyPost_ret (results_none rfl _ _ _) rfl ?_)
    exact ⟨by first | rfl | (simp [errW_none, errW_some] <;> rfl) | (simp [*, errW_none, errW_some] <;> rfl), by first | exact HQ13.out | exact uR HQ13.out, by exact uT HB.out, by repeat (first | (with_reducible first | exact HK.out | apply Kept.alloc | apply Kept.drewN | apply Kept.drew | refine Kept.setCell ?_ HMgo8.out _ | refine Kept.setCell ?_ HMgo8.out _ | refine Kept.setCell ?_ HMgo8.out _ | refine Kept.setCell ?_ HMgo8.out _ | refine Kept.setCell ?_ HMgo8.out _ | refine Kept.setCell ?_ HMgo8.out _) | exact HK.out)⟩
  · rw [if_neg c4] at H
    exact absurd H (by simp)

def far (xs : List S48) (i : Nat) : Int := (rd_T48 xs i).f0
def swp (xs : List S48) (i j : Nat) : List S48 := (xs.set i (rd_T48 xs j)).set j (rd_T48 xs i)
def hup : Nat → List S48 → Nat → List S48
  | 0, xs, _ => xs
  | k + 1, xs, j => if j = 0 then xs else if far xs j < far xs ((j - 1) / 2) then hup k (swp xs ((j - 1) / 2) j) ((j - 1) / 2) else xs

theorem load_box (W : World) (b : Nat) (v : Value) (h : W.cell? ⟨b, 0, none⟩ = some v) : (loadVar 50 ⟨b, 0, none⟩).run Try.prog W = .ok v W := by
  have := Try.underlying50
  simp [loadVar, this, h]
theorem swp_length (xs : List S48) (i j : Nat) : (swp xs i j).length = xs.length := by simp [swp]
theorem less_int (A : Option Addr) (c : Nat) (xs : List S48) (i j : Int) (w : World) (h1 : 0 ≤ i) (h2 : i < xs.length) (h3 : 0 ≤ j) (h4 : j < xs.length) (hc : xs.length ≤ c) (hC : Kd.C k48 w A xs.length xs) :
    Calls Try.prog 51 #[.slice A xs.length c, .int .i64 i, .int .i64 j] w fun e w' => e = .returned (.bool (decide ((rd_T48 xs i).f0 < (rd_T48 xs j).f0))) ∧ Drawn0 w w' := by
  have hu48 := Try.underlying48
  obtain ⟨ad, rfl, x0, _, _⟩ := at_T48 hC i h1 h2
  obtain ⟨ad2, e2, y0, _, _⟩ := at_T48 hC j h3 h4
  obtain rfl : ad = ad2 := by injection e2
  generalize (rd_T48 xs i).f0 = X at x0 ⊢
  generalize (rd_T48 xs j).f0 = Y at y0 ⊢
  replace h1 := eq_true h1
  replace h2 := eq_true h2
  replace h3 := eq_true h3
  replace h4 := eq_true h4
  clear hc hC e2
  go_enter Try.func51, Try.ntmps51
  go_wp2
  repeat (go_quiet (fail); try go_wp2)
  go_ret
  exact ⟨rfl, by repeat (first | exact Drawn0.refl _ | apply Drawn0.step)⟩
theorem less_calls (v : Value) (xs : List S48) (i j : Nat) (w : World) (base : Nat) (ok : Nat → Prop) (hi : i < xs.length) (hj : j < xs.length) (hR : Kd.R k48 48 w base ok v xs) :
    Calls Try.prog 51 #[v, .int .i64 i, .int .i64 j] w fun e w' => e = .returned (.bool (decide (far xs i < far xs j))) ∧ Drawn0 w w' := by
  obtain ⟨A, c, rfl, hc, hC⟩ := Kd.R_reads hR
  exact less_int A c xs i j w (by omega) (by omega) (by omega) (by omega) hc hC
theorem swap_calls (v : Value) (xs : List S48) (i j : Nat) (w0 w : World) (b : Nat) (hi : i < xs.length) (hj : j < xs.length) (hB : Below w0.heap.size w0 w) (hb : w.heap[b]? = some (.cells #[v] 50 (0, 0))) (hbv : v.ownBlock ≠ some b) (hR : Kd.R k48 48 w w0.heap.size (fun k => v.ownBlock = some k) v xs) :
    Calls Try.prog 54 #[v, .int .i64 i, .int .i64 j] w fun e w' => e = .returned (.tuple #[]) ∧ w'.heap[b]? = some (.cells #[v] 50 (0, 0)) ∧
      Kd.R k48 48 w' w0.heap.size (fun k => v.ownBlock = some k) v (swp xs i j) ∧ Below w0.heap.size w0 w' ∧ Kept w w' (fun k => v.ownBlock = some k) := by
  refine (paths_line_Swap.calls (fun k => v.ownBlock = some k) v xs i j (swp xs i j) w0 w hB hR ?_).mono ?_
  · unfold paths_line_Swap.f
    rw [if_pos (show 0 ≤ (j : Int) by omega), if_pos (show (j : Int) < xs.length by omega), if_pos (show 0 ≤ (i : Int) by omega), if_pos (show (i : Int) < xs.length by omega)]
    rfl
  · rintro e w' ⟨rfl, hR', hB', hK⟩
    refine ⟨rfl, blk_kept hb hK hbv, ?_, hB', hK⟩
    exact ⟨fun k hk => hk, hR'.2⟩
theorem meth_Less (n : Nat) (W : World) (b : Nat) (v : Value) (h : W.cell? ⟨b, 0, none⟩ = some v) : (method (n + 1) 46 (.pointer (some ⟨b, 0, none⟩)) "Less").run Try.prog W = .ok (51, v) W := by
  have e : (method (n + 1) 46 (.pointer (some ⟨b, 0, none⟩)) "Less").run Try.prog W = (do let v ← loadVar 50 ⟨b, 0, none⟩; pure (51, v) : Sem (FuncId × Value)).run Try.prog W := by kernel_rfl
  rw [e]
  simp [load_box W b v h]
theorem meth_Swap (n : Nat) (W : World) (b : Nat) (v : Value) (h : W.cell? ⟨b, 0, none⟩ = some v) : (method (n + 1) 46 (.pointer (some ⟨b, 0, none⟩)) "Swap").run Try.prog W = .ok (54, v) W := by
  have e : (method (n + 1) 46 (.pointer (some ⟨b, 0, none⟩)) "Swap").run Try.prog W = (do let v ← loadVar 50 ⟨b, 0, none⟩; pure (54, v) : Sem (FuncId × Value)).run Try.prog W := by kernel_rfl
  rw [e]
  simp [load_box W b v h]
theorem meth_Len (n : Nat) (W : World) (b : Nat) (v : Value) (h : W.cell? ⟨b, 0, none⟩ = some v) : (method (n + 1) 46 (.pointer (some ⟨b, 0, none⟩)) "Len").run Try.prog W = .ok (20, v) W := by
  have e : (method (n + 1) 46 (.pointer (some ⟨b, 0, none⟩)) "Len").run Try.prog W = (do let v ← loadVar 50 ⟨b, 0, none⟩; pure (20, v) : Sem (FuncId × Value)).run Try.prog W := by kernel_rfl
  rw [e]
  simp [load_box W b v h]
theorem meth_Push (n : Nat) (W : World) (b : Nat) : (method (n + 1) 46 (.pointer (some ⟨b, 0, none⟩)) "Push").run Try.prog W = .ok (53, .pointer (some ⟨b, 0, none⟩)) W := by kernel_rfl
theorem meth_Pop (n : Nat) (W : World) (b : Nat) : (method (n + 1) 46 (.pointer (some ⟨b, 0, none⟩)) "Pop").run Try.prog W = .ok (52, .pointer (some ⟨b, 0, none⟩)) W := by kernel_rfl
theorem up_calls (v : Value) (xs : List S48) (j : Nat) (w0 w : World) (b : Nat) (hj : j < xs.length) (hB : Below w0.heap.size w0 w) (hb : w.heap[b]? = some (.cells #[v] 50 (0, 0))) (hbv : v.ownBlock ≠ some b) (hR : Kd.R k48 48 w w0.heap.size (fun k => v.ownBlock = some k) v xs) :
    Calls Try.prog 30 #[.iface 46 (.pointer (some ⟨b, 0, none⟩)), .int .i64 j] w fun e w' => e = .returned (.tuple #[]) ∧ w'.heap[b]? = some (.cells #[v] 50 (0, 0)) ∧
      Kd.R k48 48 w' w0.heap.size (fun k => v.ownBlock = some k) v (hup xs.length xs j) ∧ Below w0.heap.size w0 w' ∧ Kept w w' (fun k => v.ownBlock = some k) := by
  have HB := zMk hB
  have HR := zMk hR
  have HBK := zMk hb
  have HV := zMk hbv
  have HJ := zMk hj
  have HK := zMk (Kept.refl w (fun k => v.ownBlock = some k))
  clear hB hR hb hbv hj
  go_enter Try.func30, Try.ntmps30
  go_wp2
  go_loopg [1] xs.length (fun kq v1 w' => ∃ (ys : List S48) (i : Nat), v1 = .int .i64 i ∧ Aside0 (hup kq ys i = hup xs.length xs j) ∧ Aside0 (i < kq ∧ ys.length = xs.length ∧ i < xs.length) ∧ Aside0 (w'.heap[b]? = some (.cells #[v] 50 (0, 0))) ∧ Aside0 (Kd.R k48 48 w' w0.heap.size (fun k => v.ownBlock = some k) v ys) ∧ Aside0 (Below w0.heap.size w0 w') ∧ Aside0 (Kept w w' (fun k => v.ownBlock = some k)))
  case atStart => exact ⟨xs, j, rfl, ⟨rfl⟩, ⟨HJ.out, rfl, HJ.out⟩, HBK, HR, HB, HK⟩
  clear HB HR HBK HK
  obtain ⟨ys, i, rfl, HA, HI, HBK, HR, HB, HK⟩ := hrel
  rcases gk with _ | k1
  · have := HI.out.1; omega
  by_cases c0 : i = 0
  · subst c0
    go_wp2
    have h0 : hup xs.length xs j = ys := by rw [← HA.out]; simp [hup]
    rw [h0]
    go_end0
    exact ⟨rfl, HBK.out, HR.out, HB.out, HK.out⟩
  · have hi := HI.out
    obtain ⟨A, c, rfl, hc, hC⟩ := Kd.R_reads HR.out
    have hlen := hC.2.1
    obtain ⟨p, hp⟩ : ∃ p, p = (i - 1) / 2 := ⟨_, rfl⟩
    have q1 : wrap64 ((i : Int) - 1) = (i : Int) - 1 := by unfold wrap64; omega
    have q2 : wrap64 (((i : Int) - 1).tdiv 2) = (p : Int) := by
      rw [Int.tdiv_eq_ediv_of_nonneg (by omega)]; unfold wrap64; omega
    have q3 : ((p : Int) == (i : Int)) = false := by rw [beq_eq_false_iff_ne]; omega
    have hm := meth_Less 192 wr b _ ((zKc HBK.out 0).trans rfl)
    have HP := zMk hp
    have HLEN := zMk hlen
    clear hp hi hlen
    go_wp2_with (fail)
    have hi := HI.out
    refine (less_calls _ ys i p wr _ _ (by omega) (by have := HP.out; omega) HR.out).mono ?_
    rintro e w1 ⟨rfl, hd⟩
    clear hm
    have hb1 := zKb HBK.out hd.below
    have hR1 := zRb HR.out hd.below
    have hB1 := zBt HB.out hd.below
    have hK1 := Kept.below HK.out hd.below
    clear HBK HR HB HK hd hC
    have HBK := zMk hb1
    have HR := zMk hR1
    have HB := zMk hB1
    have HK := zMk hK1
    clear hb1 hR1 hB1 hK1 hi
    by_cases c1 : far ys i < far ys p
    · rw [decide_eq_true c1]
      have hm := fun W b v h => meth_Swap 192 W b v h
      have hm1 := hm w1 b _ ((zKc HBK.out 0).trans rfl)
      clear hm
      go_wp2_with (fail)
      have hi := HI.out
      have hv := HV.out
      refine (swap_calls _ ys p i w0 w1 b (by have := HP.out; omega) (by omega) HB.out HBK.out hv HR.out).mono ?_
      rintro e w2 ⟨rfl, hb2, hR2, hB2, hk2⟩
      have hK2 := Kept.then_ HK.out hk2 (fun _ hk => .inl hk)
      clear HBK HR HB HK hi hv
      have hl := swp_length ys p i
      have HA2 : hup k1 (swp ys p i) p = hup xs.length xs j := by
        rw [← HA.out]
        conv => rhs; simp only [hup]
        rw [if_neg c0, ← HP.out, if_pos c1]
      have HH := zMk HA2
      clear HA HA2
      go_wp2
      go_roundg k1
      case measure => omega
      case rel =>
        have hi := HI.out
        exact ⟨_, p, rfl, HH, ⟨by have := HP.out; omega, by rw [hl]; exact hi.2.1, by have := HP.out; omega⟩, ⟨hb2⟩, ⟨hR2⟩, ⟨hB2⟩, ⟨hK2⟩⟩
    · rw [decide_eq_false c1]
      have h0 : hup xs.length xs j = ys := by
        rw [← HA.out]; simp only [hup]; rw [if_neg c0, ← HP.out, if_neg c1]
      have H0 := zMk h0
      clear h0
      go_wp2
      go_end0
      rw [H0.out]
      exact ⟨rfl, HBK.out, HR.out, HB.out, HK.out⟩

def hdown : Nat → List S48 → Nat → Nat → List S48
  | 0, xs, _, _ => xs
  | k + 1, xs, i, n =>
    if 2 * i + 1 ≥ n then xs
    else
      let j := if 2 * i + 2 < n then (if far xs (2 * i + 2) < far xs (2 * i + 1) then 2 * i + 2 else 2 * i + 1) else 2 * i + 1
      if far xs j < far xs i then hdown k (swp xs i j) j n else xs

theorem down_calls (v : Value) (xs : List S48) (n : Nat) (w0 w : World) (b : Nat) (h0 : 0 < xs.length) (hn : n ≤ xs.length) (hl : xs.length ≤ 17592186044416) (hB : Below w0.heap.size w0 w) (hb : w.heap[b]? = some (.cells #[v] 50 (0, 0))) (hbv : v.ownBlock ≠ some b) (hR : Kd.R k48 48 w w0.heap.size (fun k => v.ownBlock = some k) v xs) :
    Calls Try.prog 29 #[.iface 46 (.pointer (some ⟨b, 0, none⟩)), .int .i64 0, .int .i64 n] w fun e w' => (∃ r, e = .returned (.bool r)) ∧ w'.heap[b]? = some (.cells #[v] 50 (0, 0)) ∧
      Kd.R k48 48 w' w0.heap.size (fun k => v.ownBlock = some k) v (hdown xs.length xs 0 n) ∧ Below w0.heap.size w0 w' ∧ Kept w w' (fun k => v.ownBlock = some k) := by
  have HB := zMk hB
  have HR := zMk hR
  have HBK := zMk hb
  have HV := zMk hbv
  have HN := zMk hn
  have HL := zMk hl
  have H0 := zMk h0
  have HK := zMk (Kept.refl w (fun k => v.ownBlock = some k))
  obtain ⟨N, hN⟩ : ∃ N : Int, (n : Int) = N := ⟨_, rfl⟩
  rw [hN]
  have HNN := zMk hN
  clear hB hR hb hbv hn hl h0 hN
  go_enter Try.func29, Try.ntmps29
  go_wp2
  go_loopg [7] xs.length (fun kq v7 w' => ∃ (ys : List S48) (i : Int), v7 = .int .i64 i ∧ Aside0 (hdown kq ys i.toNat n = hdown xs.length xs 0 n) ∧ Aside0 (0 ≤ i ∧ (xs.length : Int) ≤ i + kq ∧ ys.length = xs.length ∧ i < xs.length) ∧ Aside0 (w'.heap[b]? = some (.cells #[v] 50 (0, 0))) ∧ Aside0 (Kd.R k48 48 w' w0.heap.size (fun k => v.ownBlock = some k) v ys) ∧ Aside0 (Below w0.heap.size w0 w') ∧ Aside0 (Kept w w' (fun k => v.ownBlock = some k)))
  case atStart => exact ⟨xs, 0, rfl, ⟨rfl⟩, ⟨by omega, by omega, rfl, by have := H0.out; omega⟩, HBK, HR, HB, HK⟩
  clear HB HR HBK HK
  obtain ⟨ys, i, rfl, HA, HI, HBK, HR, HB, HK⟩ := hrel
  rcases gk with _ | k1
  · have := HI.out; omega
  obtain ⟨I2, hI2⟩ : ∃ I2 : Int, 2 * i = I2 := ⟨_, rfl⟩
  obtain ⟨J1, hJ1⟩ : ∃ J1 : Int, I2 + 1 = J1 := ⟨_, rfl⟩
  have q1 : wrap64 (2 * i) = I2 := by have := HI.out; have := HL.out; unfold wrap64; omega
  have q2 : wrap64 (I2 + 1) = J1 := by have := HI.out; have := HL.out; unfold wrap64; omega
  have HJ1 := zMk (show J1 = 2 * i + 1 by omega)
  clear hI2 hJ1
  by_cases c0 : N ≤ J1
  · have p0 : decide (J1 ≥ N) = true := decide_eq_true c0
    have h1 : hdown xs.length xs 0 n = ys := by
      rw [← HA.out]; simp only [hdown]; rw [if_pos (by have := HI.out; have := HJ1.out; have := HNN.out; omega)]
    have H1 := zMk h1
    clear h1 c0
    go_wp2
    go_ret
    rw [H1.out]
    exact ⟨⟨_, rfl⟩, HBK.out, HR.out, HB.out, HK.out⟩
  · have p0 : decide (J1 ≥ N) = false := decide_eq_false c0
    have p1 : decide (J1 < 0) = false := decide_eq_false (by have := HI.out; have := HJ1.out; omega)
    have C0 := zMk c0
    clear c0
    obtain ⟨J2, hJ2⟩ : ∃ J2 : Int, J1 + 1 = J2 := ⟨_, rfl⟩
    have q3 : wrap64 (J1 + 1) = J2 := by have := HI.out; have := HL.out; have := HJ1.out; unfold wrap64; omega
    have HJ2 := zMk (show J2 = 2 * i + 2 by have := HJ1.out; omega)
    clear hJ2
    obtain ⟨A, c, rfl, hc, hC⟩ := Kd.R_reads HR.out
    have HC := zMk hC
    clear hC
    go_upto_region 6 with (fail)
    simp only [q1, q2, q3]
    go_cut [33] (fun v33 wc => ∃ (B : Bool), v33 = .bool B ∧ Aside0 (B = decide (J2 < N ∧ (rd_T48 ys J2).f0 < (rd_T48 ys J1).f0)) ∧ Aside0 (wc.heap[b]? = some (.cells #[.slice A ys.length c] 50 (0, 0))) ∧ Aside0 (Kd.R k48 48 wc w0.heap.size (fun k => (Value.slice A ys.length c).ownBlock = some k) (.slice A ys.length c) ys) ∧ Aside0 (Below w0.heap.size w0 wc) ∧ Aside0 (Kept w wc (fun k => (Value.slice A ys.length c).ownBlock = some k)))
    case first =>
      by_cases c1 : J2 < N
      · have p2 : decide (J2 < N) = true := decide_eq_true c1
        have C1 := zMk c1
        clear c1
        have hm := meth_Less 192 wr b _ ((zKc HBK.out 0).trans rfl)
        go_wp2_with (fail)
        refine (less_int A c ys J2 J1 wr (by have := HI.out; have := HJ2.out; omega) (by have := HI.out; have := HN.out; have := HNN.out; have := C1.out; omega) (by have := HI.out; have := HJ1.out; omega) (by have := HI.out; have := HN.out; have := HNN.out; have := C0.out; omega) hc HC.out).mono ?_
        rintro e w1 ⟨rfl, hd⟩
        clear hm
        have hb1 := zKb HBK.out hd.below
        have hR1 := zRb HR.out hd.below
        have hB1 := zBt HB.out hd.below
        have hK1 := Kept.below HK.out hd.below
        go_wp2
        go_meet
        case rel => exact ⟨_, rfl, ⟨by simp [C1.out]⟩, ⟨hb1⟩, ⟨hR1⟩, ⟨hB1⟩, ⟨hK1⟩⟩
      · have p2 : decide (J2 < N) = false := decide_eq_false c1
        have C1 := zMk c1
        clear c1
        go_wp2
        go_meet
        case rel => exact ⟨_, rfl, ⟨(decide_eq_false (fun h => by have := C1.out; omega)).symm⟩, HBK, HR, HB, HK⟩
    case rest =>
      clear HBK HR HB HK HC
      obtain ⟨B, rfl, HBB, HBK, HR, HB, HK⟩ := hcut
      clear q1 q2 q3 p0 p1
      obtain ⟨J, hJ⟩ : ∃ J : Int, (if B = true then J2 else J1) = J := ⟨_, rfl⟩
      have hJb : 0 ≤ J ∧ J < ys.length ∧ i < J := by
        have := HI.out; have := HJ1.out; have := HJ2.out; have := HN.out; have := HNN.out; have := C0.out; have hBB := HBB.out
        cases B
        · simp at hJ; omega
        · simp at hJ; simp at hBB; omega
      have hA2 : hdown xs.length xs 0 n = if far ys J.toNat < far ys i.toNat then hdown k1 (swp ys i.toNat J.toNat) J.toNat n else ys := by
        have := HI.out; have hj1 := HJ1.out; have hj2 := HJ2.out; have := HNN.out; have := C0.out; have hBB := HBB.out
        have e1 : 2 * i.toNat + 1 = J1.toNat := by omega
        have e2 : 2 * i.toNat + 2 = J2.toNat := by omega
        have e3 : (far ys J2.toNat < far ys J1.toNat) ↔ ((rd_T48 ys J2).f0 < (rd_T48 ys J1).f0) := by unfold far; rw [Int.toNat_of_nonneg (by omega), Int.toNat_of_nonneg (by omega)]
        rw [← HA.out]
        simp only [hdown, e1, e2]
        rw [if_neg (by omega)]
        have e4 : (if J2.toNat < n then if far ys J2.toNat < far ys J1.toNat then J2.toNat else J1.toNat else J1.toNat) = J.toNat := by
          rw [← hJ, hBB]
          by_cases c1 : J2 < N
          · rw [if_pos (by omega)]
            by_cases c2 : (rd_T48 ys J2).f0 < (rd_T48 ys J1).f0
            · rw [if_pos (e3.2 c2)]; simp [c1, c2]
            · rw [if_neg (fun h => c2 (e3.1 h))]; simp [c2]
          · rw [if_neg (by omega)]; simp [c1]
        rw [e4]
      have HA2 := zMk hA2
      have HJ := zMk hJb
      clear hA2 hJb
      have hJ' : (B = false ∧ J = J1) ∨ (B = true ∧ J = J2) := by
        cases B
        · left; simpa using hJ.symm
        · right; simpa using hJ.symm
      clear hJ HBB
      rcases hJ' with ⟨rfl, rfl⟩ | ⟨rfl, rfl⟩
      all_goals
        obtain ⟨_, _, e_, _, hC⟩ := Kd.R_reads HR.out
        cases e_
        have hm := meth_Less 192 wc b _ ((zKc HBK.out 0).trans rfl)
        have HC := zMk hC
        clear hC
        go_wp2_with (fail)
        have hJ := HJ.out
        refine (less_int _ _ ys J i wc (by omega) (by omega) (by have := HI.out; omega) (by omega) hc HC.out).mono ?_
        rintro e w1 ⟨rfl, hd⟩
        clear hm
        have hb1 := zKb HBK.out hd.below
        have hR1 := zRb HR.out hd.below
        have hB1 := zBt HB.out hd.below
        have hK1 := Kept.below HK.out hd.below
        clear HBK HR HB HK hd HC hJ
        have HBK := zMk hb1
        have HR := zMk hR1
        have HB := zMk hB1
        have HK := zMk hK1
        clear hb1 hR1 hB1 hK1
        have hi := HI.out
        have hJ := HJ.out
        obtain ⟨iN, hiN⟩ : ∃ iN : Nat, (iN : Int) = i := ⟨i.toNat, by omega⟩
        obtain ⟨JN, hJN⟩ : ∃ JN : Nat, (JN : Int) = J := ⟨J.toNat, by omega⟩
        have e1 : i.toNat = iN := by omega
        have e2 : J.toNat = JN := by omega
        by_cases c1 : (rd_T48 ys J).f0 < (rd_T48 ys i).f0
        · rw [decide_eq_true c1]
          have hA3 : hdown k1 (swp ys iN JN) (J.toNat) n = hdown xs.length xs 0 n := by
            rw [HA2.out, e1, e2, if_pos]
            unfold far; rw [hiN, hJN]; exact c1
          have hsw := fun hv => swap_calls _ ys iN JN w0 w1 b (by omega) (by omega) HB.out HBK.out hv HR.out
          rw [hiN, hJN] at hsw
          have HSW := zMk hsw
          have HH := zMk hA3
          have HE := zMk (And.intro hiN hJN)
          have hm := meth_Swap 192 w1 b _ ((zKc HBK.out 0).trans rfl)
          clear hi hJ hiN hJN e1 e2 c1 hsw hA3
          go_wp2_with (fail)
          refine (HSW.out HV.out).mono ?_
          rintro e w2 ⟨rfl, hb2, hR2, hB2, hk2⟩
          have hK2 := Kept.then_ HK.out hk2 (fun _ hk => .inl hk)
          clear HBK HR HB HK HSW hm
          have hl := swp_length ys iN JN
          go_wp2
          go_roundg k1
          case measure => omega
          case rel =>
            have hi := HI.out
            have hJ := HJ.out
            exact ⟨_, J, rfl, HH, ⟨by omega, by omega, by rw [hl]; exact hi.2.2.1, by omega⟩, ⟨hb2⟩, ⟨hR2⟩, ⟨hB2⟩, ⟨hK2⟩⟩
        · rw [decide_eq_false c1]
          have h0 : hdown xs.length xs 0 n = ys := by
            rw [HA2.out, e1, e2, if_neg]
            unfold far; rw [hiN, hJN]; exact c1
          have H0 := zMk h0
          clear hi hJ hiN hJN e1 e2 c1 h0
          go_wp2
          go_ret
          rw [H0.out]
          exact ⟨⟨_, rfl⟩, HBK.out, HR.out, HB.out, HK.out⟩

def lastOf (xs : List S48) : S48 := rd_T48 xs ((xs.length : Int) - 1)
theorem linePop_calls (v : Value) (xs : List S48) (w0 w : World) (b : Nat) (h0 : 0 < xs.length) (hbb : w0.heap.size ≤ b) (hB : Below w0.heap.size w0 w) (hb : w.heap[b]? = some (.cells #[v] 50 (0, 0))) (hbv : v.ownBlock ≠ some b) (hR : Kd.R k48 48 w w0.heap.size (fun k => v.ownBlock = some k) v xs) :
    Calls Try.prog 52 #[.pointer (some ⟨b, 0, none⟩)] w fun e w' => e = .returned (.iface 48 (.agg #[.int .i64 (lastOf xs).f0, .int .i64 (lastOf xs).f1, .int .i64 (lastOf xs).f2])) ∧ ∃ v', v'.ownBlock = v.ownBlock ∧ w'.heap[b]? = some (.cells #[v'] 50 (0, 0)) ∧
      Kd.R k48 48 w' w0.heap.size (fun k => v'.ownBlock = some k) v' xs.dropLast ∧ Below w0.heap.size w0 w' ∧ Kept w w' (fun k => k = b) := by
  have hu48 := Try.underlying48
  obtain ⟨A, c, rfl, hc, hC⟩ := Kd.R_reads hR
  have hlen := hC.2.1
  obtain ⟨N, hN⟩ : ∃ N : Int, (xs.length : Int) - 1 = N := ⟨_, rfl⟩
  have q1 : wrap64 ((xs.length : Int) - 1) = N := by unfold wrap64; omega
  have h1 : 0 ≤ N := by omega
  have h2 : N < xs.length := by omega
  obtain ⟨ad, rfl, x0, x1, x2⟩ := at_T48 hC N h1 h2
  have hl : lastOf xs = rd_T48 xs N := by unfold lastOf; rw [hN]
  rw [hl]
  have z0 : w.cell? ⟨b, 0, none⟩ = some (.slice (some ad) xs.length c) := (zKc hb 0).trans rfl
  have zf := zKf hb 0
  have hcut := cut_to 50 48 .i64 (P := Try.prog) Try.underlying50 rfl (some ad) xs.length c N h1 (by omega) hc
  have HB := zMk hB
  have HR := zMk hR
  have HBK := zMk hb
  have HN := zMk hN
  have HL := zMk (And.intro h0 hbb)
  have HV := zMk hbv
  replace h1 := eq_true h1
  replace h2 := eq_true h2
  clear hB hR hb hN hlen hl h0 hbb hbv
  go_enter Try.func52, Try.ntmps52
  go_upto_region 3 with (fail)
  have B1 := zKa HBK.out (.cells #[.int .i64 (rd_T48 xs N).f0, .int .i64 (rd_T48 xs N).f1, .int .i64 (rd_T48 xs N).f2] 48)
  have N1 := heap_alloc_new w (.cells #[.int .i64 (rd_T48 xs N).f0, .int .i64 (rd_T48 xs N).f1, .int .i64 (rd_T48 xs N).f2] 48)
  have E1 := (Below.refl w.heap.size w).alloc (Nat.le_refl _) (.cells #[.int .i64 (rd_T48 xs N).f0, .int .i64 (rd_T48 xs N).f1, .int .i64 (rd_T48 xs N).f2] 48)
  generalize w.alloc (.cells #[.int .i64 (rd_T48 xs N).f0, .int .i64 (rd_T48 xs N).f1, .int .i64 (rd_T48 xs N).f2] 48) = w1 at B1 N1 E1 ⊢
  clear z0 zf
  have z0 : w1.cell? ⟨b, 0, none⟩ = some (.slice (some ad) xs.length c) := (zKc B1 0).trans rfl
  have zf := zKf B1 0
  have hne : w.heap.size ≠ b := by have := blk_lt HBK.out; omega
  have n0 := (zKc (blk_far (p := ⟨b, 0, none⟩) N1 hne (.slice (some ad) N.toNat c)) 0).trans rfl
  have n1 := (zKc (blk_far (p := ⟨b, 0, none⟩) N1 hne (.slice (some ad) N.toNat c)) 1).trans rfl
  have n2 := (zKc (blk_far (p := ⟨b, 0, none⟩) N1 hne (.slice (some ad) N.toNat c)) 2).trans rfl
  have BB := zMk B1
  have EE := zMk E1
  clear B1 E1 N1
  go_wp2
  go_ret
  have hN := HN.out
  have hL := HL.out
  have hv : (Value.slice (some ad) xs.length c).ownBlock = some ad.block := rfl
  have hne2 : ad.block ≠ b := fun h => HV.out (by rw [hv, h])
  refine ⟨rfl, .slice (some ad) N.toNat c, rfl, blk_set BB.out 0 _, ?_, below_set (zBt HB.out EE.out) hL.2, Kept.setCell (S := fun k => k = b) (p := ⟨b, 0, none⟩) (Kept.of_below EE.out _) (.inl rfl) _⟩
  have hd : xs.dropLast = xs.take N.toNat := by rw [List.dropLast_eq_take]; congr 1; omega
  rw [hd]
  have hR2 := Kd.R_take (m := N.toNat) (zRb HR.out EE.out) (by omega)
  exact Kd.R_far hR2 (fun k hk => by rw [hv] at hk; cases hk; exact hne2) _
theorem linePush_calls (v : Value) (xs : List S48) (x : S48) (w0 w : World) (b : Nat) (hbb : w0.heap.size ≤ b) (hl : xs.length < 1000000000000) (hB : Below w0.heap.size w0 w) (hb : w.heap[b]? = some (.cells #[v] 50 (0, 0))) (hbv : v.ownBlock ≠ some b) (hR : Kd.R k48 48 w w0.heap.size (fun k => v.ownBlock = some k) v xs) :
    Calls Try.prog 53 #[.pointer (some ⟨b, 0, none⟩), .iface 48 (.agg #[.int .i64 x.f0, .int .i64 x.f1, .int .i64 x.f2])] w fun e w' => e = .returned (.tuple #[]) ∧ ∃ v', (v'.ownBlock = v.ownBlock ∨ ∃ g, v'.ownBlock = some g ∧ w.heap.size ≤ g) ∧ w'.heap[b]? = some (.cells #[v'] 50 (0, 0)) ∧
      Kd.R k48 48 w' w0.heap.size (fun k => v'.ownBlock = some k) v' (xs ++ [x]) ∧ Below w0.heap.size w0 w' ∧ Kept w w' (fun k => k = b ∨ v.ownBlock = some k) := by
  have hu48 := Try.underlying48
  have hta : ∀ (W : World) (y : Value), (Instr.typeAssert (.iface 48 y) 20 48 false).run Try.prog W = .ok y W := fun W y => by kernel_rfl
  obtain ⟨A, c, rfl, hc, hC⟩ := Kd.R_reads hR
  have z0 : w.cell? ⟨b, 0, none⟩ = some (.slice A xs.length c) := (zKc hb 0).trans rfl
  have zf := zKf hb 0
  have HB := zMk hB
  have HR := zMk hR
  have HBK := zMk hb
  have HL := zMk (And.intro hl hbb)
  have HV := zMk hbv
  clear hB hR hb hl hbb hbv hC
  go_enter Try.func53, Try.ntmps53
  -- REG
  have HB5 := zMk (zBd HB.out)
  have BZ5 := zMk (zKd HBK.out)
  have HR5 := zMk (zRd HR.out)
  have HK5 := zMk (Kept.drew (Kept.refl w (fun k => k = b ∨ (Value.slice A xs.length c).ownBlock = some k)))
  have HSZ := zMk (show w.drew.heap.size = w.heap.size from rfl)
  refine start_ (n := 10) (S := fun w' => w'.cell? ⟨b, 0, none⟩ = some (.slice A xs.length c)) (ds := [9]) #[false, false, false, false, false, false, false, false, false, false] (by kernel_rfl) rfl rfl (z0) (fun hHeld => ?_)
  generalize w.drew = w5 at HB5 BZ5 HR5 HK5 HSZ hHeld ⊢
  refine pure_ (i := 0) (N := some 4) (v := ?_) (a' := ?_) #[true, false, false, false, false, false, false, false, false, false] rfl rfl (by kernel_rfl) (fun _ _ _ h => h) (Or.inl ⟨by rfl, ?_⟩) ?_ ?_
  rotate_left
  · intro w'
    go_simp
    with_reducible rfl
  rotate_left
  · simp only [Act.put, zSa, zSb, zSc, i64_w, i32_w]
    rfl
  refine pure_ (i := 1) (N := some 5) (v := ?_) (a' := ?_) #[true, true, false, false, false, false, false, false, false, false] rfl rfl (by kernel_rfl) (fun _ _ _ h => h) (Or.inl ⟨by rfl, ?_⟩) ?_ ?_
  rotate_left
  · intro w'
    go_simp
    with_reducible rfl
  rotate_left
  · simp only [Act.put, zSa, zSb, zSc, i64_w, i32_w]
    rfl
  refine pure_ (i := 2) (N := some 6) (v := ?_) (a' := ?_) #[true, true, true, false, false, false, false, false, false, false] rfl rfl (by kernel_rfl) (fun _ _ _ h => h) (Or.inl ⟨by rfl, ?_⟩) ?_ ?_
  rotate_left
  · intro w'
    go_simp
    with_reducible rfl
  rotate_left
  · simp only [Act.put, zSa, zSb, zSc, i64_w, i32_w]
    rfl
  refine pure_ (i := 4) (N := some 8) (v := ?_) (a' := ?_) #[true, true, true, false, true, false, false, false, false, false] rfl rfl (by kernel_rfl) (fun _ _ _ h => h) (Or.inl ⟨by rfl, ?_⟩) ?_ ?_
  rotate_left
  · intro w'
    go_simp
    with_reducible rfl
  rotate_left
  · simp only [Act.put, zSa, zSb, zSc, i64_w, i32_w]
    rfl
  refine pure_ (i := 5) (N := some 9) (v := ?_) (a' := ?_) #[true, true, true, false, true, true, false, false, false, false] rfl rfl (by kernel_rfl) (fun _ _ _ h => h) (Or.inl ⟨by rfl, ?_⟩) ?_ ?_
  rotate_left
  · intro w'
    go_simp
    with_reducible rfl
  rotate_left
  · simp only [Act.put, zSa, zSb, zSc, i64_w, i32_w]
    rfl
  refine take_ (i := 3) (N := some 7) (v := ?_) (a' := ?_) #[true, true, true, true, true, true, false, false, false, false] rfl rfl (by kernel_rfl) (fun _ _ _ h => h) (Or.inl ⟨by rfl, ?_⟩) hHeld ?_ ?_
  rotate_left
  · intro w' s0
    go_simp
    with_reducible rfl
  rotate_left
  · simp only [Act.put, zSa, zSb, zSc, i64_w, i32_w]
    rfl
  refine one_ (i := 6) (N := some 10) #[true, true, true, true, true, true, true, false, false, false] rfl rfl (by kernel_rfl) (by decide) (fun K hK => ?_)
  refine value_ (w1 := ?_) (v := ?_) (by rfl) rfl ?_ ?_
  rotate_left 2
  · go_simp
    constructor
    · rfl
    · rfl
  refine hK.out _ _ ((World.cell?_alloc_lt _ _ _ (World.block_lt_of_cell? _ _ hHeld)).trans hHeld) (fun hHeld => ?_)
  clear hK K
  refine norm_ (a' := ?_) ?_ ?_
  rotate_left
  · show Act.put _ (some 10) _ = _
    simp only [Act.put, zSa, zSb, zSc, i64_w, i32_w]
    rfl
  refine one_ (i := 7) (N := some 11) #[true, true, true, true, true, true, true, true, false, false] rfl rfl (by kernel_rfl) (by decide) (fun K hK => ?_)
  refine Kd.R_append_step k48 (w0 := w0) w0.heap.size (by rfl) (.tmp 7) (.tmp 10) 50 48 (.agg #[.int .i64 0, .int .i64 0, .int .i64 0]) 24 rfl Try.underlying50 info48 rfl (by decide) (by omega) (.slice A xs.length c) xs x [.int .i64 x.f0, .int .i64 x.f1, .int .i64 x.f2] (fun k => (Value.slice A xs.length c).ownBlock = some k ∨ w.heap.size ≤ k) (fun _ => False) rfl rfl ?aP (fun _ hk => hk.elim) ?aF ?aO ?aB ?aS ?aL ?_
  (case aP => exact k48_mkM _ _ _ x)
  (case aB => exact HB5.out)
  (case aF => exact (fun k hk => .inr (by have := HSZ.out; omega)))
  (case aO => exact zRm HR5.out (fun _ hk => .inl hk))
  (case aS => exact HB5.out.size)
  (case aL => have := HL.out.1; omega)
  intro v1 w6 ho hb hg hat
  have hcg_ := Go.Proofs.YtnigaojboililaaW.PrintWords.cell_grown hg (show w5.cell? ⟨b, 0, none⟩ = some (.slice A xs.length c) from (zKc BZ5.out 0).trans rfl) (fun h => HV.out h.symm)
  have BZ6 := zMk (blk_grown BZ5.out hg (fun h => HV.out h.symm))
  obtain ⟨A1, c1, e1_⟩ := zRs ho
  subst e1_
  have HO6 := zMk ho
  have HB6 := zMk hb
  have HG6 := zMk hg
  have HAT := zMk hat
  clear ho hb hg hat
  refine hK.out _ _ (hcg_) (fun hHeld => ?_)
  clear hK K
  refine norm_ (a' := ?_) ?_ ?_
  rotate_left
  · show Act.put _ (some 11) _ = _
    simp only [Act.put, zSa, zSb, zSc, i64_w, i32_w]
    rfl
  refine pure_ (i := 8) (N := some 12) (v := ?_) (a' := ?_) #[true, true, true, true, true, true, true, true, true, false] rfl rfl (by kernel_rfl) (fun _ _ _ h => h) (Or.inl ⟨by rfl, ?_⟩) ?_ ?_
  rotate_left
  · intro w'
    go_simp
    with_reducible rfl
  rotate_left
  · simp only [Act.put, zSa, zSb, zSc, i64_w, i32_w]
    rfl
  refine last_ (i := 9) (N := none) #[true, true, true, true, true, true, true, true, true, true] rfl rfl (by kernel_rfl) (by decide) (fun K hK => ?_)
  have zf_ := zKf BZ6.out 0
  have zz_ : w6.cell? ⟨b, 0, none⟩ = some (.slice A xs.length c) := (zKc BZ6.out 0).trans rfl
  refine skip_ (w1 := ?_) (by rfl) rfl ?_ ?_
  rotate_left
  · go_simp
    rfl
  refine hK.out _ _ ?_
  clear hK K
  refine done_ (by kernel_rfl) ?_

  go_end0
  have hv := HAT.out
  have hs := HSZ.out
  have hne : (Value.slice A1 (xs ++ [x]).length c1).ownBlock ≠ some b := by
    rcases hv with hv | ⟨g, hg, hle⟩
    · rw [hv]; exact HV.out
    · rw [hg]; intro e; have := blk_lt HBK.out; simp only [Option.some.injEq] at e; omega
  have hl2 : (xs ++ [x]).length = xs.length + 1 := by simp
  have ho := HO6.out
  rw [hl2] at hne hv ho
  refine ⟨rfl, .slice A1 (xs.length + 1) c1, ?_, blk_set BZ6.out 0 _, ?_, below_set HB6.out HL.out.2, ?_⟩
  · rcases hv with hv | ⟨g, hg, hle⟩
    · exact .inl hv
    · exact .inr ⟨g, hg, by omega⟩
  · refine Kd.R_far (p := ⟨b, 0, none⟩) (ok := fun k => (Value.slice A1 (xs.length + 1) c1).ownBlock = some k) ⟨fun k hk => hk, ho.2⟩ (fun k hk e => hne (by rw [hk, e])) _
  · refine Kept.setCell ?_ (.inl (.inl rfl)) _
    exact Kept.of_grown HG6.out HK5.out (fun k hk => .inl (.inr hk))

def hpush (xs : List S48) (x : S48) : List S48 := hup (xs.length + 1) (xs ++ [x]) xs.length
def hdn (xs : List S48) : List S48 := hdown xs.length (swp xs 0 (xs.length - 1)) 0 (xs.length - 1)
def hmin (xs : List S48) : S48 := lastOf (hdn xs)
def hpop (xs : List S48) : List S48 := (hdn xs).dropLast
theorem hdown_length : ∀ (k : Nat) (xs : List S48) (i n : Nat), (hdown k xs i n).length = xs.length
  | 0, _, _, _ => rfl
  | k + 1, xs, i, n => by
    simp only [hdown]
    split
    · rfl
    · rw [apply_ite List.length, hdown_length k, swp_length, ite_self]
theorem len_calls (v : Value) (xs : List S48) (w : World) (base : Nat) (ok : Nat → Prop) (hR : Kd.R k48 48 w base ok v xs) :
    Calls Try.prog 20 #[v] w fun e w' => e = .returned (.int .i64 (xs.length : Int)) ∧ w' = w := by
  obtain ⟨A, c, rfl, hc, hC⟩ := Kd.R_reads hR
  clear hR hC
  go_enter Try.func20, Try.ntmps20
  go_wp2
  go_ret
  exact ⟨rfl, rfl⟩
theorem heapPush_calls (v : Value) (xs : List S48) (x : S48) (w0 w : World) (b : Nat) (hbb : w0.heap.size ≤ b) (hl : xs.length < 1000000000000) (hB : Below w0.heap.size w0 w) (hb : w.heap[b]? = some (.cells #[v] 50 (0, 0))) (hbv : v.ownBlock ≠ some b) (hR : Kd.R k48 48 w w0.heap.size (fun k => v.ownBlock = some k) v xs) :
    Calls Try.prog 22 #[.iface 46 (.pointer (some ⟨b, 0, none⟩)), .iface 48 (.agg #[.int .i64 x.f0, .int .i64 x.f1, .int .i64 x.f2])] w fun e w' => e = .returned (.tuple #[]) ∧ ∃ v', v'.ownBlock ≠ some b ∧ (v'.ownBlock = v.ownBlock ∨ ∃ g, v'.ownBlock = some g ∧ w.heap.size ≤ g) ∧ w'.heap[b]? = some (.cells #[v'] 50 (0, 0)) ∧
      Kd.R k48 48 w' w0.heap.size (fun k => v'.ownBlock = some k) v' (hpush xs x) ∧ Below w0.heap.size w0 w' ∧ Kept w w' (fun k => k = b ∨ v.ownBlock = some k) := by
  have HB := zMk hB
  have HR := zMk hR
  have HBK := zMk hb
  have HV := zMk hbv
  have HL := zMk (And.intro hl hbb)
  clear hB hR hb hbv hl hbb
  have hm := meth_Push 192 w b
  go_enter Try.func22, Try.ntmps22
  go_wp2_with (fail)
  refine (linePush_calls v xs x w0 w b HL.out.2 HL.out.1 HB.out HBK.out HV.out HR.out).mono ?_
  rintro e w1 ⟨rfl, v1, hat, hb1, hR1, hB1, hK1⟩
  have hv1 : v1.ownBlock ≠ some b := by
    rcases hat with h | ⟨g, hg, hle⟩
    · rw [h]; exact HV.out
    · rw [hg]; intro e; have := blk_lt HBK.out; simp only [Option.some.injEq] at e; omega
  have lc := len_calls v1 _ w1 _ _ hR1
  have uc := up_calls v1 (xs ++ [x]) xs.length w0 w1 b (by simp) hB1 hb1 hv1 hR1
  obtain ⟨M, hM⟩ : ∃ M : Int, ((xs ++ [x]).length : Int) = M := ⟨_, rfl⟩
  obtain ⟨J, hJ⟩ : ∃ J : Int, (xs.length : Int) = J := ⟨_, rfl⟩
  rw [hM] at lc
  rw [hJ] at uc
  have q1 : wrap64 (M - 1) = J := by
    have := HL.out.1; rw [List.length_append, List.length_singleton] at hM; unfold wrap64; omega
  have LC := zMk lc
  have UC := zMk uc
  have HAT := zMk hat
  have HK1 := zMk hK1
  have HV1 := zMk hv1
  have hm1 := meth_Len 192 w1 b _ ((zKc hb1 0).trans rfl)
  clear lc uc hM hJ hm hat hb1 hR1 hB1 hK1 hv1
  go_wp2_with (fail)
  refine LC.out.mono ?_
  rintro e w2 ⟨rfl, rfl⟩
  go_wp2_with (fail)
  refine UC.out.mono ?_
  rintro e w3 ⟨rfl, hb3, hR3, hB3, hK3⟩
  go_wp2
  go_end0
  refine ⟨rfl, v1, HV1.out, HAT.out, hb3, ?_, hB3, ?_⟩
  · have e : (xs ++ [x]).length = xs.length + 1 := by simp
    rw [e] at hR3
    exact hR3
  · refine Kept.then_ HK1.out hK3 (fun k hk => ?_)
    rcases HAT.out with h | ⟨g, hg, hle⟩
    · exact .inl (.inr (by rw [← h]; exact hk))
    · rw [hg] at hk; cases hk; exact .inr hle
theorem heapPop_calls (v : Value) (xs : List S48) (w0 w : World) (b : Nat) (hbb : w0.heap.size ≤ b) (h0 : 0 < xs.length) (hl : xs.length < 1000000000000) (hB : Below w0.heap.size w0 w) (hb : w.heap[b]? = some (.cells #[v] 50 (0, 0))) (hbv : v.ownBlock ≠ some b) (hR : Kd.R k48 48 w w0.heap.size (fun k => v.ownBlock = some k) v xs) :
    Calls Try.prog 21 #[.iface 46 (.pointer (some ⟨b, 0, none⟩))] w fun e w' => e = .returned (.iface 48 (.agg #[.int .i64 (hmin xs).f0, .int .i64 (hmin xs).f1, .int .i64 (hmin xs).f2])) ∧ ∃ v', v'.ownBlock ≠ some b ∧ v'.ownBlock = v.ownBlock ∧ w'.heap[b]? = some (.cells #[v'] 50 (0, 0)) ∧
      Kd.R k48 48 w' w0.heap.size (fun k => v'.ownBlock = some k) v' (hpop xs) ∧ Below w0.heap.size w0 w' ∧ Kept w w' (fun k => k = b ∨ v.ownBlock = some k) := by
  have LC := zMk (len_calls v _ w _ _ hR)
  have SC := zMk (swap_calls v xs 0 (xs.length - 1) w0 w b (by omega) (by omega) hB hb hbv hR)
  have HBK := zMk hb
  have HV := zMk hbv
  have HL := zMk (And.intro h0 (And.intro hl hbb))
  have hm := meth_Len 192 w b _ ((zKc hb 0).trans rfl)
  have hms := meth_Swap 192 w b _ ((zKc hb 0).trans rfl)
  have q1 : wrap64 ((xs.length : Int) - 1) = ((xs.length - 1 : Nat) : Int) := by unfold wrap64; omega
  obtain ⟨n, hn⟩ : ∃ n, xs.length - 1 = n := ⟨_, rfl⟩
  rw [hn] at q1 SC
  have HN := zMk hn
  clear hB hR hb hbv hl hbb h0 hn
  go_enter Try.func21, Try.ntmps21
  go_wp2_with (fail)
  refine LC.out.mono ?_
  rintro e w2 ⟨rfl, rfl⟩
  go_wp2_with (fail)
  refine SC.out.mono ?_
  rintro e w3 ⟨rfl, hb3, hR3, hB3, hK3⟩
  have hs := swp_length xs 0 n
  have DC := zMk (down_calls v (swp xs 0 n) n w0 w3 b (by have := HL.out.1; omega) (by have := HN.out; omega) (by have := HL.out; omega) hB3 hb3 HV.out hR3)
  have HK3 := zMk hK3
  clear hb3 hR3 hB3 hK3 hm hms hs
  go_wp2_with (fail)
  refine DC.out.mono ?_
  rintro e w4 ⟨⟨r, rfl⟩, hb4, hR4, hB4, hK4⟩
  rw [swp_length] at hR4
  have hlen : 0 < (hdown xs.length (swp xs 0 n) 0 n).length := by rw [hdown_length, swp_length]; exact HL.out.1
  have PC := zMk (linePop_calls v _ w0 w4 b hlen HL.out.2.2 hB4 hb4 HV.out hR4)
  have HK4 := zMk hK4
  have hmp := meth_Pop 192 w4 b
  clear hb4 hR4 hB4 hK4 hlen
  go_wp2_with (fail)
  refine PC.out.mono ?_
  rintro e w5 ⟨rfl, v', hv', hb5, hR5, hB5, hK5⟩
  go_wp2
  go_ret
  have hd : hdn xs = hdown xs.length (swp xs 0 n) 0 n := by unfold hdn; rw [HN.out]
  refine ⟨by unfold hmin; rw [hd]; rfl, v', by rw [hv']; exact HV.out, hv', hb5, by unfold hpop; rw [hd]; exact hR5, hB5, ?_⟩
  refine Kept.then_ (Kept.then_ (Kept.mono HK3.out (fun k hk => .inr hk)) HK4.out (fun k hk => .inl (.inr hk))) hK5 (fun k hk => .inl (.inl hk))

theorem keepT {α : Type} {d : Kd α} {e base : Nat} {ok : Nat → Prop} {w w1 : World} {v : Value} {xs : List α} (h : d.R e w base ok v xs)
    (hk : ∀ k t cells, ok k → k < w.heap.size → t ∈ e :: d.E → w.heap[k]? = some (.cells cells t (0, 0)) → w1.heap[k]? = w.heap[k]?) : d.R e w1 base ok v xs :=
  zRm (Kd.R_step (Kd.R_bound h) (fun k hk1 hlt => by
    obtain ⟨ho, _, _, q, hq, cells, hc⟩ := hk1
    exact hk k q cells ho hlt hq hc)) (fun k hk => hk.1)
structure Sit (w W : World) (gm bl : Nat) (M : Array Value) (v4 v5 v8 vl : Value) (d p : List Int) (nr : List (List Int)) (xs : List S48) : Prop where
  hB : Below w.heap.size w W
  hM : W.heap[gm]? = some (.cells M 24 (0, 0))
  hL : W.heap[bl]? = some (.cells #[vl] 50 (0, 0))
  hl : w.heap.size ≤ bl
  h4 : Kd.R (Kd.int .i64) 2 W w.heap.size (fun k => v4.ownBlock = some k) v4 d
  h5 : Kd.R (Kd.int .i64) 3 W w.heap.size (fun k => v5.ownBlock = some k) v5 p
  h8 : Kd.R (Kd.slice 3 (Kd.int .i64)) 31 W w.heap.size (fun k => v5.ownBlock ≠ some k) v8 nr
  hx : Kd.R k48 48 W w.heap.size (fun k => vl.ownBlock = some k) vl xs
  hv : vl.ownBlock ≠ some bl
section
variable {w W W' : World} {gm bl : Nat} {M : Array Value} {v4 v5 v8 vl vl' : Value} {d p : List Int} {nr : List (List Int)} {xs xs' : List S48}
theorem Sit.below (h : Sit w W gm bl M v4 v5 v8 vl d p nr xs) (hb : Below W.heap.size W W') : Sit w W' gm bl M v4 v5 v8 vl d p nr xs :=
  ⟨zBt h.hB hb, zKb h.hM hb, zKb h.hL hb, h.hl, zRb h.h4 hb, zRb h.h5 hb, zRb h.h8 hb, zRb h.hx hb, h.hv⟩
theorem Sit.far (h : Sit w W gm bl M v4 v5 v8 vl d p nr xs) (hK : Kept W W' (fun k => k = bl ∨ vl.ownBlock = some k)) :
    ∀ k t cells, k < W.heap.size → t ≠ 50 → t ≠ 48 → W.heap[k]? = some (.cells cells t (0, 0)) → W'.heap[k]? = W.heap[k]? := by
  intro k t cells hlt h1 h2 hc
  refine hK.2 k hlt (fun hk => ?_)
  rcases hk with rfl | hk
  · rw [h.hL] at hc; cases hc; exact h1 rfl
  · obtain ⟨cs, hcs⟩ := Kd.R_typed h.hx k hk
    rw [hcs] at hc; cases hc; exact h2 rfl
theorem Sit.cell8 (h : Sit w W gm bl M v4 v5 v8 vl d p nr xs) (hK : Kept W W' (fun k => k = bl ∨ vl.ownBlock = some k)) {g8 n8 c8 j : Nat} {u : Value} (e8 : v8 = .slice (some ⟨g8, 0, none⟩) n8 c8) (hc : W.cell? ⟨g8, j, none⟩ = some u) : W'.cell? ⟨g8, j, none⟩ = some u := by
  subst e8
  obtain ⟨cs, t8⟩ := Kd.R_typed h.h8 g8 rfl
  have := h.far hK g8 31 cs (blk_lt t8) (by decide) (by decide) t8
  rw [← hc]
  simp [World.cell?, this]
theorem Sit.heap (h : Sit w W gm bl M v4 v5 v8 vl d p nr xs) (hv' : vl'.ownBlock ≠ some bl) (hL' : W'.heap[bl]? = some (.cells #[vl'] 50 (0, 0)))
    (hx' : Kd.R k48 48 W' w.heap.size (fun k => vl'.ownBlock = some k) vl' xs') (hB' : Below w.heap.size w W') (hK : Kept W W' (fun k => k = bl ∨ vl.ownBlock = some k)) :
    Sit w W' gm bl M v4 v5 v8 vl' d p nr xs' := by
  have far : ∀ k t cells, k < W.heap.size → t ≠ 50 → t ≠ 48 → W.heap[k]? = some (.cells cells t (0, 0)) → W'.heap[k]? = W.heap[k]? := by
    intro k t cells hlt h1 h2 hc
    refine hK.2 k hlt (fun hk => ?_)
    rcases hk with rfl | hk
    · rw [h.hL] at hc; cases hc; exact h1 rfl
    · obtain ⟨cs, hcs⟩ := Kd.R_typed h.hx k hk
      rw [hcs] at hc; cases hc; exact h2 rfl
  refine ⟨hB', (far gm 24 M (blk_lt h.hM) (by decide) (by decide) h.hM).trans h.hM, hL', h.hl, keepT h.h4 ?_, keepT h.h5 ?_, keepT h.h8 ?_, hx', hv'⟩
  · intro k t cells _ hlt ht hc
    have : t = 2 := by simpa [Kd.int, Kd.scalar] using ht
    subst this
    exact far k 2 cells hlt (by decide) (by decide) hc
  · intro k t cells _ hlt ht hc
    have : t = 3 := by simpa [Kd.int, Kd.scalar] using ht
    subst this
    exact far k 3 cells hlt (by decide) (by decide) hc
  · intro k t cells _ hlt ht hc
    have : t = 31 ∨ t = 3 := by simpa [Kd.int, Kd.scalar, Kd.slice] using ht
    rcases this with rfl | rfl <;> exact far k _ cells hlt (by decide) (by decide) hc
theorem Sit.put (h : Sit w W gm bl M v4 v5 v8 vl d p nr xs) (g4 n4 c4 g5 n5 c5 : Nat) (e4 : v4 = .slice (some ⟨g4, 0, none⟩) n4 c4) (e5 : v5 = .slice (some ⟨g5, 0, none⟩) n5 c5) (i : Int) (x y : Int) :
    Sit w ((W.setCell ⟨g4, i.toNat, none⟩ (.int .i64 x)).setCell ⟨g5, i.toNat, none⟩ (.int .i64 y)) gm bl M v4 v5 v8 vl (d.set i.toNat x) (p.set i.toNat y) nr xs := by
  subst e4; subst e5
  obtain ⟨cs4, t4⟩ := Kd.R_typed h.h4 g4 rfl
  obtain ⟨cs5, t5⟩ := Kd.R_typed h.h5 g5 rfl
  have n45 : g4 ≠ g5 := blk_ne t4 t5 (by decide)
  have hb4 := zRz h.h4 g4 rfl
  have hb5 := zRz h.h5 g5 rfl
  refine ⟨(h.hB.setCell (p := ⟨g4, i.toNat, none⟩) hb4 _).setCell (p := ⟨g5, i.toNat, none⟩) hb5 _, blk_far (blk_far h.hM (blk_ne h.hM t4 (by decide)) _) (blk_ne h.hM t5 (by decide)) _, blk_far (blk_far h.hL (blk_ne h.hL t4 (by decide)) _) (blk_ne h.hL t5 (by decide)) _, h.hl, ?_, ?_, ?_, ?_, h.hv⟩
  · exact Kd.R_far (p := ⟨g5, i.toNat, none⟩) (Kd.R_putn h.h4 i x) (fun k hk => by cases hk; exact n45) _
  · exact Kd.R_putn (Kd.R_far (p := ⟨g4, i.toNat, none⟩) h.h5 (fun k hk => by cases hk; exact n45.symm) _) i y
  · refine keepT h.h8 (fun k t cells ho hlt ht hc => ?_)
    have ht : t = 31 ∨ t = 3 := by simpa [Kd.int, Kd.scalar, Kd.slice] using ht
    have k5 : k ≠ g5 := fun e => ho (by rw [e]; rfl)
    have k4 : k ≠ g4 := fun e => by subst e; rw [t4] at hc; cases hc; omega
    exact (Below.heap_setCell _ ⟨g5, i.toNat, none⟩ _ k k5).trans (Below.heap_setCell _ ⟨g4, i.toNat, none⟩ _ k k4)
  · refine keepT h.hx (fun k t cells ho hlt ht hc => ?_)
    have ht : t = 48 := by simpa [k48, Kd.int, Kd.scalar, Kd.iso, Kd.pair] using ht
    subst ht
    have k5 : k ≠ g5 := fun e => by subst e; rw [t5] at hc; cases hc
    have k4 : k ≠ g4 := fun e => by subst e; rw [t4] at hc; cases hc
    exact (Below.heap_setCell _ ⟨g5, i.toNat, none⟩ _ k k5).trans (Below.heap_setCell _ ⟨g4, i.toNat, none⟩ _ k k4)
end

mutual
def paths_From.j0 : Nat → Int → Bool → Int → List (S39) → Option (List Int × List Int × Int)
  | 0, _, _, _, _ => none
  | k + 1, x1, x29, x107000, x107001 => if x29 = true then (some (([] : List Int), ([] : List Int), 5)) else (if 0 ≤ x107000 then (if (x107000 : Int).toNat ≤ 11728124029610 then (paths_From.l0 k x1 (List.replicate (x107000 : Int).toNat []) x107001 (x107001.length : Int) 0 x107000 x107001) else (none)) else (none))
def paths_From.l0 : Nat → Int → List (List Int) → List (S39) → Int → Int → Int → List (S39) → Option (List Int × List Int × Int)
  | 0, _, _, _, _, _, _, _ => none
  | k + 1, x1, x8, x34, x35, x36, x107000, x107001 => if x36 < x35 then (if 0 ≤ x36 then (if x36 < (x34.length : Int) then (if 0 ≤ ((rd_T39 x34 x36).f0) then (if ((rd_T39 x34 x36).f0) < (x8.length : Int) then (if (rd_L3 x8 ((rd_T39 x34 x36).f0)).length < 17592186044416 then ((some (x8.set (((rd_T39 x34 x36).f0) : Int).toNat ((rd_L3 x8 ((rd_T39 x34 x36).f0)) ++ [x36]) : List (List Int))).bind fun y117 => (if 0 ≤ ((rd_T39 x34 x36).f1) then (if ((rd_T39 x34 x36).f1) < (x8.length : Int) then (if (rd_L3 y117 ((rd_T39 x34 x36).f1)).length < 17592186044416 then (paths_From.l0 k x1 (y117.set (((rd_T39 x34 x36).f1) : Int).toNat ((rd_L3 y117 ((rd_T39 x34 x36).f1)) ++ [x36])) x34 x35 (wrap64 (x36 + 1)) x107000 x107001) else (none)) else (none)) else (none))) else (none)) else (none)) else (none)) else (none)) else (none)) else ((slices_Repeat_int64_int64.f (([(-1)] : List Int)) x107000).bind fun t126 => ((slices_Repeat_int_int.f (([(-1)] : List Int)) x107000).bind fun t132 => (paths_From.l1 k t126 t132 x8 (([(⟨0, x1, (-1)⟩ : S48)] : List (S48))) x107000 x107001)))
def paths_From.l1 : Nat → List Int → List Int → List (List Int) → List (S48) → Int → List (S39) → Option (List Int × List Int × Int)
  | 0, _, _, _, _, _, _ => none
  | k + 1, x4, x5, x8, x11, n_, E_ => if 0 < x11.length then (if x11.length < 1000000000000 then (if 0 ≤ (hmin x11).f1 then (if (hmin x11).f1 < (x4.length : Int) then (if rd x4 (hmin x11).f1 ≥ 0 then (paths_From.l1 k x4 x5 x8 (hpop x11) n_ E_) else (if (hmin x11).f1 < (x5.length : Int) then (if (hmin x11).f1 < (x8.length : Int) then (paths_From.l2 k (x4.set (hmin x11).f1.toNat (hmin x11).f0) (x5.set (hmin x11).f1.toNat (hmin x11).f2) x8 (hpop x11) (rd_L3 x8 (hmin x11).f1) 0 n_ E_ (hmin x11)) else (none)) else (none))) else (none)) else (none)) else (none)) else (some (x4, x5, 0))
def paths_From.l2 : Nat → List Int → List Int → List (List Int) → List (S48) → List Int → Int → Int → List (S39) → S48 → Option (List Int × List Int × Int)
  | 0, _, _, _, _, _, _, _, _, _ => none
  | k + 1, x4, x5, x8, x11, nb, i, n_, E_, x => if i < (nb.length : Int) then (if 0 ≤ i then (if 0 ≤ rd nb i then (if rd nb i < (E_.length : Int) then (if 0 ≤ (wrap64 ((wrap64 (((rd_T39 E_ (rd nb i)).f0) + ((rd_T39 E_ (rd nb i)).f1))) - x.f1)) then (if (wrap64 ((wrap64 (((rd_T39 E_ (rd nb i)).f0) + ((rd_T39 E_ (rd nb i)).f1))) - x.f1)) < (x4.length : Int) then (if rd x4 (wrap64 ((wrap64 (((rd_T39 E_ (rd nb i)).f0) + ((rd_T39 E_ (rd nb i)).f1))) - x.f1)) < 0 then (if x11.length < 1000000000000 then (paths_From.l2 k x4 x5 x8 (hpush x11 (⟨wrap64 (x.f0 + ((rd_T39 E_ (rd nb i)).f2)), wrap64 ((wrap64 (((rd_T39 E_ (rd nb i)).f0) + ((rd_T39 E_ (rd nb i)).f1))) - x.f1), rd nb i⟩ : S48)) nb (wrap64 (i + 1)) n_ E_ x) else (none)) else (paths_From.l2 k x4 x5 x8 x11 nb (wrap64 (i + 1)) n_ E_ x)) else (none)) else (none)) else (none)) else (none)) else (none)) else (paths_From.l1 k x4 x5 x8 x11 n_ E_)
end
def paths_From.f (k : Nat) (a0_0 : Int) (l0_1 : List (S39)) (a1 : Int) : Option (List Int × List Int × Int) := (paths_Right.f k a0_0 l0_1).bind fun t107 => (if t107 = 0 then (if a1 < 0 then (paths_From.j0 k a1 true a0_0 l0_1) else (paths_From.j0 k a1 (decide (a1 ≥ a0_0)) a0_0 l0_1)) else (some (([] : List Int), ([] : List Int), t107)))
def paths_From.T10 : Bool × List (List Nat × List Nat) := (true, [([], []), ([], []), ([1], [1]), ([], []), ([], []), ([4], [4]), ([3, 5], [3, 5]), ([6], [6]), ([], []), ([8], [8]), ([7, 9], [7, 9]), ([0, 2, 0, 1, 2, 3, 4, 5, 6, 7, 8, 9, 10], [0, 2]), ([11, 10, 10, 0, 1, 2, 3, 4, 5, 6, 7, 8, 9, 10], [10, 11])])
def paths_From.B10 : List Nat := [0, 0, 2, 0, 0, 16, 56, 120, 0, 256, 1016, 2047, 4095]
theorem paths_From.tab10 : rtab .any (opsOf Try.f11 10) = paths_From.T10 := by kernel_rfl
theorem paths_From.bits10 : waitsOk paths_From.T10.2 paths_From.B10 = true := by kernel_rfl
def paths_From.T11 : Bool × List (List Nat × List Nat) := (true, [([], []), ([], []), ([1], [1]), ([], []), ([], []), ([4], [4]), ([3, 5], [3, 5]), ([6], [6]), ([], []), ([8], [8]), ([7, 9], [7, 9]), ([0, 2, 0, 1, 2, 3, 4, 5, 6, 7, 8, 9, 10], [0, 2]), ([11, 10, 10, 0, 1, 2, 3, 4, 5, 6, 7, 8, 9, 10], [10, 11])])
def paths_From.B11 : List Nat := [0, 0, 2, 0, 0, 16, 56, 120, 0, 256, 1016, 2047, 4095]
theorem paths_From.tab11 : rtab .any (opsOf Try.f11 11) = paths_From.T11 := by kernel_rfl
theorem paths_From.bits11 : waitsOk paths_From.T11.2 paths_From.B11 = true := by kernel_rfl
def paths_From.T13 : Bool × List (List Nat × List Nat) := (true, [([], []), ([], []), ([1], [1]), ([0, 2], [0, 2]), ([], []), ([], []), ([5], [5]), ([4, 6, 3], [4, 6]), ([3, 7, 0, 1, 2, 3], [3]), ([7, 8, 0, 1, 2, 3, 4, 5, 6, 7, 8], [7])])
def paths_From.B13 : List Nat := [0, 0, 2, 7, 0, 0, 32, 127, 255, 511]
theorem paths_From.tab13 : rtab .any (opsOf Try.f11 13) = paths_From.T13 := by kernel_rfl
theorem paths_From.bits13 : waitsOk paths_From.T13.2 paths_From.B13 = true := by kernel_rfl
theorem paths_From.calls (k : Nat) (a0_0 : Int) (A0_1 : Option Addr) (c0_1 : Nat) (l0_1 : List (S39)) (a1 : Int) (r1 : List Int) (r2 : List Int) (r3 : Int) (w : World) (hr0_1 : Kd.C k39 w A0_1 l0_1.length l0_1) (hc0_1 : l0_1.length ≤ c0_1) (h : paths_From.f k a0_0 l0_1 a1 = some (r1, r2, r3)) :
    Calls Try.prog 11 #[.agg #[.int .i64 a0_0, .slice A0_1 l0_1.length c0_1], .int .i64 a1] w fun e w' => ∃ v0_ v1_ : Value, e = .returned (.tuple #[v0_, v1_, .int .i64 r3]) ∧ Kd.R (Kd.int .i64) 2 w' w.heap.size (fun _ => True) v0_ r1 ∧ Kd.R (Kd.int .i64) 3 w' w.heap.size (fun _ => True) v1_ r2 ∧ Below w.heap.size w w' := by
  have hu24 := Try.underlying24
  have hu39 := Try.underlying39
  have hu48 := Try.underlying48
  have HR0_1 := zMk hr0_1
  have HC0_1 := zMk hc0_1
  clear hr0_1 hc0_1
  have HB := zMk (Below.refl w.heap.size w)
  have H : ((paths_Right.f k a0_0 l0_1).bind fun t107 => (if t107 = 0 then (if a1 < 0 then (paths_From.j0 k a1 true a0_0 l0_1) else (paths_From.j0 k a1 (decide (a1 ≥ a0_0)) a0_0 l0_1)) else (some (([] : List Int), ([] : List Int), t107)))) = some (r1, r2, r3) := h
  clear h
  replace H := bnd H
  obtain ⟨t107, A30, H⟩ := H
  have A3 := zMk A30
  clear A30
  by_cases c4 : t107 = 0
  · rw [if_pos c4] at H
    have c4b0 : (t107 == 0) = true := beq_iff_eq.mpr c4
    have c4b1 : (t107 != 0) = false := bne_eq_false_iff_eq.mpr c4
    clear c4
    have HC5 := zMk H
    clear H
    go_enter Try.func11, Try.ntmps11
    go_upto_region 4 with (first | ((with_reducible refine gate_dst (N := 2) rfl ?_); refine box_event ?hg (N := 2) ?hd (cs := #[.int .i64 a0_0, .slice A0_1 l0_1.length c0_1]) (t := 24) ?hr ?_; (case hd => rfl); (case hg => rfl); (case hr => first | (go_simp; done)|(go_simp; rfl)|(go_simp; rw [show ∀ x : Int, IntKind.u32.wrap (IntKind.u8.wrap x) = x % 256 from fun x => (by show (x % 256) % 4294967296 = x % 256; omega)])); intro gb106 hg w6 hbox hb; have BK106 := zMk (hbox); have GW106 := zMk ((by rw [hg]; exact (zBs (by exact uT HB.out)) : w.heap.size ≤ gb106)); have GE106 := zMk ((by rw [hg]; exact (zBs (by exact uT HB.out)) : w.heap.size ≤ gb106)); have IGE106 := ownGe GE106.out; have IGE106 := ownGe GE106.out; replace HB := zMk (zBt (by exact uT HB.out) hb); clear hb hbox hg; have hcz7_0 : w6.cell? ⟨gb106, 0, none⟩ = some (.int .i64 a0_0) := (zKc BK106.out 0).trans rfl; have hcz7_1 : w6.cell? ⟨gb106, 1, none⟩ = some (.slice A0_1 l0_1.length c0_1) := (zKc BK106.out 1).trans rfl; have hfz7_0 := zKf BK106.out 0; have hfz7_1 := zKf BK106.out 1)|((with_reducible refine gate_callee (f := 7) rfl ?_); refine goesL_ (some 18) rfl rfl Try.func7 (by kernel_rfl) rfl #[.agg #[.int .i64 a0_0, .slice A0_1 l0_1.length c0_1]] rfl (by (try simp only [zMa, zMc, zMn]); first |  done|  rfl|  (simp only [zLd, zLt]; rfl)) ?_; (with_reducible refine (paths_Right.calls k a0_0 _ _ l0_1 t107 _ ?side1 ?side2 A3.out).mono ?_); (case side1 => repeat (first |  exact (Kd.C_below HR0_1.out HB.out)|(with_reducible refine zCa ?_ _)|(with_reducible refine zCn ?_ _)|(with_reducible refine zCd ?_))); (case side2 => exact HC0_1.out); rintro e w8 ⟨rfl, hb⟩; refine ⟨_, rfl, ?_⟩; replace BK106 := zMk (zKb (g := gb106) (o := .cells #[.int .i64 a0_0, .slice A0_1 l0_1.length c0_1] 24 (0, 0)) (by (with_reducible repeat (first |  refine zKn ?_ _|  refine zKd ?_|  refine zKa ?_ _)); exact BK106.out) hb); replace HB := zMk (zBt (by exact uT HB.out) hb)))
    (try simp only [Act.put, zSa, zSb, zSc])
    go_cut [29] (fun v29 wc => ∃ (kq : Nat) (x29_4 : Bool), v29 = .bool x29_4 ∧ Aside0 (paths_From.j0 kq a1 x29_4 a0_0 l0_1 = some (r1, r2, r3)) ∧ Aside0 (kq ≤ k) ∧ Aside0 (wc.heap[gb106]? = some (.cells #[.int .i64 a0_0, (.slice A0_1 l0_1.length c0_1)] 24 (0, 0))) ∧ Aside0 (Below w.heap.size w wc))
    case first =>
      have H := HC5.out
      clear HC5
      by_cases c9 : a1 < 0
      · rw [if_pos c9] at H
        have c9b0 : decide (a1 < 0) = true := decide_eq_true c9
        clear c9
        (first | rw [c9b0] | (simp only [i64_w, i32_w]; rw [c9b0]) | rw [c9b1] | skip)
        have H' := zMk H
        clear H
        go_wp2
        go_meet
        case rel => exact ⟨_, (true), (by first | rfl | (simp; done) | (simp [*]; done)), H', ⟨by first | omega | exact Nat.le_refl _⟩, ⟨by (with_reducible repeat (first | refine zKn ?_ _ | refine zKd ?_ | refine zKa ?_ _)); exact BK106.out⟩, ⟨by exact uT HB.out⟩⟩
      · rw [if_neg c9] at H
        have c9b0 : decide (a1 < 0) = false := decide_eq_false c9
        clear c9
        (first | rw [c9b0] | (simp only [i64_w, i32_w]; rw [c9b0]) | rw [c9b1] | skip)
        have H' := zMk H
        clear H
        have hcz10_0 : w8.cell? ⟨gb106, 0, none⟩ = some (.int .i64 a0_0) := (zKc BK106.out 0).trans rfl
        have hcz10_1 : w8.cell? ⟨gb106, 1, none⟩ = some (.slice A0_1 l0_1.length c0_1) := (zKc BK106.out 1).trans rfl
        have hfz10_0 := zKf BK106.out 0
        have hfz10_1 := zKf BK106.out 1
        go_wp2
        go_meet
        case rel => exact ⟨_, (decide (a1 ≥ a0_0)), (by first | rfl | (simp; done) | (simp [*]; done)), H', ⟨by first | omega | exact Nat.le_refl _⟩, ⟨by (with_reducible repeat (first | refine zKn ?_ _ | refine zKd ?_ | refine zKa ?_ _)); exact BK106.out⟩, ⟨by exact uT HB.out⟩⟩
    case rest =>
      clear HC5
      obtain ⟨kq, x29_4, rfl, HA, HJ4, BK106, HB⟩ := hcut
      rcases kq with _ | kj4
      · exact absurd HA.out (by simp [paths_From.j0])
      have H := HA.out
      clear HA
      simp only [paths_From.j0] at H
      by_cases c11 : x29_4 = true
      · subst c11
        replace H : (some (([] : List Int), ([] : List Int), 5)) = some (r1, r2, r3) := by rw [if_pos rfl] at H; exact H
        simp only [Option.some.injEq, Prod.mk.injEq] at H
        obtain ⟨rfl, rfl, rfl⟩ := H
        go_wp2
        go_ret3
        exact ⟨_, _, by first | rfl | (simp [errW_none, errW_some] <;> rfl) | (simp [*, errW_none, errW_some] <;> rfl), by first | exact Kd.R_nil _ _ _ _ _ | exact Kd.N_nil _ _ _ _ _ | exact Kd.V_nil _ _ _ _ _ | exact Kd.Q_nil _ _ _ _ _ | exact Kd.S_nil _ _ _ _ _, by first | exact Kd.R_nil _ _ _ _ _ | exact Kd.N_nil _ _ _ _ _ | exact Kd.V_nil _ _ _ _ _ | exact Kd.Q_nil _ _ _ _ _ | exact Kd.S_nil _ _ _ _ _, by exact uT HB.out⟩
      · replace c11 := Bool.eq_false_iff.mpr c11
        subst c11
        replace H : (if 0 ≤ a0_0 then (if (a0_0 : Int).toNat ≤ 11728124029610 then (paths_From.l0 kj4 a1 (List.replicate (a0_0 : Int).toNat []) l0_1 (l0_1.length : Int) 0 a0_0 l0_1) else (none)) else (none)) = some (r1, r2, r3) := by rw [if_neg (show ¬ (false = true) by decide)] at H; exact H
        by_cases c12 : 0 ≤ a0_0
        rotate_left
        · rw [if_neg c12] at H; exact absurd H (by simp)
        rw [if_pos c12] at H
        have c12b0 := eq_true c12
        have c12b1 : decide (0 ≤ a0_0) = true := decide_eq_true c12
        clear c12
        by_cases c13 : (a0_0 : Int).toNat ≤ 11728124029610
        rotate_left
        · rw [if_neg c13] at H; exact absurd H (by simp)
        rw [if_pos c13] at H
        have c13b0 := eq_true c13
        have c13b1 : decide ((a0_0 : Int).toNat ≤ 11728124029610) = true := decide_eq_true c13
        clear c13
        obtain ⟨y108, hy108⟩ : ∃ y_ : List (List Int), y_ = (List.replicate (a0_0 : Int).toNat []) := ⟨_, rfl⟩
        replace H : (paths_From.l0 kj4 a1 y108 l0_1 (l0_1.length : Int) 0 a0_0 l0_1) = some (r1, r2, r3) := by first | (rw [hy108]; with_reducible exact H) | (have H2_ := bsm H; first | (rw [hy108]; with_reducible exact H2_) | with_reducible exact H2_) | with_reducible exact H | (rw [hy108]; exact H) | exact H
        have Ny108 := zMk hy108
        clear hy108
        have H' := zMk H
        clear H
        have hcz14_0 : wc.cell? ⟨gb106, 0, none⟩ = some (.int .i64 a0_0) := (zKc BK106.out 0).trans rfl
        have hcz14_1 : wc.cell? ⟨gb106, 1, none⟩ = some (.slice A0_1 l0_1.length c0_1) := (zKc BK106.out 1).trans rfl
        have hfz14_0 := zKf BK106.out 0
        have hfz14_1 := zKf BK106.out 1
        go_wp2_with (first | ((with_reducible refine gate_dst (N := 32) rfl ?_); refine Kd.S_make (Kd.slice 3 (Kd.int .i64)) _ 31 rfl (N := 32) rfl 43 _ _ rfl a0_0 rfl rfl Try.underlying43 (.slice none 0 0) 24 info31 rfl (by decide) (by omega) [] (ok := fun _ => True) (okp := fun _ => True) ⟨_, rfl, Kd.R_nil _ _ _ _ _⟩ (fun _ hk => hk) trivial (of_decide_eq_true (by first | (with_reducible assumption)|  assumption)) (Nat.le_trans (Nat.mul_le_mul_right _ (of_decide_eq_true (by first | (with_reducible assumption)|  assumption) : a0_0.toNat ≤ 11728124029610)) (by omega)) (Below.refl _ _) (Nat.le_refl _) ?_; intro v109 w15 ho16 hb hg_ hnew_; clear hg_ hnew_; (first |  rw [← Ny108.out] at ho16|  (simp only [Int.reduceToNat] at ho16; rw [← Ny108.out] at ho16)); have HO110 := zMk (Kd.S_lower ho16 (zBs (by exact uT HB.out))); replace BK106 := zMk (zKb (g := gb106) (o := .cells #[.int .i64 a0_0, .slice A0_1 l0_1.length c0_1] 24 (0, 0)) (by (with_reducible repeat (first |  refine zKn ?_ _|  refine zKd ?_|  refine zKa ?_ _)); exact BK106.out) hb); replace HB := zMk (zBt (by exact uT HB.out) hb); clear hb ho16; have hcz17_0 : w15.cell? ⟨gb106, 0, none⟩ = some (.int .i64 a0_0) := (zKc BK106.out 0).trans rfl; have hcz17_1 : w15.cell? ⟨gb106, 1, none⟩ = some (.slice A0_1 l0_1.length c0_1) := (zKc BK106.out 1).trans rfl; have hfz17_0 := zKf BK106.out 0; have hfz17_1 := zKf BK106.out 1))
        go_loopg [36] kj4 (fun kq v36 w' => ∃ (x8_2 : List (List Int)) (x36_2 : Int), v36 = .int .i64 x36_2 ∧ Aside0 (paths_From.l0 kq a1 x8_2 l0_1 (l0_1.length : Int) x36_2 a0_0 l0_1 = some (r1, r2, r3)) ∧ Aside0 (kq ≤ kj4) ∧ Aside0 (Kd.S (Kd.slice 3 (Kd.int .i64)) 31 w' w.heap.size (fun _ => True) v109 x8_2) ∧ Aside0 (w'.heap[gb106]? = some (.cells #[.int .i64 a0_0, (.slice A0_1 l0_1.length c0_1)] 24 (0, 0))) ∧ Aside0 (Below w.heap.size w w'))
        case atStart => exact ⟨(y108), (0), (by first | rfl | (simp; done) | (simp [*]; done)), H', ⟨Nat.le_refl _⟩, ⟨by (with_reducible repeat (first | apply Kd.S_alloc | apply Kd.S_drewN | apply Kd.S_drew)); exact HO110.out⟩, ⟨by (with_reducible repeat (first | refine zKn ?_ _ | refine zKd ?_ | refine zKa ?_ _)); exact BK106.out⟩, ⟨by exact uT HB.out⟩⟩
        clear H'
        obtain ⟨x8_2, x36_2, rfl, HA, HK2, HO_8, BK106, HB⟩ := hrel
        rcases gk with _ | k2
        · exact absurd HA.out (by simp [paths_From.l0])
        have H := HA.out
        clear HA
        simp only [paths_From.l0] at H
        by_cases c18 : x36_2 < (l0_1.length : Int)
        · rw [if_pos c18] at H
          have c18b0 : decide (x36_2 < (l0_1.length : Int)) = true := decide_eq_true c18
          clear c18
          by_cases c19 : 0 ≤ x36_2
          rotate_left
          · rw [if_neg c19] at H; exact absurd H (by simp)
          rw [if_pos c19] at H
          have c19b0 : decide (0 ≤ x36_2) = true := decide_eq_true c19
          clear c19
          by_cases c20 : x36_2 < (l0_1.length : Int)
          rotate_left
          · rw [if_neg c20] at H; exact absurd H (by simp)
          rw [if_pos c20] at H
          have c20b0 : decide (x36_2 < (l0_1.length : Int)) = true := decide_eq_true c20
          clear c20
          by_cases c21 : 0 ≤ ((rd_T39 l0_1 x36_2).f0)
          rotate_left
          · rw [if_neg c21] at H; exact absurd H (by simp)
          rw [if_pos c21] at H
          have c21b0 : decide (0 ≤ ((rd_T39 l0_1 x36_2).f0)) = true := decide_eq_true c21
          clear c21
          by_cases c22 : ((rd_T39 l0_1 x36_2).f0) < (x8_2.length : Int)
          rotate_left
          · rw [if_neg c22] at H; exact absurd H (by simp)
          rw [if_pos c22] at H
          have c22b0 : decide (((rd_T39 l0_1 x36_2).f0) < (x8_2.length : Int)) = true := decide_eq_true c22
          clear c22
          by_cases c23 : (rd_L3 x8_2 ((rd_T39 l0_1 x36_2).f0)).length < 17592186044416
          rotate_left
          · rw [if_neg c23] at H; exact absurd H (by simp)
          rw [if_pos c23] at H
          have LMc23 := zMk c23
          clear c23
          obtain ⟨y114, hy114⟩ : ∃ y_ : List Int, y_ = ((rd_L3 x8_2 ((rd_T39 l0_1 x36_2).f0)) ++ [x36_2]) := ⟨_, rfl⟩
          replace H : ((some (x8_2.set (((rd_T39 l0_1 x36_2).f0) : Int).toNat y114 : List (List Int))).bind fun y117 => (if 0 ≤ ((rd_T39 l0_1 x36_2).f1) then (if ((rd_T39 l0_1 x36_2).f1) < (x8_2.length : Int) then (if (rd_L3 y117 ((rd_T39 l0_1 x36_2).f1)).length < 17592186044416 then (paths_From.l0 k2 a1 (y117.set (((rd_T39 l0_1 x36_2).f1) : Int).toNat ((rd_L3 y117 ((rd_T39 l0_1 x36_2).f1)) ++ [x36_2])) l0_1 (l0_1.length : Int) (wrap64 (x36_2 + 1)) a0_0 l0_1) else (none)) else (none)) else (none))) = some (r1, r2, r3) := by first | (rw [hy114]; with_reducible exact H) | (have H2_ := bsm H; first | (rw [hy114]; with_reducible exact H2_) | with_reducible exact H2_) | with_reducible exact H | (rw [hy114]; exact H) | exact H
          have Ny114 := zMk hy114
          clear hy114
          obtain ⟨y117, hy117⟩ : ∃ y_ : List (List Int), y_ = (x8_2.set (((rd_T39 l0_1 x36_2).f0) : Int).toNat y114) := ⟨_, rfl⟩
          replace H : (if 0 ≤ ((rd_T39 l0_1 x36_2).f1) then (if ((rd_T39 l0_1 x36_2).f1) < (x8_2.length : Int) then (if (rd_L3 y117 ((rd_T39 l0_1 x36_2).f1)).length < 17592186044416 then (paths_From.l0 k2 a1 (y117.set (((rd_T39 l0_1 x36_2).f1) : Int).toNat ((rd_L3 y117 ((rd_T39 l0_1 x36_2).f1)) ++ [x36_2])) l0_1 (l0_1.length : Int) (wrap64 (x36_2 + 1)) a0_0 l0_1) else (none)) else (none)) else (none)) = some (r1, r2, r3) := by first | (rw [hy117]; with_reducible exact H) | (have H2_ := bsm H; first | (rw [hy117]; with_reducible exact H2_) | with_reducible exact H2_) | with_reducible exact H | (rw [hy117]; exact H) | exact H
          have Ny117 := zMk hy117
          clear hy117
          by_cases c25 : 0 ≤ ((rd_T39 l0_1 x36_2).f1)
          rotate_left
          · rw [if_neg c25] at H; exact absurd H (by simp)
          rw [if_pos c25] at H
          have c25b0 : decide (0 ≤ ((rd_T39 l0_1 x36_2).f1)) = true := decide_eq_true c25
          clear c25
          by_cases c26 : ((rd_T39 l0_1 x36_2).f1) < (x8_2.length : Int)
          rotate_left
          · rw [if_neg c26] at H; exact absurd H (by simp)
          rw [if_pos c26] at H
          have c26b0 : decide (((rd_T39 l0_1 x36_2).f1) < (x8_2.length : Int)) = true := decide_eq_true c26
          clear c26
          by_cases c27 : (rd_L3 y117 ((rd_T39 l0_1 x36_2).f1)).length < 17592186044416
          rotate_left
          · rw [if_neg c27] at H; exact absurd H (by simp)
          rw [if_pos c27] at H
          have LMc27 := zMk c27
          clear c27
          obtain ⟨y119, hy119⟩ : ∃ y_ : List Int, y_ = ((rd_L3 y117 ((rd_T39 l0_1 x36_2).f1)) ++ [x36_2]) := ⟨_, rfl⟩
          replace H : (paths_From.l0 k2 a1 (y117.set (((rd_T39 l0_1 x36_2).f1) : Int).toNat y119) l0_1 (l0_1.length : Int) (wrap64 (x36_2 + 1)) a0_0 l0_1) = some (r1, r2, r3) := by first | (rw [hy119]; with_reducible exact H) | (have H2_ := bsm H; first | (rw [hy119]; with_reducible exact H2_) | with_reducible exact H2_) | with_reducible exact H | (rw [hy119]; exact H) | exact H
          have Ny119 := zMk hy119
          clear hy119
          obtain ⟨y122, hy122⟩ : ∃ y_ : List (List Int), y_ = (y117.set (((rd_T39 l0_1 x36_2).f1) : Int).toNat y119) := ⟨_, rfl⟩
          replace H : (paths_From.l0 k2 a1 y122 l0_1 (l0_1.length : Int) (wrap64 (x36_2 + 1)) a0_0 l0_1) = some (r1, r2, r3) := by first | (rw [hy122]; with_reducible exact H) | (have H2_ := bsm H; first | (rw [hy122]; with_reducible exact H2_) | with_reducible exact H2_) | with_reducible exact H | (rw [hy122]; exact H) | exact H
          have Ny122 := zMk hy122
          clear hy122
          have H' := zMk H
          clear H
          have p111 : 0 ≤ (x36_2 : Int) := of_decide_eq_true (by assumption)
          have q111 : x36_2 < (l0_1.length : Int) := of_decide_eq_true (by assumption)
          obtain ⟨ad111, e111, hx111_0, hx111_1, hx111_2⟩ := at_T39 HR0_1.out x36_2 p111 q111
          cases e111
          replace hx111_0 := (HB.out.cell (World.block_lt_of_cell? w _ hx111_0)).trans hx111_0
          replace hx111_1 := (HB.out.cell (World.block_lt_of_cell? w _ hx111_1)).trans hx111_1
          replace hx111_2 := (HB.out.cell (World.block_lt_of_cell? w _ hx111_2)).trans hx111_2
          replace p111 := eq_true p111
          replace q111 := eq_true q111
          try go_wp2_with (first | ((with_reducible refine gate_dst (N := 10) rfl ?_); refine box_event ?hg (N := 10) ?hd (cs := #[.int .i64 0, .int .i64 0, .int .i64 0]) (t := 39) ?hr ?_; (case hd => rfl); (case hg => rfl); (case hr => first | (go_simp; done)|(go_simp; rfl)|(go_simp; rw [show ∀ x : Int, IntKind.u32.wrap (IntKind.u8.wrap x) = x % 256 from fun x => (by show (x % 256) % 4294967296 = x % 256; omega)])); intro gb112 hg w29 hbox hb; replace HO_8 := zMk (Kd.S_below (by (with_reducible repeat (first |  apply Kd.S_alloc|  apply Kd.S_drewN|  apply Kd.S_drew)); exact HO_8.out) hb); have BK112 := zMk (hbox); have GW112 := zMk ((by rw [hg]; exact (zBs (by exact uT HB.out)) : w.heap.size ≤ gb112)); have GE112 := zMk ((by rw [hg]; exact (zBs (by exact uT HB.out)) : w.heap.size ≤ gb112)); have IGE112 := ownGe GE112.out; have IGE112 := ownGe GE112.out; replace HB := zMk (zBt (by exact uT HB.out) hb); have NB106_112 := zMk ((by rw [hg]; exact Nat.ne_of_lt (blk_lt (g := gb106) (o := .cells #[.int .i64 a0_0, .slice (some ad111) l0_1.length c0_1] 24 (0, 0)) (by (with_reducible repeat (first |  refine zKn ?_ _|  refine zKd ?_|  refine zKa ?_ _)); exact BK106.out)) : gb106 ≠ gb112)); have NB112_106 := zMk ((by rw [hg]; exact Nat.ne_of_gt (blk_lt (g := gb106) (o := .cells #[.int .i64 a0_0, .slice (some ad111) l0_1.length c0_1] 24 (0, 0)) (by (with_reducible repeat (first |  refine zKn ?_ _|  refine zKd ?_|  refine zKa ?_ _)); exact BK106.out)) : gb112 ≠ gb106)); replace BK106 := zMk (zKb (g := gb106) (o := .cells #[.int .i64 a0_0, .slice (some ad111) l0_1.length c0_1] 24 (0, 0)) (by (with_reducible repeat (first |  refine zKn ?_ _|  refine zKd ?_|  refine zKa ?_ _)); exact BK106.out) hb); clear hb hbox hg; have hnb30 := NB112_106.out; have hnc30 := NB106_112.out; have hcz31_0 : w29.cell? ⟨gb112, 0, none⟩ = some (.int .i64 0) := (zKc BK112.out 0).trans rfl; have hcz31_1 : w29.cell? ⟨gb112, 1, none⟩ = some (.int .i64 0) := (zKc BK112.out 1).trans rfl; have hcz31_2 : w29.cell? ⟨gb112, 2, none⟩ = some (.int .i64 0) := (zKc BK112.out 2).trans rfl; have hfz31_0 := zKf BK112.out 0; have hfz31_1 := zKf BK112.out 1; have hfz31_2 := zKf BK112.out 2))
          have n0_ : Aside0 (Kd.S (Kd.slice 3 (Kd.int .i64)) 31 (((w29.setCell ⟨gb112, 0, none⟩ (.int .i64 ((rd_T39 l0_1 x36_2).f0))).setCell ⟨gb112, 1, none⟩ (.int .i64 ((rd_T39 l0_1 x36_2).f1))).setCell ⟨gb112, 2, none⟩ (.int .i64 ((rd_T39 l0_1 x36_2).f2))) w.heap.size (fun _ => True) v109 x8_2) := ⟨by (with_reducible repeat (first |  apply Kd.S_alloc|  apply Kd.S_drewN|  apply Kd.S_drew)); exact Kd.S_mono (Kd.S_far (p := ⟨gb112, 2, none⟩) (Kd.S_far (p := ⟨gb112, 1, none⟩) (Kd.S_far (p := ⟨gb112, 0, none⟩) (Kd.S_types HO_8.out BK112.out (by decide)) (fun _ hk => hk.2) (.int .i64 ((rd_T39 l0_1 x36_2).f0))) (fun _ hk => hk.2) (.int .i64 ((rd_T39 l0_1 x36_2).f1))) (fun _ hk => hk.2) (.int .i64 ((rd_T39 l0_1 x36_2).f2))) (fun _ hk => trivial)⟩
          have n1_ : Aside0 ((((w29.setCell ⟨gb112, 0, none⟩ (.int .i64 ((rd_T39 l0_1 x36_2).f0))).setCell ⟨gb112, 1, none⟩ (.int .i64 ((rd_T39 l0_1 x36_2).f1))).setCell ⟨gb112, 2, none⟩ (.int .i64 ((rd_T39 l0_1 x36_2).f2))).heap[gb106]? = some (.cells #[.int .i64 a0_0, .slice (some ad111) l0_1.length c0_1] 24 (0, 0))) := ⟨by (with_reducible repeat (first | refine zKn ?_ _ | refine zKd ?_ | refine zKa ?_ _)); refine blk_far ?_ NB106_112.out _; (with_reducible repeat (first | refine zKn ?_ _ | refine zKd ?_ | refine zKa ?_ _)); refine blk_far ?_ NB106_112.out _; (with_reducible repeat (first | refine zKn ?_ _ | refine zKd ?_ | refine zKa ?_ _)); refine blk_far ?_ NB106_112.out _; (with_reducible repeat (first | refine zKn ?_ _ | refine zKd ?_ | refine zKa ?_ _)); exact BK106.out⟩
          have n2_ : Aside0 ((((w29.setCell ⟨gb112, 0, none⟩ (.int .i64 ((rd_T39 l0_1 x36_2).f0))).setCell ⟨gb112, 1, none⟩ (.int .i64 ((rd_T39 l0_1 x36_2).f1))).setCell ⟨gb112, 2, none⟩ (.int .i64 ((rd_T39 l0_1 x36_2).f2))).heap[gb112]? = some (.cells #[.int .i64 ((rd_T39 l0_1 x36_2).f0), .int .i64 ((rd_T39 l0_1 x36_2).f1), .int .i64 ((rd_T39 l0_1 x36_2).f2)] 39 (0, 0))) := ⟨by (with_reducible repeat (first | refine zKn ?_ _ | refine zKd ?_ | refine zKa ?_ _)); refine blk_put (cs := #[.int .i64 ((rd_T39 l0_1 x36_2).f0), .int .i64 ((rd_T39 l0_1 x36_2).f1), .int .i64 0]) ?_ 2 _ rfl; (with_reducible repeat (first | refine zKn ?_ _ | refine zKd ?_ | refine zKa ?_ _)); refine blk_put (cs := #[.int .i64 ((rd_T39 l0_1 x36_2).f0), .int .i64 0, .int .i64 0]) ?_ 1 _ rfl; (with_reducible repeat (first | refine zKn ?_ _ | refine zKd ?_ | refine zKa ?_ _)); refine blk_put (cs := #[.int .i64 0, .int .i64 0, .int .i64 0]) ?_ 0 _ rfl; (with_reducible repeat (first | refine zKn ?_ _ | refine zKd ?_ | refine zKa ?_ _)); exact BK112.out⟩
          have n3_ : Aside0 (Below w.heap.size w (((w29.setCell ⟨gb112, 0, none⟩ (.int .i64 ((rd_T39 l0_1 x36_2).f0))).setCell ⟨gb112, 1, none⟩ (.int .i64 ((rd_T39 l0_1 x36_2).f1))).setCell ⟨gb112, 2, none⟩ (.int .i64 ((rd_T39 l0_1 x36_2).f2)))) := ⟨by exact uT HB.out⟩
          generalize (((w29.setCell ⟨gb112, 0, none⟩ (.int .i64 ((rd_T39 l0_1 x36_2).f0))).setCell ⟨gb112, 1, none⟩ (.int .i64 ((rd_T39 l0_1 x36_2).f1))).setCell ⟨gb112, 2, none⟩ (.int .i64 ((rd_T39 l0_1 x36_2).f2))) = w32 at n0_ n1_ n2_ n3_ ⊢
          have HO_8 := n0_
          have BK106 := n1_
          have BK112 := n2_
          have HB := n3_
          clear n0_ n1_ n2_ n3_
          replace HO_8 := zMk (Kd.S_drew HO_8.out)
          replace BK106 := zMk (zKd BK106.out)
          replace BK112 := zMk (zKd BK112.out)
          replace HB := zMk (zBd HB.out)
          obtain ⟨Ao34, co34, eo34⟩ := Kd.S_slice HO_8.out
          (first |  subst eo34|  (injection eo34 with f1_ f2_ f3_; have f4_ := f1_.symm; have f5_ := f3_.symm; clear f1_ f2_ f3_; subst f4_; subst f5_))
          have p113 : 0 ≤ (((rd_T39 l0_1 x36_2).f0) : Int) := of_decide_eq_true (by assumption)
          have q113 : ((rd_T39 l0_1 x36_2).f0) < (x8_2.length : Int) := of_decide_eq_true (by assumption)
          obtain ⟨ad113, A113_0, c113_0, e113, hx113_0, hl113_0, hi113_0⟩ := at_L3 (Kd.S_reads' HO_8.out).2.2 ((rd_T39 l0_1 x36_2).f0) p113 q113
          cases e113
          obtain ⟨ce113, hce113, hMe113, hcc113⟩ := Kd.S_get HO_8.out [] ((rd_T39 l0_1 x36_2).f0) p113 (by first | exact q113 | exact of_decide_eq_true (by assumption) | (have e_ := (Kd.S_reads' HO_8.out).1; omega))
          obtain ⟨ve113_0, rfl, ge113_0⟩ := hMe113
          have hv113_0 := hcc113 0 _ rfl
          rw [Nat.add_zero, show ((Kd.slice 3 (Kd.int .i64))).sz = 1 from rfl, Nat.mul_one] at hv113_0
          replace hv113_0 := zOi (hv113_0.symm.trans hx113_0)
          rw [hv113_0] at ge113_0
          have HL113_0 := zMk (show Kd.R (Kd.int .i64) 3 _ _ _ _ (rd_L3 x8_2 ((rd_T39 l0_1 x36_2).f0)) from ge113_0)
          clear hv113_0 ge113_0
          have HX113_0 := zMk hx113_0
          clear hcc113 hce113
          have HR113_0 := zMk hi113_0
          have HC113_0 := zMk hl113_0
          clear hi113_0 hl113_0
          replace p113 := eq_true p113
          replace q113 := eq_true q113
          obtain ⟨go35, co35, eo35, gb35, gl35, cl35, HG35⟩ := Kd.S_form HO_8.out (by have h_ : (((rd_T39 l0_1 x36_2).f0) : Int) < ((x8_2.length : Int) : Int) := of_decide_eq_true (by assumption); have h2_ : 0 ≤ (((rd_T39 l0_1 x36_2).f0) : Int) := (of_decide_eq_true (by assumption)); omega)
          (first |  cases eo35|  (injection eo35 with ea_ en_ ec_; (first |  subst ea_|  (injection ea_ with ea_; subst ea_)); subst ec_; clear en_))
          have GB35 := zMk gb35
          have IGB35 := ownGe GB35.out
          have IGB35 := ownGe GB35.out
          have GG35 := zMk HG35
          clear gb35 gl35 HG35
          (first | simp only [add_plain] at hx113_0 | skip)
          obtain ⟨oki35, ce35, hcl35, hM35, hcc35, _, _, hH35⟩ := Kd.S_elem HO_8.out [] (((rd_T39 l0_1 x36_2).f0) : Int) (of_decide_eq_true (by assumption)) (by have h_ : (((rd_T39 l0_1 x36_2).f0) : Int) < ((x8_2.length : Int) : Int) := of_decide_eq_true (by assumption); first | exact h_ | (have e_ := (Kd.S_reads' HO_8.out).1; omega) | simpa using h_)
          obtain ⟨ve35_0, rfl, ge35_0⟩ := hM35
          have hv35 := hcc35 0 _ rfl
          have hX35 := HX113_0.out
          (try simp only [add_plain] at hX35)
          (try simp only [Nat.add_zero] at hv35)
          (try rw [show ((Kd.slice 3 (Kd.int .i64))).sz = 1 from rfl, Nat.mul_one] at hv35)
          replace hv35 := zOi (hv35.symm.trans hX35)
          subst hv35
          clear hX35 hcc35 hcl35
          have UU35 := zMk (show Kd.R (Kd.int .i64) 3 _ w.heap.size oki35 (.slice A113_0 (rd_L3 x8_2 ((rd_T39 l0_1 x36_2).f0)).length c113_0) (rd_L3 x8_2 ((rd_T39 l0_1 x36_2).f0)) from ge35_0)
          have HH35 := zMk hH35
          have HN35 := zMk (Kd.S_reads' HO_8.out).1
          clear hH35 ge35_0
          refine start_ (n := 13) (S := fun w' => w'.cell? ⟨gb112, 0, none⟩ = some (.int .i64 ((rd_T39 l0_1 x36_2).f0)) ∧ w'.cell? ⟨gb112, 1, none⟩ = some (.int .i64 ((rd_T39 l0_1 x36_2).f1)) ∧ w'.cell? ⟨gb112, 2, none⟩ = some (.int .i64 ((rd_T39 l0_1 x36_2).f2)) ∧ w'.cell? ⟨go35, (((rd_T39 l0_1 x36_2).f0)).toNat, none⟩ = some (.slice A113_0 (rd_L3 x8_2 ((rd_T39 l0_1 x36_2).f0)).length c113_0)) (ds := [12]) #[false, false, false, false, false, false, false, false, false, false, false, false, false] (by kernel_rfl) rfl rfl ⟨(zKc BK112.out 0).trans rfl, (zKc BK112.out 1).trans rfl, (zKc BK112.out 2).trans rfl, hx113_0⟩ (fun hHeld => ?_); refine with_tabW paths_From.tab10 paths_From.bits10 (fun HT_ HW_ => ?_)
          generalize w32.drew = w33 at HO_8 BK106 BK112 HB GG35 HH35 HL113_0 HR113_0 HX113_0 UU35 hx113_0 hHeld ⊢
          refine pure_ (i := 0) (N := some 41) (v := ?_) (a' := ?_) #[true, false, false, false, false, false, false, false, false, false, false, false, false] rfl rfl (any_of HT_.out (by kernel_rfl)) (fun _ _ _ h => h) (Or.inl ⟨by rfl, ?_⟩) ?_ ?_
          rotate_left
          · intro w'
            go_simp
            with_reducible rfl
          rotate_left
          · simp only [Act.put, zSa, zSb, zSc, i64_w, i32_w]
            rfl
          refine pure_ (i := 1) (N := some 42) (v := ?_) (a' := ?_) #[true, true, false, false, false, false, false, false, false, false, false, false, false] rfl rfl (any_of HT_.out (by kernel_rfl)) (fun _ _ _ h => h) (Or.inl ⟨by rfl, ?_⟩) ?_ ?_
          rotate_left
          · intro w'
            go_simp
            with_reducible rfl
          rotate_left
          · simp only [Act.put, zSa, zSb, zSc, i64_w, i32_w]
            rfl
          refine pure_ (i := 3) (N := some 44) (v := ?_) (a' := ?_) #[true, true, false, true, false, false, false, false, false, false, false, false, false] rfl rfl (any_of HT_.out (by kernel_rfl)) (fun _ _ _ h => h) (Or.inl ⟨by rfl, ?_⟩) ?_ ?_
          rotate_left
          · intro w'
            go_simp
            with_reducible rfl
          rotate_left
          · simp only [Act.put, zSa, zSb, zSc, i64_w, i32_w]
            rfl
          refine pure_ (i := 4) (N := some 45) (v := ?_) (a' := ?_) #[true, true, false, true, true, false, false, false, false, false, false, false, false] rfl rfl (any_of HT_.out (by kernel_rfl)) (fun _ _ _ h => h) (Or.inl ⟨by rfl, ?_⟩) ?_ ?_
          rotate_left
          · intro w'
            go_simp
            with_reducible rfl
          rotate_left
          · simp only [Act.put, zSa, zSb, zSc, i64_w, i32_w]
            rfl
          refine pure_ (i := 8) (N := some 49) (v := ?_) (a' := ?_) #[true, true, false, true, true, false, false, false, true, false, false, false, false] rfl rfl (any_of HT_.out (by kernel_rfl)) (fun _ _ _ h => h) (Or.inl ⟨by rfl, ?_⟩) ?_ ?_
          rotate_left
          · intro w'
            go_simp
            with_reducible rfl
          rotate_left
          · simp only [Act.put, zSa, zSb, zSc, i64_w, i32_w]
            rfl
          refine take_ (i := 2) (N := some 43) (v := ?_) (a' := ?_) #[true, true, true, true, true, false, false, false, true, false, false, false, false] rfl rfl (take_ofW HT_.out HW_.out (by kernel_rfl)) (fun _ _ _ h => h) (Or.inl ⟨by rfl, ?_⟩) hHeld ?_ ?_
          rotate_left
          · rintro w' ⟨s0, s1, s2, s3⟩
            go_simp
            with_reducible rfl
          rotate_left
          · simp only [Act.put, zSa, zSb, zSc, i64_w, i32_w]
            rfl
          refine take_ (i := 5) (N := some 46) (v := ?_) (a' := ?_) #[true, true, true, true, true, true, false, false, true, false, false, false, false] rfl rfl (take_ofW HT_.out HW_.out (by kernel_rfl)) (fun _ _ _ h => h) (Or.inl ⟨by rfl, ?_⟩) hHeld ?_ ?_
          rotate_left
          · rintro w' ⟨s0, s1, s2, s3⟩
            go_simp
            with_reducible rfl
          rotate_left
          · simp only [Act.put, zSa, zSb, zSc, i64_w, i32_w]
            rfl
          refine pure_ (i := 6) (N := some 47) (v := ?_) (a' := ?_) #[true, true, true, true, true, true, true, false, true, false, false, false, false] rfl rfl (any_of HT_.out (by kernel_rfl)) (fun _ _ _ h => h) (Or.inl ⟨by rfl, ?_⟩) ?_ ?_
          rotate_left
          · intro w'
            go_simp
            with_reducible rfl
          rotate_left
          · simp only [Act.put, zSa, zSb, zSc, i64_w, i32_w]
            rfl
          refine take_ (i := 7) (N := some 48) (v := ?_) (a' := ?_) #[true, true, true, true, true, true, true, true, true, false, false, false, false] rfl rfl (take_ofW HT_.out HW_.out (by kernel_rfl)) (fun _ _ _ h => h) (Or.inl ⟨by rfl, ?_⟩) hHeld ?_ ?_
          rotate_left
          · rintro w' ⟨s0, s1, s2, s3⟩
            go_simp
            with_reducible rfl
          rotate_left
          · simp only [Act.put, zSa, zSb, zSc, i64_w, i32_w]
            rfl
          refine one_ (i := 9) (N := some 50) #[true, true, true, true, true, true, true, true, true, true, false, false, false] rfl rfl (one_of HT_.out (by kernel_rfl)) (by decide) (fun K hK => ?_)
          refine value_ (w1 := ?_) (v := ?_) (by rfl) rfl ?_ ?_
          rotate_left 2
          · go_simp
            constructor
            · rfl
            · rfl
          refine hK.out _ _ ⟨(zKc (zKa BK112.out _) 0).trans rfl, (zKc (zKa BK112.out _) 1).trans rfl, (zKc (zKa BK112.out _) 2).trans rfl, (World.cell?_alloc_lt _ _ _ (World.block_lt_of_cell? _ _ (hHeld.2.2.2))).trans (hHeld.2.2.2)⟩ (fun hHeld => ?_)
          clear hK K
          refine norm_ (a' := ?_) ?_ ?_
          rotate_left
          · show Act.put _ (some 50) _ = _
            simp only [Act.put, zSa, zSb, zSc, i64_w, i32_w]
            rfl
          refine one_ (i := 10) (N := some 51) #[true, true, true, true, true, true, true, true, true, true, true, false, false] rfl rfl (one_of HT_.out (by kernel_rfl)) (by decide) (fun K hK => ?_)
          refine Kd.R_append_step (Kd.int .i64) (w0 := w) w.heap.size (by rfl) (.tmp 48) (.tmp 50) 31 3 (.int .i64 0) 8 rfl Try.underlying31 info3 rfl (by decide) (by omega) (.slice A113_0 (rd_L3 x8_2 ((rd_T39 l0_1 x36_2).f0)).length c113_0) (rd_L3 x8_2 ((rd_T39 l0_1 x36_2).f0)) x36_2 [.int .i64 x36_2] (fun k_ => oki35 k_ ∨ ((fun _ => True)) k_ ∧ w33.heap.size ≤ k_) (fun _ => False) rfl rfl ?aP (fun _ hk => hk.elim) ?aF ?aO ?aB ?aS ?aL ?_
          (case aP => exact rfl)
          (case aB => exact (by exact uT HB.out))
          (case aF => exact (fun k_ hk => .inr ⟨trivial, hk⟩))
          (case aO => exact (by (with_reducible repeat (first | apply zRa | apply zRn | apply zRd)); exact zRm UU35.out (fun _ hk => .inl hk)))
          (case aS => exact (zBs (by exact uT HB.out)))
          (case aL => have := LMc23.out; omega)
          intro v115 w36 ho hb hg hat
          (first | have HS3_ := Go.Proofs.YtnigaojboililaaW.PrintWords.cell_grown hg (hHeld.2.2.2) (by first | (rw [add_block]; exact (fun e_ => ((HL113_0.out.1 _ e_.symm).2) rfl)) | (show some (Addr.add _ _).block ≠ _; rw [add_block]; exact (fun e_ => ((HL113_0.out.1 _ e_.symm).2) rfl)) | exact (fun e_ => ((HL113_0.out.1 _ e_.symm).2) rfl)) | have HS3_ := Go.Proofs.YtnigaojboililaaW.PrintWords.cell_grown hg (cell_unalloc (hHeld.2.2.2) (by first | (rw [add_block]; exact Kd.S_lt HO_8.out _ rfl) | (show (Addr.add _ _).block < _; rw [add_block]; exact Kd.S_lt HO_8.out _ rfl) | exact Kd.S_lt HO_8.out _ rfl)) (by first | (rw [add_block]; exact (fun e_ => ((HL113_0.out.1 _ e_.symm).2) rfl)) | (show some (Addr.add _ _).block ≠ _; rw [add_block]; exact (fun e_ => ((HL113_0.out.1 _ e_.symm).2) rfl)) | exact (fun e_ => ((HL113_0.out.1 _ e_.symm).2) rfl)))
          rw [← Ny114.out] at ho
          replace BK106 := zMk (blk_grown (g := gb106) (o := .cells #[.int .i64 a0_0, .slice (some ad111) l0_1.length c0_1] 24 (0, 0)) (by (with_reducible repeat (first | refine zKn ?_ _ | refine zKd ?_ | refine zKa ?_ _)); exact BK106.out) hg (Kd.R_ne HL113_0.out BK106.out (by decide)))
          replace BK112 := zMk (blk_grown (g := gb112) (o := .cells #[.int .i64 ((rd_T39 l0_1 x36_2).f0), .int .i64 ((rd_T39 l0_1 x36_2).f1), .int .i64 ((rd_T39 l0_1 x36_2).f2)] 39 (0, 0)) (by (with_reducible repeat (first | refine zKn ?_ _ | refine zKd ?_ | refine zKa ?_ _)); exact BK112.out) hg (Kd.R_ne HL113_0.out BK112.out (by decide)))
          replace HB := zMk (hb)
          replace HH35 := zMk (Kd.H_grown (Kd.H_widen (by repeat (first | exact HH35.out | refine Kd.H_alloc ?_ _ | refine Kd.H_drewN ?_ _ | refine Kd.H_drew ?_))) hg (fun k_ e_ => .inl (UU35.out.1 k_ e_)))
          have HO116 := zMk (ho)
          clear HO_8 UU35 HL113_0 ho hb hg hat
          have p24 : 0 ≤ (((rd_T39 l0_1 x36_2).f0) : Int) := of_decide_eq_true (by assumption)
          have q24 : (((rd_T39 l0_1 x36_2).f0) : Int) < ((x8_2.length : Int) : Int) := of_decide_eq_true (by assumption)
          replace p24 := eq_true p24
          replace q24 := eq_true q24
          obtain ⟨Ao39, co39, eo39⟩ := zRs HO116.out
          (first |  subst eo39|  (injection eo39 with f1_ f2_ f3_; have f4_ := f1_.symm; have f5_ := f3_.symm; clear f1_ f2_ f3_; subst f4_; subst f5_))
          obtain ⟨_, _, hraw37, _, _, hcc37, _⟩ := Kd.H_raw HH35.out (of_decide_eq_true (by assumption)) (by have h_ : (((rd_T39 l0_1 x36_2).f0) : Int) < ((x8_2.length : Int) : Int) := of_decide_eq_true (by assumption); first | exact h_ | (have e_ := (HN35.out); omega) | simpa using h_)
          obtain ⟨_, hfr37⟩ := Kd.H_at HH35.out (of_decide_eq_true (by assumption)) (by have h_ : (((rd_T39 l0_1 x36_2).f0) : Int) < ((x8_2.length : Int) : Int) := of_decide_eq_true (by assumption); first | exact h_ | (have e_ := (HN35.out); omega) | simpa using h_)
          have hx37_0 := hcc37 0 _ rfl
          have hf37_0 := hfr37 0
          (try simp only [Nat.add_zero] at hx37_0 hf37_0)
          (try rw [show ((Kd.slice 3 (Kd.int .i64))).sz = 1 from rfl, Nat.mul_one] at hx37_0)
          (try rw [show ((Kd.slice 3 (Kd.int .i64))).sz = 1 from rfl, Nat.mul_one] at hf37_0)
          have HP37 := Kd.S_seg0 HH35.out (of_decide_eq_true (by assumption)) (by have h_ : (((rd_T39 l0_1 x36_2).f0) : Int) < ((x8_2.length : Int) : Int) := of_decide_eq_true (by assumption); first | exact h_ | (have e_ := (HN35.out); omega) | simpa using h_) (seg := [.slice Ao39 y114.length co39]) (j := 0) (show 1 ≤ 1 from by decide) (x' := y114) (Kd.M_row HO116.out) (fun _ hk => hk)
          (try simp only [show ((Kd.slice 3 (Kd.int .i64))).sz = 1 from rfl, Nat.mul_one, Nat.add_zero] at HP37)
          clear hcc37 hfr37
          have HNB106_go35 := zMk (show gb106 ≠ go35 from by have h_ := Kd.R_ne hraw37 BK106.out (by decide); intro e_; exact h_ (by rw [e_]; rfl))
          have HNB112_go35 := zMk (show gb112 ≠ go35 from by have h_ := Kd.R_ne hraw37 BK112.out (by decide); intro e_; exact h_ (by rw [e_]; rfl))
          have HS37 := HP37.1
          rw [← Ny117.out] at HS37
          have HQ37 := zMk HS37
          obtain ⟨_, hgg37⟩ := Kd.R_typed hraw37 go35 rfl
          have GG37_ := zMk hgg37
          clear HP37 HS37 hgg37
          refine hK.out _ _ ⟨(zKc BK112.out 0).trans rfl, (zKc BK112.out 1).trans rfl, (zKc BK112.out 2).trans rfl, HS3_⟩ (fun hHeld => ?_)
          clear hK K
          refine norm_ (a' := ?_) ?_ ?_
          rotate_left
          · show Act.put _ (some 51) _ = _
            simp only [Act.put, zSa, zSb, zSc, i64_w, i32_w]
            rfl
          refine pure_ (i := 11) (N := some 52) (v := ?_) (a' := ?_) #[true, true, true, true, true, true, true, true, true, true, true, true, false] rfl rfl (any_of HT_.out (by kernel_rfl)) (fun _ _ _ h => h) (Or.inl ⟨by rfl, ?_⟩) ?_ ?_
          rotate_left
          · intro w'
            go_simp
            with_reducible rfl
          rotate_left
          · simp only [Act.put, zSa, zSb, zSc, i64_w, i32_w]
            rfl
          refine last_ (i := 12) (N := none) #[true, true, true, true, true, true, true, true, true, true, true, true, true] rfl rfl (one_of HT_.out (by kernel_rfl)) (by decide) (fun K hK => ?_)
          refine skip_ (w1 := ?_) (by rfl) rfl ?_ ?_
          rotate_left
          · go_simp
            rfl
          refine hK.out _ _ ?_
          clear hK K
          refine done_ (done_of HT_.out (by kernel_rfl)) ?_
          try go_wp2
          have n0_ : Aside0 (Kd.S (Kd.slice 3 (Kd.int .i64)) 31 (w36.setCell ⟨go35, (((rd_T39 l0_1 x36_2).f0) : Int).toNat, none⟩ (.slice Ao39 y114.length co39)) w.heap.size (fun _ => True) (.slice (some ⟨go35, 0, none⟩) x8_2.length co34) y117) := ⟨by (with_reducible repeat (first |  apply Kd.S_alloc|  apply Kd.S_drewN|  apply Kd.S_drew)); exact HQ37.out⟩
          have n1_ : Aside0 ((w36.setCell ⟨go35, (((rd_T39 l0_1 x36_2).f0) : Int).toNat, none⟩ (.slice Ao39 y114.length co39)).heap[gb106]? = some (.cells #[.int .i64 a0_0, .slice (some ad111) l0_1.length c0_1] 24 (0, 0))) := ⟨by (with_reducible repeat (first | refine zKn ?_ _ | refine zKd ?_ | refine zKa ?_ _)); refine blk_far ?_ HNB106_go35.out _; (with_reducible repeat (first | refine zKn ?_ _ | refine zKd ?_ | refine zKa ?_ _)); exact BK106.out⟩
          have n2_ : Aside0 ((w36.setCell ⟨go35, (((rd_T39 l0_1 x36_2).f0) : Int).toNat, none⟩ (.slice Ao39 y114.length co39)).heap[gb112]? = some (.cells #[.int .i64 ((rd_T39 l0_1 x36_2).f0), .int .i64 ((rd_T39 l0_1 x36_2).f1), .int .i64 ((rd_T39 l0_1 x36_2).f2)] 39 (0, 0))) := ⟨by (with_reducible repeat (first | refine zKn ?_ _ | refine zKd ?_ | refine zKa ?_ _)); refine blk_far ?_ HNB112_go35.out _; (with_reducible repeat (first | refine zKn ?_ _ | refine zKd ?_ | refine zKa ?_ _)); exact BK112.out⟩
          have n3_ : Aside0 (Below w.heap.size w (w36.setCell ⟨go35, (((rd_T39 l0_1 x36_2).f0) : Int).toNat, none⟩ (.slice Ao39 y114.length co39))) := ⟨by exact uT HB.out⟩
          generalize (w36.setCell ⟨go35, (((rd_T39 l0_1 x36_2).f0) : Int).toNat, none⟩ (.slice Ao39 y114.length co39)) = w40 at n0_ n1_ n2_ n3_ ⊢
          have HO_8 := n0_
          have BK106 := n1_
          have BK112 := n2_
          have HB := n3_
          clear n0_ n1_ n2_ n3_
          replace HO_8 := zMk (Kd.S_drew HO_8.out)
          replace BK106 := zMk (zKd BK106.out)
          replace BK112 := zMk (zKd BK112.out)
          replace HB := zMk (zBd HB.out)
          have p118 : 0 ≤ (((rd_T39 l0_1 x36_2).f1) : Int) := of_decide_eq_true (by assumption)
          have q118 : ((rd_T39 l0_1 x36_2).f1) < (y117.length : Int) := (by have h_ : (((rd_T39 l0_1 x36_2).f1) : Int) < ((x8_2.length : Int) : Int) := of_decide_eq_true (by assumption); first | (have e_ := (Kd.S_reads' HO_8.out).1; omega) | simpa only [Ny117.out, List.length_set] using h_)
          have ql118 : ((((rd_T39 l0_1 x36_2).f1) : Int) < ((x8_2.length : Int) : Int)) = True := eq_true (of_decide_eq_true (by assumption))
          obtain ⟨ad118, A118_0, c118_0, e118, hx118_0, hl118_0, hi118_0⟩ := at_L3 (Kd.S_reads' HO_8.out).2.2 ((rd_T39 l0_1 x36_2).f1) p118 q118
          obtain rfl : (⟨go35, 0, none⟩ : Addr) = ad118 := (by injection e118)
          obtain ⟨ce118, hce118, hMe118, hcc118⟩ := Kd.S_get HO_8.out [] ((rd_T39 l0_1 x36_2).f1) p118 (by first | exact q118 | exact of_decide_eq_true (by assumption) | (have e_ := (Kd.S_reads' HO_8.out).1; omega))
          obtain ⟨ve118_0, rfl, ge118_0⟩ := hMe118
          have hv118_0 := hcc118 0 _ rfl
          rw [Nat.add_zero, show ((Kd.slice 3 (Kd.int .i64))).sz = 1 from rfl, Nat.mul_one] at hv118_0
          replace hv118_0 := zOi (hv118_0.symm.trans hx118_0)
          rw [hv118_0] at ge118_0
          have HL118_0 := zMk (show Kd.R (Kd.int .i64) 3 _ _ _ _ (rd_L3 y117 ((rd_T39 l0_1 x36_2).f1)) from ge118_0)
          clear hv118_0 ge118_0
          have HX118_0 := zMk hx118_0
          clear hcc118 hce118
          (first | simp only [add_plain] at hx118_0 | simp only [add_at] at hx118_0 | simp only [Addr.add, Nat.zero_add] at hx118_0 | skip)
          have HR118_0 := zMk hi118_0
          have HC118_0 := zMk hl118_0
          clear hi118_0 hl118_0
          replace p118 := eq_true p118
          replace q118 := eq_true q118
          obtain ⟨oki42, ce42, hcl42, hM42, hcc42, _, _, hH42⟩ := Kd.S_elem HO_8.out [] (((rd_T39 l0_1 x36_2).f1) : Int) (of_decide_eq_true (by assumption)) (by have h_ : (((rd_T39 l0_1 x36_2).f1) : Int) < ((x8_2.length : Int) : Int) := of_decide_eq_true (by assumption); first | exact h_ | (have e_ := (Kd.S_reads' HO_8.out).1; omega) | simpa using h_)
          obtain ⟨ve42_0, rfl, ge42_0⟩ := hM42
          have hv42 := hcc42 0 _ rfl
          have hX42 := HX118_0.out
          (try simp only [add_plain] at hX42)
          (try simp only [Nat.add_zero] at hv42)
          (try rw [show ((Kd.slice 3 (Kd.int .i64))).sz = 1 from rfl, Nat.mul_one] at hv42)
          replace hv42 := zOi (hv42.symm.trans hX42)
          subst hv42
          clear hX42 hcc42 hcl42
          have UU42 := zMk (show Kd.R (Kd.int .i64) 3 _ w.heap.size oki42 (.slice A118_0 (rd_L3 y117 ((rd_T39 l0_1 x36_2).f1)).length c118_0) (rd_L3 y117 ((rd_T39 l0_1 x36_2).f1)) from ge42_0)
          have HH42 := zMk hH42
          have HN42 := zMk (Kd.S_reads' HO_8.out).1
          clear hH42 ge42_0
          refine start_ (n := 13) (S := fun w' => w'.cell? ⟨gb112, 0, none⟩ = some (.int .i64 ((rd_T39 l0_1 x36_2).f0)) ∧ w'.cell? ⟨gb112, 1, none⟩ = some (.int .i64 ((rd_T39 l0_1 x36_2).f1)) ∧ w'.cell? ⟨gb112, 2, none⟩ = some (.int .i64 ((rd_T39 l0_1 x36_2).f2)) ∧ w'.cell? ⟨go35, (((rd_T39 l0_1 x36_2).f1)).toNat, none⟩ = some (.slice A118_0 (rd_L3 y117 ((rd_T39 l0_1 x36_2).f1)).length c118_0)) (ds := [12]) #[false, false, false, false, false, false, false, false, false, false, false, false, false] (by kernel_rfl) rfl rfl ⟨(zKc BK112.out 0).trans rfl, (zKc BK112.out 1).trans rfl, (zKc BK112.out 2).trans rfl, hx118_0⟩ (fun hHeld => ?_); refine with_tabW paths_From.tab11 paths_From.bits11 (fun HT_ HW_ => ?_)
          generalize w40.drew = w41 at HO_8 BK106 BK112 HB HH42 HL118_0 HQ37 HR118_0 HX118_0 UU42 hx118_0 hHeld ⊢
          refine pure_ (i := 0) (N := some 53) (v := ?_) (a' := ?_) #[true, false, false, false, false, false, false, false, false, false, false, false, false] rfl rfl (any_of HT_.out (by kernel_rfl)) (fun _ _ _ h => h) (Or.inl ⟨by rfl, ?_⟩) ?_ ?_
          rotate_left
          · intro w'
            go_simp
            with_reducible rfl
          rotate_left
          · simp only [Act.put, zSa, zSb, zSc, i64_w, i32_w]
            rfl
          refine pure_ (i := 1) (N := some 54) (v := ?_) (a' := ?_) #[true, true, false, false, false, false, false, false, false, false, false, false, false] rfl rfl (any_of HT_.out (by kernel_rfl)) (fun _ _ _ h => h) (Or.inl ⟨by rfl, ?_⟩) ?_ ?_
          rotate_left
          · intro w'
            go_simp
            with_reducible rfl
          rotate_left
          · simp only [Act.put, zSa, zSb, zSc, i64_w, i32_w]
            rfl
          refine pure_ (i := 3) (N := some 56) (v := ?_) (a' := ?_) #[true, true, false, true, false, false, false, false, false, false, false, false, false] rfl rfl (any_of HT_.out (by kernel_rfl)) (fun _ _ _ h => h) (Or.inl ⟨by rfl, ?_⟩) ?_ ?_
          rotate_left
          · intro w'
            go_simp
            with_reducible rfl
          rotate_left
          · simp only [Act.put, zSa, zSb, zSc, i64_w, i32_w]
            rfl
          refine pure_ (i := 4) (N := some 57) (v := ?_) (a' := ?_) #[true, true, false, true, true, false, false, false, false, false, false, false, false] rfl rfl (any_of HT_.out (by kernel_rfl)) (fun _ _ _ h => h) (Or.inl ⟨by rfl, ?_⟩) ?_ ?_
          rotate_left
          · intro w'
            go_simp
            with_reducible rfl
          rotate_left
          · simp only [Act.put, zSa, zSb, zSc, i64_w, i32_w]
            rfl
          refine pure_ (i := 8) (N := some 61) (v := ?_) (a' := ?_) #[true, true, false, true, true, false, false, false, true, false, false, false, false] rfl rfl (any_of HT_.out (by kernel_rfl)) (fun _ _ _ h => h) (Or.inl ⟨by rfl, ?_⟩) ?_ ?_
          rotate_left
          · intro w'
            go_simp
            with_reducible rfl
          rotate_left
          · simp only [Act.put, zSa, zSb, zSc, i64_w, i32_w]
            rfl
          refine take_ (i := 2) (N := some 55) (v := ?_) (a' := ?_) #[true, true, true, true, true, false, false, false, true, false, false, false, false] rfl rfl (take_ofW HT_.out HW_.out (by kernel_rfl)) (fun _ _ _ h => h) (Or.inl ⟨by rfl, ?_⟩) hHeld ?_ ?_
          rotate_left
          · rintro w' ⟨s0, s1, s2, s3⟩
            go_simp
            with_reducible rfl
          rotate_left
          · simp only [Act.put, zSa, zSb, zSc, i64_w, i32_w]
            rfl
          refine take_ (i := 5) (N := some 58) (v := ?_) (a' := ?_) #[true, true, true, true, true, true, false, false, true, false, false, false, false] rfl rfl (take_ofW HT_.out HW_.out (by kernel_rfl)) (fun _ _ _ h => h) (Or.inl ⟨by rfl, ?_⟩) hHeld ?_ ?_
          rotate_left
          · rintro w' ⟨s0, s1, s2, s3⟩
            go_simp
            with_reducible rfl
          rotate_left
          · simp only [Act.put, zSa, zSb, zSc, i64_w, i32_w]
            rfl
          refine pure_ (i := 6) (N := some 59) (v := ?_) (a' := ?_) #[true, true, true, true, true, true, true, false, true, false, false, false, false] rfl rfl (any_of HT_.out (by kernel_rfl)) (fun _ _ _ h => h) (Or.inl ⟨by rfl, ?_⟩) ?_ ?_
          rotate_left
          · intro w'
            go_simp
            with_reducible rfl
          rotate_left
          · simp only [Act.put, zSa, zSb, zSc, i64_w, i32_w]
            rfl
          refine take_ (i := 7) (N := some 60) (v := ?_) (a' := ?_) #[true, true, true, true, true, true, true, true, true, false, false, false, false] rfl rfl (take_ofW HT_.out HW_.out (by kernel_rfl)) (fun _ _ _ h => h) (Or.inl ⟨by rfl, ?_⟩) hHeld ?_ ?_
          rotate_left
          · rintro w' ⟨s0, s1, s2, s3⟩
            go_simp
            with_reducible rfl
          rotate_left
          · simp only [Act.put, zSa, zSb, zSc, i64_w, i32_w]
            rfl
          refine one_ (i := 9) (N := some 62) #[true, true, true, true, true, true, true, true, true, true, false, false, false] rfl rfl (one_of HT_.out (by kernel_rfl)) (by decide) (fun K hK => ?_)
          refine value_ (w1 := ?_) (v := ?_) (by rfl) rfl ?_ ?_
          rotate_left 2
          · go_simp
            constructor
            · rfl
            · rfl
          refine hK.out _ _ ⟨(zKc (zKa BK112.out _) 0).trans rfl, (zKc (zKa BK112.out _) 1).trans rfl, (zKc (zKa BK112.out _) 2).trans rfl, (World.cell?_alloc_lt _ _ _ (World.block_lt_of_cell? _ _ (hHeld.2.2.2))).trans (hHeld.2.2.2)⟩ (fun hHeld => ?_)
          clear hK K
          refine norm_ (a' := ?_) ?_ ?_
          rotate_left
          · show Act.put _ (some 62) _ = _
            simp only [Act.put, zSa, zSb, zSc, i64_w, i32_w]
            rfl
          refine one_ (i := 10) (N := some 63) #[true, true, true, true, true, true, true, true, true, true, true, false, false] rfl rfl (one_of HT_.out (by kernel_rfl)) (by decide) (fun K hK => ?_)
          refine Kd.R_append_step (Kd.int .i64) (w0 := w) w.heap.size (by rfl) (.tmp 60) (.tmp 62) 31 3 (.int .i64 0) 8 rfl Try.underlying31 info3 rfl (by decide) (by omega) (.slice A118_0 (rd_L3 y117 ((rd_T39 l0_1 x36_2).f1)).length c118_0) (rd_L3 y117 ((rd_T39 l0_1 x36_2).f1)) x36_2 [.int .i64 x36_2] (fun k_ => oki42 k_ ∨ ((fun _ => True)) k_ ∧ w41.heap.size ≤ k_) (fun _ => False) rfl rfl ?aP (fun _ hk => hk.elim) ?aF ?aO ?aB ?aS ?aL ?_
          (case aP => exact rfl)
          (case aB => exact (by exact uT HB.out))
          (case aF => exact (fun k_ hk => .inr ⟨trivial, hk⟩))
          (case aO => exact (by (with_reducible repeat (first | apply zRa | apply zRn | apply zRd)); exact zRm UU42.out (fun _ hk => .inl hk)))
          (case aS => exact (zBs (by exact uT HB.out)))
          (case aL => have := LMc27.out; omega)
          intro v120 w43 ho hb hg hat
          (first | have HS3_ := Go.Proofs.YtnigaojboililaaW.PrintWords.cell_grown hg (hHeld.2.2.2) (by first | (rw [add_block]; exact (fun e_ => ((HL118_0.out.1 _ e_.symm).2) rfl)) | (show some (Addr.add _ _).block ≠ _; rw [add_block]; exact (fun e_ => ((HL118_0.out.1 _ e_.symm).2) rfl)) | exact (fun e_ => ((HL118_0.out.1 _ e_.symm).2) rfl)) | have HS3_ := Go.Proofs.YtnigaojboililaaW.PrintWords.cell_grown hg (cell_unalloc (hHeld.2.2.2) (by first | (rw [add_block]; exact Kd.S_lt HO_8.out _ rfl) | (show (Addr.add _ _).block < _; rw [add_block]; exact Kd.S_lt HO_8.out _ rfl) | exact Kd.S_lt HO_8.out _ rfl)) (by first | (rw [add_block]; exact (fun e_ => ((HL118_0.out.1 _ e_.symm).2) rfl)) | (show some (Addr.add _ _).block ≠ _; rw [add_block]; exact (fun e_ => ((HL118_0.out.1 _ e_.symm).2) rfl)) | exact (fun e_ => ((HL118_0.out.1 _ e_.symm).2) rfl)))
          rw [← Ny119.out] at ho
          replace BK106 := zMk (blk_grown (g := gb106) (o := .cells #[.int .i64 a0_0, .slice (some ad111) l0_1.length c0_1] 24 (0, 0)) (by (with_reducible repeat (first | refine zKn ?_ _ | refine zKd ?_ | refine zKa ?_ _)); exact BK106.out) hg (Kd.R_ne HL118_0.out BK106.out (by decide)))
          replace BK112 := zMk (blk_grown (g := gb112) (o := .cells #[.int .i64 ((rd_T39 l0_1 x36_2).f0), .int .i64 ((rd_T39 l0_1 x36_2).f1), .int .i64 ((rd_T39 l0_1 x36_2).f2)] 39 (0, 0)) (by (with_reducible repeat (first | refine zKn ?_ _ | refine zKd ?_ | refine zKa ?_ _)); exact BK112.out) hg (Kd.R_ne HL118_0.out BK112.out (by decide)))
          replace HB := zMk (hb)
          replace HH42 := zMk (Kd.H_grown (Kd.H_widen (by repeat (first | exact HH42.out | refine Kd.H_alloc ?_ _ | refine Kd.H_drewN ?_ _ | refine Kd.H_drew ?_))) hg (fun k_ e_ => .inl (UU42.out.1 k_ e_)))
          have HO121 := zMk (ho)
          clear HO_8 UU42 HL118_0 ho hb hg hat
          have p28 : 0 ≤ (((rd_T39 l0_1 x36_2).f1) : Int) := of_decide_eq_true (by assumption)
          have q28 : (((rd_T39 l0_1 x36_2).f1) : Int) < ((x8_2.length : Int) : Int) := of_decide_eq_true (by assumption)
          replace p28 := eq_true p28
          replace q28 := eq_true q28
          obtain ⟨Ao46, co46, eo46⟩ := zRs HO121.out
          (first |  subst eo46|  (injection eo46 with f1_ f2_ f3_; have f4_ := f1_.symm; have f5_ := f3_.symm; clear f1_ f2_ f3_; subst f4_; subst f5_))
          obtain ⟨_, _, hraw44, _, _, hcc44, _⟩ := Kd.H_raw HH42.out (of_decide_eq_true (by assumption)) (by have h_ : (((rd_T39 l0_1 x36_2).f1) : Int) < ((x8_2.length : Int) : Int) := of_decide_eq_true (by assumption); first | exact h_ | (have e_ := (HN42.out); omega) | simpa using h_)
          obtain ⟨_, hfr44⟩ := Kd.H_at HH42.out (of_decide_eq_true (by assumption)) (by have h_ : (((rd_T39 l0_1 x36_2).f1) : Int) < ((x8_2.length : Int) : Int) := of_decide_eq_true (by assumption); first | exact h_ | (have e_ := (HN42.out); omega) | simpa using h_)
          have hx44_0 := hcc44 0 _ rfl
          have hf44_0 := hfr44 0
          (try simp only [Nat.add_zero] at hx44_0 hf44_0)
          (try rw [show ((Kd.slice 3 (Kd.int .i64))).sz = 1 from rfl, Nat.mul_one] at hx44_0)
          (try rw [show ((Kd.slice 3 (Kd.int .i64))).sz = 1 from rfl, Nat.mul_one] at hf44_0)
          have HP44 := Kd.S_seg0 HH42.out (of_decide_eq_true (by assumption)) (by have h_ : (((rd_T39 l0_1 x36_2).f1) : Int) < ((x8_2.length : Int) : Int) := of_decide_eq_true (by assumption); first | exact h_ | (have e_ := (HN42.out); omega) | simpa using h_) (seg := [.slice Ao46 y119.length co46]) (j := 0) (show 1 ≤ 1 from by decide) (x' := y119) (Kd.M_row HO121.out) (fun _ hk => hk)
          (try simp only [show ((Kd.slice 3 (Kd.int .i64))).sz = 1 from rfl, Nat.mul_one, Nat.add_zero] at HP44)
          clear hcc44 hfr44
          have HNB106_go35 := zMk (show gb106 ≠ go35 from by have h_ := Kd.R_ne hraw44 BK106.out (by decide); intro e_; exact h_ (by rw [e_]; rfl))
          have HNB112_go35 := zMk (show gb112 ≠ go35 from by have h_ := Kd.R_ne hraw44 BK112.out (by decide); intro e_; exact h_ (by rw [e_]; rfl))
          have HS44 := HP44.1
          rw [← Ny122.out] at HS44
          have HQ44 := zMk HS44
          obtain ⟨_, hgg44⟩ := Kd.R_typed hraw44 go35 rfl
          have GG44_ := zMk hgg44
          clear HP44 HS44 hgg44
          refine hK.out _ _ ⟨(zKc BK112.out 0).trans rfl, (zKc BK112.out 1).trans rfl, (zKc BK112.out 2).trans rfl, HS3_⟩ (fun hHeld => ?_)
          clear hK K
          refine norm_ (a' := ?_) ?_ ?_
          rotate_left
          · show Act.put _ (some 63) _ = _
            simp only [Act.put, zSa, zSb, zSc, i64_w, i32_w]
            rfl
          refine pure_ (i := 11) (N := some 64) (v := ?_) (a' := ?_) #[true, true, true, true, true, true, true, true, true, true, true, true, false] rfl rfl (any_of HT_.out (by kernel_rfl)) (fun _ _ _ h => h) (Or.inl ⟨by rfl, ?_⟩) ?_ ?_
          rotate_left
          · intro w'
            go_simp
            with_reducible rfl
          rotate_left
          · simp only [Act.put, zSa, zSb, zSc, i64_w, i32_w]
            rfl
          refine last_ (i := 12) (N := none) #[true, true, true, true, true, true, true, true, true, true, true, true, true] rfl rfl (one_of HT_.out (by kernel_rfl)) (by decide) (fun K hK => ?_)
          refine skip_ (w1 := ?_) (by rfl) rfl ?_ ?_
          rotate_left
          · go_simp
            rfl
          refine hK.out _ _ ?_
          clear hK K
          refine done_ (done_of HT_.out (by kernel_rfl)) ?_
          try go_wp2
          go_roundg k2
          case measure => have := HJ4.out; have := HK2.out; omega
          case rel => exact ⟨(y122), (wrap64 (x36_2 + 1)), (by first | rfl | (simp; done) | (simp [*]; done)), H', ⟨by have := HJ4.out; have := HK2.out; omega⟩, ⟨by (with_reducible repeat (first | apply Kd.S_alloc | apply Kd.S_drewN | apply Kd.S_drew)); exact HQ44.out⟩, ⟨by (with_reducible repeat (first | refine zKn ?_ _ | refine zKd ?_ | refine zKa ?_ _)); refine blk_far ?_ HNB106_go35.out _; (with_reducible repeat (first | refine zKn ?_ _ | refine zKd ?_ | refine zKa ?_ _)); exact BK106.out⟩, ⟨by exact uT HB.out⟩⟩
        · rw [if_neg c18] at H
          have c18b0 : decide (x36_2 < (l0_1.length : Int)) = false := decide_eq_false c18
          clear c18
          obtain ⟨y123, hy123⟩ : ∃ y_ : List Int, y_ = (([(-1)] : List Int)) := ⟨_, rfl⟩
          replace H : ((slices_Repeat_int64_int64.f y123 a0_0).bind fun t126 => ((slices_Repeat_int_int.f (([(-1)] : List Int)) a0_0).bind fun t132 => (paths_From.l1 k2 t126 t132 x8_2 (([(⟨0, a1, (-1)⟩ : S48)] : List (S48))) a0_0 l0_1))) = some (r1, r2, r3) := by first | (rw [hy123]; with_reducible exact H) | (have H2_ := bsm H; first | (rw [hy123]; with_reducible exact H2_) | with_reducible exact H2_) | with_reducible exact H | (rw [hy123]; exact H) | exact H
          have Ny123 := zMk hy123
          clear hy123
          replace H := bnd H
          obtain ⟨t126, A470, H⟩ := H
          have A47 := zMk A470
          clear A470
          obtain ⟨y129, hy129⟩ : ∃ y_ : List Int, y_ = (([(-1)] : List Int)) := ⟨_, rfl⟩
          replace H : ((slices_Repeat_int_int.f y129 a0_0).bind fun t132 => (paths_From.l1 k2 t126 t132 x8_2 (([(⟨0, a1, (-1)⟩ : S48)] : List (S48))) a0_0 l0_1)) = some (r1, r2, r3) := by first | (rw [hy129]; with_reducible exact H) | (have H2_ := bsm H; first | (rw [hy129]; with_reducible exact H2_) | with_reducible exact H2_) | with_reducible exact H | (rw [hy129]; exact H) | exact H
          have Ny129 := zMk hy129
          clear hy129
          replace H := bnd H
          obtain ⟨t132, A480, H⟩ := H
          have A48 := zMk A480
          clear A480
          obtain ⟨y135, hy135⟩ : ∃ y_ : List (S48), y_ = (([(⟨0, a1, (-1)⟩ : S48)] : List (S48))) := ⟨_, rfl⟩
          replace H : (paths_From.l1 k2 t126 t132 x8_2 y135 a0_0 l0_1) = some (r1, r2, r3) := by first | (rw [hy135]; with_reducible exact H) | (have H2_ := bsm H; first | (rw [hy135]; with_reducible exact H2_) | with_reducible exact H2_) | with_reducible exact H | (rw [hy135]; exact H) | exact H
          have Ny135 := zMk hy135
          clear hy135
          have H' := zMk H
          clear H
          try go_wp2
          replace HO_8 := zMk (Kd.S_drew HO_8.out)
          replace BK106 := zMk (zKd BK106.out)
          replace HB := zMk (zBd HB.out)
          refine start_ (n := 10) (S := fun w' => True) (ds := []) #[false, false, false, false, false, false, false, false, false, false] (by kernel_rfl) rfl rfl trivial (fun hHeld => ?_); refine with_tabW paths_From.tab13 paths_From.bits13 (fun HT_ HW_ => ?_)
          generalize wr.drew = w49 at HO_8 BK106 HB hHeld ⊢
          replace HO_8 := zMk (Kd.S_mono (ok' := fun k => k < w49.heap.size) (Kd.S_bound HO_8.out) (fun k hk => hk.2.2.1))
          refine pure_ (i := 1) (N := some 67) (v := ?_) (a' := ?_) #[false, true, false, false, false, false, false, false, false, false] rfl rfl (any_of HT_.out (by kernel_rfl)) (fun _ _ _ h => h) (Or.inl ⟨by rfl, ?_⟩) ?_ ?_
          rotate_left
          · intro w'
            go_simp
            with_reducible rfl
          rotate_left
          · simp only [Act.put, zSa, zSb, zSc, i64_w, i32_w]
            rfl
          refine pure_ (i := 5) (N := some 71) (v := ?_) (a' := ?_) #[false, true, false, false, false, true, false, false, false, false] rfl rfl (any_of HT_.out (by kernel_rfl)) (fun _ _ _ h => h) (Or.inl ⟨by rfl, ?_⟩) ?_ ?_
          rotate_left
          · intro w'
            go_simp
            with_reducible rfl
          rotate_left
          · simp only [Act.put, zSa, zSb, zSc, i64_w, i32_w]
            rfl
          refine inv_at [0, 2, 3, 4, 6, 7, 8, 9] (fun a0_ b a w' => ∃ (v124 : Value) (v127 : Value) (v130 : Value) (v133 : Value) (m8_ : Value) (m9_ : Value), a = putSel a0_ b [(0, 66, v124), (2, 68, .int .i64 a0_0), (3, 69, v127), (4, 70, v130), (6, 72, .int .i64 a0_0), (7, 73, v133), (8, 4, m8_), (9, 5, m9_)] ∧ (Kd.S (Kd.slice 3 (Kd.int .i64)) 31 w' w.heap.size (fun k => k < w49.heap.size) v109 x8_2 ∧ w49.heap.size ≤ w'.heap.size) ∧ (w'.heap[gb106]? = some (.cells #[.int .i64 a0_0, .slice A0_1 l0_1.length c0_1] 24 (0, 0))) ∧ (Below w.heap.size w w') ∧ (b 0 = true → Kd.R (Kd.int .i64) 2 w' w.heap.size (fun _ => True) v124 y123) ∧ (b 3 = true → Kd.R (Kd.int .i64) 2 w' w.heap.size (fun _ => True) v127 t126) ∧ (b 4 = true → Kd.R (Kd.int .i64) 3 w' w.heap.size (fun _ => True) v130 y129) ∧ (b 7 = true → Kd.R (Kd.int .i64) 3 w' w.heap.size (fun k => w49.heap.size ≤ k) v133 t132) ∧ (b 8 = true → (m8_ : Value) = v127) ∧ (b 9 = true → (m9_ : Value) = v133)) HT_.out HW_.out (by kernel_rfl) (by kernel_rfl) ?_ ?_ ?_
          · exact ⟨.bool false, .bool false, .bool false, .bool false, .bool false, .bool false, by simp only [putSel, Bool.false_eq_true, if_false], ⟨HO_8.out, Nat.le_refl _⟩, BK106.out, HB.out, fun h_ => absurd h_ (by decide), fun h_ => absurd h_ (by decide), fun h_ => absurd h_ (by decide), fun h_ => absurd h_ (by decide), fun h_ => absurd h_ (by decide), fun h_ => absurd h_ (by decide)⟩
          · skip
            clear BK106 HB HO_8
            refine steps_cons ?_ ?_
            · rintro b a w' ⟨v124, v127, v130, v133, m8_, m9_, ha, Q_HO_8, Q_BK106, Q_HB, Q_HO125, Q_HO128, Q_HO131, Q_HO134, Q_X8_, Q_X9_⟩ hb_ hon hoff
              refine ⟨_, rfl, fun K hK => ?_⟩
              replace ha := zMk ha
              have HO_8 := zMk Q_HO_8.1
              have HZ := zMk Q_HO_8.2
              have BK106 := zMk Q_BK106
              have HB := zMk Q_HB
              refine Kd.R_lit_step (Kd.int .i64) _ 2 ?hg (N := 66) ?hd (xs := ([(-1)] : List Int)) (inner := [.int .i64 (-1)]) (ok := fun _ => True) (okp := fun _ => True) ?hr ?hp (fun _ hk => hk) trivial (Below.refl _ _) (Nat.le_refl _) (by simp) ?_; (case hd => rfl); (case hg => rfl); (case hr => first | (go_simp; done) | (go_simp; rfl) | (go_simp; rw [show ∀ x : Int, IntKind.u32.wrap (IntKind.u8.wrap x) = x % 256 from fun x => (by show (x % 256) % 4294967296 = x % 256; omega)])); (case hp => exact (Reps.one (show Kd.M (Kd.int .i64) _ _ _ (-1) [.int .i64 (-1)] from rfl) (Reps.none _ _)))
              intro v124 w50 ho51 hb hg_ hnew_
              clear hg_ hnew_
              (first | rw [← Ny123.out] at ho51 | (simp only [Int.reduceToNat] at ho51; rw [← Ny123.out] at ho51))
              have hzo := HZ.out
              replace HZ := zMk (Nat.le_trans HZ.out hb.size)
              have n0_ := zMk (Kd.S_below (by (with_reducible repeat (first |  apply Kd.S_alloc|  apply Kd.S_drewN|  apply Kd.S_drew)); exact HO_8.out) hb)
              have n1_ := zMk (zRl ho51 (zBs (by exact uT HB.out)))
              have n2_ := zMk (zKb (g := gb106) (o := .cells #[.int .i64 a0_0, .slice A0_1 l0_1.length c0_1] 24 (0, 0)) (by (with_reducible repeat (first | refine zKn ?_ _ | refine zKd ?_ | refine zKa ?_ _)); exact BK106.out) hb)
              have n3_ := zMk (zBt (by exact uT HB.out) hb)
              have z_HO131 := fun (h0_ : b 4 = true) => (show Kd.R (Kd.int .i64) 3 w50 w.heap.size (fun _ => True) v130 y129 from by first | exact (zRb (by (with_reducible repeat (first | apply zRa | apply zRn | apply zRd)); exact (Q_HO131 h0_)) hb) | exact zRm (zRb (by (with_reducible repeat (first | apply zRa | apply zRn | apply zRd)); exact (Q_HO131 h0_)) hb) (fun _ h_ => by first | trivial | exact h_ | exact h_.1))
              clear HO_8 BK106 HB
              have HO_8 := n0_
              have HO125 := n1_
              have BK106 := n2_
              have HB := n3_
              clear n0_ n1_ n2_ n3_ hb ho51
              refine hK.out _ _ ⟨v124, v127, v130, v133, m8_, m9_, (by rw [ha.out]; exact putSel_upk 0 hb_ rfl rfl rfl), ⟨(by (with_reducible repeat (first | apply Kd.S_alloc | apply Kd.S_drewN | apply Kd.S_drew)); exact Kd.S_mono HO_8.out (fun k hk => by first | exact hk | exact hk.1)), HZ.out⟩, (by (with_reducible repeat (first | refine zKn ?_ _ | refine zKd ?_ | refine zKa ?_ _)); exact BK106.out), (by exact uT HB.out), fun _ => (by exact uR HO125.out), fun h0_ => absurd ((hoff 3 (by kernel_rfl)).symm.trans h0_) (by decide), z_HO131, fun h0_ => absurd ((hoff 7 (by kernel_rfl)).symm.trans h0_) (by decide), fun h0_ => absurd ((hoff 8 (by kernel_rfl)).symm.trans h0_) (by decide), fun h0_ => absurd ((hoff 9 (by kernel_rfl)).symm.trans h0_) (by decide)⟩
            refine steps_cons ?_ ?_
            · rintro b a w' ⟨v124, v127, v130, v133, m8_, m9_, ha, Q_HO_8, Q_BK106, Q_HB, Q_HO125, Q_HO128, Q_HO131, Q_HO134, Q_X8_, Q_X9_⟩ hb_ hon hoff
              refine ⟨_, rfl, fun K hK => ?_⟩
              have e67 : a.tmps[67]? = some (.pointer (some ⟨gb106, 0, none⟩)) := by rw [ha]; exact (putSel_off rfl).trans rfl
              replace ha := zMk ha
              have HO_8 := zMk Q_HO_8.1
              have HZ := zMk Q_HO_8.2
              have BK106 := zMk Q_BK106
              have HB := zMk Q_HB
              have hc0_ : w'.cell? ⟨gb106, 0, none⟩ = some (.int .i64 a0_0) := (zKc BK106.out 0).trans rfl
              have hc1_ : w'.cell? ⟨gb106, 1, none⟩ = some (.slice A0_1 l0_1.length c0_1) := (zKc BK106.out 1).trans rfl
              refine value_ (w1 := w') (v := .int .i64 a0_0) (by rfl) rfl ?_ ?_
              · go_simp
                (try simp only [i64_w])
                try rfl
              refine hK.out _ _ ⟨v124, v127, v130, v133, m8_, m9_, (by rw [ha.out]; exact putSel_upk 1 hb_ rfl rfl rfl), Q_HO_8, Q_BK106, Q_HB, Q_HO125, fun h0_ => absurd ((hoff 3 (by kernel_rfl)).symm.trans h0_) (by decide), Q_HO131, fun h0_ => absurd ((hoff 7 (by kernel_rfl)).symm.trans h0_) (by decide), fun h0_ => absurd ((hoff 8 (by kernel_rfl)).symm.trans h0_) (by decide), fun h0_ => absurd ((hoff 9 (by kernel_rfl)).symm.trans h0_) (by decide)⟩
            refine steps_cons ?_ ?_
            · rintro b a w' ⟨v124, v127, v130, v133, m8_, m9_, ha, Q_HO_8, Q_BK106, Q_HB, Q_HO125, Q_HO128, Q_HO131, Q_HO134, Q_X8_, Q_X9_⟩ hb_ hon hoff
              refine ⟨_, rfl, fun K hK => ?_⟩
              have e66 : a.tmps[66]? = some (v124) := by rw [ha]; exact putSel_on (e := (0, 66, v124)) 0 rfl rfl (hon 0 (by kernel_rfl)) rfl
              have e68 : a.tmps[68]? = some (.int .i64 a0_0) := by rw [ha]; exact putSel_on (e := (2, 68, .int .i64 a0_0)) 1 rfl rfl (hon 2 (by kernel_rfl)) rfl
              replace ha := zMk ha
              have HO_8 := zMk Q_HO_8.1
              have HZ := zMk Q_HO_8.2
              have BK106 := zMk Q_BK106
              have HB := zMk Q_HB
              have HO125 := zMk (Q_HO125 (hon 0 (by kernel_rfl)))
              obtain ⟨Ao53, co53, eo53⟩ := zRs HO125.out
              (first |  subst eo53|  (injection eo53 with f1_ f2_ f3_; have f4_ := f1_.symm; have f5_ := f3_.symm; clear f1_ f2_ f3_; subst f4_; subst f5_))
              refine goes_ Try.func18 (by kernel_rfl) rfl #[.slice Ao53 y123.length co53, .int .i64 a0_0] (by rfl) rfl rfl (by first | (simp only [zMa, zMc, zMn, Act.eval, Array.getD_eq_getD_getElem?, Option.getD_some, e66, e68]; done) | (simp only [zMa, zMc, zMn, Act.eval, Array.getD_eq_getD_getElem?, Option.getD_some, e66, e68]; rfl)) ?_
              with_reducible refine (slices_Repeat_int64_int64.calls _ _ y123 a0_0 t126 _ ?side1 ?side2 A47.out).mono ?_
              (case side1 => exact uC (zRr HO125.out).2.2)
              (case side2 => exact (zRr HO125.out).2.1)
              rintro e w54 ⟨v127, rfl, ho0, hb⟩
              refine ⟨_, rfl, ?_⟩
              have hzo := HZ.out
              replace HZ := zMk (Nat.le_trans HZ.out hb.size)
              have n0_ := zMk (Kd.S_below (by (with_reducible repeat (first |  apply Kd.S_alloc|  apply Kd.S_drewN|  apply Kd.S_drew)); exact HO_8.out) hb)
              have n1_ := zMk (zRe (by exact uR HO125.out) (zRz ho0) hb)
              have n2_ := zMk (zRl (zRw ho0 (zRt (by exact uR HO125.out))) (zBs (by exact uT HB.out)))
              have n3_ := zMk (zKb (g := gb106) (o := .cells #[.int .i64 a0_0, .slice A0_1 l0_1.length c0_1] 24 (0, 0)) (by (with_reducible repeat (first | refine zKn ?_ _ | refine zKd ?_ | refine zKa ?_ _)); exact BK106.out) hb)
              have n4_ := zMk (zBt (by exact uT HB.out) hb)
              have z_HO131 := fun (h0_ : b 4 = true) => (show Kd.R (Kd.int .i64) 3 w54 w.heap.size (fun _ => True) v130 y129 from by first | exact (zRb (by (with_reducible repeat (first | apply zRa | apply zRn | apply zRd)); exact (Q_HO131 h0_)) hb) | exact zRm (zRb (by (with_reducible repeat (first | apply zRa | apply zRn | apply zRd)); exact (Q_HO131 h0_)) hb) (fun _ h_ => by first | trivial | exact h_ | exact h_.1))
              clear HO_8 HO125 BK106 HB
              have HO_8 := n0_
              have HO125 := n1_
              have HO128 := n2_
              have BK106 := n3_
              have HB := n4_
              clear n0_ n1_ n2_ n3_ n4_
              refine hK.out _ _ ⟨.slice Ao53 y123.length co53, v127, v130, v133, m8_, m9_, (by rw [ha.out]; exact putSel_upk 2 hb_ rfl rfl rfl), ⟨(by (with_reducible repeat (first | apply Kd.S_alloc | apply Kd.S_drewN | apply Kd.S_drew)); exact Kd.S_mono HO_8.out (fun k hk => by first | exact hk | exact hk.1)), HZ.out⟩, (by (with_reducible repeat (first | refine zKn ?_ _ | refine zKd ?_ | refine zKa ?_ _)); exact BK106.out), (by exact uT HB.out), fun _ => (by (with_reducible repeat (first | apply zRa | apply zRn | apply zRd)); exact zRm HO125.out (fun _ hk => (by first | exact hk | exact hk.2 | trivial))), fun _ => (by (with_reducible repeat (first | apply zRa | apply zRn | apply zRd)); exact zRm HO128.out (fun _ hk => (by first | exact hk | exact hk.2 | trivial))), z_HO131, fun h0_ => absurd ((hoff 7 (by kernel_rfl)).symm.trans h0_) (by decide), fun h0_ => absurd ((hoff 8 (by kernel_rfl)).symm.trans h0_) (by decide), fun h0_ => absurd ((hoff 9 (by kernel_rfl)).symm.trans h0_) (by decide)⟩
            refine steps_cons ?_ ?_
            · rintro b a w' ⟨v124, v127, v130, v133, m8_, m9_, ha, Q_HO_8, Q_BK106, Q_HB, Q_HO125, Q_HO128, Q_HO131, Q_HO134, Q_X8_, Q_X9_⟩ hb_ hon hoff
              refine ⟨_, rfl, fun K hK => ?_⟩
              replace ha := zMk ha
              have HO_8 := zMk Q_HO_8.1
              have HZ := zMk Q_HO_8.2
              have BK106 := zMk Q_BK106
              have HB := zMk Q_HB
              refine Kd.R_lit_step (Kd.int .i64) _ 3 ?hg (N := 70) ?hd (xs := ([(-1)] : List Int)) (inner := [.int .i64 (-1)]) (ok := fun _ => True) (okp := fun _ => True) ?hr ?hp (fun _ hk => hk) trivial (Below.refl _ _) (Nat.le_refl _) (by simp) ?_; (case hd => rfl); (case hg => rfl); (case hr => first | (go_simp; done) | (go_simp; rfl) | (go_simp; rw [show ∀ x : Int, IntKind.u32.wrap (IntKind.u8.wrap x) = x % 256 from fun x => (by show (x % 256) % 4294967296 = x % 256; omega)])); (case hp => exact (Reps.one (show Kd.M (Kd.int .i64) _ _ _ (-1) [.int .i64 (-1)] from rfl) (Reps.none _ _)))
              intro v130 w50 ho51 hb hg_ hnew_
              clear hg_ hnew_
              (first | rw [← Ny129.out] at ho51 | (simp only [Int.reduceToNat] at ho51; rw [← Ny129.out] at ho51))
              have hzo := HZ.out
              replace HZ := zMk (Nat.le_trans HZ.out hb.size)
              have n0_ := zMk (Kd.S_elder' (by (with_reducible repeat (first |  apply Kd.S_alloc|  apply Kd.S_drewN|  apply Kd.S_drew)); exact HO_8.out) (zRz ho51) hb)
              have n1_ := zMk (zRl ho51 (zBs (by exact uT HB.out)))
              have n2_ := zMk (zKb (g := gb106) (o := .cells #[.int .i64 a0_0, .slice A0_1 l0_1.length c0_1] 24 (0, 0)) (by (with_reducible repeat (first | refine zKn ?_ _ | refine zKd ?_ | refine zKa ?_ _)); exact BK106.out) hb)
              have n3_ := zMk (zBt (by exact uT HB.out) hb)
              have z_HO125 := fun (h0_ : b 0 = true) => (show Kd.R (Kd.int .i64) 2 w50 w.heap.size (fun _ => True) v124 y123 from by first | exact (zRb (by (with_reducible repeat (first | apply zRa | apply zRn | apply zRd)); exact (Q_HO125 h0_)) hb) | exact zRm (zRb (by (with_reducible repeat (first | apply zRa | apply zRn | apply zRd)); exact (Q_HO125 h0_)) hb) (fun _ h_ => by first | trivial | exact h_ | exact h_.1))
              have z_HO128 := fun (h0_ : b 3 = true) => (show Kd.R (Kd.int .i64) 2 w50 w.heap.size (fun _ => True) v127 t126 from by first | exact (zRb (by (with_reducible repeat (first | apply zRa | apply zRn | apply zRd)); exact (Q_HO128 h0_)) hb) | exact zRm (zRb (by (with_reducible repeat (first | apply zRa | apply zRn | apply zRd)); exact (Q_HO128 h0_)) hb) (fun _ h_ => by first | trivial | exact h_ | exact h_.1))
              clear HO_8 BK106 HB
              have HO_8 := n0_
              have HO131 := n1_
              have BK106 := n2_
              have HB := n3_
              clear n0_ n1_ n2_ n3_ hb ho51
              refine hK.out _ _ ⟨v124, v127, v130, v133, m8_, m9_, (by rw [ha.out]; exact putSel_upk 3 hb_ rfl rfl rfl), ⟨(by (with_reducible repeat (first | apply Kd.S_alloc | apply Kd.S_drewN | apply Kd.S_drew)); exact Kd.S_mono HO_8.out (fun k hk => by first | exact hk | exact hk.1)), HZ.out⟩, (by (with_reducible repeat (first | refine zKn ?_ _ | refine zKd ?_ | refine zKa ?_ _)); exact BK106.out), (by exact uT HB.out), z_HO125, z_HO128, fun _ => (by exact uR HO131.out), fun h0_ => absurd ((hoff 7 (by kernel_rfl)).symm.trans h0_) (by decide), fun h0_ => absurd ((hoff 8 (by kernel_rfl)).symm.trans h0_) (by decide), fun h0_ => absurd ((hoff 9 (by kernel_rfl)).symm.trans h0_) (by decide)⟩
            refine steps_cons ?_ ?_
            · rintro b a w' ⟨v124, v127, v130, v133, m8_, m9_, ha, Q_HO_8, Q_BK106, Q_HB, Q_HO125, Q_HO128, Q_HO131, Q_HO134, Q_X8_, Q_X9_⟩ hb_ hon hoff
              refine ⟨_, rfl, fun K hK => ?_⟩
              have e71 : a.tmps[71]? = some (.pointer (some ⟨gb106, 0, none⟩)) := by rw [ha]; exact (putSel_off rfl).trans rfl
              replace ha := zMk ha
              have HO_8 := zMk Q_HO_8.1
              have HZ := zMk Q_HO_8.2
              have BK106 := zMk Q_BK106
              have HB := zMk Q_HB
              have hc0_ : w'.cell? ⟨gb106, 0, none⟩ = some (.int .i64 a0_0) := (zKc BK106.out 0).trans rfl
              have hc1_ : w'.cell? ⟨gb106, 1, none⟩ = some (.slice A0_1 l0_1.length c0_1) := (zKc BK106.out 1).trans rfl
              refine value_ (w1 := w') (v := .int .i64 a0_0) (by rfl) rfl ?_ ?_
              · go_simp
                (try simp only [i64_w])
                try rfl
              refine hK.out _ _ ⟨v124, v127, v130, v133, m8_, m9_, (by rw [ha.out]; exact putSel_upk 4 hb_ rfl rfl rfl), Q_HO_8, Q_BK106, Q_HB, Q_HO125, Q_HO128, Q_HO131, fun h0_ => absurd ((hoff 7 (by kernel_rfl)).symm.trans h0_) (by decide), fun h0_ => absurd ((hoff 8 (by kernel_rfl)).symm.trans h0_) (by decide), fun h0_ => absurd ((hoff 9 (by kernel_rfl)).symm.trans h0_) (by decide)⟩
            refine steps_cons ?_ ?_
            · rintro b a w' ⟨v124, v127, v130, v133, m8_, m9_, ha, Q_HO_8, Q_BK106, Q_HB, Q_HO125, Q_HO128, Q_HO131, Q_HO134, Q_X8_, Q_X9_⟩ hb_ hon hoff
              refine ⟨_, rfl, fun K hK => ?_⟩
              have e70 : a.tmps[70]? = some (v130) := by rw [ha]; exact putSel_on (e := (4, 70, v130)) 3 rfl rfl (hon 4 (by kernel_rfl)) rfl
              have e72 : a.tmps[72]? = some (.int .i64 a0_0) := by rw [ha]; exact putSel_on (e := (6, 72, .int .i64 a0_0)) 4 rfl rfl (hon 6 (by kernel_rfl)) rfl
              replace ha := zMk ha
              have HO_8 := zMk Q_HO_8.1
              have HZ := zMk Q_HO_8.2
              have BK106 := zMk Q_BK106
              have HB := zMk Q_HB
              have HO125 := zMk (Q_HO125 (hon 0 (by kernel_rfl)))
              have HO128 := zMk (Q_HO128 (hon 3 (by kernel_rfl)))
              have HO131 := zMk (Q_HO131 (hon 4 (by kernel_rfl)))
              obtain ⟨Ao57, co57, eo57⟩ := zRs HO131.out
              (first |  subst eo57|  (injection eo57 with f1_ f2_ f3_; have f4_ := f1_.symm; have f5_ := f3_.symm; clear f1_ f2_ f3_; subst f4_; subst f5_))
              refine goes_ Try.func19 (by kernel_rfl) rfl #[.slice Ao57 y129.length co57, .int .i64 a0_0] (by rfl) rfl rfl (by first | (simp only [zMa, zMc, zMn, Act.eval, Array.getD_eq_getD_getElem?, Option.getD_some, e70, e72]; done) | (simp only [zMa, zMc, zMn, Act.eval, Array.getD_eq_getD_getElem?, Option.getD_some, e70, e72]; rfl)) ?_
              with_reducible refine (slices_Repeat_int_int.calls _ _ y129 a0_0 t132 _ ?side1 ?side2 A48.out).mono ?_
              (case side1 => exact uC (zRr HO131.out).2.2)
              (case side2 => exact (zRr HO131.out).2.1)
              rintro e w58 ⟨v133, rfl, ho0, hb⟩
              refine ⟨_, rfl, ?_⟩
              have hzo := HZ.out
              replace HZ := zMk (Nat.le_trans HZ.out hb.size)
              replace HO_8 := zMk (Kd.S_elder' (by (with_reducible repeat (first | apply Kd.S_alloc | apply Kd.S_drewN | apply Kd.S_drew)); exact HO_8.out) (zRz ho0) hb)
              replace HO125 := zMk (zRb (by exact uR HO125.out) hb)
              replace HO128 := zMk (zRb (by exact uR HO128.out) hb)
              have HO134 := zMk (zRl (zRm (ok' := fun k => w49.heap.size ≤ k) (Kd.R_bound ho0) (fun k hk => Nat.le_trans hzo hk.2.1)) (zBs (by exact uT HB.out)))
              replace HO131 := zMk (zRe (by exact uR HO131.out) (zRz ho0) hb)
              replace BK106 := zMk (zKb (g := gb106) (o := .cells #[.int .i64 a0_0, .slice A0_1 l0_1.length c0_1] 24 (0, 0)) (by (with_reducible repeat (first | refine zKn ?_ _ | refine zKd ?_ | refine zKa ?_ _)); exact BK106.out) hb)
              replace HB := zMk (zBt (by exact uT HB.out) hb)
              refine hK.out _ _ ⟨v124, v127, .slice Ao57 y129.length co57, v133, m8_, m9_, (by rw [ha.out]; exact putSel_upk 5 hb_ rfl rfl rfl), ⟨(by (with_reducible repeat (first | apply Kd.S_alloc | apply Kd.S_drewN | apply Kd.S_drew)); exact Kd.S_mono HO_8.out (fun k hk => by first | exact hk | exact hk.1)), HZ.out⟩, (by (with_reducible repeat (first | refine zKn ?_ _ | refine zKd ?_ | refine zKa ?_ _)); exact BK106.out), (by exact uT HB.out), fun _ => (by exact uR HO125.out), fun _ => (by exact uR HO128.out), fun _ => (by (with_reducible repeat (first | apply zRa | apply zRn | apply zRd)); exact zRm HO131.out (fun _ hk => (by first | exact hk | exact hk.2 | trivial))), fun _ => (by (with_reducible repeat (first | apply zRa | apply zRn | apply zRd)); exact zRm HO134.out (fun _ hk => (by first | exact hk | exact hk.2 | trivial))), fun h0_ => absurd ((hoff 8 (by kernel_rfl)).symm.trans h0_) (by decide), fun h0_ => absurd ((hoff 9 (by kernel_rfl)).symm.trans h0_) (by decide)⟩
            refine steps_cons ?_ ?_
            · rintro b a w' ⟨v124, v127, v130, v133, m8_, m9_, ha, Q_HO_8, Q_BK106, Q_HB, Q_HO125, Q_HO128, Q_HO131, Q_HO134, Q_X8_, Q_X9_⟩ hb_ hon hoff
              refine ⟨_, rfl, fun K hK => ?_⟩
              have e69 : a.tmps[69]? = some (v127) := by rw [ha]; exact putSel_on (e := (3, 69, v127)) 2 rfl rfl (hon 3 (by kernel_rfl)) rfl
              replace ha := zMk ha
              have HO_8 := zMk Q_HO_8.1
              have HZ := zMk Q_HO_8.2
              have BK106 := zMk Q_BK106
              have HB := zMk Q_HB
              have HO125 := zMk (Q_HO125 (hon 0 (by kernel_rfl)))
              have HO128 := zMk (Q_HO128 (hon 3 (by kernel_rfl)))
              have HO131 := zMk (Q_HO131 (hon 4 (by kernel_rfl)))
              have HO134 := zMk (Q_HO134 (hon 7 (by kernel_rfl)))
              refine value_ (w1 := w') (v := v127) (by rfl) rfl ?_ ?_
              · go_simp
                (try simp only [i64_w])
                try rfl
              refine hK.out _ _ ⟨v124, v127, v130, v133, (v127), m9_, (by rw [ha.out]; exact putSel_upk 6 hb_ rfl rfl rfl), Q_HO_8, Q_BK106, Q_HB, Q_HO125, Q_HO128, Q_HO131, Q_HO134, fun _ => rfl, fun h0_ => absurd ((hoff 9 (by kernel_rfl)).symm.trans h0_) (by decide)⟩
            refine steps_cons ?_ ?_
            · rintro b a w' ⟨v124, v127, v130, v133, m8_, m9_, ha, Q_HO_8, Q_BK106, Q_HB, Q_HO125, Q_HO128, Q_HO131, Q_HO134, Q_X8_, Q_X9_⟩ hb_ hon hoff
              refine ⟨_, rfl, fun K hK => ?_⟩
              have e73 : a.tmps[73]? = some (v133) := by rw [ha]; exact putSel_on (e := (7, 73, v133)) 5 rfl rfl (hon 7 (by kernel_rfl)) rfl
              replace ha := zMk ha
              have HO_8 := zMk Q_HO_8.1
              have HZ := zMk Q_HO_8.2
              have BK106 := zMk Q_BK106
              have HB := zMk Q_HB
              have HO125 := zMk (Q_HO125 (hon 0 (by kernel_rfl)))
              have HO128 := zMk (Q_HO128 (hon 3 (by kernel_rfl)))
              have HO131 := zMk (Q_HO131 (hon 4 (by kernel_rfl)))
              have HO134 := zMk (Q_HO134 (hon 7 (by kernel_rfl)))
              refine value_ (w1 := w') (v := v133) (by rfl) rfl ?_ ?_
              · go_simp
                (try simp only [i64_w])
                try rfl
              refine hK.out _ _ ⟨v124, v127, v130, v133, m8_, (v133), (by rw [ha.out]; exact putSel_upk 7 hb_ rfl rfl rfl), Q_HO_8, Q_BK106, Q_HB, Q_HO125, Q_HO128, Q_HO131, Q_HO134, Q_X8_, fun _ => rfl⟩
            exact steps_nil
          rintro b a w58 hall ⟨v124, v127, v130, v133, m8_, m9_, ha, Q_HO_8, Q_BK106, Q_HB, Q_HO125, Q_HO128, Q_HO131, Q_HO134, Q_X8_, Q_X9_⟩
          clear BK106 HB HO_8
          have hb0_ := hall 0 (by kernel_rfl)
          have hb2_ := hall 2 (by kernel_rfl)
          have hb3_ := hall 3 (by kernel_rfl)
          have hb4_ := hall 4 (by kernel_rfl)
          have hb6_ := hall 6 (by kernel_rfl)
          have hb7_ := hall 7 (by kernel_rfl)
          have hb8_ := hall 8 (by kernel_rfl)
          have hb9_ := hall 9 (by kernel_rfl)
          subst ha
          obtain rfl := Q_X8_ hb8_
          obtain rfl := Q_X9_ hb9_
          simp only [putSel, hb0_, hb2_, hb3_, hb4_, hb6_, hb7_, hb8_, hb9_, if_true, Act.put, zSa, zSb, zSc]
          have HO_8 := zMk Q_HO_8.1
          have HZ := zMk Q_HO_8.2
          clear Q_HO_8
          have BK106 := zMk Q_BK106
          clear Q_BK106
          have HB := zMk Q_HB
          clear Q_HB
          have HO125 := zMk (Q_HO125 hb0_)
          clear Q_HO125
          have HO128 := zMk (Q_HO128 hb3_)
          clear Q_HO128
          have HO131 := zMk (Q_HO131 hb4_)
          clear Q_HO131
          have HO134 := zMk (Q_HO134 hb7_)
          clear Q_HO134 hall hb0_ hb2_ hb3_ hb4_ hb6_ hb7_ hb8_ hb9_
          have h8_ : Kd.R (Kd.slice 3 (Kd.int .i64)) 31 _ w.heap.size (fun k => m9_.ownBlock ≠ some k) v109 x8_2 := zRm (Kd.S_R HO_8.out) (fun k hk e => by have := HO134.out.1 k e; omega)
          have h4_ : Kd.R (Kd.int .i64) 2 _ w.heap.size (fun k => m8_.ownBlock = some k) m8_ t126 := ⟨fun k hk => hk, HO128.out.2⟩
          have h5_ : Kd.R (Kd.int .i64) 3 _ w.heap.size (fun k => m9_.ownBlock = some k) m9_ t132 := ⟨fun k hk => hk, HO134.out.2⟩
          clear HO_8 HO125 HO128 HO131 HO134 HZ
          have R8 := zMk h8_
          have R4 := zMk h4_
          have R5 := zMk h5_
          clear h8_ h4_ h5_
          go_upto_region 15 with (first | ((with_reducible refine gate_dst (N := 76) rfl ?_); refine Kd.R_lit k48 _ 48 ?hg (N := 76) ?hd (xs := ([(⟨0, a1, (-1)⟩ : S48)] : List (S48))) (inner := [.int .i64 0, .int .i64 a1, .int .i64 (-1)]) (ok := fun _ => True) (okp := fun _ => True) ?hr ?hp (fun _ hk => hk) trivial (Below.refl _ _) (Nat.le_refl _) (by simp) ?_; (case hd => rfl); (case hg => rfl); (case hr => first | (go_simp; done)|(go_simp; rfl)); (case hp => exact (Reps.c3 (show Kd.M k48 _ _ _ (⟨0, a1, (-1)⟩ : S48) [.int .i64 0, .int .i64 a1, .int .i64 (-1)] from (k48_mkM _ _ _ (⟨0, a1, (-1)⟩ : S48) )) (Reps.none _ _))); intro v136 w59 ho60 hb hg_ hnew_; clear hg_ hnew_; rw [← Ny135.out] at ho60; replace R8 := zMk (zRb R8.out hb); replace R4 := zMk (zRb R4.out hb); replace R5 := zMk (zRb R5.out hb); replace BK106 := zMk (zKb BK106.out hb); have hzz := HB.out.size; have RX := zMk (show Kd.R k48 48 w59 w.heap.size (fun k => v136.ownBlock = some k) v136 y135 from ⟨fun k hk => hk, (zRl ho60 hzz).2⟩); replace HB := zMk (zBt HB.out hb); clear hb ho60 hzz; obtain ⟨AX, cX, eX⟩ := zRs RX.out; subst eX)|((with_reducible refine gate_dst (N := 77) rfl ?_); refine box_event ?hg (N := 77) ?hd (cs := #[.slice AX y135.length cX]) (t := 50) ?hr ?_; (case hd => rfl); (case hg => rfl); (case hr => first | (go_simp; done)|(go_simp; rfl)); intro gl hg w60 hbox hb; have hzz := HB.out.size; have hzl := zRt RX.out; have S0 := zMk (show Sit w w60 gb106 gl _ m8_ m9_ v109 _ t126 t132 x8_2 y135 from ⟨zBt HB.out hb, zKb BK106.out hb, hbox, by omega, zRb R4.out hb, zRb R5.out hb, zRb R8.out hb, zRb RX.out hb, fun e => by have := hzl _ e; omega⟩); clear R8 R4 R5 BK106 HB RX hb hbox hg hzz hzl))
          go_loopg [] k2 (fun kq w' => ∃ (d p : List Int) (xs : List S48) (vl : Value), Aside0 (paths_From.l1 kq d p x8_2 xs a0_0 l0_1 = some (r1, r2, r3)) ∧ Aside0 (kq ≤ k2) ∧ Aside0 (Sit w w' gb106 gl #[.int .i64 a0_0, .slice A0_1 l0_1.length c0_1] m8_ m9_ v109 vl d p x8_2 xs))
          case atStart => exact ⟨t126, t132, y135, _, H', ⟨Nat.le_refl _⟩, S0⟩
          clear H' S0
          obtain ⟨d, p, xs, vl, HA, HK3, S1⟩ := hrel
          rcases gk with _ | k3
          · exact absurd HA.out (by simp [paths_From.l1])
          have H := HA.out
          clear HA
          simp only [paths_From.l1] at H
          have LC := zMk (len_calls vl xs _ _ _ S1.out.hx)
          have z0 : World.cell? _ ⟨gl, 0, none⟩ = some vl := (zKc S1.out.hL 0).trans rfl
          obtain ⟨n_, hn_⟩ : ∃ n_ : Int, (xs.length : Int) = n_ := ⟨_, rfl⟩
          rw [hn_] at LC
          by_cases c1 : 0 < xs.length
          · rw [if_pos c1] at H
            have p1 : decide (n_ > 0) = true := decide_eq_true (by omega)
            have HN_ := zMk hn_
            have C1 := zMk c1
            clear hn_ c1
            by_cases c2 : xs.length < 1000000000000
            rotate_left
            · rw [if_neg c2] at H; exact absurd H (by simp)
            rw [if_pos c2] at H
            have C2 := zMk c2
            clear c2
            have PC := zMk (heapPop_calls vl xs w _ gl S1.out.hl C1.out C2.out S1.out.hB S1.out.hL S1.out.hv S1.out.hx)
            obtain ⟨⟨xf, xv, xe⟩, hx_⟩ : ∃ x : S48, hmin xs = x := ⟨_, rfl⟩
            rw [hx_] at H PC
            dsimp only at H PC
            have HX_ := zMk hx_
            clear hx_
            have hta : ∀ (W : World) (y : Value), (Instr.typeAssert (.iface 48 y) 20 48 false).run Try.prog W = .ok y W := fun W y => by kernel_rfl
            by_cases c3 : 0 ≤ xv
            rotate_left
            · rw [if_neg c3] at H; exact absurd H (by simp)
            rw [if_pos c3] at H
            by_cases c4 : xv < (d.length : Int)
            rotate_left
            · rw [if_neg c4] at H; exact absurd H (by simp)
            rw [if_pos c4] at H
            have HA4 := zMk H
            clear H
            go_upto_region 17 with (first | (go_at_call 20; refine LC.out.mono ?_; rintro e w9 ⟨rfl, rfl⟩)|(go_at_call 21; refine PC.out.mono ?_; rintro e w9 ⟨rfl, v9, hv9, hown9, hb9, hR9, hB9, hK9⟩; have S2 := zMk (Sit.heap S1.out hv9 hb9 hR9 hB9 hK9); clear hv9 hown9 hb9 hR9 hB9 hK9))
            have e1_ := (Below.refl w9.heap.size w9).alloc (Nat.le_refl _) (.cells #[.int .i64 xf, .int .i64 xv, .int .i64 xe] 48)
            have S3 := zMk (S2.out.below e1_)
            have XB := zMk (heap_alloc_new w9 (.cells #[.int .i64 xf, .int .i64 xv, .int .i64 xe] 48))
            have NX := zMk (show v9.ownBlock ≠ some w9.heap.size from fun e => by have := zRt S2.out.hx _ e; omega)
            clear e1_ S2 S1 z0 LC PC hta
            generalize w9.alloc (.cells #[.int .i64 xf, .int .i64 xv, .int .i64 xe] 48) = w10 at S3 XB ⊢
            generalize w9.heap.size = gx at XB NX ⊢
            obtain ⟨g4, cap4, e4_, _, _, cs4, t4_⟩ := Kd.R_form S3.out.h4 (by omega)
            subst e4_
            have NX4 := zMk (show gx ≠ g4 from blk_ne XB.out t4_ (by decide))
            clear t4_
            have k4f := Kd.R_celln 0 S3.out.h4 xv c3 c4
            have k4 := k4f.1
            have f4 := k4f.2
            clear k4f
            have hx0 : w10.cell? ⟨gx, 0, none⟩ = some (.int .i64 xf) := (zKc XB.out 0).trans rfl
            have hx1 : w10.cell? ⟨gx, 1, none⟩ = some (.int .i64 xv) := (zKc XB.out 1).trans rfl
            have hx2 : w10.cell? ⟨gx, 2, none⟩ = some (.int .i64 xe) := (zKc XB.out 2).trans rfl
            have p3 := eq_true c3
            have p4 := eq_true c4
            have rdd : rdOf 0 d xv = rd d xv := rfl
            rw [rdd] at k4
            have H := HA4.out
            clear HA4 rdd
            by_cases c5 : rd d xv ≥ 0
            · rw [if_pos c5] at H
              have p5 : decide (rd d xv ≥ 0) = true := decide_eq_true c5
              have H' := zMk H
              clear H c5
              try go_wp2
              go_roundg k3
              case measure => have := HK3.out; omega
              case rel => exact ⟨d, p, _, v9, H', ⟨by have := HK3.out; omega⟩, S3⟩
            · rw [if_neg c5] at H
              have p5 : decide (rd d xv ≥ 0) = false := decide_eq_false c5
              clear c5
              by_cases c6 : xv < (p.length : Int)
              rotate_left
              · rw [if_neg c6] at H; exact absurd H (by simp)
              rw [if_pos c6] at H
              by_cases c7 : xv < (x8_2.length : Int)
              rotate_left
              · rw [if_neg c7] at H; exact absurd H (by simp)
              rw [if_pos c7] at H
              have H' := zMk H
              clear H
              obtain ⟨g5, cap5, e5_, _, _, cs5, t5_⟩ := Kd.R_form S3.out.h5 (by omega)
              subst e5_
              have h45 : g4 ≠ g5 := by
                obtain ⟨_, t4_⟩ := Kd.R_typed S3.out.h4 g4 rfl
                exact blk_ne t4_ t5_ (by decide)
              clear t5_
              have h5far := Kd.R_far (p := ⟨g4, xv.toNat, none⟩) S3.out.h5 (fun k hk => by cases hk; exact h45.symm) (.int .i64 xf)
              have k5f := Kd.R_celln 0 h5far xv c3 c6
              have k5 := k5f.1
              have f5 := k5f.2
              clear k5f h5far h45
              have p6 := eq_true c6
              go_upto_region 18 with (fail)
              replace S3 := zMk (S3.out.below (below_drew (Below.refl _ _)))
              replace XB := zMk (zKd XB.out)
              replace k4 : w10.drew.cell? ⟨g4, xv.toNat, none⟩ = some (.int .i64 (rd d xv)) := k4
              replace f4 : w10.drew.frozen? ⟨g4, xv.toNat, none⟩ = false := f4
              replace k5 : (w10.drew.setCell ⟨g4, xv.toNat, none⟩ (.int .i64 xf)).cell? ⟨g5, xv.toNat, none⟩ = some (.int .i64 (rd p xv)) := k5
              replace f5 : (w10.drew.setCell ⟨g4, xv.toNat, none⟩ (.int .i64 xf)).frozen? ⟨g5, xv.toNat, none⟩ = false := f5
              refine start_ (n := 14) (S := fun w' => w'.cell? ⟨gx, 0, none⟩ = some (.int .i64 xf) ∧ w'.cell? ⟨gx, 1, none⟩ = some (.int .i64 xv) ∧ w'.cell? ⟨gx, 2, none⟩ = some (.int .i64 xe)) (ds := [13]) #[false, false, false, false, false, false, false, false, false, false, false, false, false, false] (by kernel_rfl) rfl rfl ⟨hx0, hx1, hx2⟩ (fun hHeld => ?_)
              generalize w10.drew = w11 at S3 XB NX4 k4 f4 k5 f5 hHeld ⊢
              refine pure_ (i := 0) (N := some 93) (v := ?_) (a' := ?_) #[true, false, false, false, false, false, false, false, false, false, false, false, false, false] rfl rfl (by kernel_rfl) (fun _ _ _ h => h) (Or.inl ⟨by rfl, ?_⟩) ?_ ?_
              rotate_left
              · intro w'
                go_simp
                with_reducible rfl
              rotate_left
              · simp only [Act.put, zSa, zSb, zSc, i64_w, i32_w]
                rfl
              refine pure_ (i := 1) (N := some 94) (v := ?_) (a' := ?_) #[true, true, false, false, false, false, false, false, false, false, false, false, false, false] rfl rfl (by kernel_rfl) (fun _ _ _ h => h) (Or.inl ⟨by rfl, ?_⟩) ?_ ?_
              rotate_left
              · intro w'
                go_simp
                with_reducible rfl
              rotate_left
              · simp only [Act.put, zSa, zSb, zSc, i64_w, i32_w]
                rfl
              refine pure_ (i := 3) (N := some 96) (v := ?_) (a' := ?_) #[true, true, false, true, false, false, false, false, false, false, false, false, false, false] rfl rfl (by kernel_rfl) (fun _ _ _ h => h) (Or.inl ⟨by rfl, ?_⟩) ?_ ?_
              rotate_left
              · intro w'
                go_simp
                with_reducible rfl
              rotate_left
              · simp only [Act.put, zSa, zSb, zSc, i64_w, i32_w]
                rfl
              refine pure_ (i := 4) (N := some 97) (v := ?_) (a' := ?_) #[true, true, false, true, true, false, false, false, false, false, false, false, false, false] rfl rfl (by kernel_rfl) (fun _ _ _ h => h) (Or.inl ⟨by rfl, ?_⟩) ?_ ?_
              rotate_left
              · intro w'
                go_simp
                with_reducible rfl
              rotate_left
              · simp only [Act.put, zSa, zSb, zSc, i64_w, i32_w]
                rfl
              refine pure_ (i := 6) (N := some 99) (v := ?_) (a' := ?_) #[true, true, false, true, true, false, true, false, false, false, false, false, false, false] rfl rfl (by kernel_rfl) (fun _ _ _ h => h) (Or.inl ⟨by rfl, ?_⟩) ?_ ?_
              rotate_left
              · intro w'
                go_simp
                with_reducible rfl
              rotate_left
              · simp only [Act.put, zSa, zSb, zSc, i64_w, i32_w]
                rfl
              refine pure_ (i := 8) (N := some 101) (v := ?_) (a' := ?_) #[true, true, false, true, true, false, true, false, true, false, false, false, false, false] rfl rfl (by kernel_rfl) (fun _ _ _ h => h) (Or.inl ⟨by rfl, ?_⟩) ?_ ?_
              rotate_left
              · intro w'
                go_simp
                with_reducible rfl
              rotate_left
              · simp only [Act.put, zSa, zSb, zSc, i64_w, i32_w]
                rfl
              refine take_ (i := 2) (N := some 95) (v := ?_) (a' := ?_) #[true, true, true, true, true, false, true, false, true, false, false, false, false, false] rfl rfl (by kernel_rfl) (fun _ _ _ h => h) (Or.inl ⟨by rfl, ?_⟩) hHeld ?_ ?_
              rotate_left
              · rintro w' ⟨s0, s1, s2⟩
                go_simp
                with_reducible rfl
              rotate_left
              · simp only [Act.put, zSa, zSb, zSc, i64_w, i32_w]
                rfl
              refine take_ (i := 5) (N := some 98) (v := ?_) (a' := ?_) #[true, true, true, true, true, true, true, false, true, false, false, false, false, false] rfl rfl (by kernel_rfl) (fun _ _ _ h => h) (Or.inl ⟨by rfl, ?_⟩) hHeld ?_ ?_
              rotate_left
              · rintro w' ⟨s0, s1, s2⟩
                go_simp
                with_reducible rfl
              rotate_left
              · simp only [Act.put, zSa, zSb, zSc, i64_w, i32_w]
                rfl
              refine take_ (i := 7) (N := some 100) (v := ?_) (a' := ?_) #[true, true, true, true, true, true, true, true, true, false, false, false, false, false] rfl rfl (by kernel_rfl) (fun _ _ _ h => h) (Or.inl ⟨by rfl, ?_⟩) hHeld ?_ ?_
              rotate_left
              · rintro w' ⟨s0, s1, s2⟩
                go_simp
                with_reducible rfl
              rotate_left
              · simp only [Act.put, zSa, zSb, zSc, i64_w, i32_w]
                rfl
              refine pure_ (i := 10) (N := some 103) (v := ?_) (a' := ?_) #[true, true, true, true, true, true, true, true, true, false, true, false, false, false] rfl rfl (by kernel_rfl) (fun _ _ _ h => h) (Or.inl ⟨by rfl, ?_⟩) ?_ ?_
              rotate_left
              · intro w'
                go_simp
                with_reducible rfl
              rotate_left
              · simp only [Act.put, zSa, zSb, zSc, i64_w, i32_w]
                rfl
              refine take_ (i := 9) (N := some 102) (v := ?_) (a' := ?_) #[true, true, true, true, true, true, true, true, true, true, true, false, false, false] rfl rfl (by kernel_rfl) (fun _ _ _ h => h) (Or.inl ⟨by rfl, ?_⟩) hHeld ?_ ?_
              rotate_left
              · rintro w' ⟨s0, s1, s2⟩
                go_simp
                with_reducible rfl
              rotate_left
              · simp only [Act.put, zSa, zSb, zSc, i64_w, i32_w]
                rfl
              refine one_ (i := 11) (N := none) #[true, true, true, true, true, true, true, true, true, true, true, true, false, false] rfl rfl (by kernel_rfl) (by decide) (fun K hK => ?_)
              refine skip_ (w1 := ?_) (by rfl) rfl ?_ ?_
              rotate_left
              · go_simp
                rfl
              refine hK.out _ _ ⟨((cell_far (p := ⟨g4, _, none⟩) NX4.out _).trans (hHeld.1)), ((cell_far (p := ⟨g4, _, none⟩) NX4.out _).trans (hHeld.2.1)), ((cell_far (p := ⟨g4, _, none⟩) NX4.out _).trans (hHeld.2.2))⟩ (fun hHeld => ?_)
              clear hK K
              refine pure_ (i := 12) (N := some 104) (v := ?_) (a' := ?_) #[true, true, true, true, true, true, true, true, true, true, true, true, true, false] rfl rfl (by kernel_rfl) (fun _ _ _ h => h) (Or.inl ⟨by rfl, ?_⟩) ?_ ?_
              rotate_left
              · intro w'
                go_simp
                with_reducible rfl
              rotate_left
              · simp only [Act.put, zSa, zSb, zSc, i64_w, i32_w]
                rfl
              refine last_ (i := 13) (N := none) #[true, true, true, true, true, true, true, true, true, true, true, true, true, true] rfl rfl (by kernel_rfl) (by decide) (fun K hK => ?_)
              refine skip_ (w1 := ?_) (by rfl) rfl ?_ ?_
              rotate_left
              · go_simp
                rfl
              refine hK.out _ _ ?_
              clear hK K
              refine done_ (by kernel_rfl) ?_
              try go_upto_region 19 with (fail)
              have S4 := zMk (S3.out.put g4 _ _ g5 _ _ rfl rfl xv xf xe)
              have XB4 := zMk (blk_far (p := ⟨g5, xv.toNat, none⟩) (blk_far (p := ⟨g4, xv.toNat, none⟩) XB.out NX4.out (.int .i64 xf)) (by obtain ⟨_, t5_⟩ := Kd.R_typed S3.out.h5 g5 rfl; exact blk_ne XB.out t5_ (by decide)) (.int .i64 xe))
              clear k4 f4 k5 f5 hx0 hx1 hx2 S3 XB
              generalize ((w11.setCell ⟨g4, xv.toNat, none⟩ (.int .i64 xf)).setCell ⟨g5, xv.toNat, none⟩ (.int .i64 xe)) = w12 at S4 XB4 ⊢
              obtain ⟨A8, c8, e8_, hc8, hC8⟩ := Kd.R_reads S4.out.h8
              subst e8_
              obtain ⟨g8, cap8, e8_, _, _, cs8, t8_⟩ := Kd.R_form S4.out.h8 (by omega)
              obtain ⟨rfl, rfl⟩ : A8 = some ⟨g8, 0, none⟩ ∧ c8 = cap8 := by injection e8_ with a_ _ b_; exact ⟨a_, b_⟩
              clear e8_ t8_
              obtain ⟨ad8, An, cn, e8_, hn8, hcn, hCn⟩ := at_L3 hC8 xv c3 c7
              obtain rfl : (⟨g8, 0, none⟩ : Addr) = ad8 := by injection e8_
              simp only [add_plain] at hn8
              have HN8 := zMk hn8
              have HCN := zMk hcn
              obtain ⟨nb, hnb⟩ : ∃ nb, rd_L3 x8_2 xv = nb := ⟨_, rfl⟩
              have H := H'.out
              rw [hnb] at HN8 HCN H hn8
              have HNB := zMk hnb
              clear H' hCn e8_ hC8 hc8 hcn hnb
              have H' := zMk H
              clear H
              have hx1 : w12.cell? ⟨gx, 1, none⟩ = some (.int .i64 xv) := (zKc XB4.out 1).trans rfl
              have p7 := eq_true c7
              go_upto_region 20 with (fail)
              have C8 := HN8
              clear hx1 HN8 hn8
              go_loopg [111] k3 (fun kq v111 w' => ∃ (ys : List S48) (vl' : Value) (i : Int), v111 = .int .i64 i ∧ Aside0 (paths_From.l2 kq (d.set xv.toNat xf) (p.set xv.toNat xe) x8_2 ys nb i a0_0 l0_1 ⟨xf, xv, xe⟩ = some (r1, r2, r3)) ∧ Aside0 (kq ≤ k3) ∧ Aside0 (Sit w w' gb106 gl #[.int .i64 a0_0, .slice A0_1 l0_1.length c0_1] (.slice (some ⟨g4, 0, none⟩) d.length cap4) (.slice (some ⟨g5, 0, none⟩) p.length cap5) (.slice (some ⟨g8, 0, none⟩) x8_2.length c8) vl' (d.set xv.toNat xf) (p.set xv.toNat xe) x8_2 ys) ∧ Aside0 (w'.heap[gx]? = some (.cells #[.int .i64 xf, .int .i64 xv, .int .i64 xe] 48 (0, 0))) ∧ Aside0 (vl'.ownBlock ≠ some gx) ∧ Aside0 (w'.cell? ⟨g8, xv.toNat, none⟩ = some (.slice An nb.length cn)))
              case atStart => exact ⟨_, v9, 0, rfl, H', ⟨Nat.le_refl _⟩, S4, XB4, NX, C8⟩
              clear H' S4 XB4 NX C8
              obtain ⟨ys, vl', i, rfl, HA, HK4, S5, XB5, NX5, C8⟩ := hrel
              rcases gk with _ | k4_
              · exact absurd HA.out (by simp [paths_From.l2])
              have H := HA.out
              clear HA
              simp only [paths_From.l2] at H
              by_cases d1 : i < (nb.length : Int)
              · rw [if_pos d1] at H
                have pd1 : decide (i < (nb.length : Int)) = true := decide_eq_true d1
                by_cases d2 : 0 ≤ i
                rotate_left
                · rw [if_neg d2] at H; exact absurd H (by simp)
                rw [if_pos d2] at H
                have hCn : Kd.C (Kd.int .i64) wr An nb.length nb := by
                  obtain ⟨A8', c8', e8', _, hC8'⟩ := Kd.R_reads S5.out.h8
                  cases e8'
                  obtain ⟨ad8', An', cn', e', hc', _, hC'⟩ := at_L3 hC8' xv c3 c7
                  injection e' with e'
                  subst e'
                  simp only [add_plain] at hc'
                  rw [HNB.out] at hc' hC'
                  have hh := zOi (hc'.symm.trans C8.out)
                  cases hh
                  exact hC'
                obtain ⟨adn, en_, hnc⟩ := zAi hCn i d2 d1
                subst en_
                obtain ⟨ei, hei⟩ : ∃ ei, rd nb i = ei := ⟨_, rfl⟩
                rw [hei] at H hnc
                clear hCn hei
                by_cases d3 : 0 ≤ ei
                rotate_left
                · rw [if_neg d3] at H; exact absurd H (by simp)
                rw [if_pos d3] at H
                by_cases d4 : ei < (l0_1.length : Int)
                rotate_left
                · rw [if_neg d4] at H; exact absurd H (by simp)
                rw [if_pos d4] at H
                obtain ⟨ad39, e39, y0, y1, y2⟩ := at_T39 (Kd.C_below HR0_1.out S5.out.hB) ei d3 d4
                subst e39
                obtain ⟨⟨E0, E1, E2⟩, hE⟩ : ∃ e : S39, rd_T39 l0_1 ei = e := ⟨_, rfl⟩
                rw [hE] at H y0 y1 y2
                dsimp only at H y0 y1 y2
                clear hE
                have HA5 := zMk H
                clear H
                have hm1 : World.cell? wr ⟨gb106, 1, none⟩ = some (.slice (some ad39) l0_1.length c0_1) := (zKc S5.out.hM 1).trans rfl
                have pd2 := eq_true d2
                have pd1b := eq_true d1
                have pd3 := eq_true d3
                have pd4 := eq_true d4
                go_upto_region 23 with (fail)
                have e1_ := (Below.refl _ _).alloc (Nat.le_refl wr.heap.size) (.cells #[.int .i64 E0, .int .i64 E1, .int .i64 E2] 39)
                have S6 := zMk (S5.out.below e1_)
                have XB6 := zMk (zKb XB5.out e1_)
                have C86 := zMk (pw_cell_below e1_ C8.out)
                have EB := zMk (heap_alloc_new wr (.cells #[.int .i64 E0, .int .i64 E1, .int .i64 E2] 39))
                clear e1_ S5 XB5 C8 hnc y0 y1 y2 hm1
                generalize wr.alloc (.cells #[.int .i64 E0, .int .i64 E1, .int .i64 E2] 39) = w13 at S6 XB6 C86 EB ⊢
                generalize wr.heap.size = ge at EB ⊢
                obtain ⟨s_, hs_⟩ : ∃ s_, wrap64 (E0 + E1) = s_ := ⟨_, rfl⟩
                obtain ⟨U, hU⟩ : ∃ U, wrap64 (s_ - xv) = U := ⟨_, rfl⟩
                have H := HA5.out
                rw [hs_, hU] at H
                clear HA5
                by_cases d5 : 0 ≤ U
                rotate_left
                · rw [if_neg d5] at H; exact absurd H (by simp)
                rw [if_pos d5] at H
                by_cases d6 : U < ((d.set xv.toNat xf).length : Int)
                rotate_left
                · rw [if_neg d6] at H; exact absurd H (by simp)
                rw [if_pos d6] at H
                have d6b : U < (d.length : Int) := by rw [List.length_set] at d6; exact d6
                have ku := (Kd.R_celln 0 S6.out.h4 U d5 d6b).1
                have rdd : rdOf 0 (d.set xv.toNat xf) U = rd (d.set xv.toNat xf) U := rfl
                rw [rdd] at ku
                clear rdd
                have he0 : w13.cell? ⟨ge, 0, none⟩ = some (.int .i64 E0) := (zKc EB.out 0).trans rfl
                have he1 : w13.cell? ⟨ge, 1, none⟩ = some (.int .i64 E1) := (zKc EB.out 1).trans rfl
                have he2 : w13.cell? ⟨ge, 2, none⟩ = some (.int .i64 E2) := (zKc EB.out 2).trans rfl
                have hx0 : w13.cell? ⟨gx, 0, none⟩ = some (.int .i64 xf) := (zKc XB6.out 0).trans rfl
                have hx1 : w13.cell? ⟨gx, 1, none⟩ = some (.int .i64 xv) := (zKc XB6.out 1).trans rfl
                have pd5 := eq_true d5
                have pd6 := eq_true d6b
                obtain ⟨I1, hI1⟩ : ∃ I1, wrap64 (i + 1) = I1 := ⟨_, rfl⟩
                rw [hI1] at H
                by_cases d7 : rd (d.set xv.toNat xf) U < 0
                · rw [if_pos d7] at H
                  have pd7 : decide (rd (d.set xv.toNat xf) U < 0) = true := decide_eq_true d7
                  by_cases d8 : ys.length < 1000000000000
                  rotate_left
                  · rw [if_neg d8] at H; exact absurd H (by simp)
                  rw [if_pos d8] at H
                  obtain ⟨F, hF⟩ : ∃ F, wrap64 (xf + E2) = F := ⟨_, rfl⟩
                  rw [hF] at H
                  have H' := zMk H
                  clear H
                  have PC := zMk (heapPush_calls vl' ys ⟨F, U, ei⟩ w w13 gl S6.out.hl d8 S6.out.hB S6.out.hL S6.out.hv S6.out.hx)
                  clear d1 d2 d3 d4 d5 d6 d6b d7 d8
                  generalize rd (d.set xv.toNat xf) U = dU at ku pd7
                  go_wp2_with (fail)
                  refine PC.out.mono ?_
                  rintro e w14 ⟨rfl, v14, hv14, hat14, hb14, hR14, hB14, hK14⟩
                  have S7 := zMk (Sit.heap S6.out hv14 hb14 hR14 hB14 hK14)
                  have hnx : ¬ (gx = gl ∨ vl'.ownBlock = some gx) := by
                    rintro (e | e)
                    · exact blk_ne XB6.out S6.out.hL (by decide) e
                    · exact NX5.out e
                  have XB7 := zMk (blk_kept XB6.out hK14 hnx)
                  have NX7 := zMk (show v14.ownBlock ≠ some gx from by
                    rcases hat14 with h | ⟨g, hg, hle⟩
                    · rw [h]; exact NX5.out
                    · rw [hg]; intro e; have := blk_lt XB6.out; simp only [Option.some.injEq] at e; omega)
                  have C87 := zMk (Sit.cell8 S6.out hK14 rfl C86.out)
                  clear hv14 hat14 hb14 hR14 hB14 hK14 hnx PC ku he0 he1 he2 hx0 hx1
                  go_wp2
                  go_roundg k4_
                  case measure => have := HK3.out; have := HK4.out; omega
                  case rel =>
                    refine ⟨hpush ys ⟨F, U, ei⟩, v14, I1, ?_, ?_, ?_, ?_, ?_, ?_, ?_⟩
                    · rw [hI1]
                    · with_reducible exact H'
                    · exact ⟨by have := HK3.out; have := HK4.out; omega⟩
                    · with_reducible exact S7
                    · with_reducible exact XB7
                    · with_reducible exact NX7
                    · with_reducible exact C87
                · rw [if_neg d7] at H
                  have pd7 : decide (rd (d.set xv.toNat xf) U < 0) = false := decide_eq_false d7
                  have H' := zMk H
                  clear H d1 d2 d3 d4 d5 d6 d6b d7
                  generalize rd (d.set xv.toNat xf) U = dU at ku pd7
                  go_wp2
                  go_roundg k4_
                  case measure => have := HK3.out; have := HK4.out; omega
                  case rel =>
                    refine ⟨ys, vl', I1, ?_, ?_, ?_, ?_, ?_, ?_, ?_⟩
                    · rw [hI1]
                    · with_reducible exact H'
                    · exact ⟨by have := HK3.out; have := HK4.out; omega⟩
                    · with_reducible exact S6
                    · with_reducible exact XB6
                    · with_reducible exact NX5
                    · with_reducible exact C86
              · rw [if_neg d1] at H
                have pd1 : decide (i < (nb.length : Int)) = false := decide_eq_false d1
                have H' := zMk H
                clear H d1
                go_wp2
                go_roundg k4_
                case measure => have := HK3.out; have := HK4.out; omega
                case rel =>
                  refine ⟨d.set xv.toNat xf, p.set xv.toNat xe, ys, vl', ?_, ?_, ?_⟩
                  · with_reducible exact H'
                  · exact ⟨by have := HK3.out; have := HK4.out; omega⟩
                  · with_reducible exact S5
          · rw [if_neg c1] at H
            have p1 : decide (n_ > 0) = false := decide_eq_false (by omega)
            obtain ⟨rfl, rfl, rfl⟩ : d = r1 ∧ p = r2 ∧ 0 = r3 := by simpa using H
            clear c1 hn_ H
            go_wp2_with (go_at_call 20; refine LC.out.mono ?_; rintro e w9 ⟨rfl, rfl⟩)
            go_ret3
            exact ⟨_, _, rfl, zRm S1.out.h4 (fun _ _ => trivial), zRm S1.out.h5 (fun _ _ => trivial), S1.out.hB⟩
  · rw [if_neg c4] at H
    have c4b0 : (t107 == 0) = false := beq_eq_false_iff_ne.mpr c4
    have c4b1 : (t107 != 0) = true := bne_iff_ne.mpr c4
    simp only [Option.some.injEq, Prod.mk.injEq] at H
    obtain ⟨rfl, rfl, rfl⟩ := H
    go_enter Try.func11, Try.ntmps11
    go_wp2_with (first | ((with_reducible refine gate_dst (N := 2) rfl ?_); refine box_event ?hg (N := 2) ?hd (cs := #[.int .i64 a0_0, .slice A0_1 l0_1.length c0_1]) (t := 24) ?hr ?_; (case hd => rfl); (case hg => rfl); (case hr => first | (go_simp; done)|(go_simp; rfl)|(go_simp; rw [show ∀ x : Int, IntKind.u32.wrap (IntKind.u8.wrap x) = x % 256 from fun x => (by show (x % 256) % 4294967296 = x % 256; omega)])); intro gb106 hg w115 hbox hb; have BK106 := zMk (hbox); have GW106 := zMk ((by rw [hg]; exact (zBs (by exact uT HB.out)) : w.heap.size ≤ gb106)); have GE106 := zMk ((by rw [hg]; exact (zBs (by exact uT HB.out)) : w.heap.size ≤ gb106)); have IGE106 := ownGe GE106.out; have IGE106 := ownGe GE106.out; replace HB := zMk (zBt (by exact uT HB.out) hb); clear hb hbox hg; have hcz116_0 : w115.cell? ⟨gb106, 0, none⟩ = some (.int .i64 a0_0) := (zKc BK106.out 0).trans rfl; have hcz116_1 : w115.cell? ⟨gb106, 1, none⟩ = some (.slice A0_1 l0_1.length c0_1) := (zKc BK106.out 1).trans rfl; have hfz116_0 := zKf BK106.out 0; have hfz116_1 := zKf BK106.out 1)|((with_reducible refine gate_callee (f := 7) rfl ?_); refine goesL_ (some 18) rfl rfl Try.func7 (by kernel_rfl) rfl #[.agg #[.int .i64 a0_0, .slice A0_1 l0_1.length c0_1]] rfl (by (try simp only [zMa, zMc, zMn]); first |  done|  rfl|  (simp only [zLd, zLt]; rfl)) ?_; (with_reducible refine (paths_Right.calls k a0_0 _ _ l0_1 t107 _ ?side1 ?side2 A3.out).mono ?_); (case side1 => repeat (first |  exact (Kd.C_below HR0_1.out HB.out)|(with_reducible refine zCa ?_ _)|(with_reducible refine zCn ?_ _)|(with_reducible refine zCd ?_))); (case side2 => exact HC0_1.out); rintro e w117 ⟨rfl, hb⟩; refine ⟨_, rfl, ?_⟩; replace BK106 := zMk (zKb (g := gb106) (o := .cells #[.int .i64 a0_0, .slice A0_1 l0_1.length c0_1] 24 (0, 0)) (by (with_reducible repeat (first |  refine zKn ?_ _|  refine zKd ?_|  refine zKa ?_ _)); exact BK106.out) hb); replace HB := zMk (zBt (by exact uT HB.out) hb)))
    go_ret3
    exact ⟨_, _, by first | rfl | (simp [errW_none, errW_some] <;> rfl) | (simp [*, errW_none, errW_some] <;> rfl), by first | exact Kd.R_nil _ _ _ _ _ | exact Kd.N_nil _ _ _ _ _ | exact Kd.V_nil _ _ _ _ _ | exact Kd.Q_nil _ _ _ _ _ | exact Kd.S_nil _ _ _ _ _, by first | exact Kd.R_nil _ _ _ _ _ | exact Kd.N_nil _ _ _ _ _ | exact Kd.V_nil _ _ _ _ _ | exact Kd.Q_nil _ _ _ _ _ | exact Kd.S_nil _ _ _ _ _, by exact uT HB.out⟩



def slices_Equal_int64_int64.l0 : Nat → List Int → List Int → Int → Int → Option (Bool)
  | 0, _, _, _, _ => none
  | k + 1, x0, x1, x12, x13 => if x13 < x12 then (if 0 ≤ x13 then (if x13 < (x0.length : Int) then (if x13 < (x1.length : Int) then (if (rd x0 x13) = (rd x1 x13) then (slices_Equal_int64_int64.l0 k x0 x1 x12 (wrap64 (x13 + 1))) else (some false)) else (none)) else (none)) else (none)) else (some true)
def slices_Equal_int64_int64.f (k : Nat) (l0 : List Int) (l1 : List Int) : Option (Bool) := if (l0.length : Int) = (l1.length : Int) then (slices_Equal_int64_int64.l0 k l0 l1 (l0.length : Int) 0) else (some false)
theorem slices_Equal_int64_int64.calls (k : Nat) (A0 : Option Addr) (c0 : Nat) (l0 : List Int) (A1 : Option Addr) (c1 : Nat) (l1 : List Int) (r : Bool) (w : World) (hr0 : Kd.C (Kd.int .i64) w A0 l0.length l0) (hc0 : l0.length ≤ c0) (hr1 : Kd.C (Kd.int .i64) w A1 l1.length l1) (hc1 : l1.length ≤ c1) (h : slices_Equal_int64_int64.f k l0 l1 = some r) :
    Calls Try.prog 24 #[.slice A0 l0.length c0, .slice A1 l1.length c1] w fun e w' => e = .returned (.bool r) ∧ Drawn0 w w' := by
  have HR0 := zMk hr0
  have HC0 := zMk hc0
  clear hr0 hc0
  have HR1 := zMk hr1
  have HC1 := zMk hc1
  clear hr1 hc1
  have H : (if (l0.length : Int) = (l1.length : Int) then (slices_Equal_int64_int64.l0 k l0 l1 (l0.length : Int) 0) else (some false)) = some r := h
  clear h
  by_cases c3 : (l0.length : Int) = (l1.length : Int)
  · rw [if_pos c3] at H
    have c3b0 : ((l0.length : Int) == (l1.length : Int)) = true := beq_iff_eq.mpr c3
    have c3b1 : ((l0.length : Int) != (l1.length : Int)) = false := bne_eq_false_iff_eq.mpr c3
    have c3b2 : (l0.length == l1.length) = true := by first | simpa using c3 | (simp at c3 ⊢; omega)
    clear c3
    have H' := zMk H
    clear H
    go_enter Try.func24, Try.ntmps24
    go_wp2
    repeat (go_quiet (fail); try go_wp2)
    go_loopg [13] k (fun kq v13 w' => ∃ (x13_1 : Int), v13 = .int .i64 x13_1 ∧ Aside0 (slices_Equal_int64_int64.l0 kq l0 l1 (l0.length : Int) x13_1 = some r) ∧ Aside0 (kq ≤ k) ∧ Drawn0 w w')
    case atStart => exact ⟨(0), (by first | rfl | (simp; done) | (simp [*]; done)), H', ⟨Nat.le_refl _⟩, by repeat (first | exact Drawn0.refl _ | apply Drawn0.step)⟩
    clear H'
    obtain ⟨x13_1, rfl, HA, HK1, ⟨m1, rfl⟩⟩ := hrel
    rcases gk with _ | k1
    · exact absurd HA.out (by simp [slices_Equal_int64_int64.l0])
    have H := HA.out
    clear HA
    simp only [slices_Equal_int64_int64.l0] at H
    by_cases c4 : x13_1 < (l0.length : Int)
    · rw [if_pos c4] at H
      have c4b0 : decide (x13_1 < (l0.length : Int)) = true := decide_eq_true c4
      clear c4
      by_cases c5 : 0 ≤ x13_1
      rotate_left
      · rw [if_neg c5] at H; exact absurd H (by simp)
      rw [if_pos c5] at H
      have c5b0 : decide (0 ≤ x13_1) = true := decide_eq_true c5
      clear c5
      by_cases c6 : x13_1 < (l0.length : Int)
      rotate_left
      · rw [if_neg c6] at H; exact absurd H (by simp)
      rw [if_pos c6] at H
      have c6b0 : decide (x13_1 < (l0.length : Int)) = true := decide_eq_true c6
      clear c6
      by_cases c7 : x13_1 < (l1.length : Int)
      rotate_left
      · rw [if_neg c7] at H; exact absurd H (by simp)
      rw [if_pos c7] at H
      have c7b0 : decide (x13_1 < (l1.length : Int)) = true := decide_eq_true c7
      clear c7
      by_cases c8 : (rd l0 x13_1) = (rd l1 x13_1)
      · rw [if_pos c8] at H
        have c8b0 : ((rd l0 x13_1) == (rd l1 x13_1)) = true := beq_iff_eq.mpr c8
        have c8b1 : ((rd l0 x13_1) != (rd l1 x13_1)) = false := bne_eq_false_iff_eq.mpr c8
        clear c8
        have H' := zMk H
        clear H
        have p106 : 0 ≤ (x13_1 : Int) := of_decide_eq_true (by assumption)
        have q106 : x13_1 < (l0.length : Int) := of_decide_eq_true (by assumption)
        obtain ⟨ad106, e106, hx106_0⟩ := zAi HR0.out x13_1 p106 q106
        cases e106
        replace p106 := eq_true p106
        replace q106 := eq_true q106
        have p107 : 0 ≤ (x13_1 : Int) := of_decide_eq_true (by assumption)
        have q107 : x13_1 < (l1.length : Int) := of_decide_eq_true (by assumption)
        obtain ⟨ad107, e107, hx107_0⟩ := zAi HR1.out x13_1 p107 q107
        cases e107
        replace p107 := eq_true p107
        replace q107 := eq_true q107
        go_wp2
        repeat (go_quiet (fail); try go_wp2)
        go_roundg k1
        case measure => have := HK1.out; omega
        case rel => exact ⟨(wrap64 (x13_1 + 1)), (by first | rfl | (simp; done) | (simp [*]; done)), H', ⟨by have := HK1.out; omega⟩, by repeat (first | exact Drawn0.refl _ | apply Drawn0.step)⟩
      · rw [if_neg c8] at H
        have c8b0 : ((rd l0 x13_1) == (rd l1 x13_1)) = false := beq_eq_false_iff_ne.mpr c8
        have c8b1 : ((rd l0 x13_1) != (rd l1 x13_1)) = true := bne_iff_ne.mpr c8
        obtain rfl := zOi H
        have p106 : 0 ≤ (x13_1 : Int) := of_decide_eq_true (by assumption)
        have q106 : x13_1 < (l0.length : Int) := of_decide_eq_true (by assumption)
        obtain ⟨ad106, e106, hx106_0⟩ := zAi HR0.out x13_1 p106 q106
        cases e106
        replace p106 := eq_true p106
        replace q106 := eq_true q106
        have p107 : 0 ≤ (x13_1 : Int) := of_decide_eq_true (by assumption)
        have q107 : x13_1 < (l1.length : Int) := of_decide_eq_true (by assumption)
        obtain ⟨ad107, e107, hx107_0⟩ := zAi HR1.out x13_1 p107 q107
        cases e107
        replace p107 := eq_true p107
        replace q107 := eq_true q107
        go_wp2
        repeat (go_quiet (fail); try go_wp2)
        go_ret
        exact ⟨by first | rfl | (simp; done) | (simp [*]; done), by repeat (first | exact Drawn0.refl _ | apply Drawn0.step)⟩
    · rw [if_neg c4] at H
      have c4b0 : decide (x13_1 < (l0.length : Int)) = false := decide_eq_false c4
      clear c4
      obtain rfl := zOi H
      go_wp2
      repeat (go_quiet (fail); try go_wp2)
      go_ret
      exact ⟨by first | rfl | (simp; done) | (simp [*]; done), by repeat (first | exact Drawn0.refl _ | apply Drawn0.step)⟩
  · rw [if_neg c3] at H
    have c3b0 : ((l0.length : Int) == (l1.length : Int)) = false := beq_eq_false_iff_ne.mpr c3
    have c3b1 : ((l0.length : Int) != (l1.length : Int)) = true := bne_iff_ne.mpr c3
    have c3b2 : (l0.length == l1.length) = false := by first | simpa using c3 | (simp at c3 ⊢; omega)
    obtain rfl := zOi H
    go_enter Try.func24, Try.ntmps24
    go_wp2
    repeat (go_quiet (fail); try go_wp2)
    go_ret
    exact ⟨by first | rfl | (simp; done) | (simp [*]; done), by repeat (first | exact Drawn0.refl _ | apply Drawn0.step)⟩


def paths_other.j0 : Nat → Int → Int → Bool → Int → List (S39) → Option (Int × Bool)
  | 0, _, _, _, _, _ => none
  | k + 1, x1, x2, x17, x109000, x109001 => if x17 = true then (some (0, false)) else (if 0 ≤ x1 then (if x1 < (x109001.length : Int) then (if x2 = ((rd_T39 x109001 x1).f1) then (some ((rd_T39 x109001 x1).f0, true)) else (if x2 = ((rd_T39 x109001 x1).f0) then (some ((rd_T39 x109001 x1).f1, true)) else (some (0, false)))) else (none)) else (none))
def paths_other.f (k : Nat) (a0_0 : Int) (l0_1 : List (S39)) (a1 : Int) (a2 : Int) : Option (Int × Bool) := if a1 < 0 then (paths_other.j0 k a1 a2 true a0_0 l0_1) else (paths_other.j0 k a1 a2 (decide (a1 ≥ (l0_1.length : Int))) a0_0 l0_1)
theorem paths_other.calls (k : Nat) (a0_0 : Int) (A0_1 : Option Addr) (c0_1 : Nat) (l0_1 : List (S39)) (a1 : Int) (a2 : Int) (r1 : Int) (r2 : Bool) (w : World) (hr0_1 : Kd.C k39 w A0_1 l0_1.length l0_1) (hc0_1 : l0_1.length ≤ c0_1) (h : paths_other.f k a0_0 l0_1 a1 a2 = some (r1, r2)) :
    Calls Try.prog 25 #[.agg #[.int .i64 a0_0, .slice A0_1 l0_1.length c0_1], .int .i64 a1, .int .i64 a2] w fun e w' => e = .returned (.tuple #[.int .i64 r1, .bool r2]) ∧ Below w.heap.size w w' := by
  have hu24 := Try.underlying24
  have hu39 := Try.underlying39
  have HR0_1 := zMk hr0_1
  have HC0_1 := zMk hc0_1
  clear hr0_1 hc0_1
  have HB := zMk (Below.refl w.heap.size w)
  have H : (if a1 < 0 then (paths_other.j0 k a1 a2 true a0_0 l0_1) else (paths_other.j0 k a1 a2 (decide (a1 ≥ (l0_1.length : Int))) a0_0 l0_1)) = some (r1, r2) := h
  clear h
  have HC4 := zMk H
  clear H
  go_enter Try.func25, Try.ntmps25
  go_upto_region 1 with (first | ((with_reducible refine gate_dst (N := 3) rfl ?_); (try (refine gate_guard (by rfl) ?_; dsimp only)); refine box_event ?hg (N := 3) ?hd (cs := #[.int .i64 a0_0, .slice A0_1 l0_1.length c0_1]) (t := 24) ?hr ?_; (case hd => rfl); (case hg => rfl); (case hr => first | (go_simp; done)|(go_simp; rfl)|(go_simp; rw [show ∀ x : Int, IntKind.u32.wrap (IntKind.u8.wrap x) = x % 256 from fun x => (by show (x % 256) % 4294967296 = x % 256; omega)])); intro gb108 hg w5 hbox hb; have BK108 := zMk (hbox); have GW108 := zMk ((by rw [hg]; exact (zBs (by exact uT HB.out)) : w.heap.size ≤ gb108)); have GE108 := zMk ((by rw [hg]; exact (zBs (by exact uT HB.out)) : w.heap.size ≤ gb108)); have IGE108 := ownGe GE108.out; replace HB := zMk (zBt (by exact uT HB.out) hb); clear hb hbox hg))
  (try simp only [Act.put, zSa, zSb, zSc])
  go_cut [17] (fun v17 wc => ∃ (kq : Nat) (x17_3 : Bool), v17 = .bool x17_3 ∧ Aside0 (paths_other.j0 kq a1 a2 x17_3 a0_0 l0_1 = some (r1, r2)) ∧ Aside0 (kq ≤ k) ∧ Aside0 (wc.heap[gb108]? = some (.cells #[.int .i64 a0_0, (.slice A0_1 l0_1.length c0_1)] 24 (0, 0))) ∧ Aside0 (Below w.heap.size w wc))
  case first =>
    have H := HC4.out
    clear HC4
    by_cases c6 : a1 < 0
    · rw [if_pos c6] at H
      have c6b0 : decide (a1 < 0) = true := decide_eq_true c6
      clear c6
      (first | rw [c6b0] | (simp only [i64_w, i32_w]; rw [c6b0]) | rw [c6b1] | skip)
      have H' := zMk H
      clear H
      go_wp2
      go_meet
      case rel => exact ⟨_, (true), (by first | rfl | (simp; done) | (simp [*]; done)), H', ⟨by first | omega | exact Nat.le_refl _⟩, ⟨by (with_reducible repeat (first | refine zKn ?_ _ | refine zKd ?_ | refine zKa ?_ _)); exact BK108.out⟩, ⟨by exact uT HB.out⟩⟩
    · rw [if_neg c6] at H
      have c6b0 : decide (a1 < 0) = false := decide_eq_false c6
      clear c6
      (first | rw [c6b0] | (simp only [i64_w, i32_w]; rw [c6b0]) | rw [c6b1] | skip)
      have H' := zMk H
      clear H
      have hcz7_0 : w5.cell? ⟨gb108, 0, none⟩ = some (.int .i64 a0_0) := (zKc BK108.out 0).trans rfl
      have hcz7_1 : w5.cell? ⟨gb108, 1, none⟩ = some (.slice A0_1 l0_1.length c0_1) := (zKc BK108.out 1).trans rfl
      have hfz7_0 := zKf BK108.out 0
      have hfz7_1 := zKf BK108.out 1
      go_wp2
      go_meet
      case rel => exact ⟨_, (decide (a1 ≥ (l0_1.length : Int))), (by first | rfl | (simp; done) | (simp [*]; done)), H', ⟨by first | omega | exact Nat.le_refl _⟩, ⟨by (with_reducible repeat (first | refine zKn ?_ _ | refine zKd ?_ | refine zKa ?_ _)); exact BK108.out⟩, ⟨by exact uT HB.out⟩⟩
  case rest =>
    clear HC4
    obtain ⟨kq, x17_3, rfl, HA, HJ3, BK108, HB⟩ := hcut
    rcases kq with _ | kj3
    · exact absurd HA.out (by simp [paths_other.j0])
    have H := HA.out
    clear HA
    simp only [paths_other.j0] at H
    by_cases c8 : x17_3 = true
    · subst c8
      replace H : (some (0, false)) = some (r1, r2) := by rw [if_pos rfl] at H; exact H
      simp only [Option.some.injEq, Prod.mk.injEq] at H
      obtain ⟨rfl, rfl⟩ := H
      go_wp2
      go_ret2
      exact ⟨by first | rfl | (simp [errW_none, errW_some] <;> rfl) | (simp [*, errW_none, errW_some] <;> rfl), by exact uT HB.out⟩
    · replace c8 := Bool.eq_false_iff.mpr c8
      subst c8
      replace H : (if 0 ≤ a1 then (if a1 < (l0_1.length : Int) then (if a2 = ((rd_T39 l0_1 a1).f1) then (some ((rd_T39 l0_1 a1).f0, true)) else (if a2 = ((rd_T39 l0_1 a1).f0) then (some ((rd_T39 l0_1 a1).f1, true)) else (some (0, false)))) else (none)) else (none)) = some (r1, r2) := by rw [if_neg (show ¬ (false = true) by decide)] at H; exact H
      by_cases c9 : 0 ≤ a1
      · rw [if_pos c9] at H
        have c9b0 : decide (0 ≤ a1) = true := decide_eq_true c9
        clear c9
        by_cases c10 : a1 < (l0_1.length : Int)
        rotate_left
        · rw [if_neg c10] at H; exact absurd H (by simp)
        rw [if_pos c10] at H
        have c10b0 : decide (a1 < (l0_1.length : Int)) = true := decide_eq_true c10
        clear c10
        by_cases c11 : a2 = ((rd_T39 l0_1 a1).f1)
        · rw [if_pos c11] at H
          have c11b0 : (a2 == ((rd_T39 l0_1 a1).f1)) = true := beq_iff_eq.mpr c11
          have c11b1 : (a2 != ((rd_T39 l0_1 a1).f1)) = false := bne_eq_false_iff_eq.mpr c11
          clear c11
          simp only [Option.some.injEq, Prod.mk.injEq] at H
          obtain ⟨rfl, rfl⟩ := H
          have hcz12_0 : wc.cell? ⟨gb108, 0, none⟩ = some (.int .i64 a0_0) := (zKc BK108.out 0).trans rfl
          have hcz12_1 : wc.cell? ⟨gb108, 1, none⟩ = some (.slice A0_1 l0_1.length c0_1) := (zKc BK108.out 1).trans rfl
          have hfz12_0 := zKf BK108.out 0
          have hfz12_1 := zKf BK108.out 1
          have p109 : 0 ≤ (a1 : Int) := of_decide_eq_true (by assumption)
          have q109 : a1 < (l0_1.length : Int) := of_decide_eq_true (by assumption)
          obtain ⟨ad109, e109, hx109_0, hx109_1, hx109_2⟩ := at_T39 HR0_1.out a1 p109 q109
          cases e109
          replace hx109_0 := (HB.out.cell (World.block_lt_of_cell? w _ hx109_0)).trans hx109_0
          replace hx109_1 := (HB.out.cell (World.block_lt_of_cell? w _ hx109_1)).trans hx109_1
          replace hx109_2 := (HB.out.cell (World.block_lt_of_cell? w _ hx109_2)).trans hx109_2
          replace p109 := eq_true p109
          replace q109 := eq_true q109
          go_wp2_with (first | ((with_reducible refine gate_dst (N := 8) rfl ?_); (try (refine gate_guard (by rfl) ?_; dsimp only)); refine box_event ?hg (N := 8) ?hd (cs := #[.int .i64 0, .int .i64 0, .int .i64 0]) (t := 39) ?hr ?_; (case hd => rfl); (case hg => rfl); (case hr => first | (go_simp; done)|(go_simp; rfl)|(go_simp; rw [show ∀ x : Int, IntKind.u32.wrap (IntKind.u8.wrap x) = x % 256 from fun x => (by show (x % 256) % 4294967296 = x % 256; omega)])); intro gb110 hg w13 hbox hb; have BK110 := zMk (hbox); have GW110 := zMk ((by rw [hg]; exact (zBs (by exact uT HB.out)) : w.heap.size ≤ gb110)); have GE110 := zMk ((by rw [hg]; exact (zBs (by exact uT HB.out)) : w.heap.size ≤ gb110)); have IGE110 := ownGe GE110.out; replace HB := zMk (zBt (by exact uT HB.out) hb); have NB108_110 := zMk ((by rw [hg]; exact Nat.ne_of_lt (blk_lt (g := gb108) (o := .cells #[.int .i64 a0_0, .slice (some ad109) l0_1.length c0_1] 24 (0, 0)) (by (with_reducible repeat (first |  refine zKn ?_ _|  refine zKd ?_|  refine zKa ?_ _)); exact BK108.out)) : gb108 ≠ gb110)); have NB110_108 := zMk ((by rw [hg]; exact Nat.ne_of_gt (blk_lt (g := gb108) (o := .cells #[.int .i64 a0_0, .slice (some ad109) l0_1.length c0_1] 24 (0, 0)) (by (with_reducible repeat (first |  refine zKn ?_ _|  refine zKd ?_|  refine zKa ?_ _)); exact BK108.out)) : gb110 ≠ gb108)); replace BK108 := zMk (zKb (g := gb108) (o := .cells #[.int .i64 a0_0, .slice (some ad109) l0_1.length c0_1] 24 (0, 0)) (by (with_reducible repeat (first |  refine zKn ?_ _|  refine zKd ?_|  refine zKa ?_ _)); exact BK108.out) hb); clear hb hbox hg; have hnb14 := NB110_108.out; have hnc14 := NB108_110.out; have hcz15_0 : w13.cell? ⟨gb110, 0, none⟩ = some (.int .i64 0) := (zKc BK110.out 0).trans rfl; have hcz15_1 : w13.cell? ⟨gb110, 1, none⟩ = some (.int .i64 0) := (zKc BK110.out 1).trans rfl; have hcz15_2 : w13.cell? ⟨gb110, 2, none⟩ = some (.int .i64 0) := (zKc BK110.out 2).trans rfl; have hfz15_0 := zKf BK110.out 0; have hfz15_1 := zKf BK110.out 1; have hfz15_2 := zKf BK110.out 2))
          go_ret2
          exact ⟨by first | rfl | (simp [errW_none, errW_some] <;> rfl) | (simp [*, errW_none, errW_some] <;> rfl), by exact uT HB.out⟩
        · rw [if_neg c11] at H
          have c11b0 : (a2 == ((rd_T39 l0_1 a1).f1)) = false := beq_eq_false_iff_ne.mpr c11
          have c11b1 : (a2 != ((rd_T39 l0_1 a1).f1)) = true := bne_iff_ne.mpr c11
          by_cases c16 : a2 = ((rd_T39 l0_1 a1).f0)
          · rw [if_pos c16] at H
            have c16b0 : (a2 == ((rd_T39 l0_1 a1).f0)) = true := beq_iff_eq.mpr c16
            have c16b1 : (a2 != ((rd_T39 l0_1 a1).f0)) = false := bne_eq_false_iff_eq.mpr c16
            clear c16
            simp only [Option.some.injEq, Prod.mk.injEq] at H
            obtain ⟨rfl, rfl⟩ := H
            have hcz17_0 : wc.cell? ⟨gb108, 0, none⟩ = some (.int .i64 a0_0) := (zKc BK108.out 0).trans rfl
            have hcz17_1 : wc.cell? ⟨gb108, 1, none⟩ = some (.slice A0_1 l0_1.length c0_1) := (zKc BK108.out 1).trans rfl
            have hfz17_0 := zKf BK108.out 0
            have hfz17_1 := zKf BK108.out 1
            have p109 : 0 ≤ (a1 : Int) := of_decide_eq_true (by assumption)
            have q109 : a1 < (l0_1.length : Int) := of_decide_eq_true (by assumption)
            obtain ⟨ad109, e109, hx109_0, hx109_1, hx109_2⟩ := at_T39 HR0_1.out a1 p109 q109
            cases e109
            replace hx109_0 := (HB.out.cell (World.block_lt_of_cell? w _ hx109_0)).trans hx109_0
            replace hx109_1 := (HB.out.cell (World.block_lt_of_cell? w _ hx109_1)).trans hx109_1
            replace hx109_2 := (HB.out.cell (World.block_lt_of_cell? w _ hx109_2)).trans hx109_2
            replace p109 := eq_true p109
            replace q109 := eq_true q109
            go_wp2_with (first | ((with_reducible refine gate_dst (N := 8) rfl ?_); (try (refine gate_guard (by rfl) ?_; dsimp only)); refine box_event ?hg (N := 8) ?hd (cs := #[.int .i64 0, .int .i64 0, .int .i64 0]) (t := 39) ?hr ?_; (case hd => rfl); (case hg => rfl); (case hr => first | (go_simp; done)|(go_simp; rfl)|(go_simp; rw [show ∀ x : Int, IntKind.u32.wrap (IntKind.u8.wrap x) = x % 256 from fun x => (by show (x % 256) % 4294967296 = x % 256; omega)])); intro gb110 hg w18 hbox hb; have BK110 := zMk (hbox); have GW110 := zMk ((by rw [hg]; exact (zBs (by exact uT HB.out)) : w.heap.size ≤ gb110)); have GE110 := zMk ((by rw [hg]; exact (zBs (by exact uT HB.out)) : w.heap.size ≤ gb110)); have IGE110 := ownGe GE110.out; replace HB := zMk (zBt (by exact uT HB.out) hb); have NB108_110 := zMk ((by rw [hg]; exact Nat.ne_of_lt (blk_lt (g := gb108) (o := .cells #[.int .i64 a0_0, .slice (some ad109) l0_1.length c0_1] 24 (0, 0)) (by (with_reducible repeat (first |  refine zKn ?_ _|  refine zKd ?_|  refine zKa ?_ _)); exact BK108.out)) : gb108 ≠ gb110)); have NB110_108 := zMk ((by rw [hg]; exact Nat.ne_of_gt (blk_lt (g := gb108) (o := .cells #[.int .i64 a0_0, .slice (some ad109) l0_1.length c0_1] 24 (0, 0)) (by (with_reducible repeat (first |  refine zKn ?_ _|  refine zKd ?_|  refine zKa ?_ _)); exact BK108.out)) : gb110 ≠ gb108)); replace BK108 := zMk (zKb (g := gb108) (o := .cells #[.int .i64 a0_0, .slice (some ad109) l0_1.length c0_1] 24 (0, 0)) (by (with_reducible repeat (first |  refine zKn ?_ _|  refine zKd ?_|  refine zKa ?_ _)); exact BK108.out) hb); clear hb hbox hg; have hnb19 := NB110_108.out; have hnc19 := NB108_110.out; have hcz20_0 : w18.cell? ⟨gb110, 0, none⟩ = some (.int .i64 0) := (zKc BK110.out 0).trans rfl; have hcz20_1 : w18.cell? ⟨gb110, 1, none⟩ = some (.int .i64 0) := (zKc BK110.out 1).trans rfl; have hcz20_2 : w18.cell? ⟨gb110, 2, none⟩ = some (.int .i64 0) := (zKc BK110.out 2).trans rfl; have hfz20_0 := zKf BK110.out 0; have hfz20_1 := zKf BK110.out 1; have hfz20_2 := zKf BK110.out 2))
            go_ret2
            exact ⟨by first | rfl | (simp [errW_none, errW_some] <;> rfl) | (simp [*, errW_none, errW_some] <;> rfl), by exact uT HB.out⟩
          · rw [if_neg c16] at H
            have c16b0 : (a2 == ((rd_T39 l0_1 a1).f0)) = false := beq_eq_false_iff_ne.mpr c16
            have c16b1 : (a2 != ((rd_T39 l0_1 a1).f0)) = true := bne_iff_ne.mpr c16
            simp only [Option.some.injEq, Prod.mk.injEq] at H
            obtain ⟨rfl, rfl⟩ := H
            have hcz21_0 : wc.cell? ⟨gb108, 0, none⟩ = some (.int .i64 a0_0) := (zKc BK108.out 0).trans rfl
            have hcz21_1 : wc.cell? ⟨gb108, 1, none⟩ = some (.slice A0_1 l0_1.length c0_1) := (zKc BK108.out 1).trans rfl
            have hfz21_0 := zKf BK108.out 0
            have hfz21_1 := zKf BK108.out 1
            have p109 : 0 ≤ (a1 : Int) := of_decide_eq_true (by assumption)
            have q109 : a1 < (l0_1.length : Int) := of_decide_eq_true (by assumption)
            obtain ⟨ad109, e109, hx109_0, hx109_1, hx109_2⟩ := at_T39 HR0_1.out a1 p109 q109
            cases e109
            replace hx109_0 := (HB.out.cell (World.block_lt_of_cell? w _ hx109_0)).trans hx109_0
            replace hx109_1 := (HB.out.cell (World.block_lt_of_cell? w _ hx109_1)).trans hx109_1
            replace hx109_2 := (HB.out.cell (World.block_lt_of_cell? w _ hx109_2)).trans hx109_2
            replace p109 := eq_true p109
            replace q109 := eq_true q109
            go_wp2_with (first | ((with_reducible refine gate_dst (N := 8) rfl ?_); (try (refine gate_guard (by rfl) ?_; dsimp only)); refine box_event ?hg (N := 8) ?hd (cs := #[.int .i64 0, .int .i64 0, .int .i64 0]) (t := 39) ?hr ?_; (case hd => rfl); (case hg => rfl); (case hr => first | (go_simp; done)|(go_simp; rfl)|(go_simp; rw [show ∀ x : Int, IntKind.u32.wrap (IntKind.u8.wrap x) = x % 256 from fun x => (by show (x % 256) % 4294967296 = x % 256; omega)])); intro gb110 hg w22 hbox hb; have BK110 := zMk (hbox); have GW110 := zMk ((by rw [hg]; exact (zBs (by exact uT HB.out)) : w.heap.size ≤ gb110)); have GE110 := zMk ((by rw [hg]; exact (zBs (by exact uT HB.out)) : w.heap.size ≤ gb110)); have IGE110 := ownGe GE110.out; replace HB := zMk (zBt (by exact uT HB.out) hb); have NB108_110 := zMk ((by rw [hg]; exact Nat.ne_of_lt (blk_lt (g := gb108) (o := .cells #[.int .i64 a0_0, .slice (some ad109) l0_1.length c0_1] 24 (0, 0)) (by (with_reducible repeat (first |  refine zKn ?_ _|  refine zKd ?_|  refine zKa ?_ _)); exact BK108.out)) : gb108 ≠ gb110)); have NB110_108 := zMk ((by rw [hg]; exact Nat.ne_of_gt (blk_lt (g := gb108) (o := .cells #[.int .i64 a0_0, .slice (some ad109) l0_1.length c0_1] 24 (0, 0)) (by (with_reducible repeat (first |  refine zKn ?_ _|  refine zKd ?_|  refine zKa ?_ _)); exact BK108.out)) : gb110 ≠ gb108)); replace BK108 := zMk (zKb (g := gb108) (o := .cells #[.int .i64 a0_0, .slice (some ad109) l0_1.length c0_1] 24 (0, 0)) (by (with_reducible repeat (first |  refine zKn ?_ _|  refine zKd ?_|  refine zKa ?_ _)); exact BK108.out) hb); clear hb hbox hg; have hnb23 := NB110_108.out; have hnc23 := NB108_110.out; have hcz24_0 : w22.cell? ⟨gb110, 0, none⟩ = some (.int .i64 0) := (zKc BK110.out 0).trans rfl; have hcz24_1 : w22.cell? ⟨gb110, 1, none⟩ = some (.int .i64 0) := (zKc BK110.out 1).trans rfl; have hcz24_2 : w22.cell? ⟨gb110, 2, none⟩ = some (.int .i64 0) := (zKc BK110.out 2).trans rfl; have hfz24_0 := zKf BK110.out 0; have hfz24_1 := zKf BK110.out 1; have hfz24_2 := zKf BK110.out 2))
            go_ret2
            exact ⟨by first | rfl | (simp [errW_none, errW_some] <;> rfl) | (simp [*, errW_none, errW_some] <;> rfl), by exact uT HB.out⟩
      · rw [if_neg c9] at H
        exact absurd H (by simp)


def slices_Index_int_int.l0 : Nat → List Int → Int → Int → Int → Option (Int)
  | 0, _, _, _, _ => none
  | k + 1, x0, x1, x7, x8 => if x8 < x7 then (if 0 ≤ x8 then (if x8 < (x0.length : Int) then (if x1 = (rd x0 x8) then (some x8) else (slices_Index_int_int.l0 k x0 x1 x7 (wrap64 (x8 + 1)))) else (none)) else (none)) else (some (-1))
def slices_Index_int_int.f (k : Nat) (l0 : List Int) (a1 : Int) : Option (Int) := slices_Index_int_int.l0 k l0 a1 (l0.length : Int) 0
theorem slices_Index_int_int.calls (k : Nat) (A0 : Option Addr) (c0 : Nat) (l0 : List Int) (a1 : Int) (r : Int) (w : World) (hr0 : Kd.C (Kd.int .i64) w A0 l0.length l0) (hc0 : l0.length ≤ c0) (h : slices_Index_int_int.f k l0 a1 = some r) :
    Calls Try.prog 31 #[.slice A0 l0.length c0, .int .i64 a1] w fun e w' => e = .returned (.int .i64 r) ∧ Drawn0 w w' := by
  have HR0 := zMk hr0
  have HC0 := zMk hc0
  clear hr0 hc0
  have H : (slices_Index_int_int.l0 k l0 a1 (l0.length : Int) 0) = some r := h
  clear h
  have H' := zMk H
  clear H
  go_enter Try.func31, Try.ntmps31
  go_wp2
  go_loopg [8] k (fun kq v8 w' => ∃ (x8_1 : Int), v8 = .int .i64 x8_1 ∧ Aside0 (slices_Index_int_int.l0 kq l0 a1 (l0.length : Int) x8_1 = some r) ∧ Aside0 (kq ≤ k) ∧ Drawn0 w w')
  case atStart => exact ⟨(0), (by first | rfl | (simp; done) | (simp [*]; done)), H', ⟨Nat.le_refl _⟩, by repeat (first | exact Drawn0.refl _ | apply Drawn0.step)⟩
  clear H'
  obtain ⟨x8_1, rfl, HA, HK1, ⟨m1, rfl⟩⟩ := hrel
  rcases gk with _ | k1
  · exact absurd HA.out (by simp [slices_Index_int_int.l0])
  have H := HA.out
  clear HA
  simp only [slices_Index_int_int.l0] at H
  by_cases c3 : x8_1 < (l0.length : Int)
  · rw [if_pos c3] at H
    have c3b0 : decide (x8_1 < (l0.length : Int)) = true := decide_eq_true c3
    clear c3
    by_cases c4 : 0 ≤ x8_1
    rotate_left
    · rw [if_neg c4] at H; exact absurd H (by simp)
    rw [if_pos c4] at H
    have c4b0 : decide (0 ≤ x8_1) = true := decide_eq_true c4
    clear c4
    by_cases c5 : x8_1 < (l0.length : Int)
    rotate_left
    · rw [if_neg c5] at H; exact absurd H (by simp)
    rw [if_pos c5] at H
    have c5b0 : decide (x8_1 < (l0.length : Int)) = true := decide_eq_true c5
    clear c5
    by_cases c6 : a1 = (rd l0 x8_1)
    · rw [if_pos c6] at H
      have c6b0 : (a1 == (rd l0 x8_1)) = true := beq_iff_eq.mpr c6
      have c6b1 : (a1 != (rd l0 x8_1)) = false := bne_eq_false_iff_eq.mpr c6
      clear c6
      obtain rfl := zOi H
      have p111 : 0 ≤ (x8_1 : Int) := of_decide_eq_true (by assumption)
      have q111 : x8_1 < (l0.length : Int) := of_decide_eq_true (by assumption)
      obtain ⟨ad111, e111, hx111_0⟩ := zAi HR0.out x8_1 p111 q111
      cases e111
      replace p111 := eq_true p111
      replace q111 := eq_true q111
      go_wp2
      go_ret
      exact ⟨by first | rfl | (simp; done) | (simp [*]; done), by repeat (first | exact Drawn0.refl _ | apply Drawn0.step)⟩
    · rw [if_neg c6] at H
      have c6b0 : (a1 == (rd l0 x8_1)) = false := beq_eq_false_iff_ne.mpr c6
      have c6b1 : (a1 != (rd l0 x8_1)) = true := bne_iff_ne.mpr c6
      have H' := zMk H
      clear H
      have p111 : 0 ≤ (x8_1 : Int) := of_decide_eq_true (by assumption)
      have q111 : x8_1 < (l0.length : Int) := of_decide_eq_true (by assumption)
      obtain ⟨ad111, e111, hx111_0⟩ := zAi HR0.out x8_1 p111 q111
      cases e111
      replace p111 := eq_true p111
      replace q111 := eq_true q111
      go_wp2
      go_roundg k1
      case measure => have := HK1.out; omega
      case rel => exact ⟨(wrap64 (x8_1 + 1)), (by first | rfl | (simp; done) | (simp [*]; done)), H', ⟨by have := HK1.out; omega⟩, by repeat (first | exact Drawn0.refl _ | apply Drawn0.step)⟩
  · rw [if_neg c3] at H
    have c3b0 : decide (x8_1 < (l0.length : Int)) = false := decide_eq_false c3
    clear c3
    obtain rfl := zOi H
    go_wp2
    go_ret
    exact ⟨by first | rfl | (simp; done) | (simp [*]; done), by repeat (first | exact Drawn0.refl _ | apply Drawn0.step)⟩


def slices_Contains_int_int.f (k : Nat) (l0 : List Int) (a1 : Int) : Option (Bool) := (slices_Index_int_int.f k l0 a1).bind fun t112 => (some (decide (t112 ≥ 0)))
theorem slices_Contains_int_int.calls (k : Nat) (A0 : Option Addr) (c0 : Nat) (l0 : List Int) (a1 : Int) (r : Bool) (w : World) (hr0 : Kd.C (Kd.int .i64) w A0 l0.length l0) (hc0 : l0.length ≤ c0) (h : slices_Contains_int_int.f k l0 a1 = some r) :
    Calls Try.prog 26 #[.slice A0 l0.length c0, .int .i64 a1] w fun e w' => e = .returned (.bool r) ∧ Drawn0 w w' := by
  have HR0 := zMk hr0
  have HC0 := zMk hc0
  clear hr0 hc0
  have H : ((slices_Index_int_int.f k l0 a1).bind fun t112 => (some (decide (t112 ≥ 0)))) = some r := h
  clear h
  replace H := bnd H
  obtain ⟨t112, A30, H⟩ := H
  have A3 := zMk A30
  clear A30
  obtain rfl := zOi H
  go_enter Try.func26, Try.ntmps26
  go_wp2_with (first | ((with_reducible refine gate_callee (f := 31) rfl ?_); refine goesL_ (some 7) rfl rfl Try.func31 (by kernel_rfl) rfl #[.slice A0 l0.length c0, .int .i64 a1] rfl (by (try simp only [zMa, zMc, zMn]); first | done | rfl | (simp only [zLd, zLt]; rfl)) ?_; (with_reducible refine (slices_Index_int_int.calls k _ _ l0 a1 t112 _ ?side1 ?side2 A3.out).mono ?_); (case side1 => repeat (first | exact HR0.out | (with_reducible refine zCa ?_ _) | (with_reducible refine zCn ?_ _) | (with_reducible refine zCd ?_))); (case side2 => exact HC0.out); rintro e w' ⟨rfl, ⟨nd, rfl⟩⟩; refine ⟨_, rfl, ?_⟩))
  go_ret
  exact ⟨by first | rfl | (simp; done) | (simp [*]; done), by repeat (first | exact Drawn0.refl _ | apply Drawn0.step)⟩

end Go.Proofs.Ytnigaojboililaa.A
