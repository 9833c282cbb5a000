/- Lemmas for the statement: the walks of the functions that it reaches, and plain laws. -/
import Derived.Test.YtihlelniaiadgaaDoorEt1
import Derived.Test.YtihlelniaiadgaaDoorEt2
import Derived.Lib.ItoaNum
import Derived.Lib.Repeat
import Derived.Lib.Join
set_option linter.unusedVariables false
set_option linter.unusedSimpArgs false
namespace Go.Proofs.YtihlelniaiadgaaDoor.E
open Go Go.RowKit Go.Proofs.YtihlelniaiadgaaDoorW.PrintWords Go.Proofs.YtihlelniaiadgaaDoorW.PrintLast Go.Proofs.YtihlelniaiadgaaDoorW.PrintMore
attribute [local go_sem] max2_int min2_int max_two min_two max_three min_three max_four min_four
open Go.Proofs.YtihlelniaiadgaaDoorW.PrintWords.Kd renaming R_alloc → zRa, R_drewN → zRn, R_drew → zRd, V_alloc → zVa, V_drewN → zVn, V_drew → zVd, V_below → zVb, C_alloc → zCa, C_drewN → zCn, C_drew → zCd, R_mono → zRm, V_mono → zVm, at_int → zAi
open Go.Proofs.YtihlelniaiadgaaDoorW.PrintWords renaming pw_below_drewN → zBn, below_alloc → zBa, below_drew1 → zBd, below_size → zBs, below_step → zBt
open List renaming setIfInBounds_toArray → zSa, set_cons_zero → zSb, set_cons_succ → zSc, length_drop → zLd, length_take → zLt
open Go.Proofs.YtihlelniaiadgaaDoorW.PrintWords.Aside0 renaming mk → zMk
open Option renaming bind_eq_some_iff → zBi, bind_some → zOb
open Option.some renaming inj → zOi
open Int renaming toNat_natCast → zTn

/-! ### r1_limbs: function 45 -/
def r1_limbs.l0 : Nat → List Int → List Int → Int → Option (List Int)
  | 0, _, _, _ => none
  | k + 1, x0, x3, x4 => if x4 < (x0.length : Int) then (if 0 ≤ (wrap64 (Int.tdiv x4 32)) then (if (wrap64 (Int.tdiv x4 32)) < (x3.length : Int) then (if 0 ≤ x4 then (if 0 ≤ (IntKind.u64.wrap (Int.tmod x4 32)) then (r1_limbs.l0 k x0 (x3.set ((wrap64 (Int.tdiv x4 32)) : Int).toNat (Go.bits .or .u32 (rd x3 (wrap64 (Int.tdiv x4 32))) (shl .u32 ((rd x0 x4) % 4294967296) (IntKind.u64.wrap (Int.tmod x4 32))))) (wrap64 (x4 + 1))) else (none)) else (none)) else (none)) else (none)) else ((r1_Norm.f k x3).bind fun t485 => (some t485))
def r1_limbs.f (k : Nat) (l0 : List Int) : Option (List Int) := if 0 ≤ (wrap64 (Int.tdiv (wrap64 ((l0.length : Int) + 31)) 32)) then (if (wrap64 (Int.tdiv (wrap64 ((l0.length : Int) + 31)) 32) : Int).toNat ≤ 70368744177664 then (r1_limbs.l0 k l0 (List.replicate (wrap64 (Int.tdiv (wrap64 ((l0.length : Int) + 31)) 32) : Int).toNat 0) 0) else (none)) else (none)
def r1_limbs.T5 : Bool × List (List Nat × List Nat) := (true, [([], []), ([], []), ([1], [1]), ([], []), ([], []), ([4], [4]), ([3, 5], [3, 5]), ([6], [6]), ([], []), ([], []), ([8, 9], [8, 9]), ([10], [10]), ([11], [11]), ([], []), ([13], [13]), ([14], [14]), ([12, 15], [12, 15]), ([7, 16], [7, 16]), ([0, 2, 0, 1, 2, 3, 4, 5, 6, 7, 8, 9, 10, 11, 12, 13, 14, 15, 16, 17], [0, 2]), ([18, 17, 0, 1, 2, 3, 4, 5, 6, 7, 8, 9, 10, 11, 12, 13, 14, 15, 16, 17], [17, 18])])
def r1_limbs.B5 : List Nat := [0, 0, 2, 0, 0, 16, 56, 120, 0, 0, 768, 1792, 3840, 0, 8192, 24576, 65280, 131064, 262143, 524287]
theorem r1_limbs.tab5 : rtab .any (opsOf Tryd.f45 5) = r1_limbs.T5 := by kernel_rfl
theorem r1_limbs.bits5 : waitsOk r1_limbs.T5.2 r1_limbs.B5 = true := by kernel_rfl
set_option maxHeartbeats 8000000 in
set_option maxRecDepth 100000 in
theorem r1_limbs.calls (k : Nat) (A0 : Option Addr) (c0 : Nat) (l0 : List Int) (r : List Int) (w : World) (hr0 : Kd.C (Kd.int .u8) w A0 l0.length l0) (hc0 : l0.length ≤ c0) (h : r1_limbs.f k l0 = some r) :
    Calls Tryd.prog 45 #[.slice A0 l0.length c0] w fun e w' => ∃ v0_ : Value, e = .returned (v0_) ∧ Kd.R (Kd.int .u32) 36 w' w.heap.size (fun _ => True) v0_ r ∧ Below w.heap.size w w' := by
  have HR0 := zMk hr0
  have HC0 := zMk hc0
  clear hr0 hc0
  have HB := zMk (Below.refl w.heap.size w)
  have H : (if 0 ≤ (wrap64 (Int.tdiv (wrap64 ((l0.length : Int) + 31)) 32)) then (if (wrap64 (Int.tdiv (wrap64 ((l0.length : Int) + 31)) 32) : Int).toNat ≤ 70368744177664 then (r1_limbs.l0 k l0 (List.replicate (wrap64 (Int.tdiv (wrap64 ((l0.length : Int) + 31)) 32) : Int).toNat 0) 0) else (none)) else (none)) = some r := h
  clear h
  obtain ⟨ji2, hji2⟩ : ∃ j_ : Int, (wrap64 (Int.tdiv (wrap64 ((l0.length : Int) + 31)) 32)) = j_ := ⟨_, rfl⟩
  replace H : (if 0 ≤ (ji2) then (if (ji2 : Int).toNat ≤ 70368744177664 then (r1_limbs.l0 k l0 (List.replicate (ji2 : Int).toNat 0) 0) else (none)) else (none)) = some r := by first | (rw [hji2] at H; exact H) | (simp only [hji2] at H ⊢; exact H)
  have hji2w : (IntKind.i64.wrap (Int.tdiv (wrap64 ((l0.length : Int) + 31)) 32)) = ji2 := (i64_w _).trans hji2
  by_cases c3 : 0 ≤ (ji2)
  · rw [if_pos c3] at H
    have c3b0 := eq_true c3
    have c3b1 : decide (0 ≤ (ji2)) = true := decide_eq_true c3
    clear c3
    by_cases c4 : (ji2 : Int).toNat ≤ 70368744177664
    rotate_left
    · rw [if_neg c4] at H; exact absurd H (by simp)
    rw [if_pos c4] at H
    have c4b0 := eq_true c4
    have c4b1 : decide ((ji2 : Int).toNat ≤ 70368744177664) = true := decide_eq_true c4
    clear c4
    obtain ⟨y479, hy479⟩ : ∃ y_ : List Int, y_ = (List.replicate (ji2 : Int).toNat 0) := ⟨_, rfl⟩
    replace H : (r1_limbs.l0 k l0 y479 0) = some r := by first | (rw [hy479]; with_reducible exact H) | (have H2_ := (zOb _ _).symm.trans H; rw [hy479]; with_reducible exact H2_) | (have H2_ := (zOb _ _).symm.trans H; with_reducible exact H2_) | with_reducible exact H | (rw [hy479]; exact H) | exact H
    have Ny479 := zMk hy479
    clear hy479
    have H' := zMk H
    clear H
    go_enter Tryd.func45, Tryd.ntmps45
    go_wp2_with (first | ((with_reducible refine gate_dst (N := 9) rfl ?_); refine Kd.R_make (Kd.int .u32) _ 36 rfl (N := 9) rfl 23 _ _ rfl ji2 rfl rfl Tryd.underlying23 (.int .u32 0) 4 info36 rfl (by decide) (by omega) 0 (ok := fun _ => True) (okp := fun _ => True) rfl (fun _ hk => hk) trivial (of_decide_eq_true (by first | (with_reducible assumption) | assumption)) (Nat.le_trans (Nat.mul_le_mul_right _ (of_decide_eq_true (by first | (with_reducible assumption) | assumption) : ji2.toNat ≤ 70368744177664)) (by omega)) (Below.refl _ _) (Nat.le_refl _) ?_; intro v480 w5 ho6 hb hg_ hnew_; clear hg_ hnew_; (first | rw [← Ny479.out] at ho6 | (simp only [Int.reduceToNat] at ho6; rw [← Ny479.out] at ho6)); have n0_ := zMk (Kd.R_lower ho6 (zBs (by repeat (first | (with_reducible first | exact HB.out | apply zBa | apply zBn | apply zBd) | exact HB.out)))); have n1_ := zMk (zBt (by repeat (first | (with_reducible first | exact HB.out | apply zBa | apply zBn | apply zBd) | exact HB.out)) hb); clear HB; have HO481 := n0_; have HB := n1_; clear n0_ n1_; clear hb ho6))
    go_loopg [4] k (fun kq v4 w' => ∃ (x3_1 : List Int) (x4_1 : Int), v4 = .int .i64 x4_1 ∧ Aside0 (r1_limbs.l0 kq l0 x3_1 x4_1 = some r) ∧ Aside0 (kq ≤ k) ∧ Aside0 (Kd.R (Kd.int .u32) 36 w' w.heap.size (fun _ => True) v480 x3_1) ∧ Aside0 (Below w.heap.size w w'))
    case atStart => exact ⟨(y479), (0), (by first | rfl | (simp; done) | (simp [*]; done)), H', ⟨Nat.le_refl _⟩, ⟨by (with_reducible repeat (first | apply zRa | apply zRn | apply zRd)); exact HO481.out⟩, ⟨by repeat (first | (with_reducible first | exact HB.out | apply zBa | apply zBn | apply zBd) | exact HB.out)⟩⟩
    clear H'
    obtain ⟨x3_1, x4_1, rfl, HA, HK1, HO_3, HB⟩ := hrel
    rcases gk with _ | k1
    · exact absurd HA.out (by simp [r1_limbs.l0])
    have H := HA.out
    clear HA
    simp only [r1_limbs.l0] at H
    by_cases c7 : x4_1 < (l0.length : Int)
    · rw [if_pos c7] at H
      have c7b0 : decide (x4_1 < (l0.length : Int)) = true := decide_eq_true c7
      clear c7
      obtain ⟨ji8, hji8⟩ : ∃ j_ : Int, (wrap64 (Int.tdiv x4_1 32)) = j_ := ⟨_, rfl⟩
      replace H : (if 0 ≤ (ji8) then (if (ji8) < (x3_1.length : Int) then (if 0 ≤ x4_1 then (if 0 ≤ (IntKind.u64.wrap (Int.tmod x4_1 32)) then (r1_limbs.l0 k1 l0 (x3_1.set ((ji8) : Int).toNat (Go.bits .or .u32 (rd x3_1 (ji8)) (shl .u32 ((rd l0 x4_1) % 4294967296) (IntKind.u64.wrap (Int.tmod x4_1 32))))) (wrap64 (x4_1 + 1))) else (none)) else (none)) else (none)) else (none)) = some r := by first | (rw [hji8] at H; exact H) | (simp only [hji8] at H ⊢; exact H)
      have hji8w : (IntKind.i64.wrap (Int.tdiv x4_1 32)) = ji8 := (i64_w _).trans hji8
      by_cases c9 : 0 ≤ (ji8)
      rotate_left
      · rw [if_neg c9] at H; exact absurd H (by simp)
      rw [if_pos c9] at H
      have c9b0 : decide (0 ≤ (ji8)) = true := decide_eq_true c9
      clear c9
      by_cases c10 : (ji8) < (x3_1.length : Int)
      rotate_left
      · rw [if_neg c10] at H; exact absurd H (by simp)
      rw [if_pos c10] at H
      have c10b0 : decide ((ji8) < (x3_1.length : Int)) = true := decide_eq_true c10
      clear c10
      by_cases c11 : 0 ≤ x4_1
      rotate_left
      · rw [if_neg c11] at H; exact absurd H (by simp)
      rw [if_pos c11] at H
      have c11b0 : decide (0 ≤ x4_1) = true := decide_eq_true c11
      clear c11
      obtain ⟨ji12, hji12⟩ : ∃ j_ : Int, (IntKind.u64.wrap (Int.tmod x4_1 32)) = j_ := ⟨_, rfl⟩
      replace H : (if 0 ≤ (ji12) then (r1_limbs.l0 k1 l0 (x3_1.set ((ji8) : Int).toNat (Go.bits .or .u32 (rd x3_1 (ji8)) (shl .u32 ((rd l0 x4_1) % 4294967296) (ji12)))) (wrap64 (x4_1 + 1))) else (none)) = some r := by first | (rw [hji12] at H; exact H) | (simp only [hji12] at H ⊢; exact H)
      by_cases c13 : 0 ≤ (ji12)
      rotate_left
      · rw [if_neg c13] at H; exact absurd H (by simp)
      rw [if_pos c13] at H
      have c13b0 := eq_true c13
      have c13b1 : decide (0 ≤ (ji12)) = true := decide_eq_true c13
      clear c13
      obtain ⟨ji14, hji14⟩ : ∃ j_ : Int, (shl .u32 ((rd l0 x4_1) % 4294967296) (ji12)) = j_ := ⟨_, rfl⟩
      replace H : (r1_limbs.l0 k1 l0 (x3_1.set ((ji8) : Int).toNat (Go.bits .or .u32 (rd x3_1 (ji8)) (ji14))) (wrap64 (x4_1 + 1))) = some r := by first | (rw [hji14] at H; exact H) | (simp only [hji14] at H ⊢; exact H)
      have hji14_ : (IntKind.u32.wrap (((rd l0 x4_1) % 4294967296) * 2 ^ min (ji12).toNat 32)) = ji14 := hji14
      have hji14m : ((((rd l0 x4_1) % 4294967296) * 2 ^ min (ji12).toNat 32) % 4294967296) = ji14 := hji14_
      have hji14z : (ji12) ≤ 32 → (IntKind.u32.wrap (((rd l0 x4_1) % 4294967296) * 2 ^ (ji12).toNat)) = ji14 := shl_small hji14
      obtain ⟨y484, hy484⟩ : ∃ y_ : List Int, y_ = (x3_1.set ((ji8) : Int).toNat (Go.bits .or .u32 (rd x3_1 (ji8)) (ji14))) := ⟨_, rfl⟩
      replace H : (r1_limbs.l0 k1 l0 y484 (wrap64 (x4_1 + 1))) = some r := by first | (rw [hy484]; with_reducible exact H) | (have H2_ := (zOb _ _).symm.trans H; rw [hy484]; with_reducible exact H2_) | (have H2_ := (zOb _ _).symm.trans H; with_reducible exact H2_) | with_reducible exact H | (rw [hy484]; exact H) | exact H
      have Ny484 := zMk hy484
      clear hy484
      have H' := zMk H
      clear H
      try go_wp2
      have n0_ := zMk (zRd HO_3.out)
      have n1_ := zMk (zBd HB.out)
      clear HO_3
      clear HB
      have HO_3 := n0_
      have HB := n1_
      clear n0_ n1_
      obtain ⟨Ao17, co17, eo17⟩ := Kd.R_slice HO_3.out
      (first | subst eo17 | (injection eo17 with f1_ f2_ f3_; have f4_ := f1_.symm; have f5_ := f3_.symm; clear f1_ f2_ f3_; subst f4_; subst f5_))
      have p482 : 0 ≤ ((ji8) : Int) := of_decide_eq_true (by first | (with_reducible assumption) | assumption)
      have q482 : (ji8) < (x3_1.length : Int) := of_decide_eq_true (by first | (with_reducible assumption) | assumption)
      obtain ⟨ad482, e482, hx482_0⟩ := zAi (Kd.R_reads' HO_3.out).2.2 (ji8) p482 q482
      cases e482
      replace p482 := eq_true p482
      replace q482 := eq_true q482
      have p483 : 0 ≤ (x4_1 : Int) := of_decide_eq_true (by first | (with_reducible assumption) | assumption)
      have q483 : x4_1 < (l0.length : Int) := of_decide_eq_true (by first | (with_reducible assumption) | assumption)
      obtain ⟨ad483, e483, hx483_0⟩ := zAi HR0.out x4_1 p483 q483
      have hw483_0 := hx483_0
      cases e483
      replace hx483_0 := (HB.out.cell (World.block_lt_of_cell? w _ hx483_0)).trans hx483_0
      replace p483 := eq_true p483
      replace q483 := eq_true q483
      have p15 : 0 ≤ ((ji8) : Int) := of_decide_eq_true (by first | (with_reducible assumption) | assumption)
      have q15 : ((ji8) : Int) < ((x3_1.length : Int) : Int) := of_decide_eq_true (by first | (with_reducible assumption) | assumption)
      obtain ⟨go15, co15, eo15, gb15, gl15, cl15, HG15⟩ := Kd.R_form HO_3.out (by omega)
      (first | cases eo15 | (injection eo15 with ea_ en_ ec_; (first | subst ea_ | (injection ea_ with ea_; subst ea_)); subst ec_; clear en_))
      have GB15 := zMk gb15
      have GG15 := zMk HG15
      clear gb15 gl15 HG15
      (first | simp only [add_plain] at hx482_0 | skip)
      obtain ⟨hx15_0, hf15_0⟩ := Kd.R_celln 0 HO_3.out ((ji8) : Int) p15 q15
      replace p15 := eq_true p15
      replace q15 := eq_true q15
      have HP18 := Kd.R_putn HO_3.out ((ji8) : Int) (Go.bits .or .u32 (rd x3_1 (ji8)) (ji14))
      rw [← Ny484.out] at HP18
      have HQ18 := zMk HP18
      clear HP18
      refine start_ (n := 20) (S := fun w' => w'.cell? ⟨go15, ((ji8)).toNat, none⟩ = some (.int .u32 (rd x3_1 (ji8))) ∧ w'.cell? (ad483.add (x4_1).toNat) = some (.int .u8 (rd l0 x4_1))) (ds := [19]) #[false, false, false, false, false, false, false, false, false, false, false, false, false, false, false, false, false, false, false, false] (by kernel_rfl) rfl rfl ⟨hx482_0, ((HB.out.cell (World.block_lt_of_cell? w _ hw483_0)).trans hw483_0)⟩ (fun hHeld => ?_); refine with_tabW r1_limbs.tab5 r1_limbs.bits5 (fun HT_ HW_ => ?_)
      generalize wr.drew = w16 at HO_3 HB GG15 HQ18 hf15_0 hx15_0 hx482_0 hx483_0 hHeld ⊢
      refine pure_ (i := 0) (N := some 16) (v := ?_) (a' := ?_) #[true, false, false, false, false, false, false, false, false, false, false, false, false, false, false, false, false, false, false, false] rfl rfl (any_of HT_.out (by kernel_rfl)) (fun _ _ _ h => h) (Or.inl ⟨by rfl, ?_⟩) ?_ ?_
      rotate_left
      · intro w'
        go_simp
        with_reducible rfl
      rotate_left
      · simp only [Act.put, zSa, zSb, zSc, i64_w, i32_w]
        rfl
      refine pure_ (i := 1) (N := some 17) (v := ?_) (a' := ?_) #[true, true, false, false, false, false, false, false, false, false, false, false, false, false, false, false, false, false, false, false] rfl rfl (any_of HT_.out (by kernel_rfl)) (fun _ _ _ h => h) (Or.inl ⟨by rfl, ?_⟩) ?_ ?_
      rotate_left
      · intro w'
        go_simp
        with_reducible rfl
      rotate_left
      · simp only [Act.put, zSa, zSb, zSc, i64_w, i32_w]
        rfl
      refine pure_ (i := 2) (N := some 18) (v := ?_) (a' := ?_) #[true, true, true, false, false, false, false, false, false, false, false, false, false, false, false, false, false, false, false, false] rfl rfl (any_of HT_.out (by kernel_rfl)) (fun _ _ _ h => h) (Or.inl ⟨by rfl, ?_⟩) ?_ ?_
      rotate_left
      · intro w'
        go_simp
        with_reducible rfl
      rotate_left
      · simp only [Act.put, zSa, zSb, zSc, i64_w, i32_w]
        rfl
      refine pure_ (i := 3) (N := some 19) (v := ?_) (a' := ?_) #[true, true, true, true, false, false, false, false, false, false, false, false, false, false, false, false, false, false, false, false] rfl rfl (any_of HT_.out (by kernel_rfl)) (fun _ _ _ h => h) (Or.inl ⟨by rfl, ?_⟩) ?_ ?_
      rotate_left
      · intro w'
        go_simp
        with_reducible rfl
      rotate_left
      · simp only [Act.put, zSa, zSb, zSc, i64_w, i32_w]
        rfl
      refine pure_ (i := 4) (N := some 20) (v := ?_) (a' := ?_) #[true, true, true, true, true, false, false, false, false, false, false, false, false, false, false, false, false, false, false, false] rfl rfl (any_of HT_.out (by kernel_rfl)) (fun _ _ _ h => h) (Or.inl ⟨by rfl, ?_⟩) ?_ ?_
      rotate_left
      · intro w'
        go_simp
        with_reducible rfl
      rotate_left
      · simp only [Act.put, zSa, zSb, zSc, i64_w, i32_w]
        rfl
      refine pure_ (i := 5) (N := some 21) (v := ?_) (a' := ?_) #[true, true, true, true, true, true, false, false, false, false, false, false, false, false, false, false, false, false, false, false] rfl rfl (any_of HT_.out (by kernel_rfl)) (fun _ _ _ h => h) (Or.inl ⟨by rfl, ?_⟩) ?_ ?_
      rotate_left
      · intro w'
        go_simp
        with_reducible rfl
      rotate_left
      · simp only [Act.put, zSa, zSb, zSc, i64_w, i32_w]
        rfl
      refine pure_ (i := 6) (N := some 22) (v := ?_) (a' := ?_) #[true, true, true, true, true, true, true, false, false, false, false, false, false, false, false, false, false, false, false, false] rfl rfl (any_of HT_.out (by kernel_rfl)) (fun _ _ _ h => h) (Or.inl ⟨by rfl, ?_⟩) ?_ ?_
      rotate_left
      · intro w'
        go_simp
        with_reducible rfl
      rotate_left
      · simp only [Act.put, zSa, zSb, zSc, i64_w, i32_w]
        rfl
      refine pure_ (i := 8) (N := some 24) (v := ?_) (a' := ?_) #[true, true, true, true, true, true, true, false, true, false, false, false, false, false, false, false, false, false, false, false] rfl rfl (any_of HT_.out (by kernel_rfl)) (fun _ _ _ h => h) (Or.inl ⟨by rfl, ?_⟩) ?_ ?_
      rotate_left
      · intro w'
        go_simp
        with_reducible rfl
      rotate_left
      · simp only [Act.put, zSa, zSb, zSc, i64_w, i32_w]
        rfl
      refine pure_ (i := 9) (N := some 25) (v := ?_) (a' := ?_) #[true, true, true, true, true, true, true, false, true, true, false, false, false, false, false, false, false, false, false, false] rfl rfl (any_of HT_.out (by kernel_rfl)) (fun _ _ _ h => h) (Or.inl ⟨by rfl, ?_⟩) ?_ ?_
      rotate_left
      · intro w'
        go_simp
        with_reducible rfl
      rotate_left
      · simp only [Act.put, zSa, zSb, zSc, i64_w, i32_w]
        rfl
      refine pure_ (i := 10) (N := some 26) (v := ?_) (a' := ?_) #[true, true, true, true, true, true, true, false, true, true, true, false, false, false, false, false, false, false, false, false] rfl rfl (any_of HT_.out (by kernel_rfl)) (fun _ _ _ h => h) (Or.inl ⟨by rfl, ?_⟩) ?_ ?_
      rotate_left
      · intro w'
        go_simp
        with_reducible rfl
      rotate_left
      · simp only [Act.put, zSa, zSb, zSc, i64_w, i32_w]
        rfl
      refine pure_ (i := 13) (N := some 29) (v := ?_) (a' := ?_) #[true, true, true, true, true, true, true, false, true, true, true, false, false, true, false, false, false, false, false, false] rfl rfl (any_of HT_.out (by kernel_rfl)) (fun _ _ _ h => h) (Or.inl ⟨by rfl, ?_⟩) ?_ ?_
      rotate_left
      · intro w'
        go_simp
        with_reducible rfl
      rotate_left
      · simp only [Act.put, zSa, zSb, zSc, i64_w, i32_w]
        rfl
      refine pure_ (i := 14) (N := some 30) (v := ?_) (a' := ?_) #[true, true, true, true, true, true, true, false, true, true, true, false, false, true, true, false, false, false, false, false] rfl rfl (any_of HT_.out (by kernel_rfl)) (fun _ _ _ h => h) (Or.inl ⟨by rfl, ?_⟩) ?_ ?_
      rotate_left
      · intro w'
        go_simp
        with_reducible rfl
      rotate_left
      · simp only [Act.put, zSa, zSb, zSc, i64_w, i32_w]
        rfl
      refine pure_ (i := 15) (N := some 31) (v := ?_) (a' := ?_) #[true, true, true, true, true, true, true, false, true, true, true, false, false, true, true, true, false, false, false, false] rfl rfl (any_of HT_.out (by kernel_rfl)) (fun _ _ _ h => h) (Or.inl ⟨by rfl, ?_⟩) ?_ ?_
      rotate_left
      · intro w'
        go_simp
        with_reducible rfl
      rotate_left
      · simp only [Act.put, zSa, zSb, zSc, i64_w, i32_w]
        rfl
      refine take_ (i := 7) (N := some 23) (v := ?_) (a' := ?_) #[true, true, true, true, true, true, true, true, true, true, true, false, false, true, true, true, false, false, false, false] rfl rfl (take_ofW HT_.out HW_.out (by kernel_rfl)) (fun _ _ _ h => h) (Or.inl ⟨by rfl, ?_⟩) hHeld ?_ ?_
      rotate_left
      · rintro w' ⟨s0, s1⟩
        go_simp
        with_reducible rfl
      rotate_left
      · simp only [Act.put, zSa, zSb, zSc, i64_w, i32_w]
        rfl
      refine take_ (i := 11) (N := some 27) (v := ?_) (a' := ?_) #[true, true, true, true, true, true, true, true, true, true, true, true, false, true, true, true, false, false, false, false] rfl rfl (take_ofW HT_.out HW_.out (by kernel_rfl)) (fun _ _ _ h => h) (Or.inl ⟨by rfl, ?_⟩) hHeld ?_ ?_
      rotate_left
      · rintro w' ⟨s0, s1⟩
        go_simp
        with_reducible rfl
      rotate_left
      · simp only [Act.put, zSa, zSb, zSc, i64_w, i32_w]
        rfl
      refine pure_ (i := 12) (N := some 28) (v := ?_) (a' := ?_) #[true, true, true, true, true, true, true, true, true, true, true, true, true, true, true, true, false, false, false, false] rfl rfl (any_of HT_.out (by kernel_rfl)) (fun _ _ _ h => h) (Or.inl ⟨by rfl, ?_⟩) ?_ ?_
      rotate_left
      · intro w'
        go_simp
        with_reducible rfl
      rotate_left
      · simp only [Act.put, zSa, zSb, zSc, i64_w, i32_w]
        rfl
      refine pure_ (i := 16) (N := some 32) (v := ?_) (a' := ?_) #[true, true, true, true, true, true, true, true, true, true, true, true, true, true, true, true, true, false, false, false] rfl rfl (any_of HT_.out (by kernel_rfl)) (fun _ _ _ h => h) (Or.inl ⟨by rfl, ?_⟩) ?_ ?_
      rotate_left
      · intro w'
        go_simp
        with_reducible rfl
      rotate_left
      · simp only [Act.put, zSa, zSb, zSc, i64_w, i32_w]
        rfl
      refine pure_ (i := 17) (N := some 33) (v := ?_) (a' := ?_) #[true, true, true, true, true, true, true, true, true, true, true, true, true, true, true, true, true, true, false, false] rfl rfl (any_of HT_.out (by kernel_rfl)) (fun _ _ _ h => h) (Or.inl ⟨by rfl, ?_⟩) ?_ ?_
      rotate_left
      · intro w'
        go_simp
        with_reducible rfl
      rotate_left
      · simp only [Act.put, zSa, zSb, zSc, i64_w, i32_w]
        rfl
      refine pure_ (i := 18) (N := some 34) (v := ?_) (a' := ?_) #[true, true, true, true, true, true, true, true, true, true, true, true, true, true, true, true, true, true, true, false] rfl rfl (any_of HT_.out (by kernel_rfl)) (fun _ _ _ h => h) (Or.inl ⟨by rfl, ?_⟩) ?_ ?_
      rotate_left
      · intro w'
        go_simp
        with_reducible rfl
      rotate_left
      · simp only [Act.put, zSa, zSb, zSc, i64_w, i32_w]
        rfl
      refine last_ (i := 19) (N := none) #[true, true, true, true, true, true, true, true, true, true, true, true, true, true, true, true, true, true, true, true] rfl rfl (one_of HT_.out (by kernel_rfl)) (by decide) (fun K hK => ?_)
      refine skip_ (w1 := ?_) (by rfl) rfl ?_ ?_
      rotate_left
      · go_simp
        rfl
      refine hK.out _ _ ?_
      clear hK K
      refine done_ (done_of HT_.out (by kernel_rfl)) ?_
      try go_wp2
      go_roundg k1
      case measure => have := HK1.out; omega
      case rel => exact ⟨(y484), (wrap64 (x4_1 + 1)), (by first | rfl | (simp; done) | (simp [*]; done)), H', ⟨by have := HK1.out; omega⟩, ⟨by (with_reducible repeat (first | apply zRa | apply zRn | apply zRd)); (first | exact HQ18.out | (rw [hji14m]; exact HQ18.out))⟩, ⟨by repeat (first | (with_reducible first | exact HB.out | apply zBa | apply zBn | apply zBd | refine below_set ?_ GB15.out) | exact HB.out)⟩⟩
    · rw [if_neg c7] at H
      have c7b0 : decide (x4_1 < (l0.length : Int)) = false := decide_eq_false c7
      clear c7
      replace H := Option.bind_eq_some_iff.mp H
      obtain ⟨t485, A190, H⟩ := H
      have A19 := zMk A190
      clear A190
      obtain rfl := zOi H
      obtain ⟨Ao20, co20, eo20⟩ := Kd.R_slice HO_3.out
      subst eo20
      go_wp2_with (first | ((with_reducible refine gate_callee (f := 20) rfl ?_); refine goesL_ (some 36) rfl rfl Tryd.func20 (by kernel_rfl) rfl #[.slice Ao20 x3_1.length co20] rfl (by (try simp only [List.map_toArray, List.map_cons, List.map_nil]); first | done | rfl | (simp only [zLd, zLt]; rfl)) ?_; (with_reducible refine (r1_Norm.calls k1 _ _ x3_1 t485 _ ?side1 ?side2 A19.out).mono ?_); (case side1 => repeat (first | exact (Kd.R_reads' HO_3.out).2.2 | (with_reducible refine zCa ?_ _) | (with_reducible refine zCn ?_ _) | (with_reducible refine zCd ?_))); (case side2 => exact (Kd.R_reads' HO_3.out).2.1); rintro e w21 ⟨v486, rfl, ho0, hb⟩; refine ⟨_, rfl, ?_⟩; have n0_ := zMk (Kd.R_elder' (by (with_reducible repeat (first | apply zRa | apply zRn | apply zRd)); exact HO_3.out) (Kd.R_base ho0) hb); have n1_ := zMk (Kd.R_lower (Kd.R_new' ho0 (Kd.R_lt (by (with_reducible repeat (first | apply zRa | apply zRn | apply zRd)); exact HO_3.out))) (zBs (by repeat (first | (with_reducible first | exact HB.out | apply zBa | apply zBn | apply zBd) | exact HB.out)))); have n2_ := zMk (zBt (by repeat (first | (with_reducible first | exact HB.out | apply zBa | apply zBn | apply zBd) | exact HB.out)) hb); clear HO_3; clear HB; have HO_3 := n0_; have HO487 := n1_; have HB := n2_; clear n0_ n1_ n2_; (try clear hb); (try clear hb2); (try clear hk); (try clear hi); (try clear ho0)))
      go_ret
      exact ⟨_, by first | rfl | (simp [errW_none, errW_some] <;> rfl) | (simp only [← hji2]; first | rfl | (simp [errW_none, errW_some] <;> rfl)) | (simp [*, errW_none, errW_some] <;> rfl), by (with_reducible repeat (first | apply zRa | apply zRn | apply zRd)); exact zRm HO487.out (fun _ hk => trivial), by repeat (first | (with_reducible first | exact HB.out | apply zBa | apply zBn | apply zBd) | exact HB.out)⟩
  · rw [if_neg c3] at H
    exact absurd H (by simp)

/- The plain laws of the document's answer over bits: sums, limbs again, the product. -/
theorem bval_nil : bval [] = 0 := rfl
theorem bval_one (x : Int) : bval [x] = x := by simp [bval]
/- limbs of bits -/
theorem shl_u32 (b : Int) (hb : b = 0 ∨ b = 1) (i : Nat) (h : i < 32) : shl .u32 (b % 4294967296) (i : Int) = b * 2 ^ i := by
  unfold shl
  rw [show min ((i : Int)).toNat (IntKind.bits .u32) = i from by rw [zTn]; exact Nat.min_eq_left (Nat.le_of_lt h)]
  have hp : (0 : Int) < 2 ^ i := Int.pow_pos (by decide)
  have hp2 : (2 : Int) ^ i ≤ 2 ^ 31 := by
    have := Nat.pow_le_pow_right (show 0 < 2 by decide) (show i ≤ 31 by omega)
    exact_mod_cast this
  rcases hb with rfl | rfl
  · simp; rfl
  · rw [show (1 : Int) % 4294967296 = 1 from rfl, Int.one_mul, wraps_u32 _ (by omega) (by omega)]
theorem or_low (x b : Int) (i : Nat) (hi : i < 32) (hx : 0 ≤ x) (hx2 : x < 2 ^ i) (hb : b = 0 ∨ b = 1) : Go.bits .or .u32 x (b * 2 ^ i) = x + b * 2 ^ i := by
  have hp : (0 : Int) < 2 ^ i := Int.pow_pos (by decide)
  have hp2 : (2 : Int) ^ i ≤ 2 ^ 31 := by
    have := Nat.pow_le_pow_right (show 0 < 2 by decide) (show i ≤ 31 by omega)
    exact_mod_cast this
  have hc : Go.bits .or .u32 x (b * 2 ^ i) = Go.bits .or .u32 (b * 2 ^ i) x := by
    obtain ⟨p, rfl⟩ := Int.eq_ofNat_of_zero_le hx
    obtain ⟨q, hq⟩ := Int.eq_ofNat_of_zero_le (show 0 ≤ b * 2 ^ i by rcases hb with rfl | rfl <;> omega)
    have hq2 : q < 2 ^ 32 := by rcases hb with rfl | rfl <;> omega
    have hp3 : p < 2 ^ 32 := by omega
    rw [hq, (bits_nat .u32 32 (by decide) wraps_u32 p q hp3 hq2).2, (bits_nat .u32 32 (by decide) wraps_u32 q p hq2 hp3).2, Nat.or_comm]
  rw [hc, bits_join .u32 32 (by decide) wraps_u32 i (b * 2 ^ i) x (by rcases hb with rfl | rfl <;> omega) (by rw [Int.mul_emod_left]) (by rcases hb with rfl | rfl <;> omega) hx hx2 (by omega)]
  omega
theorem pow_split (m : Nat) : (2 : Int) ^ m = 4294967296 ^ (m / 32) * 2 ^ (m % 32) := by
  rw [show (4294967296 : Int) = 2 ^ 32 from rfl, ← Int.pow_mul, ← Int.pow_add]
  congr 1
  omega
theorem limb_top (O : List Int) (lO : Limbs O) (m : Nat) (h : val O < 2 ^ m) : O.getD (m / 32) 0 < 2 ^ (m % 32) := by
  by_cases hm : m / 32 < O.length
  · have h1 : val O = val (O.take (m / 32)) + 4294967296 ^ (m / 32) * val (O.drop (m / 32)) := by
      have h0 := val_append (O.take (m / 32)) (O.drop (m / 32))
      rw [List.take_append_drop, zLt, Nat.min_eq_left (by omega)] at h0
      exact h0
    have h2 := val_nonneg (lO.take (m / 32))
    have h3 : O.drop (m / 32) = O.getD (m / 32) 0 :: O.drop (m / 32 + 1) := by rw [List.drop_eq_getElem_cons hm, getD_lt _ hm]
    have h4 : 0 ≤ val (O.drop (m / 32 + 1)) := val_nonneg (fun x hx => lO x (List.mem_of_mem_drop hx))
    rw [h3, val] at h1
    rw [h1, pow_split] at h
    have hp : (0 : Int) < 4294967296 ^ (m / 32) := Int.pow_pos (by decide)
    have h5 : (4294967296 : Int) ^ (m / 32) * O.getD (m / 32) 0 < 4294967296 ^ (m / 32) * 2 ^ (m % 32) := by
      have : 0 ≤ 4294967296 ^ (m / 32) * (4294967296 * val (O.drop (m / 32 + 1))) := Int.mul_nonneg (Int.le_of_lt hp) (by omega)
      rw [Int.mul_add] at h
      omega
    exact Int.lt_of_mul_lt_mul_left h5 (Int.le_of_lt hp)
  · rw [getD_ge _ (by omega)]
    exact Int.pow_pos (by decide)
theorem add_bit (x b P : Int) (hx : 0 ≤ x) (hx2 : x < P) (hb : b = 0 ∨ b = 1) (hP : P ≤ 2 ^ 31) (hp : 0 < P) : 0 ≤ x + b * P ∧ x + b * P < 4294967296 := by
  rcases hb with rfl | rfl
  · rw [Int.zero_mul]; omega
  · rw [Int.one_mul]; omega
theorem tdiv32 (m : Nat) (h : m < 4611686018427387904) : wrap64 (Int.tdiv (m : Int) 32) = ((m / 32 : Nat) : Int) := by
  have h0 : Int.tdiv (m : Int) 32 = ((m / 32 : Nat) : Int) := rfl
  rw [h0]
  exact w64 (by omega) (by omega)
theorem tmod32 (m : Nat) : IntKind.u64.wrap (Int.tmod (m : Int) 32) = ((m % 32 : Nat) : Int) := by
  have h0 : Int.tmod (m : Int) 32 = ((m % 32 : Nat) : Int) := rfl
  rw [h0]
  have h1 : m % 32 < 32 := Nat.mod_lt _ (by decide)
  generalize m % 32 = r at h1 ⊢
  show (r : Int) % 18446744073709551616 = r
  omega
theorem limbs_l0 (b : List Int) (hb : Bits b) (N : Nat) (hN : N < 35184372088832) (hbN : b.length ≤ 32 * N) :
    ∀ (j m k : Nat) (O : List Int), m + j = b.length → O.length = N → Limbs O → val O = bval (b.take m) →
    ∃ r, r1_limbs.l0 (k + N + 1 + j + 1) b O (m : Int) = some r ∧ IsNum r (bval b) ∧ r.length ≤ N := by
  intro j
  induction j with
  | zero =>
    intro m k O hm hO lO hv
    refine ⟨cut O, ?_, ?_, by have := cut_length O; omega⟩
    · rw [r1_limbs.l0, if_neg (by omega), norm_f O (by omega) _ (by omega)]
      rfl
    · have := IsNum.cut lO
      rw [hv, List.take_of_length_le (by omega)] at this
      exact this
  | succ j ih =>
    intro m k O hm hO lO hv
    have e1 := tdiv32 m (by omega)
    have e2 := tmod32 m
    have hlt : m / 32 < O.length := by omega
    have h31 : m % 32 ≤ 31 := by omega
    have hbm := hb.getD m
    have htop := limb_top O lO m (by rw [hv]; exact (bval_take_lt hb m).2)
    have hol := lO.getD (m / 32)
    have hmod : m % 32 < 32 := Nat.mod_lt _ (by decide)
    have hp : (0 : Int) < 2 ^ (m % 32) := Int.pow_pos (by decide)
    have hp2 : (2 : Int) ^ (m % 32) ≤ 2 ^ 31 := by
      have := Nat.pow_le_pow_right (show 0 < 2 by decide) h31
      exact_mod_cast this
    have hset := add_bit (O.getD (m / 32) 0) (b.getD m 0) (2 ^ (m % 32)) hol.1 htop hbm hp2 hp
    have hsh := shl_u32 (b.getD m 0) hbm (m % 32) hmod
    have hor := or_low (O.getD (m / 32) 0) (b.getD m 0) (m % 32) hmod hol.1 htop hbm
    have hps := pow_split m
    clear htop hp hp2
    generalize (2 : Int) ^ (m % 32) = Q at hset hsh hor hps
    have hv2 : val (O.set (m / 32) (O.getD (m / 32) 0 + b.getD m 0 * Q)) = bval (b.take (m + 1)) := by
      rw [val_set O (m / 32) _ hlt, hv, bval_take_succ, hps]
      have h9 : O.getD (m / 32) 0 + b.getD m 0 * Q - O.getD (m / 32) 0 = b.getD m 0 * Q := by rw [Int.add_comm (O.getD (m / 32) 0)]; exact Int.add_sub_cancel _ _
      rw [h9, Int.mul_assoc, Int.mul_comm Q]
    clear hps
    obtain ⟨r, h1, h2, h3⟩ := ih (m + 1) k (O.set (m / 32) (O.getD (m / 32) 0 + b.getD m 0 * Q)) (by omega) (by rw [List.length_set]; exact hO) (lO.set _ hset.1 hset.2) hv2
    refine ⟨r, ?_, h2, h3⟩
    rw [show k + N + 1 + (j + 1) + 1 = (k + N + 1 + j + 1) + 1 by omega, r1_limbs.l0, if_pos (by omega), e1, e2, if_pos (by omega), if_pos (by omega), if_pos (by omega), if_pos (by omega), rd_nat, rd_nat, hsh, hor, w64 (by omega) (by omega), zTn, show ((m : Int) + 1) = ((m + 1 : Nat) : Int) by omega]
    exact h1
theorem limbs_f (b : List Int) (hb : Bits b) (hl : b.length < 140737488355328) (k : Nat) (hk : 2 * b.length + 4 ≤ k) :
    ∃ r, r1_limbs.f k b = some r ∧ IsNum r (bval b) ∧ 32 * r.length ≤ b.length + 31 := by
  obtain ⟨N, hN⟩ : ∃ N, N = (b.length + 31) / 32 := ⟨_, rfl⟩
  have e1 : wrap64 (Int.tdiv (wrap64 ((b.length : Int) + 31)) 32) = (N : Int) := by
    rw [w64 (n := (b.length : Int) + 31) (by omega) (by omega), show (b.length : Int) + 31 = ((b.length + 31 : Nat) : Int) by omega, show Int.tdiv ((b.length + 31 : Nat) : Int) 32 = (((b.length + 31) / 32 : Nat) : Int) from rfl, ← hN, w64 (by omega) (by omega)]
  obtain ⟨d, rfl⟩ : ∃ d, k = d + N + 1 + b.length + 1 := ⟨k - (N + 1 + b.length + 1), by omega⟩
  obtain ⟨r, h1, h2, h3⟩ := limbs_l0 b hb N (by omega) (by omega) b.length 0 d (List.replicate N 0) (by omega) (by simp) (limbs_replicate _) (by rw [val_replicate]; rfl)
  refine ⟨r, ?_, h2, by omega⟩
  unfold r1_limbs.f
  rw [e1, if_pos (by omega), zTn, if_pos (by omega)]
  exact h1

/-! ### r1_less: function 51 -/
def r1_less.l0 : Nat → List Int → List Int → List Int → Int → Int → Option (List Int)
  | 0, _, _, _, _, _ => none
  | k + 1, x0, x1, x5, x6, x7 => if x7 < (mx (x0.length : Int) (x1.length : Int)) then ((r1_at.f x0 x7).bind fun t534 => ((r1_at.f x1 x7).bind fun t535 => (if x5.length < 140737488355328 then (r1_less.l0 k x0 x1 (x5 ++ [Go.bits .and .u8 ((((((2 + t534) % 256) - t535) % 256) - x6) % 256) 1]) ((1 - (((((((2 + t534) % 256) - t535) % 256) - x6) % 256) / 2)) % 256) (wrap64 (x7 + 1))) else (none)))) else (some x5)
def r1_less.f (k : Nat) (l0 : List Int) (l1 : List Int) : Option (List Int) := r1_less.l0 k l0 l1 ([] : List Int) 0 0
set_option maxHeartbeats 8000000 in
set_option maxRecDepth 100000 in
theorem r1_less.calls (k : Nat) (A0 : Option Addr) (c0 : Nat) (l0 : List Int) (A1 : Option Addr) (c1 : Nat) (l1 : List Int) (r : List Int) (w : World) (hr0 : Kd.C (Kd.int .u8) w A0 l0.length l0) (hc0 : l0.length ≤ c0) (hr1 : Kd.C (Kd.int .u8) w A1 l1.length l1) (hc1 : l1.length ≤ c1) (h : r1_less.f k l0 l1 = some r) :
    Calls Tryd.prog 51 #[.slice A0 l0.length c0, .slice A1 l1.length c1] w fun e w' => ∃ v0_ : Value, e = .returned (v0_) ∧ Kd.R (Kd.int .u8) 5 w' w.heap.size (fun _ => True) v0_ r ∧ Below w.heap.size w w' := by
  have HR0 := zMk hr0
  have HC0 := zMk hc0
  clear hr0 hc0
  have HR1 := zMk hr1
  have HC1 := zMk hc1
  clear hr1 hc1
  have HB := zMk (Below.refl w.heap.size w)
  have H : (r1_less.l0 k l0 l1 ([] : List Int) 0 0) = some r := h
  clear h
  have H' := zMk H
  clear H
  go_enter Tryd.func51, Tryd.ntmps51
  go_wp2
  go_loopg [5, 6, 7] k (fun kq v5 v6 v7 w' => ∃ (x5_1 : List Int) (x6_1 : Int) (x7_1 : Int), v6 = .int .u8 x6_1 ∧ v7 = .int .i64 x7_1 ∧ Aside0 (r1_less.l0 kq l0 l1 x5_1 x6_1 x7_1 = some r) ∧ Aside0 (kq ≤ k) ∧ Aside0 (Kd.R (Kd.int .u8) 5 w' w.heap.size (fun _ => True) v5 x5_1) ∧ Aside0 (Below w.heap.size w w'))
  case atStart => exact ⟨(([] : List Int)), (0), (0), (by first | rfl | (simp; done) | (simp [*]; done)), (by first | rfl | (simp; done) | (simp [*]; done)), H', ⟨Nat.le_refl _⟩, ⟨by first | exact Kd.R_nil _ _ _ _ _ | exact Kd.N_nil _ _ _ _ _ | exact Kd.V_nil _ _ _ _ _ | exact Kd.Q_nil _ _ _ _ _ | exact Kd.S_nil _ _ _ _ _⟩, ⟨by repeat (first | (with_reducible first | exact HB.out | apply zBa | apply zBn | apply zBd) | exact HB.out)⟩⟩
  clear H'
  obtain ⟨x5_1, x6_1, x7_1, rfl, rfl, HA, HK1, HO_5, HB⟩ := hrel
  rcases gk with _ | k1
  · exact absurd HA.out (by simp [r1_less.l0])
  have H := HA.out
  clear HA
  simp only [r1_less.l0] at H
  obtain ⟨ji3, hji3⟩ : ∃ j_ : Int, (mx (l0.length : Int) (l1.length : Int)) = j_ := ⟨_, rfl⟩
  replace H : (if x7_1 < (ji3) then ((r1_at.f l0 x7_1).bind fun t534 => ((r1_at.f l1 x7_1).bind fun t535 => (if x5_1.length < 140737488355328 then (r1_less.l0 k1 l0 l1 (x5_1 ++ [Go.bits .and .u8 ((((((2 + t534) % 256) - t535) % 256) - x6_1) % 256) 1]) ((1 - (((((((2 + t534) % 256) - t535) % 256) - x6_1) % 256) / 2)) % 256) (wrap64 (x7_1 + 1))) else (none)))) else (some x5_1)) = some r := by first | (rw [hji3] at H; exact H) | (simp only [hji3] at H ⊢; exact H)
  have hji3_ : (if (l0.length : Int) < (l1.length : Int) then (l1.length : Int) else (l0.length : Int)) = ji3 := hji3
  have hji3_n : (if l0.length < l1.length then (l1.length : Int) else (l0.length : Int)) = ji3 := by rw [← hji3]; simp only [mx, mn, Int.ofNat_lt]
  by_cases c4 : x7_1 < (ji3)
  · rw [if_pos c4] at H
    have c4b0 : decide (x7_1 < (ji3)) = true := decide_eq_true c4
    clear c4
    replace H := Option.bind_eq_some_iff.mp H
    obtain ⟨t534, A50, H⟩ := H
    have A5 := zMk A50
    clear A50
    replace H := Option.bind_eq_some_iff.mp H
    obtain ⟨t535, A60, H⟩ := H
    have A6 := zMk A60
    clear A60
    by_cases c7 : x5_1.length < 140737488355328
    rotate_left
    · rw [if_neg c7] at H; exact absurd H (by simp)
    rw [if_pos c7] at H
    have LMc7 := zMk c7
    clear c7
    obtain ⟨y536, hy536⟩ : ∃ y_ : List Int, y_ = (x5_1 ++ [Go.bits .and .u8 ((((((2 + t534) % 256) - t535) % 256) - x6_1) % 256) 1]) := ⟨_, rfl⟩
    replace H : (r1_less.l0 k1 l0 l1 y536 ((1 - (((((((2 + t534) % 256) - t535) % 256) - x6_1) % 256) / 2)) % 256) (wrap64 (x7_1 + 1))) = some r := by first | (rw [hy536]; with_reducible exact H) | (have H2_ := (zOb _ _).symm.trans H; rw [hy536]; with_reducible exact H2_) | (have H2_ := (zOb _ _).symm.trans H; with_reducible exact H2_) | with_reducible exact H | (rw [hy536]; exact H) | exact H
    have Ny536 := zMk hy536
    clear hy536
    have H' := zMk H
    clear H
    go_wp2_with (first | ((with_reducible refine gate_callee (f := 43) rfl ?_); refine goesL_ (some 20) rfl rfl Tryd.func43 (by kernel_rfl) rfl #[.slice A0 l0.length c0, .int .i64 x7_1] rfl (by (try simp only [List.map_toArray, List.map_cons, List.map_nil]); first | done | rfl | (simp only [zLd, zLt]; rfl)) ?_; (with_reducible refine (r1_at.calls _ _ l0 x7_1 t534 _ ?side1 ?side2 A5.out).mono ?_); (case side1 => repeat (first | exact (Kd.C_below HR0.out HB.out) | (with_reducible refine zCa ?_ _) | (with_reducible refine zCn ?_ _) | (with_reducible refine zCd ?_))); (case side2 => exact HC0.out); rintro e w' ⟨rfl, ⟨nd, rfl⟩⟩; refine ⟨_, rfl, ?_⟩) | ((with_reducible refine gate_callee (f := 43) rfl ?_); refine goesL_ (some 24) rfl rfl Tryd.func43 (by kernel_rfl) rfl #[.slice A1 l1.length c1, .int .i64 x7_1] rfl (by (try simp only [List.map_toArray, List.map_cons, List.map_nil]); first | done | rfl | (simp only [zLd, zLt]; rfl)) ?_; (with_reducible refine (r1_at.calls _ _ l1 x7_1 t535 _ ?side1 ?side2 A6.out).mono ?_); (case side1 => repeat (first | exact (Kd.C_below HR1.out (by repeat (first | (with_reducible first | exact HB.out | apply zBa | apply zBn | apply zBd) | exact HB.out))) | (with_reducible refine zCa ?_ _) | (with_reducible refine zCn ?_ _) | (with_reducible refine zCd ?_))); (case side2 => exact HC1.out); rintro e w' ⟨rfl, ⟨nd, rfl⟩⟩; refine ⟨_, rfl, ?_⟩) | ((with_reducible refine gate_builtin (b := .append) (xs := #[.tmp 28, .tmp 31]) rfl ?_); at_builtin; refine Kd.R_append (Kd.int .u8) (w0 := w) w.heap.size rfl (.tmp 28) (.tmp 31) 50 5 (.int .u8 0) 1 rfl Tryd.underlying50 info5 rfl (by decide) (by omega) u5 x5_1 (Go.bits .and .u8 ((2 + t534 - t535 - x6_1) % 256) 1) [.int .u8 (Go.bits .and .u8 ((2 + t534 - t535 - x6_1) % 256) 1)] (fun _ => True) (fun _ => False) rfl rfl ?aP (fun _ hk => hk.elim) ?aF ?aO ?aB ?aS ?aL ?_; (case aP => exact rfl); (case aB => exact (by repeat (first | (with_reducible first | exact HB.out | apply zBa | apply zBn | apply zBd) | exact HB.out))); (case aF => exact (fun _ _ => trivial)); (case aO => exact (by (with_reducible repeat (first | apply zRa | apply zRn | apply zRd)); exact HO_5.out)); (case aS => exact (zBs (by repeat (first | (with_reducible first | exact HB.out | apply zBa | apply zBn | apply zBd) | exact HB.out)))); (case aL => have := LMc7.out; omega); intro v537 w8 ho hb hg hat; rw [show ((2 + t534 - t535 - x6_1) % 256) = ((((((2 + t534) % 256) - t535) % 256) - x6_1) % 256) from by omega] at ho; rw [← Ny536.out] at ho; have n0_ := zMk (hb); have n1_ := zMk (ho); clear HB; clear HO_5; have HB := n0_; have HO538 := n1_; clear n0_ n1_; clear ho hb hg hat))
    go_roundg k1
    case measure => have := HK1.out; omega
    case rel => exact ⟨(y536), ((1 - (((((((2 + t534) % 256) - t535) % 256) - x6_1) % 256) / 2)) % 256), (wrap64 (x7_1 + 1)), (by first | rfl | (simp; done) | (simp [*]; done)), (by first | rfl | (simp; done) | (simp [*]; done)), H', ⟨by have := HK1.out; omega⟩, ⟨by (with_reducible repeat (first | apply zRa | apply zRn | apply zRd)); exact HO538.out⟩, ⟨by repeat (first | (with_reducible first | exact HB.out | apply zBa | apply zBn | apply zBd) | exact HB.out)⟩⟩
  · rw [if_neg c4] at H
    have c4b0 : decide (x7_1 < (ji3)) = false := decide_eq_false c4
    clear c4
    obtain rfl := zOi H
    go_wp2
    go_ret
    exact ⟨_, by first | rfl | (simp [errW_none, errW_some] <;> rfl) | (simp only [← hji3]; first | rfl | (simp [errW_none, errW_some] <;> rfl)) | (simp [*, errW_none, errW_some] <;> rfl), by (with_reducible repeat (first | apply zRa | apply zRn | apply zRd)); exact HO_5.out, by repeat (first | (with_reducible first | exact HB.out | apply zBa | apply zBn | apply zBd) | exact HB.out)⟩


/-! ### r1_Sub: function 31 -/
def r1_Sub.f (k : Nat) (l0 : List Int) (l1 : List Int) : Option (List Int × Int) := (r1_Cmp.f k l0 l1).bind fun t539 => (if t539 < 0 then (some (([] : List Int), 17)) else ((r1_bits.f k l0).bind fun t540 => ((r1_bits.f k l1).bind fun t543 => ((r1_less.f k t540 t543).bind fun t546 => ((r1_limbs.f k t546).bind fun t549 => (some (t549, 0)))))))
set_option maxHeartbeats 8000000 in
set_option maxRecDepth 100000 in
theorem r1_Sub.calls (k : Nat) (A0 : Option Addr) (c0 : Nat) (l0 : List Int) (A1 : Option Addr) (c1 : Nat) (l1 : List Int) (r1 : List Int) (r2 : Int) (w : World) (hr0 : Kd.C (Kd.int .u32) w A0 l0.length l0) (hc0 : l0.length ≤ c0) (hr1 : Kd.C (Kd.int .u32) w A1 l1.length l1) (hc1 : l1.length ≤ c1) (h : r1_Sub.f k l0 l1 = some (r1, r2)) :
    Calls Tryd.prog 31 #[.slice A0 l0.length c0, .slice A1 l1.length c1] w fun e w' => ∃ v0_ : Value, e = .returned (.tuple #[v0_, .int .i64 r2]) ∧ Kd.R (Kd.int .u32) 36 w' w.heap.size (fun _ => True) v0_ r1 ∧ Below w.heap.size w w' := by
  have HR0 := zMk hr0
  have HC0 := zMk hc0
  clear hr0 hc0
  have HR1 := zMk hr1
  have HC1 := zMk hc1
  clear hr1 hc1
  have HB := zMk (Below.refl w.heap.size w)
  have H : ((r1_Cmp.f k l0 l1).bind fun t539 => (if t539 < 0 then (some (([] : List Int), 17)) else ((r1_bits.f k l0).bind fun t540 => ((r1_bits.f k l1).bind fun t543 => ((r1_less.f k t540 t543).bind fun t546 => ((r1_limbs.f k t546).bind fun t549 => (some (t549, 0)))))))) = some (r1, r2) := h
  clear h
  replace H := Option.bind_eq_some_iff.mp H
  obtain ⟨t539, A30, H⟩ := H
  have A3 := zMk A30
  clear A30
  by_cases c4 : t539 < 0
  · rw [if_pos c4] at H
    have c4b0 : decide (t539 < 0) = true := decide_eq_true c4
    clear c4
    simp only [Option.some.injEq, Prod.mk.injEq] at H
    obtain ⟨rfl, rfl⟩ := H
    go_enter Tryd.func31, Tryd.ntmps31
    go_wp2_with (first | ((with_reducible refine gate_callee (f := 22) rfl ?_); refine goesL_ (some 8) rfl rfl Tryd.func22 (by kernel_rfl) rfl #[.slice A0 l0.length c0, .slice A1 l1.length c1] rfl (by (try simp only [List.map_toArray, List.map_cons, List.map_nil]); first | done | rfl | (simp only [zLd, zLt]; rfl)) ?_; (with_reducible refine (r1_Cmp.calls k _ _ l0 _ _ l1 t539 _ ?side1 ?side2 ?side3 ?side4 A3.out).mono ?_); (case side1 => repeat (first | exact HR0.out | (with_reducible refine zCa ?_ _) | (with_reducible refine zCn ?_ _) | (with_reducible refine zCd ?_))); (case side2 => exact HC0.out); (case side3 => repeat (first | exact HR1.out | (with_reducible refine zCa ?_ _) | (with_reducible refine zCn ?_ _) | (with_reducible refine zCd ?_))); (case side4 => exact HC1.out); rintro e w5 ⟨rfl, hb⟩; refine ⟨_, rfl, ?_⟩; have n0_ := zMk (zBt (by repeat (first | (with_reducible first | exact HB.out | apply zBa | apply zBn | apply zBd) | exact HB.out)) hb); clear HB; have HB := n0_; clear n0_; (try clear hb); (try clear hb2); (try clear hk); (try clear hi)))
    go_ret2
    exact ⟨_, by first | rfl | (simp [errW_none, errW_some] <;> rfl) | (simp [*, errW_none, errW_some] <;> rfl), by first | exact Kd.R_nil _ _ _ _ _ | exact Kd.N_nil _ _ _ _ _ | exact Kd.V_nil _ _ _ _ _ | exact Kd.Q_nil _ _ _ _ _ | exact Kd.S_nil _ _ _ _ _, by repeat (first | (with_reducible first | exact HB.out | apply zBa | apply zBn | apply zBd) | exact HB.out)⟩
  · rw [if_neg c4] at H
    have c4b0 : decide (t539 < 0) = false := decide_eq_false c4
    clear c4
    replace H := Option.bind_eq_some_iff.mp H
    obtain ⟨t540, A60, H⟩ := H
    have A6 := zMk A60
    clear A60
    replace H := Option.bind_eq_some_iff.mp H
    obtain ⟨t543, A70, H⟩ := H
    have A7 := zMk A70
    clear A70
    replace H := Option.bind_eq_some_iff.mp H
    obtain ⟨t546, A80, H⟩ := H
    have A8 := zMk A80
    clear A80
    replace H := Option.bind_eq_some_iff.mp H
    obtain ⟨t549, A90, H⟩ := H
    have A9 := zMk A90
    clear A90
    simp only [Option.some.injEq, Prod.mk.injEq] at H
    obtain ⟨rfl, rfl⟩ := H
    go_enter Tryd.func31, Tryd.ntmps31
    go_wp2_with (first | ((with_reducible refine gate_callee (f := 22) rfl ?_); refine goesL_ (some 8) rfl rfl Tryd.func22 (by kernel_rfl) rfl #[.slice A0 l0.length c0, .slice A1 l1.length c1] rfl (by (try simp only [List.map_toArray, List.map_cons, List.map_nil]); first | done | rfl | (simp only [zLd, zLt]; rfl)) ?_; (with_reducible refine (r1_Cmp.calls k _ _ l0 _ _ l1 t539 _ ?side1 ?side2 ?side3 ?side4 A3.out).mono ?_); (case side1 => repeat (first | exact HR0.out | (with_reducible refine zCa ?_ _) | (with_reducible refine zCn ?_ _) | (with_reducible refine zCd ?_))); (case side2 => exact HC0.out); (case side3 => repeat (first | exact HR1.out | (with_reducible refine zCa ?_ _) | (with_reducible refine zCn ?_ _) | (with_reducible refine zCd ?_))); (case side4 => exact HC1.out); rintro e w10 ⟨rfl, hb⟩; refine ⟨_, rfl, ?_⟩; have n0_ := zMk (zBt (by repeat (first | (with_reducible first | exact HB.out | apply zBa | apply zBn | apply zBd) | exact HB.out)) hb); clear HB; have HB := n0_; clear n0_; (try clear hb); (try clear hb2); (try clear hk); (try clear hi)) | ((with_reducible refine gate_callee (f := 42) rfl ?_); refine goesL_ (some 11) rfl rfl Tryd.func42 (by kernel_rfl) rfl #[.slice A0 l0.length c0] rfl (by (try simp only [List.map_toArray, List.map_cons, List.map_nil]); first | done | rfl | (simp only [zLd, zLt]; rfl)) ?_; (with_reducible refine (r1_bits.calls k _ _ l0 t540 _ ?side1 ?side2 A6.out).mono ?_); (case side1 => repeat (first | exact (Kd.C_below HR0.out HB.out) | (with_reducible refine zCa ?_ _) | (with_reducible refine zCn ?_ _) | (with_reducible refine zCd ?_))); (case side2 => exact HC0.out); rintro e w11 ⟨v541, rfl, ho0, hb⟩; refine ⟨_, rfl, ?_⟩; have n0_ := zMk (Kd.R_lower ho0 (zBs (by repeat (first | (with_reducible first | exact HB.out | apply zBa | apply zBn | apply zBd) | exact HB.out)))); have n1_ := zMk (zBt (by repeat (first | (with_reducible first | exact HB.out | apply zBa | apply zBn | apply zBd) | exact HB.out)) hb); clear HB; have HO542 := n0_; have HB := n1_; clear n0_ n1_; (try clear hb); (try clear hb2); (try clear hk); (try clear hi); (try clear ho0)) | ((with_reducible refine gate_callee (f := 42) rfl ?_); refine goesL_ (some 13) rfl rfl Tryd.func42 (by kernel_rfl) rfl #[.slice A1 l1.length c1] rfl (by (try simp only [List.map_toArray, List.map_cons, List.map_nil]); first | done | rfl | (simp only [zLd, zLt]; rfl)) ?_; (with_reducible refine (r1_bits.calls k _ _ l1 t543 _ ?side1 ?side2 A7.out).mono ?_); (case side1 => repeat (first | exact (Kd.C_below HR1.out HB.out) | (with_reducible refine zCa ?_ _) | (with_reducible refine zCn ?_ _) | (with_reducible refine zCd ?_))); (case side2 => exact HC1.out); rintro e w12 ⟨v544, rfl, ho0, hb⟩; refine ⟨_, rfl, ?_⟩; have n0_ := zMk (Kd.R_elder' (by (with_reducible repeat (first | apply zRa | apply zRn | apply zRd)); exact HO542.out) (Kd.R_base ho0) hb); have n1_ := zMk (Kd.R_lower (Kd.R_new' ho0 (Kd.R_lt (by (with_reducible repeat (first | apply zRa | apply zRn | apply zRd)); exact HO542.out))) (zBs (by repeat (first | (with_reducible first | exact HB.out | apply zBa | apply zBn | apply zBd) | exact HB.out)))); have n2_ := zMk (zBt (by repeat (first | (with_reducible first | exact HB.out | apply zBa | apply zBn | apply zBd) | exact HB.out)) hb); clear HO542; clear HB; have HO542 := n0_; have HO545 := n1_; have HB := n2_; clear n0_ n1_ n2_; (try clear hb); (try clear hb2); (try clear hk); (try clear hi); (try clear ho0); obtain ⟨Ao13, co13, eo13⟩ := Kd.R_slice HO542.out; subst eo13; obtain ⟨Ao14, co14, eo14⟩ := Kd.R_slice HO545.out; subst eo14) | ((with_reducible refine gate_callee (f := 51) rfl ?_); refine goesL_ (some 14) rfl rfl Tryd.func51 (by kernel_rfl) rfl #[.slice Ao13 t540.length co13, .slice Ao14 t543.length co14] rfl (by (try simp only [List.map_toArray, List.map_cons, List.map_nil]); first | done | rfl | (simp only [zLd, zLt]; rfl)) ?_; (with_reducible refine (r1_less.calls k _ _ t540 _ _ t543 t546 _ ?side1 ?side2 ?side3 ?side4 A8.out).mono ?_); (case side1 => repeat (first | exact (Kd.R_reads' HO542.out).2.2 | (with_reducible refine zCa ?_ _) | (with_reducible refine zCn ?_ _) | (with_reducible refine zCd ?_))); (case side2 => exact (Kd.R_reads' HO542.out).2.1); (case side3 => repeat (first | exact (Kd.R_reads' HO545.out).2.2 | (with_reducible refine zCa ?_ _) | (with_reducible refine zCn ?_ _) | (with_reducible refine zCd ?_))); (case side4 => exact (Kd.R_reads' HO545.out).2.1); rintro e w15 ⟨v547, rfl, ho0, hb⟩; refine ⟨_, rfl, ?_⟩; have n0_ := zMk (Kd.R_elder' (by (with_reducible repeat (first | apply zRa | apply zRn | apply zRd)); exact HO542.out) (Kd.R_base ho0) hb); have n1_ := zMk (Kd.R_elder' (by (with_reducible repeat (first | apply zRa | apply zRn | apply zRd)); exact HO545.out) (Kd.R_base ho0) hb); have n2_ := zMk (Kd.R_lower (Kd.R_new' (Kd.R_new' ho0 (Kd.R_lt (by (with_reducible repeat (first | apply zRa | apply zRn | apply zRd)); exact HO542.out))) (Kd.R_lt (by (with_reducible repeat (first | apply zRa | apply zRn | apply zRd)); exact HO545.out))) (zBs (by repeat (first | (with_reducible first | exact HB.out | apply zBa | apply zBn | apply zBd) | exact HB.out)))); have n3_ := zMk (zBt (by repeat (first | (with_reducible first | exact HB.out | apply zBa | apply zBn | apply zBd) | exact HB.out)) hb); clear HO542; clear HO545; clear HB; have HO542 := n0_; have HO545 := n1_; have HO548 := n2_; have HB := n3_; clear n0_ n1_ n2_ n3_; (try clear hb); (try clear hb2); (try clear hk); (try clear hi); (try clear ho0); obtain ⟨Ao16, co16, eo16⟩ := Kd.R_slice HO548.out; subst eo16) | ((with_reducible refine gate_callee (f := 45) rfl ?_); refine goesL_ (some 15) rfl rfl Tryd.func45 (by kernel_rfl) rfl #[.slice Ao16 t546.length co16] rfl (by (try simp only [List.map_toArray, List.map_cons, List.map_nil]); first | done | rfl | (simp only [zLd, zLt]; rfl)) ?_; (with_reducible refine (r1_limbs.calls k _ _ t546 t549 _ ?side1 ?side2 A9.out).mono ?_); (case side1 => repeat (first | exact (Kd.R_reads' HO548.out).2.2 | (with_reducible refine zCa ?_ _) | (with_reducible refine zCn ?_ _) | (with_reducible refine zCd ?_))); (case side2 => exact (Kd.R_reads' HO548.out).2.1); rintro e w17 ⟨v550, rfl, ho0, hb⟩; refine ⟨_, rfl, ?_⟩; have n0_ := zMk (Kd.R_below (by (with_reducible repeat (first | apply zRa | apply zRn | apply zRd)); exact HO542.out) hb); have n1_ := zMk (Kd.R_below (by (with_reducible repeat (first | apply zRa | apply zRn | apply zRd)); exact HO545.out) hb); have n2_ := zMk (Kd.R_below (by (with_reducible repeat (first | apply zRa | apply zRn | apply zRd)); exact HO548.out) hb); have n3_ := zMk (Kd.R_lower ho0 (zBs (by repeat (first | (with_reducible first | exact HB.out | apply zBa | apply zBn | apply zBd) | exact HB.out)))); have n4_ := zMk (zBt (by repeat (first | (with_reducible first | exact HB.out | apply zBa | apply zBn | apply zBd) | exact HB.out)) hb); clear HO542; clear HO545; clear HO548; clear HB; have HO542 := n0_; have HO545 := n1_; have HO548 := n2_; have HO551 := n3_; have HB := n4_; clear n0_ n1_ n2_ n3_ n4_; (try clear hb); (try clear hb2); (try clear hk); (try clear hi); (try clear ho0)))
    go_ret2
    exact ⟨_, by first | rfl | (simp [errW_none, errW_some] <;> rfl) | (simp [*, errW_none, errW_some] <;> rfl), by (with_reducible repeat (first | apply zRa | apply zRn | apply zRd)); exact HO551.out, by repeat (first | (with_reducible first | exact HB.out | apply zBa | apply zBn | apply zBd) | exact HB.out)⟩

/- The plain law of the document's difference. -/
/- the document's answer -/
theorem rless_l0 (x y : List Int) (hx : Bits x) (hy : Bits y) (M : Nat) (hM : M = max x.length y.length) (hM2 : M < 140737488355000) :
    ∀ (j m k : Nat) (O : List Int) (c : Int), m + j = M → O.length = m → Bits O → (c = 0 ∨ c = 1) → bval O - 2 ^ m * c = bval (x.take m) - bval (y.take m) →
    ∃ r c', r1_less.l0 (k + j + 1) x y O c (m : Int) = some r ∧ Bits r ∧ r.length = M ∧ (c' = 0 ∨ c' = 1) ∧ bval r - 2 ^ M * c' = bval x - bval y := by
  intro j
  induction j with
  | zero =>
    intro m k O c hm hO hB hc hv
    obtain rfl : m = M := by omega
    rw [List.take_of_length_le (by omega), List.take_of_length_le (by omega)] at hv
    exact ⟨O, c, by rw [r1_less.l0, mx_nat, if_neg (by omega)], hB, hO, hc, hv⟩
  | succ j ih =>
    intro m k O c hm hO hB hc hv
    have hxm := hx.getD m
    have hym := hy.getD m
    obtain ⟨s, hs⟩ : ∃ s, s = 2 + x.getD m 0 - y.getD m 0 - c := ⟨_, rfl⟩
    have hs0 : 0 ≤ s ∧ s ≤ 3 := by omega
    obtain ⟨r, c', h1, h2, h3, h4, h5⟩ := ih (m + 1) k (O ++ [s % 2]) (1 - s / 2) (by omega) (by simp [hO]) (hB.append (Bits.one (by omega))) (by omega) (by
      rw [bval_append, bval_one, bval_take_succ, bval_take_succ, hO, Int.pow_succ]
      have := Int.emod_add_mul_ediv s 2
      grind)
    refine ⟨r, c', ?_, h2, h3, h4, h5⟩
    rw [show k + (j + 1) + 1 = (k + j + 1) + 1 by omega, r1_less.l0, mx_nat, if_pos (by omega), at_f, zOb, at_f, zOb, if_pos (by omega), w64 (by omega) (by omega)]
    rw [show (((2 + x.getD m 0) % 256 - y.getD m 0) % 256 - c) % 256 = s by omega, u8_and1 s (by omega) (by omega), show ((m : Int) + 1) = ((m + 1 : Nat) : Int) by omega, show (1 - s / 2) % 256 = 1 - s / 2 by omega]
    exact h1
theorem rless_f (x y : List Int) (hx : Bits x) (hy : Bits y) (h : bval y ≤ bval x) (hM : max x.length y.length < 140737488355000) (k : Nat) (hk : max x.length y.length + 1 ≤ k) :
    ∃ r, r1_less.f k x y = some r ∧ Bits r ∧ r.length = max x.length y.length ∧ bval r = bval x - bval y := by
  obtain ⟨d, rfl⟩ : ∃ d, k = d + max x.length y.length + 1 := ⟨k - (max x.length y.length + 1), by omega⟩
  obtain ⟨r, c, h1, h2, h3, h4, h5⟩ := rless_l0 x y hx hy _ rfl hM (max x.length y.length) 0 d [] 0 (by omega) rfl Bits.nil (.inl rfl) (by simp [bval])
  refine ⟨r, h1, h2, h3, ?_⟩
  have hb := bval_bounds h2
  rw [h3] at hb
  rcases h4 with rfl | rfl
  · rw [Int.mul_zero] at h5; omega
  · rw [Int.mul_one] at h5; omega
theorem rsub_f (a b : List Int) (ha : Limbs a) (hb : Limbs b) (la : a.length < 1000000) (lb : b.length < 1000000) (k : Nat) (hk : 200 * a.length + 200 * b.length + 100 ≤ k) :
    (val a < val b ∧ r1_Sub.f k a b = some ([], 17)) ∨ (val b ≤ val a ∧ ∃ r, r1_Sub.f k a b = some (r, 0) ∧ IsNum r (val a - val b)) := by
  unfold r1_Sub.f
  rw [rcmp_f a b ha hb (by omega) (by omega) k (by omega), zOb]
  by_cases h : val a < val b
  · refine .inl ⟨h, ?_⟩
    unfold cmpI
    rw [if_pos h, if_pos (by omega)]
  · refine .inr ⟨by omega, ?_⟩
    have hc : ¬ cmpI (val a) (val b) < 0 := by
      unfold cmpI
      rw [if_neg h]
      split <;> omega
    have la2 := bitsOf_length a
    have lb2 := bitsOf_length b
    obtain ⟨t, h1, h2, h3, h4⟩ := rless_f (bitsOf a) (bitsOf b) (bitsOf_bits a) (bitsOf_bits b) (by rw [bval_bitsOf ha, bval_bitsOf hb]; omega) (by omega) k (by omega)
    obtain ⟨r, h5, h6, _⟩ := limbs_f t h2 (by omega) k (by omega)
    refine ⟨r, ?_, by rw [h4, bval_bitsOf ha, bval_bitsOf hb] at h6; exact h6⟩
    rw [if_neg hc, bits_f a ha (by omega) k (by omega), zOb, bits_f b hb (by omega) k (by omega), zOb, h1, zOb, h5]
    rfl

/-! ### r1_DivMod: function 26 -/
def r1_DivMod.l0 : Nat → List Int → List Int → List Int → List Int → Int → Option (List Int × List Int × Int)
  | 0, _, _, _, _, _ => none
  | k + 1, x1, x7, x8, x9, x10 => if x10 ≥ 0 then (if 0 ≤ x10 then (if x10 < (x7.length : Int) then ((some (([rd x7 x10] : List Int) : List Int)).bind fun y565 => ((r1_bits.f k x9).bind fun t568 => (if y565.length + t568.length < 140737488355328 then ((r1_limbs.f k (y565 ++ t568)).bind fun t574 => ((r1_Cmp.f k t574 x1).bind fun t577 => (if t577 ≥ 0 then ((r1_Sub.f k t574 x1).bind fun bt578 => (if x10 < (x8.length : Int) then (r1_DivMod.l0 k x1 x7 (x8.set (x10 : Int).toNat 1) bt578.1 (wrap64 (x10 - 1))) else (none))) else (r1_DivMod.l0 k x1 x7 x8 t574 (wrap64 (x10 - 1)))))) else (none)))) else (none)) else (none)) else ((r1_limbs.f k x8).bind fun t561 => (some (t561, x9, 0)))
def r1_DivMod.f (k : Nat) (l0 : List Int) (l1 : List Int) : Option (List Int × List Int × Int) := (r1_Norm.f k l1).bind fun t552 => (if (t552.length : Int) = 0 then (some (([] : List Int), ([] : List Int), 15)) else ((r1_bits.f k l0).bind fun t555 => (if 0 ≤ (t555.length : Int) then (if ((t555.length : Int) : Int).toNat ≤ 281474976710656 then (r1_DivMod.l0 k t552 t555 (List.replicate ((t555.length : Int) : Int).toNat 0) ([] : List Int) (wrap64 ((t555.length : Int) - 1))) else (none)) else (none))))
def r1_DivMod.T10 : Bool × List (List Nat × List Nat) := (true, [([], []), ([], []), ([0, 1], [0, 1]), ([2], [2]), ([3], [3]), ([], []), ([5], [5]), ([4, 6, 6], [4, 6]), ([7, 7], [7]), ([8, 8, 0, 1, 2, 3, 4, 5, 6, 7, 8], [5, 8])])
def r1_DivMod.B10 : List Nat := [0, 0, 3, 7, 15, 0, 32, 127, 255, 511]
theorem r1_DivMod.tab10 : rtab .any (opsOf Tryd.f26 10) = r1_DivMod.T10 := by kernel_rfl
theorem r1_DivMod.bits10 : waitsOk r1_DivMod.T10.2 r1_DivMod.B10 = true := by kernel_rfl
set_option maxHeartbeats 8000000 in
set_option maxRecDepth 100000 in
theorem r1_DivMod.calls (k : Nat) (A0 : Option Addr) (c0 : Nat) (l0 : List Int) (A1 : Option Addr) (c1 : Nat) (l1 : List Int) (r1 : List Int) (r2 : List Int) (r3 : Int) (w : World) (hr0 : Kd.C (Kd.int .u32) w A0 l0.length l0) (hc0 : l0.length ≤ c0) (hr1 : Kd.C (Kd.int .u32) w A1 l1.length l1) (hc1 : l1.length ≤ c1) (h : r1_DivMod.f k l0 l1 = some (r1, r2, r3)) :
    Calls Tryd.prog 26 #[.slice A0 l0.length c0, .slice A1 l1.length c1] w fun e w' => ∃ v0_ v1_ : Value, e = .returned (.tuple #[v0_, v1_, .int .i64 r3]) ∧ Kd.R (Kd.int .u32) 36 w' w.heap.size (fun k_ => some k_ ≠ (v1_ : Value).ownBlock) v0_ r1 ∧ Kd.R (Kd.int .u32) 36 w' w.heap.size (fun k_ => some k_ ≠ (v0_ : Value).ownBlock) v1_ r2 ∧ Below w.heap.size w w' := by
  have HR0 := zMk hr0
  have HC0 := zMk hc0
  clear hr0 hc0
  have HR1 := zMk hr1
  have HC1 := zMk hc1
  clear hr1 hc1
  have HB := zMk (Below.refl w.heap.size w)
  have H : ((r1_Norm.f k l1).bind fun t552 => (if (t552.length : Int) = 0 then (some (([] : List Int), ([] : List Int), 15)) else ((r1_bits.f k l0).bind fun t555 => (if 0 ≤ (t555.length : Int) then (if ((t555.length : Int) : Int).toNat ≤ 281474976710656 then (r1_DivMod.l0 k t552 t555 (List.replicate ((t555.length : Int) : Int).toNat 0) ([] : List Int) (wrap64 ((t555.length : Int) - 1))) else (none)) else (none))))) = some (r1, r2, r3) := h
  clear h
  replace H := Option.bind_eq_some_iff.mp H
  obtain ⟨t552, A30, H⟩ := H
  have A3 := zMk A30
  clear A30
  by_cases c4 : (t552.length : Int) = 0
  · rw [if_pos c4] at H
    have c4b0 : ((t552.length : Int) == 0) = true := beq_iff_eq.mpr c4
    have c4b1 : ((t552.length : Int) != 0) = false := bne_eq_false_iff_eq.mpr c4
    clear c4
    simp only [Option.some.injEq, Prod.mk.injEq] at H
    obtain ⟨rfl, rfl, rfl⟩ := H
    go_enter Tryd.func26, Tryd.ntmps26
    go_wp2_with (first | ((with_reducible refine gate_callee (f := 20) rfl ?_); refine goesL_ (some 12) rfl rfl Tryd.func20 (by kernel_rfl) rfl #[.slice A1 l1.length c1] rfl (by (try simp only [List.map_toArray, List.map_cons, List.map_nil]); first | done | rfl | (simp only [zLd, zLt]; rfl)) ?_; (with_reducible refine (r1_Norm.calls k _ _ l1 t552 _ ?side1 ?side2 A3.out).mono ?_); (case side1 => repeat (first | exact HR1.out | (with_reducible refine zCa ?_ _) | (with_reducible refine zCn ?_ _) | (with_reducible refine zCd ?_))); (case side2 => exact HC1.out); rintro e w5 ⟨v553, rfl, ho0, hb⟩; refine ⟨_, rfl, ?_⟩; have n0_ := zMk (Kd.R_lower ho0 (zBs (by repeat (first | (with_reducible first | exact HB.out | apply zBa | apply zBn | apply zBd) | exact HB.out)))); have n1_ := zMk (zBt (by repeat (first | (with_reducible first | exact HB.out | apply zBa | apply zBn | apply zBd) | exact HB.out)) hb); clear HB; have HO554 := n0_; have HB := n1_; clear n0_ n1_; (try clear hb); (try clear hb2); (try clear hk); (try clear hi); (try clear ho0); obtain ⟨Ao6, co6, eo6⟩ := Kd.R_slice HO554.out; subst eo6))
    go_ret3
    exact ⟨_, _, by first | rfl | (simp [errW_none, errW_some] <;> rfl) | (simp [*, errW_none, errW_some] <;> rfl), by first | exact Kd.R_nil _ _ _ _ _ | exact Kd.N_nil _ _ _ _ _ | exact Kd.V_nil _ _ _ _ _ | exact Kd.Q_nil _ _ _ _ _ | exact Kd.S_nil _ _ _ _ _, by first | exact Kd.R_nil _ _ _ _ _ | exact Kd.N_nil _ _ _ _ _ | exact Kd.V_nil _ _ _ _ _ | exact Kd.Q_nil _ _ _ _ _ | exact Kd.S_nil _ _ _ _ _, by repeat (first | (with_reducible first | exact HB.out | apply zBa | apply zBn | apply zBd) | exact HB.out)⟩
  · rw [if_neg c4] at H
    have c4b0 : ((t552.length : Int) == 0) = false := beq_eq_false_iff_ne.mpr c4
    have c4b1 : ((t552.length : Int) != 0) = true := bne_iff_ne.mpr c4
    have c4b2 : ¬ (t552 = []) := fun h_ => c4 (by rw [h_]; rfl)
    replace H := Option.bind_eq_some_iff.mp H
    obtain ⟨t555, A70, H⟩ := H
    have A7 := zMk A70
    clear A70
    by_cases c8 : 0 ≤ (t555.length : Int)
    · rw [if_pos c8] at H
      have c8b0 := eq_true c8
      have c8b1 : decide (0 ≤ (t555.length : Int)) = true := decide_eq_true c8
      clear c8
      by_cases c9 : ((t555.length : Int) : Int).toNat ≤ 281474976710656
      rotate_left
      · rw [if_neg c9] at H; exact absurd H (by simp)
      rw [if_pos c9] at H
      have c9b0 := eq_true c9
      have c9b1 : decide (((t555.length : Int) : Int).toNat ≤ 281474976710656) = true := decide_eq_true c9
      clear c9
      obtain ⟨y558, hy558⟩ : ∃ y_ : List Int, y_ = (List.replicate ((t555.length : Int) : Int).toNat 0) := ⟨_, rfl⟩
      replace H : (r1_DivMod.l0 k t552 t555 y558 ([] : List Int) (wrap64 ((t555.length : Int) - 1))) = some (r1, r2, r3) := by first | (rw [hy558]; with_reducible exact H) | (have H2_ := (zOb _ _).symm.trans H; rw [hy558]; with_reducible exact H2_) | (have H2_ := (zOb _ _).symm.trans H; with_reducible exact H2_) | with_reducible exact H | (rw [hy558]; exact H) | exact H
      have Ny558 := zMk hy558
      clear hy558
      have H' := zMk H
      clear H
      go_enter Tryd.func26, Tryd.ntmps26
      go_wp2_with (first | ((with_reducible refine gate_callee (f := 20) rfl ?_); refine goesL_ (some 12) rfl rfl Tryd.func20 (by kernel_rfl) rfl #[.slice A1 l1.length c1] rfl (by (try simp only [List.map_toArray, List.map_cons, List.map_nil]); first | done | rfl | (simp only [zLd, zLt]; rfl)) ?_; (with_reducible refine (r1_Norm.calls k _ _ l1 t552 _ ?side1 ?side2 A3.out).mono ?_); (case side1 => repeat (first | exact HR1.out | (with_reducible refine zCa ?_ _) | (with_reducible refine zCn ?_ _) | (with_reducible refine zCd ?_))); (case side2 => exact HC1.out); rintro e w10 ⟨v553, rfl, ho0, hb⟩; refine ⟨_, rfl, ?_⟩; have n0_ := zMk (Kd.R_lower ho0 (zBs (by repeat (first | (with_reducible first | exact HB.out | apply zBa | apply zBn | apply zBd) | exact HB.out)))); have n1_ := zMk (zBt (by repeat (first | (with_reducible first | exact HB.out | apply zBa | apply zBn | apply zBd) | exact HB.out)) hb); clear HB; have HO554 := n0_; have HB := n1_; clear n0_ n1_; (try clear hb); (try clear hb2); (try clear hk); (try clear hi); (try clear ho0); obtain ⟨Ao11, co11, eo11⟩ := Kd.R_slice HO554.out; subst eo11) | ((with_reducible refine gate_callee (f := 42) rfl ?_); refine goesL_ (some 17) rfl rfl Tryd.func42 (by kernel_rfl) rfl #[.slice A0 l0.length c0] rfl (by (try simp only [List.map_toArray, List.map_cons, List.map_nil]); first | done | rfl | (simp only [zLd, zLt]; rfl)) ?_; (with_reducible refine (r1_bits.calls k _ _ l0 t555 _ ?side1 ?side2 A7.out).mono ?_); (case side1 => repeat (first | exact (Kd.C_below HR0.out HB.out) | (with_reducible refine zCa ?_ _) | (with_reducible refine zCn ?_ _) | (with_reducible refine zCd ?_))); (case side2 => exact HC0.out); rintro e w12 ⟨v556, rfl, ho0, hb⟩; refine ⟨_, rfl, ?_⟩; have n0_ := zMk (Kd.R_below (by (with_reducible repeat (first | apply zRa | apply zRn | apply zRd)); exact HO554.out) hb); have n1_ := zMk (Kd.R_lower ho0 (zBs (by repeat (first | (with_reducible first | exact HB.out | apply zBa | apply zBn | apply zBd) | exact HB.out)))); have n2_ := zMk (zBt (by repeat (first | (with_reducible first | exact HB.out | apply zBa | apply zBn | apply zBd) | exact HB.out)) hb); clear HO554; clear HB; have HO554 := n0_; have HO557 := n1_; have HB := n2_; clear n0_ n1_ n2_; (try clear hb); (try clear hb2); (try clear hk); (try clear hi); (try clear ho0); obtain ⟨Ao13, co13, eo13⟩ := Kd.R_slice HO557.out; subst eo13) | ((with_reducible refine gate_dst (N := 20) rfl ?_); refine Kd.R_make (Kd.int .u8) _ 5 rfl (N := 20) rfl 50 _ _ rfl (t555.length : Int) rfl rfl Tryd.underlying50 (.int .u8 0) 1 info5 rfl (by decide) (by omega) 0 (ok := fun _ => True) (okp := fun _ => True) rfl (fun _ hk => hk) trivial (of_decide_eq_true (by first | (with_reducible assumption) | assumption)) (Nat.le_trans (Nat.mul_le_mul_right _ (of_decide_eq_true (by first | (with_reducible assumption) | assumption) : (t555.length : Int).toNat ≤ 281474976710656)) (by omega)) (Below.refl _ _) (Nat.le_refl _) ?_; intro v559 w14 ho15 hb hg_ hnew_; clear hg_ hnew_; (first | rw [← Ny558.out] at ho15 | (simp only [Int.reduceToNat] at ho15; rw [← Ny558.out] at ho15)); have n0_ := zMk (Kd.R_below (by (with_reducible repeat (first | apply zRa | apply zRn | apply zRd)); exact HO554.out) hb); have n1_ := zMk (Kd.R_elder' (by (with_reducible repeat (first | apply zRa | apply zRn | apply zRd)); exact HO557.out) (Kd.R_base ho15) hb); have n2_ := zMk (Kd.R_lower (Kd.R_new' ho15 (Kd.R_lt (by (with_reducible repeat (first | apply zRa | apply zRn | apply zRd)); exact HO557.out))) (zBs (by repeat (first | (with_reducible first | exact HB.out | apply zBa | apply zBn | apply zBd) | exact HB.out)))); have n3_ := zMk (zBt (by repeat (first | (with_reducible first | exact HB.out | apply zBa | apply zBn | apply zBd) | exact HB.out)) hb); clear HO554; clear HO557; clear HB; have HO554 := n0_; have HO557 := n1_; have HO560 := n2_; have HB := n3_; clear n0_ n1_ n2_ n3_; clear hb ho15))
      go_loopg [9, 10] k (fun kq v9 v10 w' => ∃ (x8_1 : List Int) (x9_1 : List Int) (x10_1 : Int), v10 = .int .i64 x10_1 ∧ Aside0 (r1_DivMod.l0 kq t552 t555 x8_1 x9_1 x10_1 = some (r1, r2, r3)) ∧ Aside0 (kq ≤ k) ∧ Aside0 (Kd.R (Kd.int .u32) 36 w' w.heap.size (fun k_ => some k_ ≠ (v9 : Value).ownBlock) (.slice Ao11 t552.length co11) t552) ∧ Aside0 (Kd.R (Kd.int .u8) 5 w' w.heap.size (fun k_ => some k_ ≠ (v559 : Value).ownBlock) (.slice Ao13 t555.length co13) t555) ∧ Aside0 (Kd.R (Kd.int .u8) 5 w' w.heap.size (fun k_ => some k_ ≠ ((.slice Ao13 t555.length co13) : Value).ownBlock) v559 x8_1) ∧ Aside0 (Kd.R (Kd.int .u32) 36 w' w.heap.size (fun k_ => some k_ ≠ ((.slice Ao11 t552.length co11) : Value).ownBlock) v9 x9_1) ∧ Aside0 (Below w.heap.size w w'))
      case atStart => exact ⟨(y558), (([] : List Int)), (wrap64 ((t555.length : Int) - 1)), (by first | rfl | (simp; done) | (simp [*]; done)), H', ⟨Nat.le_refl _⟩, ⟨by (with_reducible repeat (first | apply zRa | apply zRn | apply zRd)); exact zRm HO554.out (fun _ hk => (by simp [Value.ownBlock]))⟩, ⟨by (with_reducible repeat (first | apply zRa | apply zRn | apply zRd)); exact zRm HO557.out (fun _ hk => hk.2)⟩, ⟨by (with_reducible repeat (first | apply zRa | apply zRn | apply zRd)); exact zRm HO560.out (fun _ hk => hk.2)⟩, ⟨by first | exact Kd.R_nil _ _ _ _ _ | exact Kd.N_nil _ _ _ _ _ | exact Kd.V_nil _ _ _ _ _ | exact Kd.Q_nil _ _ _ _ _ | exact Kd.S_nil _ _ _ _ _⟩, ⟨by repeat (first | (with_reducible first | exact HB.out | apply zBa | apply zBn | apply zBd) | exact HB.out)⟩⟩
      clear H'
      obtain ⟨x8_1, x9_1, x10_1, rfl, HA, HK1, HO_1, HO_7, HO_8, HO_9, HB⟩ := hrel
      rcases gk with _ | k1
      · exact absurd HA.out (by simp [r1_DivMod.l0])
      have H := HA.out
      clear HA
      simp only [r1_DivMod.l0] at H
      by_cases c16 : x10_1 ≥ 0
      · rw [if_pos c16] at H
        have c16b0 : decide (0 ≤ x10_1) = true := decide_eq_true c16
        clear c16
        by_cases c17 : 0 ≤ x10_1
        rotate_left
        · rw [if_neg c17] at H; exact absurd H (by simp)
        rw [if_pos c17] at H
        have c17b0 : decide (0 ≤ x10_1) = true := decide_eq_true c17
        clear c17
        by_cases c18 : x10_1 < (t555.length : Int)
        rotate_left
        · rw [if_neg c18] at H; exact absurd H (by simp)
        rw [if_pos c18] at H
        have c18b0 : decide (x10_1 < (t555.length : Int)) = true := decide_eq_true c18
        clear c18
        obtain ⟨y565, hy565⟩ : ∃ y_ : List Int, y_ = (([rd t555 x10_1] : List Int)) := ⟨_, rfl⟩
        replace H : ((r1_bits.f k1 x9_1).bind fun t568 => (if y565.length + t568.length < 140737488355328 then ((r1_limbs.f k1 (y565 ++ t568)).bind fun t574 => ((r1_Cmp.f k1 t574 t552).bind fun t577 => (if t577 ≥ 0 then ((r1_Sub.f k1 t574 t552).bind fun bt578 => (if x10_1 < (x8_1.length : Int) then (r1_DivMod.l0 k1 t552 t555 (x8_1.set (x10_1 : Int).toNat 1) bt578.1 (wrap64 (x10_1 - 1))) else (none))) else (r1_DivMod.l0 k1 t552 t555 x8_1 t574 (wrap64 (x10_1 - 1)))))) else (none))) = some (r1, r2, r3) := by first | (rw [hy565]; with_reducible exact H) | (have H2_ := (zOb _ _).symm.trans H; rw [hy565]; with_reducible exact H2_) | (have H2_ := (zOb _ _).symm.trans H; with_reducible exact H2_) | with_reducible exact H | (rw [hy565]; exact H) | exact H
        have Ny565 := zMk hy565
        clear hy565
        replace H := Option.bind_eq_some_iff.mp H
        obtain ⟨t568, A190, H⟩ := H
        have A19 := zMk A190
        clear A190
        by_cases c20 : y565.length + t568.length < 140737488355328
        rotate_left
        · rw [if_neg c20] at H; exact absurd H (by simp)
        rw [if_pos c20] at H
        have LMc20 := zMk c20
        clear c20
        obtain ⟨y571, hy571⟩ : ∃ y_ : List Int, y_ = (y565 ++ t568) := ⟨_, rfl⟩
        replace H : ((r1_limbs.f k1 y571).bind fun t574 => ((r1_Cmp.f k1 t574 t552).bind fun t577 => (if t577 ≥ 0 then ((r1_Sub.f k1 t574 t552).bind fun bt578 => (if x10_1 < (x8_1.length : Int) then (r1_DivMod.l0 k1 t552 t555 (x8_1.set (x10_1 : Int).toNat 1) bt578.1 (wrap64 (x10_1 - 1))) else (none))) else (r1_DivMod.l0 k1 t552 t555 x8_1 t574 (wrap64 (x10_1 - 1)))))) = some (r1, r2, r3) := by first | (rw [hy571]; with_reducible exact H) | (have H2_ := (zOb _ _).symm.trans H; rw [hy571]; with_reducible exact H2_) | (have H2_ := (zOb _ _).symm.trans H; with_reducible exact H2_) | with_reducible exact H | (rw [hy571]; exact H) | exact H
        have Ny571 := zMk hy571
        clear hy571
        replace H := Option.bind_eq_some_iff.mp H
        obtain ⟨t574, A210, H⟩ := H
        have A21 := zMk A210
        clear A210
        replace H := Option.bind_eq_some_iff.mp H
        obtain ⟨t577, A220, H⟩ := H
        have A22 := zMk A220
        clear A220
        by_cases c23 : t577 ≥ 0
        · rw [if_pos c23] at H
          have c23b0 : decide (0 ≤ t577) = true := decide_eq_true c23
          clear c23
          replace H := Option.bind_eq_some_iff.mp H
          obtain ⟨⟨t578, t579⟩, A240, H⟩ := H
          replace H : (if x10_1 < (x8_1.length : Int) then (r1_DivMod.l0 k1 t552 t555 (x8_1.set (x10_1 : Int).toNat 1) t578 (wrap64 (x10_1 - 1))) else (none)) = some (r1, r2, r3) := H
          have A24 := zMk A240
          clear A240
          by_cases c25 : x10_1 < (x8_1.length : Int)
          rotate_left
          · rw [if_neg c25] at H; exact absurd H (by simp)
          rw [if_pos c25] at H
          have c25b0 : decide (x10_1 < (x8_1.length : Int)) = true := decide_eq_true c25
          clear c25
          obtain ⟨y582, hy582⟩ : ∃ y_ : List Int, y_ = (x8_1.set (x10_1 : Int).toNat 1) := ⟨_, rfl⟩
          replace H : (r1_DivMod.l0 k1 t552 t555 y582 t578 (wrap64 (x10_1 - 1))) = some (r1, r2, r3) := by first | (rw [hy582]; with_reducible exact H) | (have H2_ := (zOb _ _).symm.trans H; rw [hy582]; with_reducible exact H2_) | (have H2_ := (zOb _ _).symm.trans H; with_reducible exact H2_) | with_reducible exact H | (rw [hy582]; exact H) | exact H
          have Ny582 := zMk hy582
          clear hy582
          have H' := zMk H
          clear H
          obtain ⟨Ao27, co27, eo27⟩ := Kd.R_slice HO_9.out
          subst eo27
          try go_wp2
          have n0_ := zMk (zRd HO_1.out)
          have n1_ := zMk (zRd HO_7.out)
          have n2_ := zMk (zRd HO_8.out)
          have n3_ := zMk (zRd HO_9.out)
          have n4_ := zMk (zBd HB.out)
          clear HO_1
          clear HO_7
          clear HO_8
          clear HO_9
          clear HB
          have HO_1 := n0_
          have HO_7 := n1_
          have HO_8 := n2_
          have HO_9 := n3_
          have HB := n4_
          clear n0_ n1_ n2_ n3_ n4_
          have p564 : 0 ≤ (x10_1 : Int) := of_decide_eq_true (by first | (with_reducible assumption) | assumption)
          have q564 : x10_1 < (t555.length : Int) := of_decide_eq_true (by first | (with_reducible assumption) | assumption)
          obtain ⟨ad564, e564, hx564_0⟩ := zAi (Kd.R_reads' HO_7.out).2.2 x10_1 p564 q564
          cases e564
          replace p564 := eq_true p564
          replace q564 := eq_true q564
          refine start_ (n := 10) (S := fun w' => w'.cell? (ad564.add (x10_1).toNat) = some (.int .u8 (rd t555 x10_1))) (ds := [7]) #[false, false, false, false, false, false, false, false, false, false] (by kernel_rfl) rfl rfl (hx564_0) (fun hHeld => ?_); refine with_tabW r1_DivMod.tab10 r1_DivMod.bits10 (fun HT_ HW_ => ?_)
          generalize wr.drew = w28 at HO_1 HO_7 HO_8 HO_9 HB hx564_0 hHeld ⊢
          refine pure_ (i := 0) (N := some 28) (v := ?_) (a' := ?_) #[true, false, false, false, false, false, false, false, false, false] rfl rfl (any_of HT_.out (by kernel_rfl)) (fun _ _ _ h => h) (Or.inl ⟨by rfl, ?_⟩) ?_ ?_
          rotate_left
          · intro w'
            go_simp
            with_reducible rfl
          rotate_left
          · simp only [Act.put, zSa, zSb, zSc, i64_w, i32_w]
            rfl
          refine pure_ (i := 1) (N := some 29) (v := ?_) (a' := ?_) #[true, true, false, false, false, false, false, false, false, false] rfl rfl (any_of HT_.out (by kernel_rfl)) (fun _ _ _ h => h) (Or.inl ⟨by rfl, ?_⟩) ?_ ?_
          rotate_left
          · intro w'
            go_simp
            with_reducible rfl
          rotate_left
          · simp only [Act.put, zSa, zSb, zSc, i64_w, i32_w]
            rfl
          refine pure_ (i := 2) (N := some 30) (v := ?_) (a' := ?_) #[true, true, true, false, false, false, false, false, false, false] rfl rfl (any_of HT_.out (by kernel_rfl)) (fun _ _ _ h => h) (Or.inl ⟨by rfl, ?_⟩) ?_ ?_
          rotate_left
          · intro w'
            go_simp
            with_reducible rfl
          rotate_left
          · simp only [Act.put, zSa, zSb, zSc, i64_w, i32_w]
            rfl
          refine pure_ (i := 5) (N := some 33) (v := ?_) (a' := ?_) #[true, true, true, false, false, true, false, false, false, false] rfl rfl (any_of HT_.out (by kernel_rfl)) (fun _ _ _ h => h) (Or.inl ⟨by rfl, ?_⟩) ?_ ?_
          rotate_left
          · intro w'
            go_simp
            with_reducible rfl
          rotate_left
          · simp only [Act.put, zSa, zSb, zSc, i64_w, i32_w]
            rfl
          refine take_ (i := 3) (N := some 31) (v := ?_) (a' := ?_) #[true, true, true, true, false, true, false, false, false, false] rfl rfl (take_ofW HT_.out HW_.out (by kernel_rfl)) (fun _ _ _ h => h) (Or.inl ⟨by rfl, ?_⟩) hHeld ?_ ?_
          rotate_left
          · intro w' s0
            go_simp
            with_reducible rfl
          rotate_left
          · simp only [Act.put, zSa, zSb, zSc, i64_w, i32_w]
            rfl
          refine join_ (σ := Value × Value) 3 #[true, true, true, true, true, true, true, false, false, false] (fun s_ => [(32, s_.1), (34, s_.2)]) (fun s_ w' => (w'.cell? (ad564.add (x10_1).toNat) = some (.int .u8 (rd t555 x10_1))) ∧ (Kd.R (Kd.int .u8) 5 w' w.heap.size (fun k_ => some k_ ≠ (s_.2 : Value).ownBlock ∧ some k_ ≠ (.slice (some ad564) t555.length co13 : Value).ownBlock ∧ some k_ ≠ (v559 : Value).ownBlock) s_.1 y565) ∧ (Kd.R (Kd.int .u8) 5 w' w.heap.size (fun k_ => some k_ ≠ (s_.1 : Value).ownBlock ∧ some k_ ≠ (.slice (some ad564) t555.length co13 : Value).ownBlock ∧ some k_ ≠ (v559 : Value).ownBlock) s_.2 t568) ∧ (Kd.R (Kd.int .u32) 36 w' w.heap.size (fun k_ => some k_ ≠ (.slice Ao27 x9_1.length co27 : Value).ownBlock) (.slice Ao11 t552.length co11) t552) ∧ (Kd.R (Kd.int .u8) 5 w' w.heap.size (fun k_ => some k_ ≠ (s_.1 : Value).ownBlock ∧ some k_ ≠ (s_.2 : Value).ownBlock ∧ some k_ ≠ (v559 : Value).ownBlock) (.slice (some ad564) t555.length co13) t555) ∧ (Kd.R (Kd.int .u8) 5 w' w.heap.size (fun k_ => some k_ ≠ (s_.1 : Value).ownBlock ∧ some k_ ≠ (s_.2 : Value).ownBlock ∧ some k_ ≠ (.slice (some ad564) t555.length co13 : Value).ownBlock) v559 x8_1) ∧ (Kd.R (Kd.int .u32) 36 w' w.heap.size (fun k_ => some k_ ≠ (.slice Ao11 t552.length co11 : Value).ownBlock) (.slice Ao27 x9_1.length co27) x9_1) ∧ (Below w.heap.size w w')) ?_ ?_
          rotate_left
          · intro hCont
            refine two_ (i := 4) (j := 6) (Ni := some 32) (Nj := some 34) #[true, true, true, true, true, true, false, false, false, false] #[true, true, true, true, false, true, true, false, false, false] rfl rfl rfl rfl (two_of HT_.out (by kernel_rfl)) (by decide) (by decide) (fun K hK => ?_) (fun K hK => ?_)
            · skip
              refine Kd.R_lit_step (Kd.int .u8) _ 5 ?hg (N := 32) ?hd (xs := ([rd t555 x10_1] : List Int)) (inner := [.int .u8 (rd t555 x10_1)]) (ok := fun _ => True) (okp := fun _ => True) ?hr ?hp (fun _ hk => hk) trivial (Below.refl _ _) (Nat.le_refl _) (by simp) ?_; (case hd => rfl); (case hg => rfl); (case hr => first | (go_simp; done) | (go_simp; rfl) | (go_simp; rw [show ∀ x : Int, IntKind.u32.wrap (IntKind.u8.wrap x) = x % 256 from fun x => (by show (x % 256) % 4294967296 = x % 256; omega)])); (case hp => exact (Reps.one (show Kd.M (Kd.int .u8) _ _ _ (rd t555 x10_1) [.int .u8 (rd t555 x10_1)] from rfl) (Reps.none _ _)))
              intro v566 w29 ho30 hb hg_ hnew_
              have HS0_ := (hb.cell (World.block_lt_of_cell? _ _ (hHeld))).trans (hHeld)
              clear hg_ hnew_
              (first | rw [← Ny565.out] at ho30 | (simp only [Int.reduceToNat] at ho30; rw [← Ny565.out] at ho30))
              have n0_ := zMk (Kd.R_below (by (with_reducible repeat (first | apply zRa | apply zRn | apply zRd)); exact HO_1.out) hb)
              have n1_ := zMk (Kd.R_elder' (by (with_reducible repeat (first | apply zRa | apply zRn | apply zRd)); exact HO_7.out) (Kd.R_base ho30) hb)
              have n2_ := zMk (Kd.R_elder' (by (with_reducible repeat (first | apply zRa | apply zRn | apply zRd)); exact HO_8.out) (Kd.R_base ho30) hb)
              have n3_ := zMk (Kd.R_below (by (with_reducible repeat (first | apply zRa | apply zRn | apply zRd)); exact HO_9.out) hb)
              have n4_ := zMk (Kd.R_lower (Kd.R_new' (Kd.R_new' ho30 (Kd.R_lt (by (with_reducible repeat (first | apply zRa | apply zRn | apply zRd)); exact HO_7.out))) (Kd.R_lt (by (with_reducible repeat (first | apply zRa | apply zRn | apply zRd)); exact HO_8.out))) (zBs (by repeat (first | (with_reducible first | exact HB.out | apply zBa | apply zBn | apply zBd) | exact HB.out))))
              have n5_ := zMk (zBt (by repeat (first | (with_reducible first | exact HB.out | apply zBa | apply zBn | apply zBd) | exact HB.out)) hb)
              clear HO_1
              clear HO_7
              clear HO_8
              clear HO_9
              clear HB
              have HO_1 := n0_
              have HO_7 := n1_
              have HO_8 := n2_
              have HO_9 := n3_
              have HO567 := n4_
              have HB := n5_
              clear n0_ n1_ n2_ n3_ n4_ n5_
              clear hb ho30
              refine hK.out _ _ (HS0_) (fun hHeld => ?_)
              clear hK K
              refine norm_ (a' := ?_) ?_ ?_
              rotate_left
              · show Act.put _ (some 32) _ = _
                simp only [Act.put, zSa, zSb, zSc, i64_w, i32_w]
                rfl
              refine one_ (i := 6) (N := some 34) #[true, true, true, true, true, true, true, false, false, false] rfl rfl (one_of HT_.out (by kernel_rfl)) (by decide) (fun K hK => ?_)
              refine goes_ Tryd.func42 (by kernel_rfl) rfl #[.slice Ao27 x9_1.length co27] (by rfl) rfl rfl (by (try simp only [List.map_toArray, List.map_cons, List.map_nil]); first | done | rfl | (simp only [zLd, zLt]; rfl)) ?_
              with_reducible refine (r1_bits.calls k1 _ _ x9_1 t568 _ ?side1 ?side2 A19.out).mono ?_
              (case side1 => repeat (first | exact (Kd.R_reads' HO_9.out).2.2 | (with_reducible refine zCa ?_ _) | (with_reducible refine zCn ?_ _) | (with_reducible refine zCd ?_)))
              (case side2 => exact (Kd.R_reads' HO_9.out).2.1)
              rintro e w31 ⟨v569, rfl, ho0, hb⟩
              have HS0_ := (hb.cell (World.block_lt_of_cell? _ _ (hHeld))).trans (hHeld)
              refine ⟨_, rfl, ?_⟩
              have n0_ := zMk (Kd.R_below (by (with_reducible repeat (first | apply zRa | apply zRn | apply zRd)); exact HO_1.out) hb)
              have n1_ := zMk (Kd.R_elder' (by (with_reducible repeat (first | apply zRa | apply zRn | apply zRd)); exact HO_7.out) (Kd.R_base ho0) hb)
              have n2_ := zMk (Kd.R_elder' (by (with_reducible repeat (first | apply zRa | apply zRn | apply zRd)); exact HO_8.out) (Kd.R_base ho0) hb)
              have n3_ := zMk (Kd.R_below (by (with_reducible repeat (first | apply zRa | apply zRn | apply zRd)); exact HO_9.out) hb)
              have n4_ := zMk (Kd.R_elder' (by (with_reducible repeat (first | apply zRa | apply zRn | apply zRd)); exact HO567.out) (Kd.R_base ho0) hb)
              have n5_ := zMk (Kd.R_lower (Kd.R_new' (Kd.R_new' (Kd.R_new' ho0 (Kd.R_lt (by (with_reducible repeat (first | apply zRa | apply zRn | apply zRd)); exact HO_7.out))) (Kd.R_lt (by (with_reducible repeat (first | apply zRa | apply zRn | apply zRd)); exact HO_8.out))) (Kd.R_lt (by (with_reducible repeat (first | apply zRa | apply zRn | apply zRd)); exact HO567.out))) (zBs (by repeat (first | (with_reducible first | exact HB.out | apply zBa | apply zBn | apply zBd) | exact HB.out))))
              have n6_ := zMk (zBt (by repeat (first | (with_reducible first | exact HB.out | apply zBa | apply zBn | apply zBd) | exact HB.out)) hb)
              clear HO_1
              clear HO_7
              clear HO_8
              clear HO_9
              clear HO567
              clear HB
              have HO_1 := n0_
              have HO_7 := n1_
              have HO_8 := n2_
              have HO_9 := n3_
              have HO567 := n4_
              have HO570 := n5_
              have HB := n6_
              clear n0_ n1_ n2_ n3_ n4_ n5_ n6_
              (try clear hb)
              (try clear hb2)
              (try clear hk)
              (try clear hi)
              (try clear ho0)
              refine hK.out _ _ (HS0_) (fun hHeld => ?_)
              clear hK K
              refine norm_ (a' := ?_) ?_ ?_
              rotate_left
              · show Act.put _ (some 34) _ = _
                simp only [Act.put, zSa, zSb, zSc, i64_w, i32_w]
                rfl
              exact norm_ (by simp only [putAll, Act.put, zSa, zSb, zSc]) (hCont (v566, v569) _ ⟨hHeld, (by (with_reducible repeat (first | apply zRa | apply zRn | apply zRd)); exact zRm HO567.out (fun _ hk => ⟨hk.2, ⟨hk.1.1.2, hk.1.2⟩⟩)), (by (with_reducible repeat (first | apply zRa | apply zRn | apply zRd)); exact zRm HO570.out (fun _ hk => ⟨hk.2, ⟨hk.1.1.2, hk.1.2⟩⟩)), (by (with_reducible repeat (first | apply zRa | apply zRn | apply zRd)); exact HO_1.out), (by (with_reducible repeat (first | apply zRa | apply zRn | apply zRd)); exact zRm HO_7.out (fun _ hk => ⟨hk.1.2, ⟨hk.2, hk.1.1⟩⟩)), (by (with_reducible repeat (first | apply zRa | apply zRn | apply zRd)); exact zRm HO_8.out (fun _ hk => ⟨hk.1.2, ⟨hk.2, hk.1.1⟩⟩)), (by (with_reducible repeat (first | apply zRa | apply zRn | apply zRd)); exact HO_9.out), (by repeat (first | (with_reducible first | exact HB.out | apply zBa | apply zBn | apply zBd) | exact HB.out))⟩)
            · skip
              refine goes_ Tryd.func42 (by kernel_rfl) rfl #[.slice Ao27 x9_1.length co27] (by rfl) rfl rfl (by (try simp only [List.map_toArray, List.map_cons, List.map_nil]); first | done | rfl | (simp only [zLd, zLt]; rfl)) ?_
              with_reducible refine (r1_bits.calls k1 _ _ x9_1 t568 _ ?side1 ?side2 A19.out).mono ?_
              (case side1 => repeat (first | exact (Kd.R_reads' HO_9.out).2.2 | (with_reducible refine zCa ?_ _) | (with_reducible refine zCn ?_ _) | (with_reducible refine zCd ?_)))
              (case side2 => exact (Kd.R_reads' HO_9.out).2.1)
              rintro e w29 ⟨v569, rfl, ho0, hb⟩
              have HS0_ := (hb.cell (World.block_lt_of_cell? _ _ (hHeld))).trans (hHeld)
              refine ⟨_, rfl, ?_⟩
              have n0_ := zMk (Kd.R_below (by (with_reducible repeat (first | apply zRa | apply zRn | apply zRd)); exact HO_1.out) hb)
              have n1_ := zMk (Kd.R_elder' (by (with_reducible repeat (first | apply zRa | apply zRn | apply zRd)); exact HO_7.out) (Kd.R_base ho0) hb)
              have n2_ := zMk (Kd.R_elder' (by (with_reducible repeat (first | apply zRa | apply zRn | apply zRd)); exact HO_8.out) (Kd.R_base ho0) hb)
              have n3_ := zMk (Kd.R_below (by (with_reducible repeat (first | apply zRa | apply zRn | apply zRd)); exact HO_9.out) hb)
              have n4_ := zMk (Kd.R_lower (Kd.R_new' (Kd.R_new' ho0 (Kd.R_lt (by (with_reducible repeat (first | apply zRa | apply zRn | apply zRd)); exact HO_7.out))) (Kd.R_lt (by (with_reducible repeat (first | apply zRa | apply zRn | apply zRd)); exact HO_8.out))) (zBs (by repeat (first | (with_reducible first | exact HB.out | apply zBa | apply zBn | apply zBd) | exact HB.out))))
              have n5_ := zMk (zBt (by repeat (first | (with_reducible first | exact HB.out | apply zBa | apply zBn | apply zBd) | exact HB.out)) hb)
              clear HO_1
              clear HO_7
              clear HO_8
              clear HO_9
              clear HB
              have HO_1 := n0_
              have HO_7 := n1_
              have HO_8 := n2_
              have HO_9 := n3_
              have HO570 := n4_
              have HB := n5_
              clear n0_ n1_ n2_ n3_ n4_ n5_
              (try clear hb)
              (try clear hb2)
              (try clear hk)
              (try clear hi)
              (try clear ho0)
              refine hK.out _ _ (HS0_) (fun hHeld => ?_)
              clear hK K
              refine norm_ (a' := ?_) ?_ ?_
              rotate_left
              · show Act.put _ (some 34) _ = _
                simp only [Act.put, zSa, zSb, zSc, i64_w, i32_w]
                rfl
              refine one_ (i := 4) (N := some 32) #[true, true, true, true, true, true, true, false, false, false] rfl rfl (one_of HT_.out (by kernel_rfl)) (by decide) (fun K hK => ?_)
              refine Kd.R_lit_step (Kd.int .u8) _ 5 ?hg (N := 32) ?hd (xs := ([rd t555 x10_1] : List Int)) (inner := [.int .u8 (rd t555 x10_1)]) (ok := fun _ => True) (okp := fun _ => True) ?hr ?hp (fun _ hk => hk) trivial (Below.refl _ _) (Nat.le_refl _) (by simp) ?_; (case hd => rfl); (case hg => rfl); (case hr => first | (go_simp; done) | (go_simp; rfl) | (go_simp; rw [show ∀ x : Int, IntKind.u32.wrap (IntKind.u8.wrap x) = x % 256 from fun x => (by show (x % 256) % 4294967296 = x % 256; omega)])); (case hp => exact (Reps.one (show Kd.M (Kd.int .u8) _ _ _ (rd t555 x10_1) [.int .u8 (rd t555 x10_1)] from rfl) (Reps.none _ _)))
              intro v566 w30 ho31 hb hg_ hnew_
              have HS0_ := (hb.cell (World.block_lt_of_cell? _ _ (hHeld))).trans (hHeld)
              clear hg_ hnew_
              (first | rw [← Ny565.out] at ho31 | (simp only [Int.reduceToNat] at ho31; rw [← Ny565.out] at ho31))
              have n0_ := zMk (Kd.R_below (by (with_reducible repeat (first | apply zRa | apply zRn | apply zRd)); exact HO_1.out) hb)
              have n1_ := zMk (Kd.R_elder' (by (with_reducible repeat (first | apply zRa | apply zRn | apply zRd)); exact HO_7.out) (Kd.R_base ho31) hb)
              have n2_ := zMk (Kd.R_elder' (by (with_reducible repeat (first | apply zRa | apply zRn | apply zRd)); exact HO_8.out) (Kd.R_base ho31) hb)
              have n3_ := zMk (Kd.R_below (by (with_reducible repeat (first | apply zRa | apply zRn | apply zRd)); exact HO_9.out) hb)
              have n4_ := zMk (Kd.R_elder' (by (with_reducible repeat (first | apply zRa | apply zRn | apply zRd)); exact HO570.out) (Kd.R_base ho31) hb)
              have n5_ := zMk (Kd.R_lower (Kd.R_new' (Kd.R_new' (Kd.R_new' ho31 (Kd.R_lt (by (with_reducible repeat (first | apply zRa | apply zRn | apply zRd)); exact HO_7.out))) (Kd.R_lt (by (with_reducible repeat (first | apply zRa | apply zRn | apply zRd)); exact HO_8.out))) (Kd.R_lt (by (with_reducible repeat (first | apply zRa | apply zRn | apply zRd)); exact HO570.out))) (zBs (by repeat (first | (with_reducible first | exact HB.out | apply zBa | apply zBn | apply zBd) | exact HB.out))))
              have n6_ := zMk (zBt (by repeat (first | (with_reducible first | exact HB.out | apply zBa | apply zBn | apply zBd) | exact HB.out)) hb)
              clear HO_1
              clear HO_7
              clear HO_8
              clear HO_9
              clear HO570
              clear HB
              have HO_1 := n0_
              have HO_7 := n1_
              have HO_8 := n2_
              have HO_9 := n3_
              have HO570 := n4_
              have HO567 := n5_
              have HB := n6_
              clear n0_ n1_ n2_ n3_ n4_ n5_ n6_
              clear hb ho31
              refine hK.out _ _ (HS0_) (fun hHeld => ?_)
              clear hK K
              refine norm_ (a' := ?_) ?_ ?_
              rotate_left
              · show Act.put _ (some 32) _ = _
                simp only [Act.put, zSa, zSb, zSc, i64_w, i32_w]
                rfl
              exact norm_ (by simp only [putAll, Act.put, zSa, zSb, zSc]) (hCont (v566, v569) _ ⟨hHeld, (by (with_reducible repeat (first | apply zRa | apply zRn | apply zRd)); exact zRm HO567.out (fun _ hk => ⟨hk.2, ⟨hk.1.1.2, hk.1.2⟩⟩)), (by (with_reducible repeat (first | apply zRa | apply zRn | apply zRd)); exact zRm HO570.out (fun _ hk => ⟨hk.2, ⟨hk.1.1.2, hk.1.2⟩⟩)), (by (with_reducible repeat (first | apply zRa | apply zRn | apply zRd)); exact HO_1.out), (by (with_reducible repeat (first | apply zRa | apply zRn | apply zRd)); exact zRm HO_7.out (fun _ hk => ⟨hk.2, ⟨hk.1.2, hk.1.1⟩⟩)), (by (with_reducible repeat (first | apply zRa | apply zRn | apply zRd)); exact zRm HO_8.out (fun _ hk => ⟨hk.2, ⟨hk.1.2, hk.1.1⟩⟩)), (by (with_reducible repeat (first | apply zRa | apply zRn | apply zRd)); exact HO_9.out), (by repeat (first | (with_reducible first | exact HB.out | apply zBa | apply zBn | apply zBd) | exact HB.out))⟩)
          rintro ⟨v566, v569⟩ w32 ⟨hS_, h0_, h1_, h2_, h3_, h4_, h5_, h6_⟩
          have n0_ : Aside0 (Kd.R (Kd.int .u8) 5 w32 w.heap.size (fun k_ => some k_ ≠ (v569 : Value).ownBlock ∧ some k_ ≠ (.slice (some ad564) t555.length co13 : Value).ownBlock ∧ some k_ ≠ (v559 : Value).ownBlock) v566 y565) := ⟨h0_⟩
          have n1_ : Aside0 (Kd.R (Kd.int .u8) 5 w32 w.heap.size (fun k_ => some k_ ≠ (v566 : Value).ownBlock ∧ some k_ ≠ (.slice (some ad564) t555.length co13 : Value).ownBlock ∧ some k_ ≠ (v559 : Value).ownBlock) v569 t568) := ⟨h1_⟩
          have n2_ : Aside0 (Kd.R (Kd.int .u32) 36 w32 w.heap.size (fun k_ => some k_ ≠ (.slice Ao27 x9_1.length co27 : Value).ownBlock) (.slice Ao11 t552.length co11) t552) := ⟨h2_⟩
          have n3_ : Aside0 (Kd.R (Kd.int .u8) 5 w32 w.heap.size (fun k_ => some k_ ≠ (v566 : Value).ownBlock ∧ some k_ ≠ (v569 : Value).ownBlock ∧ some k_ ≠ (v559 : Value).ownBlock) (.slice (some ad564) t555.length co13) t555) := ⟨h3_⟩
          have n4_ : Aside0 (Kd.R (Kd.int .u8) 5 w32 w.heap.size (fun k_ => some k_ ≠ (v566 : Value).ownBlock ∧ some k_ ≠ (v569 : Value).ownBlock ∧ some k_ ≠ (.slice (some ad564) t555.length co13 : Value).ownBlock) v559 x8_1) := ⟨h4_⟩
          have n5_ : Aside0 (Kd.R (Kd.int .u32) 36 w32 w.heap.size (fun k_ => some k_ ≠ (.slice Ao11 t552.length co11 : Value).ownBlock) (.slice Ao27 x9_1.length co27) x9_1) := ⟨h5_⟩
          have n6_ : Aside0 (Below w.heap.size w w32) := ⟨h6_⟩
          clear HO_1
          clear HO_7
          clear HO_8
          clear HO_9
          clear HB
          clear h0_ h1_ h2_ h3_ h4_ h5_ h6_
          have HO567 := n0_
          have HO570 := n1_
          have HO_1 := n2_
          have HO_7 := n3_
          have HO_8 := n4_
          have HO_9 := n5_
          have HB := n6_
          clear n0_ n1_ n2_ n3_ n4_ n5_ n6_
          have hHeld : w32.cell? (ad564.add (x10_1).toNat) = some (.int .u8 (rd t555 x10_1)) := hS_
          obtain ⟨Ao34, co34, eo34⟩ := Kd.R_slice HO570.out
          (first | subst eo34 | (injection eo34 with f1_ f2_ f3_; have f4_ := f1_.symm; have f5_ := f3_.symm; clear f1_ f2_ f3_; subst f4_; subst f5_))
          refine norm_ (a' := ?_) ?_ ?_
          rotate_left
          · simp only [putAll, Act.put, zSa, zSb, zSc]
            rfl
          refine last_ (i := 7) (N := some 35) #[true, true, true, true, true, true, true, true, false, false] rfl rfl (one_of HT_.out (by kernel_rfl)) (by decide) (fun K hK => ?_)
          refine Kd.R_append_rows_step (Kd.int .u8) (w0 := w) w.heap.size (by rfl) (.tmp 32) (.tmp 34) 50 5 (.int .u8 0) 1 rfl Tryd.underlying50 info5 rfl (by decide) (by omega) v566 y565 t568 _ _ _ (fun k_ => some k_ ≠ (.slice (some ad564) t555.length co13 : Value).ownBlock ∧ some k_ ≠ (v559 : Value).ownBlock ∧ some k_ ≠ (.slice Ao34 t568.length co34 : Value).ownBlock) (fun _ => False) rfl rfl ?aO ?aR (fun _ _ h => h) (fun _ h => h.elim) ?aF ?aB ?aS ?aL ?_
          (case aR => repeat (first | exact (Kd.R_reads' HO570.out).2.2 | (with_reducible refine zCa ?_ _) | (with_reducible refine zCn ?_ _) | (with_reducible refine zCd ?_)))
          (case aB => exact (by repeat (first | (with_reducible first | exact HB.out | apply zBa | apply zBn | apply zBd) | exact HB.out)))
          (case aF => exact (fun k_ hk => ⟨Kd.fresh' (Kd.R_lt (by (with_reducible repeat (first | apply zRa | apply zRn | apply zRd)); exact HO_7.out)) k_ hk, Kd.fresh' (Kd.R_lt (by (with_reducible repeat (first | apply zRa | apply zRn | apply zRd)); exact HO_8.out)) k_ hk, Kd.fresh' (Kd.R_lt (by (with_reducible repeat (first | apply zRa | apply zRn | apply zRd)); exact HO570.out)) k_ hk⟩))
          (case aO => exact (by (with_reducible repeat (first | apply zRa | apply zRn | apply zRd)); exact zRm HO567.out (fun _ hk => ⟨hk.2.1, ⟨hk.2.2, hk.1⟩⟩)))
          (case aS => exact (zBs (by repeat (first | (with_reducible first | exact HB.out | apply zBa | apply zBn | apply zBd) | exact HB.out))))
          (case aL => have := LMc20.out; omega)
          intro v572 w33 ho hb hg hat
          rw [← Ny571.out] at ho
          have n0_ := zMk (Kd.R_over' (by (with_reducible repeat (first | apply zRa | apply zRn | apply zRd)); exact HO_1.out) (Kd.R_typed (by (with_reducible repeat (first | apply zRa | apply zRn | apply zRd)); exact HO567.out)) (by decide) hg)
          have n1_ := zMk (Kd.R_after (ok := (fun k_ => some k_ ≠ (v559 : Value).ownBlock ∧ some k_ ≠ (.slice Ao34 t568.length co34 : Value).ownBlock)) (by (with_reducible repeat (first | apply zRa | apply zRn | apply zRd)); exact zRm HO_7.out (fun _ hk => ⟨⟨hk.2.2, hk.2.1⟩, hk.1⟩)) hg hat)
          have n2_ := zMk (Kd.R_after (ok := (fun k_ => some k_ ≠ (.slice (some ad564) t555.length co13 : Value).ownBlock ∧ some k_ ≠ (.slice Ao34 t568.length co34 : Value).ownBlock)) (by (with_reducible repeat (first | apply zRa | apply zRn | apply zRd)); exact zRm HO_8.out (fun _ hk => ⟨⟨hk.2.2, hk.2.1⟩, hk.1⟩)) hg hat)
          have n3_ := zMk (Kd.R_over' (by (with_reducible repeat (first | apply zRa | apply zRn | apply zRd)); exact HO_9.out) (Kd.R_typed (by (with_reducible repeat (first | apply zRa | apply zRn | apply zRd)); exact HO567.out)) (by decide) hg)
          have n4_ := zMk (Kd.R_after (ok := (fun k_ => some k_ ≠ (.slice (some ad564) t555.length co13 : Value).ownBlock ∧ some k_ ≠ (v559 : Value).ownBlock)) (by (with_reducible repeat (first | apply zRa | apply zRn | apply zRd)); exact zRm HO570.out (fun _ hk => ⟨⟨hk.2.1, hk.2.2⟩, hk.1⟩)) hg hat)
          have n5_ := zMk (hb)
          have n6_ := zMk (ho)
          clear HO_1
          clear HO_7
          clear HO_8
          clear HO_9
          clear HO570
          clear HB
          clear HO567
          have HO_1 := n0_
          have HO_7 := n1_
          have HO_8 := n2_
          have HO_9 := n3_
          have HO570 := n4_
          have HB := n5_
          have HO573 := n6_
          clear n0_ n1_ n2_ n3_ n4_ n5_ n6_
          clear ho hb hg hat
          obtain ⟨adx_, ex_, hH2_⟩ := zAi (Kd.R_reads' HO_7.out).2.2 x10_1 (by first | assumption | exact of_eq_true (by assumption) | exact of_decide_eq_true (by assumption)) (by first | assumption | exact of_eq_true (by assumption) | exact of_decide_eq_true (by assumption))
          cases ex_
          clear hHeld
          have hHeld := hH2_
          clear hH2_
          obtain ⟨Ao35, co35, eo35⟩ := Kd.R_slice HO573.out
          (first | subst eo35 | (injection eo35 with f1_ f2_ f3_; have f4_ := f1_.symm; have f5_ := f3_.symm; clear f1_ f2_ f3_; subst f4_; subst f5_))
          refine hK.out _ _ ?_
          clear hK K
          refine norm_ (a' := ?_) ?_ ?_
          rotate_left
          · show Act.put _ (some 35) _ = _
            simp only [Act.put, zSa, zSb, zSc, i64_w, i32_w]
            rfl
          refine one_ (i := 8) (N := some 36) #[true, true, true, true, true, true, true, true, true, false] rfl rfl (one_of HT_.out (by kernel_rfl)) (by decide) (fun K hK => ?_)
          refine goes_ Tryd.func45 (by kernel_rfl) rfl #[.slice Ao35 y571.length co35] (by rfl) rfl rfl (by (try simp only [List.map_toArray, List.map_cons, List.map_nil]); first | done | rfl | (simp only [zLd, zLt]; rfl)) ?_
          with_reducible refine (r1_limbs.calls k1 _ _ y571 t574 _ ?side1 ?side2 A21.out).mono ?_
          (case side1 => repeat (first | exact (Kd.R_reads' HO573.out).2.2 | (with_reducible refine zCa ?_ _) | (with_reducible refine zCn ?_ _) | (with_reducible refine zCd ?_)))
          (case side2 => exact (Kd.R_reads' HO573.out).2.1)
          rintro e w36 ⟨v575, rfl, ho0, hb⟩
          have HS0_ := (hb.cell (World.block_lt_of_cell? _ _ (hHeld))).trans (hHeld)
          refine ⟨_, rfl, ?_⟩
          have n0_ := zMk (Kd.R_elder' (by (with_reducible repeat (first | apply zRa | apply zRn | apply zRd)); exact HO_1.out) (Kd.R_base ho0) hb)
          have n1_ := zMk (Kd.R_below (by (with_reducible repeat (first | apply zRa | apply zRn | apply zRd)); exact HO_7.out) hb)
          have n2_ := zMk (Kd.R_below (by (with_reducible repeat (first | apply zRa | apply zRn | apply zRd)); exact HO_8.out) hb)
          have n3_ := zMk (Kd.R_elder' (by (with_reducible repeat (first | apply zRa | apply zRn | apply zRd)); exact HO_9.out) (Kd.R_base ho0) hb)
          have n4_ := zMk (Kd.R_below (by (with_reducible repeat (first | apply zRa | apply zRn | apply zRd)); exact HO570.out) hb)
          have n5_ := zMk (Kd.R_below (by (with_reducible repeat (first | apply zRa | apply zRn | apply zRd)); exact HO573.out) hb)
          have n6_ := zMk (Kd.R_lower (Kd.R_new' (Kd.R_new' ho0 (Kd.R_lt (by (with_reducible repeat (first | apply zRa | apply zRn | apply zRd)); exact HO_1.out))) (Kd.R_lt (by (with_reducible repeat (first | apply zRa | apply zRn | apply zRd)); exact HO_9.out))) (zBs (by repeat (first | (with_reducible first | exact HB.out | apply zBa | apply zBn | apply zBd) | exact HB.out))))
          have n7_ := zMk (zBt (by repeat (first | (with_reducible first | exact HB.out | apply zBa | apply zBn | apply zBd) | exact HB.out)) hb)
          clear HO_1
          clear HO_7
          clear HO_8
          clear HO_9
          clear HO570
          clear HO573
          clear HB
          have HO_1 := n0_
          have HO_7 := n1_
          have HO_8 := n2_
          have HO_9 := n3_
          have HO570 := n4_
          have HO573 := n5_
          have HO576 := n6_
          have HB := n7_
          clear n0_ n1_ n2_ n3_ n4_ n5_ n6_ n7_
          (try clear hb)
          (try clear hb2)
          (try clear hk)
          (try clear hi)
          (try clear ho0)
          refine hK.out _ _ (HS0_) (fun hHeld => ?_)
          clear hK K
          refine norm_ (a' := ?_) ?_ ?_
          rotate_left
          · show Act.put _ (some 36) _ = _
            simp only [Act.put, zSa, zSb, zSc, i64_w, i32_w]
            rfl
          refine pure_ (i := 9) (N := some 9) (v := ?_) (a' := ?_) #[true, true, true, true, true, true, true, true, true, true] rfl rfl (any_of HT_.out (by kernel_rfl)) (fun _ _ _ h => h) (Or.inl ⟨by rfl, ?_⟩) ?_ ?_
          rotate_left
          · intro w'
            go_simp
            with_reducible rfl
          rotate_left
          · simp only [Act.put, zSa, zSb, zSc, i64_w, i32_w]
            rfl
          refine done_ (done_of HT_.out (by kernel_rfl)) ?_
          obtain ⟨Ao37, co37, eo37⟩ := Kd.R_slice HO576.out
          subst eo37
          try go_wp2_with (first | ((with_reducible refine gate_callee (f := 22) rfl ?_); refine goesL_ (some 39) rfl rfl Tryd.func22 (by kernel_rfl) rfl #[.slice Ao37 t574.length co37, .slice Ao11 t552.length co11] rfl (by (try simp only [List.map_toArray, List.map_cons, List.map_nil]); first | done | rfl | (simp only [zLd, zLt]; rfl)) ?_; (with_reducible refine (r1_Cmp.calls k1 _ _ t574 _ _ t552 t577 _ ?side1 ?side2 ?side3 ?side4 A22.out).mono ?_); (case side1 => repeat (first | exact (Kd.R_reads' HO576.out).2.2 | (with_reducible refine zCa ?_ _) | (with_reducible refine zCn ?_ _) | (with_reducible refine zCd ?_))); (case side2 => exact (Kd.R_reads' HO576.out).2.1); (case side3 => repeat (first | exact (Kd.R_reads' HO_1.out).2.2 | (with_reducible refine zCa ?_ _) | (with_reducible refine zCn ?_ _) | (with_reducible refine zCd ?_))); (case side4 => exact (Kd.R_reads' HO_1.out).2.1); rintro e w38 ⟨rfl, hb⟩; refine ⟨_, rfl, ?_⟩; have n0_ := zMk (Kd.R_below (by (with_reducible repeat (first | apply zRa | apply zRn | apply zRd)); exact HO_1.out) hb); have n1_ := zMk (Kd.R_below (by (with_reducible repeat (first | apply zRa | apply zRn | apply zRd)); exact HO_7.out) hb); have n2_ := zMk (Kd.R_below (by (with_reducible repeat (first | apply zRa | apply zRn | apply zRd)); exact HO_8.out) hb); have n3_ := zMk (Kd.R_below (by (with_reducible repeat (first | apply zRa | apply zRn | apply zRd)); exact HO_9.out) hb); have n4_ := zMk (Kd.R_below (by (with_reducible repeat (first | apply zRa | apply zRn | apply zRd)); exact HO570.out) hb); have n5_ := zMk (Kd.R_below (by (with_reducible repeat (first | apply zRa | apply zRn | apply zRd)); exact HO573.out) hb); have n6_ := zMk (Kd.R_below (by (with_reducible repeat (first | apply zRa | apply zRn | apply zRd)); exact HO576.out) hb); have n7_ := zMk (zBt (by repeat (first | (with_reducible first | exact HB.out | apply zBa | apply zBn | apply zBd) | exact HB.out)) hb); clear HO_1; clear HO_7; clear HO_8; clear HO_9; clear HO570; clear HO573; clear HO576; clear HB; have HO_1 := n0_; have HO_7 := n1_; have HO_8 := n2_; have HO_9 := n3_; have HO570 := n4_; have HO573 := n5_; have HO576 := n6_; have HB := n7_; clear n0_ n1_ n2_ n3_ n4_ n5_ n6_ n7_; (try clear hb); (try clear hb2); (try clear hk); (try clear hi)) | ((with_reducible refine gate_callee (f := 31) rfl ?_); refine goesL_ (some 44) rfl rfl Tryd.func31 (by kernel_rfl) rfl #[.slice Ao37 t574.length co37, .slice Ao11 t552.length co11] rfl (by (try simp only [List.map_toArray, List.map_cons, List.map_nil]); first | done | rfl | (simp only [zLd, zLt]; rfl)) ?_; (with_reducible refine (r1_Sub.calls k1 _ _ t574 _ _ t552 t578 t579 _ ?side1 ?side2 ?side3 ?side4 A24.out).mono ?_); (case side1 => repeat (first | exact (Kd.R_reads' HO576.out).2.2 | (with_reducible refine zCa ?_ _) | (with_reducible refine zCn ?_ _) | (with_reducible refine zCd ?_))); (case side2 => exact (Kd.R_reads' HO576.out).2.1); (case side3 => repeat (first | exact (Kd.R_reads' HO_1.out).2.2 | (with_reducible refine zCa ?_ _) | (with_reducible refine zCn ?_ _) | (with_reducible refine zCd ?_))); (case side4 => exact (Kd.R_reads' HO_1.out).2.1); rintro e w39 ⟨v580, rfl, ho0, hb⟩; refine ⟨_, rfl, ?_⟩; have n0_ := zMk (Kd.R_elder' (by (with_reducible repeat (first | apply zRa | apply zRn | apply zRd)); exact HO_1.out) (Kd.R_base ho0) hb); have n1_ := zMk (Kd.R_below (by (with_reducible repeat (first | apply zRa | apply zRn | apply zRd)); exact HO_7.out) hb); have n2_ := zMk (Kd.R_below (by (with_reducible repeat (first | apply zRa | apply zRn | apply zRd)); exact HO_8.out) hb); have n3_ := zMk (Kd.R_elder' (by (with_reducible repeat (first | apply zRa | apply zRn | apply zRd)); exact HO_9.out) (Kd.R_base ho0) hb); have n4_ := zMk (Kd.R_below (by (with_reducible repeat (first | apply zRa | apply zRn | apply zRd)); exact HO570.out) hb); have n5_ := zMk (Kd.R_below (by (with_reducible repeat (first | apply zRa | apply zRn | apply zRd)); exact HO573.out) hb); have n6_ := zMk (Kd.R_elder' (by (with_reducible repeat (first | apply zRa | apply zRn | apply zRd)); exact HO576.out) (Kd.R_base ho0) hb); have n7_ := zMk (Kd.R_lower (Kd.R_new' (Kd.R_new' (Kd.R_new' ho0 (Kd.R_lt (by (with_reducible repeat (first | apply zRa | apply zRn | apply zRd)); exact HO_1.out))) (Kd.R_lt (by (with_reducible repeat (first | apply zRa | apply zRn | apply zRd)); exact HO_9.out))) (Kd.R_lt (by (with_reducible repeat (first | apply zRa | apply zRn | apply zRd)); exact HO576.out))) (zBs (by repeat (first | (with_reducible first | exact HB.out | apply zBa | apply zBn | apply zBd) | exact HB.out)))); have n8_ := zMk (zBt (by repeat (first | (with_reducible first | exact HB.out | apply zBa | apply zBn | apply zBd) | exact HB.out)) hb); clear HO_1; clear HO_7; clear HO_8; clear HO_9; clear HO570; clear HO573; clear HO576; clear HB; have HO_1 := n0_; have HO_7 := n1_; have HO_8 := n2_; have HO_9 := n3_; have HO570 := n4_; have HO573 := n5_; have HO576 := n6_; have HO581 := n7_; have HB := n8_; clear n0_ n1_ n2_ n3_ n4_ n5_ n6_ n7_ n8_; (try clear hb); (try clear hb2); (try clear hk); (try clear hi); (try clear ho0); have p26 : 0 ≤ (x10_1 : Int) := of_decide_eq_true (by first | (with_reducible assumption) | assumption); have q26 : (x10_1 : Int) < ((x8_1.length : Int) : Int) := of_decide_eq_true (by first | (with_reducible assumption) | assumption); obtain ⟨go26, co26, eo26, gb26, gl26, cl26, HG26⟩ := Kd.R_form HO_8.out (by omega); (first | cases eo26 | (injection eo26 with ea_ en_ ec_; (first | subst ea_ | (injection ea_ with ea_; subst ea_)); subst ec_; clear en_)); have GB26 := zMk gb26; have GG26 := zMk HG26; clear gb26 gl26 HG26; obtain ⟨hx26_0, hf26_0⟩ := Kd.R_celln 0 HO_8.out (x10_1 : Int) p26 q26; replace p26 := eq_true p26; replace q26 := eq_true q26; have n_ := zMk (zRm (ok' := (fun k_ => some k_ ≠ (.slice (some ad564) t555.length co13 : Value).ownBlock ∧ some k_ ≠ (.slice Ao34 t568.length co34 : Value).ownBlock ∧ some k_ ≠ (.slice Ao35 y571.length co35 : Value).ownBlock)) HO_8.out (fun k_ hk => ⟨hk.1.1, ⟨hk.1.2, hk.2⟩⟩)); clear HO_8; have HO_8 := n_; clear n_; obtain ⟨hy40_, hz40_⟩ := Kd.R_celln 0 HO_8.out (x10_1 : Int) (of_decide_eq_true (by first | (with_reducible assumption) | assumption)) (of_decide_eq_true (by first | (with_reducible assumption) | assumption)); have HP40 := Kd.R_putg HO_8.out (x10_1 : Int) 1) | ((with_reducible refine gate_store (t := 5) (p := 49) rfl ?_); refine store_event (t := 5) (p := 49) (v := ?vo_w41) (w1 := (w39.setCell ⟨go26, (x10_1 : Int).toNat, none⟩ (.int .u8 1))) ?hg ?ho ?hn ?hr ?_; (case ho => rfl); (case hg => rfl); (case hn => rfl); (case hr => first | (go_simp; done) | (go_simp; rfl) | (go_simp; rw [show ∀ x : Int, IntKind.u32.wrap (IntKind.u8.wrap x) = x % 256 from fun x => (by show (x % 256) % 4294967296 = x % 256; omega)])); intro w41 hw; have hg : w39.grownBy w41 (some go26) := (by rw [hw]; exact HP40.2); have hp_ : Kd.R (Kd.int .u8) 5 w41 w.heap.size (fun k_ => some k_ ≠ (.slice (some ad564) t555.length co13 : Value).ownBlock ∧ some k_ ≠ (.slice Ao34 t568.length co34 : Value).ownBlock ∧ some k_ ≠ (.slice Ao35 y571.length co35 : Value).ownBlock) (.slice (some ⟨go26, 0, none⟩) x8_1.length co26) y582 := (by rw [hw, Ny582.out]; exact HP40.1); clear HP40; have n0_ := zMk (Kd.R_over' (v := (.slice (some ⟨go26, 0, none⟩) x8_1.length co26)) (by (with_reducible repeat (first | apply zRa | apply zRn | apply zRd)); exact HO_1.out) (Kd.R_typed HO_8.out) (by decide) hg); have n1_ := zMk (Kd.R_after (v := (.slice (some ⟨go26, 0, none⟩) x8_1.length co26)) (v1 := (.slice (some ⟨go26, 0, none⟩) x8_1.length co26)) (ok := (fun k_ => some k_ ≠ (.slice Ao34 t568.length co34 : Value).ownBlock ∧ some k_ ≠ (.slice Ao35 y571.length co35 : Value).ownBlock)) (by (with_reducible repeat (first | apply zRa | apply zRn | apply zRd)); exact zRm HO_7.out (fun _ hk => ⟨⟨hk.1.2, hk.2⟩, hk.1.1⟩)) hg (.inl rfl)); have n2_ := zMk (hp_); have n3_ := zMk (Kd.R_over' (v := (.slice (some ⟨go26, 0, none⟩) x8_1.length co26)) (by (with_reducible repeat (first | apply zRa | apply zRn | apply zRd)); exact HO_9.out) (Kd.R_typed HO_8.out) (by decide) hg); have n4_ := zMk (Kd.R_after (v := (.slice (some ⟨go26, 0, none⟩) x8_1.length co26)) (v1 := (.slice (some ⟨go26, 0, none⟩) x8_1.length co26)) (ok := (fun k_ => some k_ ≠ (.slice (some ad564) t555.length co13 : Value).ownBlock ∧ some k_ ≠ (.slice Ao35 y571.length co35 : Value).ownBlock)) (by (with_reducible repeat (first | apply zRa | apply zRn | apply zRd)); exact zRm HO570.out (fun _ hk => ⟨⟨hk.1.1, hk.2⟩, hk.1.2⟩)) hg (.inl rfl)); have n5_ := zMk (Kd.R_after (v := (.slice (some ⟨go26, 0, none⟩) x8_1.length co26)) (v1 := (.slice (some ⟨go26, 0, none⟩) x8_1.length co26)) (ok := (fun k_ => some k_ ≠ (.slice (some ad564) t555.length co13 : Value).ownBlock ∧ some k_ ≠ (.slice Ao34 t568.length co34 : Value).ownBlock)) (by (with_reducible repeat (first | apply zRa | apply zRn | apply zRd)); exact zRm HO573.out (fun _ hk => ⟨⟨hk.1, hk.2.2⟩, hk.2.1⟩)) hg (.inl rfl)); have n6_ := zMk (Kd.R_over' (v := (.slice (some ⟨go26, 0, none⟩) x8_1.length co26)) (by (with_reducible repeat (first | apply zRa | apply zRn | apply zRd)); exact HO576.out) (Kd.R_typed HO_8.out) (by decide) hg); have n7_ := zMk (Kd.R_over' (v := (.slice (some ⟨go26, 0, none⟩) x8_1.length co26)) (by (with_reducible repeat (first | apply zRa | apply zRn | apply zRd)); exact HO581.out) (Kd.R_typed HO_8.out) (by decide) hg); have n8_ := zMk ((by rw [hw]; exact below_set (HB.out) GB26.out : Below w.heap.size w w41)); clear HO_1; clear HO_7; clear HO_8; clear HO_9; clear HO570; clear HO573; clear HO576; clear HO581; clear HB; have HO_1 := n0_; have HO_7 := n1_; have HO_8 := n2_; have HO_9 := n3_; have HO570 := n4_; have HO573 := n5_; have HO576 := n6_; have HO581 := n7_; have HB := n8_; clear n0_ n1_ n2_ n3_ n4_ n5_ n6_ n7_ n8_; clear hg hw hp_))
          go_roundg k1
          case measure => have := HK1.out; omega
          case rel => exact ⟨(y582), (t578), (wrap64 (x10_1 - 1)), (by first | rfl | (simp; done) | (simp [*]; done)), H', ⟨by have := HK1.out; omega⟩, ⟨by (with_reducible repeat (first | apply zRa | apply zRn | apply zRd)); exact zRm HO_1.out (fun _ hk => hk.2)⟩, ⟨by (with_reducible repeat (first | apply zRa | apply zRn | apply zRd)); exact zRm HO_7.out (fun _ hk => hk.2)⟩, ⟨by (with_reducible repeat (first | apply zRa | apply zRn | apply zRd)); exact zRm HO_8.out (fun _ hk => hk.1)⟩, ⟨by (with_reducible repeat (first | apply zRa | apply zRn | apply zRd)); exact zRm HO581.out (fun _ hk => hk.1.1.2)⟩, ⟨by repeat (first | (with_reducible first | exact HB.out | apply zBa | apply zBn | apply zBd) | exact HB.out)⟩⟩
        · rw [if_neg c23] at H
          have c23b0 : decide (0 ≤ t577) = false := decide_eq_false c23
          clear c23
          have H' := zMk H
          clear H
          obtain ⟨Ao42, co42, eo42⟩ := Kd.R_slice HO_9.out
          subst eo42
          try go_wp2
          have n0_ := zMk (zRd HO_1.out)
          have n1_ := zMk (zRd HO_7.out)
          have n2_ := zMk (zRd HO_8.out)
          have n3_ := zMk (zRd HO_9.out)
          have n4_ := zMk (zBd HB.out)
          clear HO_1
          clear HO_7
          clear HO_8
          clear HO_9
          clear HB
          have HO_1 := n0_
          have HO_7 := n1_
          have HO_8 := n2_
          have HO_9 := n3_
          have HB := n4_
          clear n0_ n1_ n2_ n3_ n4_
          have p564 : 0 ≤ (x10_1 : Int) := of_decide_eq_true (by first | (with_reducible assumption) | assumption)
          have q564 : x10_1 < (t555.length : Int) := of_decide_eq_true (by first | (with_reducible assumption) | assumption)
          obtain ⟨ad564, e564, hx564_0⟩ := zAi (Kd.R_reads' HO_7.out).2.2 x10_1 p564 q564
          cases e564
          replace p564 := eq_true p564
          replace q564 := eq_true q564
          refine start_ (n := 10) (S := fun w' => w'.cell? (ad564.add (x10_1).toNat) = some (.int .u8 (rd t555 x10_1))) (ds := [7]) #[false, false, false, false, false, false, false, false, false, false] (by kernel_rfl) rfl rfl (hx564_0) (fun hHeld => ?_); refine with_tabW r1_DivMod.tab10 r1_DivMod.bits10 (fun HT_ HW_ => ?_)
          generalize wr.drew = w43 at HO_1 HO_7 HO_8 HO_9 HB hx564_0 hHeld ⊢
          refine pure_ (i := 0) (N := some 28) (v := ?_) (a' := ?_) #[true, false, false, false, false, false, false, false, false, false] rfl rfl (any_of HT_.out (by kernel_rfl)) (fun _ _ _ h => h) (Or.inl ⟨by rfl, ?_⟩) ?_ ?_
          rotate_left
          · intro w'
            go_simp
            with_reducible rfl
          rotate_left
          · simp only [Act.put, zSa, zSb, zSc, i64_w, i32_w]
            rfl
          refine pure_ (i := 1) (N := some 29) (v := ?_) (a' := ?_) #[true, true, false, false, false, false, false, false, false, false] rfl rfl (any_of HT_.out (by kernel_rfl)) (fun _ _ _ h => h) (Or.inl ⟨by rfl, ?_⟩) ?_ ?_
          rotate_left
          · intro w'
            go_simp
            with_reducible rfl
          rotate_left
          · simp only [Act.put, zSa, zSb, zSc, i64_w, i32_w]
            rfl
          refine pure_ (i := 2) (N := some 30) (v := ?_) (a' := ?_) #[true, true, true, false, false, false, false, false, false, false] rfl rfl (any_of HT_.out (by kernel_rfl)) (fun _ _ _ h => h) (Or.inl ⟨by rfl, ?_⟩) ?_ ?_
          rotate_left
          · intro w'
            go_simp
            with_reducible rfl
          rotate_left
          · simp only [Act.put, zSa, zSb, zSc, i64_w, i32_w]
            rfl
          refine pure_ (i := 5) (N := some 33) (v := ?_) (a' := ?_) #[true, true, true, false, false, true, false, false, false, false] rfl rfl (any_of HT_.out (by kernel_rfl)) (fun _ _ _ h => h) (Or.inl ⟨by rfl, ?_⟩) ?_ ?_
          rotate_left
          · intro w'
            go_simp
            with_reducible rfl
          rotate_left
          · simp only [Act.put, zSa, zSb, zSc, i64_w, i32_w]
            rfl
          refine take_ (i := 3) (N := some 31) (v := ?_) (a' := ?_) #[true, true, true, true, false, true, false, false, false, false] rfl rfl (take_ofW HT_.out HW_.out (by kernel_rfl)) (fun _ _ _ h => h) (Or.inl ⟨by rfl, ?_⟩) hHeld ?_ ?_
          rotate_left
          · intro w' s0
            go_simp
            with_reducible rfl
          rotate_left
          · simp only [Act.put, zSa, zSb, zSc, i64_w, i32_w]
            rfl
          refine join_ (σ := Value × Value) 3 #[true, true, true, true, true, true, true, false, false, false] (fun s_ => [(32, s_.1), (34, s_.2)]) (fun s_ w' => (w'.cell? (ad564.add (x10_1).toNat) = some (.int .u8 (rd t555 x10_1))) ∧ (Kd.R (Kd.int .u8) 5 w' w.heap.size (fun k_ => some k_ ≠ (s_.2 : Value).ownBlock ∧ some k_ ≠ (.slice (some ad564) t555.length co13 : Value).ownBlock ∧ some k_ ≠ (v559 : Value).ownBlock) s_.1 y565) ∧ (Kd.R (Kd.int .u8) 5 w' w.heap.size (fun k_ => some k_ ≠ (s_.1 : Value).ownBlock ∧ some k_ ≠ (.slice (some ad564) t555.length co13 : Value).ownBlock ∧ some k_ ≠ (v559 : Value).ownBlock) s_.2 t568) ∧ (Kd.R (Kd.int .u32) 36 w' w.heap.size (fun k_ => some k_ ≠ (.slice Ao42 x9_1.length co42 : Value).ownBlock) (.slice Ao11 t552.length co11) t552) ∧ (Kd.R (Kd.int .u8) 5 w' w.heap.size (fun k_ => some k_ ≠ (s_.1 : Value).ownBlock ∧ some k_ ≠ (s_.2 : Value).ownBlock ∧ some k_ ≠ (v559 : Value).ownBlock) (.slice (some ad564) t555.length co13) t555) ∧ (Kd.R (Kd.int .u8) 5 w' w.heap.size (fun k_ => some k_ ≠ (s_.1 : Value).ownBlock ∧ some k_ ≠ (s_.2 : Value).ownBlock ∧ some k_ ≠ (.slice (some ad564) t555.length co13 : Value).ownBlock) v559 x8_1) ∧ (Kd.R (Kd.int .u32) 36 w' w.heap.size (fun k_ => some k_ ≠ (.slice Ao11 t552.length co11 : Value).ownBlock) (.slice Ao42 x9_1.length co42) x9_1) ∧ (Below w.heap.size w w')) ?_ ?_
          rotate_left
          · intro hCont
            refine two_ (i := 4) (j := 6) (Ni := some 32) (Nj := some 34) #[true, true, true, true, true, true, false, false, false, false] #[true, true, true, true, false, true, true, false, false, false] rfl rfl rfl rfl (two_of HT_.out (by kernel_rfl)) (by decide) (by decide) (fun K hK => ?_) (fun K hK => ?_)
            · skip
              refine Kd.R_lit_step (Kd.int .u8) _ 5 ?hg (N := 32) ?hd (xs := ([rd t555 x10_1] : List Int)) (inner := [.int .u8 (rd t555 x10_1)]) (ok := fun _ => True) (okp := fun _ => True) ?hr ?hp (fun _ hk => hk) trivial (Below.refl _ _) (Nat.le_refl _) (by simp) ?_; (case hd => rfl); (case hg => rfl); (case hr => first | (go_simp; done) | (go_simp; rfl) | (go_simp; rw [show ∀ x : Int, IntKind.u32.wrap (IntKind.u8.wrap x) = x % 256 from fun x => (by show (x % 256) % 4294967296 = x % 256; omega)])); (case hp => exact (Reps.one (show Kd.M (Kd.int .u8) _ _ _ (rd t555 x10_1) [.int .u8 (rd t555 x10_1)] from rfl) (Reps.none _ _)))
              intro v566 w44 ho45 hb hg_ hnew_
              have HS0_ := (hb.cell (World.block_lt_of_cell? _ _ (hHeld))).trans (hHeld)
              clear hg_ hnew_
              (first | rw [← Ny565.out] at ho45 | (simp only [Int.reduceToNat] at ho45; rw [← Ny565.out] at ho45))
              have n0_ := zMk (Kd.R_below (by (with_reducible repeat (first | apply zRa | apply zRn | apply zRd)); exact HO_1.out) hb)
              have n1_ := zMk (Kd.R_elder' (by (with_reducible repeat (first | apply zRa | apply zRn | apply zRd)); exact HO_7.out) (Kd.R_base ho45) hb)
              have n2_ := zMk (Kd.R_elder' (by (with_reducible repeat (first | apply zRa | apply zRn | apply zRd)); exact HO_8.out) (Kd.R_base ho45) hb)
              have n3_ := zMk (Kd.R_below (by (with_reducible repeat (first | apply zRa | apply zRn | apply zRd)); exact HO_9.out) hb)
              have n4_ := zMk (Kd.R_lower (Kd.R_new' (Kd.R_new' ho45 (Kd.R_lt (by (with_reducible repeat (first | apply zRa | apply zRn | apply zRd)); exact HO_7.out))) (Kd.R_lt (by (with_reducible repeat (first | apply zRa | apply zRn | apply zRd)); exact HO_8.out))) (zBs (by repeat (first | (with_reducible first | exact HB.out | apply zBa | apply zBn | apply zBd) | exact HB.out))))
              have n5_ := zMk (zBt (by repeat (first | (with_reducible first | exact HB.out | apply zBa | apply zBn | apply zBd) | exact HB.out)) hb)
              clear HO_1
              clear HO_7
              clear HO_8
              clear HO_9
              clear HB
              have HO_1 := n0_
              have HO_7 := n1_
              have HO_8 := n2_
              have HO_9 := n3_
              have HO567 := n4_
              have HB := n5_
              clear n0_ n1_ n2_ n3_ n4_ n5_
              clear hb ho45
              refine hK.out _ _ (HS0_) (fun hHeld => ?_)
              clear hK K
              refine norm_ (a' := ?_) ?_ ?_
              rotate_left
              · show Act.put _ (some 32) _ = _
                simp only [Act.put, zSa, zSb, zSc, i64_w, i32_w]
                rfl
              refine one_ (i := 6) (N := some 34) #[true, true, true, true, true, true, true, false, false, false] rfl rfl (one_of HT_.out (by kernel_rfl)) (by decide) (fun K hK => ?_)
              refine goes_ Tryd.func42 (by kernel_rfl) rfl #[.slice Ao42 x9_1.length co42] (by rfl) rfl rfl (by (try simp only [List.map_toArray, List.map_cons, List.map_nil]); first | done | rfl | (simp only [zLd, zLt]; rfl)) ?_
              with_reducible refine (r1_bits.calls k1 _ _ x9_1 t568 _ ?side1 ?side2 A19.out).mono ?_
              (case side1 => repeat (first | exact (Kd.R_reads' HO_9.out).2.2 | (with_reducible refine zCa ?_ _) | (with_reducible refine zCn ?_ _) | (with_reducible refine zCd ?_)))
              (case side2 => exact (Kd.R_reads' HO_9.out).2.1)
              rintro e w46 ⟨v569, rfl, ho0, hb⟩
              have HS0_ := (hb.cell (World.block_lt_of_cell? _ _ (hHeld))).trans (hHeld)
              refine ⟨_, rfl, ?_⟩
              have n0_ := zMk (Kd.R_below (by (with_reducible repeat (first | apply zRa | apply zRn | apply zRd)); exact HO_1.out) hb)
              have n1_ := zMk (Kd.R_elder' (by (with_reducible repeat (first | apply zRa | apply zRn | apply zRd)); exact HO_7.out) (Kd.R_base ho0) hb)
              have n2_ := zMk (Kd.R_elder' (by (with_reducible repeat (first | apply zRa | apply zRn | apply zRd)); exact HO_8.out) (Kd.R_base ho0) hb)
              have n3_ := zMk (Kd.R_below (by (with_reducible repeat (first | apply zRa | apply zRn | apply zRd)); exact HO_9.out) hb)
              have n4_ := zMk (Kd.R_elder' (by (with_reducible repeat (first | apply zRa | apply zRn | apply zRd)); exact HO567.out) (Kd.R_base ho0) hb)
              have n5_ := zMk (Kd.R_lower (Kd.R_new' (Kd.R_new' (Kd.R_new' ho0 (Kd.R_lt (by (with_reducible repeat (first | apply zRa | apply zRn | apply zRd)); exact HO_7.out))) (Kd.R_lt (by (with_reducible repeat (first | apply zRa | apply zRn | apply zRd)); exact HO_8.out))) (Kd.R_lt (by (with_reducible repeat (first | apply zRa | apply zRn | apply zRd)); exact HO567.out))) (zBs (by repeat (first | (with_reducible first | exact HB.out | apply zBa | apply zBn | apply zBd) | exact HB.out))))
              have n6_ := zMk (zBt (by repeat (first | (with_reducible first | exact HB.out | apply zBa | apply zBn | apply zBd) | exact HB.out)) hb)
              clear HO_1
              clear HO_7
              clear HO_8
              clear HO_9
              clear HO567
              clear HB
              have HO_1 := n0_
              have HO_7 := n1_
              have HO_8 := n2_
              have HO_9 := n3_
              have HO567 := n4_
              have HO570 := n5_
              have HB := n6_
              clear n0_ n1_ n2_ n3_ n4_ n5_ n6_
              (try clear hb)
              (try clear hb2)
              (try clear hk)
              (try clear hi)
              (try clear ho0)
              refine hK.out _ _ (HS0_) (fun hHeld => ?_)
              clear hK K
              refine norm_ (a' := ?_) ?_ ?_
              rotate_left
              · show Act.put _ (some 34) _ = _
                simp only [Act.put, zSa, zSb, zSc, i64_w, i32_w]
                rfl
              exact norm_ (by simp only [putAll, Act.put, zSa, zSb, zSc]) (hCont (v566, v569) _ ⟨hHeld, (by (with_reducible repeat (first | apply zRa | apply zRn | apply zRd)); exact zRm HO567.out (fun _ hk => ⟨hk.2, ⟨hk.1.1.2, hk.1.2⟩⟩)), (by (with_reducible repeat (first | apply zRa | apply zRn | apply zRd)); exact zRm HO570.out (fun _ hk => ⟨hk.2, ⟨hk.1.1.2, hk.1.2⟩⟩)), (by (with_reducible repeat (first | apply zRa | apply zRn | apply zRd)); exact HO_1.out), (by (with_reducible repeat (first | apply zRa | apply zRn | apply zRd)); exact zRm HO_7.out (fun _ hk => ⟨hk.1.2, ⟨hk.2, hk.1.1⟩⟩)), (by (with_reducible repeat (first | apply zRa | apply zRn | apply zRd)); exact zRm HO_8.out (fun _ hk => ⟨hk.1.2, ⟨hk.2, hk.1.1⟩⟩)), (by (with_reducible repeat (first | apply zRa | apply zRn | apply zRd)); exact HO_9.out), (by repeat (first | (with_reducible first | exact HB.out | apply zBa | apply zBn | apply zBd) | exact HB.out))⟩)
            · skip
              refine goes_ Tryd.func42 (by kernel_rfl) rfl #[.slice Ao42 x9_1.length co42] (by rfl) rfl rfl (by (try simp only [List.map_toArray, List.map_cons, List.map_nil]); first | done | rfl | (simp only [zLd, zLt]; rfl)) ?_
              with_reducible refine (r1_bits.calls k1 _ _ x9_1 t568 _ ?side1 ?side2 A19.out).mono ?_
              (case side1 => repeat (first | exact (Kd.R_reads' HO_9.out).2.2 | (with_reducible refine zCa ?_ _) | (with_reducible refine zCn ?_ _) | (with_reducible refine zCd ?_)))
              (case side2 => exact (Kd.R_reads' HO_9.out).2.1)
              rintro e w44 ⟨v569, rfl, ho0, hb⟩
              have HS0_ := (hb.cell (World.block_lt_of_cell? _ _ (hHeld))).trans (hHeld)
              refine ⟨_, rfl, ?_⟩
              have n0_ := zMk (Kd.R_below (by (with_reducible repeat (first | apply zRa | apply zRn | apply zRd)); exact HO_1.out) hb)
              have n1_ := zMk (Kd.R_elder' (by (with_reducible repeat (first | apply zRa | apply zRn | apply zRd)); exact HO_7.out) (Kd.R_base ho0) hb)
              have n2_ := zMk (Kd.R_elder' (by (with_reducible repeat (first | apply zRa | apply zRn | apply zRd)); exact HO_8.out) (Kd.R_base ho0) hb)
              have n3_ := zMk (Kd.R_below (by (with_reducible repeat (first | apply zRa | apply zRn | apply zRd)); exact HO_9.out) hb)
              have n4_ := zMk (Kd.R_lower (Kd.R_new' (Kd.R_new' ho0 (Kd.R_lt (by (with_reducible repeat (first | apply zRa | apply zRn | apply zRd)); exact HO_7.out))) (Kd.R_lt (by (with_reducible repeat (first | apply zRa | apply zRn | apply zRd)); exact HO_8.out))) (zBs (by repeat (first | (with_reducible first | exact HB.out | apply zBa | apply zBn | apply zBd) | exact HB.out))))
              have n5_ := zMk (zBt (by repeat (first | (with_reducible first | exact HB.out | apply zBa | apply zBn | apply zBd) | exact HB.out)) hb)
              clear HO_1
              clear HO_7
              clear HO_8
              clear HO_9
              clear HB
              have HO_1 := n0_
              have HO_7 := n1_
              have HO_8 := n2_
              have HO_9 := n3_
              have HO570 := n4_
              have HB := n5_
              clear n0_ n1_ n2_ n3_ n4_ n5_
              (try clear hb)
              (try clear hb2)
              (try clear hk)
              (try clear hi)
              (try clear ho0)
              refine hK.out _ _ (HS0_) (fun hHeld => ?_)
              clear hK K
              refine norm_ (a' := ?_) ?_ ?_
              rotate_left
              · show Act.put _ (some 34) _ = _
                simp only [Act.put, zSa, zSb, zSc, i64_w, i32_w]
                rfl
              refine one_ (i := 4) (N := some 32) #[true, true, true, true, true, true, true, false, false, false] rfl rfl (one_of HT_.out (by kernel_rfl)) (by decide) (fun K hK => ?_)
              refine Kd.R_lit_step (Kd.int .u8) _ 5 ?hg (N := 32) ?hd (xs := ([rd t555 x10_1] : List Int)) (inner := [.int .u8 (rd t555 x10_1)]) (ok := fun _ => True) (okp := fun _ => True) ?hr ?hp (fun _ hk => hk) trivial (Below.refl _ _) (Nat.le_refl _) (by simp) ?_; (case hd => rfl); (case hg => rfl); (case hr => first | (go_simp; done) | (go_simp; rfl) | (go_simp; rw [show ∀ x : Int, IntKind.u32.wrap (IntKind.u8.wrap x) = x % 256 from fun x => (by show (x % 256) % 4294967296 = x % 256; omega)])); (case hp => exact (Reps.one (show Kd.M (Kd.int .u8) _ _ _ (rd t555 x10_1) [.int .u8 (rd t555 x10_1)] from rfl) (Reps.none _ _)))
              intro v566 w45 ho46 hb hg_ hnew_
              have HS0_ := (hb.cell (World.block_lt_of_cell? _ _ (hHeld))).trans (hHeld)
              clear hg_ hnew_
              (first | rw [← Ny565.out] at ho46 | (simp only [Int.reduceToNat] at ho46; rw [← Ny565.out] at ho46))
              have n0_ := zMk (Kd.R_below (by (with_reducible repeat (first | apply zRa | apply zRn | apply zRd)); exact HO_1.out) hb)
              have n1_ := zMk (Kd.R_elder' (by (with_reducible repeat (first | apply zRa | apply zRn | apply zRd)); exact HO_7.out) (Kd.R_base ho46) hb)
              have n2_ := zMk (Kd.R_elder' (by (with_reducible repeat (first | apply zRa | apply zRn | apply zRd)); exact HO_8.out) (Kd.R_base ho46) hb)
              have n3_ := zMk (Kd.R_below (by (with_reducible repeat (first | apply zRa | apply zRn | apply zRd)); exact HO_9.out) hb)
              have n4_ := zMk (Kd.R_elder' (by (with_reducible repeat (first | apply zRa | apply zRn | apply zRd)); exact HO570.out) (Kd.R_base ho46) hb)
              have n5_ := zMk (Kd.R_lower (Kd.R_new' (Kd.R_new' (Kd.R_new' ho46 (Kd.R_lt (by (with_reducible repeat (first | apply zRa | apply zRn | apply zRd)); exact HO_7.out))) (Kd.R_lt (by (with_reducible repeat (first | apply zRa | apply zRn | apply zRd)); exact HO_8.out))) (Kd.R_lt (by (with_reducible repeat (first | apply zRa | apply zRn | apply zRd)); exact HO570.out))) (zBs (by repeat (first | (with_reducible first | exact HB.out | apply zBa | apply zBn | apply zBd) | exact HB.out))))
              have n6_ := zMk (zBt (by repeat (first | (with_reducible first | exact HB.out | apply zBa | apply zBn | apply zBd) | exact HB.out)) hb)
              clear HO_1
              clear HO_7
              clear HO_8
              clear HO_9
              clear HO570
              clear HB
              have HO_1 := n0_
              have HO_7 := n1_
              have HO_8 := n2_
              have HO_9 := n3_
              have HO570 := n4_
              have HO567 := n5_
              have HB := n6_
              clear n0_ n1_ n2_ n3_ n4_ n5_ n6_
              clear hb ho46
              refine hK.out _ _ (HS0_) (fun hHeld => ?_)
              clear hK K
              refine norm_ (a' := ?_) ?_ ?_
              rotate_left
              · show Act.put _ (some 32) _ = _
                simp only [Act.put, zSa, zSb, zSc, i64_w, i32_w]
                rfl
              exact norm_ (by simp only [putAll, Act.put, zSa, zSb, zSc]) (hCont (v566, v569) _ ⟨hHeld, (by (with_reducible repeat (first | apply zRa | apply zRn | apply zRd)); exact zRm HO567.out (fun _ hk => ⟨hk.2, ⟨hk.1.1.2, hk.1.2⟩⟩)), (by (with_reducible repeat (first | apply zRa | apply zRn | apply zRd)); exact zRm HO570.out (fun _ hk => ⟨hk.2, ⟨hk.1.1.2, hk.1.2⟩⟩)), (by (with_reducible repeat (first | apply zRa | apply zRn | apply zRd)); exact HO_1.out), (by (with_reducible repeat (first | apply zRa | apply zRn | apply zRd)); exact zRm HO_7.out (fun _ hk => ⟨hk.2, ⟨hk.1.2, hk.1.1⟩⟩)), (by (with_reducible repeat (first | apply zRa | apply zRn | apply zRd)); exact zRm HO_8.out (fun _ hk => ⟨hk.2, ⟨hk.1.2, hk.1.1⟩⟩)), (by (with_reducible repeat (first | apply zRa | apply zRn | apply zRd)); exact HO_9.out), (by repeat (first | (with_reducible first | exact HB.out | apply zBa | apply zBn | apply zBd) | exact HB.out))⟩)
          rintro ⟨v566, v569⟩ w47 ⟨hS_, h0_, h1_, h2_, h3_, h4_, h5_, h6_⟩
          have n0_ : Aside0 (Kd.R (Kd.int .u8) 5 w47 w.heap.size (fun k_ => some k_ ≠ (v569 : Value).ownBlock ∧ some k_ ≠ (.slice (some ad564) t555.length co13 : Value).ownBlock ∧ some k_ ≠ (v559 : Value).ownBlock) v566 y565) := ⟨h0_⟩
          have n1_ : Aside0 (Kd.R (Kd.int .u8) 5 w47 w.heap.size (fun k_ => some k_ ≠ (v566 : Value).ownBlock ∧ some k_ ≠ (.slice (some ad564) t555.length co13 : Value).ownBlock ∧ some k_ ≠ (v559 : Value).ownBlock) v569 t568) := ⟨h1_⟩
          have n2_ : Aside0 (Kd.R (Kd.int .u32) 36 w47 w.heap.size (fun k_ => some k_ ≠ (.slice Ao42 x9_1.length co42 : Value).ownBlock) (.slice Ao11 t552.length co11) t552) := ⟨h2_⟩
          have n3_ : Aside0 (Kd.R (Kd.int .u8) 5 w47 w.heap.size (fun k_ => some k_ ≠ (v566 : Value).ownBlock ∧ some k_ ≠ (v569 : Value).ownBlock ∧ some k_ ≠ (v559 : Value).ownBlock) (.slice (some ad564) t555.length co13) t555) := ⟨h3_⟩
          have n4_ : Aside0 (Kd.R (Kd.int .u8) 5 w47 w.heap.size (fun k_ => some k_ ≠ (v566 : Value).ownBlock ∧ some k_ ≠ (v569 : Value).ownBlock ∧ some k_ ≠ (.slice (some ad564) t555.length co13 : Value).ownBlock) v559 x8_1) := ⟨h4_⟩
          have n5_ : Aside0 (Kd.R (Kd.int .u32) 36 w47 w.heap.size (fun k_ => some k_ ≠ (.slice Ao11 t552.length co11 : Value).ownBlock) (.slice Ao42 x9_1.length co42) x9_1) := ⟨h5_⟩
          have n6_ : Aside0 (Below w.heap.size w w47) := ⟨h6_⟩
          clear HO_1
          clear HO_7
          clear HO_8
          clear HO_9
          clear HB
          clear h0_ h1_ h2_ h3_ h4_ h5_ h6_
          have HO567 := n0_
          have HO570 := n1_
          have HO_1 := n2_
          have HO_7 := n3_
          have HO_8 := n4_
          have HO_9 := n5_
          have HB := n6_
          clear n0_ n1_ n2_ n3_ n4_ n5_ n6_
          have hHeld : w47.cell? (ad564.add (x10_1).toNat) = some (.int .u8 (rd t555 x10_1)) := hS_
          obtain ⟨Ao49, co49, eo49⟩ := Kd.R_slice HO570.out
          (first | subst eo49 | (injection eo49 with f1_ f2_ f3_; have f4_ := f1_.symm; have f5_ := f3_.symm; clear f1_ f2_ f3_; subst f4_; subst f5_))
          refine norm_ (a' := ?_) ?_ ?_
          rotate_left
          · simp only [putAll, Act.put, zSa, zSb, zSc]
            rfl
          refine last_ (i := 7) (N := some 35) #[true, true, true, true, true, true, true, true, false, false] rfl rfl (one_of HT_.out (by kernel_rfl)) (by decide) (fun K hK => ?_)
          refine Kd.R_append_rows_step (Kd.int .u8) (w0 := w) w.heap.size (by rfl) (.tmp 32) (.tmp 34) 50 5 (.int .u8 0) 1 rfl Tryd.underlying50 info5 rfl (by decide) (by omega) v566 y565 t568 _ _ _ (fun k_ => some k_ ≠ (.slice (some ad564) t555.length co13 : Value).ownBlock ∧ some k_ ≠ (v559 : Value).ownBlock ∧ some k_ ≠ (.slice Ao49 t568.length co49 : Value).ownBlock) (fun _ => False) rfl rfl ?aO ?aR (fun _ _ h => h) (fun _ h => h.elim) ?aF ?aB ?aS ?aL ?_
          (case aR => repeat (first | exact (Kd.R_reads' HO570.out).2.2 | (with_reducible refine zCa ?_ _) | (with_reducible refine zCn ?_ _) | (with_reducible refine zCd ?_)))
          (case aB => exact (by repeat (first | (with_reducible first | exact HB.out | apply zBa | apply zBn | apply zBd) | exact HB.out)))
          (case aF => exact (fun k_ hk => ⟨Kd.fresh' (Kd.R_lt (by (with_reducible repeat (first | apply zRa | apply zRn | apply zRd)); exact HO_7.out)) k_ hk, Kd.fresh' (Kd.R_lt (by (with_reducible repeat (first | apply zRa | apply zRn | apply zRd)); exact HO_8.out)) k_ hk, Kd.fresh' (Kd.R_lt (by (with_reducible repeat (first | apply zRa | apply zRn | apply zRd)); exact HO570.out)) k_ hk⟩))
          (case aO => exact (by (with_reducible repeat (first | apply zRa | apply zRn | apply zRd)); exact zRm HO567.out (fun _ hk => ⟨hk.2.1, ⟨hk.2.2, hk.1⟩⟩)))
          (case aS => exact (zBs (by repeat (first | (with_reducible first | exact HB.out | apply zBa | apply zBn | apply zBd) | exact HB.out))))
          (case aL => have := LMc20.out; omega)
          intro v572 w48 ho hb hg hat
          rw [← Ny571.out] at ho
          have n0_ := zMk (Kd.R_over' (by (with_reducible repeat (first | apply zRa | apply zRn | apply zRd)); exact HO_1.out) (Kd.R_typed (by (with_reducible repeat (first | apply zRa | apply zRn | apply zRd)); exact HO567.out)) (by decide) hg)
          have n1_ := zMk (Kd.R_after (ok := (fun k_ => some k_ ≠ (v559 : Value).ownBlock ∧ some k_ ≠ (.slice Ao49 t568.length co49 : Value).ownBlock)) (by (with_reducible repeat (first | apply zRa | apply zRn | apply zRd)); exact zRm HO_7.out (fun _ hk => ⟨⟨hk.2.2, hk.2.1⟩, hk.1⟩)) hg hat)
          have n2_ := zMk (Kd.R_after (ok := (fun k_ => some k_ ≠ (.slice (some ad564) t555.length co13 : Value).ownBlock ∧ some k_ ≠ (.slice Ao49 t568.length co49 : Value).ownBlock)) (by (with_reducible repeat (first | apply zRa | apply zRn | apply zRd)); exact zRm HO_8.out (fun _ hk => ⟨⟨hk.2.2, hk.2.1⟩, hk.1⟩)) hg hat)
          have n3_ := zMk (Kd.R_over' (by (with_reducible repeat (first | apply zRa | apply zRn | apply zRd)); exact HO_9.out) (Kd.R_typed (by (with_reducible repeat (first | apply zRa | apply zRn | apply zRd)); exact HO567.out)) (by decide) hg)
          have n4_ := zMk (Kd.R_after (ok := (fun k_ => some k_ ≠ (.slice (some ad564) t555.length co13 : Value).ownBlock ∧ some k_ ≠ (v559 : Value).ownBlock)) (by (with_reducible repeat (first | apply zRa | apply zRn | apply zRd)); exact zRm HO570.out (fun _ hk => ⟨⟨hk.2.1, hk.2.2⟩, hk.1⟩)) hg hat)
          have n5_ := zMk (hb)
          have n6_ := zMk (ho)
          clear HO_1
          clear HO_7
          clear HO_8
          clear HO_9
          clear HO570
          clear HB
          clear HO567
          have HO_1 := n0_
          have HO_7 := n1_
          have HO_8 := n2_
          have HO_9 := n3_
          have HO570 := n4_
          have HB := n5_
          have HO573 := n6_
          clear n0_ n1_ n2_ n3_ n4_ n5_ n6_
          clear ho hb hg hat
          obtain ⟨adx_, ex_, hH2_⟩ := zAi (Kd.R_reads' HO_7.out).2.2 x10_1 (by first | assumption | exact of_eq_true (by assumption) | exact of_decide_eq_true (by assumption)) (by first | assumption | exact of_eq_true (by assumption) | exact of_decide_eq_true (by assumption))
          cases ex_
          clear hHeld
          have hHeld := hH2_
          clear hH2_
          obtain ⟨Ao50, co50, eo50⟩ := Kd.R_slice HO573.out
          (first | subst eo50 | (injection eo50 with f1_ f2_ f3_; have f4_ := f1_.symm; have f5_ := f3_.symm; clear f1_ f2_ f3_; subst f4_; subst f5_))
          refine hK.out _ _ ?_
          clear hK K
          refine norm_ (a' := ?_) ?_ ?_
          rotate_left
          · show Act.put _ (some 35) _ = _
            simp only [Act.put, zSa, zSb, zSc, i64_w, i32_w]
            rfl
          refine one_ (i := 8) (N := some 36) #[true, true, true, true, true, true, true, true, true, false] rfl rfl (one_of HT_.out (by kernel_rfl)) (by decide) (fun K hK => ?_)
          refine goes_ Tryd.func45 (by kernel_rfl) rfl #[.slice Ao50 y571.length co50] (by rfl) rfl rfl (by (try simp only [List.map_toArray, List.map_cons, List.map_nil]); first | done | rfl | (simp only [zLd, zLt]; rfl)) ?_
          with_reducible refine (r1_limbs.calls k1 _ _ y571 t574 _ ?side1 ?side2 A21.out).mono ?_
          (case side1 => repeat (first | exact (Kd.R_reads' HO573.out).2.2 | (with_reducible refine zCa ?_ _) | (with_reducible refine zCn ?_ _) | (with_reducible refine zCd ?_)))
          (case side2 => exact (Kd.R_reads' HO573.out).2.1)
          rintro e w51 ⟨v575, rfl, ho0, hb⟩
          have HS0_ := (hb.cell (World.block_lt_of_cell? _ _ (hHeld))).trans (hHeld)
          refine ⟨_, rfl, ?_⟩
          have n0_ := zMk (Kd.R_elder' (by (with_reducible repeat (first | apply zRa | apply zRn | apply zRd)); exact HO_1.out) (Kd.R_base ho0) hb)
          have n1_ := zMk (Kd.R_below (by (with_reducible repeat (first | apply zRa | apply zRn | apply zRd)); exact HO_7.out) hb)
          have n2_ := zMk (Kd.R_below (by (with_reducible repeat (first | apply zRa | apply zRn | apply zRd)); exact HO_8.out) hb)
          have n3_ := zMk (Kd.R_elder' (by (with_reducible repeat (first | apply zRa | apply zRn | apply zRd)); exact HO_9.out) (Kd.R_base ho0) hb)
          have n4_ := zMk (Kd.R_below (by (with_reducible repeat (first | apply zRa | apply zRn | apply zRd)); exact HO570.out) hb)
          have n5_ := zMk (Kd.R_below (by (with_reducible repeat (first | apply zRa | apply zRn | apply zRd)); exact HO573.out) hb)
          have n6_ := zMk (Kd.R_lower (Kd.R_new' (Kd.R_new' ho0 (Kd.R_lt (by (with_reducible repeat (first | apply zRa | apply zRn | apply zRd)); exact HO_1.out))) (Kd.R_lt (by (with_reducible repeat (first | apply zRa | apply zRn | apply zRd)); exact HO_9.out))) (zBs (by repeat (first | (with_reducible first | exact HB.out | apply zBa | apply zBn | apply zBd) | exact HB.out))))
          have n7_ := zMk (zBt (by repeat (first | (with_reducible first | exact HB.out | apply zBa | apply zBn | apply zBd) | exact HB.out)) hb)
          clear HO_1
          clear HO_7
          clear HO_8
          clear HO_9
          clear HO570
          clear HO573
          clear HB
          have HO_1 := n0_
          have HO_7 := n1_
          have HO_8 := n2_
          have HO_9 := n3_
          have HO570 := n4_
          have HO573 := n5_
          have HO576 := n6_
          have HB := n7_
          clear n0_ n1_ n2_ n3_ n4_ n5_ n6_ n7_
          (try clear hb)
          (try clear hb2)
          (try clear hk)
          (try clear hi)
          (try clear ho0)
          refine hK.out _ _ (HS0_) (fun hHeld => ?_)
          clear hK K
          refine norm_ (a' := ?_) ?_ ?_
          rotate_left
          · show Act.put _ (some 36) _ = _
            simp only [Act.put, zSa, zSb, zSc, i64_w, i32_w]
            rfl
          refine pure_ (i := 9) (N := some 9) (v := ?_) (a' := ?_) #[true, true, true, true, true, true, true, true, true, true] rfl rfl (any_of HT_.out (by kernel_rfl)) (fun _ _ _ h => h) (Or.inl ⟨by rfl, ?_⟩) ?_ ?_
          rotate_left
          · intro w'
            go_simp
            with_reducible rfl
          rotate_left
          · simp only [Act.put, zSa, zSb, zSc, i64_w, i32_w]
            rfl
          refine done_ (done_of HT_.out (by kernel_rfl)) ?_
          obtain ⟨Ao52, co52, eo52⟩ := Kd.R_slice HO576.out
          subst eo52
          try go_wp2_with (first | ((with_reducible refine gate_callee (f := 22) rfl ?_); refine goesL_ (some 39) rfl rfl Tryd.func22 (by kernel_rfl) rfl #[.slice Ao52 t574.length co52, .slice Ao11 t552.length co11] rfl (by (try simp only [List.map_toArray, List.map_cons, List.map_nil]); first | done | rfl | (simp only [zLd, zLt]; rfl)) ?_; (with_reducible refine (r1_Cmp.calls k1 _ _ t574 _ _ t552 t577 _ ?side1 ?side2 ?side3 ?side4 A22.out).mono ?_); (case side1 => repeat (first | exact (Kd.R_reads' HO576.out).2.2 | (with_reducible refine zCa ?_ _) | (with_reducible refine zCn ?_ _) | (with_reducible refine zCd ?_))); (case side2 => exact (Kd.R_reads' HO576.out).2.1); (case side3 => repeat (first | exact (Kd.R_reads' HO_1.out).2.2 | (with_reducible refine zCa ?_ _) | (with_reducible refine zCn ?_ _) | (with_reducible refine zCd ?_))); (case side4 => exact (Kd.R_reads' HO_1.out).2.1); rintro e w53 ⟨rfl, hb⟩; refine ⟨_, rfl, ?_⟩; have n0_ := zMk (Kd.R_below (by (with_reducible repeat (first | apply zRa | apply zRn | apply zRd)); exact HO_1.out) hb); have n1_ := zMk (Kd.R_below (by (with_reducible repeat (first | apply zRa | apply zRn | apply zRd)); exact HO_7.out) hb); have n2_ := zMk (Kd.R_below (by (with_reducible repeat (first | apply zRa | apply zRn | apply zRd)); exact HO_8.out) hb); have n3_ := zMk (Kd.R_below (by (with_reducible repeat (first | apply zRa | apply zRn | apply zRd)); exact HO_9.out) hb); have n4_ := zMk (Kd.R_below (by (with_reducible repeat (first | apply zRa | apply zRn | apply zRd)); exact HO570.out) hb); have n5_ := zMk (Kd.R_below (by (with_reducible repeat (first | apply zRa | apply zRn | apply zRd)); exact HO573.out) hb); have n6_ := zMk (Kd.R_below (by (with_reducible repeat (first | apply zRa | apply zRn | apply zRd)); exact HO576.out) hb); have n7_ := zMk (zBt (by repeat (first | (with_reducible first | exact HB.out | apply zBa | apply zBn | apply zBd) | exact HB.out)) hb); clear HO_1; clear HO_7; clear HO_8; clear HO_9; clear HO570; clear HO573; clear HO576; clear HB; have HO_1 := n0_; have HO_7 := n1_; have HO_8 := n2_; have HO_9 := n3_; have HO570 := n4_; have HO573 := n5_; have HO576 := n6_; have HB := n7_; clear n0_ n1_ n2_ n3_ n4_ n5_ n6_ n7_; (try clear hb); (try clear hb2); (try clear hk); (try clear hi)))
          go_roundg k1
          case measure => have := HK1.out; omega
          case rel => exact ⟨(x8_1), (t574), (wrap64 (x10_1 - 1)), (by first | rfl | (simp; done) | (simp [*]; done)), H', ⟨by have := HK1.out; omega⟩, ⟨by (with_reducible repeat (first | apply zRa | apply zRn | apply zRd)); exact zRm HO_1.out (fun _ hk => hk.2)⟩, ⟨by (with_reducible repeat (first | apply zRa | apply zRn | apply zRd)); exact zRm HO_7.out (fun _ hk => hk.1.1)⟩, ⟨by (with_reducible repeat (first | apply zRa | apply zRn | apply zRd)); exact zRm HO_8.out (fun _ hk => hk.1.1)⟩, ⟨by (with_reducible repeat (first | apply zRa | apply zRn | apply zRd)); exact zRm HO576.out (fun _ hk => hk.1.2)⟩, ⟨by repeat (first | (with_reducible first | exact HB.out | apply zBa | apply zBn | apply zBd) | exact HB.out)⟩⟩
      · rw [if_neg c16] at H
        have c16b0 : decide (0 ≤ x10_1) = false := decide_eq_false c16
        clear c16
        replace H := Option.bind_eq_some_iff.mp H
        obtain ⟨t561, A540, H⟩ := H
        have A54 := zMk A540
        clear A540
        simp only [Option.some.injEq, Prod.mk.injEq] at H
        obtain ⟨rfl, rfl, rfl⟩ := H
        obtain ⟨Ao55, co55, eo55⟩ := Kd.R_slice HO_8.out
        subst eo55
        go_wp2_with (first | ((with_reducible refine gate_callee (f := 45) rfl ?_); refine goesL_ (some 51) rfl rfl Tryd.func45 (by kernel_rfl) rfl #[.slice Ao55 x8_1.length co55] rfl (by (try simp only [List.map_toArray, List.map_cons, List.map_nil]); first | done | rfl | (simp only [zLd, zLt]; rfl)) ?_; (with_reducible refine (r1_limbs.calls k1 _ _ x8_1 t561 _ ?side1 ?side2 A54.out).mono ?_); (case side1 => repeat (first | exact (Kd.R_reads' HO_8.out).2.2 | (with_reducible refine zCa ?_ _) | (with_reducible refine zCn ?_ _) | (with_reducible refine zCd ?_))); (case side2 => exact (Kd.R_reads' HO_8.out).2.1); rintro e w56 ⟨v562, rfl, ho0, hb⟩; refine ⟨_, rfl, ?_⟩; have n0_ := zMk (Kd.R_elder' (by (with_reducible repeat (first | apply zRa | apply zRn | apply zRd)); exact HO_1.out) (Kd.R_base ho0) hb); have n1_ := zMk (Kd.R_below (by (with_reducible repeat (first | apply zRa | apply zRn | apply zRd)); exact HO_7.out) hb); have n2_ := zMk (Kd.R_below (by (with_reducible repeat (first | apply zRa | apply zRn | apply zRd)); exact HO_8.out) hb); have n3_ := zMk (Kd.R_elder' (by (with_reducible repeat (first | apply zRa | apply zRn | apply zRd)); exact HO_9.out) (Kd.R_base ho0) hb); have n4_ := zMk (Kd.R_lower (Kd.R_new' (Kd.R_new' ho0 (Kd.R_lt (by (with_reducible repeat (first | apply zRa | apply zRn | apply zRd)); exact HO_1.out))) (Kd.R_lt (by (with_reducible repeat (first | apply zRa | apply zRn | apply zRd)); exact HO_9.out))) (zBs (by repeat (first | (with_reducible first | exact HB.out | apply zBa | apply zBn | apply zBd) | exact HB.out)))); have n5_ := zMk (zBt (by repeat (first | (with_reducible first | exact HB.out | apply zBa | apply zBn | apply zBd) | exact HB.out)) hb); clear HO_1; clear HO_7; clear HO_8; clear HO_9; clear HB; have HO_1 := n0_; have HO_7 := n1_; have HO_8 := n2_; have HO_9 := n3_; have HO563 := n4_; have HB := n5_; clear n0_ n1_ n2_ n3_ n4_ n5_; (try clear hb); (try clear hb2); (try clear hk); (try clear hi); (try clear ho0)))
        go_ret3
        exact ⟨_, _, by first | rfl | (simp [errW_none, errW_some] <;> rfl) | (simp [*, errW_none, errW_some] <;> rfl), by (with_reducible repeat (first | apply zRa | apply zRn | apply zRd)); exact zRm HO563.out (fun _ hk => hk.2), by (with_reducible repeat (first | apply zRa | apply zRn | apply zRd)); exact zRm HO_9.out (fun _ hk => hk.2), by repeat (first | (with_reducible first | exact HB.out | apply zBa | apply zBn | apply zBd) | exact HB.out)⟩
    · rw [if_neg c8] at H
      exact absurd H (by simp)

/- The plain law of the document's quotient, bit by bit. -/
theorem rdiv_l0 (b x : List Int) (hb : Limbs b) (hx : Bits x) (lb : b.length ≤ 20) (lx : x.length ≤ 1000) (hbp : 0 < val b) :
    ∀ (m k : Nat) (Q r : List Int) (qv : Int), m ≤ x.length → Q.length = x.length → Bits Q → (∀ i, i < m → Q.getD i 0 = 0) → Aside0 (bval Q = Tp m * qv) → IsNum r (val r) → val r < val b → Aside0 (bval (x.drop m) = qv * val b + val r) → 10000 + m ≤ k →
    ∃ q r', r1_DivMod.l0 k b x Q r ((m : Int) - 1) = some (q, r', 0) ∧ IsNum q (bval x / val b) ∧ IsNum r' (bval x % val b) := by
  intro m
  induction m with
  | zero =>
    intro k Q r qv _ hQ bQ _ h1 nr hr h2 hk
    obtain ⟨k, rfl⟩ : ∃ d, k = d + 1 := ⟨k - 1, by omega⟩
    have h3 := h1.out
    have h4 := h2.out
    rw [Tp_zero, Int.one_mul] at h3
    rw [List.drop_zero] at h4
    obtain ⟨q, e1, n1, _⟩ := limbs_f Q bQ (by omega) k (by omega)
    have hr0 := val_nonneg nr.limbs
    refine ⟨q, r, ?_, ?_, ?_⟩
    · rw [r1_DivMod.l0, if_neg (by omega), e1]
      rfl
    · rw [h4, Int.add_comm, Int.add_mul_ediv_right _ _ (Int.ne_of_gt hbp), Int.ediv_eq_zero_of_lt hr0 hr, Int.zero_add, ← h3]
      exact n1
    · rw [h4, Int.add_comm, Int.add_mul_emod_self_right, Int.emod_eq_of_lt hr0 hr]
      exact nr
  | succ m ih =>
    intro k Q r qv hm hQ bQ hz h1 nr hr h2 hk
    obtain ⟨k, rfl⟩ : ∃ d, k = d + 1 := ⟨k - 1, by omega⟩
    have hxm := hx.getD m
    have hrl : r.length ≤ b.length := len_of_lt nr (Int.lt_trans hr (val_ltB hb))
    have hbl := bitsOf_length r
    have hr0 := val_nonneg nr.limbs
    obtain ⟨t, e1, n1, _⟩ := limbs_f ([x.getD m 0] ++ bitsOf r) ((Bits.one hxm).append (bitsOf_bits r)) (by rw [List.length_append]; simp only [List.length_cons, List.length_nil]; omega) k (by rw [List.length_append]; simp only [List.length_cons, List.length_nil]; omega)
    have hbv : bval ([x.getD m 0] ++ bitsOf r) = x.getD m 0 + 2 * val r := by
      show x.getD m 0 + 2 * bval (bitsOf r) = _
      rw [bval_bitsOf nr.limbs]
    rw [hbv] at n1
    have htl : t.length ≤ b.length + 1 := len_of_lt n1 (by
      have := val_ltB hb
      rw [Bp_succ]
      omega)
    have hd : Aside0 (bval (x.drop m) = (2 * qv) * val b + (x.getD m 0 + 2 * val r)) := ⟨by
      rw [bval_drop x m (by omega), h2.out]
      grind⟩
    have hl0 : r1_DivMod.l0 (k + 1) b x Q r (((m + 1 : Nat) : Int) - 1) = (if cmpI (val t) (val b) ≥ 0 then ((r1_Sub.f k t b).bind fun bt579 => r1_DivMod.l0 k b x (Q.set m 1) bt579.1 ((m : Int) - 1)) else r1_DivMod.l0 k b x Q t ((m : Int) - 1)) := by
      rw [show ((m + 1 : Nat) : Int) - 1 = (m : Int) by omega, r1_DivMod.l0, if_pos (by omega), if_pos (by omega), if_pos (by omega), zOb, bits_f r nr.limbs (by omega) k (by omega), zOb, if_pos (by simp only [List.length_cons, List.length_nil]; omega), rd_nat, e1, zOb, rcmp_f t b n1.limbs hb (by omega) (by omega) k (by omega), zOb, w64 (n := (m : Int) - 1) (by omega) (by omega), zTn]
      congr 1
      refine congrArg _ (funext fun p => ?_)
      rw [if_pos (by omega)]
    rw [hl0]
    by_cases hc : val b ≤ val t
    · have hcm : cmpI (val t) (val b) ≥ 0 := by
        unfold cmpI
        rw [if_neg (by omega)]
        split <;> omega
      rw [if_pos hcm]
      rcases rsub_f t b n1.limbs hb (by omega) (by omega) k (by omega) with ⟨h, _⟩ | ⟨_, y, e2, n2⟩
      · omega
      · rw [e2, zOb]
        have hy : val y = val t - val b := n2.eq
        rw [n1.eq] at hy
        refine ih k (Q.set m 1) y (2 * qv + 1) (by omega) (by rw [List.length_set]; exact hQ) (bQ.set m (.inr rfl)) (fun i hi => by rw [getD_set_ne _ _ (by omega)]; exact hz i (by omega)) ⟨?_⟩ ⟨n2.limbs, n2.trim, rfl⟩ (by omega) ⟨?_⟩ (by omega)
        · rw [bval_set _ _ _ (by omega), h1.out, hz m (by omega), Tp_succ]
          grind
        · rw [hd.out, hy]
          grind
    · have hcm : ¬ cmpI (val t) (val b) ≥ 0 := by
        unfold cmpI
        rw [if_pos (by omega)]
        decide
      rw [if_neg hcm]
      have ht : val t = x.getD m 0 + 2 * val r := n1.eq
      refine ih k Q t (2 * qv) (by omega) hQ bQ (fun i hi => hz i (by omega)) ⟨?_⟩ ⟨n1.limbs, n1.trim, rfl⟩ (by omega) ⟨?_⟩ (by omega)
      · rw [h1.out, Tp_succ]
        grind
      · rw [hd.out, ht]
theorem rdivmod_f (a b : List Int) (ha : Limbs a) (hb : Limbs b) (la : a.length ≤ 20) (lb : b.length ≤ 20) (k : Nat) (hk : 20000 ≤ k) :
    (val b = 0 ∧ r1_DivMod.f k a b = some ([], [], 15)) ∨ (0 < val b ∧ ∃ q r, r1_DivMod.f k a b = some (q, r, 0) ∧ IsNum q (val a / val b) ∧ IsNum r (val a % val b)) := by
  have cb := cut_length b
  unfold r1_DivMod.f
  rw [norm_f b (by omega) k (by omega), zOb]
  by_cases h0 : ((cut b).length : Int) = 0
  · refine .inl ⟨?_, by rw [if_pos h0]⟩
    rw [← cut_val b, List.eq_nil_of_length_eq_zero (by omega : (cut b).length = 0)]
    rfl
  · have hne : cut b ≠ [] := fun h => h0 (by rw [h]; rfl)
    have hbp := val_pos (cut_limbs hb) (cut_trim b) hne
    have hbl := bitsOf_length a
    obtain ⟨q, r, e, nq, nr⟩ := rdiv_l0 (cut b) (bitsOf a) (cut_limbs hb) (bitsOf_bits a) (by omega) (by omega) hbp (bitsOf a).length k (List.replicate (bitsOf a).length 0) [] 0 (Nat.le_refl _) (by simp) (bits_zero _) (fun i _ => zeros_getD _ i) ⟨by rw [bval_zero, Int.mul_zero]⟩ IsNum.nil hbp ⟨by rw [List.drop_length]; simp [bval, val]⟩ (by omega)
    rw [bval_bitsOf ha, cut_val] at nq nr
    rw [cut_val] at hbp
    refine .inr ⟨hbp, q, r, ?_, nq, nr⟩
    rw [if_neg h0, bits_f a ha (by omega) k (by omega), zOb, if_pos (by omega), zTn, if_pos (by omega), w64 (by omega) (by omega)]
    exact e
/- Decimal numerals: their digits, and what they stand for. -/
section
open Go.Lib
theorem dec_lt {u : Nat} (h : u < 10) : decDigits u = [UInt8.ofNat (48 + u)] := by rw [decDigits, dif_pos h]
theorem dec_ge {u : Nat} (h : 10 ≤ u) : decDigits u = decDigits (u / 10) ++ [UInt8.ofNat (48 + u % 10)] := by rw [decDigits, dif_neg (by omega)]
/-- What digits stand for. -/
def dv (l : List UInt8) : Nat := l.foldl (fun a c => a * 10 + (c.toNat - 48)) 0
theorem dv_nil : dv [] = 0 := rfl
theorem dv_snoc (l : List UInt8) (c : UInt8) : dv (l ++ [c]) = dv l * 10 + (c.toNat - 48) := by simp [dv]
def IsDigit (c : UInt8) : Prop := 48 ≤ c.toNat ∧ c.toNat ≤ 57
instance (c : UInt8) : Decidable (IsDigit c) := by unfold IsDigit; infer_instance
/-- A numeral: digits, at least one; no nought ahead of others. -/
def Numeral (l : List UInt8) : Prop := l ≠ [] ∧ (∀ c ∈ l, IsDigit c) ∧ (1 < l.length → l.getD 0 0 ≠ 48)
theorem digit_nat (d : Nat) (h : d < 10) : (UInt8.ofNat (48 + d)).toNat = 48 + d := by
  rw [UInt8.toNat_ofNat']; omega
theorem isDigit_ofNat (d : Nat) (h : d < 10) : IsDigit (UInt8.ofNat (48 + d)) := by
  unfold IsDigit; rw [digit_nat d h]; omega
theorem dec_ne (u : Nat) : decDigits u ≠ [] := by
  rcases Nat.lt_or_ge u 10 with h | h
  · rw [dec_lt h]; simp
  · rw [dec_ge h]; simp
theorem dec_dv (u : Nat) : dv (decDigits u) = u := by
  induction u using Nat.strongRecOn with
  | ind u ih =>
    rcases Nat.lt_or_ge u 10 with h | h
    · rw [dec_lt h]
      simp only [dv, List.foldl_cons, List.foldl_nil, digit_nat u h]
      omega
    · rw [dec_ge h, dv_snoc, ih (u / 10) (by omega), digit_nat _ (by omega)]
      omega
theorem dec_digits (u : Nat) : ∀ c ∈ decDigits u, IsDigit c := by
  induction u using Nat.strongRecOn with
  | ind u ih =>
    rcases Nat.lt_or_ge u 10 with h | h
    · rw [dec_lt h]
      intro c hc
      rw [List.mem_singleton] at hc
      rw [hc]
      exact isDigit_ofNat u h
    · rw [dec_ge h]
      intro c hc
      rcases List.mem_append.1 hc with h1 | h1
      · exact ih (u / 10) (by omega) c h1
      · rw [List.mem_singleton] at h1
        rw [h1]
        exact isDigit_ofNat _ (by omega)
theorem getD_append_of_ne (l : List UInt8) (m : List UInt8) (h : l ≠ []) : (l ++ m).getD 0 0 = l.getD 0 0 := by
  cases l with
  | nil => exact absurd rfl h
  | cons x l => rfl
theorem dec_head (u : Nat) (h0 : 1 ≤ u) : (decDigits u).getD 0 0 ≠ 48 := by
  induction u using Nat.strongRecOn with
  | ind u ih =>
    rcases Nat.lt_or_ge u 10 with h | h
    · rw [dec_lt h]
      intro hc
      have h1 : (UInt8.ofNat (48 + u)).toNat = (48 : UInt8).toNat := congrArg UInt8.toNat hc
      rw [digit_nat u h] at h1
      have h2 : (48 : UInt8).toNat = 48 := rfl
      omega
    · rw [dec_ge h, getD_append_of_ne _ _ (dec_ne _)]
      exact ih (u / 10) (by omega) (by omega)
theorem dec_numeral (u : Nat) : Numeral (decDigits u) := by
  refine ⟨dec_ne u, dec_digits u, fun hl => ?_⟩
  rcases Nat.eq_zero_or_pos u with h | h
  · subst h; rw [dec_lt (by omega)] at hl; simp at hl
  · exact dec_head u h
theorem snoc_of_ne {l : List UInt8} (h : l ≠ []) : ∃ m c, l = m ++ [c] := ⟨l.dropLast, l.getLast h, (List.dropLast_concat_getLast h).symm⟩
theorem dec_of_numeral : ∀ (n : Nat) (l : List UInt8), l.length = n → Numeral l → decDigits (dv l) = l
  | n, l, hn, hl => by
    obtain ⟨m, c, rfl⟩ := snoc_of_ne hl.1
    have hc : IsDigit c := hl.2.1 c (by simp)
    have hcc : UInt8.ofNat (48 + (c.toNat - 48)) = c := by rw [show 48 + (c.toNat - 48) = c.toNat by unfold IsDigit at hc; omega, UInt8.ofNat_toNat]
    rcases List.eq_nil_or_concat m with hm | ⟨_, _, hm⟩
    · subst hm
      rw [List.nil_append, show dv [c] = c.toNat - 48 by simp [dv], dec_lt (by unfold IsDigit at hc; omega), hcc]
    · have hne : m ≠ [] := by rw [hm]; simp
      have hh : (m ++ [c]).getD 0 0 ≠ 48 := hl.2.2 (by rw [hm]; simp)
      rw [getD_append_of_ne _ _ hne] at hh
      have hmn : Numeral m := ⟨hne, fun x hx => hl.2.1 x (List.mem_append_left _ hx), fun _ => hh⟩
      have ih := dec_of_numeral (n - 1) m (by simp at hn; omega) hmn
      have hpos : 1 ≤ dv m := by
        rcases Nat.eq_zero_or_pos (dv m) with h0 | h0
        · rw [h0, dec_lt (by omega)] at ih
          rw [← ih] at hh
          exact absurd rfl hh
        · exact h0
      have hd : c.toNat - 48 < 10 := by unfold IsDigit at hc; omega
      rw [dv_snoc, dec_ge (by omega), show (dv m * 10 + (c.toNat - 48)) / 10 = dv m by omega, show (dv m * 10 + (c.toNat - 48)) % 10 = c.toNat - 48 by omega, ih, hcc]
  termination_by n => n
  decreasing_by simp at hn; omega
/-- k digits of a number below 10^k. -/
def padD : Nat → Nat → List UInt8
  | 0, _ => []
  | k + 1, r => padD k (r / 10) ++ [UInt8.ofNat (48 + r % 10)]
theorem dec_pad (q : Nat) (hq : 1 ≤ q) : ∀ (k r : Nat), r < 10 ^ k → decDigits (q * 10 ^ k + r) = decDigits q ++ padD k r
  | 0, r, h => by
    have : r = 0 := by simpa using h
    simp [padD, this]
  | k + 1, r, h => by
    have hk : 1 ≤ 10 ^ k := Nat.one_le_pow _ _ (by omega)
    have hp : q * 10 ^ (k + 1) = (q * 10 ^ k) * 10 := by rw [Nat.pow_succ, Nat.mul_assoc]
    have h1 : 1 ≤ q * 10 ^ k := Nat.le_trans (by omega) (Nat.mul_le_mul hq hk)
    rw [dec_ge (by rw [hp]; omega), show (q * 10 ^ (k + 1) + r) / 10 = q * 10 ^ k + r / 10 by rw [hp]; omega, show (q * 10 ^ (k + 1) + r) % 10 = r % 10 by rw [hp]; omega, dec_pad q hq k (r / 10) (by rw [Nat.pow_succ] at h; omega)]
    simp [padD]
theorem padD_zero : ∀ k, padD k 0 = List.replicate k 48
  | 0 => rfl
  | k + 1 => by
    rw [padD, show 0 / 10 = 0 from rfl, padD_zero k, List.replicate_succ']
    rfl
theorem dec_len_le : ∀ (k r : Nat), 1 ≤ k → r < 10 ^ k → (decDigits r).length ≤ k
  | 0, _, h, _ => by omega
  | k + 1, r, _, hr => by
    rcases Nat.lt_or_ge r 10 with h | h
    · rw [dec_lt h]; simp
    · have h1 : 1 ≤ k := by
        rcases Nat.eq_zero_or_pos k with h0 | h0
        · subst h0; omega
        · exact h0
      have := dec_len_le k (r / 10) h1 (by rw [Nat.pow_succ] at hr; omega)
      rw [dec_ge h]; simp; omega
theorem padD_dec : ∀ (k r : Nat), 1 ≤ k → r < 10 ^ k → padD k r = List.replicate (k - (decDigits r).length) 48 ++ decDigits r
  | 0, _, h, _ => by omega
  | k + 1, r, _, hr => by
    rcases Nat.lt_or_ge r 10 with h | h
    · rw [padD, show r / 10 = 0 by omega, padD_zero, dec_lt h, show r % 10 = r by omega]
      simp
    · have h1 : 1 ≤ k := by
        rcases Nat.eq_zero_or_pos k with h0 | h0
        · subst h0; omega
        · exact h0
      rw [padD, padD_dec k (r / 10) h1 (by rw [Nat.pow_succ] at hr; omega), dec_ge h]
      simp
theorem repeat48 : ∀ n, repeatL [48] n = List.replicate n 48
  | 0 => rfl
  | n + 1 => by rw [repeatL, repeat48 n]; rfl
theorem itoa_dec (n : Int) (h : 0 ≤ n) : itoa n = decDigits n.toNat := by unfold itoa; rw [if_neg (by omega)]
theorem join_flat (l : List (List UInt8)) : join l [] = l.flatten := by
  cases l with
  | nil => rfl
  | cons x l => rw [join_cons]; simp [joinTail]
/-- The digits of a number, of nought none. -/
def decE (u : Nat) : List UInt8 := if u = 0 then [] else decDigits u
theorem decE_step (u : Nat) (h : 1 ≤ u) : decE u = decE (u / 10) ++ [UInt8.ofNat (48 + u % 10)] := by
  unfold decE
  rw [if_neg (by omega)]
  rcases Nat.lt_or_ge u 10 with h1 | h1
  · rw [if_pos (by omega), dec_lt h1, show u % 10 = u by omega]; rfl
  · rw [if_neg (by omega), dec_ge h1]
end

/-! ### r1_Text: function 36 -/
def r1_Text.l0 : Nat → List Int → List Int → Option (ByteArray)
  | 0, _, _ => none
  | k + 1, x0, x3 => if (x0.length : Int) > 0 then ((r1_DivMod.f k x0 (([10] : List Int))).bind fun bt778 => (if (bt778.2.1.length : Int) > 0 then (if 0 < (bt778.2.1.length : Int) then ((some (([(48 + ((rd bt778.2.1 0) % 256)) % 256] : List Int) : List Int)).bind fun y786 => (if y786.length + x3.length < 140737488355328 then (r1_Text.l0 k bt778.1 (y786 ++ x3)) else (none))) else (none)) else ((some (([48] : List Int) : List Int)).bind fun y792 => (if y792.length + x3.length < 140737488355328 then (r1_Text.l0 k bt778.1 (y792 ++ x3)) else (none))))) else (some (strOfNums x3))
def r1_Text.f (k : Nat) (l0 : List Int) : Option (ByteArray) := (r1_Norm.f k l0).bind fun t772 => (if (t772.length : Int) = 0 then (some (⟨#[48]⟩ : ByteArray)) else (r1_Text.l0 k t772 ([] : List Int)))
set_option maxHeartbeats 8000000 in
set_option maxRecDepth 100000 in
theorem r1_Text.calls (k : Nat) (A0 : Option Addr) (c0 : Nat) (l0 : List Int) (r : ByteArray) (w : World) (hr0 : Kd.C (Kd.int .u32) w A0 l0.length l0) (hc0 : l0.length ≤ c0) (h : r1_Text.f k l0 = some r) :
    Calls Tryd.prog 36 #[.slice A0 l0.length c0] w fun e w' => e = .returned (.string r) ∧ Below w.heap.size w w' := by
  have HR0 := zMk hr0
  have HC0 := zMk hc0
  clear hr0 hc0
  have HB := zMk (Below.refl w.heap.size w)
  have H : ((r1_Norm.f k l0).bind fun t772 => (if (t772.length : Int) = 0 then (some (⟨#[48]⟩ : ByteArray)) else (r1_Text.l0 k t772 ([] : List Int)))) = some r := h
  clear h
  replace H := Option.bind_eq_some_iff.mp H
  obtain ⟨t772, A20, H⟩ := H
  have A2 := zMk A20
  clear A20
  by_cases c3 : (t772.length : Int) = 0
  · rw [if_pos c3] at H
    have c3b0 : ((t772.length : Int) == 0) = true := beq_iff_eq.mpr c3
    have c3b1 : ((t772.length : Int) != 0) = false := bne_eq_false_iff_eq.mpr c3
    clear c3
    obtain rfl := zOi H
    go_enter Tryd.func36, Tryd.ntmps36
    go_wp2_with (first | ((with_reducible refine gate_callee (f := 20) rfl ?_); refine goesL_ (some 9) rfl rfl Tryd.func20 (by kernel_rfl) rfl #[.slice A0 l0.length c0] rfl (by (try simp only [List.map_toArray, List.map_cons, List.map_nil]); first | done | rfl | (simp only [zLd, zLt]; rfl)) ?_; (with_reducible refine (r1_Norm.calls k _ _ l0 t772 _ ?side1 ?side2 A2.out).mono ?_); (case side1 => repeat (first | exact HR0.out | (with_reducible refine zCa ?_ _) | (with_reducible refine zCn ?_ _) | (with_reducible refine zCd ?_))); (case side2 => exact HC0.out); rintro e w4 ⟨v773, rfl, ho0, hb⟩; refine ⟨_, rfl, ?_⟩; have n0_ := zMk (Kd.R_lower ho0 (zBs (by repeat (first | (with_reducible first | exact HB.out | apply zBa | apply zBn | apply zBd) | exact HB.out)))); have n1_ := zMk (zBt (by repeat (first | (with_reducible first | exact HB.out | apply zBa | apply zBn | apply zBd) | exact HB.out)) hb); clear HB; have HO774 := n0_; have HB := n1_; clear n0_ n1_; (try clear hb); (try clear hb2); (try clear hk); (try clear hi); (try clear ho0); obtain ⟨Ao5, co5, eo5⟩ := Kd.R_slice HO774.out; subst eo5))
    go_ret
    exact ⟨by first | rfl | (simp [errW_none, errW_some] <;> rfl) | (simp [*, errW_none, errW_some] <;> rfl), by repeat (first | (with_reducible first | exact HB.out | apply zBa | apply zBn | apply zBd) | exact HB.out)⟩
  · rw [if_neg c3] at H
    have c3b0 : ((t772.length : Int) == 0) = false := beq_eq_false_iff_ne.mpr c3
    have c3b1 : ((t772.length : Int) != 0) = true := bne_iff_ne.mpr c3
    have c3b2 : ¬ (t772 = []) := fun h_ => c3 (by rw [h_]; rfl)
    have H' := zMk H
    clear H
    go_enter Tryd.func36, Tryd.ntmps36
    go_wp2_with (first | ((with_reducible refine gate_callee (f := 20) rfl ?_); refine goesL_ (some 9) rfl rfl Tryd.func20 (by kernel_rfl) rfl #[.slice A0 l0.length c0] rfl (by (try simp only [List.map_toArray, List.map_cons, List.map_nil]); first | done | rfl | (simp only [zLd, zLt]; rfl)) ?_; (with_reducible refine (r1_Norm.calls k _ _ l0 t772 _ ?side1 ?side2 A2.out).mono ?_); (case side1 => repeat (first | exact HR0.out | (with_reducible refine zCa ?_ _) | (with_reducible refine zCn ?_ _) | (with_reducible refine zCd ?_))); (case side2 => exact HC0.out); rintro e w6 ⟨v773, rfl, ho0, hb⟩; refine ⟨_, rfl, ?_⟩; have n0_ := zMk (Kd.R_lower ho0 (zBs (by repeat (first | (with_reducible first | exact HB.out | apply zBa | apply zBn | apply zBd) | exact HB.out)))); have n1_ := zMk (zBt (by repeat (first | (with_reducible first | exact HB.out | apply zBa | apply zBn | apply zBd) | exact HB.out)) hb); clear HB; have HO774 := n0_; have HB := n1_; clear n0_ n1_; (try clear hb); (try clear hb2); (try clear hk); (try clear hi); (try clear ho0); obtain ⟨Ao7, co7, eo7⟩ := Kd.R_slice HO774.out; subst eo7))
    go_loopg [0, 3] k (fun kq v0 v3 w' => ∃ (x0_1 : List Int) (x3_1 : List Int), Aside0 (r1_Text.l0 kq x0_1 x3_1 = some r) ∧ Aside0 (kq ≤ k) ∧ Aside0 (Kd.R (Kd.int .u32) 36 w' w.heap.size (fun _ => True) v0 x0_1) ∧ Aside0 (Kd.R (Kd.int .u8) 5 w' w.heap.size (fun _ => True) v3 x3_1) ∧ Aside0 (Below w.heap.size w w'))
    case atStart => exact ⟨(t772), (([] : List Int)), H', ⟨Nat.le_refl _⟩, ⟨by (with_reducible repeat (first | apply zRa | apply zRn | apply zRd)); exact HO774.out⟩, ⟨by first | exact Kd.R_nil _ _ _ _ _ | exact Kd.N_nil _ _ _ _ _ | exact Kd.V_nil _ _ _ _ _ | exact Kd.Q_nil _ _ _ _ _ | exact Kd.S_nil _ _ _ _ _⟩, ⟨by repeat (first | (with_reducible first | exact HB.out | apply zBa | apply zBn | apply zBd) | exact HB.out)⟩⟩
    clear H'
    obtain ⟨x0_1, x3_1, HA, HK1, HO_0, HO_3, HB⟩ := hrel
    rcases gk with _ | k1
    · exact absurd HA.out (by simp [r1_Text.l0])
    have H := HA.out
    clear HA
    simp only [r1_Text.l0] at H
    by_cases c8 : (x0_1.length : Int) > 0
    · rw [if_pos c8] at H
      have c8b0 : decide (0 < (x0_1.length : Int)) = true := decide_eq_true c8
      have c8b1 : decide (0 < x0_1.length) = true := decide_eq_true (by omega)
      clear c8
      obtain ⟨y775, hy775⟩ : ∃ y_ : List Int, y_ = (([10] : List Int)) := ⟨_, rfl⟩
      replace H : ((r1_DivMod.f k1 x0_1 y775).bind fun bt778 => (if (bt778.2.1.length : Int) > 0 then (if 0 < (bt778.2.1.length : Int) then ((some (([(48 + ((rd bt778.2.1 0) % 256)) % 256] : List Int) : List Int)).bind fun y786 => (if y786.length + x3_1.length < 140737488355328 then (r1_Text.l0 k1 bt778.1 (y786 ++ x3_1)) else (none))) else (none)) else ((some (([48] : List Int) : List Int)).bind fun y792 => (if y792.length + x3_1.length < 140737488355328 then (r1_Text.l0 k1 bt778.1 (y792 ++ x3_1)) else (none))))) = some r := by first | (rw [hy775]; with_reducible exact H) | (have H2_ := (zOb _ _).symm.trans H; rw [hy775]; with_reducible exact H2_) | (have H2_ := (zOb _ _).symm.trans H; with_reducible exact H2_) | with_reducible exact H | (rw [hy775]; exact H) | exact H
      have Ny775 := zMk hy775
      clear hy775
      replace H := Option.bind_eq_some_iff.mp H
      obtain ⟨⟨t778, t779, t780⟩, A90, H⟩ := H
      replace H : (if (t779.length : Int) > 0 then (if 0 < (t779.length : Int) then ((some (([(48 + ((rd t779 0) % 256)) % 256] : List Int) : List Int)).bind fun y786 => (if y786.length + x3_1.length < 140737488355328 then (r1_Text.l0 k1 t778 (y786 ++ x3_1)) else (none))) else (none)) else ((some (([48] : List Int) : List Int)).bind fun y792 => (if y792.length + x3_1.length < 140737488355328 then (r1_Text.l0 k1 t778 (y792 ++ x3_1)) else (none)))) = some r := H
      have A9 := zMk A90
      clear A90
      by_cases c10 : (t779.length : Int) > 0
      · rw [if_pos c10] at H
        have c10b0 : decide (0 < (t779.length : Int)) = true := decide_eq_true c10
        have c10b1 : decide (0 < t779.length) = true := decide_eq_true (by omega)
        clear c10
        by_cases c11 : 0 < (t779.length : Int)
        rotate_left
        · rw [if_neg c11] at H; exact absurd H (by simp)
        rw [if_pos c11] at H
        have c11b0 : decide (0 < (t779.length : Int)) = true := decide_eq_true c11
        have c11b1 : decide (0 < t779.length) = true := decide_eq_true (by omega)
        clear c11
        obtain ⟨y786, hy786⟩ : ∃ y_ : List Int, y_ = (([(48 + ((rd t779 0) % 256)) % 256] : List Int)) := ⟨_, rfl⟩
        replace H : (if y786.length + x3_1.length < 140737488355328 then (r1_Text.l0 k1 t778 (y786 ++ x3_1)) else (none)) = some r := by first | (rw [hy786]; with_reducible exact H) | (have H2_ := (zOb _ _).symm.trans H; rw [hy786]; with_reducible exact H2_) | (have H2_ := (zOb _ _).symm.trans H; with_reducible exact H2_) | with_reducible exact H | (rw [hy786]; exact H) | exact H
        have Ny786 := zMk hy786
        clear hy786
        by_cases c12 : y786.length + x3_1.length < 140737488355328
        rotate_left
        · rw [if_neg c12] at H; exact absurd H (by simp)
        rw [if_pos c12] at H
        have LMc12 := zMk c12
        clear c12
        obtain ⟨y789, hy789⟩ : ∃ y_ : List Int, y_ = (y786 ++ x3_1) := ⟨_, rfl⟩
        replace H : (r1_Text.l0 k1 t778 y789) = some r := by first | (rw [hy789]; with_reducible exact H) | (have H2_ := (zOb _ _).symm.trans H; rw [hy789]; with_reducible exact H2_) | (have H2_ := (zOb _ _).symm.trans H; with_reducible exact H2_) | with_reducible exact H | (rw [hy789]; exact H) | exact H
        have Ny789 := zMk hy789
        clear hy789
        have H' := zMk H
        clear H
        obtain ⟨Ao13, co13, eo13⟩ := Kd.R_slice HO_0.out
        subst eo13
        go_wp2_with (first | ((with_reducible refine gate_dst (N := 18) rfl ?_); refine Kd.R_lit (Kd.int .u32) _ 36 ?hg (N := 18) ?hd (xs := ([10] : List Int)) (inner := [.int .u32 10]) (ok := fun _ => True) (okp := fun _ => True) ?hr ?hp (fun _ hk => hk) trivial (Below.refl _ _) (Nat.le_refl _) (by simp) ?_; (case hd => rfl); (case hg => rfl); (case hr => first | (go_simp; done) | (go_simp; rfl) | (go_simp; rw [show ∀ x : Int, IntKind.u32.wrap (IntKind.u8.wrap x) = x % 256 from fun x => (by show (x % 256) % 4294967296 = x % 256; omega)])); (case hp => exact (Reps.one (show Kd.M (Kd.int .u32) _ _ _ 10 [.int .u32 10] from rfl) (Reps.none _ _))); intro v776 w14 ho15 hb hg_ hnew_; clear hg_ hnew_; (first | rw [← Ny775.out] at ho15 | (simp only [Int.reduceToNat] at ho15; rw [← Ny775.out] at ho15)); have n0_ := zMk (Kd.R_elder' (by (with_reducible repeat (first | apply zRa | apply zRn | apply zRd)); exact HO_0.out) (Kd.R_base ho15) hb); have n1_ := zMk (Kd.R_below (by (with_reducible repeat (first | apply zRa | apply zRn | apply zRd)); exact HO_3.out) hb); have n2_ := zMk (Kd.R_lower (Kd.R_new' ho15 (Kd.R_lt (by (with_reducible repeat (first | apply zRa | apply zRn | apply zRd)); exact HO_0.out))) (zBs (by repeat (first | (with_reducible first | exact HB.out | apply zBa | apply zBn | apply zBd) | exact HB.out)))); have n3_ := zMk (zBt (by repeat (first | (with_reducible first | exact HB.out | apply zBa | apply zBn | apply zBd) | exact HB.out)) hb); clear HO_0; clear HO_3; clear HB; have HO_0 := n0_; have HO_3 := n1_; have HO777 := n2_; have HB := n3_; clear n0_ n1_ n2_ n3_; clear hb ho15; obtain ⟨Ao16, co16, eo16⟩ := Kd.R_slice HO777.out; subst eo16) | ((with_reducible refine gate_callee (f := 26) rfl ?_); refine goesL_ (some 19) rfl rfl Tryd.func26 (by kernel_rfl) rfl #[.slice Ao13 x0_1.length co13, .slice Ao16 y775.length co16] rfl (by (try simp only [List.map_toArray, List.map_cons, List.map_nil]); first | done | rfl | (simp only [zLd, zLt]; rfl)) ?_; (with_reducible refine (r1_DivMod.calls k1 _ _ x0_1 _ _ y775 t778 t779 t780 _ ?side1 ?side2 ?side3 ?side4 A9.out).mono ?_); (case side1 => repeat (first | exact (Kd.R_reads' HO_0.out).2.2 | (with_reducible refine zCa ?_ _) | (with_reducible refine zCn ?_ _) | (with_reducible refine zCd ?_))); (case side2 => exact (Kd.R_reads' HO_0.out).2.1); (case side3 => repeat (first | exact (Kd.R_reads' HO777.out).2.2 | (with_reducible refine zCa ?_ _) | (with_reducible refine zCn ?_ _) | (with_reducible refine zCd ?_))); (case side4 => exact (Kd.R_reads' HO777.out).2.1); rintro e w17 ⟨v781, v783, rfl, ho0, ho1, hb⟩; refine ⟨_, rfl, ?_⟩; have n0_ := zMk (zRm (Kd.R_told (Kd.R_told (Kd.R_old (by (with_reducible repeat (first | apply zRa | apply zRn | apply zRd)); exact HO_0.out) hb) (Kd.R_base ho0)) (Kd.R_base ho1)) (fun _ h_ => h_.1)); have n1_ := zMk (Kd.R_below (by (with_reducible repeat (first | apply zRa | apply zRn | apply zRd)); exact HO_3.out) hb); have n2_ := zMk (zRm (Kd.R_told (Kd.R_told (Kd.R_old (by (with_reducible repeat (first | apply zRa | apply zRn | apply zRd)); exact HO777.out) hb) (Kd.R_base ho0)) (Kd.R_base ho1)) (fun _ h_ => h_.1)); have n3_ := zMk (Kd.R_lower (Kd.R_new' (Kd.R_new' ho0 (Kd.R_lt (by (with_reducible repeat (first | apply zRa | apply zRn | apply zRd)); exact HO_0.out))) (Kd.R_lt (by (with_reducible repeat (first | apply zRa | apply zRn | apply zRd)); exact HO777.out))) (zBs (by repeat (first | (with_reducible first | exact HB.out | apply zBa | apply zBn | apply zBd) | exact HB.out)))); have n4_ := zMk (Kd.R_lower (Kd.R_new' (Kd.R_new' ho1 (Kd.R_lt (by (with_reducible repeat (first | apply zRa | apply zRn | apply zRd)); exact HO_0.out))) (Kd.R_lt (by (with_reducible repeat (first | apply zRa | apply zRn | apply zRd)); exact HO777.out))) (zBs (by repeat (first | (with_reducible first | exact HB.out | apply zBa | apply zBn | apply zBd) | exact HB.out)))); have n5_ := zMk (zBt (by repeat (first | (with_reducible first | exact HB.out | apply zBa | apply zBn | apply zBd) | exact HB.out)) hb); clear HO_0; clear HO_3; clear HO777; clear HB; have HO_0 := n0_; have HO_3 := n1_; have HO777 := n2_; have HO782 := n3_; have HO784 := n4_; have HB := n5_; clear n0_ n1_ n2_ n3_ n4_ n5_; (try clear hb); (try clear hb2); (try clear hk); (try clear hi); (try clear ho0); (try clear ho1); obtain ⟨Ao18, co18, eo18⟩ := Kd.R_slice HO784.out; subst eo18; have p785 : 0 ≤ (0 : Int) := (by omega); have q785 : 0 < (t779.length : Int) := of_decide_eq_true (by first | (with_reducible assumption) | assumption); obtain ⟨ad785, e785, hx785_0⟩ := zAi (Kd.R_reads' HO784.out).2.2 0 p785 q785; cases e785; have qi785 : (0 < t779.length) = True := eq_true (by omega); (try rw [show ((0 : Int)).toNat = 0 from rfl] at hx785_0); (try rw [Addr.add_zero'] at hx785_0); replace p785 := eq_true p785; replace q785 := eq_true q785) | ((with_reducible refine gate_dst (N := 33) rfl ?_); refine Kd.R_lit (Kd.int .u8) _ 5 ?hg (N := 33) ?hd (xs := ([(48 + ((rd t779 0) % 256)) % 256] : List Int)) (inner := [.int .u8 ((48 + ((rd t779 0) % 256)) % 256)]) (ok := fun _ => True) (okp := fun _ => True) ?hr ?hp (fun _ hk => hk) trivial (Below.refl _ _) (Nat.le_refl _) (by simp) ?_; (case hd => rfl); (case hg => rfl); (case hr => first | (go_simp; done) | (go_simp; rfl) | (go_simp; rw [show ∀ x : Int, IntKind.u32.wrap (IntKind.u8.wrap x) = x % 256 from fun x => (by show (x % 256) % 4294967296 = x % 256; omega)])); (case hp => exact (Reps.one (show Kd.M (Kd.int .u8) _ _ _ ((48 + ((rd t779 0) % 256)) % 256) [.int .u8 ((48 + ((rd t779 0) % 256)) % 256)] from rfl) (Reps.none _ _))); intro v787 w19 ho20 hb hg_ hnew_; clear hg_ hnew_; (first | rw [← Ny786.out] at ho20 | (simp only [Int.reduceToNat] at ho20; rw [← Ny786.out] at ho20)); have n0_ := zMk (Kd.R_below (by (with_reducible repeat (first | apply zRa | apply zRn | apply zRd)); exact HO_0.out) hb); have n1_ := zMk (Kd.R_elder' (by (with_reducible repeat (first | apply zRa | apply zRn | apply zRd)); exact HO_3.out) (Kd.R_base ho20) hb); have n2_ := zMk (Kd.R_below (by (with_reducible repeat (first | apply zRa | apply zRn | apply zRd)); exact HO777.out) hb); have n3_ := zMk (Kd.R_below (by (with_reducible repeat (first | apply zRa | apply zRn | apply zRd)); exact HO782.out) hb); have n4_ := zMk (Kd.R_below (by (with_reducible repeat (first | apply zRa | apply zRn | apply zRd)); exact HO784.out) hb); have n5_ := zMk (Kd.R_lower (Kd.R_new' ho20 (Kd.R_lt (by (with_reducible repeat (first | apply zRa | apply zRn | apply zRd)); exact HO_3.out))) (zBs (by repeat (first | (with_reducible first | exact HB.out | apply zBa | apply zBn | apply zBd) | exact HB.out)))); have n6_ := zMk (zBt (by repeat (first | (with_reducible first | exact HB.out | apply zBa | apply zBn | apply zBd) | exact HB.out)) hb); clear HO_0; clear HO_3; clear HO777; clear HO782; clear HO784; clear HB; have HO_0 := n0_; have HO_3 := n1_; have HO777 := n2_; have HO782 := n3_; have HO784 := n4_; have HO788 := n5_; have HB := n6_; clear n0_ n1_ n2_ n3_ n4_ n5_ n6_; clear hb ho20; obtain ⟨Ao22, co22, eo22⟩ := Kd.R_slice HO_3.out; subst eo22) | ((with_reducible refine gate_builtin (b := .append) (xs := #[.tmp 33, .tmp 34]) rfl ?_); at_builtin; refine Kd.R_append_rows (Kd.int .u8) (w0 := w) w.heap.size rfl (.tmp 33) (.tmp 34) 50 5 (.int .u8 0) 1 rfl Tryd.underlying50 info5 rfl (by decide) (by omega) v787 y786 x3_1 _ _ _ (fun k_ => some k_ ≠ (.slice Ao22 x3_1.length co22 : Value).ownBlock) (fun _ => False) rfl rfl ?aO ?aR (fun _ _ h => h) (fun _ h => h.elim) ?aF ?aB ?aS ?aL ?_; (case aR => repeat (first | exact (Kd.R_reads' HO_3.out).2.2 | (with_reducible refine zCa ?_ _) | (with_reducible refine zCn ?_ _) | (with_reducible refine zCd ?_))); (case aB => exact (by repeat (first | (with_reducible first | exact HB.out | apply zBa | apply zBn | apply zBd) | exact HB.out))); (case aF => exact (fun k_ hk => Kd.fresh' (Kd.R_lt (by (with_reducible repeat (first | apply zRa | apply zRn | apply zRd)); exact HO_3.out)) k_ hk)); (case aO => exact (by (with_reducible repeat (first | apply zRa | apply zRn | apply zRd)); exact zRm HO788.out (fun _ hk => hk.2))); (case aS => exact (zBs (by repeat (first | (with_reducible first | exact HB.out | apply zBa | apply zBn | apply zBd) | exact HB.out)))); (case aL => have := LMc12.out; omega); intro v790 w21 ho hb hg hat; rw [← Ny789.out] at ho; have n0_ := zMk (Kd.R_over' (by (with_reducible repeat (first | apply zRa | apply zRn | apply zRd)); exact HO_0.out) (Kd.R_typed (by (with_reducible repeat (first | apply zRa | apply zRn | apply zRd)); exact HO788.out)) (by decide) hg); have n1_ := zMk (Kd.R_after (ok := (fun _ => True)) (by (with_reducible repeat (first | apply zRa | apply zRn | apply zRd)); exact HO_3.out) hg hat); have n2_ := zMk (Kd.R_over' (by (with_reducible repeat (first | apply zRa | apply zRn | apply zRd)); exact HO777.out) (Kd.R_typed (by (with_reducible repeat (first | apply zRa | apply zRn | apply zRd)); exact HO788.out)) (by decide) hg); have n3_ := zMk (Kd.R_over' (by (with_reducible repeat (first | apply zRa | apply zRn | apply zRd)); exact HO782.out) (Kd.R_typed (by (with_reducible repeat (first | apply zRa | apply zRn | apply zRd)); exact HO788.out)) (by decide) hg); have n4_ := zMk (Kd.R_over' (by (with_reducible repeat (first | apply zRa | apply zRn | apply zRd)); exact HO784.out) (Kd.R_typed (by (with_reducible repeat (first | apply zRa | apply zRn | apply zRd)); exact HO788.out)) (by decide) hg); have n5_ := zMk (hb); have n6_ := zMk (ho); clear HO_0; clear HO_3; clear HO777; clear HO782; clear HO784; clear HB; clear HO788; have HO_0 := n0_; have HO_3 := n1_; have HO777 := n2_; have HO782 := n3_; have HO784 := n4_; have HB := n5_; have HO791 := n6_; clear n0_ n1_ n2_ n3_ n4_ n5_ n6_; clear ho hb hg hat))
        go_roundg k1
        case measure => have := HK1.out; omega
        case rel => exact ⟨(t778), (y789), H', ⟨by have := HK1.out; omega⟩, ⟨by (with_reducible repeat (first | apply zRa | apply zRn | apply zRd)); exact zRm HO782.out (fun _ hk => trivial)⟩, ⟨by (with_reducible repeat (first | apply zRa | apply zRn | apply zRd)); exact zRm HO791.out (fun _ hk => trivial)⟩, ⟨by repeat (first | (with_reducible first | exact HB.out | apply zBa | apply zBn | apply zBd) | exact HB.out)⟩⟩
      · rw [if_neg c10] at H
        have c10b0 : decide (0 < (t779.length : Int)) = false := decide_eq_false c10
        have c10b1 : decide (0 < t779.length) = false := decide_eq_false (by omega)
        clear c10
        obtain ⟨y792, hy792⟩ : ∃ y_ : List Int, y_ = (([48] : List Int)) := ⟨_, rfl⟩
        replace H : (if y792.length + x3_1.length < 140737488355328 then (r1_Text.l0 k1 t778 (y792 ++ x3_1)) else (none)) = some r := by first | (rw [hy792]; with_reducible exact H) | (have H2_ := (zOb _ _).symm.trans H; rw [hy792]; with_reducible exact H2_) | (have H2_ := (zOb _ _).symm.trans H; with_reducible exact H2_) | with_reducible exact H | (rw [hy792]; exact H) | exact H
        have Ny792 := zMk hy792
        clear hy792
        by_cases c23 : y792.length + x3_1.length < 140737488355328
        rotate_left
        · rw [if_neg c23] at H; exact absurd H (by simp)
        rw [if_pos c23] at H
        have LMc23 := zMk c23
        clear c23
        obtain ⟨y795, hy795⟩ : ∃ y_ : List Int, y_ = (y792 ++ x3_1) := ⟨_, rfl⟩
        replace H : (r1_Text.l0 k1 t778 y795) = some r := by first | (rw [hy795]; with_reducible exact H) | (have H2_ := (zOb _ _).symm.trans H; rw [hy795]; with_reducible exact H2_) | (have H2_ := (zOb _ _).symm.trans H; with_reducible exact H2_) | with_reducible exact H | (rw [hy795]; exact H) | exact H
        have Ny795 := zMk hy795
        clear hy795
        have H' := zMk H
        clear H
        obtain ⟨Ao24, co24, eo24⟩ := Kd.R_slice HO_0.out
        subst eo24
        go_wp2_with (first | ((with_reducible refine gate_dst (N := 18) rfl ?_); refine Kd.R_lit (Kd.int .u32) _ 36 ?hg (N := 18) ?hd (xs := ([10] : List Int)) (inner := [.int .u32 10]) (ok := fun _ => True) (okp := fun _ => True) ?hr ?hp (fun _ hk => hk) trivial (Below.refl _ _) (Nat.le_refl _) (by simp) ?_; (case hd => rfl); (case hg => rfl); (case hr => first | (go_simp; done) | (go_simp; rfl) | (go_simp; rw [show ∀ x : Int, IntKind.u32.wrap (IntKind.u8.wrap x) = x % 256 from fun x => (by show (x % 256) % 4294967296 = x % 256; omega)])); (case hp => exact (Reps.one (show Kd.M (Kd.int .u32) _ _ _ 10 [.int .u32 10] from rfl) (Reps.none _ _))); intro v776 w25 ho26 hb hg_ hnew_; clear hg_ hnew_; (first | rw [← Ny775.out] at ho26 | (simp only [Int.reduceToNat] at ho26; rw [← Ny775.out] at ho26)); have n0_ := zMk (Kd.R_elder' (by (with_reducible repeat (first | apply zRa | apply zRn | apply zRd)); exact HO_0.out) (Kd.R_base ho26) hb); have n1_ := zMk (Kd.R_below (by (with_reducible repeat (first | apply zRa | apply zRn | apply zRd)); exact HO_3.out) hb); have n2_ := zMk (Kd.R_lower (Kd.R_new' ho26 (Kd.R_lt (by (with_reducible repeat (first | apply zRa | apply zRn | apply zRd)); exact HO_0.out))) (zBs (by repeat (first | (with_reducible first | exact HB.out | apply zBa | apply zBn | apply zBd) | exact HB.out)))); have n3_ := zMk (zBt (by repeat (first | (with_reducible first | exact HB.out | apply zBa | apply zBn | apply zBd) | exact HB.out)) hb); clear HO_0; clear HO_3; clear HB; have HO_0 := n0_; have HO_3 := n1_; have HO777 := n2_; have HB := n3_; clear n0_ n1_ n2_ n3_; clear hb ho26; obtain ⟨Ao27, co27, eo27⟩ := Kd.R_slice HO777.out; subst eo27) | ((with_reducible refine gate_callee (f := 26) rfl ?_); refine goesL_ (some 19) rfl rfl Tryd.func26 (by kernel_rfl) rfl #[.slice Ao24 x0_1.length co24, .slice Ao27 y775.length co27] rfl (by (try simp only [List.map_toArray, List.map_cons, List.map_nil]); first | done | rfl | (simp only [zLd, zLt]; rfl)) ?_; (with_reducible refine (r1_DivMod.calls k1 _ _ x0_1 _ _ y775 t778 t779 t780 _ ?side1 ?side2 ?side3 ?side4 A9.out).mono ?_); (case side1 => repeat (first | exact (Kd.R_reads' HO_0.out).2.2 | (with_reducible refine zCa ?_ _) | (with_reducible refine zCn ?_ _) | (with_reducible refine zCd ?_))); (case side2 => exact (Kd.R_reads' HO_0.out).2.1); (case side3 => repeat (first | exact (Kd.R_reads' HO777.out).2.2 | (with_reducible refine zCa ?_ _) | (with_reducible refine zCn ?_ _) | (with_reducible refine zCd ?_))); (case side4 => exact (Kd.R_reads' HO777.out).2.1); rintro e w28 ⟨v781, v783, rfl, ho0, ho1, hb⟩; refine ⟨_, rfl, ?_⟩; have n0_ := zMk (zRm (Kd.R_told (Kd.R_told (Kd.R_old (by (with_reducible repeat (first | apply zRa | apply zRn | apply zRd)); exact HO_0.out) hb) (Kd.R_base ho0)) (Kd.R_base ho1)) (fun _ h_ => h_.1)); have n1_ := zMk (Kd.R_below (by (with_reducible repeat (first | apply zRa | apply zRn | apply zRd)); exact HO_3.out) hb); have n2_ := zMk (zRm (Kd.R_told (Kd.R_told (Kd.R_old (by (with_reducible repeat (first | apply zRa | apply zRn | apply zRd)); exact HO777.out) hb) (Kd.R_base ho0)) (Kd.R_base ho1)) (fun _ h_ => h_.1)); have n3_ := zMk (Kd.R_lower (Kd.R_new' (Kd.R_new' ho0 (Kd.R_lt (by (with_reducible repeat (first | apply zRa | apply zRn | apply zRd)); exact HO_0.out))) (Kd.R_lt (by (with_reducible repeat (first | apply zRa | apply zRn | apply zRd)); exact HO777.out))) (zBs (by repeat (first | (with_reducible first | exact HB.out | apply zBa | apply zBn | apply zBd) | exact HB.out)))); have n4_ := zMk (Kd.R_lower (Kd.R_new' (Kd.R_new' ho1 (Kd.R_lt (by (with_reducible repeat (first | apply zRa | apply zRn | apply zRd)); exact HO_0.out))) (Kd.R_lt (by (with_reducible repeat (first | apply zRa | apply zRn | apply zRd)); exact HO777.out))) (zBs (by repeat (first | (with_reducible first | exact HB.out | apply zBa | apply zBn | apply zBd) | exact HB.out)))); have n5_ := zMk (zBt (by repeat (first | (with_reducible first | exact HB.out | apply zBa | apply zBn | apply zBd) | exact HB.out)) hb); clear HO_0; clear HO_3; clear HO777; clear HB; have HO_0 := n0_; have HO_3 := n1_; have HO777 := n2_; have HO782 := n3_; have HO784 := n4_; have HB := n5_; clear n0_ n1_ n2_ n3_ n4_ n5_; (try clear hb); (try clear hb2); (try clear hk); (try clear hi); (try clear ho0); (try clear ho1); obtain ⟨Ao29, co29, eo29⟩ := Kd.R_slice HO784.out; subst eo29) | ((with_reducible refine gate_dst (N := 33) rfl ?_); refine Kd.R_lit (Kd.int .u8) _ 5 ?hg (N := 33) ?hd (xs := ([48] : List Int)) (inner := [.int .u8 48]) (ok := fun _ => True) (okp := fun _ => True) ?hr ?hp (fun _ hk => hk) trivial (Below.refl _ _) (Nat.le_refl _) (by simp) ?_; (case hd => rfl); (case hg => rfl); (case hr => first | (go_simp; done) | (go_simp; rfl) | (go_simp; rw [show ∀ x : Int, IntKind.u32.wrap (IntKind.u8.wrap x) = x % 256 from fun x => (by show (x % 256) % 4294967296 = x % 256; omega)])); (case hp => exact (Reps.one (show Kd.M (Kd.int .u8) _ _ _ 48 [.int .u8 48] from rfl) (Reps.none _ _))); intro v793 w30 ho31 hb hg_ hnew_; clear hg_ hnew_; (first | rw [← Ny792.out] at ho31 | (simp only [Int.reduceToNat] at ho31; rw [← Ny792.out] at ho31)); have n0_ := zMk (Kd.R_below (by (with_reducible repeat (first | apply zRa | apply zRn | apply zRd)); exact HO_0.out) hb); have n1_ := zMk (Kd.R_elder' (by (with_reducible repeat (first | apply zRa | apply zRn | apply zRd)); exact HO_3.out) (Kd.R_base ho31) hb); have n2_ := zMk (Kd.R_below (by (with_reducible repeat (first | apply zRa | apply zRn | apply zRd)); exact HO777.out) hb); have n3_ := zMk (Kd.R_below (by (with_reducible repeat (first | apply zRa | apply zRn | apply zRd)); exact HO782.out) hb); have n4_ := zMk (Kd.R_below (by (with_reducible repeat (first | apply zRa | apply zRn | apply zRd)); exact HO784.out) hb); have n5_ := zMk (Kd.R_lower (Kd.R_new' ho31 (Kd.R_lt (by (with_reducible repeat (first | apply zRa | apply zRn | apply zRd)); exact HO_3.out))) (zBs (by repeat (first | (with_reducible first | exact HB.out | apply zBa | apply zBn | apply zBd) | exact HB.out)))); have n6_ := zMk (zBt (by repeat (first | (with_reducible first | exact HB.out | apply zBa | apply zBn | apply zBd) | exact HB.out)) hb); clear HO_0; clear HO_3; clear HO777; clear HO782; clear HO784; clear HB; have HO_0 := n0_; have HO_3 := n1_; have HO777 := n2_; have HO782 := n3_; have HO784 := n4_; have HO794 := n5_; have HB := n6_; clear n0_ n1_ n2_ n3_ n4_ n5_ n6_; clear hb ho31; obtain ⟨Ao33, co33, eo33⟩ := Kd.R_slice HO_3.out; subst eo33) | ((with_reducible refine gate_builtin (b := .append) (xs := #[.tmp 33, .tmp 34]) rfl ?_); at_builtin; refine Kd.R_append_rows (Kd.int .u8) (w0 := w) w.heap.size rfl (.tmp 33) (.tmp 34) 50 5 (.int .u8 0) 1 rfl Tryd.underlying50 info5 rfl (by decide) (by omega) v793 y792 x3_1 _ _ _ (fun k_ => some k_ ≠ (.slice Ao33 x3_1.length co33 : Value).ownBlock) (fun _ => False) rfl rfl ?aO ?aR (fun _ _ h => h) (fun _ h => h.elim) ?aF ?aB ?aS ?aL ?_; (case aR => repeat (first | exact (Kd.R_reads' HO_3.out).2.2 | (with_reducible refine zCa ?_ _) | (with_reducible refine zCn ?_ _) | (with_reducible refine zCd ?_))); (case aB => exact (by repeat (first | (with_reducible first | exact HB.out | apply zBa | apply zBn | apply zBd) | exact HB.out))); (case aF => exact (fun k_ hk => Kd.fresh' (Kd.R_lt (by (with_reducible repeat (first | apply zRa | apply zRn | apply zRd)); exact HO_3.out)) k_ hk)); (case aO => exact (by (with_reducible repeat (first | apply zRa | apply zRn | apply zRd)); exact zRm HO794.out (fun _ hk => hk.2))); (case aS => exact (zBs (by repeat (first | (with_reducible first | exact HB.out | apply zBa | apply zBn | apply zBd) | exact HB.out)))); (case aL => have := LMc23.out; omega); intro v796 w32 ho hb hg hat; rw [← Ny795.out] at ho; have n0_ := zMk (Kd.R_over' (by (with_reducible repeat (first | apply zRa | apply zRn | apply zRd)); exact HO_0.out) (Kd.R_typed (by (with_reducible repeat (first | apply zRa | apply zRn | apply zRd)); exact HO794.out)) (by decide) hg); have n1_ := zMk (Kd.R_after (ok := (fun _ => True)) (by (with_reducible repeat (first | apply zRa | apply zRn | apply zRd)); exact HO_3.out) hg hat); have n2_ := zMk (Kd.R_over' (by (with_reducible repeat (first | apply zRa | apply zRn | apply zRd)); exact HO777.out) (Kd.R_typed (by (with_reducible repeat (first | apply zRa | apply zRn | apply zRd)); exact HO794.out)) (by decide) hg); have n3_ := zMk (Kd.R_over' (by (with_reducible repeat (first | apply zRa | apply zRn | apply zRd)); exact HO782.out) (Kd.R_typed (by (with_reducible repeat (first | apply zRa | apply zRn | apply zRd)); exact HO794.out)) (by decide) hg); have n4_ := zMk (Kd.R_over' (by (with_reducible repeat (first | apply zRa | apply zRn | apply zRd)); exact HO784.out) (Kd.R_typed (by (with_reducible repeat (first | apply zRa | apply zRn | apply zRd)); exact HO794.out)) (by decide) hg); have n5_ := zMk (hb); have n6_ := zMk (ho); clear HO_0; clear HO_3; clear HO777; clear HO782; clear HO784; clear HB; clear HO794; have HO_0 := n0_; have HO_3 := n1_; have HO777 := n2_; have HO782 := n3_; have HO784 := n4_; have HB := n5_; have HO797 := n6_; clear n0_ n1_ n2_ n3_ n4_ n5_ n6_; clear ho hb hg hat))
        go_roundg k1
        case measure => have := HK1.out; omega
        case rel => exact ⟨(t778), (y795), H', ⟨by have := HK1.out; omega⟩, ⟨by (with_reducible repeat (first | apply zRa | apply zRn | apply zRd)); exact zRm HO782.out (fun _ hk => trivial)⟩, ⟨by (with_reducible repeat (first | apply zRa | apply zRn | apply zRd)); exact zRm HO797.out (fun _ hk => trivial)⟩, ⟨by repeat (first | (with_reducible first | exact HB.out | apply zBa | apply zBn | apply zBd) | exact HB.out)⟩⟩
    · rw [if_neg c8] at H
      have c8b0 : decide (0 < (x0_1.length : Int)) = false := decide_eq_false c8
      have c8b1 : decide (0 < x0_1.length) = false := decide_eq_false (by omega)
      clear c8
      obtain rfl := zOi H
      obtain ⟨Ao34, co34, eo34⟩ := Kd.R_slice HO_0.out
      subst eo34
      have hcv35 := own_string (P := Tryd.prog) Tryd.underlying50 Tryd.underlying5 Tryd.underlying9 (Kd.own_of_R HO_3.out)
      go_wp2
      go_ret
      exact ⟨by first | rfl | (simp [errW_none, errW_some] <;> rfl) | (simp [*, errW_none, errW_some] <;> rfl), by repeat (first | (with_reducible first | exact HB.out | apply zBa | apply zBn | apply zBd) | exact HB.out)⟩

/- The number's text: natural.Text and the document's. -/
section
open Go.Lib
theorem rdOf_nat (l : List ByteArray) (n : Nat) : rdOf ByteArray.empty l (n : Int) = l.getD n ByteArray.empty := by simp [rdOf]
/-- slices.Reverse from its i-th round on. -/
theorem rev_l0 (l : List ByteArray) (hl : l.length < 4611686018427387904) : ∀ (d i k : Nat) (x : List ByteArray), l.length - 2 * i ≤ d → 2 * i ≤ l.length → x.length = l.length →
    (∀ j, j < l.length → x.getD j ByteArray.empty = if j < i ∨ l.length - 1 - i < j then l.getD (l.length - 1 - j) ByteArray.empty else l.getD j ByteArray.empty) → d < k →
    slices_Reverse_string_string.l0 k x (i : Int) ((l.length : Int) - 1 - i) = some l.reverse
  | d, i, 0, x, hd, hi, hx, hj, hk => by omega
  | d, i, k + 1, x, hd, hi, hx, hj, hk => by
    simp only [slices_Reverse_string_string.l0]
    by_cases hlt : (i : Int) < (l.length : Int) - 1 - i
    · obtain ⟨j, hjj⟩ : ∃ j : Nat, (l.length : Int) - 1 - i = (j : Int) := ⟨l.length - 1 - i, by omega⟩
      rw [hjj]
      rw [hjj] at hlt
      rw [if_pos hlt, if_pos (by omega), if_pos (by rw [hx]; omega), if_pos (by omega), if_pos (by rw [hx]; omega), w64 (by omega) (by omega), w64 (by omega) (by omega)]
      rw [rdOf_nat, rdOf_nat, show ((i : Nat) : Int).toNat = i by omega, show ((j : Nat) : Int).toNat = j by omega]
      have e1 : (i : Int) + 1 = ((i + 1 : Nat) : Int) := by omega
      have e2 : (j : Int) - 1 = (l.length : Int) - 1 - ((i + 1 : Nat) : Int) := by omega
      rw [e1, e2]
      rcases Nat.eq_zero_or_pos d with h0 | h0
      · omega
      refine rev_l0 l hl (d - 1) (i + 1) k _ (by omega) (by omega) (by simp [hx]) (fun m hm => ?_) (by omega)
      have hxi : i < x.length := by omega
      have hxj : j < x.length := by omega
      have hm2 : m < x.length := by omega
      have hmi := hj m hm
      have hii := hj i (by omega)
      have hij := hj j (by omega)
      rw [if_neg (by omega)] at hii hij
      rw [List.getD_eq_getElem?_getD, List.getElem?_set]
      by_cases c1 : j = m
      · subst c1
        rw [if_pos rfl, if_pos (by simpa using hxj), if_pos (by omega), Option.getD_some, hii, show l.length - 1 - j = i by omega]
      · rw [if_neg c1, List.getElem?_set]
        by_cases c2 : i = m
        · subst c2
          rw [if_pos rfl, if_pos hxi, if_pos (by omega), Option.getD_some, hij, show l.length - 1 - i = j by omega]
        · rw [if_neg c2, ← List.getD_eq_getElem?_getD, hmi]
          by_cases c3 : m < i ∨ l.length - 1 - i < m
          · rw [if_pos c3, if_pos (by omega)]
          · rw [if_neg c3, if_neg (by omega)]
    · rw [if_neg hlt]
      congr 1
      refine List.ext_getElem (by simp [hx]) fun m h1 h2 => ?_
      have hm : m < l.length := by omega
      have h3 := hj m hm
      rw [List.getD_eq_getElem?_getD, List.getElem?_eq_getElem h1, Option.getD_some] at h3
      rw [List.getElem_reverse, h3]
      split
      · rw [List.getD_eq_getElem?_getD, List.getElem?_eq_getElem (by omega), Option.getD_some]
      · rename_i hc
        have : l.length - 1 - m = m := by omega
        rw [List.getD_eq_getElem?_getD, List.getElem?_eq_getElem hm, Option.getD_some]
        congr 1
        exact this.symm
  termination_by _ _ k => k
theorem rev_f (l : List ByteArray) (hl : l.length < 4611686018427387904) (k : Nat) (hk : l.length < k) : slices_Reverse_string_string.f k l = some l.reverse := by
  unfold slices_Reverse_string_string.f
  rw [w64 (by omega) (by omega)]
  have h := rev_l0 l hl l.length 0 k l (by omega) (by omega) rfl (fun j hj => by rw [if_neg (by omega)]) hk
  simpa using h
def bytesOf (l : List UInt8) : ByteArray := ⟨l.toArray⟩
theorem bytesOf_list (l : List UInt8) : (bytesOf l).data.toList = l := rfl
theorem bytesOf_size (l : List UInt8) : (bytesOf l).size = l.length := rfl
def partsOf (ps : List ByteArray) : List UInt8 := (ps.reverse.map (·.data.toList)).flatten
theorem partsOf_snoc (ps : List ByteArray) (s : ByteArray) : partsOf (ps ++ [s]) = s.data.toList ++ partsOf ps := by simp [partsOf]
theorem partsOf_rev (ps : List ByteArray) : join (ps.reverse.map (·.data.toList)) [] = partsOf ps := join_flat _
theorem text_l0 : ∀ (N k : Nat) (x : List Int) (ps : List ByteArray), Limbs x → x.length ≤ 100000 → val x < 1000000000 ^ N → 1 ≤ N → 2 * N + ps.length + 5 ≤ k → N + ps.length ≤ 10000 → (partsOf ps).length ≤ 9 * ps.length →
    n_Text.l0 k x ps = some (bytesOf (decDigits (val x).toNat ++ partsOf ps))
  | 0, _, _, _, _, _, _, h1, _, _, _ => by omega
  | N + 1, 0, _, _, _, _, _, _, hk, _, _ => by omega
  | N + 1, k + 1, x, ps, hx, hlen, hv, _, hk, hN, hp => by
    simp only [n_Text.l0]
    obtain ⟨q, hq, nq, ql⟩ := small_f x hx (by omega) 1000000000 (by omega) (by omega)
    have v0 := val_nonneg hx
    have hr0 : 0 ≤ val x % 1000000000 := Int.emod_nonneg _ (by omega)
    have hr1 : val x % 1000000000 < 1000000000 := Int.emod_lt_of_pos _ (by omega)
    obtain ⟨r, hr⟩ : ∃ r : Nat, val x % 1000000000 = (r : Int) := ⟨(val x % 1000000000).toNat, by omega⟩
    have hr9 : r < 10 ^ 9 := by omega
    have hl9 := dec_len_le 9 r (by omega) hr9
    have hl1 : 1 ≤ (decDigits r).length := by
      rcases Nat.eq_zero_or_pos (decDigits r).length with h0 | h0
      · exact absurd (List.eq_nil_of_length_eq_zero h0) (dec_ne r)
      · exact h0
    rw [hq, zOb, hr, w64 (by omega) (by omega)]
    have hit : strconv_Itoa_52.f (r : Int) = some (bytesOf (decDigits r)) := by
      unfold strconv_Itoa_52.f
      rw [if_pos (by omega), if_pos (by omega), itoa_dec _ (by omega)]
      rfl
    rw [hit, zOb]
    have hqv := nq.eq
    have hqr : val x = val q * 1000000000 + (r : Int) := by rw [hqv]; omega
    have hq0 := nq.nonneg
    by_cases hz : (q.length : Int) = 0
    · have hq' : q = [] := List.eq_nil_of_length_eq_zero (by omega)
      have hvq : val q = 0 := by rw [hq']; rfl
      rw [if_pos hz, if_pos (by omega), rev_f _ (by simp; omega) k (by simp; omega), zOb]
      unfold strings_Join.f
      rw [show ((⟨#[]⟩ : ByteArray)).data.toList = [] from rfl, partsOf_rev, partsOf_snoc, bytesOf_list, if_pos (by simp; omega), if_pos (by simp; omega), zOb]
      rw [hqr, hvq, show ((0 : Int) * 1000000000 + (r : Int)).toNat = r by omega]
      rfl
    · have hqpos : 1 ≤ val q := by
        rcases Int.lt_or_le 0 (val q) with h | h
        · omega
        · exact absurd (nq.unique (show IsNum [] (val x / 1000000000) from ⟨Limbs.nil, .inl rfl, by rw [← hqv]; show (0 : Int) = val q; omega⟩)) (by intro h0; rw [h0] at hz; exact hz rfl)
      rw [if_neg hz, bytesOf_size, w64 (by omega) (by omega)]
      unfold strings_Repeat.f
      have hsub : ((9 - ((decDigits r).length : Int))).toNat = 9 - (decDigits r).length := by omega
      rw [if_pos (by omega), if_pos (by omega), if_pos (by rw [hsub]; show 1 * _ ≤ _; omega), zOb, hsub]
      rw [show ((⟨#[48]⟩ : ByteArray)).data.toList = [48] from rfl, repeat48]
      obtain ⟨z, hzz⟩ : ∃ z : ByteArray, z = (⟨(List.replicate (9 - (decDigits r).length) (48 : UInt8)).toArray⟩ : ByteArray) := ⟨_, rfl⟩
      have hzl : z.data.toList = List.replicate (9 - (decDigits r).length) 48 := by rw [hzz]
      have hzs : z.size = 9 - (decDigits r).length := by rw [hzz]; show (List.replicate _ _).toArray.size = _; simp
      rw [← hzz, if_pos (by rw [hzs]; omega), if_pos (by omega)]
      have hap : (z ++ bytesOf (decDigits r)).data.toList = padD 9 r := by rw [ByteArray.toList_data_append, hzl, bytesOf_list, padD_dec 9 r (by omega) hr9]
      have hqN : val q < 1000000000 ^ N := by
        rw [hqv]
        refine Int.ediv_lt_of_lt_mul (by omega) ?_
        rw [Int.pow_succ] at hv
        exact hv
      have hN1 : 1 ≤ N := by
        rcases Nat.eq_zero_or_pos N with h0 | h0
        · subst h0; simp at hqN; omega
        · exact h0
      have hpl : (padD 9 r).length = 9 := by rw [padD_dec 9 r (by omega) hr9]; simp; omega
      rw [text_l0 N k q (ps ++ [z ++ bytesOf (decDigits r)]) nq.limbs (by omega) hqN hN1 (by simp; omega) (by simp; omega) (by rw [partsOf_snoc, hap]; simp [hpl]; omega), partsOf_snoc, hap]
      congr 2
      rw [← List.append_assoc]
      congr 1
      rw [← dec_pad (val q).toNat (by omega) 9 r hr9]
      congr 1
      omega
theorem pow_mono_nat (a b n : Nat) (h : a ≤ b) : (a : Int) ^ n ≤ (b : Int) ^ n := by
  rw [← Int.natCast_pow, ← Int.natCast_pow]
  exact Int.ofNat_le.2 (Nat.pow_le_pow_left h n)
theorem pow_limbs (n : Nat) : (4294967296 : Int) ^ n ≤ 1000000000 ^ (2 * n) := by
  rw [Int.pow_mul]
  exact pow_mono_nat 4294967296 1000000000000000000 n (by decide)
theorem text_f (l : List Int) (hl : Limbs l) (hlen : l.length ≤ 600) (k : Nat) (hk : 5000 ≤ k) : n_Text.f k l = some (bytesOf (decDigits (val l).toNat)) := by
  unfold n_Text.f
  have hc := cut_length l
  rw [cut_f, zOb, text_l0 (2 * l.length + 1) k (cut l) [] (cut_limbs hl) (by omega) ?_ (by omega) (by simp; omega) (by simp; omega) (by simp [partsOf]), cut_val]
  · simp [partsOf]
  · rw [cut_val]
    have h1 := val_lt hl
    have h2 := pow_limbs l.length
    have h3 : (1000000000 : Int) ^ (2 * l.length) ≤ 1000000000 ^ (2 * l.length + 1) := by rw [Int.pow_succ]; have : (0 : Int) < 1000000000 ^ (2 * l.length) := Int.pow_pos (by decide); omega
    omega
theorem strOfNums_eq (l : List UInt8) : strOfNums (l.map fun c => ((c.toNat : Nat) : Int)) = bytesOf l := by
  refine ByteArray.ext ?_
  have := strOfNums_data (l.map fun c => ((c.toNat : Nat) : Int))
  refine Array.toList_inj.1 ?_
  rw [this, bytesOf_list, List.map_map]
  refine (List.map_congr_left fun c _ => ?_).trans (List.map_id l)
  simp [UInt8.ofNat_toNat]
theorem rtext_l0 : ∀ (k : Nat) (N : Nat) (x : List Int) (v : Int) (out : List UInt8), IsNum x v → x.length ≤ 20 → v < 10 ^ N → N + 20000 < k → out.length + N ≤ 1000000 →
    r1_Text.l0 k x (out.map fun c => ((c.toNat : Nat) : Int)) = some (bytesOf (decE v.toNat ++ out))
  | 0, _, _, _, _, _, _, _, _, _ => by omega
  | k + 1, N, x, v, out, hx, hl, hN, hk, ho => by
    simp only [r1_Text.l0]
    have v0 := hx.nonneg
    by_cases hp : (x.length : Int) > 0
    · rw [if_pos hp]
      have hvp : 0 < v := by rw [← hx.eq]; exact val_pos hx.limbs hx.trim (by intro h0; rw [h0] at hp; simp at hp)
      have hN1 : 1 ≤ N := by
        rcases Nat.eq_zero_or_pos N with h0 | h0
        · subst h0; simp at hN; omega
        · exact h0
      have L10 : Limbs [10] := Limbs.mk (by omega) (by omega) Limbs.nil
      have v10 : val [10] = 10 := by decide
      rcases rdivmod_f x [10] hx.limbs L10 hl (by simp) k (by omega) with ⟨h0, _⟩ | ⟨_, q, r, e, nq, nr⟩
      · rw [v10] at h0; omega
      · rw [hx.eq, v10] at nq nr
        have hr0 : 0 ≤ v % 10 := Int.emod_nonneg _ (by omega)
        have hr1 : v % 10 < 10 := Int.emod_lt_of_pos _ (by omega)
        have hql : q.length ≤ x.length := by
          refine len_of_lt nq (Int.lt_of_le_of_lt (Int.ediv_le_self _ v0) ?_)
          rw [← hx.eq]; exact val_ltB hx.limbs
        have hdig : (v % 10).toNat = v.toNat % 10 := by omega
        have hdiv : (v / 10).toNat = v.toNat / 10 := by omega
        have hstep : decE v.toNat ++ out = decE (v / 10).toNat ++ (UInt8.ofNat (48 + v.toNat % 10) :: out) := by
          rw [decE_step v.toNat (by omega), hdiv]; simp
        have hnum : ((UInt8.ofNat (48 + v.toNat % 10)).toNat : Int) = 48 + v % 10 := by rw [digit_nat _ (by omega)]; omega
        have hqN : v / 10 < 10 ^ (N - 1) := by
          refine Int.ediv_lt_of_lt_mul (by omega) ?_
          rw [← Int.pow_succ, Nat.succ_eq_add_one, show N - 1 + 1 = N by omega]
          exact hN
        have ih := rtext_l0 k (N - 1) q (v / 10) (UInt8.ofNat (48 + v.toNat % 10) :: out) nq (by omega) hqN (by omega) (by simp; omega)
        rw [← hstep] at ih
        rw [e, zOb]
        simp only
        by_cases hrp : (r.length : Int) > 0
        · have hrv : r = [v % 10] := by
            refine nr.unique ⟨Limbs.mk hr0 (by omega) Limbs.nil, ?_, by simp [val]⟩
            refine Or.inr ?_
            have : v % 10 ≠ 0 := by
              intro h0
              rw [h0] at nr
              have := nr.unique IsNum.nil
              rw [this] at hrp
              simp at hrp
            simpa using this
          rw [if_pos hrp, if_pos hrp, zOb, if_pos (by simp; omega)]
          have hd : (48 + rd r 0 % 256) % 256 = ((UInt8.ofNat (48 + v.toNat % 10)).toNat : Int) := by
            rw [hnum, hrv]
            show (48 + v % 10 % 256) % 256 = 48 + v % 10
            omega
          rw [hd]
          exact ih
        · rw [if_neg hrp, zOb, if_pos (by simp; omega)]
          have hrn : r = [] := List.eq_nil_of_length_eq_zero (by omega)
          have hv0 : v % 10 = 0 := by rw [← nr.eq, hrn]; rfl
          have hd : (48 : Int) = ((UInt8.ofNat (48 + v.toNat % 10)).toNat : Int) := by rw [hnum, hv0]; rfl
          rw [hd]
          exact ih
    · rw [if_neg hp, strOfNums_eq]
      have hx0 : x = [] := List.eq_nil_of_length_eq_zero (by omega)
      have hv0 : v = 0 := by rw [← hx.eq, hx0]; rfl
      rw [hv0]
      rfl
theorem pow_limbs10 (n : Nat) : (4294967296 : Int) ^ n ≤ 10 ^ (10 * n) := by
  rw [Int.pow_mul]
  exact pow_mono_nat 4294967296 10000000000 n (by decide)
theorem rtext_f (l : List Int) (hl : Limbs l) (hlen : l.length ≤ 4) (k : Nat) (hk : 30000 ≤ k) : r1_Text.f k l = some (bytesOf (decDigits (val l).toNat)) := by
  unfold r1_Text.f
  have hc := cut_length l
  rw [norm_f l (by omega) k (by omega), zOb]
  have hn := IsNum.cut hl
  by_cases h0 : ((cut l).length : Int) = 0
  · have hx0 : cut l = [] := List.eq_nil_of_length_eq_zero (by omega)
    have hv0 : val l = 0 := by rw [← hn.eq, hx0]; rfl
    rw [if_pos h0, hv0, show (0 : Int).toNat = 0 from rfl, dec_lt (by omega)]
    rfl
  · rw [if_neg h0]
    have hvp : 0 < val l := by rw [← hn.eq]; exact val_pos hn.limbs hn.trim (by intro h1; rw [h1] at h0; simp at h0)
    have h1 := val_lt hl
    have h2 := pow_limbs10 l.length
    have h3 := rtext_l0 k (10 * l.length) (cut l) (val l) [] hn (by omega) (by omega) (by omega) (by simp; omega)
    rw [show ([] : List UInt8).map (fun c => ((c.toNat : Nat) : Int)) = [] from rfl] at h3
    rw [h3, List.append_nil]
    unfold decE
    rw [if_neg (by omega)]
end

/-! ### r1_sum: function 44 -/
def r1_sum.l0 : Nat → List Int → List Int → List Int → Int → Int → Option (List Int)
  | 0, _, _, _, _, _ => none
  | k + 1, x0, x1, x5, x6, x7 => if x7 ≤ (mx (x0.length : Int) (x1.length : Int)) then ((r1_at.f x0 x7).bind fun t474 => ((r1_at.f x1 x7).bind fun t475 => (if x5.length < 140737488355328 then (r1_sum.l0 k x0 x1 (x5 ++ [Go.bits .and .u8 ((((t474 + t475) % 256) + x6) % 256) 1]) (((((t474 + t475) % 256) + x6) % 256) / 2) (wrap64 (x7 + 1))) else (none)))) else (some x5)
def r1_sum.f (k : Nat) (l0 : List Int) (l1 : List Int) : Option (List Int) := r1_sum.l0 k l0 l1 ([] : List Int) 0 0
set_option maxHeartbeats 8000000 in
set_option maxRecDepth 100000 in
theorem r1_sum.calls (k : Nat) (A0 : Option Addr) (c0 : Nat) (l0 : List Int) (A1 : Option Addr) (c1 : Nat) (l1 : List Int) (r : List Int) (w : World) (hr0 : Kd.C (Kd.int .u8) w A0 l0.length l0) (hc0 : l0.length ≤ c0) (hr1 : Kd.C (Kd.int .u8) w A1 l1.length l1) (hc1 : l1.length ≤ c1) (h : r1_sum.f k l0 l1 = some r) :
    Calls Tryd.prog 44 #[.slice A0 l0.length c0, .slice A1 l1.length c1] w fun e w' => ∃ v0_ : Value, e = .returned (v0_) ∧ Kd.R (Kd.int .u8) 5 w' w.heap.size (fun _ => True) v0_ r ∧ Below w.heap.size w w' := by
  have HR0 := zMk hr0
  have HC0 := zMk hc0
  clear hr0 hc0
  have HR1 := zMk hr1
  have HC1 := zMk hc1
  clear hr1 hc1
  have HB := zMk (Below.refl w.heap.size w)
  have H : (r1_sum.l0 k l0 l1 ([] : List Int) 0 0) = some r := h
  clear h
  have H' := zMk H
  clear H
  go_enter Tryd.func44, Tryd.ntmps44
  go_wp2
  go_loopg [5, 6, 7] k (fun kq v5 v6 v7 w' => ∃ (x5_1 : List Int) (x6_1 : Int) (x7_1 : Int), v6 = .int .u8 x6_1 ∧ v7 = .int .i64 x7_1 ∧ Aside0 (r1_sum.l0 kq l0 l1 x5_1 x6_1 x7_1 = some r) ∧ Aside0 (kq ≤ k) ∧ Aside0 (Kd.R (Kd.int .u8) 5 w' w.heap.size (fun _ => True) v5 x5_1) ∧ Aside0 (Below w.heap.size w w'))
  case atStart => exact ⟨(([] : List Int)), (0), (0), (by first | rfl | (simp; done) | (simp [*]; done)), (by first | rfl | (simp; done) | (simp [*]; done)), H', ⟨Nat.le_refl _⟩, ⟨by first | exact Kd.R_nil _ _ _ _ _ | exact Kd.N_nil _ _ _ _ _ | exact Kd.V_nil _ _ _ _ _ | exact Kd.Q_nil _ _ _ _ _ | exact Kd.S_nil _ _ _ _ _⟩, ⟨by repeat (first | (with_reducible first | exact HB.out | apply zBa | apply zBn | apply zBd) | exact HB.out)⟩⟩
  clear H'
  obtain ⟨x5_1, x6_1, x7_1, rfl, rfl, HA, HK1, HO_5, HB⟩ := hrel
  rcases gk with _ | k1
  · exact absurd HA.out (by simp [r1_sum.l0])
  have H := HA.out
  clear HA
  simp only [r1_sum.l0] at H
  obtain ⟨ji3, hji3⟩ : ∃ j_ : Int, (mx (l0.length : Int) (l1.length : Int)) = j_ := ⟨_, rfl⟩
  replace H : (if x7_1 ≤ (ji3) then ((r1_at.f l0 x7_1).bind fun t474 => ((r1_at.f l1 x7_1).bind fun t475 => (if x5_1.length < 140737488355328 then (r1_sum.l0 k1 l0 l1 (x5_1 ++ [Go.bits .and .u8 ((((t474 + t475) % 256) + x6_1) % 256) 1]) (((((t474 + t475) % 256) + x6_1) % 256) / 2) (wrap64 (x7_1 + 1))) else (none)))) else (some x5_1)) = some r := by first | (rw [hji3] at H; exact H) | (simp only [hji3] at H ⊢; exact H)
  have hji3_ : (if (l0.length : Int) < (l1.length : Int) then (l1.length : Int) else (l0.length : Int)) = ji3 := hji3
  have hji3_n : (if l0.length < l1.length then (l1.length : Int) else (l0.length : Int)) = ji3 := by rw [← hji3]; simp only [mx, mn, Int.ofNat_lt]
  by_cases c4 : x7_1 ≤ (ji3)
  · rw [if_pos c4] at H
    have c4b0 : decide (x7_1 ≤ (ji3)) = true := decide_eq_true c4
    clear c4
    replace H := Option.bind_eq_some_iff.mp H
    obtain ⟨t474, A50, H⟩ := H
    have A5 := zMk A50
    clear A50
    replace H := Option.bind_eq_some_iff.mp H
    obtain ⟨t475, A60, H⟩ := H
    have A6 := zMk A60
    clear A60
    by_cases c7 : x5_1.length < 140737488355328
    rotate_left
    · rw [if_neg c7] at H; exact absurd H (by simp)
    rw [if_pos c7] at H
    have LMc7 := zMk c7
    clear c7
    obtain ⟨y476, hy476⟩ : ∃ y_ : List Int, y_ = (x5_1 ++ [Go.bits .and .u8 ((((t474 + t475) % 256) + x6_1) % 256) 1]) := ⟨_, rfl⟩
    replace H : (r1_sum.l0 k1 l0 l1 y476 (((((t474 + t475) % 256) + x6_1) % 256) / 2) (wrap64 (x7_1 + 1))) = some r := by first | (rw [hy476]; with_reducible exact H) | (have H2_ := (zOb _ _).symm.trans H; rw [hy476]; with_reducible exact H2_) | (have H2_ := (zOb _ _).symm.trans H; with_reducible exact H2_) | with_reducible exact H | (rw [hy476]; exact H) | exact H
    have Ny476 := zMk hy476
    clear hy476
    have H' := zMk H
    clear H
    go_wp2_with (first | ((with_reducible refine gate_callee (f := 43) rfl ?_); refine goesL_ (some 20) rfl rfl Tryd.func43 (by kernel_rfl) rfl #[.slice A0 l0.length c0, .int .i64 x7_1] rfl (by (try simp only [List.map_toArray, List.map_cons, List.map_nil]); first | done | rfl | (simp only [zLd, zLt]; rfl)) ?_; (with_reducible refine (r1_at.calls _ _ l0 x7_1 t474 _ ?side1 ?side2 A5.out).mono ?_); (case side1 => repeat (first | exact (Kd.C_below HR0.out HB.out) | (with_reducible refine zCa ?_ _) | (with_reducible refine zCn ?_ _) | (with_reducible refine zCd ?_))); (case side2 => exact HC0.out); rintro e w' ⟨rfl, ⟨nd, rfl⟩⟩; refine ⟨_, rfl, ?_⟩) | ((with_reducible refine gate_callee (f := 43) rfl ?_); refine goesL_ (some 23) rfl rfl Tryd.func43 (by kernel_rfl) rfl #[.slice A1 l1.length c1, .int .i64 x7_1] rfl (by (try simp only [List.map_toArray, List.map_cons, List.map_nil]); first | done | rfl | (simp only [zLd, zLt]; rfl)) ?_; (with_reducible refine (r1_at.calls _ _ l1 x7_1 t475 _ ?side1 ?side2 A6.out).mono ?_); (case side1 => repeat (first | exact (Kd.C_below HR1.out (by repeat (first | (with_reducible first | exact HB.out | apply zBa | apply zBn | apply zBd) | exact HB.out))) | (with_reducible refine zCa ?_ _) | (with_reducible refine zCn ?_ _) | (with_reducible refine zCd ?_))); (case side2 => exact HC1.out); rintro e w' ⟨rfl, ⟨nd, rfl⟩⟩; refine ⟨_, rfl, ?_⟩) | ((with_reducible refine gate_builtin (b := .append) (xs := #[.tmp 27, .tmp 30]) rfl ?_); at_builtin; refine Kd.R_append (Kd.int .u8) (w0 := w) w.heap.size rfl (.tmp 27) (.tmp 30) 50 5 (.int .u8 0) 1 rfl Tryd.underlying50 info5 rfl (by decide) (by omega) u5 x5_1 (Go.bits .and .u8 ((t474 + t475 + x6_1) % 256) 1) [.int .u8 (Go.bits .and .u8 ((t474 + t475 + x6_1) % 256) 1)] (fun _ => True) (fun _ => False) rfl rfl ?aP (fun _ hk => hk.elim) ?aF ?aO ?aB ?aS ?aL ?_; (case aP => exact rfl); (case aB => exact (by repeat (first | (with_reducible first | exact HB.out | apply zBa | apply zBn | apply zBd) | exact HB.out))); (case aF => exact (fun _ _ => trivial)); (case aO => exact (by (with_reducible repeat (first | apply zRa | apply zRn | apply zRd)); exact HO_5.out)); (case aS => exact (zBs (by repeat (first | (with_reducible first | exact HB.out | apply zBa | apply zBn | apply zBd) | exact HB.out)))); (case aL => have := LMc7.out; omega); intro v477 w8 ho hb hg hat; rw [show ((t474 + t475 + x6_1) % 256) = ((((t474 + t475) % 256) + x6_1) % 256) from by omega] at ho; rw [← Ny476.out] at ho; have n0_ := zMk (hb); have n1_ := zMk (ho); clear HB; clear HO_5; have HB := n0_; have HO478 := n1_; clear n0_ n1_; clear ho hb hg hat))
    go_roundg k1
    case measure => have := HK1.out; omega
    case rel => exact ⟨(y476), (((((t474 + t475) % 256) + x6_1) % 256) / 2), (wrap64 (x7_1 + 1)), (by first | rfl | (simp; done) | (simp [*]; done)), (by first | rfl | (simp; done) | (simp [*]; done)), H', ⟨by have := HK1.out; omega⟩, ⟨by (with_reducible repeat (first | apply zRa | apply zRn | apply zRd)); exact HO478.out⟩, ⟨by repeat (first | (with_reducible first | exact HB.out | apply zBa | apply zBn | apply zBd) | exact HB.out)⟩⟩
  · rw [if_neg c4] at H
    have c4b0 : decide (x7_1 ≤ (ji3)) = false := decide_eq_false c4
    clear c4
    obtain rfl := zOi H
    go_wp2
    go_ret
    exact ⟨_, by first | rfl | (simp [errW_none, errW_some] <;> rfl) | (simp only [← hji3]; first | rfl | (simp [errW_none, errW_some] <;> rfl)) | (simp [*, errW_none, errW_some] <;> rfl), by (with_reducible repeat (first | apply zRa | apply zRn | apply zRd)); exact HO_5.out, by repeat (first | (with_reducible first | exact HB.out | apply zBa | apply zBn | apply zBd) | exact HB.out)⟩

/- The plain law of the document's sum of bits. -/
/-- The document's sum of bits: one bit more than the longer one. -/
theorem sum_l0 (x y : List Int) (hx : Bits x) (hy : Bits y) (M : Nat) (hM : M = max x.length y.length) (hM2 : M < 140737488355000) :
    ∀ (j m k : Nat) (O : List Int) (c : Int), m + j = M + 1 → O.length = m → Bits O → (c = 0 ∨ c = 1) → bval O + 2 ^ m * c = bval (x.take m) + bval (y.take m) →
    ∃ r, r1_sum.l0 (k + j + 1) x y O c (m : Int) = some r ∧ Bits r ∧ r.length = M + 1 ∧ bval r = bval x + bval y := by
  intro j
  induction j with
  | zero =>
    intro m k O c hm hO hB hc hv
    refine ⟨O, ?_, hB, by omega, ?_⟩
    · rw [r1_sum.l0, mx_nat, if_neg (by omega)]
    · rw [List.take_of_length_le (by omega), List.take_of_length_le (by omega)] at hv
      have h1 := bval_bounds hx
      have h2 := bval_bounds hy
      have hpow : ∀ {a b : Nat}, a ≤ b → (2 : Int) ^ a ≤ 2 ^ b := fun h => by
        have := Nat.pow_le_pow_right (show 0 < 2 by decide) h
        exact_mod_cast this
      have h3 := hpow (show x.length ≤ M by omega)
      have h4 := hpow (show y.length ≤ M by omega)
      have h5 : (2 : Int) ^ m = 2 ^ M * 2 := by rw [show m = M + 1 by omega, Int.pow_succ]
      have h6 := bval_bounds hB
      rcases hc with rfl | rfl
      · omega
      · omega
  | succ j ih =>
    intro m k O c hm hO hB hc hv
    have hxm := hx.getD m
    have hym := hy.getD m
    obtain ⟨s, hs⟩ : ∃ s, s = x.getD m 0 + y.getD m 0 + c := ⟨_, rfl⟩
    have hs0 : 0 ≤ s ∧ s ≤ 3 := by omega
    obtain ⟨r, h1, h2, h3, h4⟩ := ih (m + 1) k (O ++ [s % 2]) (s / 2) (by omega) (by simp [hO]) (hB.append (Bits.one (by omega))) (by omega) (by
      rw [bval_append, bval_one, bval_take_succ, bval_take_succ, hO, Int.pow_succ]
      have := Int.emod_add_mul_ediv s 2
      grind)
    refine ⟨r, ?_, h2, h3, h4⟩
    rw [show k + (j + 1) + 1 = (k + j + 1) + 1 by omega, r1_sum.l0, mx_nat, if_pos (by omega), at_f, zOb, at_f, zOb, if_pos (by omega), w64 (by omega) (by omega)]
    rw [show ((x.getD m 0 + y.getD m 0) % 256 + c) % 256 = s by omega, u8_and1 s (by omega) (by omega), show ((m : Int) + 1) = ((m + 1 : Nat) : Int) by omega]
    exact h1
theorem sum_f (x y : List Int) (hx : Bits x) (hy : Bits y) (hM : max x.length y.length < 140737488355000) (k : Nat) (hk : max x.length y.length + 2 ≤ k) :
    ∃ r, r1_sum.f k x y = some r ∧ Bits r ∧ r.length = max x.length y.length + 1 ∧ bval r = bval x + bval y := by
  obtain ⟨d, rfl⟩ : ∃ d, k = d + (max x.length y.length + 1) + 1 := ⟨k - (max x.length y.length + 2), by omega⟩
  obtain ⟨r, h1, h2, h3, h4⟩ := sum_l0 x y hx hy _ rfl hM (max x.length y.length + 1) 0 d [] 0 (by omega) rfl Bits.nil (.inl rfl) (by simp [bval])
  exact ⟨r, h1, h2, h3, h4⟩

/-! ### r1_Add: function 32 -/
def r1_Add.f (k : Nat) (l0 : List Int) (l1 : List Int) : Option (List Int) := (r1_bits.f k l0).bind fun t726 => ((r1_bits.f k l1).bind fun t729 => ((r1_sum.f k t726 t729).bind fun t732 => ((r1_limbs.f k t732).bind fun t735 => (some t735))))
set_option maxHeartbeats 8000000 in
set_option maxRecDepth 100000 in
theorem r1_Add.calls (k : Nat) (A0 : Option Addr) (c0 : Nat) (l0 : List Int) (A1 : Option Addr) (c1 : Nat) (l1 : List Int) (r : List Int) (w : World) (hr0 : Kd.C (Kd.int .u32) w A0 l0.length l0) (hc0 : l0.length ≤ c0) (hr1 : Kd.C (Kd.int .u32) w A1 l1.length l1) (hc1 : l1.length ≤ c1) (h : r1_Add.f k l0 l1 = some r) :
    Calls Tryd.prog 32 #[.slice A0 l0.length c0, .slice A1 l1.length c1] w fun e w' => ∃ v0_ : Value, e = .returned (v0_) ∧ Kd.R (Kd.int .u32) 36 w' w.heap.size (fun _ => True) v0_ r ∧ Below w.heap.size w w' := by
  have HR0 := zMk hr0
  have HC0 := zMk hc0
  clear hr0 hc0
  have HR1 := zMk hr1
  have HC1 := zMk hc1
  clear hr1 hc1
  have HB := zMk (Below.refl w.heap.size w)
  have H : ((r1_bits.f k l0).bind fun t726 => ((r1_bits.f k l1).bind fun t729 => ((r1_sum.f k t726 t729).bind fun t732 => ((r1_limbs.f k t732).bind fun t735 => (some t735))))) = some r := h
  clear h
  replace H := Option.bind_eq_some_iff.mp H
  obtain ⟨t726, A30, H⟩ := H
  have A3 := zMk A30
  clear A30
  replace H := Option.bind_eq_some_iff.mp H
  obtain ⟨t729, A40, H⟩ := H
  have A4 := zMk A40
  clear A40
  replace H := Option.bind_eq_some_iff.mp H
  obtain ⟨t732, A50, H⟩ := H
  have A5 := zMk A50
  clear A50
  replace H := Option.bind_eq_some_iff.mp H
  obtain ⟨t735, A60, H⟩ := H
  have A6 := zMk A60
  clear A60
  obtain rfl := zOi H
  go_enter Tryd.func32, Tryd.ntmps32
  go_wp2_with (first | ((with_reducible refine gate_callee (f := 42) rfl ?_); refine goesL_ (some 6) rfl rfl Tryd.func42 (by kernel_rfl) rfl #[.slice A0 l0.length c0] rfl (by (try simp only [List.map_toArray, List.map_cons, List.map_nil]); first | done | rfl | (simp only [zLd, zLt]; rfl)) ?_; (with_reducible refine (r1_bits.calls k _ _ l0 t726 _ ?side1 ?side2 A3.out).mono ?_); (case side1 => repeat (first | exact HR0.out | (with_reducible refine zCa ?_ _) | (with_reducible refine zCn ?_ _) | (with_reducible refine zCd ?_))); (case side2 => exact HC0.out); rintro e w7 ⟨v727, rfl, ho0, hb⟩; refine ⟨_, rfl, ?_⟩; have n0_ := zMk (Kd.R_lower ho0 (zBs (by repeat (first | (with_reducible first | exact HB.out | apply zBa | apply zBn | apply zBd) | exact HB.out)))); have n1_ := zMk (zBt (by repeat (first | (with_reducible first | exact HB.out | apply zBa | apply zBn | apply zBd) | exact HB.out)) hb); clear HB; have HO728 := n0_; have HB := n1_; clear n0_ n1_; (try clear hb); (try clear hb2); (try clear hk); (try clear hi); (try clear ho0)) | ((with_reducible refine gate_callee (f := 42) rfl ?_); refine goesL_ (some 8) rfl rfl Tryd.func42 (by kernel_rfl) rfl #[.slice A1 l1.length c1] rfl (by (try simp only [List.map_toArray, List.map_cons, List.map_nil]); first | done | rfl | (simp only [zLd, zLt]; rfl)) ?_; (with_reducible refine (r1_bits.calls k _ _ l1 t729 _ ?side1 ?side2 A4.out).mono ?_); (case side1 => repeat (first | exact (Kd.C_below HR1.out HB.out) | (with_reducible refine zCa ?_ _) | (with_reducible refine zCn ?_ _) | (with_reducible refine zCd ?_))); (case side2 => exact HC1.out); rintro e w8 ⟨v730, rfl, ho0, hb⟩; refine ⟨_, rfl, ?_⟩; have n0_ := zMk (Kd.R_elder' (by (with_reducible repeat (first | apply zRa | apply zRn | apply zRd)); exact HO728.out) (Kd.R_base ho0) hb); have n1_ := zMk (Kd.R_lower (Kd.R_new' ho0 (Kd.R_lt (by (with_reducible repeat (first | apply zRa | apply zRn | apply zRd)); exact HO728.out))) (zBs (by repeat (first | (with_reducible first | exact HB.out | apply zBa | apply zBn | apply zBd) | exact HB.out)))); have n2_ := zMk (zBt (by repeat (first | (with_reducible first | exact HB.out | apply zBa | apply zBn | apply zBd) | exact HB.out)) hb); clear HO728; clear HB; have HO728 := n0_; have HO731 := n1_; have HB := n2_; clear n0_ n1_ n2_; (try clear hb); (try clear hb2); (try clear hk); (try clear hi); (try clear ho0); obtain ⟨Ao9, co9, eo9⟩ := Kd.R_slice HO728.out; subst eo9; obtain ⟨Ao10, co10, eo10⟩ := Kd.R_slice HO731.out; subst eo10) | ((with_reducible refine gate_callee (f := 44) rfl ?_); refine goesL_ (some 9) rfl rfl Tryd.func44 (by kernel_rfl) rfl #[.slice Ao9 t726.length co9, .slice Ao10 t729.length co10] rfl (by (try simp only [List.map_toArray, List.map_cons, List.map_nil]); first | done | rfl | (simp only [zLd, zLt]; rfl)) ?_; (with_reducible refine (r1_sum.calls k _ _ t726 _ _ t729 t732 _ ?side1 ?side2 ?side3 ?side4 A5.out).mono ?_); (case side1 => repeat (first | exact (Kd.R_reads' HO728.out).2.2 | (with_reducible refine zCa ?_ _) | (with_reducible refine zCn ?_ _) | (with_reducible refine zCd ?_))); (case side2 => exact (Kd.R_reads' HO728.out).2.1); (case side3 => repeat (first | exact (Kd.R_reads' HO731.out).2.2 | (with_reducible refine zCa ?_ _) | (with_reducible refine zCn ?_ _) | (with_reducible refine zCd ?_))); (case side4 => exact (Kd.R_reads' HO731.out).2.1); rintro e w11 ⟨v733, rfl, ho0, hb⟩; refine ⟨_, rfl, ?_⟩; have n0_ := zMk (Kd.R_elder' (by (with_reducible repeat (first | apply zRa | apply zRn | apply zRd)); exact HO728.out) (Kd.R_base ho0) hb); have n1_ := zMk (Kd.R_elder' (by (with_reducible repeat (first | apply zRa | apply zRn | apply zRd)); exact HO731.out) (Kd.R_base ho0) hb); have n2_ := zMk (Kd.R_lower (Kd.R_new' (Kd.R_new' ho0 (Kd.R_lt (by (with_reducible repeat (first | apply zRa | apply zRn | apply zRd)); exact HO728.out))) (Kd.R_lt (by (with_reducible repeat (first | apply zRa | apply zRn | apply zRd)); exact HO731.out))) (zBs (by repeat (first | (with_reducible first | exact HB.out | apply zBa | apply zBn | apply zBd) | exact HB.out)))); have n3_ := zMk (zBt (by repeat (first | (with_reducible first | exact HB.out | apply zBa | apply zBn | apply zBd) | exact HB.out)) hb); clear HO728; clear HO731; clear HB; have HO728 := n0_; have HO731 := n1_; have HO734 := n2_; have HB := n3_; clear n0_ n1_ n2_ n3_; (try clear hb); (try clear hb2); (try clear hk); (try clear hi); (try clear ho0); obtain ⟨Ao12, co12, eo12⟩ := Kd.R_slice HO734.out; subst eo12) | ((with_reducible refine gate_callee (f := 45) rfl ?_); refine goesL_ (some 10) rfl rfl Tryd.func45 (by kernel_rfl) rfl #[.slice Ao12 t732.length co12] rfl (by (try simp only [List.map_toArray, List.map_cons, List.map_nil]); first | done | rfl | (simp only [zLd, zLt]; rfl)) ?_; (with_reducible refine (r1_limbs.calls k _ _ t732 t735 _ ?side1 ?side2 A6.out).mono ?_); (case side1 => repeat (first | exact (Kd.R_reads' HO734.out).2.2 | (with_reducible refine zCa ?_ _) | (with_reducible refine zCn ?_ _) | (with_reducible refine zCd ?_))); (case side2 => exact (Kd.R_reads' HO734.out).2.1); rintro e w13 ⟨v736, rfl, ho0, hb⟩; refine ⟨_, rfl, ?_⟩; have n0_ := zMk (Kd.R_below (by (with_reducible repeat (first | apply zRa | apply zRn | apply zRd)); exact HO728.out) hb); have n1_ := zMk (Kd.R_below (by (with_reducible repeat (first | apply zRa | apply zRn | apply zRd)); exact HO731.out) hb); have n2_ := zMk (Kd.R_below (by (with_reducible repeat (first | apply zRa | apply zRn | apply zRd)); exact HO734.out) hb); have n3_ := zMk (Kd.R_lower ho0 (zBs (by repeat (first | (with_reducible first | exact HB.out | apply zBa | apply zBn | apply zBd) | exact HB.out)))); have n4_ := zMk (zBt (by repeat (first | (with_reducible first | exact HB.out | apply zBa | apply zBn | apply zBd) | exact HB.out)) hb); clear HO728; clear HO731; clear HO734; clear HB; have HO728 := n0_; have HO731 := n1_; have HO734 := n2_; have HO737 := n3_; have HB := n4_; clear n0_ n1_ n2_ n3_ n4_; (try clear hb); (try clear hb2); (try clear hk); (try clear hi); (try clear ho0)))
  go_ret
  exact ⟨_, by first | rfl | (simp [errW_none, errW_some] <;> rfl) | (simp [*, errW_none, errW_some] <;> rfl), by (with_reducible repeat (first | apply zRa | apply zRn | apply zRd)); exact HO737.out, by repeat (first | (with_reducible first | exact HB.out | apply zBa | apply zBn | apply zBd) | exact HB.out)⟩

/- The plain law of the document's sum. -/
theorem radd_f (a b : List Int) (ha : Limbs a) (hb : Limbs b) (la : a.length < 1000000) (lb : b.length < 1000000) (k : Nat) (hk : 200 * a.length + 200 * b.length + 100 ≤ k) :
    ∃ r, r1_Add.f k a b = some r ∧ IsNum r (val a + val b) := by
  unfold r1_Add.f
  have la2 := bitsOf_length a
  have lb2 := bitsOf_length b
  obtain ⟨t, h1, h2, h3, h4⟩ := sum_f (bitsOf a) (bitsOf b) (bitsOf_bits a) (bitsOf_bits b) (by omega) k (by omega)
  obtain ⟨r, h5, h6, _⟩ := limbs_f t h2 (by omega) k (by omega)
  refine ⟨r, ?_, by rw [h4, bval_bitsOf ha, bval_bitsOf hb] at h6; exact h6⟩
  rw [bits_f a ha (by omega) k (by omega), zOb, bits_f b hb (by omega) k (by omega), zOb, h1, zOb, h5]
  rfl
end Go.Proofs.YtihlelniaiadgaaDoor.E
