/- Lemmas for the statement: the walks of the functions that it reaches, and plain laws. -/
import Derived.Test.YtnigaojboililaaG1
import Derived.Test.YtnigaojboililaaG2
set_option linter.unusedVariables false
set_option linter.unusedSimpArgs false
set_option maxHeartbeats 8000000
set_option maxRecDepth 100000
namespace Go.Proofs.Ytnigaojboililaa.A
open Go Go.RowKit Go.Proofs.YtnigaojboililaaW.PrintWords Go.Proofs.YtnigaojboililaaW.PrintLast Go.Proofs.YtnigaojboililaaW.PrintMore
attribute [local go_sem] max2_int min2_int max_two min_two max_three min_three max_four min_four
open Go.Proofs.YtnigaojboililaaW.PrintWords.Kd renaming R_alloc → zRa, R_drewN → zRn, R_drew → zRd, C_alloc → zCa, C_drewN → zCn, C_drew → zCd, R_mono → zRm, at_int → zAi, R_elder' → zRe, R_lower → zRl, R_new' → zRw, R_lt → zRt, R_below → zRb, R_base → zRz, R_reads' → zRr, R_slice → zRs
open Go.Proofs.YtnigaojboililaaW.PrintWords renaming pw_below_drewN → zBn, below_alloc → zBa, below_drew1 → zBd, below_size → zBs, below_step → zBt, blk_drewN → zKn, blk_drew → zKd, blk_alloc → zKa, blk_below → zKb, blk_cell → zKc, blk_frozen → zKf
open List renaming setIfInBounds_toArray → zSa, set_cons_zero → zSb, set_cons_succ → zSc, length_drop → zLd, length_take → zLt, map_toArray → zMa, map_cons → zMc, map_nil → zMn
open Go.Proofs.YtnigaojboililaaW.PrintWords.Aside0 renaming mk → zMk
open Option renaming bind_eq_some_iff → zBi, bind_some → zOb
open Option.some renaming inj → zOi
open Int renaming toNat_natCast → zTn

mutual
def paths_Check.l0 : Nat → Int → List Int → List Int → List Bool → List Int → Int → Int → Int → List (S39) → Option (Int)
  | 0, _, _, _, _, _, _, _, _, _ => none
  | k + 1, x1, x3, x9, x12, x55, x56, x57, x114000, x114001 => if x57 < x56 then (if 0 ≤ x57 then (if x57 < (x55.length : Int) then (if x57 < (x3.length : Int) then ((paths_other.f k x114000 x114001 (rd x3 x57) x57).bind fun bt129 => (if x57 = x1 then (paths_Check.l0 k x1 x3 x9 x12 x55 x56 (wrap64 (x57 + 1)) x114000 x114001) else (if (rd x55 x57) < 0 then (if (rd x3 x57) = (-1) then (paths_Check.l0 k x1 x3 x9 x12 x55 x56 (wrap64 (x57 + 1)) x114000 x114001) else (some 13)) else (if bt129.2 = true then (if 0 ≤ bt129.1 then (if bt129.1 < (x9.length : Int) then (if (rd x9 bt129.1) < 0 then (some 13) else (if 0 ≤ (rd x3 x57) then (if (rd x3 x57) < (x114001.length : Int) then (if (rd x9 bt129.1) = (wrap64 ((rd x55 x57) - ((rd_T39 x114001 (rd x3 x57)).f2))) then (paths_Check.l0 k x1 x3 x9 x12 x55 x56 (wrap64 (x57 + 1)) x114000 x114001) else (some 13)) else (none)) else (none))) else (none)) else (none)) else (some 13))))) else (none)) else (none)) else (none)) else (paths_Check.l1 k x3 x12 x9 (x9.length : Int) 0 x114000 x114001)
def paths_Check.l1 : Nat → List Int → List Bool → List Int → Int → Int → Int → List (S39) → Option (Int)
  | 0, _, _, _, _, _, _, _ => none
  | k + 1, x3, x12, x113, x114, x115, x114000, x114001 => if x115 < x114 then (if 0 ≤ x115 then (if x115 < (x113.length : Int) then (paths_Check.l2 k x3 x12 (rd x113 x115) ([] : List Int) x115 x113 x114 x115 x114000 x114001) else (none)) else (none)) else (some 0)
def paths_Check.l2 : Nat → List Int → List Bool → Int → List Int → Int → List Int → Int → Int → Int → List (S39) → Option (Int)
  | 0, _, _, _, _, _, _, _, _, _, _ => none
  | k + 1, x3, x12, x18, x19, x20, x113, x114, x115, x114000, x114001 => if x18 ≥ 0 then (if 0 ≤ x20 then (if x20 < (x12.length : Int) then (paths_Check.j3 k x3 x12 x18 x19 x20 x113 x114 x115 (!(rdOf false x12 x20)) x114000 x114001) else (none)) else (none)) else (paths_Check.j3 k x3 x12 x18 x19 x20 x113 x114 x115 false x114000 x114001)
def paths_Check.j3 : Nat → List Int → List Bool → Int → List Int → Int → List Int → Int → Int → Bool → Int → List (S39) → Option (Int)
  | 0, _, _, _, _, _, _, _, _, _, _, _ => none
  | k + 1, x3, x12, x18, x19, x20, x113, x114, x115, x129, x114000, x114001 => if x129 = true then ((slices_Contains_int_int.f k x19 x20).bind fun t138 => (if t138 = true then (some 13) else (if x19.length < 17592186044416 then (if 0 ≤ x20 then (if x20 < (x3.length : Int) then ((paths_other.f k x114000 x114001 (rd x3 x20) x20).bind fun bt143 => (paths_Check.l2 k x3 x12 x18 (x19 ++ [x20]) bt143.1 x113 x114 x115 x114000 x114001)) else (none)) else (none)) else (none)))) else (paths_Check.l3 k x3 x12 x113 x114 x115 x19 (x19.length : Int) 0 x114000 x114001)
def paths_Check.l3 : Nat → List Int → List Bool → List Int → Int → Int → List Int → Int → Int → Int → List (S39) → Option (Int)
  | 0, _, _, _, _, _, _, _, _, _, _ => none
  | k + 1, x3, x12, x113, x114, x115, x147, x148, x149, x114000, x114001 => if x149 < x148 then (if 0 ≤ x149 then (if x149 < (x147.length : Int) then (if 0 ≤ (rd x147 x149) then (if (rd x147 x149) < (x12.length : Int) then (paths_Check.l3 k x3 (x12.set ((rd x147 x149) : Int).toNat true) x113 x114 x115 x147 x148 (wrap64 (x149 + 1)) x114000 x114001) else (none)) else (none)) else (none)) else (none)) else (paths_Check.l1 k x3 x12 x113 x114 (wrap64 (x115 + 1)) x114000 x114001)
end
def paths_Check.f (k : Nat) (a0_0 : Int) (l0_1 : List (S39)) (a1 : Int) (l2 : List Int) (l3 : List Int) : Option (Int) := (paths_From.f k a0_0 l0_1 a1).bind fun bt114 => (if bt114.2.2 = 0 then ((slices_Equal_int64_int64.f k l2 bt114.1).bind fun t121 => (if t121 = true then (if (l3.length : Int) = a0_0 then (if 0 ≤ a1 then (if a1 < (l3.length : Int) then (if (rd l3 a1) = (-1) then (if 0 ≤ a0_0 then (if (a0_0 : Int).toNat ≤ 281474976710656 then ((some (List.replicate (a0_0 : Int).toNat false : List Bool)).bind fun y123 => (if a1 < (y123.length : Int) then (paths_Check.l0 k a1 l3 bt114.1 (y123.set (a1 : Int).toNat true) bt114.1 (bt114.1.length : Int) 0 a0_0 l0_1) else (none))) else (none)) else (none)) else (some 13)) else (none)) else (none)) else (some 13)) else (some 13))) else (some bt114.2.2))
def paths_Check.T13 : Bool × List (List Nat × List Nat) := (true, [([], []), ([], []), ([], []), ([1, 2], [1, 2]), ([3], [3]), ([], []), ([0, 4, 5], [0, 4, 5]), ([6], [6]), ([7], [7]), ([7], [7]), ([8, 6, 0, 1, 2, 3, 4, 5, 6, 7, 8], [8]), ([9, 10, 0, 1, 2, 3, 4, 5, 6, 7, 8, 9, 10], [9])])
def paths_Check.B13 : List Nat := [0, 0, 0, 6, 14, 0, 63, 127, 255, 255, 511, 2047]
theorem paths_Check.tab13 : rtab .any (opsOf Try.f15 13) = paths_Check.T13 := by kernel_rfl
theorem paths_Check.bits13 : waitsOk paths_Check.T13.2 paths_Check.B13 = true := by kernel_rfl
def paths_Check.T18 : Bool × List (List Nat × List Nat) := (true, [([], []), ([0], [0]), ([1], [1]), ([2], [2]), ([2], [2]), ([3, 4, 2], [2, 3, 4]), ([5, 2], [2, 5]), ([6, 2], [2, 6]), ([2, 7], [2, 7]), ([8, 2], [8]), ([9], [9]), ([9], [9]), ([10, 11, 9], [9, 10, 11]), ([12, 9], [9, 12]), ([9], [9]), ([9], [9]), ([15, 9], [9, 15]), ([9], [9]), ([9], [9]), ([17, 18, 9], [9, 17, 18]), ([19, 9], [9, 19]), ([16, 20, 9], [9, 16, 20]), ([21, 9], [9, 21]), ([22, 9], [9, 22]), ([14, 23, 9], [9, 14, 23]), ([13, 24, 9], [9, 13, 24]), ([9, 25], [9, 25]), ([26, 9], [26])])
def paths_Check.B18 : List Nat := [0, 1, 3, 7, 7, 31, 63, 127, 255, 511, 1023, 1023, 4095, 8191, 1023, 1023, 33791, 1023, 1023, 394239, 918527, 2065407, 4162559, 8356863, 16761855, 33554431, 67108863, 134217727]
theorem paths_Check.tab18 : rtab .any (opsOf Try.f15 18) = paths_Check.T18 := by kernel_rfl
theorem paths_Check.bits18 : waitsOk paths_Check.T18.2 paths_Check.B18 = true := by kernel_rfl
def paths_Check.T27 : Bool × List (List Nat × List Nat) := (true, [([], []), ([], []), ([], []), ([1, 2], [1, 2]), ([3], [3]), ([], []), ([0, 4, 5], [0, 4, 5]), ([6], [6]), ([7], [7]), ([7], [7]), ([8, 6, 0, 1, 2, 3, 4, 5, 6, 7, 8], [2, 5, 8])])
def paths_Check.B27 : List Nat := [0, 0, 0, 6, 14, 0, 63, 127, 255, 255, 511]
theorem paths_Check.tab27 : rtab .any (opsOf Try.f15 27) = paths_Check.T27 := by kernel_rfl
theorem paths_Check.bits27 : waitsOk paths_Check.T27.2 paths_Check.B27 = true := by kernel_rfl
theorem paths_Check.calls (k : Nat) (a0_0 : Int) (A0_1 : Option Addr) (c0_1 : Nat) (l0_1 : List (S39)) (a1 : Int) (A2 : Option Addr) (c2 : Nat) (l2 : List Int) (A3 : Option Addr) (c3 : Nat) (l3 : List Int) (r : Int) (w : World) (hr0_1 : Kd.C k39 w A0_1 l0_1.length l0_1) (hc0_1 : l0_1.length ≤ c0_1) (hr2 : Kd.C (Kd.int .i64) w A2 l2.length l2) (hc2 : l2.length ≤ c2) (hr3 : Kd.C (Kd.int .i64) w A3 l3.length l3) (hc3 : l3.length ≤ c3) (h : paths_Check.f k a0_0 l0_1 a1 l2 l3 = some r) :
    Calls Try.prog 15 #[.agg #[.int .i64 a0_0, .slice A0_1 l0_1.length c0_1], .int .i64 a1, .slice A2 l2.length c2, .slice A3 l3.length c3] w fun e w' => e = .returned (.int .i64 r) ∧ Below w.heap.size w w' := by
  have hu24 := Try.underlying24
  have HR0_1 := zMk hr0_1
  have HC0_1 := zMk hc0_1
  clear hr0_1 hc0_1
  have HR2 := zMk hr2
  have HC2 := zMk hc2
  clear hr2 hc2
  have HR3 := zMk hr3
  have HC3 := zMk hc3
  clear hr3 hc3
  have HB := zMk (Below.refl w.heap.size w)
  have H : ((paths_From.f k a0_0 l0_1 a1).bind fun bt114 => (if bt114.2.2 = 0 then ((slices_Equal_int64_int64.f k l2 bt114.1).bind fun t121 => (if t121 = true then (if (l3.length : Int) = a0_0 then (if 0 ≤ a1 then (if a1 < (l3.length : Int) then (if (rd l3 a1) = (-1) then (if 0 ≤ a0_0 then (if (a0_0 : Int).toNat ≤ 281474976710656 then ((some (List.replicate (a0_0 : Int).toNat false : List Bool)).bind fun y123 => (if a1 < (y123.length : Int) then (paths_Check.l0 k a1 l3 bt114.1 (y123.set (a1 : Int).toNat true) bt114.1 (bt114.1.length : Int) 0 a0_0 l0_1) else (none))) else (none)) else (none)) else (some 13)) else (none)) else (none)) else (some 13)) else (some 13))) else (some bt114.2.2))) = some r := h
  clear h
  replace H := bnd H
  obtain ⟨⟨t114, t117, t120⟩, A50, H⟩ := H
  replace H : (if t120 = 0 then ((slices_Equal_int64_int64.f k l2 t114).bind fun t121 => (if t121 = true then (if (l3.length : Int) = a0_0 then (if 0 ≤ a1 then (if a1 < (l3.length : Int) then (if (rd l3 a1) = (-1) then (if 0 ≤ a0_0 then (if (a0_0 : Int).toNat ≤ 281474976710656 then ((some (List.replicate (a0_0 : Int).toNat false : List Bool)).bind fun y123 => (if a1 < (y123.length : Int) then (paths_Check.l0 k a1 l3 t114 (y123.set (a1 : Int).toNat true) t114 (t114.length : Int) 0 a0_0 l0_1) else (none))) else (none)) else (none)) else (some 13)) else (none)) else (none)) else (some 13)) else (some 13))) else (some t120)) = some r := H
  have A5 := zMk A50
  clear A50
  by_cases c6 : t120 = 0
  · rw [if_pos c6] at H
    have c6b0 : (t120 == 0) = true := beq_iff_eq.mpr c6
    have c6b1 : (t120 != 0) = false := bne_eq_false_iff_eq.mpr c6
    clear c6
    replace H := bnd H
    obtain ⟨t121, A70, H⟩ := H
    have A7 := zMk A70
    clear A70
    by_cases c8 : t121 = true
    · subst c8
      replace H : (if (l3.length : Int) = a0_0 then (if 0 ≤ a1 then (if a1 < (l3.length : Int) then (if (rd l3 a1) = (-1) then (if 0 ≤ a0_0 then (if (a0_0 : Int).toNat ≤ 281474976710656 then ((some (List.replicate (a0_0 : Int).toNat false : List Bool)).bind fun y123 => (if a1 < (y123.length : Int) then (paths_Check.l0 k a1 l3 t114 (y123.set (a1 : Int).toNat true) t114 (t114.length : Int) 0 a0_0 l0_1) else (none))) else (none)) else (none)) else (some 13)) else (none)) else (none)) else (some 13)) = some r := by rw [if_pos rfl] at H; exact H
      by_cases c9 : (l3.length : Int) = a0_0
      · rw [if_pos c9] at H
        have c9b0 : ((l3.length : Int) == a0_0) = true := beq_iff_eq.mpr c9
        have c9b1 : ((l3.length : Int) != a0_0) = false := bne_eq_false_iff_eq.mpr c9
        clear c9
        by_cases c10 : 0 ≤ a1
        rotate_left
        · rw [if_neg c10] at H; exact absurd H (by simp)
        rw [if_pos c10] at H
        have c10b0 : decide (0 ≤ a1) = true := decide_eq_true c10
        clear c10
        by_cases c11 : a1 < (l3.length : Int)
        rotate_left
        · rw [if_neg c11] at H; exact absurd H (by simp)
        rw [if_pos c11] at H
        have c11b0 : decide (a1 < (l3.length : Int)) = true := decide_eq_true c11
        clear c11
        by_cases c12 : (rd l3 a1) = (-1)
        · rw [if_pos c12] at H
          have c12b0 : ((rd l3 a1) == (-1)) = true := beq_iff_eq.mpr c12
          have c12b1 : ((rd l3 a1) != (-1)) = false := bne_eq_false_iff_eq.mpr c12
          clear c12
          by_cases c13 : 0 ≤ a0_0
          rotate_left
          · rw [if_neg c13] at H; exact absurd H (by simp)
          rw [if_pos c13] at H
          have c13b0 := eq_true c13
          have c13b1 : decide (0 ≤ a0_0) = true := decide_eq_true c13
          clear c13
          by_cases c14 : (a0_0 : Int).toNat ≤ 281474976710656
          rotate_left
          · rw [if_neg c14] at H; exact absurd H (by simp)
          rw [if_pos c14] at H
          have c14b0 := eq_true c14
          have c14b1 : decide ((a0_0 : Int).toNat ≤ 281474976710656) = true := decide_eq_true c14
          clear c14
          obtain ⟨y123, hy123⟩ : ∃ y_ : List Bool, y_ = (List.replicate (a0_0 : Int).toNat false) := ⟨_, rfl⟩
          replace H : (if a1 < (y123.length : Int) then (paths_Check.l0 k a1 l3 t114 (y123.set (a1 : Int).toNat true) t114 (t114.length : Int) 0 a0_0 l0_1) else (none)) = some r := by first | (rw [hy123]; with_reducible exact H) | (have H2_ := bsm H; first | (rw [hy123]; with_reducible exact H2_) | with_reducible exact H2_) | with_reducible exact H | (rw [hy123]; exact H) | exact H
          have Ny123 := zMk hy123
          clear hy123
          by_cases c15 : a1 < (y123.length : Int)
          rotate_left
          · rw [if_neg c15] at H; exact absurd H (by simp)
          rw [if_pos c15] at H
          have c15b0 : decide (a1 < (y123.length : Int)) = true := decide_eq_true c15
          clear c15
          obtain ⟨y126, hy126⟩ : ∃ y_ : List Bool, y_ = (y123.set (a1 : Int).toNat true) := ⟨_, rfl⟩
          replace H : (paths_Check.l0 k a1 l3 t114 y126 t114 (t114.length : Int) 0 a0_0 l0_1) = some r := by first | (rw [hy126]; with_reducible exact H) | (have H2_ := bsm H; first | (rw [hy126]; with_reducible exact H2_) | with_reducible exact H2_) | with_reducible exact H | (rw [hy126]; exact H) | exact H
          have Ny126 := zMk hy126
          clear hy126
          have H' := zMk H
          clear H
          go_enter Try.func15, Try.ntmps15
          go_wp2_with (first | ((with_reducible refine gate_dst (N := 4) rfl ?_); refine box_event ?hg (N := 4) ?hd (cs := #[.int .i64 a0_0, .slice A0_1 l0_1.length c0_1]) (t := 24) ?hr ?_; (case hd => rfl); (case hg => rfl); (case hr => first | (go_simp; done)|(go_simp; rfl)|(go_simp; rw [show ∀ x : Int, IntKind.u32.wrap (IntKind.u8.wrap x) = x % 256 from fun x => (by show (x % 256) % 4294967296 = x % 256; omega)])); intro gb113 hg w17 hbox hb; have BK113 := zMk (hbox); have GW113 := zMk ((by rw [hg]; exact (zBs (by exact uT HB.out)) : w.heap.size ≤ gb113)); have GE113 := zMk ((by rw [hg]; exact (zBs (by exact uT HB.out)) : w.heap.size ≤ gb113)); have IGE113 := ownGe GE113.out; replace HB := zMk (zBt (by exact uT HB.out) hb); clear hb hbox hg; have hcz18_0 : w17.cell? ⟨gb113, 0, none⟩ = some (.int .i64 a0_0) := (zKc BK113.out 0).trans rfl; have hcz18_1 : w17.cell? ⟨gb113, 1, none⟩ = some (.slice A0_1 l0_1.length c0_1) := (zKc BK113.out 1).trans rfl; have hfz18_0 := zKf BK113.out 0; have hfz18_1 := zKf BK113.out 1)|((with_reducible refine gate_callee (f := 11) rfl ?_); refine goesL_ (some 26) rfl rfl Try.func11 (by kernel_rfl) rfl #[.agg #[.int .i64 a0_0, .slice A0_1 l0_1.length c0_1], .int .i64 a1] rfl (by (try simp only [zMa, zMc, zMn]); first |  done|  rfl|  (simp only [zLd, zLt]; rfl)) ?_; (with_reducible refine (paths_From.calls k a0_0 _ _ l0_1 a1 t114 t117 t120 _ ?side1 ?side2 A5.out).mono ?_); (case side1 => repeat (first |  exact (Kd.C_below HR0_1.out HB.out)|(with_reducible refine zCa ?_ _)|(with_reducible refine zCn ?_ _)|(with_reducible refine zCd ?_))); (case side2 => exact HC0_1.out); rintro e w19 ⟨v115, v118, rfl, ho0, ho1, hb⟩; refine ⟨_, rfl, ?_⟩; have HO116 := zMk (zRl ho0 (zBs (by exact uT HB.out))); have HO119 := zMk (zRl ho1 (zBs (by exact uT HB.out))); replace BK113 := zMk (zKb (g := gb113) (o := .cells #[.int .i64 a0_0, .slice A0_1 l0_1.length c0_1] 24 (0, 0)) (by (with_reducible repeat (first |  refine zKn ?_ _|  refine zKd ?_|  refine zKa ?_ _)); exact BK113.out) hb); replace HB := zMk (zBt (by exact uT HB.out) hb); obtain ⟨Ao20, co20, eo20⟩ := zRs HO116.out; subst eo20)|((with_reducible refine gate_callee (f := 24) rfl ?_); refine goesL_ (some 37) rfl rfl Try.func24 (by kernel_rfl) rfl #[.slice A2 l2.length c2, .slice Ao20 t114.length co20] rfl (by (try simp only [zMa, zMc, zMn]); first |  done|  rfl|  (simp only [zLd, zLt]; rfl)) ?_; (with_reducible refine (slices_Equal_int64_int64.calls k _ _ l2 _ _ t114 true _ ?side1 ?side2 ?side3 ?side4 A7.out).mono ?_); (case side1 => repeat (first |  exact (Kd.C_below HR2.out HB.out)|(with_reducible refine zCa ?_ _)|(with_reducible refine zCn ?_ _)|(with_reducible refine zCd ?_))); (case side2 => exact HC2.out); (case side3 => exact uC (zRr HO116.out).2.2); (case side4 => exact (zRr HO116.out).2.1); rintro e w' ⟨rfl, ⟨nd, rfl⟩⟩; refine ⟨_, rfl, ?_⟩; (try (rw [drewN_self w19]; generalize hq_ : World.drewN w19 _ = w19; have n0_ : Aside0 (Kd.R (Kd.int .i64) 2 w19 w.heap.size (fun _ => True) (.slice Ao20 t114.length co20) t114) := ⟨by rw [← hq_]; exact (by exact uR HO116.out)⟩; have n1_ : Aside0 (Kd.R (Kd.int .i64) 3 w19 w.heap.size (fun _ => True) v118 t117) := ⟨by rw [← hq_]; exact (by exact uR HO119.out)⟩; have n2_ : Aside0 (w19.heap[gb113]? = some (.cells #[.int .i64 a0_0, .slice A0_1 l0_1.length c0_1] 24 (0, 0))) := ⟨by rw [← hq_]; exact (by (with_reducible repeat (first |  refine zKn ?_ _|  refine zKd ?_|  refine zKa ?_ _)); exact BK113.out)⟩; have n3_ : Aside0 (Below w.heap.size w w19) := ⟨by rw [← hq_]; exact (by exact uT HB.out)⟩; clear HO116 HO119 BK113 HB hq_; have HO116 := n0_; have HO119 := n1_; have BK113 := n2_; have HB := n3_; clear n0_ n1_ n2_ n3_)); have hcz21_0 : w19.cell? ⟨gb113, 0, none⟩ = some (.int .i64 a0_0) := (zKc BK113.out 0).trans rfl; have hcz21_1 : w19.cell? ⟨gb113, 1, none⟩ = some (.slice A0_1 l0_1.length c0_1) := (zKc BK113.out 1).trans rfl; have hfz21_0 := zKf BK113.out 0; have hfz21_1 := zKf BK113.out 1; have p122 : 0 ≤ (a1 : Int) := of_decide_eq_true (by first | (with_reducible assumption)|  assumption); have q122 : a1 < (l3.length : Int) := of_decide_eq_true (by first | (with_reducible assumption)|  assumption); obtain ⟨ad122, e122, hx122_0⟩ := zAi HR3.out a1 p122 q122; cases e122; replace hx122_0 := (HB.out.cell (World.block_lt_of_cell? w _ hx122_0)).trans hx122_0; replace p122 := eq_true p122; replace q122 := eq_true q122)|((with_reducible refine gate_dst (N := 51) rfl ?_); refine Kd.R_make Kd.bool _ 4 rfl (N := 51) rfl 55 _ _ rfl a0_0 rfl rfl Try.underlying55 (.bool false) 1 info4 rfl (by decide) (by omega) false (ok := fun _ => True) (okp := fun _ => True) rfl (fun _ hk => hk) trivial (of_decide_eq_true (by first | (with_reducible assumption)|  assumption)) (Nat.le_trans (Nat.mul_le_mul_right _ (of_decide_eq_true (by first | (with_reducible assumption)|  assumption) : a0_0.toNat ≤ 281474976710656)) (by omega)) (Below.refl _ _) (Nat.le_refl _) ?_; intro v124 w22 ho23 hb hg_ hnew_; clear hg_ hnew_; (first |  rw [← Ny123.out] at ho23|  (simp only [Int.reduceToNat] at ho23; rw [← Ny123.out] at ho23)); replace HO116 := zMk (zRb (by exact uR HO116.out) hb); replace HO119 := zMk (zRb (by exact uR HO119.out) hb); have HO125 := zMk (zRl ho23 (zBs (by exact uT HB.out))); replace BK113 := zMk (zKb (g := gb113) (o := .cells #[.int .i64 a0_0, .slice A0_1 l0_1.length c0_1] 24 (0, 0)) (by (with_reducible repeat (first |  refine zKn ?_ _|  refine zKd ?_|  refine zKa ?_ _)); exact BK113.out) hb); replace HB := zMk (zBt (by exact uT HB.out) hb); clear hb ho23; have p16 : 0 ≤ (a1 : Int) := of_decide_eq_true (by first | (with_reducible assumption)|  assumption); have q16 : (a1 : Int) < ((y123.length : Int) : Int) := of_decide_eq_true (by first | (with_reducible assumption)|  assumption); obtain ⟨go16, co16, eo16, gb16, gl16, cl16, HG16⟩ := Kd.R_form HO125.out (by omega); (first |  cases eo16|  (injection eo16 with ea_ en_ ec_; (first |  subst ea_|  (injection ea_ with ea_; subst ea_)); subst ec_; clear en_)); have GB16 := zMk gb16; have IGB16 := ownGe GB16.out; have GG16 := zMk HG16; clear gb16 gl16 HG16; obtain ⟨hx16_0, hf16_0⟩ := Kd.R_celln false HO125.out (a1 : Int) p16 q16; replace p16 := eq_true p16; replace q16 := eq_true q16; obtain ⟨hy24_, hz24_⟩ := Kd.R_celln false HO125.out (a1 : Int) (of_decide_eq_true (by first | (with_reducible assumption)|  assumption)) (of_decide_eq_true (by first | (with_reducible assumption)|  assumption)); have HP24 := Kd.R_putg HO125.out (a1 : Int) true)|((with_reducible refine gate_store (t := 4) (p := 54) rfl ?_); refine store_event (t := 4) (p := 54) (v := ?vo_w25) (w1 := (w22.setCell ⟨go16, (a1 : Int).toNat, none⟩ (.bool true))) ?hg ?ho ?hn ?hr ?_; (case ho => rfl); (case hg => rfl); (case hn => rfl); (case hr => first | (go_simp; done)|(go_simp; rfl)|(go_simp; rw [show ∀ x : Int, IntKind.u32.wrap (IntKind.u8.wrap x) = x % 256 from fun x => (by show (x % 256) % 4294967296 = x % 256; omega)])); intro w25 hw; have hg : w22.grownBy w25 (some go16) := (by rw [hw]; exact HP24.2); have hp_ : Kd.R Kd.bool 4 w25 w.heap.size (fun _ => True) (.slice (some ⟨go16, 0, none⟩) y123.length co16) y126 := (by rw [hw, Ny126.out]; exact HP24.1); clear HP24; replace BK113 := zMk (blk_grown (g := gb113) (o := .cells #[.int .i64 a0_0, .slice A0_1 l0_1.length c0_1] 24 (0, 0)) (by (with_reducible repeat (first |  refine zKn ?_ _|  refine zKd ?_|  refine zKa ?_ _)); exact BK113.out) hg (Kd.R_ne HO125.out BK113.out (by decide))); replace HO116 := zMk (Kd.R_over' (v := (.slice (some ⟨go16, 0, none⟩) y123.length co16)) (by exact uR HO116.out) (Kd.R_typed HO125.out) (by decide) hg); replace HO119 := zMk (Kd.R_over' (v := (.slice (some ⟨go16, 0, none⟩) y123.length co16)) (by exact uR HO119.out) (Kd.R_typed HO125.out) (by decide) hg); replace HO125 := zMk (hp_); replace HB := zMk ((by rw [hw]; exact below_set (HB.out) GB16.out : Below w.heap.size w w25)); clear hg hw hp_))
          go_loopg [57] k (fun kq v57 w' => ∃ (x57_1 : Int), v57 = .int .i64 x57_1 ∧ Aside0 (paths_Check.l0 kq a1 l3 t114 y126 t114 (t114.length : Int) x57_1 a0_0 l0_1 = some r) ∧ Aside0 (kq ≤ k) ∧ Aside0 (Kd.R (Kd.int .i64) 2 w' w.heap.size (fun _ => True) (.slice Ao20 t114.length co20) t114) ∧ Aside0 (Kd.R Kd.bool 4 w' w.heap.size (fun _ => True) (.slice (some ⟨go16, 0, none⟩) y123.length co16) y126) ∧ Aside0 (Kd.R (Kd.int .i64) 2 w' w.heap.size (fun _ => True) (.slice Ao20 t114.length co20) t114) ∧ Aside0 (w'.heap[gb113]? = some (.cells #[.int .i64 a0_0, (.slice A0_1 l0_1.length c0_1)] 24 (0, 0))) ∧ Aside0 (Below w.heap.size w w'))
          case atStart => exact ⟨(0), (by first | rfl | (simp; done) | (simp [*]; done)), H', ⟨Nat.le_refl _⟩, ⟨by exact uR HO116.out⟩, ⟨by exact uR HO125.out⟩, ⟨by exact uR HO116.out⟩, ⟨by (with_reducible repeat (first | refine zKn ?_ _ | refine zKd ?_ | refine zKa ?_ _)); exact BK113.out⟩, ⟨by exact uT HB.out⟩⟩
          clear H'
          obtain ⟨x57_1, rfl, HA, HK1, HO_9, HO_12, HO_55, BK113, HB⟩ := hrel
          have hl12_1 := (zRr HO_12.out).1
          rw [hl12_1] at HO_12
          (try simp only [hl12_1])
          (try simp only [hl12_1] at BK113)
          (try simp only [hl12_1] at HO_9)
          (try simp only [hl12_1] at HO_55)
          rcases gk with _ | k1
          · exact absurd HA.out (by simp [paths_Check.l0])
          have H := HA.out
          clear HA
          simp only [paths_Check.l0] at H
          by_cases c26 : x57_1 < (t114.length : Int)
          · rw [if_pos c26] at H
            have c26b0 : decide (x57_1 < (t114.length : Int)) = true := decide_eq_true c26
            (try (have c26b0l := c26b0; simp only [hl12_1] at c26b0l))
            clear c26
            by_cases c27 : 0 ≤ x57_1
            rotate_left
            · rw [if_neg c27] at H; exact absurd H (by simp)
            rw [if_pos c27] at H
            have c27b0 : decide (0 ≤ x57_1) = true := decide_eq_true c27
            (try (have c27b0l := c27b0; simp only [hl12_1] at c27b0l))
            clear c27
            by_cases c28 : x57_1 < (t114.length : Int)
            rotate_left
            · rw [if_neg c28] at H; exact absurd H (by simp)
            rw [if_pos c28] at H
            have c28b0 : decide (x57_1 < (t114.length : Int)) = true := decide_eq_true c28
            (try (have c28b0l := c28b0; simp only [hl12_1] at c28b0l))
            clear c28
            by_cases c29 : x57_1 < (l3.length : Int)
            rotate_left
            · rw [if_neg c29] at H; exact absurd H (by simp)
            rw [if_pos c29] at H
            have c29b0 : decide (x57_1 < (l3.length : Int)) = true := decide_eq_true c29
            (try (have c29b0l := c29b0; simp only [hl12_1] at c29b0l))
            clear c29
            replace H := bnd H
            obtain ⟨⟨t129, t130⟩, A300, H⟩ := H
            replace H : (if x57_1 = a1 then (paths_Check.l0 k1 a1 l3 t114 y126 t114 (t114.length : Int) (wrap64 (x57_1 + 1)) a0_0 l0_1) else (if (rd t114 x57_1) < 0 then (if (rd l3 x57_1) = (-1) then (paths_Check.l0 k1 a1 l3 t114 y126 t114 (t114.length : Int) (wrap64 (x57_1 + 1)) a0_0 l0_1) else (some 13)) else (if t130 = true then (if 0 ≤ t129 then (if t129 < (t114.length : Int) then (if (rd t114 t129) < 0 then (some 13) else (if 0 ≤ (rd l3 x57_1) then (if (rd l3 x57_1) < (l0_1.length : Int) then (if (rd t114 t129) = (wrap64 ((rd t114 x57_1) - ((rd_T39 l0_1 (rd l3 x57_1)).f2))) then (paths_Check.l0 k1 a1 l3 t114 y126 t114 (t114.length : Int) (wrap64 (x57_1 + 1)) a0_0 l0_1) else (some 13)) else (none)) else (none))) else (none)) else (none)) else (some 13)))) = some r := H
            have A30 := zMk A300
            clear A300
            by_cases c31 : x57_1 = a1
            · rw [if_pos c31] at H
              have c31b0 : (x57_1 == a1) = true := beq_iff_eq.mpr c31
              (try (have c31b0l := c31b0; simp only [hl12_1] at c31b0l))
              have c31b1 : (x57_1 != a1) = false := bne_eq_false_iff_eq.mpr c31
              (try (have c31b1l := c31b1; simp only [hl12_1] at c31b1l))
              clear c31
              have H' := zMk H
              clear H
              have p127 : 0 ≤ (x57_1 : Int) := of_decide_eq_true (by assumption)
              have q127 : x57_1 < (t114.length : Int) := of_decide_eq_true (by assumption)
              obtain ⟨ad127, e127, hx127_0⟩ := zAi (zRr HO_55.out).2.2 x57_1 p127 q127
              cases e127
              replace p127 := eq_true p127
              replace q127 := eq_true q127
              try go_wp2
              replace HO_9 := zMk (zRd HO_9.out)
              replace HO_12 := zMk (zRd HO_12.out)
              replace HO_55 := zMk (zRd HO_55.out)
              replace BK113 := zMk (zKd BK113.out)
              replace HB := zMk (zBd HB.out)
              have p128 : 0 ≤ (x57_1 : Int) := of_decide_eq_true (by assumption)
              have q128 : x57_1 < (l3.length : Int) := of_decide_eq_true (by assumption)
              obtain ⟨ad128, e128, hx128_0⟩ := zAi HR3.out x57_1 p128 q128
              have hw128_0 := hx128_0
              obtain rfl : ad122 = ad128 := (by injection e128)
              replace hx128_0 := (HB.out.cell (World.block_lt_of_cell? w _ hx128_0)).trans hx128_0
              replace p128 := eq_true p128
              replace q128 := eq_true q128
              refine start_ (n := 12) (S := fun w' => w'.cell? ⟨gb113, 0, none⟩ = some (.int .i64 a0_0) ∧ w'.cell? ⟨gb113, 1, none⟩ = some (.slice A0_1 l0_1.length c0_1) ∧ w'.cell? (ad122.add (x57_1).toNat) = some (.int .i64 (rd l3 x57_1))) (ds := []) #[false, false, false, false, false, false, false, false, false, false, false, false] (by kernel_rfl) rfl rfl ⟨(zKc BK113.out 0).trans rfl, (zKc BK113.out 1).trans rfl, ((HB.out.cell (World.block_lt_of_cell? w _ hw128_0)).trans hw128_0)⟩ (fun hHeld => ?_); refine with_tabW paths_Check.tab13 paths_Check.bits13 (fun HT_ HW_ => ?_)
              generalize wr.drew = w32 at HO_9 HO_12 HO_55 BK113 HB hx128_0 hHeld ⊢
              refine pure_ (i := 1) (N := some 64) (v := ?_) (a' := ?_) #[false, true, false, false, false, false, false, false, false, false, false, false] rfl rfl (any_of HT_.out (by kernel_rfl)) (fun _ _ _ h => h) (Or.inl ⟨by rfl, ?_⟩) ?_ ?_
              rotate_left
              · intro w'
                go_simp
                with_reducible rfl
              rotate_left
              · simp only [Act.put, zSa, zSb, zSc, i64_w, i32_w]
                rfl
              refine pure_ (i := 2) (N := some 65) (v := ?_) (a' := ?_) #[false, true, true, false, false, false, false, false, false, false, false, false] rfl rfl (any_of HT_.out (by kernel_rfl)) (fun _ _ _ h => h) (Or.inl ⟨by rfl, ?_⟩) ?_ ?_
              rotate_left
              · intro w'
                go_simp
                with_reducible rfl
              rotate_left
              · simp only [Act.put, zSa, zSb, zSc, i64_w, i32_w]
                rfl
              refine pure_ (i := 3) (N := some 66) (v := ?_) (a' := ?_) #[false, true, true, true, false, false, false, false, false, false, false, false] rfl rfl (any_of HT_.out (by kernel_rfl)) (fun _ _ _ h => h) (Or.inl ⟨by rfl, ?_⟩) ?_ ?_
              rotate_left
              · intro w'
                go_simp
                with_reducible rfl
              rotate_left
              · simp only [Act.put, zSa, zSb, zSc, i64_w, i32_w]
                rfl
              refine pure_ (i := 5) (N := some 68) (v := ?_) (a' := ?_) #[false, true, true, true, false, true, false, false, false, false, false, false] rfl rfl (any_of HT_.out (by kernel_rfl)) (fun _ _ _ h => h) (Or.inl ⟨by rfl, ?_⟩) ?_ ?_
              rotate_left
              · intro w'
                go_simp
                with_reducible rfl
              rotate_left
              · simp only [Act.put, zSa, zSb, zSc, i64_w, i32_w]
                rfl
              refine take_ (i := 0) (N := some 63) (v := ?_) (a' := ?_) #[true, true, true, true, false, true, false, false, false, false, false, false] rfl rfl (take_ofW HT_.out HW_.out (by kernel_rfl)) (fun _ _ _ h => h) (Or.inl ⟨by rfl, ?_⟩) hHeld ?_ ?_
              rotate_left
              · rintro w' ⟨s0, s1, s2⟩
                go_simp
                with_reducible rfl
              rotate_left
              · simp only [Act.put, zSa, zSb, zSc, i64_w, i32_w]
                rfl
              refine take_ (i := 4) (N := some 67) (v := ?_) (a' := ?_) #[true, true, true, true, true, true, false, false, false, false, false, false] rfl rfl (take_ofW HT_.out HW_.out (by kernel_rfl)) (fun _ _ _ h => h) (Or.inl ⟨by rfl, ?_⟩) hHeld ?_ ?_
              rotate_left
              · rintro w' ⟨s0, s1, s2⟩
                go_simp
                with_reducible rfl
              rotate_left
              · simp only [Act.put, zSa, zSb, zSc, i64_w, i32_w]
                rfl
              refine one_ (i := 6) (N := some 69) #[true, true, true, true, true, true, true, false, false, false, false, false] rfl rfl (one_of HT_.out (by kernel_rfl)) (by decide) (fun K hK => ?_)
              refine goes_ Try.func25 (by kernel_rfl) rfl #[.agg #[.int .i64 a0_0, .slice A0_1 l0_1.length c0_1], .int .i64 (rd l3 x57_1), .int .i64 x57_1] (by rfl) rfl rfl (by (try simp only [zMa, zMc, zMn]); first | done | rfl | (simp only [zLd, zLt]; rfl)) ?_
              with_reducible refine (paths_other.calls k1 a0_0 _ _ l0_1 (rd l3 x57_1) x57_1 t129 t130 _ ?side1 ?side2 A30.out).mono ?_
              (case side1 => repeat (first | exact (Kd.C_below HR0_1.out HB.out) | (with_reducible refine zCa ?_ _) | (with_reducible refine zCn ?_ _) | (with_reducible refine zCd ?_)))
              (case side2 => exact HC0_1.out)
              rintro e w33 ⟨rfl, hb⟩
              refine ⟨_, rfl, ?_⟩
              replace HO_9 := zMk (zRb (by exact uR HO_9.out) hb)
              replace HO_12 := zMk (zRb (by exact uR HO_12.out) hb)
              replace HO_55 := zMk (zRb (by exact uR HO_55.out) hb)
              replace BK113 := zMk (zKb (g := gb113) (o := .cells #[.int .i64 a0_0, .slice A0_1 l0_1.length c0_1] 24 (0, 0)) (by (with_reducible repeat (first | refine zKn ?_ _ | refine zKd ?_ | refine zKa ?_ _)); exact BK113.out) hb)
              replace HB := zMk (zBt (by exact uT HB.out) hb)
              refine hK.out _ _ ⟨(zKc BK113.out 0).trans rfl, (zKc BK113.out 1).trans rfl, ((HB.out.cell (World.block_lt_of_cell? w _ hw128_0)).trans hw128_0)⟩ (fun hHeld => ?_)
              clear hK K
              refine norm_ (a' := ?_) ?_ ?_
              rotate_left
              · show Act.put _ (some 69) _ = _
                simp only [Act.put, zSa, zSb, zSc, i64_w, i32_w]
                rfl
              refine pure_ (i := 7) (N := some 62) (v := ?_) (a' := ?_) #[true, true, true, true, true, true, true, true, false, false, false, false] rfl rfl (any_of HT_.out (by kernel_rfl)) (fun _ _ _ h => h) (Or.inl ⟨by rfl, ?_⟩) ?_ ?_
              rotate_left
              · intro w'
                go_simp
                with_reducible rfl
              rotate_left
              · simp only [Act.put, zSa, zSb, zSc, i64_w, i32_w]
                rfl
              refine pure_ (i := 8) (N := some 70) (v := ?_) (a' := ?_) #[true, true, true, true, true, true, true, true, true, false, false, false] rfl rfl (any_of HT_.out (by kernel_rfl)) (fun _ _ _ h => h) (Or.inl ⟨by rfl, ?_⟩) ?_ ?_
              rotate_left
              · intro w'
                go_simp
                with_reducible rfl
              rotate_left
              · simp only [Act.put, zSa, zSb, zSc, i64_w, i32_w]
                rfl
              refine pure_ (i := 9) (N := some 71) (v := ?_) (a' := ?_) #[true, true, true, true, true, true, true, true, true, true, false, false] rfl rfl (any_of HT_.out (by kernel_rfl)) (fun _ _ _ h => h) (Or.inl ⟨by rfl, ?_⟩) ?_ ?_
              rotate_left
              · intro w'
                go_simp
                with_reducible rfl
              rotate_left
              · simp only [Act.put, zSa, zSb, zSc, i64_w, i32_w]
                rfl
              refine pure_ (i := 10) (N := some 15) (v := ?_) (a' := ?_) #[true, true, true, true, true, true, true, true, true, true, true, false] rfl rfl (any_of HT_.out (by kernel_rfl)) (fun _ _ _ h => h) (Or.inl ⟨by rfl, ?_⟩) ?_ ?_
              rotate_left
              · intro w'
                go_simp
                with_reducible rfl
              rotate_left
              · simp only [Act.put, zSa, zSb, zSc, i64_w, i32_w]
                rfl
              refine pure_ (i := 11) (N := some 16) (v := ?_) (a' := ?_) #[true, true, true, true, true, true, true, true, true, true, true, true] rfl rfl (any_of HT_.out (by kernel_rfl)) (fun _ _ _ h => h) (Or.inl ⟨by rfl, ?_⟩) ?_ ?_
              rotate_left
              · intro w'
                go_simp
                with_reducible rfl
              rotate_left
              · simp only [Act.put, zSa, zSb, zSc, i64_w, i32_w]
                rfl
              refine done_ (done_of HT_.out (by kernel_rfl)) ?_
              try go_wp2
              (try simp only [← hl12_1])
              go_roundg k1
              case measure => have := HK1.out; omega
              case rel => exact ⟨(wrap64 (x57_1 + 1)), (by first | rfl | (simp; done) | (simp [*]; done)), H', ⟨by have := HK1.out; omega⟩, ⟨by (try simp only [hl12_1]); exact uR HO_9.out⟩, ⟨by (try simp only [hl12_1]); exact uR HO_12.out⟩, ⟨by (try simp only [hl12_1]); exact uR HO_55.out⟩, ⟨by (try simp only [hl12_1]); (with_reducible repeat (first | refine zKn ?_ _ | refine zKd ?_ | refine zKa ?_ _)); exact BK113.out⟩, ⟨by exact uT HB.out⟩⟩
            · rw [if_neg c31] at H
              have c31b0 : (x57_1 == a1) = false := beq_eq_false_iff_ne.mpr c31
              (try (have c31b0l := c31b0; simp only [hl12_1] at c31b0l))
              have c31b1 : (x57_1 != a1) = true := bne_iff_ne.mpr c31
              (try (have c31b1l := c31b1; simp only [hl12_1] at c31b1l))
              by_cases c34 : (rd t114 x57_1) < 0
              · rw [if_pos c34] at H
                have c34b0 : decide ((rd t114 x57_1) < 0) = true := decide_eq_true c34
                (try (have c34b0l := c34b0; simp only [hl12_1] at c34b0l))
                clear c34
                by_cases c35 : (rd l3 x57_1) = (-1)
                · rw [if_pos c35] at H
                  have c35b0 : ((rd l3 x57_1) == (-1)) = true := beq_iff_eq.mpr c35
                  (try (have c35b0l := c35b0; simp only [hl12_1] at c35b0l))
                  have c35b1 : ((rd l3 x57_1) != (-1)) = false := bne_eq_false_iff_eq.mpr c35
                  (try (have c35b1l := c35b1; simp only [hl12_1] at c35b1l))
                  clear c35
                  have H' := zMk H
                  clear H
                  have p127 : 0 ≤ (x57_1 : Int) := of_decide_eq_true (by assumption)
                  have q127 : x57_1 < (t114.length : Int) := of_decide_eq_true (by assumption)
                  obtain ⟨ad127, e127, hx127_0⟩ := zAi (zRr HO_55.out).2.2 x57_1 p127 q127
                  cases e127
                  replace p127 := eq_true p127
                  replace q127 := eq_true q127
                  try go_wp2
                  replace HO_9 := zMk (zRd HO_9.out)
                  replace HO_12 := zMk (zRd HO_12.out)
                  replace HO_55 := zMk (zRd HO_55.out)
                  replace BK113 := zMk (zKd BK113.out)
                  replace HB := zMk (zBd HB.out)
                  have p128 : 0 ≤ (x57_1 : Int) := of_decide_eq_true (by assumption)
                  have q128 : x57_1 < (l3.length : Int) := of_decide_eq_true (by assumption)
                  obtain ⟨ad128, e128, hx128_0⟩ := zAi HR3.out x57_1 p128 q128
                  have hw128_0 := hx128_0
                  obtain rfl : ad122 = ad128 := (by injection e128)
                  replace hx128_0 := (HB.out.cell (World.block_lt_of_cell? w _ hx128_0)).trans hx128_0
                  replace p128 := eq_true p128
                  replace q128 := eq_true q128
                  refine start_ (n := 12) (S := fun w' => w'.cell? ⟨gb113, 0, none⟩ = some (.int .i64 a0_0) ∧ w'.cell? ⟨gb113, 1, none⟩ = some (.slice A0_1 l0_1.length c0_1) ∧ w'.cell? (ad122.add (x57_1).toNat) = some (.int .i64 (rd l3 x57_1))) (ds := []) #[false, false, false, false, false, false, false, false, false, false, false, false] (by kernel_rfl) rfl rfl ⟨(zKc BK113.out 0).trans rfl, (zKc BK113.out 1).trans rfl, ((HB.out.cell (World.block_lt_of_cell? w _ hw128_0)).trans hw128_0)⟩ (fun hHeld => ?_); refine with_tabW paths_Check.tab13 paths_Check.bits13 (fun HT_ HW_ => ?_)
                  generalize wr.drew = w36 at HO_9 HO_12 HO_55 BK113 HB hx128_0 hHeld ⊢
                  refine pure_ (i := 1) (N := some 64) (v := ?_) (a' := ?_) #[false, true, false, false, false, false, false, false, false, false, false, false] rfl rfl (any_of HT_.out (by kernel_rfl)) (fun _ _ _ h => h) (Or.inl ⟨by rfl, ?_⟩) ?_ ?_
                  rotate_left
                  · intro w'
                    go_simp
                    with_reducible rfl
                  rotate_left
                  · simp only [Act.put, zSa, zSb, zSc, i64_w, i32_w]
                    rfl
                  refine pure_ (i := 2) (N := some 65) (v := ?_) (a' := ?_) #[false, true, true, false, false, false, false, false, false, false, false, false] rfl rfl (any_of HT_.out (by kernel_rfl)) (fun _ _ _ h => h) (Or.inl ⟨by rfl, ?_⟩) ?_ ?_
                  rotate_left
                  · intro w'
                    go_simp
                    with_reducible rfl
                  rotate_left
                  · simp only [Act.put, zSa, zSb, zSc, i64_w, i32_w]
                    rfl
                  refine pure_ (i := 3) (N := some 66) (v := ?_) (a' := ?_) #[false, true, true, true, false, false, false, false, false, false, false, false] rfl rfl (any_of HT_.out (by kernel_rfl)) (fun _ _ _ h => h) (Or.inl ⟨by rfl, ?_⟩) ?_ ?_
                  rotate_left
                  · intro w'
                    go_simp
                    with_reducible rfl
                  rotate_left
                  · simp only [Act.put, zSa, zSb, zSc, i64_w, i32_w]
                    rfl
                  refine pure_ (i := 5) (N := some 68) (v := ?_) (a' := ?_) #[false, true, true, true, false, true, false, false, false, false, false, false] rfl rfl (any_of HT_.out (by kernel_rfl)) (fun _ _ _ h => h) (Or.inl ⟨by rfl, ?_⟩) ?_ ?_
                  rotate_left
                  · intro w'
                    go_simp
                    with_reducible rfl
                  rotate_left
                  · simp only [Act.put, zSa, zSb, zSc, i64_w, i32_w]
                    rfl
                  refine take_ (i := 0) (N := some 63) (v := ?_) (a' := ?_) #[true, true, true, true, false, true, false, false, false, false, false, false] rfl rfl (take_ofW HT_.out HW_.out (by kernel_rfl)) (fun _ _ _ h => h) (Or.inl ⟨by rfl, ?_⟩) hHeld ?_ ?_
                  rotate_left
                  · rintro w' ⟨s0, s1, s2⟩
                    go_simp
                    with_reducible rfl
                  rotate_left
                  · simp only [Act.put, zSa, zSb, zSc, i64_w, i32_w]
                    rfl
                  refine take_ (i := 4) (N := some 67) (v := ?_) (a' := ?_) #[true, true, true, true, true, true, false, false, false, false, false, false] rfl rfl (take_ofW HT_.out HW_.out (by kernel_rfl)) (fun _ _ _ h => h) (Or.inl ⟨by rfl, ?_⟩) hHeld ?_ ?_
                  rotate_left
                  · rintro w' ⟨s0, s1, s2⟩
                    go_simp
                    with_reducible rfl
                  rotate_left
                  · simp only [Act.put, zSa, zSb, zSc, i64_w, i32_w]
                    rfl
                  refine one_ (i := 6) (N := some 69) #[true, true, true, true, true, true, true, false, false, false, false, false] rfl rfl (one_of HT_.out (by kernel_rfl)) (by decide) (fun K hK => ?_)
                  refine goes_ Try.func25 (by kernel_rfl) rfl #[.agg #[.int .i64 a0_0, .slice A0_1 l0_1.length c0_1], .int .i64 (rd l3 x57_1), .int .i64 x57_1] (by rfl) rfl rfl (by (try simp only [zMa, zMc, zMn]); first | done | rfl | (simp only [zLd, zLt]; rfl)) ?_
                  with_reducible refine (paths_other.calls k1 a0_0 _ _ l0_1 (rd l3 x57_1) x57_1 t129 t130 _ ?side1 ?side2 A30.out).mono ?_
                  (case side1 => repeat (first | exact (Kd.C_below HR0_1.out HB.out) | (with_reducible refine zCa ?_ _) | (with_reducible refine zCn ?_ _) | (with_reducible refine zCd ?_)))
                  (case side2 => exact HC0_1.out)
                  rintro e w37 ⟨rfl, hb⟩
                  refine ⟨_, rfl, ?_⟩
                  replace HO_9 := zMk (zRb (by exact uR HO_9.out) hb)
                  replace HO_12 := zMk (zRb (by exact uR HO_12.out) hb)
                  replace HO_55 := zMk (zRb (by exact uR HO_55.out) hb)
                  replace BK113 := zMk (zKb (g := gb113) (o := .cells #[.int .i64 a0_0, .slice A0_1 l0_1.length c0_1] 24 (0, 0)) (by (with_reducible repeat (first | refine zKn ?_ _ | refine zKd ?_ | refine zKa ?_ _)); exact BK113.out) hb)
                  replace HB := zMk (zBt (by exact uT HB.out) hb)
                  refine hK.out _ _ ⟨(zKc BK113.out 0).trans rfl, (zKc BK113.out 1).trans rfl, ((HB.out.cell (World.block_lt_of_cell? w _ hw128_0)).trans hw128_0)⟩ (fun hHeld => ?_)
                  clear hK K
                  refine norm_ (a' := ?_) ?_ ?_
                  rotate_left
                  · show Act.put _ (some 69) _ = _
                    simp only [Act.put, zSa, zSb, zSc, i64_w, i32_w]
                    rfl
                  refine pure_ (i := 7) (N := some 62) (v := ?_) (a' := ?_) #[true, true, true, true, true, true, true, true, false, false, false, false] rfl rfl (any_of HT_.out (by kernel_rfl)) (fun _ _ _ h => h) (Or.inl ⟨by rfl, ?_⟩) ?_ ?_
                  rotate_left
                  · intro w'
                    go_simp
                    with_reducible rfl
                  rotate_left
                  · simp only [Act.put, zSa, zSb, zSc, i64_w, i32_w]
                    rfl
                  refine pure_ (i := 8) (N := some 70) (v := ?_) (a' := ?_) #[true, true, true, true, true, true, true, true, true, false, false, false] rfl rfl (any_of HT_.out (by kernel_rfl)) (fun _ _ _ h => h) (Or.inl ⟨by rfl, ?_⟩) ?_ ?_
                  rotate_left
                  · intro w'
                    go_simp
                    with_reducible rfl
                  rotate_left
                  · simp only [Act.put, zSa, zSb, zSc, i64_w, i32_w]
                    rfl
                  refine pure_ (i := 9) (N := some 71) (v := ?_) (a' := ?_) #[true, true, true, true, true, true, true, true, true, true, false, false] rfl rfl (any_of HT_.out (by kernel_rfl)) (fun _ _ _ h => h) (Or.inl ⟨by rfl, ?_⟩) ?_ ?_
                  rotate_left
                  · intro w'
                    go_simp
                    with_reducible rfl
                  rotate_left
                  · simp only [Act.put, zSa, zSb, zSc, i64_w, i32_w]
                    rfl
                  refine pure_ (i := 10) (N := some 15) (v := ?_) (a' := ?_) #[true, true, true, true, true, true, true, true, true, true, true, false] rfl rfl (any_of HT_.out (by kernel_rfl)) (fun _ _ _ h => h) (Or.inl ⟨by rfl, ?_⟩) ?_ ?_
                  rotate_left
                  · intro w'
                    go_simp
                    with_reducible rfl
                  rotate_left
                  · simp only [Act.put, zSa, zSb, zSc, i64_w, i32_w]
                    rfl
                  refine pure_ (i := 11) (N := some 16) (v := ?_) (a' := ?_) #[true, true, true, true, true, true, true, true, true, true, true, true] rfl rfl (any_of HT_.out (by kernel_rfl)) (fun _ _ _ h => h) (Or.inl ⟨by rfl, ?_⟩) ?_ ?_
                  rotate_left
                  · intro w'
                    go_simp
                    with_reducible rfl
                  rotate_left
                  · simp only [Act.put, zSa, zSb, zSc, i64_w, i32_w]
                    rfl
                  refine done_ (done_of HT_.out (by kernel_rfl)) ?_
                  have p131 : 0 ≤ (x57_1 : Int) := of_decide_eq_true (by assumption)
                  have q131 : x57_1 < (l3.length : Int) := of_decide_eq_true (by assumption)
                  obtain ⟨ad131, e131, hx131_0⟩ := zAi HR3.out x57_1 p131 q131
                  obtain rfl : ad122 = ad131 := (by injection e131)
                  replace hx131_0 := (HB.out.cell (World.block_lt_of_cell? w _ hx131_0)).trans hx131_0
                  replace p131 := eq_true p131
                  replace q131 := eq_true q131
                  try go_wp2
                  (try simp only [← hl12_1])
                  go_roundg k1
                  case measure => have := HK1.out; omega
                  case rel => exact ⟨(wrap64 (x57_1 + 1)), (by first | rfl | (simp; done) | (simp [*]; done)), H', ⟨by have := HK1.out; omega⟩, ⟨by (try simp only [hl12_1]); exact uR HO_9.out⟩, ⟨by (try simp only [hl12_1]); exact uR HO_12.out⟩, ⟨by (try simp only [hl12_1]); exact uR HO_55.out⟩, ⟨by (try simp only [hl12_1]); (with_reducible repeat (first | refine zKn ?_ _ | refine zKd ?_ | refine zKa ?_ _)); exact BK113.out⟩, ⟨by exact uT HB.out⟩⟩
                · rw [if_neg c35] at H
                  have c35b0 : ((rd l3 x57_1) == (-1)) = false := beq_eq_false_iff_ne.mpr c35
                  (try (have c35b0l := c35b0; simp only [hl12_1] at c35b0l))
                  have c35b1 : ((rd l3 x57_1) != (-1)) = true := bne_iff_ne.mpr c35
                  (try (have c35b1l := c35b1; simp only [hl12_1] at c35b1l))
                  obtain rfl := zOi H
                  have p127 : 0 ≤ (x57_1 : Int) := of_decide_eq_true (by assumption)
                  have q127 : x57_1 < (t114.length : Int) := of_decide_eq_true (by assumption)
                  obtain ⟨ad127, e127, hx127_0⟩ := zAi (zRr HO_55.out).2.2 x57_1 p127 q127
                  cases e127
                  replace p127 := eq_true p127
                  replace q127 := eq_true q127
                  try go_wp2
                  replace HO_9 := zMk (zRd HO_9.out)
                  replace HO_12 := zMk (zRd HO_12.out)
                  replace HO_55 := zMk (zRd HO_55.out)
                  replace BK113 := zMk (zKd BK113.out)
                  replace HB := zMk (zBd HB.out)
                  have p128 : 0 ≤ (x57_1 : Int) := of_decide_eq_true (by assumption)
                  have q128 : x57_1 < (l3.length : Int) := of_decide_eq_true (by assumption)
                  obtain ⟨ad128, e128, hx128_0⟩ := zAi HR3.out x57_1 p128 q128
                  have hw128_0 := hx128_0
                  obtain rfl : ad122 = ad128 := (by injection e128)
                  replace hx128_0 := (HB.out.cell (World.block_lt_of_cell? w _ hx128_0)).trans hx128_0
                  replace p128 := eq_true p128
                  replace q128 := eq_true q128
                  refine start_ (n := 12) (S := fun w' => w'.cell? ⟨gb113, 0, none⟩ = some (.int .i64 a0_0) ∧ w'.cell? ⟨gb113, 1, none⟩ = some (.slice A0_1 l0_1.length c0_1) ∧ w'.cell? (ad122.add (x57_1).toNat) = some (.int .i64 (rd l3 x57_1))) (ds := []) #[false, false, false, false, false, false, false, false, false, false, false, false] (by kernel_rfl) rfl rfl ⟨(zKc BK113.out 0).trans rfl, (zKc BK113.out 1).trans rfl, ((HB.out.cell (World.block_lt_of_cell? w _ hw128_0)).trans hw128_0)⟩ (fun hHeld => ?_); refine with_tabW paths_Check.tab13 paths_Check.bits13 (fun HT_ HW_ => ?_)
                  generalize wr.drew = w38 at HO_9 HO_12 HO_55 BK113 HB hx128_0 hHeld ⊢
                  refine pure_ (i := 1) (N := some 64) (v := ?_) (a' := ?_) #[false, true, false, false, false, false, false, false, false, false, false, false] rfl rfl (any_of HT_.out (by kernel_rfl)) (fun _ _ _ h => h) (Or.inl ⟨by rfl, ?_⟩) ?_ ?_
                  rotate_left
                  · intro w'
                    go_simp
                    with_reducible rfl
                  rotate_left
                  · simp only [Act.put, zSa, zSb, zSc, i64_w, i32_w]
                    rfl
                  refine pure_ (i := 2) (N := some 65) (v := ?_) (a' := ?_) #[false, true, true, false, false, false, false, false, false, false, false, false] rfl rfl (any_of HT_.out (by kernel_rfl)) (fun _ _ _ h => h) (Or.inl ⟨by rfl, ?_⟩) ?_ ?_
                  rotate_left
                  · intro w'
                    go_simp
                    with_reducible rfl
                  rotate_left
                  · simp only [Act.put, zSa, zSb, zSc, i64_w, i32_w]
                    rfl
                  refine pure_ (i := 3) (N := some 66) (v := ?_) (a' := ?_) #[false, true, true, true, false, false, false, false, false, false, false, false] rfl rfl (any_of HT_.out (by kernel_rfl)) (fun _ _ _ h => h) (Or.inl ⟨by rfl, ?_⟩) ?_ ?_
                  rotate_left
                  · intro w'
                    go_simp
                    with_reducible rfl
                  rotate_left
                  · simp only [Act.put, zSa, zSb, zSc, i64_w, i32_w]
                    rfl
                  refine pure_ (i := 5) (N := some 68) (v := ?_) (a' := ?_) #[false, true, true, true, false, true, false, false, false, false, false, false] rfl rfl (any_of HT_.out (by kernel_rfl)) (fun _ _ _ h => h) (Or.inl ⟨by rfl, ?_⟩) ?_ ?_
                  rotate_left
                  · intro w'
                    go_simp
                    with_reducible rfl
                  rotate_left
                  · simp only [Act.put, zSa, zSb, zSc, i64_w, i32_w]
                    rfl
                  refine take_ (i := 0) (N := some 63) (v := ?_) (a' := ?_) #[true, true, true, true, false, true, false, false, false, false, false, false] rfl rfl (take_ofW HT_.out HW_.out (by kernel_rfl)) (fun _ _ _ h => h) (Or.inl ⟨by rfl, ?_⟩) hHeld ?_ ?_
                  rotate_left
                  · rintro w' ⟨s0, s1, s2⟩
                    go_simp
                    with_reducible rfl
                  rotate_left
                  · simp only [Act.put, zSa, zSb, zSc, i64_w, i32_w]
                    rfl
                  refine take_ (i := 4) (N := some 67) (v := ?_) (a' := ?_) #[true, true, true, true, true, true, false, false, false, false, false, false] rfl rfl (take_ofW HT_.out HW_.out (by kernel_rfl)) (fun _ _ _ h => h) (Or.inl ⟨by rfl, ?_⟩) hHeld ?_ ?_
                  rotate_left
                  · rintro w' ⟨s0, s1, s2⟩
                    go_simp
                    with_reducible rfl
                  rotate_left
                  · simp only [Act.put, zSa, zSb, zSc, i64_w, i32_w]
                    rfl
                  refine one_ (i := 6) (N := some 69) #[true, true, true, true, true, true, true, false, false, false, false, false] rfl rfl (one_of HT_.out (by kernel_rfl)) (by decide) (fun K hK => ?_)
                  refine goes_ Try.func25 (by kernel_rfl) rfl #[.agg #[.int .i64 a0_0, .slice A0_1 l0_1.length c0_1], .int .i64 (rd l3 x57_1), .int .i64 x57_1] (by rfl) rfl rfl (by (try simp only [zMa, zMc, zMn]); first | done | rfl | (simp only [zLd, zLt]; rfl)) ?_
                  with_reducible refine (paths_other.calls k1 a0_0 _ _ l0_1 (rd l3 x57_1) x57_1 t129 t130 _ ?side1 ?side2 A30.out).mono ?_
                  (case side1 => repeat (first | exact (Kd.C_below HR0_1.out HB.out) | (with_reducible refine zCa ?_ _) | (with_reducible refine zCn ?_ _) | (with_reducible refine zCd ?_)))
                  (case side2 => exact HC0_1.out)
                  rintro e w39 ⟨rfl, hb⟩
                  refine ⟨_, rfl, ?_⟩
                  replace HO_9 := zMk (zRb (by exact uR HO_9.out) hb)
                  replace HO_12 := zMk (zRb (by exact uR HO_12.out) hb)
                  replace HO_55 := zMk (zRb (by exact uR HO_55.out) hb)
                  replace BK113 := zMk (zKb (g := gb113) (o := .cells #[.int .i64 a0_0, .slice A0_1 l0_1.length c0_1] 24 (0, 0)) (by (with_reducible repeat (first | refine zKn ?_ _ | refine zKd ?_ | refine zKa ?_ _)); exact BK113.out) hb)
                  replace HB := zMk (zBt (by exact uT HB.out) hb)
                  refine hK.out _ _ ⟨(zKc BK113.out 0).trans rfl, (zKc BK113.out 1).trans rfl, ((HB.out.cell (World.block_lt_of_cell? w _ hw128_0)).trans hw128_0)⟩ (fun hHeld => ?_)
                  clear hK K
                  refine norm_ (a' := ?_) ?_ ?_
                  rotate_left
                  · show Act.put _ (some 69) _ = _
                    simp only [Act.put, zSa, zSb, zSc, i64_w, i32_w]
                    rfl
                  refine pure_ (i := 7) (N := some 62) (v := ?_) (a' := ?_) #[true, true, true, true, true, true, true, true, false, false, false, false] rfl rfl (any_of HT_.out (by kernel_rfl)) (fun _ _ _ h => h) (Or.inl ⟨by rfl, ?_⟩) ?_ ?_
                  rotate_left
                  · intro w'
                    go_simp
                    with_reducible rfl
                  rotate_left
                  · simp only [Act.put, zSa, zSb, zSc, i64_w, i32_w]
                    rfl
                  refine pure_ (i := 8) (N := some 70) (v := ?_) (a' := ?_) #[true, true, true, true, true, true, true, true, true, false, false, false] rfl rfl (any_of HT_.out (by kernel_rfl)) (fun _ _ _ h => h) (Or.inl ⟨by rfl, ?_⟩) ?_ ?_
                  rotate_left
                  · intro w'
                    go_simp
                    with_reducible rfl
                  rotate_left
                  · simp only [Act.put, zSa, zSb, zSc, i64_w, i32_w]
                    rfl
                  refine pure_ (i := 9) (N := some 71) (v := ?_) (a' := ?_) #[true, true, true, true, true, true, true, true, true, true, false, false] rfl rfl (any_of HT_.out (by kernel_rfl)) (fun _ _ _ h => h) (Or.inl ⟨by rfl, ?_⟩) ?_ ?_
                  rotate_left
                  · intro w'
                    go_simp
                    with_reducible rfl
                  rotate_left
                  · simp only [Act.put, zSa, zSb, zSc, i64_w, i32_w]
                    rfl
                  refine pure_ (i := 10) (N := some 15) (v := ?_) (a' := ?_) #[true, true, true, true, true, true, true, true, true, true, true, false] rfl rfl (any_of HT_.out (by kernel_rfl)) (fun _ _ _ h => h) (Or.inl ⟨by rfl, ?_⟩) ?_ ?_
                  rotate_left
                  · intro w'
                    go_simp
                    with_reducible rfl
                  rotate_left
                  · simp only [Act.put, zSa, zSb, zSc, i64_w, i32_w]
                    rfl
                  refine pure_ (i := 11) (N := some 16) (v := ?_) (a' := ?_) #[true, true, true, true, true, true, true, true, true, true, true, true] rfl rfl (any_of HT_.out (by kernel_rfl)) (fun _ _ _ h => h) (Or.inl ⟨by rfl, ?_⟩) ?_ ?_
                  rotate_left
                  · intro w'
                    go_simp
                    with_reducible rfl
                  rotate_left
                  · simp only [Act.put, zSa, zSb, zSc, i64_w, i32_w]
                    rfl
                  refine done_ (done_of HT_.out (by kernel_rfl)) ?_
                  have p131 : 0 ≤ (x57_1 : Int) := of_decide_eq_true (by assumption)
                  have q131 : x57_1 < (l3.length : Int) := of_decide_eq_true (by assumption)
                  obtain ⟨ad131, e131, hx131_0⟩ := zAi HR3.out x57_1 p131 q131
                  obtain rfl : ad122 = ad131 := (by injection e131)
                  replace hx131_0 := (HB.out.cell (World.block_lt_of_cell? w _ hx131_0)).trans hx131_0
                  replace p131 := eq_true p131
                  replace q131 := eq_true q131
                  try go_wp2
                  go_ret
                  exact ⟨by first | rfl | (simp [errW_none, errW_some] <;> rfl) | (simp [*, errW_none, errW_some] <;> rfl), by exact uT HB.out⟩
              · rw [if_neg c34] at H
                have c34b0 : decide ((rd t114 x57_1) < 0) = false := decide_eq_false c34
                (try (have c34b0l := c34b0; simp only [hl12_1] at c34b0l))
                clear c34
                by_cases c40 : t130 = true
                · subst c40
                  replace H : (if 0 ≤ t129 then (if t129 < (t114.length : Int) then (if (rd t114 t129) < 0 then (some 13) else (if 0 ≤ (rd l3 x57_1) then (if (rd l3 x57_1) < (l0_1.length : Int) then (if (rd t114 t129) = (wrap64 ((rd t114 x57_1) - ((rd_T39 l0_1 (rd l3 x57_1)).f2))) then (paths_Check.l0 k1 a1 l3 t114 y126 t114 (t114.length : Int) (wrap64 (x57_1 + 1)) a0_0 l0_1) else (some 13)) else (none)) else (none))) else (none)) else (none)) = some r := by rw [if_pos rfl] at H; exact H
                  by_cases c41 : 0 ≤ t129
                  rotate_left
                  · rw [if_neg c41] at H; exact absurd H (by simp)
                  rw [if_pos c41] at H
                  have c41b0 : decide (0 ≤ t129) = true := decide_eq_true c41
                  (try (have c41b0l := c41b0; simp only [hl12_1] at c41b0l))
                  clear c41
                  by_cases c42 : t129 < (t114.length : Int)
                  rotate_left
                  · rw [if_neg c42] at H; exact absurd H (by simp)
                  rw [if_pos c42] at H
                  have c42b0 : decide (t129 < (t114.length : Int)) = true := decide_eq_true c42
                  (try (have c42b0l := c42b0; simp only [hl12_1] at c42b0l))
                  clear c42
                  by_cases c43 : (rd t114 t129) < 0
                  · rw [if_pos c43] at H
                    have c43b0 : decide ((rd t114 t129) < 0) = true := decide_eq_true c43
                    (try (have c43b0l := c43b0; simp only [hl12_1] at c43b0l))
                    clear c43
                    obtain rfl := zOi H
                    have p127 : 0 ≤ (x57_1 : Int) := of_decide_eq_true (by assumption)
                    have q127 : x57_1 < (t114.length : Int) := of_decide_eq_true (by assumption)
                    obtain ⟨ad127, e127, hx127_0⟩ := zAi (zRr HO_55.out).2.2 x57_1 p127 q127
                    cases e127
                    replace p127 := eq_true p127
                    replace q127 := eq_true q127
                    try go_wp2
                    replace HO_9 := zMk (zRd HO_9.out)
                    replace HO_12 := zMk (zRd HO_12.out)
                    replace HO_55 := zMk (zRd HO_55.out)
                    replace BK113 := zMk (zKd BK113.out)
                    replace HB := zMk (zBd HB.out)
                    have p128 : 0 ≤ (x57_1 : Int) := of_decide_eq_true (by assumption)
                    have q128 : x57_1 < (l3.length : Int) := of_decide_eq_true (by assumption)
                    obtain ⟨ad128, e128, hx128_0⟩ := zAi HR3.out x57_1 p128 q128
                    have hw128_0 := hx128_0
                    obtain rfl : ad122 = ad128 := (by injection e128)
                    replace hx128_0 := (HB.out.cell (World.block_lt_of_cell? w _ hx128_0)).trans hx128_0
                    replace p128 := eq_true p128
                    replace q128 := eq_true q128
                    refine start_ (n := 12) (S := fun w' => w'.cell? ⟨gb113, 0, none⟩ = some (.int .i64 a0_0) ∧ w'.cell? ⟨gb113, 1, none⟩ = some (.slice A0_1 l0_1.length c0_1) ∧ w'.cell? (ad122.add (x57_1).toNat) = some (.int .i64 (rd l3 x57_1))) (ds := []) #[false, false, false, false, false, false, false, false, false, false, false, false] (by kernel_rfl) rfl rfl ⟨(zKc BK113.out 0).trans rfl, (zKc BK113.out 1).trans rfl, ((HB.out.cell (World.block_lt_of_cell? w _ hw128_0)).trans hw128_0)⟩ (fun hHeld => ?_); refine with_tabW paths_Check.tab13 paths_Check.bits13 (fun HT_ HW_ => ?_)
                    generalize wr.drew = w44 at HO_9 HO_12 HO_55 BK113 HB hx128_0 hHeld ⊢
                    refine pure_ (i := 1) (N := some 64) (v := ?_) (a' := ?_) #[false, true, false, false, false, false, false, false, false, false, false, false] rfl rfl (any_of HT_.out (by kernel_rfl)) (fun _ _ _ h => h) (Or.inl ⟨by rfl, ?_⟩) ?_ ?_
                    rotate_left
                    · intro w'
                      go_simp
                      with_reducible rfl
                    rotate_left
                    · simp only [Act.put, zSa, zSb, zSc, i64_w, i32_w]
                      rfl
                    refine pure_ (i := 2) (N := some 65) (v := ?_) (a' := ?_) #[false, true, true, false, false, false, false, false, false, false, false, false] rfl rfl (any_of HT_.out (by kernel_rfl)) (fun _ _ _ h => h) (Or.inl ⟨by rfl, ?_⟩) ?_ ?_
                    rotate_left
                    · intro w'
                      go_simp
                      with_reducible rfl
                    rotate_left
                    · simp only [Act.put, zSa, zSb, zSc, i64_w, i32_w]
                      rfl
                    refine pure_ (i := 3) (N := some 66) (v := ?_) (a' := ?_) #[false, true, true, true, false, false, false, false, false, false, false, false] rfl rfl (any_of HT_.out (by kernel_rfl)) (fun _ _ _ h => h) (Or.inl ⟨by rfl, ?_⟩) ?_ ?_
                    rotate_left
                    · intro w'
                      go_simp
                      with_reducible rfl
                    rotate_left
                    · simp only [Act.put, zSa, zSb, zSc, i64_w, i32_w]
                      rfl
                    refine pure_ (i := 5) (N := some 68) (v := ?_) (a' := ?_) #[false, true, true, true, false, true, false, false, false, false, false, false] rfl rfl (any_of HT_.out (by kernel_rfl)) (fun _ _ _ h => h) (Or.inl ⟨by rfl, ?_⟩) ?_ ?_
                    rotate_left
                    · intro w'
                      go_simp
                      with_reducible rfl
                    rotate_left
                    · simp only [Act.put, zSa, zSb, zSc, i64_w, i32_w]
                      rfl
                    refine take_ (i := 0) (N := some 63) (v := ?_) (a' := ?_) #[true, true, true, true, false, true, false, false, false, false, false, false] rfl rfl (take_ofW HT_.out HW_.out (by kernel_rfl)) (fun _ _ _ h => h) (Or.inl ⟨by rfl, ?_⟩) hHeld ?_ ?_
                    rotate_left
                    · rintro w' ⟨s0, s1, s2⟩
                      go_simp
                      with_reducible rfl
                    rotate_left
                    · simp only [Act.put, zSa, zSb, zSc, i64_w, i32_w]
                      rfl
                    refine take_ (i := 4) (N := some 67) (v := ?_) (a' := ?_) #[true, true, true, true, true, true, false, false, false, false, false, false] rfl rfl (take_ofW HT_.out HW_.out (by kernel_rfl)) (fun _ _ _ h => h) (Or.inl ⟨by rfl, ?_⟩) hHeld ?_ ?_
                    rotate_left
                    · rintro w' ⟨s0, s1, s2⟩
                      go_simp
                      with_reducible rfl
                    rotate_left
                    · simp only [Act.put, zSa, zSb, zSc, i64_w, i32_w]
                      rfl
                    refine one_ (i := 6) (N := some 69) #[true, true, true, true, true, true, true, false, false, false, false, false] rfl rfl (one_of HT_.out (by kernel_rfl)) (by decide) (fun K hK => ?_)
                    refine goes_ Try.func25 (by kernel_rfl) rfl #[.agg #[.int .i64 a0_0, .slice A0_1 l0_1.length c0_1], .int .i64 (rd l3 x57_1), .int .i64 x57_1] (by rfl) rfl rfl (by (try simp only [zMa, zMc, zMn]); first | done | rfl | (simp only [zLd, zLt]; rfl)) ?_
                    with_reducible refine (paths_other.calls k1 a0_0 _ _ l0_1 (rd l3 x57_1) x57_1 t129 true _ ?side1 ?side2 A30.out).mono ?_
                    (case side1 => repeat (first | exact (Kd.C_below HR0_1.out HB.out) | (with_reducible refine zCa ?_ _) | (with_reducible refine zCn ?_ _) | (with_reducible refine zCd ?_)))
                    (case side2 => exact HC0_1.out)
                    rintro e w45 ⟨rfl, hb⟩
                    refine ⟨_, rfl, ?_⟩
                    replace HO_9 := zMk (zRb (by exact uR HO_9.out) hb)
                    replace HO_12 := zMk (zRb (by exact uR HO_12.out) hb)
                    replace HO_55 := zMk (zRb (by exact uR HO_55.out) hb)
                    replace BK113 := zMk (zKb (g := gb113) (o := .cells #[.int .i64 a0_0, .slice A0_1 l0_1.length c0_1] 24 (0, 0)) (by (with_reducible repeat (first | refine zKn ?_ _ | refine zKd ?_ | refine zKa ?_ _)); exact BK113.out) hb)
                    replace HB := zMk (zBt (by exact uT HB.out) hb)
                    refine hK.out _ _ ⟨(zKc BK113.out 0).trans rfl, (zKc BK113.out 1).trans rfl, ((HB.out.cell (World.block_lt_of_cell? w _ hw128_0)).trans hw128_0)⟩ (fun hHeld => ?_)
                    clear hK K
                    refine norm_ (a' := ?_) ?_ ?_
                    rotate_left
                    · show Act.put _ (some 69) _ = _
                      simp only [Act.put, zSa, zSb, zSc, i64_w, i32_w]
                      rfl
                    refine pure_ (i := 7) (N := some 62) (v := ?_) (a' := ?_) #[true, true, true, true, true, true, true, true, false, false, false, false] rfl rfl (any_of HT_.out (by kernel_rfl)) (fun _ _ _ h => h) (Or.inl ⟨by rfl, ?_⟩) ?_ ?_
                    rotate_left
                    · intro w'
                      go_simp
                      with_reducible rfl
                    rotate_left
                    · simp only [Act.put, zSa, zSb, zSc, i64_w, i32_w]
                      rfl
                    refine pure_ (i := 8) (N := some 70) (v := ?_) (a' := ?_) #[true, true, true, true, true, true, true, true, true, false, false, false] rfl rfl (any_of HT_.out (by kernel_rfl)) (fun _ _ _ h => h) (Or.inl ⟨by rfl, ?_⟩) ?_ ?_
                    rotate_left
                    · intro w'
                      go_simp
                      with_reducible rfl
                    rotate_left
                    · simp only [Act.put, zSa, zSb, zSc, i64_w, i32_w]
                      rfl
                    refine pure_ (i := 9) (N := some 71) (v := ?_) (a' := ?_) #[true, true, true, true, true, true, true, true, true, true, false, false] rfl rfl (any_of HT_.out (by kernel_rfl)) (fun _ _ _ h => h) (Or.inl ⟨by rfl, ?_⟩) ?_ ?_
                    rotate_left
                    · intro w'
                      go_simp
                      with_reducible rfl
                    rotate_left
                    · simp only [Act.put, zSa, zSb, zSc, i64_w, i32_w]
                      rfl
                    refine pure_ (i := 10) (N := some 15) (v := ?_) (a' := ?_) #[true, true, true, true, true, true, true, true, true, true, true, false] rfl rfl (any_of HT_.out (by kernel_rfl)) (fun _ _ _ h => h) (Or.inl ⟨by rfl, ?_⟩) ?_ ?_
                    rotate_left
                    · intro w'
                      go_simp
                      with_reducible rfl
                    rotate_left
                    · simp only [Act.put, zSa, zSb, zSc, i64_w, i32_w]
                      rfl
                    refine pure_ (i := 11) (N := some 16) (v := ?_) (a' := ?_) #[true, true, true, true, true, true, true, true, true, true, true, true] rfl rfl (any_of HT_.out (by kernel_rfl)) (fun _ _ _ h => h) (Or.inl ⟨by rfl, ?_⟩) ?_ ?_
                    rotate_left
                    · intro w'
                      go_simp
                      with_reducible rfl
                    rotate_left
                    · simp only [Act.put, zSa, zSb, zSc, i64_w, i32_w]
                      rfl
                    refine done_ (done_of HT_.out (by kernel_rfl)) ?_
                    try go_wp2
                    replace HO_9 := zMk (zRd HO_9.out)
                    replace HO_12 := zMk (zRd HO_12.out)
                    replace HO_55 := zMk (zRd HO_55.out)
                    replace BK113 := zMk (zKd BK113.out)
                    replace HB := zMk (zBd HB.out)
                    have p132 : 0 ≤ (t129 : Int) := of_decide_eq_true (by assumption)
                    have q132 : t129 < (t114.length : Int) := of_decide_eq_true (by assumption)
                    obtain ⟨ad132, e132, hx132_0⟩ := zAi (zRr HO_9.out).2.2 t129 p132 q132
                    obtain rfl : ad127 = ad132 := (by injection e132)
                    replace p132 := eq_true p132
                    replace q132 := eq_true q132
                    refine start_ (n := 28) (S := fun w' => w'.cell? (ad127.add (t129).toNat) = some (.int .i64 (rd t114 t129))) (ds := []) #[false, false, false, false, false, false, false, false, false, false, false, false, false, false, false, false, false, false, false, false, false, false, false, false, false, false, false, false] (by kernel_rfl) rfl rfl (hx132_0) (fun hHeld => ?_); refine with_tabW paths_Check.tab18 paths_Check.bits18 (fun HT_ HW_ => ?_)
                    generalize w45.drew = w46 at HO_9 HO_12 HO_55 BK113 HB hx132_0 hHeld ⊢
                    refine pure_ (i := 0) (N := some 85) (v := ?_) (a' := ?_) #[true, false, false, false, false, false, false, false, false, false, false, false, false, false, false, false, false, false, false, false, false, false, false, false, false, false, false, false] rfl rfl (any_of HT_.out (by kernel_rfl)) (fun _ _ _ h => h) (Or.inl ⟨by rfl, ?_⟩) ?_ ?_
                    rotate_left
                    · intro w'
                      go_simp
                      with_reducible rfl
                    rotate_left
                    · simp only [Act.put, zSa, zSb, zSc, i64_w, i32_w]
                      rfl
                    refine pure_ (i := 1) (N := some 86) (v := ?_) (a' := ?_) #[true, true, false, false, false, false, false, false, false, false, false, false, false, false, false, false, false, false, false, false, false, false, false, false, false, false, false, false] rfl rfl (any_of HT_.out (by kernel_rfl)) (fun _ _ _ h => h) (Or.inl ⟨by rfl, ?_⟩) ?_ ?_
                    rotate_left
                    · intro w'
                      go_simp
                      with_reducible rfl
                    rotate_left
                    · simp only [Act.put, zSa, zSb, zSc, i64_w, i32_w]
                      rfl
                    refine pure_ (i := 2) (N := some 87) (v := ?_) (a' := ?_) #[true, true, true, false, false, false, false, false, false, false, false, false, false, false, false, false, false, false, false, false, false, false, false, false, false, false, false, false] rfl rfl (any_of HT_.out (by kernel_rfl)) (fun _ _ _ h => h) (Or.inl ⟨by rfl, ?_⟩) ?_ ?_
                    rotate_left
                    · intro w'
                      go_simp
                      with_reducible rfl
                    rotate_left
                    · simp only [Act.put, zSa, zSb, zSc, i64_w, i32_w]
                      rfl
                    refine pure_ (i := 3) (N := some 88) (v := ?_) (a' := ?_) #[true, true, true, true, false, false, false, false, false, false, false, false, false, false, false, false, false, false, false, false, false, false, false, false, false, false, false, false] rfl rfl (any_of HT_.out (by kernel_rfl)) (fun _ _ _ h => h) (Or.inl ⟨by rfl, ?_⟩) ?_ ?_
                    rotate_left
                    · intro w'
                      go_simp
                      with_reducible rfl
                    rotate_left
                    · simp only [Act.put, zSa, zSb, zSc, i64_w, i32_w]
                      rfl
                    refine pure_ (i := 4) (N := some 89) (v := ?_) (a' := ?_) #[true, true, true, true, true, false, false, false, false, false, false, false, false, false, false, false, false, false, false, false, false, false, false, false, false, false, false, false] rfl rfl (any_of HT_.out (by kernel_rfl)) (fun _ _ _ h => h) (Or.inl ⟨by rfl, ?_⟩) ?_ ?_
                    rotate_left
                    · intro w'
                      go_simp
                      with_reducible rfl
                    rotate_left
                    · simp only [Act.put, zSa, zSb, zSc, i64_w, i32_w]
                      rfl
                    refine pure_ (i := 5) (N := some 90) (v := ?_) (a' := ?_) #[true, true, true, true, true, true, false, false, false, false, false, false, false, false, false, false, false, false, false, false, false, false, false, false, false, false, false, false] rfl rfl (any_of HT_.out (by kernel_rfl)) (fun _ _ _ h => h) (Or.inl ⟨by rfl, ?_⟩) ?_ ?_
                    rotate_left
                    · intro w'
                      go_simp
                      with_reducible rfl
                    rotate_left
                    · simp only [Act.put, zSa, zSb, zSc, i64_w, i32_w]
                      rfl
                    refine take_ (i := 6) (N := some 91) (v := ?_) (a' := ?_) #[true, true, true, true, true, true, true, false, false, false, false, false, false, false, false, false, false, false, false, false, false, false, false, false, false, false, false, false] rfl rfl (take_ofW HT_.out HW_.out (by kernel_rfl)) (fun _ _ _ h => h) (Or.inl ⟨by rfl, ?_⟩) hHeld ?_ ?_
                    rotate_left
                    · intro w' s0
                      go_simp
                      with_reducible rfl
                    rotate_left
                    · simp only [Act.put, zSa, zSb, zSc, i64_w, i32_w]
                      rfl
                    refine pure_ (i := 7) (N := some 92) (v := ?_) (a' := ?_) #[true, true, true, true, true, true, true, true, false, false, false, false, false, false, false, false, false, false, false, false, false, false, false, false, false, false, false, false] rfl rfl (any_of HT_.out (by kernel_rfl)) (fun _ _ _ h => h) (Or.inl ⟨by rfl, ?_⟩) ?_ ?_
                    rotate_left
                    · intro w'
                      go_simp
                      with_reducible rfl
                    rotate_left
                    · simp only [Act.put, zSa, zSb, zSc, i64_w, i32_w]
                      rfl
                    refine pure_ (i := 8) (N := some 93) (v := ?_) (a' := ?_) #[true, true, true, true, true, true, true, true, true, false, false, false, false, false, false, false, false, false, false, false, false, false, false, false, false, false, false, false] rfl rfl (any_of HT_.out (by kernel_rfl)) (fun _ _ _ h => h) (Or.inl ⟨by rfl, ?_⟩) ?_ ?_
                    rotate_left
                    · intro w'
                      go_simp
                      with_reducible rfl
                    rotate_left
                    · simp only [Act.put, zSa, zSb, zSc, i64_w, i32_w]
                      rfl
                    refine pure_ (i := 9) (N := some 94) (v := ?_) (a' := ?_) #[true, true, true, true, true, true, true, true, true, true, false, false, false, false, false, false, false, false, false, false, false, false, false, false, false, false, false, false] rfl rfl (any_of HT_.out (by kernel_rfl)) (fun _ _ _ h => h) (Or.inl ⟨by rfl, ?_⟩) ?_ ?_
                    rotate_left
                    · intro w'
                      go_simp
                      with_reducible rfl
                    rotate_left
                    · simp only [Act.put, zSa, zSb, zSc, i64_w, i32_w]
                      rfl
                    refine pure_ (i := 10) (N := some 95) (v := undef) (a' := ?_) #[true, true, true, true, true, true, true, true, true, true, true, false, false, false, false, false, false, false, false, false, false, false, false, false, false, false, false, false] rfl rfl (any_of HT_.out (by kernel_rfl)) (fun _ _ _ h => h) (Or.inr ⟨by rfl, rfl⟩) ?_ ?_
                    rotate_left
                    · simp only [Act.put, zSa, zSb, zSc, i64_w, i32_w]
                      rfl
                    refine pure_ (i := 11) (N := some 96) (v := undef) (a' := ?_) #[true, true, true, true, true, true, true, true, true, true, true, true, false, false, false, false, false, false, false, false, false, false, false, false, false, false, false, false] rfl rfl (any_of HT_.out (by kernel_rfl)) (fun _ _ _ h => h) (Or.inr ⟨by rfl, rfl⟩) ?_ ?_
                    rotate_left
                    · simp only [Act.put, zSa, zSb, zSc, i64_w, i32_w]
                      rfl
                    refine pure_ (i := 12) (N := some 97) (v := undef) (a' := ?_) #[true, true, true, true, true, true, true, true, true, true, true, true, true, false, false, false, false, false, false, false, false, false, false, false, false, false, false, false] rfl rfl (any_of HT_.out (by kernel_rfl)) (fun _ _ _ h => h) (Or.inr ⟨by rfl, rfl⟩) ?_ ?_
                    rotate_left
                    · simp only [Act.put, zSa, zSb, zSc, i64_w, i32_w]
                      rfl
                    refine pure_ (i := 13) (N := some 98) (v := undef) (a' := ?_) #[true, true, true, true, true, true, true, true, true, true, true, true, true, true, false, false, false, false, false, false, false, false, false, false, false, false, false, false] rfl rfl (any_of HT_.out (by kernel_rfl)) (fun _ _ _ h => h) (Or.inr ⟨by rfl, rfl⟩) ?_ ?_
                    rotate_left
                    · simp only [Act.put, zSa, zSb, zSc, i64_w, i32_w]
                      rfl
                    refine pure_ (i := 14) (N := some 99) (v := undef) (a' := ?_) #[true, true, true, true, true, true, true, true, true, true, true, true, true, true, true, false, false, false, false, false, false, false, false, false, false, false, false, false] rfl rfl (any_of HT_.out (by kernel_rfl)) (fun _ _ _ h => h) (Or.inr ⟨by rfl, rfl⟩) ?_ ?_
                    rotate_left
                    · simp only [Act.put, zSa, zSb, zSc, i64_w, i32_w]
                      rfl
                    refine pure_ (i := 15) (N := some 100) (v := undef) (a' := ?_) #[true, true, true, true, true, true, true, true, true, true, true, true, true, true, true, true, false, false, false, false, false, false, false, false, false, false, false, false] rfl rfl (any_of HT_.out (by kernel_rfl)) (fun _ _ _ h => h) (Or.inr ⟨by rfl, rfl⟩) ?_ ?_
                    rotate_left
                    · simp only [Act.put, zSa, zSb, zSc, i64_w, i32_w]
                      rfl
                    refine pure_ (i := 16) (N := some 101) (v := undef) (a' := ?_) #[true, true, true, true, true, true, true, true, true, true, true, true, true, true, true, true, true, false, false, false, false, false, false, false, false, false, false, false] rfl rfl (any_of HT_.out (by kernel_rfl)) (fun _ _ _ h => h) (Or.inr ⟨by rfl, rfl⟩) ?_ ?_
                    rotate_left
                    · simp only [Act.put, zSa, zSb, zSc, i64_w, i32_w]
                      rfl
                    refine pure_ (i := 17) (N := some 102) (v := undef) (a' := ?_) #[true, true, true, true, true, true, true, true, true, true, true, true, true, true, true, true, true, true, false, false, false, false, false, false, false, false, false, false] rfl rfl (any_of HT_.out (by kernel_rfl)) (fun _ _ _ h => h) (Or.inr ⟨by rfl, rfl⟩) ?_ ?_
                    rotate_left
                    · simp only [Act.put, zSa, zSb, zSc, i64_w, i32_w]
                      rfl
                    refine pure_ (i := 18) (N := some 103) (v := undef) (a' := ?_) #[true, true, true, true, true, true, true, true, true, true, true, true, true, true, true, true, true, true, true, false, false, false, false, false, false, false, false, false] rfl rfl (any_of HT_.out (by kernel_rfl)) (fun _ _ _ h => h) (Or.inr ⟨by rfl, rfl⟩) ?_ ?_
                    rotate_left
                    · simp only [Act.put, zSa, zSb, zSc, i64_w, i32_w]
                      rfl
                    refine pure_ (i := 19) (N := some 104) (v := undef) (a' := ?_) #[true, true, true, true, true, true, true, true, true, true, true, true, true, true, true, true, true, true, true, true, false, false, false, false, false, false, false, false] rfl rfl (any_of HT_.out (by kernel_rfl)) (fun _ _ _ h => h) (Or.inr ⟨by rfl, rfl⟩) ?_ ?_
                    rotate_left
                    · simp only [Act.put, zSa, zSb, zSc, i64_w, i32_w]
                      rfl
                    refine pure_ (i := 20) (N := some 105) (v := undef) (a' := ?_) #[true, true, true, true, true, true, true, true, true, true, true, true, true, true, true, true, true, true, true, true, true, false, false, false, false, false, false, false] rfl rfl (any_of HT_.out (by kernel_rfl)) (fun _ _ _ h => h) (Or.inr ⟨by rfl, rfl⟩) ?_ ?_
                    rotate_left
                    · simp only [Act.put, zSa, zSb, zSc, i64_w, i32_w]
                      rfl
                    refine pure_ (i := 21) (N := some 106) (v := undef) (a' := ?_) #[true, true, true, true, true, true, true, true, true, true, true, true, true, true, true, true, true, true, true, true, true, true, false, false, false, false, false, false] rfl rfl (any_of HT_.out (by kernel_rfl)) (fun _ _ _ h => h) (Or.inr ⟨by rfl, rfl⟩) ?_ ?_
                    rotate_left
                    · simp only [Act.put, zSa, zSb, zSc, i64_w, i32_w]
                      rfl
                    refine pure_ (i := 22) (N := some 107) (v := undef) (a' := ?_) #[true, true, true, true, true, true, true, true, true, true, true, true, true, true, true, true, true, true, true, true, true, true, true, false, false, false, false, false] rfl rfl (any_of HT_.out (by kernel_rfl)) (fun _ _ _ h => h) (Or.inr ⟨by rfl, rfl⟩) ?_ ?_
                    rotate_left
                    · simp only [Act.put, zSa, zSb, zSc, i64_w, i32_w]
                      rfl
                    refine pure_ (i := 23) (N := some 108) (v := undef) (a' := ?_) #[true, true, true, true, true, true, true, true, true, true, true, true, true, true, true, true, true, true, true, true, true, true, true, true, false, false, false, false] rfl rfl (any_of HT_.out (by kernel_rfl)) (fun _ _ _ h => h) (Or.inr ⟨by rfl, rfl⟩) ?_ ?_
                    rotate_left
                    · simp only [Act.put, zSa, zSb, zSc, i64_w, i32_w]
                      rfl
                    refine pure_ (i := 24) (N := some 109) (v := undef) (a' := ?_) #[true, true, true, true, true, true, true, true, true, true, true, true, true, true, true, true, true, true, true, true, true, true, true, true, true, false, false, false] rfl rfl (any_of HT_.out (by kernel_rfl)) (fun _ _ _ h => h) (Or.inr ⟨by rfl, rfl⟩) ?_ ?_
                    rotate_left
                    · simp only [Act.put, zSa, zSb, zSc, i64_w, i32_w]
                      rfl
                    refine pure_ (i := 25) (N := some 110) (v := undef) (a' := ?_) #[true, true, true, true, true, true, true, true, true, true, true, true, true, true, true, true, true, true, true, true, true, true, true, true, true, true, false, false] rfl rfl (any_of HT_.out (by kernel_rfl)) (fun _ _ _ h => h) (Or.inr ⟨by rfl, rfl⟩) ?_ ?_
                    rotate_left
                    · simp only [Act.put, zSa, zSb, zSc, i64_w, i32_w]
                      rfl
                    refine pure_ (i := 26) (N := some 111) (v := ?_) (a' := ?_) #[true, true, true, true, true, true, true, true, true, true, true, true, true, true, true, true, true, true, true, true, true, true, true, true, true, true, true, false] rfl rfl (any_of HT_.out (by kernel_rfl)) (fun _ _ _ h => h) (Or.inl ⟨by rfl, ?_⟩) ?_ ?_
                    rotate_left
                    · intro w'
                      go_simp
                      with_reducible rfl
                    rotate_left
                    · simp only [Act.put, zSa, zSb, zSc, i64_w, i32_w]
                      rfl
                    refine pure_ (i := 27) (N := some 84) (v := ?_) (a' := ?_) #[true, true, true, true, true, true, true, true, true, true, true, true, true, true, true, true, true, true, true, true, true, true, true, true, true, true, true, true] rfl rfl (any_of HT_.out (by kernel_rfl)) (fun _ _ _ h => h) (Or.inl ⟨by rfl, ?_⟩) ?_ ?_
                    rotate_left
                    · intro w'
                      go_simp
                      with_reducible rfl
                    rotate_left
                    · simp only [Act.put, zSa, zSb, zSc, i64_w, i32_w]
                      rfl
                    refine done_ (done_of HT_.out (by kernel_rfl)) ?_
                    try go_wp2
                    go_ret
                    exact ⟨by first | rfl | (simp [errW_none, errW_some] <;> rfl) | (simp [*, errW_none, errW_some] <;> rfl), by exact uT HB.out⟩
                  · rw [if_neg c43] at H
                    have c43b0 : decide ((rd t114 t129) < 0) = false := decide_eq_false c43
                    (try (have c43b0l := c43b0; simp only [hl12_1] at c43b0l))
                    clear c43
                    by_cases c47 : 0 ≤ (rd l3 x57_1)
                    rotate_left
                    · rw [if_neg c47] at H; exact absurd H (by simp)
                    rw [if_pos c47] at H
                    have c47b0 : decide (0 ≤ (rd l3 x57_1)) = true := decide_eq_true c47
                    (try (have c47b0l := c47b0; simp only [hl12_1] at c47b0l))
                    clear c47
                    by_cases c48 : (rd l3 x57_1) < (l0_1.length : Int)
                    rotate_left
                    · rw [if_neg c48] at H; exact absurd H (by simp)
                    rw [if_pos c48] at H
                    have c48b0 : decide ((rd l3 x57_1) < (l0_1.length : Int)) = true := decide_eq_true c48
                    (try (have c48b0l := c48b0; simp only [hl12_1] at c48b0l))
                    clear c48
                    by_cases c49 : (rd t114 t129) = (wrap64 ((rd t114 x57_1) - ((rd_T39 l0_1 (rd l3 x57_1)).f2)))
                    · rw [if_pos c49] at H
                      have c49b0 : ((rd t114 t129) == (wrap64 ((rd t114 x57_1) - ((rd_T39 l0_1 (rd l3 x57_1)).f2)))) = true := beq_iff_eq.mpr c49
                      (try (have c49b0l := c49b0; simp only [hl12_1] at c49b0l))
                      have c49b1 : ((rd t114 t129) != (wrap64 ((rd t114 x57_1) - ((rd_T39 l0_1 (rd l3 x57_1)).f2)))) = false := bne_eq_false_iff_eq.mpr c49
                      (try (have c49b1l := c49b1; simp only [hl12_1] at c49b1l))
                      clear c49
                      have H' := zMk H
                      clear H
                      have p127 : 0 ≤ (x57_1 : Int) := of_decide_eq_true (by assumption)
                      have q127 : x57_1 < (t114.length : Int) := of_decide_eq_true (by assumption)
                      obtain ⟨ad127, e127, hx127_0⟩ := zAi (zRr HO_55.out).2.2 x57_1 p127 q127
                      cases e127
                      replace p127 := eq_true p127
                      replace q127 := eq_true q127
                      try go_wp2
                      replace HO_9 := zMk (zRd HO_9.out)
                      replace HO_12 := zMk (zRd HO_12.out)
                      replace HO_55 := zMk (zRd HO_55.out)
                      replace BK113 := zMk (zKd BK113.out)
                      replace HB := zMk (zBd HB.out)
                      have p128 : 0 ≤ (x57_1 : Int) := of_decide_eq_true (by assumption)
                      have q128 : x57_1 < (l3.length : Int) := of_decide_eq_true (by assumption)
                      obtain ⟨ad128, e128, hx128_0⟩ := zAi HR3.out x57_1 p128 q128
                      have hw128_0 := hx128_0
                      obtain rfl : ad122 = ad128 := (by injection e128)
                      replace hx128_0 := (HB.out.cell (World.block_lt_of_cell? w _ hx128_0)).trans hx128_0
                      replace p128 := eq_true p128
                      replace q128 := eq_true q128
                      refine start_ (n := 12) (S := fun w' => w'.cell? ⟨gb113, 0, none⟩ = some (.int .i64 a0_0) ∧ w'.cell? ⟨gb113, 1, none⟩ = some (.slice A0_1 l0_1.length c0_1) ∧ w'.cell? (ad122.add (x57_1).toNat) = some (.int .i64 (rd l3 x57_1))) (ds := []) #[false, false, false, false, false, false, false, false, false, false, false, false] (by kernel_rfl) rfl rfl ⟨(zKc BK113.out 0).trans rfl, (zKc BK113.out 1).trans rfl, ((HB.out.cell (World.block_lt_of_cell? w _ hw128_0)).trans hw128_0)⟩ (fun hHeld => ?_); refine with_tabW paths_Check.tab13 paths_Check.bits13 (fun HT_ HW_ => ?_)
                      generalize wr.drew = w50 at HO_9 HO_12 HO_55 BK113 HB hx128_0 hHeld ⊢
                      refine pure_ (i := 1) (N := some 64) (v := ?_) (a' := ?_) #[false, true, false, false, false, false, false, false, false, false, false, false] rfl rfl (any_of HT_.out (by kernel_rfl)) (fun _ _ _ h => h) (Or.inl ⟨by rfl, ?_⟩) ?_ ?_
                      rotate_left
                      · intro w'
                        go_simp
                        with_reducible rfl
                      rotate_left
                      · simp only [Act.put, zSa, zSb, zSc, i64_w, i32_w]
                        rfl
                      refine pure_ (i := 2) (N := some 65) (v := ?_) (a' := ?_) #[false, true, true, false, false, false, false, false, false, false, false, false] rfl rfl (any_of HT_.out (by kernel_rfl)) (fun _ _ _ h => h) (Or.inl ⟨by rfl, ?_⟩) ?_ ?_
                      rotate_left
                      · intro w'
                        go_simp
                        with_reducible rfl
                      rotate_left
                      · simp only [Act.put, zSa, zSb, zSc, i64_w, i32_w]
                        rfl
                      refine pure_ (i := 3) (N := some 66) (v := ?_) (a' := ?_) #[false, true, true, true, false, false, false, false, false, false, false, false] rfl rfl (any_of HT_.out (by kernel_rfl)) (fun _ _ _ h => h) (Or.inl ⟨by rfl, ?_⟩) ?_ ?_
                      rotate_left
                      · intro w'
                        go_simp
                        with_reducible rfl
                      rotate_left
                      · simp only [Act.put, zSa, zSb, zSc, i64_w, i32_w]
                        rfl
                      refine pure_ (i := 5) (N := some 68) (v := ?_) (a' := ?_) #[false, true, true, true, false, true, false, false, false, false, false, false] rfl rfl (any_of HT_.out (by kernel_rfl)) (fun _ _ _ h => h) (Or.inl ⟨by rfl, ?_⟩) ?_ ?_
                      rotate_left
                      · intro w'
                        go_simp
                        with_reducible rfl
                      rotate_left
                      · simp only [Act.put, zSa, zSb, zSc, i64_w, i32_w]
                        rfl
                      refine take_ (i := 0) (N := some 63) (v := ?_) (a' := ?_) #[true, true, true, true, false, true, false, false, false, false, false, false] rfl rfl (take_ofW HT_.out HW_.out (by kernel_rfl)) (fun _ _ _ h => h) (Or.inl ⟨by rfl, ?_⟩) hHeld ?_ ?_
                      rotate_left
                      · rintro w' ⟨s0, s1, s2⟩
                        go_simp
                        with_reducible rfl
                      rotate_left
                      · simp only [Act.put, zSa, zSb, zSc, i64_w, i32_w]
                        rfl
                      refine take_ (i := 4) (N := some 67) (v := ?_) (a' := ?_) #[true, true, true, true, true, true, false, false, false, false, false, false] rfl rfl (take_ofW HT_.out HW_.out (by kernel_rfl)) (fun _ _ _ h => h) (Or.inl ⟨by rfl, ?_⟩) hHeld ?_ ?_
                      rotate_left
                      · rintro w' ⟨s0, s1, s2⟩
                        go_simp
                        with_reducible rfl
                      rotate_left
                      · simp only [Act.put, zSa, zSb, zSc, i64_w, i32_w]
                        rfl
                      refine one_ (i := 6) (N := some 69) #[true, true, true, true, true, true, true, false, false, false, false, false] rfl rfl (one_of HT_.out (by kernel_rfl)) (by decide) (fun K hK => ?_)
                      refine goes_ Try.func25 (by kernel_rfl) rfl #[.agg #[.int .i64 a0_0, .slice A0_1 l0_1.length c0_1], .int .i64 (rd l3 x57_1), .int .i64 x57_1] (by rfl) rfl rfl (by (try simp only [zMa, zMc, zMn]); first | done | rfl | (simp only [zLd, zLt]; rfl)) ?_
                      with_reducible refine (paths_other.calls k1 a0_0 _ _ l0_1 (rd l3 x57_1) x57_1 t129 true _ ?side1 ?side2 A30.out).mono ?_
                      (case side1 => repeat (first | exact (Kd.C_below HR0_1.out HB.out) | (with_reducible refine zCa ?_ _) | (with_reducible refine zCn ?_ _) | (with_reducible refine zCd ?_)))
                      (case side2 => exact HC0_1.out)
                      rintro e w51 ⟨rfl, hb⟩
                      refine ⟨_, rfl, ?_⟩
                      replace HO_9 := zMk (zRb (by exact uR HO_9.out) hb)
                      replace HO_12 := zMk (zRb (by exact uR HO_12.out) hb)
                      replace HO_55 := zMk (zRb (by exact uR HO_55.out) hb)
                      replace BK113 := zMk (zKb (g := gb113) (o := .cells #[.int .i64 a0_0, .slice A0_1 l0_1.length c0_1] 24 (0, 0)) (by (with_reducible repeat (first | refine zKn ?_ _ | refine zKd ?_ | refine zKa ?_ _)); exact BK113.out) hb)
                      replace HB := zMk (zBt (by exact uT HB.out) hb)
                      refine hK.out _ _ ⟨(zKc BK113.out 0).trans rfl, (zKc BK113.out 1).trans rfl, ((HB.out.cell (World.block_lt_of_cell? w _ hw128_0)).trans hw128_0)⟩ (fun hHeld => ?_)
                      clear hK K
                      refine norm_ (a' := ?_) ?_ ?_
                      rotate_left
                      · show Act.put _ (some 69) _ = _
                        simp only [Act.put, zSa, zSb, zSc, i64_w, i32_w]
                        rfl
                      refine pure_ (i := 7) (N := some 62) (v := ?_) (a' := ?_) #[true, true, true, true, true, true, true, true, false, false, false, false] rfl rfl (any_of HT_.out (by kernel_rfl)) (fun _ _ _ h => h) (Or.inl ⟨by rfl, ?_⟩) ?_ ?_
                      rotate_left
                      · intro w'
                        go_simp
                        with_reducible rfl
                      rotate_left
                      · simp only [Act.put, zSa, zSb, zSc, i64_w, i32_w]
                        rfl
                      refine pure_ (i := 8) (N := some 70) (v := ?_) (a' := ?_) #[true, true, true, true, true, true, true, true, true, false, false, false] rfl rfl (any_of HT_.out (by kernel_rfl)) (fun _ _ _ h => h) (Or.inl ⟨by rfl, ?_⟩) ?_ ?_
                      rotate_left
                      · intro w'
                        go_simp
                        with_reducible rfl
                      rotate_left
                      · simp only [Act.put, zSa, zSb, zSc, i64_w, i32_w]
                        rfl
                      refine pure_ (i := 9) (N := some 71) (v := ?_) (a' := ?_) #[true, true, true, true, true, true, true, true, true, true, false, false] rfl rfl (any_of HT_.out (by kernel_rfl)) (fun _ _ _ h => h) (Or.inl ⟨by rfl, ?_⟩) ?_ ?_
                      rotate_left
                      · intro w'
                        go_simp
                        with_reducible rfl
                      rotate_left
                      · simp only [Act.put, zSa, zSb, zSc, i64_w, i32_w]
                        rfl
                      refine pure_ (i := 10) (N := some 15) (v := ?_) (a' := ?_) #[true, true, true, true, true, true, true, true, true, true, true, false] rfl rfl (any_of HT_.out (by kernel_rfl)) (fun _ _ _ h => h) (Or.inl ⟨by rfl, ?_⟩) ?_ ?_
                      rotate_left
                      · intro w'
                        go_simp
                        with_reducible rfl
                      rotate_left
                      · simp only [Act.put, zSa, zSb, zSc, i64_w, i32_w]
                        rfl
                      refine pure_ (i := 11) (N := some 16) (v := ?_) (a' := ?_) #[true, true, true, true, true, true, true, true, true, true, true, true] rfl rfl (any_of HT_.out (by kernel_rfl)) (fun _ _ _ h => h) (Or.inl ⟨by rfl, ?_⟩) ?_ ?_
                      rotate_left
                      · intro w'
                        go_simp
                        with_reducible rfl
                      rotate_left
                      · simp only [Act.put, zSa, zSb, zSc, i64_w, i32_w]
                        rfl
                      refine done_ (done_of HT_.out (by kernel_rfl)) ?_
                      try go_wp2
                      replace HO_9 := zMk (zRd HO_9.out)
                      replace HO_12 := zMk (zRd HO_12.out)
                      replace HO_55 := zMk (zRd HO_55.out)
                      replace BK113 := zMk (zKd BK113.out)
                      replace HB := zMk (zBd HB.out)
                      have p132 : 0 ≤ (t129 : Int) := of_decide_eq_true (by assumption)
                      have q132 : t129 < (t114.length : Int) := of_decide_eq_true (by assumption)
                      obtain ⟨ad132, e132, hx132_0⟩ := zAi (zRr HO_9.out).2.2 t129 p132 q132
                      obtain rfl : ad127 = ad132 := (by injection e132)
                      replace p132 := eq_true p132
                      replace q132 := eq_true q132
                      have p133 : 0 ≤ (t129 : Int) := of_decide_eq_true (by assumption)
                      have q133 : t129 < (t114.length : Int) := of_decide_eq_true (by assumption)
                      obtain ⟨ad133, e133, hx133_0⟩ := zAi (zRr HO_9.out).2.2 t129 p133 q133
                      obtain rfl : ad127 = ad133 := (by injection e133)
                      replace p133 := eq_true p133
                      replace q133 := eq_true q133
                      have p134 : 0 ≤ (x57_1 : Int) := of_decide_eq_true (by assumption)
                      have q134 : x57_1 < (l3.length : Int) := of_decide_eq_true (by assumption)
                      obtain ⟨ad134, e134, hx134_0⟩ := zAi HR3.out x57_1 p134 q134
                      have hw134_0 := hx134_0
                      obtain rfl : ad122 = ad134 := (by injection e134)
                      replace hx134_0 := (HB.out.cell (World.block_lt_of_cell? w _ hx134_0)).trans hx134_0
                      replace p134 := eq_true p134
                      replace q134 := eq_true q134
                      have p135 : 0 ≤ ((rd l3 x57_1) : Int) := of_decide_eq_true (by assumption)
                      have q135 : (rd l3 x57_1) < (l0_1.length : Int) := of_decide_eq_true (by assumption)
                      obtain ⟨ad135, e135, hx135_0, hx135_1, hx135_2⟩ := at_T39 HR0_1.out (rd l3 x57_1) p135 q135
                      have hw135_2 := hx135_2
                      have hw135_1 := hx135_1
                      have hw135_0 := hx135_0
                      cases e135
                      replace hx135_0 := (HB.out.cell (World.block_lt_of_cell? w _ hx135_0)).trans hx135_0
                      replace hx135_1 := (HB.out.cell (World.block_lt_of_cell? w _ hx135_1)).trans hx135_1
                      replace hx135_2 := (HB.out.cell (World.block_lt_of_cell? w _ hx135_2)).trans hx135_2
                      replace p135 := eq_true p135
                      replace q135 := eq_true q135
                      refine start_ (n := 28) (S := fun w' => w'.cell? ⟨gb113, 0, none⟩ = some (.int .i64 a0_0) ∧ w'.cell? ⟨gb113, 1, none⟩ = some (.slice (some ad135) l0_1.length c0_1) ∧ w'.cell? (ad127.add (t129).toNat) = some (.int .i64 (rd t114 t129)) ∧ w'.cell? (ad127.add (t129).toNat) = some (.int .i64 (rd t114 t129)) ∧ w'.cell? (ad122.add (x57_1).toNat) = some (.int .i64 (rd l3 x57_1)) ∧ w'.cell? (ad135.add (((rd l3 x57_1)).toNat * 3)) = some (.int .i64 ((rd_T39 l0_1 (rd l3 x57_1)).f0)) ∧ w'.cell? ⟨(ad135.add (((rd l3 x57_1)).toNat * 3)).block, (ad135.add (((rd l3 x57_1)).toNat * 3)).off + 1, none⟩ = some (.int .i64 ((rd_T39 l0_1 (rd l3 x57_1)).f1)) ∧ w'.cell? ⟨(ad135.add (((rd l3 x57_1)).toNat * 3)).block, (ad135.add (((rd l3 x57_1)).toNat * 3)).off + 2, none⟩ = some (.int .i64 ((rd_T39 l0_1 (rd l3 x57_1)).f2))) (ds := []) #[false, false, false, false, false, false, false, false, false, false, false, false, false, false, false, false, false, false, false, false, false, false, false, false, false, false, false, false] (by kernel_rfl) rfl rfl ⟨(zKc BK113.out 0).trans rfl, (zKc BK113.out 1).trans rfl, hx132_0, hx133_0, ((HB.out.cell (World.block_lt_of_cell? w _ hw134_0)).trans hw134_0), ((HB.out.cell (World.block_lt_of_cell? w _ hw135_0)).trans hw135_0), ((HB.out.cell (World.block_lt_of_cell? w _ hw135_1)).trans hw135_1), ((HB.out.cell (World.block_lt_of_cell? w _ hw135_2)).trans hw135_2)⟩ (fun hHeld => ?_); refine with_tabW paths_Check.tab18 paths_Check.bits18 (fun HT_ HW_ => ?_)
                      generalize w51.drew = w52 at HO_9 HO_12 HO_55 BK113 HB hx132_0 hx133_0 hx134_0 hx135_0 hx135_1 hx135_2 hHeld ⊢
                      refine pure_ (i := 0) (N := some 85) (v := ?_) (a' := ?_) #[true, false, false, false, false, false, false, false, false, false, false, false, false, false, false, false, false, false, false, false, false, false, false, false, false, false, false, false] rfl rfl (any_of HT_.out (by kernel_rfl)) (fun _ _ _ h => h) (Or.inl ⟨by rfl, ?_⟩) ?_ ?_
                      rotate_left
                      · intro w'
                        go_simp
                        with_reducible rfl
                      rotate_left
                      · simp only [Act.put, zSa, zSb, zSc, i64_w, i32_w]
                        rfl
                      refine pure_ (i := 1) (N := some 86) (v := ?_) (a' := ?_) #[true, true, false, false, false, false, false, false, false, false, false, false, false, false, false, false, false, false, false, false, false, false, false, false, false, false, false, false] rfl rfl (any_of HT_.out (by kernel_rfl)) (fun _ _ _ h => h) (Or.inl ⟨by rfl, ?_⟩) ?_ ?_
                      rotate_left
                      · intro w'
                        go_simp
                        with_reducible rfl
                      rotate_left
                      · simp only [Act.put, zSa, zSb, zSc, i64_w, i32_w]
                        rfl
                      refine pure_ (i := 2) (N := some 87) (v := ?_) (a' := ?_) #[true, true, true, false, false, false, false, false, false, false, false, false, false, false, false, false, false, false, false, false, false, false, false, false, false, false, false, false] rfl rfl (any_of HT_.out (by kernel_rfl)) (fun _ _ _ h => h) (Or.inl ⟨by rfl, ?_⟩) ?_ ?_
                      rotate_left
                      · intro w'
                        go_simp
                        with_reducible rfl
                      rotate_left
                      · simp only [Act.put, zSa, zSb, zSc, i64_w, i32_w]
                        rfl
                      refine pure_ (i := 3) (N := some 88) (v := ?_) (a' := ?_) #[true, true, true, true, false, false, false, false, false, false, false, false, false, false, false, false, false, false, false, false, false, false, false, false, false, false, false, false] rfl rfl (any_of HT_.out (by kernel_rfl)) (fun _ _ _ h => h) (Or.inl ⟨by rfl, ?_⟩) ?_ ?_
                      rotate_left
                      · intro w'
                        go_simp
                        with_reducible rfl
                      rotate_left
                      · simp only [Act.put, zSa, zSb, zSc, i64_w, i32_w]
                        rfl
                      refine pure_ (i := 4) (N := some 89) (v := ?_) (a' := ?_) #[true, true, true, true, true, false, false, false, false, false, false, false, false, false, false, false, false, false, false, false, false, false, false, false, false, false, false, false] rfl rfl (any_of HT_.out (by kernel_rfl)) (fun _ _ _ h => h) (Or.inl ⟨by rfl, ?_⟩) ?_ ?_
                      rotate_left
                      · intro w'
                        go_simp
                        with_reducible rfl
                      rotate_left
                      · simp only [Act.put, zSa, zSb, zSc, i64_w, i32_w]
                        rfl
                      refine pure_ (i := 5) (N := some 90) (v := ?_) (a' := ?_) #[true, true, true, true, true, true, false, false, false, false, false, false, false, false, false, false, false, false, false, false, false, false, false, false, false, false, false, false] rfl rfl (any_of HT_.out (by kernel_rfl)) (fun _ _ _ h => h) (Or.inl ⟨by rfl, ?_⟩) ?_ ?_
                      rotate_left
                      · intro w'
                        go_simp
                        with_reducible rfl
                      rotate_left
                      · simp only [Act.put, zSa, zSb, zSc, i64_w, i32_w]
                        rfl
                      refine take_ (i := 6) (N := some 91) (v := ?_) (a' := ?_) #[true, true, true, true, true, true, true, false, false, false, false, false, false, false, false, false, false, false, false, false, false, false, false, false, false, false, false, false] rfl rfl (take_ofW HT_.out HW_.out (by kernel_rfl)) (fun _ _ _ h => h) (Or.inl ⟨by rfl, ?_⟩) hHeld ?_ ?_
                      rotate_left
                      · rintro w' ⟨s0, s1, s2, s3, s4, s5, s6, s7⟩
                        go_simp
                        with_reducible rfl
                      rotate_left
                      · simp only [Act.put, zSa, zSb, zSc, i64_w, i32_w]
                        rfl
                      refine pure_ (i := 7) (N := some 92) (v := ?_) (a' := ?_) #[true, true, true, true, true, true, true, true, false, false, false, false, false, false, false, false, false, false, false, false, false, false, false, false, false, false, false, false] rfl rfl (any_of HT_.out (by kernel_rfl)) (fun _ _ _ h => h) (Or.inl ⟨by rfl, ?_⟩) ?_ ?_
                      rotate_left
                      · intro w'
                        go_simp
                        with_reducible rfl
                      rotate_left
                      · simp only [Act.put, zSa, zSb, zSc, i64_w, i32_w]
                        rfl
                      refine pure_ (i := 8) (N := some 93) (v := ?_) (a' := ?_) #[true, true, true, true, true, true, true, true, true, false, false, false, false, false, false, false, false, false, false, false, false, false, false, false, false, false, false, false] rfl rfl (any_of HT_.out (by kernel_rfl)) (fun _ _ _ h => h) (Or.inl ⟨by rfl, ?_⟩) ?_ ?_
                      rotate_left
                      · intro w'
                        go_simp
                        with_reducible rfl
                      rotate_left
                      · simp only [Act.put, zSa, zSb, zSc, i64_w, i32_w]
                        rfl
                      refine pure_ (i := 9) (N := some 94) (v := ?_) (a' := ?_) #[true, true, true, true, true, true, true, true, true, true, false, false, false, false, false, false, false, false, false, false, false, false, false, false, false, false, false, false] rfl rfl (any_of HT_.out (by kernel_rfl)) (fun _ _ _ h => h) (Or.inl ⟨by rfl, ?_⟩) ?_ ?_
                      rotate_left
                      · intro w'
                        go_simp
                        with_reducible rfl
                      rotate_left
                      · simp only [Act.put, zSa, zSb, zSc, i64_w, i32_w]
                        rfl
                      refine pure_ (i := 10) (N := some 95) (v := ?_) (a' := ?_) #[true, true, true, true, true, true, true, true, true, true, true, false, false, false, false, false, false, false, false, false, false, false, false, false, false, false, false, false] rfl rfl (any_of HT_.out (by kernel_rfl)) (fun _ _ _ h => h) (Or.inl ⟨by rfl, ?_⟩) ?_ ?_
                      rotate_left
                      · intro w'
                        go_simp
                        with_reducible rfl
                      rotate_left
                      · simp only [Act.put, zSa, zSb, zSc, i64_w, i32_w]
                        rfl
                      refine pure_ (i := 11) (N := some 96) (v := ?_) (a' := ?_) #[true, true, true, true, true, true, true, true, true, true, true, true, false, false, false, false, false, false, false, false, false, false, false, false, false, false, false, false] rfl rfl (any_of HT_.out (by kernel_rfl)) (fun _ _ _ h => h) (Or.inl ⟨by rfl, ?_⟩) ?_ ?_
                      rotate_left
                      · intro w'
                        go_simp
                        with_reducible rfl
                      rotate_left
                      · simp only [Act.put, zSa, zSb, zSc, i64_w, i32_w]
                        rfl
                      refine pure_ (i := 12) (N := some 97) (v := ?_) (a' := ?_) #[true, true, true, true, true, true, true, true, true, true, true, true, true, false, false, false, false, false, false, false, false, false, false, false, false, false, false, false] rfl rfl (any_of HT_.out (by kernel_rfl)) (fun _ _ _ h => h) (Or.inl ⟨by rfl, ?_⟩) ?_ ?_
                      rotate_left
                      · intro w'
                        go_simp
                        with_reducible rfl
                      rotate_left
                      · simp only [Act.put, zSa, zSb, zSc, i64_w, i32_w]
                        rfl
                      refine pure_ (i := 14) (N := some 99) (v := ?_) (a' := ?_) #[true, true, true, true, true, true, true, true, true, true, true, true, true, false, true, false, false, false, false, false, false, false, false, false, false, false, false, false] rfl rfl (any_of HT_.out (by kernel_rfl)) (fun _ _ _ h => h) (Or.inl ⟨by rfl, ?_⟩) ?_ ?_
                      rotate_left
                      · intro w'
                        go_simp
                        with_reducible rfl
                      rotate_left
                      · simp only [Act.put, zSa, zSb, zSc, i64_w, i32_w]
                        rfl
                      refine pure_ (i := 15) (N := some 100) (v := ?_) (a' := ?_) #[true, true, true, true, true, true, true, true, true, true, true, true, true, false, true, true, false, false, false, false, false, false, false, false, false, false, false, false] rfl rfl (any_of HT_.out (by kernel_rfl)) (fun _ _ _ h => h) (Or.inl ⟨by rfl, ?_⟩) ?_ ?_
                      rotate_left
                      · intro w'
                        go_simp
                        with_reducible rfl
                      rotate_left
                      · simp only [Act.put, zSa, zSb, zSc, i64_w, i32_w]
                        rfl
                      refine pure_ (i := 17) (N := some 102) (v := ?_) (a' := ?_) #[true, true, true, true, true, true, true, true, true, true, true, true, true, false, true, true, false, true, false, false, false, false, false, false, false, false, false, false] rfl rfl (any_of HT_.out (by kernel_rfl)) (fun _ _ _ h => h) (Or.inl ⟨by rfl, ?_⟩) ?_ ?_
                      rotate_left
                      · intro w'
                        go_simp
                        with_reducible rfl
                      rotate_left
                      · simp only [Act.put, zSa, zSb, zSc, i64_w, i32_w]
                        rfl
                      refine pure_ (i := 18) (N := some 103) (v := ?_) (a' := ?_) #[true, true, true, true, true, true, true, true, true, true, true, true, true, false, true, true, false, true, true, false, false, false, false, false, false, false, false, false] rfl rfl (any_of HT_.out (by kernel_rfl)) (fun _ _ _ h => h) (Or.inl ⟨by rfl, ?_⟩) ?_ ?_
                      rotate_left
                      · intro w'
                        go_simp
                        with_reducible rfl
                      rotate_left
                      · simp only [Act.put, zSa, zSb, zSc, i64_w, i32_w]
                        rfl
                      refine pure_ (i := 19) (N := some 104) (v := ?_) (a' := ?_) #[true, true, true, true, true, true, true, true, true, true, true, true, true, false, true, true, false, true, true, true, false, false, false, false, false, false, false, false] rfl rfl (any_of HT_.out (by kernel_rfl)) (fun _ _ _ h => h) (Or.inl ⟨by rfl, ?_⟩) ?_ ?_
                      rotate_left
                      · intro w'
                        go_simp
                        with_reducible rfl
                      rotate_left
                      · simp only [Act.put, zSa, zSb, zSc, i64_w, i32_w]
                        rfl
                      refine take_ (i := 13) (N := some 98) (v := ?_) (a' := ?_) #[true, true, true, true, true, true, true, true, true, true, true, true, true, true, true, true, false, true, true, true, false, false, false, false, false, false, false, false] rfl rfl (take_ofW HT_.out HW_.out (by kernel_rfl)) (fun _ _ _ h => h) (Or.inl ⟨by rfl, ?_⟩) hHeld ?_ ?_
                      rotate_left
                      · rintro w' ⟨s0, s1, s2, s3, s4, s5, s6, s7⟩
                        go_simp
                        with_reducible rfl
                      rotate_left
                      · simp only [Act.put, zSa, zSb, zSc, i64_w, i32_w]
                        rfl
                      refine take_ (i := 16) (N := some 101) (v := ?_) (a' := ?_) #[true, true, true, true, true, true, true, true, true, true, true, true, true, true, true, true, true, true, true, true, false, false, false, false, false, false, false, false] rfl rfl (take_ofW HT_.out HW_.out (by kernel_rfl)) (fun _ _ _ h => h) (Or.inl ⟨by rfl, ?_⟩) hHeld ?_ ?_
                      rotate_left
                      · rintro w' ⟨s0, s1, s2, s3, s4, s5, s6, s7⟩
                        go_simp
                        with_reducible rfl
                      rotate_left
                      · simp only [Act.put, zSa, zSb, zSc, i64_w, i32_w]
                        rfl
                      refine take_ (i := 20) (N := some 105) (v := ?_) (a' := ?_) #[true, true, true, true, true, true, true, true, true, true, true, true, true, true, true, true, true, true, true, true, true, false, false, false, false, false, false, false] rfl rfl (take_ofW HT_.out HW_.out (by kernel_rfl)) (fun _ _ _ h => h) (Or.inl ⟨by rfl, ?_⟩) hHeld ?_ ?_
                      rotate_left
                      · rintro w' ⟨s0, s1, s2, s3, s4, s5, s6, s7⟩
                        go_simp
                        with_reducible rfl
                      rotate_left
                      · simp only [Act.put, zSa, zSb, zSc, i64_w, i32_w]
                        rfl
                      refine pure_ (i := 21) (N := some 106) (v := ?_) (a' := ?_) #[true, true, true, true, true, true, true, true, true, true, true, true, true, true, true, true, true, true, true, true, true, true, false, false, false, false, false, false] rfl rfl (any_of HT_.out (by kernel_rfl)) (fun _ _ _ h => h) (Or.inl ⟨by rfl, ?_⟩) ?_ ?_
                      rotate_left
                      · intro w'
                        go_simp
                        with_reducible rfl
                      rotate_left
                      · simp only [Act.put, zSa, zSb, zSc, i64_w, i32_w]
                        rfl
                      refine pure_ (i := 22) (N := some 107) (v := ?_) (a' := ?_) #[true, true, true, true, true, true, true, true, true, true, true, true, true, true, true, true, true, true, true, true, true, true, true, false, false, false, false, false] rfl rfl (any_of HT_.out (by kernel_rfl)) (fun _ _ _ h => h) (Or.inl ⟨by rfl, ?_⟩) ?_ ?_
                      rotate_left
                      · intro w'
                        go_simp
                        with_reducible rfl
                      rotate_left
                      · simp only [Act.put, zSa, zSb, zSc, i64_w, i32_w]
                        rfl
                      refine take_ (i := 23) (N := some 108) (v := ?_) (a' := ?_) #[true, true, true, true, true, true, true, true, true, true, true, true, true, true, true, true, true, true, true, true, true, true, true, true, false, false, false, false] rfl rfl (take_ofW HT_.out HW_.out (by kernel_rfl)) (fun _ _ _ h => h) (Or.inl ⟨by rfl, ?_⟩) hHeld ?_ ?_
                      rotate_left
                      · rintro w' ⟨s0, s1, s2, s3, s4, s5, s6, s7⟩
                        go_simp
                        with_reducible rfl
                      rotate_left
                      · simp only [Act.put, zSa, zSb, zSc, i64_w, i32_w]
                        rfl
                      refine pure_ (i := 24) (N := some 109) (v := ?_) (a' := ?_) #[true, true, true, true, true, true, true, true, true, true, true, true, true, true, true, true, true, true, true, true, true, true, true, true, true, false, false, false] rfl rfl (any_of HT_.out (by kernel_rfl)) (fun _ _ _ h => h) (Or.inl ⟨by rfl, ?_⟩) ?_ ?_
                      rotate_left
                      · intro w'
                        go_simp
                        with_reducible rfl
                      rotate_left
                      · simp only [Act.put, zSa, zSb, zSc, i64_w, i32_w]
                        rfl
                      refine pure_ (i := 25) (N := some 110) (v := ?_) (a' := ?_) #[true, true, true, true, true, true, true, true, true, true, true, true, true, true, true, true, true, true, true, true, true, true, true, true, true, true, false, false] rfl rfl (any_of HT_.out (by kernel_rfl)) (fun _ _ _ h => h) (Or.inl ⟨by rfl, ?_⟩) ?_ ?_
                      rotate_left
                      · intro w'
                        go_simp
                        with_reducible rfl
                      rotate_left
                      · simp only [Act.put, zSa, zSb, zSc, i64_w, i32_w]
                        rfl
                      refine pure_ (i := 26) (N := some 111) (v := ?_) (a' := ?_) #[true, true, true, true, true, true, true, true, true, true, true, true, true, true, true, true, true, true, true, true, true, true, true, true, true, true, true, false] rfl rfl (any_of HT_.out (by kernel_rfl)) (fun _ _ _ h => h) (Or.inl ⟨by rfl, ?_⟩) ?_ ?_
                      rotate_left
                      · intro w'
                        go_simp
                        with_reducible rfl
                      rotate_left
                      · simp only [Act.put, zSa, zSb, zSc, i64_w, i32_w]
                        rfl
                      refine pure_ (i := 27) (N := some 84) (v := ?_) (a' := ?_) #[true, true, true, true, true, true, true, true, true, true, true, true, true, true, true, true, true, true, true, true, true, true, true, true, true, true, true, true] rfl rfl (any_of HT_.out (by kernel_rfl)) (fun _ _ _ h => h) (Or.inl ⟨by rfl, ?_⟩) ?_ ?_
                      rotate_left
                      · intro w'
                        go_simp
                        with_reducible rfl
                      rotate_left
                      · simp only [Act.put, zSa, zSb, zSc, i64_w, i32_w]
                        rfl
                      refine done_ (done_of HT_.out (by kernel_rfl)) ?_
                      try go_wp2
                      (try simp only [← hl12_1])
                      go_roundg k1
                      case measure => have := HK1.out; omega
                      case rel => exact ⟨(wrap64 (x57_1 + 1)), (by first | rfl | (simp; done) | (simp [*]; done)), H', ⟨by have := HK1.out; omega⟩, ⟨by (try simp only [hl12_1]); exact uR HO_9.out⟩, ⟨by (try simp only [hl12_1]); exact uR HO_12.out⟩, ⟨by (try simp only [hl12_1]); exact uR HO_55.out⟩, ⟨by (try simp only [hl12_1]); (with_reducible repeat (first | refine zKn ?_ _ | refine zKd ?_ | refine zKa ?_ _)); exact BK113.out⟩, ⟨by exact uT HB.out⟩⟩
                    · rw [if_neg c49] at H
                      have c49b0 : ((rd t114 t129) == (wrap64 ((rd t114 x57_1) - ((rd_T39 l0_1 (rd l3 x57_1)).f2)))) = false := beq_eq_false_iff_ne.mpr c49
                      (try (have c49b0l := c49b0; simp only [hl12_1] at c49b0l))
                      have c49b1 : ((rd t114 t129) != (wrap64 ((rd t114 x57_1) - ((rd_T39 l0_1 (rd l3 x57_1)).f2)))) = true := bne_iff_ne.mpr c49
                      (try (have c49b1l := c49b1; simp only [hl12_1] at c49b1l))
                      obtain rfl := zOi H
                      have p127 : 0 ≤ (x57_1 : Int) := of_decide_eq_true (by assumption)
                      have q127 : x57_1 < (t114.length : Int) := of_decide_eq_true (by assumption)
                      obtain ⟨ad127, e127, hx127_0⟩ := zAi (zRr HO_55.out).2.2 x57_1 p127 q127
                      cases e127
                      replace p127 := eq_true p127
                      replace q127 := eq_true q127
                      try go_wp2
                      replace HO_9 := zMk (zRd HO_9.out)
                      replace HO_12 := zMk (zRd HO_12.out)
                      replace HO_55 := zMk (zRd HO_55.out)
                      replace BK113 := zMk (zKd BK113.out)
                      replace HB := zMk (zBd HB.out)
                      have p128 : 0 ≤ (x57_1 : Int) := of_decide_eq_true (by assumption)
                      have q128 : x57_1 < (l3.length : Int) := of_decide_eq_true (by assumption)
                      obtain ⟨ad128, e128, hx128_0⟩ := zAi HR3.out x57_1 p128 q128
                      have hw128_0 := hx128_0
                      obtain rfl : ad122 = ad128 := (by injection e128)
                      replace hx128_0 := (HB.out.cell (World.block_lt_of_cell? w _ hx128_0)).trans hx128_0
                      replace p128 := eq_true p128
                      replace q128 := eq_true q128
                      refine start_ (n := 12) (S := fun w' => w'.cell? ⟨gb113, 0, none⟩ = some (.int .i64 a0_0) ∧ w'.cell? ⟨gb113, 1, none⟩ = some (.slice A0_1 l0_1.length c0_1) ∧ w'.cell? (ad122.add (x57_1).toNat) = some (.int .i64 (rd l3 x57_1))) (ds := []) #[false, false, false, false, false, false, false, false, false, false, false, false] (by kernel_rfl) rfl rfl ⟨(zKc BK113.out 0).trans rfl, (zKc BK113.out 1).trans rfl, ((HB.out.cell (World.block_lt_of_cell? w _ hw128_0)).trans hw128_0)⟩ (fun hHeld => ?_); refine with_tabW paths_Check.tab13 paths_Check.bits13 (fun HT_ HW_ => ?_)
                      generalize wr.drew = w53 at HO_9 HO_12 HO_55 BK113 HB hx128_0 hHeld ⊢
                      refine pure_ (i := 1) (N := some 64) (v := ?_) (a' := ?_) #[false, true, false, false, false, false, false, false, false, false, false, false] rfl rfl (any_of HT_.out (by kernel_rfl)) (fun _ _ _ h => h) (Or.inl ⟨by rfl, ?_⟩) ?_ ?_
                      rotate_left
                      · intro w'
                        go_simp
                        with_reducible rfl
                      rotate_left
                      · simp only [Act.put, zSa, zSb, zSc, i64_w, i32_w]
                        rfl
                      refine pure_ (i := 2) (N := some 65) (v := ?_) (a' := ?_) #[false, true, true, false, false, false, false, false, false, false, false, false] rfl rfl (any_of HT_.out (by kernel_rfl)) (fun _ _ _ h => h) (Or.inl ⟨by rfl, ?_⟩) ?_ ?_
                      rotate_left
                      · intro w'
                        go_simp
                        with_reducible rfl
                      rotate_left
                      · simp only [Act.put, zSa, zSb, zSc, i64_w, i32_w]
                        rfl
                      refine pure_ (i := 3) (N := some 66) (v := ?_) (a' := ?_) #[false, true, true, true, false, false, false, false, false, false, false, false] rfl rfl (any_of HT_.out (by kernel_rfl)) (fun _ _ _ h => h) (Or.inl ⟨by rfl, ?_⟩) ?_ ?_
                      rotate_left
                      · intro w'
                        go_simp
                        with_reducible rfl
                      rotate_left
                      · simp only [Act.put, zSa, zSb, zSc, i64_w, i32_w]
                        rfl
                      refine pure_ (i := 5) (N := some 68) (v := ?_) (a' := ?_) #[false, true, true, true, false, true, false, false, false, false, false, false] rfl rfl (any_of HT_.out (by kernel_rfl)) (fun _ _ _ h => h) (Or.inl ⟨by rfl, ?_⟩) ?_ ?_
                      rotate_left
                      · intro w'
                        go_simp
                        with_reducible rfl
                      rotate_left
                      · simp only [Act.put, zSa, zSb, zSc, i64_w, i32_w]
                        rfl
                      refine take_ (i := 0) (N := some 63) (v := ?_) (a' := ?_) #[true, true, true, true, false, true, false, false, false, false, false, false] rfl rfl (take_ofW HT_.out HW_.out (by kernel_rfl)) (fun _ _ _ h => h) (Or.inl ⟨by rfl, ?_⟩) hHeld ?_ ?_
                      rotate_left
                      · rintro w' ⟨s0, s1, s2⟩
                        go_simp
                        with_reducible rfl
                      rotate_left
                      · simp only [Act.put, zSa, zSb, zSc, i64_w, i32_w]
                        rfl
                      refine take_ (i := 4) (N := some 67) (v := ?_) (a' := ?_) #[true, true, true, true, true, true, false, false, false, false, false, false] rfl rfl (take_ofW HT_.out HW_.out (by kernel_rfl)) (fun _ _ _ h => h) (Or.inl ⟨by rfl, ?_⟩) hHeld ?_ ?_
                      rotate_left
                      · rintro w' ⟨s0, s1, s2⟩
                        go_simp
                        with_reducible rfl
                      rotate_left
                      · simp only [Act.put, zSa, zSb, zSc, i64_w, i32_w]
                        rfl
                      refine one_ (i := 6) (N := some 69) #[true, true, true, true, true, true, true, false, false, false, false, false] rfl rfl (one_of HT_.out (by kernel_rfl)) (by decide) (fun K hK => ?_)
                      refine goes_ Try.func25 (by kernel_rfl) rfl #[.agg #[.int .i64 a0_0, .slice A0_1 l0_1.length c0_1], .int .i64 (rd l3 x57_1), .int .i64 x57_1] (by rfl) rfl rfl (by (try simp only [zMa, zMc, zMn]); first | done | rfl | (simp only [zLd, zLt]; rfl)) ?_
                      with_reducible refine (paths_other.calls k1 a0_0 _ _ l0_1 (rd l3 x57_1) x57_1 t129 true _ ?side1 ?side2 A30.out).mono ?_
                      (case side1 => repeat (first | exact (Kd.C_below HR0_1.out HB.out) | (with_reducible refine zCa ?_ _) | (with_reducible refine zCn ?_ _) | (with_reducible refine zCd ?_)))
                      (case side2 => exact HC0_1.out)
                      rintro e w54 ⟨rfl, hb⟩
                      refine ⟨_, rfl, ?_⟩
                      replace HO_9 := zMk (zRb (by exact uR HO_9.out) hb)
                      replace HO_12 := zMk (zRb (by exact uR HO_12.out) hb)
                      replace HO_55 := zMk (zRb (by exact uR HO_55.out) hb)
                      replace BK113 := zMk (zKb (g := gb113) (o := .cells #[.int .i64 a0_0, .slice A0_1 l0_1.length c0_1] 24 (0, 0)) (by (with_reducible repeat (first | refine zKn ?_ _ | refine zKd ?_ | refine zKa ?_ _)); exact BK113.out) hb)
                      replace HB := zMk (zBt (by exact uT HB.out) hb)
                      refine hK.out _ _ ⟨(zKc BK113.out 0).trans rfl, (zKc BK113.out 1).trans rfl, ((HB.out.cell (World.block_lt_of_cell? w _ hw128_0)).trans hw128_0)⟩ (fun hHeld => ?_)
                      clear hK K
                      refine norm_ (a' := ?_) ?_ ?_
                      rotate_left
                      · show Act.put _ (some 69) _ = _
                        simp only [Act.put, zSa, zSb, zSc, i64_w, i32_w]
                        rfl
                      refine pure_ (i := 7) (N := some 62) (v := ?_) (a' := ?_) #[true, true, true, true, true, true, true, true, false, false, false, false] rfl rfl (any_of HT_.out (by kernel_rfl)) (fun _ _ _ h => h) (Or.inl ⟨by rfl, ?_⟩) ?_ ?_
                      rotate_left
                      · intro w'
                        go_simp
                        with_reducible rfl
                      rotate_left
                      · simp only [Act.put, zSa, zSb, zSc, i64_w, i32_w]
                        rfl
                      refine pure_ (i := 8) (N := some 70) (v := ?_) (a' := ?_) #[true, true, true, true, true, true, true, true, true, false, false, false] rfl rfl (any_of HT_.out (by kernel_rfl)) (fun _ _ _ h => h) (Or.inl ⟨by rfl, ?_⟩) ?_ ?_
                      rotate_left
                      · intro w'
                        go_simp
                        with_reducible rfl
                      rotate_left
                      · simp only [Act.put, zSa, zSb, zSc, i64_w, i32_w]
                        rfl
                      refine pure_ (i := 9) (N := some 71) (v := ?_) (a' := ?_) #[true, true, true, true, true, true, true, true, true, true, false, false] rfl rfl (any_of HT_.out (by kernel_rfl)) (fun _ _ _ h => h) (Or.inl ⟨by rfl, ?_⟩) ?_ ?_
                      rotate_left
                      · intro w'
                        go_simp
                        with_reducible rfl
                      rotate_left
                      · simp only [Act.put, zSa, zSb, zSc, i64_w, i32_w]
                        rfl
                      refine pure_ (i := 10) (N := some 15) (v := ?_) (a' := ?_) #[true, true, true, true, true, true, true, true, true, true, true, false] rfl rfl (any_of HT_.out (by kernel_rfl)) (fun _ _ _ h => h) (Or.inl ⟨by rfl, ?_⟩) ?_ ?_
                      rotate_left
                      · intro w'
                        go_simp
                        with_reducible rfl
                      rotate_left
                      · simp only [Act.put, zSa, zSb, zSc, i64_w, i32_w]
                        rfl
                      refine pure_ (i := 11) (N := some 16) (v := ?_) (a' := ?_) #[true, true, true, true, true, true, true, true, true, true, true, true] rfl rfl (any_of HT_.out (by kernel_rfl)) (fun _ _ _ h => h) (Or.inl ⟨by rfl, ?_⟩) ?_ ?_
                      rotate_left
                      · intro w'
                        go_simp
                        with_reducible rfl
                      rotate_left
                      · simp only [Act.put, zSa, zSb, zSc, i64_w, i32_w]
                        rfl
                      refine done_ (done_of HT_.out (by kernel_rfl)) ?_
                      try go_wp2
                      replace HO_9 := zMk (zRd HO_9.out)
                      replace HO_12 := zMk (zRd HO_12.out)
                      replace HO_55 := zMk (zRd HO_55.out)
                      replace BK113 := zMk (zKd BK113.out)
                      replace HB := zMk (zBd HB.out)
                      have p132 : 0 ≤ (t129 : Int) := of_decide_eq_true (by assumption)
                      have q132 : t129 < (t114.length : Int) := of_decide_eq_true (by assumption)
                      obtain ⟨ad132, e132, hx132_0⟩ := zAi (zRr HO_9.out).2.2 t129 p132 q132
                      obtain rfl : ad127 = ad132 := (by injection e132)
                      replace p132 := eq_true p132
                      replace q132 := eq_true q132
                      have p133 : 0 ≤ (t129 : Int) := of_decide_eq_true (by assumption)
                      have q133 : t129 < (t114.length : Int) := of_decide_eq_true (by assumption)
                      obtain ⟨ad133, e133, hx133_0⟩ := zAi (zRr HO_9.out).2.2 t129 p133 q133
                      obtain rfl : ad127 = ad133 := (by injection e133)
                      replace p133 := eq_true p133
                      replace q133 := eq_true q133
                      have p134 : 0 ≤ (x57_1 : Int) := of_decide_eq_true (by assumption)
                      have q134 : x57_1 < (l3.length : Int) := of_decide_eq_true (by assumption)
                      obtain ⟨ad134, e134, hx134_0⟩ := zAi HR3.out x57_1 p134 q134
                      have hw134_0 := hx134_0
                      obtain rfl : ad122 = ad134 := (by injection e134)
                      replace hx134_0 := (HB.out.cell (World.block_lt_of_cell? w _ hx134_0)).trans hx134_0
                      replace p134 := eq_true p134
                      replace q134 := eq_true q134
                      have p135 : 0 ≤ ((rd l3 x57_1) : Int) := of_decide_eq_true (by assumption)
                      have q135 : (rd l3 x57_1) < (l0_1.length : Int) := of_decide_eq_true (by assumption)
                      obtain ⟨ad135, e135, hx135_0, hx135_1, hx135_2⟩ := at_T39 HR0_1.out (rd l3 x57_1) p135 q135
                      have hw135_2 := hx135_2
                      have hw135_1 := hx135_1
                      have hw135_0 := hx135_0
                      cases e135
                      replace hx135_0 := (HB.out.cell (World.block_lt_of_cell? w _ hx135_0)).trans hx135_0
                      replace hx135_1 := (HB.out.cell (World.block_lt_of_cell? w _ hx135_1)).trans hx135_1
                      replace hx135_2 := (HB.out.cell (World.block_lt_of_cell? w _ hx135_2)).trans hx135_2
                      replace p135 := eq_true p135
                      replace q135 := eq_true q135
                      refine start_ (n := 28) (S := fun w' => w'.cell? ⟨gb113, 0, none⟩ = some (.int .i64 a0_0) ∧ w'.cell? ⟨gb113, 1, none⟩ = some (.slice (some ad135) l0_1.length c0_1) ∧ w'.cell? (ad127.add (t129).toNat) = some (.int .i64 (rd t114 t129)) ∧ w'.cell? (ad127.add (t129).toNat) = some (.int .i64 (rd t114 t129)) ∧ w'.cell? (ad122.add (x57_1).toNat) = some (.int .i64 (rd l3 x57_1)) ∧ w'.cell? (ad135.add (((rd l3 x57_1)).toNat * 3)) = some (.int .i64 ((rd_T39 l0_1 (rd l3 x57_1)).f0)) ∧ w'.cell? ⟨(ad135.add (((rd l3 x57_1)).toNat * 3)).block, (ad135.add (((rd l3 x57_1)).toNat * 3)).off + 1, none⟩ = some (.int .i64 ((rd_T39 l0_1 (rd l3 x57_1)).f1)) ∧ w'.cell? ⟨(ad135.add (((rd l3 x57_1)).toNat * 3)).block, (ad135.add (((rd l3 x57_1)).toNat * 3)).off + 2, none⟩ = some (.int .i64 ((rd_T39 l0_1 (rd l3 x57_1)).f2))) (ds := []) #[false, false, false, false, false, false, false, false, false, false, false, false, false, false, false, false, false, false, false, false, false, false, false, false, false, false, false, false] (by kernel_rfl) rfl rfl ⟨(zKc BK113.out 0).trans rfl, (zKc BK113.out 1).trans rfl, hx132_0, hx133_0, ((HB.out.cell (World.block_lt_of_cell? w _ hw134_0)).trans hw134_0), ((HB.out.cell (World.block_lt_of_cell? w _ hw135_0)).trans hw135_0), ((HB.out.cell (World.block_lt_of_cell? w _ hw135_1)).trans hw135_1), ((HB.out.cell (World.block_lt_of_cell? w _ hw135_2)).trans hw135_2)⟩ (fun hHeld => ?_); refine with_tabW paths_Check.tab18 paths_Check.bits18 (fun HT_ HW_ => ?_)
                      generalize w54.drew = w55 at HO_9 HO_12 HO_55 BK113 HB hx132_0 hx133_0 hx134_0 hx135_0 hx135_1 hx135_2 hHeld ⊢
                      refine pure_ (i := 0) (N := some 85) (v := ?_) (a' := ?_) #[true, false, false, false, false, false, false, false, false, false, false, false, false, false, false, false, false, false, false, false, false, false, false, false, false, false, false, false] rfl rfl (any_of HT_.out (by kernel_rfl)) (fun _ _ _ h => h) (Or.inl ⟨by rfl, ?_⟩) ?_ ?_
                      rotate_left
                      · intro w'
                        go_simp
                        with_reducible rfl
                      rotate_left
                      · simp only [Act.put, zSa, zSb, zSc, i64_w, i32_w]
                        rfl
                      refine pure_ (i := 1) (N := some 86) (v := ?_) (a' := ?_) #[true, true, false, false, false, false, false, false, false, false, false, false, false, false, false, false, false, false, false, false, false, false, false, false, false, false, false, false] rfl rfl (any_of HT_.out (by kernel_rfl)) (fun _ _ _ h => h) (Or.inl ⟨by rfl, ?_⟩) ?_ ?_
                      rotate_left
                      · intro w'
                        go_simp
                        with_reducible rfl
                      rotate_left
                      · simp only [Act.put, zSa, zSb, zSc, i64_w, i32_w]
                        rfl
                      refine pure_ (i := 2) (N := some 87) (v := ?_) (a' := ?_) #[true, true, true, false, false, false, false, false, false, false, false, false, false, false, false, false, false, false, false, false, false, false, false, false, false, false, false, false] rfl rfl (any_of HT_.out (by kernel_rfl)) (fun _ _ _ h => h) (Or.inl ⟨by rfl, ?_⟩) ?_ ?_
                      rotate_left
                      · intro w'
                        go_simp
                        with_reducible rfl
                      rotate_left
                      · simp only [Act.put, zSa, zSb, zSc, i64_w, i32_w]
                        rfl
                      refine pure_ (i := 3) (N := some 88) (v := ?_) (a' := ?_) #[true, true, true, true, false, false, false, false, false, false, false, false, false, false, false, false, false, false, false, false, false, false, false, false, false, false, false, false] rfl rfl (any_of HT_.out (by kernel_rfl)) (fun _ _ _ h => h) (Or.inl ⟨by rfl, ?_⟩) ?_ ?_
                      rotate_left
                      · intro w'
                        go_simp
                        with_reducible rfl
                      rotate_left
                      · simp only [Act.put, zSa, zSb, zSc, i64_w, i32_w]
                        rfl
                      refine pure_ (i := 4) (N := some 89) (v := ?_) (a' := ?_) #[true, true, true, true, true, false, false, false, false, false, false, false, false, false, false, false, false, false, false, false, false, false, false, false, false, false, false, false] rfl rfl (any_of HT_.out (by kernel_rfl)) (fun _ _ _ h => h) (Or.inl ⟨by rfl, ?_⟩) ?_ ?_
                      rotate_left
                      · intro w'
                        go_simp
                        with_reducible rfl
                      rotate_left
                      · simp only [Act.put, zSa, zSb, zSc, i64_w, i32_w]
                        rfl
                      refine pure_ (i := 5) (N := some 90) (v := ?_) (a' := ?_) #[true, true, true, true, true, true, false, false, false, false, false, false, false, false, false, false, false, false, false, false, false, false, false, false, false, false, false, false] rfl rfl (any_of HT_.out (by kernel_rfl)) (fun _ _ _ h => h) (Or.inl ⟨by rfl, ?_⟩) ?_ ?_
                      rotate_left
                      · intro w'
                        go_simp
                        with_reducible rfl
                      rotate_left
                      · simp only [Act.put, zSa, zSb, zSc, i64_w, i32_w]
                        rfl
                      refine take_ (i := 6) (N := some 91) (v := ?_) (a' := ?_) #[true, true, true, true, true, true, true, false, false, false, false, false, false, false, false, false, false, false, false, false, false, false, false, false, false, false, false, false] rfl rfl (take_ofW HT_.out HW_.out (by kernel_rfl)) (fun _ _ _ h => h) (Or.inl ⟨by rfl, ?_⟩) hHeld ?_ ?_
                      rotate_left
                      · rintro w' ⟨s0, s1, s2, s3, s4, s5, s6, s7⟩
                        go_simp
                        with_reducible rfl
                      rotate_left
                      · simp only [Act.put, zSa, zSb, zSc, i64_w, i32_w]
                        rfl
                      refine pure_ (i := 7) (N := some 92) (v := ?_) (a' := ?_) #[true, true, true, true, true, true, true, true, false, false, false, false, false, false, false, false, false, false, false, false, false, false, false, false, false, false, false, false] rfl rfl (any_of HT_.out (by kernel_rfl)) (fun _ _ _ h => h) (Or.inl ⟨by rfl, ?_⟩) ?_ ?_
                      rotate_left
                      · intro w'
                        go_simp
                        with_reducible rfl
                      rotate_left
                      · simp only [Act.put, zSa, zSb, zSc, i64_w, i32_w]
                        rfl
                      refine pure_ (i := 8) (N := some 93) (v := ?_) (a' := ?_) #[true, true, true, true, true, true, true, true, true, false, false, false, false, false, false, false, false, false, false, false, false, false, false, false, false, false, false, false] rfl rfl (any_of HT_.out (by kernel_rfl)) (fun _ _ _ h => h) (Or.inl ⟨by rfl, ?_⟩) ?_ ?_
                      rotate_left
                      · intro w'
                        go_simp
                        with_reducible rfl
                      rotate_left
                      · simp only [Act.put, zSa, zSb, zSc, i64_w, i32_w]
                        rfl
                      refine pure_ (i := 9) (N := some 94) (v := ?_) (a' := ?_) #[true, true, true, true, true, true, true, true, true, true, false, false, false, false, false, false, false, false, false, false, false, false, false, false, false, false, false, false] rfl rfl (any_of HT_.out (by kernel_rfl)) (fun _ _ _ h => h) (Or.inl ⟨by rfl, ?_⟩) ?_ ?_
                      rotate_left
                      · intro w'
                        go_simp
                        with_reducible rfl
                      rotate_left
                      · simp only [Act.put, zSa, zSb, zSc, i64_w, i32_w]
                        rfl
                      refine pure_ (i := 10) (N := some 95) (v := ?_) (a' := ?_) #[true, true, true, true, true, true, true, true, true, true, true, false, false, false, false, false, false, false, false, false, false, false, false, false, false, false, false, false] rfl rfl (any_of HT_.out (by kernel_rfl)) (fun _ _ _ h => h) (Or.inl ⟨by rfl, ?_⟩) ?_ ?_
                      rotate_left
                      · intro w'
                        go_simp
                        with_reducible rfl
                      rotate_left
                      · simp only [Act.put, zSa, zSb, zSc, i64_w, i32_w]
                        rfl
                      refine pure_ (i := 11) (N := some 96) (v := ?_) (a' := ?_) #[true, true, true, true, true, true, true, true, true, true, true, true, false, false, false, false, false, false, false, false, false, false, false, false, false, false, false, false] rfl rfl (any_of HT_.out (by kernel_rfl)) (fun _ _ _ h => h) (Or.inl ⟨by rfl, ?_⟩) ?_ ?_
                      rotate_left
                      · intro w'
                        go_simp
                        with_reducible rfl
                      rotate_left
                      · simp only [Act.put, zSa, zSb, zSc, i64_w, i32_w]
                        rfl
                      refine pure_ (i := 12) (N := some 97) (v := ?_) (a' := ?_) #[true, true, true, true, true, true, true, true, true, true, true, true, true, false, false, false, false, false, false, false, false, false, false, false, false, false, false, false] rfl rfl (any_of HT_.out (by kernel_rfl)) (fun _ _ _ h => h) (Or.inl ⟨by rfl, ?_⟩) ?_ ?_
                      rotate_left
                      · intro w'
                        go_simp
                        with_reducible rfl
                      rotate_left
                      · simp only [Act.put, zSa, zSb, zSc, i64_w, i32_w]
                        rfl
                      refine pure_ (i := 14) (N := some 99) (v := ?_) (a' := ?_) #[true, true, true, true, true, true, true, true, true, true, true, true, true, false, true, false, false, false, false, false, false, false, false, false, false, false, false, false] rfl rfl (any_of HT_.out (by kernel_rfl)) (fun _ _ _ h => h) (Or.inl ⟨by rfl, ?_⟩) ?_ ?_
                      rotate_left
                      · intro w'
                        go_simp
                        with_reducible rfl
                      rotate_left
                      · simp only [Act.put, zSa, zSb, zSc, i64_w, i32_w]
                        rfl
                      refine pure_ (i := 15) (N := some 100) (v := ?_) (a' := ?_) #[true, true, true, true, true, true, true, true, true, true, true, true, true, false, true, true, false, false, false, false, false, false, false, false, false, false, false, false] rfl rfl (any_of HT_.out (by kernel_rfl)) (fun _ _ _ h => h) (Or.inl ⟨by rfl, ?_⟩) ?_ ?_
                      rotate_left
                      · intro w'
                        go_simp
                        with_reducible rfl
                      rotate_left
                      · simp only [Act.put, zSa, zSb, zSc, i64_w, i32_w]
                        rfl
                      refine pure_ (i := 17) (N := some 102) (v := ?_) (a' := ?_) #[true, true, true, true, true, true, true, true, true, true, true, true, true, false, true, true, false, true, false, false, false, false, false, false, false, false, false, false] rfl rfl (any_of HT_.out (by kernel_rfl)) (fun _ _ _ h => h) (Or.inl ⟨by rfl, ?_⟩) ?_ ?_
                      rotate_left
                      · intro w'
                        go_simp
                        with_reducible rfl
                      rotate_left
                      · simp only [Act.put, zSa, zSb, zSc, i64_w, i32_w]
                        rfl
                      refine pure_ (i := 18) (N := some 103) (v := ?_) (a' := ?_) #[true, true, true, true, true, true, true, true, true, true, true, true, true, false, true, true, false, true, true, false, false, false, false, false, false, false, false, false] rfl rfl (any_of HT_.out (by kernel_rfl)) (fun _ _ _ h => h) (Or.inl ⟨by rfl, ?_⟩) ?_ ?_
                      rotate_left
                      · intro w'
                        go_simp
                        with_reducible rfl
                      rotate_left
                      · simp only [Act.put, zSa, zSb, zSc, i64_w, i32_w]
                        rfl
                      refine pure_ (i := 19) (N := some 104) (v := ?_) (a' := ?_) #[true, true, true, true, true, true, true, true, true, true, true, true, true, false, true, true, false, true, true, true, false, false, false, false, false, false, false, false] rfl rfl (any_of HT_.out (by kernel_rfl)) (fun _ _ _ h => h) (Or.inl ⟨by rfl, ?_⟩) ?_ ?_
                      rotate_left
                      · intro w'
                        go_simp
                        with_reducible rfl
                      rotate_left
                      · simp only [Act.put, zSa, zSb, zSc, i64_w, i32_w]
                        rfl
                      refine take_ (i := 13) (N := some 98) (v := ?_) (a' := ?_) #[true, true, true, true, true, true, true, true, true, true, true, true, true, true, true, true, false, true, true, true, false, false, false, false, false, false, false, false] rfl rfl (take_ofW HT_.out HW_.out (by kernel_rfl)) (fun _ _ _ h => h) (Or.inl ⟨by rfl, ?_⟩) hHeld ?_ ?_
                      rotate_left
                      · rintro w' ⟨s0, s1, s2, s3, s4, s5, s6, s7⟩
                        go_simp
                        with_reducible rfl
                      rotate_left
                      · simp only [Act.put, zSa, zSb, zSc, i64_w, i32_w]
                        rfl
                      refine take_ (i := 16) (N := some 101) (v := ?_) (a' := ?_) #[true, true, true, true, true, true, true, true, true, true, true, true, true, true, true, true, true, true, true, true, false, false, false, false, false, false, false, false] rfl rfl (take_ofW HT_.out HW_.out (by kernel_rfl)) (fun _ _ _ h => h) (Or.inl ⟨by rfl, ?_⟩) hHeld ?_ ?_
                      rotate_left
                      · rintro w' ⟨s0, s1, s2, s3, s4, s5, s6, s7⟩
                        go_simp
                        with_reducible rfl
                      rotate_left
                      · simp only [Act.put, zSa, zSb, zSc, i64_w, i32_w]
                        rfl
                      refine take_ (i := 20) (N := some 105) (v := ?_) (a' := ?_) #[true, true, true, true, true, true, true, true, true, true, true, true, true, true, true, true, true, true, true, true, true, false, false, false, false, false, false, false] rfl rfl (take_ofW HT_.out HW_.out (by kernel_rfl)) (fun _ _ _ h => h) (Or.inl ⟨by rfl, ?_⟩) hHeld ?_ ?_
                      rotate_left
                      · rintro w' ⟨s0, s1, s2, s3, s4, s5, s6, s7⟩
                        go_simp
                        with_reducible rfl
                      rotate_left
                      · simp only [Act.put, zSa, zSb, zSc, i64_w, i32_w]
                        rfl
                      refine pure_ (i := 21) (N := some 106) (v := ?_) (a' := ?_) #[true, true, true, true, true, true, true, true, true, true, true, true, true, true, true, true, true, true, true, true, true, true, false, false, false, false, false, false] rfl rfl (any_of HT_.out (by kernel_rfl)) (fun _ _ _ h => h) (Or.inl ⟨by rfl, ?_⟩) ?_ ?_
                      rotate_left
                      · intro w'
                        go_simp
                        with_reducible rfl
                      rotate_left
                      · simp only [Act.put, zSa, zSb, zSc, i64_w, i32_w]
                        rfl
                      refine pure_ (i := 22) (N := some 107) (v := ?_) (a' := ?_) #[true, true, true, true, true, true, true, true, true, true, true, true, true, true, true, true, true, true, true, true, true, true, true, false, false, false, false, false] rfl rfl (any_of HT_.out (by kernel_rfl)) (fun _ _ _ h => h) (Or.inl ⟨by rfl, ?_⟩) ?_ ?_
                      rotate_left
                      · intro w'
                        go_simp
                        with_reducible rfl
                      rotate_left
                      · simp only [Act.put, zSa, zSb, zSc, i64_w, i32_w]
                        rfl
                      refine take_ (i := 23) (N := some 108) (v := ?_) (a' := ?_) #[true, true, true, true, true, true, true, true, true, true, true, true, true, true, true, true, true, true, true, true, true, true, true, true, false, false, false, false] rfl rfl (take_ofW HT_.out HW_.out (by kernel_rfl)) (fun _ _ _ h => h) (Or.inl ⟨by rfl, ?_⟩) hHeld ?_ ?_
                      rotate_left
                      · rintro w' ⟨s0, s1, s2, s3, s4, s5, s6, s7⟩
                        go_simp
                        with_reducible rfl
                      rotate_left
                      · simp only [Act.put, zSa, zSb, zSc, i64_w, i32_w]
                        rfl
                      refine pure_ (i := 24) (N := some 109) (v := ?_) (a' := ?_) #[true, true, true, true, true, true, true, true, true, true, true, true, true, true, true, true, true, true, true, true, true, true, true, true, true, false, false, false] rfl rfl (any_of HT_.out (by kernel_rfl)) (fun _ _ _ h => h) (Or.inl ⟨by rfl, ?_⟩) ?_ ?_
                      rotate_left
                      · intro w'
                        go_simp
                        with_reducible rfl
                      rotate_left
                      · simp only [Act.put, zSa, zSb, zSc, i64_w, i32_w]
                        rfl
                      refine pure_ (i := 25) (N := some 110) (v := ?_) (a' := ?_) #[true, true, true, true, true, true, true, true, true, true, true, true, true, true, true, true, true, true, true, true, true, true, true, true, true, true, false, false] rfl rfl (any_of HT_.out (by kernel_rfl)) (fun _ _ _ h => h) (Or.inl ⟨by rfl, ?_⟩) ?_ ?_
                      rotate_left
                      · intro w'
                        go_simp
                        with_reducible rfl
                      rotate_left
                      · simp only [Act.put, zSa, zSb, zSc, i64_w, i32_w]
                        rfl
                      refine pure_ (i := 26) (N := some 111) (v := ?_) (a' := ?_) #[true, true, true, true, true, true, true, true, true, true, true, true, true, true, true, true, true, true, true, true, true, true, true, true, true, true, true, false] rfl rfl (any_of HT_.out (by kernel_rfl)) (fun _ _ _ h => h) (Or.inl ⟨by rfl, ?_⟩) ?_ ?_
                      rotate_left
                      · intro w'
                        go_simp
                        with_reducible rfl
                      rotate_left
                      · simp only [Act.put, zSa, zSb, zSc, i64_w, i32_w]
                        rfl
                      refine pure_ (i := 27) (N := some 84) (v := ?_) (a' := ?_) #[true, true, true, true, true, true, true, true, true, true, true, true, true, true, true, true, true, true, true, true, true, true, true, true, true, true, true, true] rfl rfl (any_of HT_.out (by kernel_rfl)) (fun _ _ _ h => h) (Or.inl ⟨by rfl, ?_⟩) ?_ ?_
                      rotate_left
                      · intro w'
                        go_simp
                        with_reducible rfl
                      rotate_left
                      · simp only [Act.put, zSa, zSb, zSc, i64_w, i32_w]
                        rfl
                      refine done_ (done_of HT_.out (by kernel_rfl)) ?_
                      try go_wp2
                      go_ret
                      exact ⟨by first | rfl | (simp [errW_none, errW_some] <;> rfl) | (simp [*, errW_none, errW_some] <;> rfl), by exact uT HB.out⟩
                · replace c40 := Bool.eq_false_iff.mpr c40
                  subst c40
                  replace H : (some 13) = some r := by rw [if_neg (show ¬ (false = true) by decide)] at H; exact H
                  obtain rfl := zOi H
                  have p127 : 0 ≤ (x57_1 : Int) := of_decide_eq_true (by assumption)
                  have q127 : x57_1 < (t114.length : Int) := of_decide_eq_true (by assumption)
                  obtain ⟨ad127, e127, hx127_0⟩ := zAi (zRr HO_55.out).2.2 x57_1 p127 q127
                  cases e127
                  replace p127 := eq_true p127
                  replace q127 := eq_true q127
                  try go_wp2
                  replace HO_9 := zMk (zRd HO_9.out)
                  replace HO_12 := zMk (zRd HO_12.out)
                  replace HO_55 := zMk (zRd HO_55.out)
                  replace BK113 := zMk (zKd BK113.out)
                  replace HB := zMk (zBd HB.out)
                  have p128 : 0 ≤ (x57_1 : Int) := of_decide_eq_true (by assumption)
                  have q128 : x57_1 < (l3.length : Int) := of_decide_eq_true (by assumption)
                  obtain ⟨ad128, e128, hx128_0⟩ := zAi HR3.out x57_1 p128 q128
                  have hw128_0 := hx128_0
                  obtain rfl : ad122 = ad128 := (by injection e128)
                  replace hx128_0 := (HB.out.cell (World.block_lt_of_cell? w _ hx128_0)).trans hx128_0
                  replace p128 := eq_true p128
                  replace q128 := eq_true q128
                  refine start_ (n := 12) (S := fun w' => w'.cell? ⟨gb113, 0, none⟩ = some (.int .i64 a0_0) ∧ w'.cell? ⟨gb113, 1, none⟩ = some (.slice A0_1 l0_1.length c0_1) ∧ w'.cell? (ad122.add (x57_1).toNat) = some (.int .i64 (rd l3 x57_1))) (ds := []) #[false, false, false, false, false, false, false, false, false, false, false, false] (by kernel_rfl) rfl rfl ⟨(zKc BK113.out 0).trans rfl, (zKc BK113.out 1).trans rfl, ((HB.out.cell (World.block_lt_of_cell? w _ hw128_0)).trans hw128_0)⟩ (fun hHeld => ?_); refine with_tabW paths_Check.tab13 paths_Check.bits13 (fun HT_ HW_ => ?_)
                  generalize wr.drew = w56 at HO_9 HO_12 HO_55 BK113 HB hx128_0 hHeld ⊢
                  refine pure_ (i := 1) (N := some 64) (v := ?_) (a' := ?_) #[false, true, false, false, false, false, false, false, false, false, false, false] rfl rfl (any_of HT_.out (by kernel_rfl)) (fun _ _ _ h => h) (Or.inl ⟨by rfl, ?_⟩) ?_ ?_
                  rotate_left
                  · intro w'
                    go_simp
                    with_reducible rfl
                  rotate_left
                  · simp only [Act.put, zSa, zSb, zSc, i64_w, i32_w]
                    rfl
                  refine pure_ (i := 2) (N := some 65) (v := ?_) (a' := ?_) #[false, true, true, false, false, false, false, false, false, false, false, false] rfl rfl (any_of HT_.out (by kernel_rfl)) (fun _ _ _ h => h) (Or.inl ⟨by rfl, ?_⟩) ?_ ?_
                  rotate_left
                  · intro w'
                    go_simp
                    with_reducible rfl
                  rotate_left
                  · simp only [Act.put, zSa, zSb, zSc, i64_w, i32_w]
                    rfl
                  refine pure_ (i := 3) (N := some 66) (v := ?_) (a' := ?_) #[false, true, true, true, false, false, false, false, false, false, false, false] rfl rfl (any_of HT_.out (by kernel_rfl)) (fun _ _ _ h => h) (Or.inl ⟨by rfl, ?_⟩) ?_ ?_
                  rotate_left
                  · intro w'
                    go_simp
                    with_reducible rfl
                  rotate_left
                  · simp only [Act.put, zSa, zSb, zSc, i64_w, i32_w]
                    rfl
                  refine pure_ (i := 5) (N := some 68) (v := ?_) (a' := ?_) #[false, true, true, true, false, true, false, false, false, false, false, false] rfl rfl (any_of HT_.out (by kernel_rfl)) (fun _ _ _ h => h) (Or.inl ⟨by rfl, ?_⟩) ?_ ?_
                  rotate_left
                  · intro w'
                    go_simp
                    with_reducible rfl
                  rotate_left
                  · simp only [Act.put, zSa, zSb, zSc, i64_w, i32_w]
                    rfl
                  refine take_ (i := 0) (N := some 63) (v := ?_) (a' := ?_) #[true, true, true, true, false, true, false, false, false, false, false, false] rfl rfl (take_ofW HT_.out HW_.out (by kernel_rfl)) (fun _ _ _ h => h) (Or.inl ⟨by rfl, ?_⟩) hHeld ?_ ?_
                  rotate_left
                  · rintro w' ⟨s0, s1, s2⟩
                    go_simp
                    with_reducible rfl
                  rotate_left
                  · simp only [Act.put, zSa, zSb, zSc, i64_w, i32_w]
                    rfl
                  refine take_ (i := 4) (N := some 67) (v := ?_) (a' := ?_) #[true, true, true, true, true, true, false, false, false, false, false, false] rfl rfl (take_ofW HT_.out HW_.out (by kernel_rfl)) (fun _ _ _ h => h) (Or.inl ⟨by rfl, ?_⟩) hHeld ?_ ?_
                  rotate_left
                  · rintro w' ⟨s0, s1, s2⟩
                    go_simp
                    with_reducible rfl
                  rotate_left
                  · simp only [Act.put, zSa, zSb, zSc, i64_w, i32_w]
                    rfl
                  refine one_ (i := 6) (N := some 69) #[true, true, true, true, true, true, true, false, false, false, false, false] rfl rfl (one_of HT_.out (by kernel_rfl)) (by decide) (fun K hK => ?_)
                  refine goes_ Try.func25 (by kernel_rfl) rfl #[.agg #[.int .i64 a0_0, .slice A0_1 l0_1.length c0_1], .int .i64 (rd l3 x57_1), .int .i64 x57_1] (by rfl) rfl rfl (by (try simp only [zMa, zMc, zMn]); first | done | rfl | (simp only [zLd, zLt]; rfl)) ?_
                  with_reducible refine (paths_other.calls k1 a0_0 _ _ l0_1 (rd l3 x57_1) x57_1 t129 false _ ?side1 ?side2 A30.out).mono ?_
                  (case side1 => repeat (first | exact (Kd.C_below HR0_1.out HB.out) | (with_reducible refine zCa ?_ _) | (with_reducible refine zCn ?_ _) | (with_reducible refine zCd ?_)))
                  (case side2 => exact HC0_1.out)
                  rintro e w57 ⟨rfl, hb⟩
                  refine ⟨_, rfl, ?_⟩
                  replace HO_9 := zMk (zRb (by exact uR HO_9.out) hb)
                  replace HO_12 := zMk (zRb (by exact uR HO_12.out) hb)
                  replace HO_55 := zMk (zRb (by exact uR HO_55.out) hb)
                  replace BK113 := zMk (zKb (g := gb113) (o := .cells #[.int .i64 a0_0, .slice A0_1 l0_1.length c0_1] 24 (0, 0)) (by (with_reducible repeat (first | refine zKn ?_ _ | refine zKd ?_ | refine zKa ?_ _)); exact BK113.out) hb)
                  replace HB := zMk (zBt (by exact uT HB.out) hb)
                  refine hK.out _ _ ⟨(zKc BK113.out 0).trans rfl, (zKc BK113.out 1).trans rfl, ((HB.out.cell (World.block_lt_of_cell? w _ hw128_0)).trans hw128_0)⟩ (fun hHeld => ?_)
                  clear hK K
                  refine norm_ (a' := ?_) ?_ ?_
                  rotate_left
                  · show Act.put _ (some 69) _ = _
                    simp only [Act.put, zSa, zSb, zSc, i64_w, i32_w]
                    rfl
                  refine pure_ (i := 7) (N := some 62) (v := ?_) (a' := ?_) #[true, true, true, true, true, true, true, true, false, false, false, false] rfl rfl (any_of HT_.out (by kernel_rfl)) (fun _ _ _ h => h) (Or.inl ⟨by rfl, ?_⟩) ?_ ?_
                  rotate_left
                  · intro w'
                    go_simp
                    with_reducible rfl
                  rotate_left
                  · simp only [Act.put, zSa, zSb, zSc, i64_w, i32_w]
                    rfl
                  refine pure_ (i := 8) (N := some 70) (v := ?_) (a' := ?_) #[true, true, true, true, true, true, true, true, true, false, false, false] rfl rfl (any_of HT_.out (by kernel_rfl)) (fun _ _ _ h => h) (Or.inl ⟨by rfl, ?_⟩) ?_ ?_
                  rotate_left
                  · intro w'
                    go_simp
                    with_reducible rfl
                  rotate_left
                  · simp only [Act.put, zSa, zSb, zSc, i64_w, i32_w]
                    rfl
                  refine pure_ (i := 9) (N := some 71) (v := ?_) (a' := ?_) #[true, true, true, true, true, true, true, true, true, true, false, false] rfl rfl (any_of HT_.out (by kernel_rfl)) (fun _ _ _ h => h) (Or.inl ⟨by rfl, ?_⟩) ?_ ?_
                  rotate_left
                  · intro w'
                    go_simp
                    with_reducible rfl
                  rotate_left
                  · simp only [Act.put, zSa, zSb, zSc, i64_w, i32_w]
                    rfl
                  refine pure_ (i := 10) (N := some 15) (v := ?_) (a' := ?_) #[true, true, true, true, true, true, true, true, true, true, true, false] rfl rfl (any_of HT_.out (by kernel_rfl)) (fun _ _ _ h => h) (Or.inl ⟨by rfl, ?_⟩) ?_ ?_
                  rotate_left
                  · intro w'
                    go_simp
                    with_reducible rfl
                  rotate_left
                  · simp only [Act.put, zSa, zSb, zSc, i64_w, i32_w]
                    rfl
                  refine pure_ (i := 11) (N := some 16) (v := ?_) (a' := ?_) #[true, true, true, true, true, true, true, true, true, true, true, true] rfl rfl (any_of HT_.out (by kernel_rfl)) (fun _ _ _ h => h) (Or.inl ⟨by rfl, ?_⟩) ?_ ?_
                  rotate_left
                  · intro w'
                    go_simp
                    with_reducible rfl
                  rotate_left
                  · simp only [Act.put, zSa, zSb, zSc, i64_w, i32_w]
                    rfl
                  refine done_ (done_of HT_.out (by kernel_rfl)) ?_
                  try go_wp2
                  replace HO_9 := zMk (zRd HO_9.out)
                  replace HO_12 := zMk (zRd HO_12.out)
                  replace HO_55 := zMk (zRd HO_55.out)
                  replace BK113 := zMk (zKd BK113.out)
                  replace HB := zMk (zBd HB.out)
                  refine start_ (n := 28) (S := fun w' => True) (ds := []) #[false, false, false, false, false, false, false, false, false, false, false, false, false, false, false, false, false, false, false, false, false, false, false, false, false, false, false, false] (by kernel_rfl) rfl rfl trivial (fun hHeld => ?_); refine with_tabW paths_Check.tab18 paths_Check.bits18 (fun HT_ HW_ => ?_)
                  generalize w57.drew = w58 at HO_9 HO_12 HO_55 BK113 HB hHeld ⊢
                  refine pure_ (i := 0) (N := some 85) (v := ?_) (a' := ?_) #[true, false, false, false, false, false, false, false, false, false, false, false, false, false, false, false, false, false, false, false, false, false, false, false, false, false, false, false] rfl rfl (any_of HT_.out (by kernel_rfl)) (fun _ _ _ h => h) (Or.inl ⟨by rfl, ?_⟩) ?_ ?_
                  rotate_left
                  · intro w'
                    go_simp
                    with_reducible rfl
                  rotate_left
                  · simp only [Act.put, zSa, zSb, zSc, i64_w, i32_w]
                    rfl
                  refine pure_ (i := 1) (N := some 86) (v := ?_) (a' := ?_) #[true, true, false, false, false, false, false, false, false, false, false, false, false, false, false, false, false, false, false, false, false, false, false, false, false, false, false, false] rfl rfl (any_of HT_.out (by kernel_rfl)) (fun _ _ _ h => h) (Or.inl ⟨by rfl, ?_⟩) ?_ ?_
                  rotate_left
                  · intro w'
                    go_simp
                    with_reducible rfl
                  rotate_left
                  · simp only [Act.put, zSa, zSb, zSc, i64_w, i32_w]
                    rfl
                  refine pure_ (i := 2) (N := some 87) (v := ?_) (a' := ?_) #[true, true, true, false, false, false, false, false, false, false, false, false, false, false, false, false, false, false, false, false, false, false, false, false, false, false, false, false] rfl rfl (any_of HT_.out (by kernel_rfl)) (fun _ _ _ h => h) (Or.inl ⟨by rfl, ?_⟩) ?_ ?_
                  rotate_left
                  · intro w'
                    go_simp
                    with_reducible rfl
                  rotate_left
                  · simp only [Act.put, zSa, zSb, zSc, i64_w, i32_w]
                    rfl
                  refine pure_ (i := 3) (N := some 88) (v := undef) (a' := ?_) #[true, true, true, true, false, false, false, false, false, false, false, false, false, false, false, false, false, false, false, false, false, false, false, false, false, false, false, false] rfl rfl (any_of HT_.out (by kernel_rfl)) (fun _ _ _ h => h) (Or.inr ⟨by rfl, rfl⟩) ?_ ?_
                  rotate_left
                  · simp only [Act.put, zSa, zSb, zSc, i64_w, i32_w]
                    rfl
                  refine pure_ (i := 4) (N := some 89) (v := undef) (a' := ?_) #[true, true, true, true, true, false, false, false, false, false, false, false, false, false, false, false, false, false, false, false, false, false, false, false, false, false, false, false] rfl rfl (any_of HT_.out (by kernel_rfl)) (fun _ _ _ h => h) (Or.inr ⟨by rfl, rfl⟩) ?_ ?_
                  rotate_left
                  · simp only [Act.put, zSa, zSb, zSc, i64_w, i32_w]
                    rfl
                  refine pure_ (i := 5) (N := some 90) (v := undef) (a' := ?_) #[true, true, true, true, true, true, false, false, false, false, false, false, false, false, false, false, false, false, false, false, false, false, false, false, false, false, false, false] rfl rfl (any_of HT_.out (by kernel_rfl)) (fun _ _ _ h => h) (Or.inr ⟨by rfl, rfl⟩) ?_ ?_
                  rotate_left
                  · simp only [Act.put, zSa, zSb, zSc, i64_w, i32_w]
                    rfl
                  refine pure_ (i := 6) (N := some 91) (v := undef) (a' := ?_) #[true, true, true, true, true, true, true, false, false, false, false, false, false, false, false, false, false, false, false, false, false, false, false, false, false, false, false, false] rfl rfl (any_of HT_.out (by kernel_rfl)) (fun _ _ _ h => h) (Or.inr ⟨by rfl, rfl⟩) ?_ ?_
                  rotate_left
                  · simp only [Act.put, zSa, zSb, zSc, i64_w, i32_w]
                    rfl
                  refine pure_ (i := 7) (N := some 92) (v := undef) (a' := ?_) #[true, true, true, true, true, true, true, true, false, false, false, false, false, false, false, false, false, false, false, false, false, false, false, false, false, false, false, false] rfl rfl (any_of HT_.out (by kernel_rfl)) (fun _ _ _ h => h) (Or.inr ⟨by rfl, rfl⟩) ?_ ?_
                  rotate_left
                  · simp only [Act.put, zSa, zSb, zSc, i64_w, i32_w]
                    rfl
                  refine pure_ (i := 8) (N := some 93) (v := ?_) (a' := ?_) #[true, true, true, true, true, true, true, true, true, false, false, false, false, false, false, false, false, false, false, false, false, false, false, false, false, false, false, false] rfl rfl (any_of HT_.out (by kernel_rfl)) (fun _ _ _ h => h) (Or.inl ⟨by rfl, ?_⟩) ?_ ?_
                  rotate_left
                  · intro w'
                    go_simp
                    with_reducible rfl
                  rotate_left
                  · simp only [Act.put, zSa, zSb, zSc, i64_w, i32_w]
                    rfl
                  refine pure_ (i := 9) (N := some 94) (v := ?_) (a' := ?_) #[true, true, true, true, true, true, true, true, true, true, false, false, false, false, false, false, false, false, false, false, false, false, false, false, false, false, false, false] rfl rfl (any_of HT_.out (by kernel_rfl)) (fun _ _ _ h => h) (Or.inl ⟨by rfl, ?_⟩) ?_ ?_
                  rotate_left
                  · intro w'
                    go_simp
                    with_reducible rfl
                  rotate_left
                  · simp only [Act.put, zSa, zSb, zSc, i64_w, i32_w]
                    rfl
                  refine pure_ (i := 10) (N := some 95) (v := undef) (a' := ?_) #[true, true, true, true, true, true, true, true, true, true, true, false, false, false, false, false, false, false, false, false, false, false, false, false, false, false, false, false] rfl rfl (any_of HT_.out (by kernel_rfl)) (fun _ _ _ h => h) (Or.inr ⟨by rfl, rfl⟩) ?_ ?_
                  rotate_left
                  · simp only [Act.put, zSa, zSb, zSc, i64_w, i32_w]
                    rfl
                  refine pure_ (i := 11) (N := some 96) (v := undef) (a' := ?_) #[true, true, true, true, true, true, true, true, true, true, true, true, false, false, false, false, false, false, false, false, false, false, false, false, false, false, false, false] rfl rfl (any_of HT_.out (by kernel_rfl)) (fun _ _ _ h => h) (Or.inr ⟨by rfl, rfl⟩) ?_ ?_
                  rotate_left
                  · simp only [Act.put, zSa, zSb, zSc, i64_w, i32_w]
                    rfl
                  refine pure_ (i := 12) (N := some 97) (v := undef) (a' := ?_) #[true, true, true, true, true, true, true, true, true, true, true, true, true, false, false, false, false, false, false, false, false, false, false, false, false, false, false, false] rfl rfl (any_of HT_.out (by kernel_rfl)) (fun _ _ _ h => h) (Or.inr ⟨by rfl, rfl⟩) ?_ ?_
                  rotate_left
                  · simp only [Act.put, zSa, zSb, zSc, i64_w, i32_w]
                    rfl
                  refine pure_ (i := 13) (N := some 98) (v := undef) (a' := ?_) #[true, true, true, true, true, true, true, true, true, true, true, true, true, true, false, false, false, false, false, false, false, false, false, false, false, false, false, false] rfl rfl (any_of HT_.out (by kernel_rfl)) (fun _ _ _ h => h) (Or.inr ⟨by rfl, rfl⟩) ?_ ?_
                  rotate_left
                  · simp only [Act.put, zSa, zSb, zSc, i64_w, i32_w]
                    rfl
                  refine pure_ (i := 14) (N := some 99) (v := undef) (a' := ?_) #[true, true, true, true, true, true, true, true, true, true, true, true, true, true, true, false, false, false, false, false, false, false, false, false, false, false, false, false] rfl rfl (any_of HT_.out (by kernel_rfl)) (fun _ _ _ h => h) (Or.inr ⟨by rfl, rfl⟩) ?_ ?_
                  rotate_left
                  · simp only [Act.put, zSa, zSb, zSc, i64_w, i32_w]
                    rfl
                  refine pure_ (i := 15) (N := some 100) (v := undef) (a' := ?_) #[true, true, true, true, true, true, true, true, true, true, true, true, true, true, true, true, false, false, false, false, false, false, false, false, false, false, false, false] rfl rfl (any_of HT_.out (by kernel_rfl)) (fun _ _ _ h => h) (Or.inr ⟨by rfl, rfl⟩) ?_ ?_
                  rotate_left
                  · simp only [Act.put, zSa, zSb, zSc, i64_w, i32_w]
                    rfl
                  refine pure_ (i := 16) (N := some 101) (v := undef) (a' := ?_) #[true, true, true, true, true, true, true, true, true, true, true, true, true, true, true, true, true, false, false, false, false, false, false, false, false, false, false, false] rfl rfl (any_of HT_.out (by kernel_rfl)) (fun _ _ _ h => h) (Or.inr ⟨by rfl, rfl⟩) ?_ ?_
                  rotate_left
                  · simp only [Act.put, zSa, zSb, zSc, i64_w, i32_w]
                    rfl
                  refine pure_ (i := 17) (N := some 102) (v := undef) (a' := ?_) #[true, true, true, true, true, true, true, true, true, true, true, true, true, true, true, true, true, true, false, false, false, false, false, false, false, false, false, false] rfl rfl (any_of HT_.out (by kernel_rfl)) (fun _ _ _ h => h) (Or.inr ⟨by rfl, rfl⟩) ?_ ?_
                  rotate_left
                  · simp only [Act.put, zSa, zSb, zSc, i64_w, i32_w]
                    rfl
                  refine pure_ (i := 18) (N := some 103) (v := undef) (a' := ?_) #[true, true, true, true, true, true, true, true, true, true, true, true, true, true, true, true, true, true, true, false, false, false, false, false, false, false, false, false] rfl rfl (any_of HT_.out (by kernel_rfl)) (fun _ _ _ h => h) (Or.inr ⟨by rfl, rfl⟩) ?_ ?_
                  rotate_left
                  · simp only [Act.put, zSa, zSb, zSc, i64_w, i32_w]
                    rfl
                  refine pure_ (i := 19) (N := some 104) (v := undef) (a' := ?_) #[true, true, true, true, true, true, true, true, true, true, true, true, true, true, true, true, true, true, true, true, false, false, false, false, false, false, false, false] rfl rfl (any_of HT_.out (by kernel_rfl)) (fun _ _ _ h => h) (Or.inr ⟨by rfl, rfl⟩) ?_ ?_
                  rotate_left
                  · simp only [Act.put, zSa, zSb, zSc, i64_w, i32_w]
                    rfl
                  refine pure_ (i := 20) (N := some 105) (v := undef) (a' := ?_) #[true, true, true, true, true, true, true, true, true, true, true, true, true, true, true, true, true, true, true, true, true, false, false, false, false, false, false, false] rfl rfl (any_of HT_.out (by kernel_rfl)) (fun _ _ _ h => h) (Or.inr ⟨by rfl, rfl⟩) ?_ ?_
                  rotate_left
                  · simp only [Act.put, zSa, zSb, zSc, i64_w, i32_w]
                    rfl
                  refine pure_ (i := 21) (N := some 106) (v := undef) (a' := ?_) #[true, true, true, true, true, true, true, true, true, true, true, true, true, true, true, true, true, true, true, true, true, true, false, false, false, false, false, false] rfl rfl (any_of HT_.out (by kernel_rfl)) (fun _ _ _ h => h) (Or.inr ⟨by rfl, rfl⟩) ?_ ?_
                  rotate_left
                  · simp only [Act.put, zSa, zSb, zSc, i64_w, i32_w]
                    rfl
                  refine pure_ (i := 22) (N := some 107) (v := undef) (a' := ?_) #[true, true, true, true, true, true, true, true, true, true, true, true, true, true, true, true, true, true, true, true, true, true, true, false, false, false, false, false] rfl rfl (any_of HT_.out (by kernel_rfl)) (fun _ _ _ h => h) (Or.inr ⟨by rfl, rfl⟩) ?_ ?_
                  rotate_left
                  · simp only [Act.put, zSa, zSb, zSc, i64_w, i32_w]
                    rfl
                  refine pure_ (i := 23) (N := some 108) (v := undef) (a' := ?_) #[true, true, true, true, true, true, true, true, true, true, true, true, true, true, true, true, true, true, true, true, true, true, true, true, false, false, false, false] rfl rfl (any_of HT_.out (by kernel_rfl)) (fun _ _ _ h => h) (Or.inr ⟨by rfl, rfl⟩) ?_ ?_
                  rotate_left
                  · simp only [Act.put, zSa, zSb, zSc, i64_w, i32_w]
                    rfl
                  refine pure_ (i := 24) (N := some 109) (v := undef) (a' := ?_) #[true, true, true, true, true, true, true, true, true, true, true, true, true, true, true, true, true, true, true, true, true, true, true, true, true, false, false, false] rfl rfl (any_of HT_.out (by kernel_rfl)) (fun _ _ _ h => h) (Or.inr ⟨by rfl, rfl⟩) ?_ ?_
                  rotate_left
                  · simp only [Act.put, zSa, zSb, zSc, i64_w, i32_w]
                    rfl
                  refine pure_ (i := 25) (N := some 110) (v := undef) (a' := ?_) #[true, true, true, true, true, true, true, true, true, true, true, true, true, true, true, true, true, true, true, true, true, true, true, true, true, true, false, false] rfl rfl (any_of HT_.out (by kernel_rfl)) (fun _ _ _ h => h) (Or.inr ⟨by rfl, rfl⟩) ?_ ?_
                  rotate_left
                  · simp only [Act.put, zSa, zSb, zSc, i64_w, i32_w]
                    rfl
                  refine pure_ (i := 26) (N := some 111) (v := ?_) (a' := ?_) #[true, true, true, true, true, true, true, true, true, true, true, true, true, true, true, true, true, true, true, true, true, true, true, true, true, true, true, false] rfl rfl (any_of HT_.out (by kernel_rfl)) (fun _ _ _ h => h) (Or.inl ⟨by rfl, ?_⟩) ?_ ?_
                  rotate_left
                  · intro w'
                    go_simp
                    with_reducible rfl
                  rotate_left
                  · simp only [Act.put, zSa, zSb, zSc, i64_w, i32_w]
                    rfl
                  refine pure_ (i := 27) (N := some 84) (v := ?_) (a' := ?_) #[true, true, true, true, true, true, true, true, true, true, true, true, true, true, true, true, true, true, true, true, true, true, true, true, true, true, true, true] rfl rfl (any_of HT_.out (by kernel_rfl)) (fun _ _ _ h => h) (Or.inl ⟨by rfl, ?_⟩) ?_ ?_
                  rotate_left
                  · intro w'
                    go_simp
                    with_reducible rfl
                  rotate_left
                  · simp only [Act.put, zSa, zSb, zSc, i64_w, i32_w]
                    rfl
                  refine done_ (done_of HT_.out (by kernel_rfl)) ?_
                  try go_wp2
                  go_ret
                  exact ⟨by first | rfl | (simp [errW_none, errW_some] <;> rfl) | (simp [*, errW_none, errW_some] <;> rfl), by exact uT HB.out⟩
          · rw [if_neg c26] at H
            have c26b0 : decide (x57_1 < (t114.length : Int)) = false := decide_eq_false c26
            (try (have c26b0l := c26b0; simp only [hl12_1] at c26b0l))
            clear c26
            have H' := zMk H
            clear H
            go_wp2
            go_loopg [115] k1 (fun kq v115 w' => ∃ (x12_2 : List Bool) (x115_2 : Int), v115 = .int .i64 x115_2 ∧ Aside0 (paths_Check.l1 kq l3 x12_2 t114 (t114.length : Int) x115_2 a0_0 l0_1 = some r) ∧ Aside0 (kq ≤ k1) ∧ Aside0 (Kd.R Kd.bool 4 w' w.heap.size (fun _ => True) (.slice (some ⟨go16, 0, none⟩) y126.length co16) x12_2) ∧ Aside0 (Kd.R (Kd.int .i64) 2 w' w.heap.size (fun _ => True) (.slice Ao20 t114.length co20) t114) ∧ Aside0 (w'.heap[gb113]? = some (.cells #[.int .i64 a0_0, (.slice A0_1 l0_1.length c0_1)] 24 (0, 0))) ∧ Aside0 (Below w.heap.size w w'))
            case atStart => exact ⟨(y126), (0), (by first | rfl | (simp; done) | (simp [*]; done)), H', ⟨Nat.le_refl _⟩, ⟨by (try simp only [hl12_1]); exact uR HO_12.out⟩, ⟨by (try simp only [hl12_1]); exact uR HO_9.out⟩, ⟨by (try simp only [hl12_1]); (with_reducible repeat (first | refine zKn ?_ _ | refine zKd ?_ | refine zKa ?_ _)); exact BK113.out⟩, ⟨by exact uT HB.out⟩⟩
            clear H'
            obtain ⟨x12_2, x115_2, rfl, HA, HK2, HO_12, HO_113, BK113, HB⟩ := hrel
            have hl12_2 := (zRr HO_12.out).1
            rw [hl12_2] at HO_12
            (try simp only [hl12_2])
            (try simp only [hl12_2] at BK113)
            (try simp only [hl12_2] at HO_113)
            rcases gk with _ | k2
            · exact absurd HA.out (by simp [paths_Check.l1])
            have H := HA.out
            clear HA
            simp only [paths_Check.l1] at H
            by_cases c59 : x115_2 < (t114.length : Int)
            · rw [if_pos c59] at H
              have c59b0 : decide (x115_2 < (t114.length : Int)) = true := decide_eq_true c59
              (try (have c59b0l := c59b0; simp only [hl12_1, hl12_2] at c59b0l))
              clear c59
              by_cases c60 : 0 ≤ x115_2
              rotate_left
              · rw [if_neg c60] at H; exact absurd H (by simp)
              rw [if_pos c60] at H
              have c60b0 : decide (0 ≤ x115_2) = true := decide_eq_true c60
              (try (have c60b0l := c60b0; simp only [hl12_1, hl12_2] at c60b0l))
              clear c60
              by_cases c61 : x115_2 < (t114.length : Int)
              rotate_left
              · rw [if_neg c61] at H; exact absurd H (by simp)
              rw [if_pos c61] at H
              have c61b0 : decide (x115_2 < (t114.length : Int)) = true := decide_eq_true c61
              (try (have c61b0l := c61b0; simp only [hl12_1, hl12_2] at c61b0l))
              clear c61
              have H' := zMk H
              clear H
              have p136 : 0 ≤ (x115_2 : Int) := of_decide_eq_true (by assumption)
              have q136 : x115_2 < (t114.length : Int) := of_decide_eq_true (by assumption)
              obtain ⟨ad136, e136, hx136_0⟩ := zAi (zRr HO_113.out).2.2 x115_2 p136 q136
              cases e136
              replace p136 := eq_true p136
              replace q136 := eq_true q136
              go_wp2
              go_loopg [19, 20] k2 (fun kq v19 v20 w' => ∃ (x19_3 : List Int) (x20_3 : Int), v20 = .int .i64 x20_3 ∧ Aside0 (paths_Check.l2 kq l3 x12_2 (rd t114 x115_2) x19_3 x20_3 t114 (t114.length : Int) x115_2 a0_0 l0_1 = some r) ∧ Aside0 (kq ≤ k2) ∧ Aside0 (Kd.R Kd.bool 4 w' w.heap.size (fun _ => True) (.slice (some ⟨go16, 0, none⟩) x12_2.length co16) x12_2) ∧ Aside0 (Kd.R (Kd.int .i64) 3 w' w.heap.size (fun _ => True) v19 x19_3) ∧ Aside0 (Kd.R (Kd.int .i64) 2 w' w.heap.size (fun _ => True) (.slice (some ad136) t114.length co20) t114) ∧ Aside0 (w'.heap[gb113]? = some (.cells #[.int .i64 a0_0, (.slice A0_1 l0_1.length c0_1)] 24 (0, 0))) ∧ Aside0 (Below w.heap.size w w'))
              case atStart => exact ⟨(([] : List Int)), (x115_2), (by first | rfl | (simp; done) | (simp [*]; done)), H', ⟨Nat.le_refl _⟩, ⟨by (try simp only [hl12_1]); (try simp only [hl12_2]); exact uR HO_12.out⟩, ⟨by (try simp only [hl12_1]); (try simp only [hl12_2]); first | exact Kd.R_nil _ _ _ _ _ | exact Kd.N_nil _ _ _ _ _ | exact Kd.V_nil _ _ _ _ _ | exact Kd.Q_nil _ _ _ _ _ | exact Kd.S_nil _ _ _ _ _⟩, ⟨by (try simp only [hl12_1]); (try simp only [hl12_2]); exact uR HO_113.out⟩, ⟨by (try simp only [hl12_1]); (try simp only [hl12_2]); (with_reducible repeat (first | refine zKn ?_ _ | refine zKd ?_ | refine zKa ?_ _)); exact BK113.out⟩, ⟨by exact uT HB.out⟩⟩
              clear H'
              obtain ⟨x19_3, x20_3, rfl, HA, HK3, HO_12, HO_19, HO_113, BK113, HB⟩ := hrel
              rcases gk with _ | k3
              · exact absurd HA.out (by simp [paths_Check.l2])
              have H := HA.out
              clear HA
              simp only [paths_Check.l2] at H
              have HC62 := zMk H
              clear H
              go_upto_region 26 with (fail)
              go_cut [129] (fun v129 wc => ∃ (kq : Nat) (x129_61 : Bool), v129 = .bool x129_61 ∧ Aside0 (paths_Check.j3 kq l3 x12_2 (rd t114 x115_2) x19_3 x20_3 t114 (t114.length : Int) x115_2 x129_61 a0_0 l0_1 = some r) ∧ Aside0 (kq ≤ k3) ∧ Aside0 (Kd.R Kd.bool 4 wc w.heap.size (fun _ => True) (.slice (some ⟨go16, 0, none⟩) x12_2.length co16) x12_2) ∧ Aside0 (Kd.R (Kd.int .i64) 3 wc w.heap.size (fun _ => True) u19 x19_3) ∧ Aside0 (Kd.R (Kd.int .i64) 2 wc w.heap.size (fun _ => True) (.slice (some ad136) t114.length co20) t114) ∧ Aside0 (wc.heap[gb113]? = some (.cells #[.int .i64 a0_0, (.slice A0_1 l0_1.length c0_1)] 24 (0, 0))) ∧ Aside0 (Below w.heap.size w wc))
              case first =>
                have H := HC62.out
                clear HC62
                by_cases c63 : (rd t114 x115_2) ≥ 0
                · rw [if_pos c63] at H
                  have c63b0 : decide (0 ≤ (rd t114 x115_2)) = true := decide_eq_true c63
                  (try (have c63b0l := c63b0; simp only [hl12_1, hl12_2] at c63b0l))
                  clear c63
                  (first | rw [c63b0] | (simp only [i64_w, i32_w]; rw [c63b0]) | rw [c63b1] | skip)
                  by_cases c64 : 0 ≤ x20_3
                  rotate_left
                  · rw [if_neg c64] at H; exact absurd H (by simp)
                  rw [if_pos c64] at H
                  have c64b0 : decide (0 ≤ x20_3) = true := decide_eq_true c64
                  (try (have c64b0l := c64b0; simp only [hl12_1, hl12_2] at c64b0l))
                  clear c64
                  by_cases c65 : x20_3 < (x12_2.length : Int)
                  rotate_left
                  · rw [if_neg c65] at H; exact absurd H (by simp)
                  rw [if_pos c65] at H
                  have c65b0 : decide (x20_3 < (x12_2.length : Int)) = true := decide_eq_true c65
                  (try (have c65b0l := c65b0; simp only [hl12_1, hl12_2] at c65b0l))
                  clear c65
                  have H' := zMk H
                  clear H
                  have p137 : 0 ≤ (x20_3 : Int) := of_decide_eq_true (by assumption)
                  have q137 : x20_3 < (x12_2.length : Int) := of_decide_eq_true (by assumption)
                  obtain ⟨ad137, e137, hx137_0⟩ := Kd.at_bool (zRr HO_12.out).2.2 x20_3 p137 q137
                  obtain rfl : (⟨go16, 0, none⟩ : Addr) = ad137 := (by injection e137)
                  (first | simp only [add_plain] at hx137_0 | simp only [add_at] at hx137_0 | simp only [Addr.add, Nat.zero_add] at hx137_0 | skip)
                  replace p137 := eq_true p137
                  replace q137 := eq_true q137
                  go_wp2
                  go_meet
                  case rel => exact ⟨_, (!(rdOf false x12_2 x20_3)), (by first | rfl | (simp; done) | (simp [*]; done)), H', ⟨by have := HK1.out; have := HK2.out; have := HK3.out; first | omega | exact Nat.le_refl _⟩, ⟨by (try simp only [hl12_1]); (try simp only [hl12_2]); exact uR HO_12.out⟩, ⟨by (try simp only [hl12_1]); (try simp only [hl12_2]); exact uR HO_19.out⟩, ⟨by (try simp only [hl12_1]); (try simp only [hl12_2]); exact uR HO_113.out⟩, ⟨by (try simp only [hl12_1]); (try simp only [hl12_2]); (with_reducible repeat (first | refine zKn ?_ _ | refine zKd ?_ | refine zKa ?_ _)); exact BK113.out⟩, ⟨by exact uT HB.out⟩⟩
                · rw [if_neg c63] at H
                  have c63b0 : decide (0 ≤ (rd t114 x115_2)) = false := decide_eq_false c63
                  (try (have c63b0l := c63b0; simp only [hl12_1, hl12_2] at c63b0l))
                  clear c63
                  (first | rw [c63b0] | (simp only [i64_w, i32_w]; rw [c63b0]) | rw [c63b1] | skip)
                  have H' := zMk H
                  clear H
                  go_wp2
                  go_meet
                  case rel => exact ⟨_, (false), (by first | rfl | (simp; done) | (simp [*]; done)), H', ⟨by have := HK1.out; have := HK2.out; have := HK3.out; first | omega | exact Nat.le_refl _⟩, ⟨by (try simp only [hl12_1]); (try simp only [hl12_2]); exact uR HO_12.out⟩, ⟨by (try simp only [hl12_1]); (try simp only [hl12_2]); exact uR HO_19.out⟩, ⟨by (try simp only [hl12_1]); (try simp only [hl12_2]); exact uR HO_113.out⟩, ⟨by (try simp only [hl12_1]); (try simp only [hl12_2]); (with_reducible repeat (first | refine zKn ?_ _ | refine zKd ?_ | refine zKa ?_ _)); exact BK113.out⟩, ⟨by exact uT HB.out⟩⟩
              case rest =>
                clear HC62
                obtain ⟨kq, x129_61, rfl, HA, HJ61, HO_12, HO_19, HO_113, BK113, HB⟩ := hcut
                rcases kq with _ | kj61
                · exact absurd HA.out (by simp [paths_Check.j3])
                have H := HA.out
                clear HA
                simp only [paths_Check.j3] at H
                by_cases c66 : x129_61 = true
                · subst c66
                  replace H : ((slices_Contains_int_int.f kj61 x19_3 x20_3).bind fun t138 => (if t138 = true then (some 13) else (if x19_3.length < 17592186044416 then (if 0 ≤ x20_3 then (if x20_3 < (l3.length : Int) then ((paths_other.f kj61 a0_0 l0_1 (rd l3 x20_3) x20_3).bind fun bt143 => (paths_Check.l2 kj61 l3 x12_2 (rd t114 x115_2) (x19_3 ++ [x20_3]) bt143.1 t114 (t114.length : Int) x115_2 a0_0 l0_1)) else (none)) else (none)) else (none)))) = some r := by rw [if_pos rfl] at H; exact H
                  replace H := bnd H
                  obtain ⟨t138, A670, H⟩ := H
                  have A67 := zMk A670
                  clear A670
                  by_cases c68 : t138 = true
                  · subst c68
                    replace H : (some 13) = some r := by rw [if_pos rfl] at H; exact H
                    obtain rfl := zOi H
                    obtain ⟨Ao69, co69, eo69⟩ := zRs HO_19.out
                    subst eo69
                    go_wp2_with (first | ((with_reducible refine gate_callee (f := 26) rfl ?_); refine goesL_ (some 142) rfl rfl Try.func26 (by kernel_rfl) rfl #[.slice Ao69 x19_3.length co69, .int .i64 x20_3] rfl (by (try simp only [zMa, zMc, zMn]); first | done | rfl | (simp only [zLd, zLt]; rfl)) ?_; (with_reducible refine (slices_Contains_int_int.calls kj61 _ _ x19_3 x20_3 true _ ?side1 ?side2 A67.out).mono ?_); (case side1 => exact uC (zRr HO_19.out).2.2); (case side2 => exact (zRr HO_19.out).2.1); rintro e w' ⟨rfl, ⟨nd, rfl⟩⟩; refine ⟨_, rfl, ?_⟩))
                    go_ret
                    exact ⟨by first | rfl | (simp [errW_none, errW_some] <;> rfl) | (simp [*, errW_none, errW_some] <;> rfl), by exact uT HB.out⟩
                  · replace c68 := Bool.eq_false_iff.mpr c68
                    subst c68
                    replace H : (if x19_3.length < 17592186044416 then (if 0 ≤ x20_3 then (if x20_3 < (l3.length : Int) then ((paths_other.f kj61 a0_0 l0_1 (rd l3 x20_3) x20_3).bind fun bt143 => (paths_Check.l2 kj61 l3 x12_2 (rd t114 x115_2) (x19_3 ++ [x20_3]) bt143.1 t114 (t114.length : Int) x115_2 a0_0 l0_1)) else (none)) else (none)) else (none)) = some r := by rw [if_neg (show ¬ (false = true) by decide)] at H; exact H
                    by_cases c70 : x19_3.length < 17592186044416
                    rotate_left
                    · rw [if_neg c70] at H; exact absurd H (by simp)
                    rw [if_pos c70] at H
                    have LMc70 := zMk c70
                    clear c70
                    obtain ⟨y139, hy139⟩ : ∃ y_ : List Int, y_ = (x19_3 ++ [x20_3]) := ⟨_, rfl⟩
                    replace H : (if 0 ≤ x20_3 then (if x20_3 < (l3.length : Int) then ((paths_other.f kj61 a0_0 l0_1 (rd l3 x20_3) x20_3).bind fun bt143 => (paths_Check.l2 kj61 l3 x12_2 (rd t114 x115_2) y139 bt143.1 t114 (t114.length : Int) x115_2 a0_0 l0_1)) else (none)) else (none)) = some r := by first | (rw [hy139]; with_reducible exact H) | (have H2_ := bsm H; first | (rw [hy139]; with_reducible exact H2_) | with_reducible exact H2_) | with_reducible exact H | (rw [hy139]; exact H) | exact H
                    have Ny139 := zMk hy139
                    clear hy139
                    by_cases c71 : 0 ≤ x20_3
                    rotate_left
                    · rw [if_neg c71] at H; exact absurd H (by simp)
                    rw [if_pos c71] at H
                    have c71b0 : decide (0 ≤ x20_3) = true := decide_eq_true c71
                    (try (have c71b0l := c71b0; simp only [hl12_1, hl12_2] at c71b0l))
                    clear c71
                    by_cases c72 : x20_3 < (l3.length : Int)
                    rotate_left
                    · rw [if_neg c72] at H; exact absurd H (by simp)
                    rw [if_pos c72] at H
                    have c72b0 : decide (x20_3 < (l3.length : Int)) = true := decide_eq_true c72
                    (try (have c72b0l := c72b0; simp only [hl12_1, hl12_2] at c72b0l))
                    clear c72
                    replace H := bnd H
                    obtain ⟨⟨t143, t144⟩, A730, H⟩ := H
                    replace H : (paths_Check.l2 kj61 l3 x12_2 (rd t114 x115_2) y139 t143 t114 (t114.length : Int) x115_2 a0_0 l0_1) = some r := H
                    have A73 := zMk A730
                    clear A730
                    have H' := zMk H
                    clear H
                    obtain ⟨Ao74, co74, eo74⟩ := zRs HO_19.out
                    subst eo74
                    try go_wp2_with (first | ((with_reducible refine gate_callee (f := 26) rfl ?_); refine goesL_ (some 142) rfl rfl Try.func26 (by kernel_rfl) rfl #[.slice Ao74 x19_3.length co74, .int .i64 x20_3] rfl (by (try simp only [zMa, zMc, zMn]); first |  done|  rfl|  (simp only [zLd, zLt]; rfl)) ?_; (with_reducible refine (slices_Contains_int_int.calls kj61 _ _ x19_3 x20_3 false _ ?side1 ?side2 A67.out).mono ?_); (case side1 => exact uC (zRr HO_19.out).2.2); (case side2 => exact (zRr HO_19.out).2.1); rintro e w' ⟨rfl, ⟨nd, rfl⟩⟩; refine ⟨_, rfl, ?_⟩)|((with_reducible refine gate_builtin (b := .append) (xs := #[.tmp 143, .tmp 145]) rfl ?_); at_builtin; refine Kd.R_append (Kd.int .i64) (w0 := w) w.heap.size rfl (.tmp 143) (.tmp 145) 31 3 (.int .i64 0) 8 rfl Try.underlying31 info3 rfl (by decide) (by omega) (.slice Ao74 x19_3.length co74) x19_3 x20_3 [.int .i64 x20_3] (fun _ => True) (fun _ => False) rfl rfl ?aP (fun _ hk => hk.elim) ?aF ?aO ?aB ?aS ?aL ?_; (case aP => exact rfl); (case aB => exact (by exact uT HB.out)); (case aF => exact (fun _ _ => trivial)); (case aO => exact (by exact uR HO_19.out)); (case aS => exact (zBs (by exact uT HB.out))); (case aL => have := LMc70.out; omega); intro v140 w75 ho hb hg hat; rw [← Ny139.out] at ho; replace HO_12 := zMk (Kd.R_over' (by exact uR HO_12.out) (Kd.R_typed (by exact uR HO_19.out)) (by decide) hg); replace HO_113 := zMk (Kd.R_over' (by exact uR HO_113.out) (Kd.R_typed (by exact uR HO_19.out)) (by decide) hg); replace BK113 := zMk (blk_grown (g := gb113) (o := .cells #[.int .i64 a0_0, .slice A0_1 l0_1.length c0_1] 24 (0, 0)) (by (with_reducible repeat (first |  refine zKn ?_ _|  refine zKd ?_|  refine zKa ?_ _)); exact BK113.out) hg (Kd.R_ne HO_19.out BK113.out (by decide))); replace HB := zMk (hb); have HO141 := zMk (ho); clear HO_19 ho hb hg hat))
                    replace HO_12 := zMk (zRd HO_12.out)
                    replace HO_113 := zMk (zRd HO_113.out)
                    replace HO141 := zMk (zRd HO141.out)
                    replace BK113 := zMk (zKd BK113.out)
                    replace HB := zMk (zBd HB.out)
                    have p142 : 0 ≤ (x20_3 : Int) := of_decide_eq_true (by assumption)
                    have q142 : x20_3 < (l3.length : Int) := of_decide_eq_true (by assumption)
                    obtain ⟨ad142, e142, hx142_0⟩ := zAi HR3.out x20_3 p142 q142
                    have hw142_0 := hx142_0
                    obtain rfl : ad122 = ad142 := (by injection e142)
                    replace hx142_0 := (HB.out.cell (World.block_lt_of_cell? w _ hx142_0)).trans hx142_0
                    replace p142 := eq_true p142
                    replace q142 := eq_true q142
                    refine start_ (n := 11) (S := fun w' => w'.cell? ⟨gb113, 0, none⟩ = some (.int .i64 a0_0) ∧ w'.cell? ⟨gb113, 1, none⟩ = some (.slice A0_1 l0_1.length c0_1) ∧ w'.cell? (ad122.add (x20_3).toNat) = some (.int .i64 (rd l3 x20_3))) (ds := []) #[false, false, false, false, false, false, false, false, false, false, false] (by kernel_rfl) rfl rfl ⟨(zKc BK113.out 0).trans rfl, (zKc BK113.out 1).trans rfl, ((HB.out.cell (World.block_lt_of_cell? w _ hw142_0)).trans hw142_0)⟩ (fun hHeld => ?_); refine with_tabW paths_Check.tab27 paths_Check.bits27 (fun HT_ HW_ => ?_)
                    generalize w75.drew = w76 at HO_12 HO_113 HO141 BK113 HB hx142_0 hHeld ⊢
                    refine pure_ (i := 1) (N := some 132) (v := ?_) (a' := ?_) #[false, true, false, false, false, false, false, false, false, false, false] rfl rfl (any_of HT_.out (by kernel_rfl)) (fun _ _ _ h => h) (Or.inl ⟨by rfl, ?_⟩) ?_ ?_
                    rotate_left
                    · intro w'
                      go_simp
                      with_reducible rfl
                    rotate_left
                    · simp only [Act.put, zSa, zSb, zSc, i64_w, i32_w]
                      rfl
                    refine pure_ (i := 2) (N := some 133) (v := ?_) (a' := ?_) #[false, true, true, false, false, false, false, false, false, false, false] rfl rfl (any_of HT_.out (by kernel_rfl)) (fun _ _ _ h => h) (Or.inl ⟨by rfl, ?_⟩) ?_ ?_
                    rotate_left
                    · intro w'
                      go_simp
                      with_reducible rfl
                    rotate_left
                    · simp only [Act.put, zSa, zSb, zSc, i64_w, i32_w]
                      rfl
                    refine pure_ (i := 3) (N := some 134) (v := ?_) (a' := ?_) #[false, true, true, true, false, false, false, false, false, false, false] rfl rfl (any_of HT_.out (by kernel_rfl)) (fun _ _ _ h => h) (Or.inl ⟨by rfl, ?_⟩) ?_ ?_
                    rotate_left
                    · intro w'
                      go_simp
                      with_reducible rfl
                    rotate_left
                    · simp only [Act.put, zSa, zSb, zSc, i64_w, i32_w]
                      rfl
                    refine pure_ (i := 5) (N := some 136) (v := ?_) (a' := ?_) #[false, true, true, true, false, true, false, false, false, false, false] rfl rfl (any_of HT_.out (by kernel_rfl)) (fun _ _ _ h => h) (Or.inl ⟨by rfl, ?_⟩) ?_ ?_
                    rotate_left
                    · intro w'
                      go_simp
                      with_reducible rfl
                    rotate_left
                    · simp only [Act.put, zSa, zSb, zSc, i64_w, i32_w]
                      rfl
                    refine take_ (i := 0) (N := some 131) (v := ?_) (a' := ?_) #[true, true, true, true, false, true, false, false, false, false, false] rfl rfl (take_ofW HT_.out HW_.out (by kernel_rfl)) (fun _ _ _ h => h) (Or.inl ⟨by rfl, ?_⟩) hHeld ?_ ?_
                    rotate_left
                    · rintro w' ⟨s0, s1, s2⟩
                      go_simp
                      with_reducible rfl
                    rotate_left
                    · simp only [Act.put, zSa, zSb, zSc, i64_w, i32_w]
                      rfl
                    refine take_ (i := 4) (N := some 135) (v := ?_) (a' := ?_) #[true, true, true, true, true, true, false, false, false, false, false] rfl rfl (take_ofW HT_.out HW_.out (by kernel_rfl)) (fun _ _ _ h => h) (Or.inl ⟨by rfl, ?_⟩) hHeld ?_ ?_
                    rotate_left
                    · rintro w' ⟨s0, s1, s2⟩
                      go_simp
                      with_reducible rfl
                    rotate_left
                    · simp only [Act.put, zSa, zSb, zSc, i64_w, i32_w]
                      rfl
                    refine one_ (i := 6) (N := some 137) #[true, true, true, true, true, true, true, false, false, false, false] rfl rfl (one_of HT_.out (by kernel_rfl)) (by decide) (fun K hK => ?_)
                    refine goes_ Try.func25 (by kernel_rfl) rfl #[.agg #[.int .i64 a0_0, .slice A0_1 l0_1.length c0_1], .int .i64 (rd l3 x20_3), .int .i64 x20_3] (by rfl) rfl rfl (by (try simp only [zMa, zMc, zMn]); first | done | rfl | (simp only [zLd, zLt]; rfl)) ?_
                    with_reducible refine (paths_other.calls kj61 a0_0 _ _ l0_1 (rd l3 x20_3) x20_3 t143 t144 _ ?side1 ?side2 A73.out).mono ?_
                    (case side1 => repeat (first | exact (Kd.C_below HR0_1.out HB.out) | (with_reducible refine zCa ?_ _) | (with_reducible refine zCn ?_ _) | (with_reducible refine zCd ?_)))
                    (case side2 => exact HC0_1.out)
                    rintro e w77 ⟨rfl, hb⟩
                    refine ⟨_, rfl, ?_⟩
                    replace HO_12 := zMk (zRb (by exact uR HO_12.out) hb)
                    replace HO_113 := zMk (zRb (by exact uR HO_113.out) hb)
                    replace HO141 := zMk (zRb (by exact uR HO141.out) hb)
                    replace BK113 := zMk (zKb (g := gb113) (o := .cells #[.int .i64 a0_0, .slice A0_1 l0_1.length c0_1] 24 (0, 0)) (by (with_reducible repeat (first | refine zKn ?_ _ | refine zKd ?_ | refine zKa ?_ _)); exact BK113.out) hb)
                    replace HB := zMk (zBt (by exact uT HB.out) hb)
                    refine hK.out _ _ ⟨(zKc BK113.out 0).trans rfl, (zKc BK113.out 1).trans rfl, ((HB.out.cell (World.block_lt_of_cell? w _ hw142_0)).trans hw142_0)⟩ (fun hHeld => ?_)
                    clear hK K
                    refine norm_ (a' := ?_) ?_ ?_
                    rotate_left
                    · show Act.put _ (some 137) _ = _
                      simp only [Act.put, zSa, zSb, zSc, i64_w, i32_w]
                      rfl
                    refine pure_ (i := 7) (N := some 130) (v := ?_) (a' := ?_) #[true, true, true, true, true, true, true, true, false, false, false] rfl rfl (any_of HT_.out (by kernel_rfl)) (fun _ _ _ h => h) (Or.inl ⟨by rfl, ?_⟩) ?_ ?_
                    rotate_left
                    · intro w'
                      go_simp
                      with_reducible rfl
                    rotate_left
                    · simp only [Act.put, zSa, zSb, zSc, i64_w, i32_w]
                      rfl
                    refine pure_ (i := 8) (N := some 138) (v := ?_) (a' := ?_) #[true, true, true, true, true, true, true, true, true, false, false] rfl rfl (any_of HT_.out (by kernel_rfl)) (fun _ _ _ h => h) (Or.inl ⟨by rfl, ?_⟩) ?_ ?_
                    rotate_left
                    · intro w'
                      go_simp
                      with_reducible rfl
                    rotate_left
                    · simp only [Act.put, zSa, zSb, zSc, i64_w, i32_w]
                      rfl
                    refine pure_ (i := 9) (N := some 139) (v := ?_) (a' := ?_) #[true, true, true, true, true, true, true, true, true, true, false] rfl rfl (any_of HT_.out (by kernel_rfl)) (fun _ _ _ h => h) (Or.inl ⟨by rfl, ?_⟩) ?_ ?_
                    rotate_left
                    · intro w'
                      go_simp
                      with_reducible rfl
                    rotate_left
                    · simp only [Act.put, zSa, zSb, zSc, i64_w, i32_w]
                      rfl
                    refine pure_ (i := 10) (N := some 20) (v := ?_) (a' := ?_) #[true, true, true, true, true, true, true, true, true, true, true] rfl rfl (any_of HT_.out (by kernel_rfl)) (fun _ _ _ h => h) (Or.inl ⟨by rfl, ?_⟩) ?_ ?_
                    rotate_left
                    · intro w'
                      go_simp
                      with_reducible rfl
                    rotate_left
                    · simp only [Act.put, zSa, zSb, zSc, i64_w, i32_w]
                      rfl
                    refine done_ (done_of HT_.out (by kernel_rfl)) ?_
                    try go_wp2
                    go_roundg kj61
                    case measure => have := HK1.out; have := HK2.out; have := HK3.out; have := HJ61.out; omega
                    case rel => exact ⟨(y139), (t143), (by first | rfl | (simp; done) | (simp [*]; done)), H', ⟨by have := HK1.out; have := HK2.out; have := HK3.out; have := HJ61.out; omega⟩, ⟨by (try simp only [hl12_1]); (try simp only [hl12_2]); exact uR HO_12.out⟩, ⟨by (try simp only [hl12_1]); (try simp only [hl12_2]); exact uR HO141.out⟩, ⟨by (try simp only [hl12_1]); (try simp only [hl12_2]); exact uR HO_113.out⟩, ⟨by (try simp only [hl12_1]); (try simp only [hl12_2]); (with_reducible repeat (first | refine zKn ?_ _ | refine zKd ?_ | refine zKa ?_ _)); exact BK113.out⟩, ⟨by exact uT HB.out⟩⟩
                · replace c66 := Bool.eq_false_iff.mpr c66
                  subst c66
                  replace H : (paths_Check.l3 kj61 l3 x12_2 t114 (t114.length : Int) x115_2 x19_3 (x19_3.length : Int) 0 a0_0 l0_1) = some r := by rw [if_neg (show ¬ (false = true) by decide)] at H; exact H
                  have H' := zMk H
                  clear H
                  obtain ⟨Ao78, co78, eo78⟩ := zRs HO_19.out
                  subst eo78
                  go_wp2
                  go_loopg [149] kj61 (fun kq v149 w' => ∃ (x12_5 : List Bool) (x149_5 : Int), v149 = .int .i64 x149_5 ∧ Aside0 (paths_Check.l3 kq l3 x12_5 t114 (t114.length : Int) x115_2 x19_3 (x19_3.length : Int) x149_5 a0_0 l0_1 = some r) ∧ Aside0 (kq ≤ kj61) ∧ Aside0 (Kd.R Kd.bool 4 w' w.heap.size (fun _ => True) (.slice (some ⟨go16, 0, none⟩) x12_2.length co16) x12_5) ∧ Aside0 (Kd.R (Kd.int .i64) 2 w' w.heap.size (fun _ => True) (.slice (some ad136) t114.length co20) t114) ∧ Aside0 (Kd.R (Kd.int .i64) 3 w' w.heap.size (fun _ => True) (.slice Ao78 x19_3.length co78) x19_3) ∧ Aside0 (w'.heap[gb113]? = some (.cells #[.int .i64 a0_0, (.slice A0_1 l0_1.length c0_1)] 24 (0, 0))) ∧ Aside0 (Below w.heap.size w w'))
                  case atStart => exact ⟨(x12_2), (0), (by first | rfl | (simp; done) | (simp [*]; done)), H', ⟨Nat.le_refl _⟩, ⟨by (try simp only [hl12_1]); (try simp only [hl12_2]); exact uR HO_12.out⟩, ⟨by (try simp only [hl12_1]); (try simp only [hl12_2]); exact uR HO_113.out⟩, ⟨by (try simp only [hl12_1]); (try simp only [hl12_2]); exact uR HO_19.out⟩, ⟨by (try simp only [hl12_1]); (try simp only [hl12_2]); (with_reducible repeat (first | refine zKn ?_ _ | refine zKd ?_ | refine zKa ?_ _)); exact BK113.out⟩, ⟨by exact uT HB.out⟩⟩
                  clear H'
                  obtain ⟨x12_5, x149_5, rfl, HA, HK5, HO_12, HO_113, HO_147, BK113, HB⟩ := hrel
                  have hl12_5 := (zRr HO_12.out).1
                  rw [hl12_5] at HO_12
                  (try simp only [hl12_5])
                  (try simp only [hl12_5] at BK113)
                  (try simp only [hl12_5] at HO_113)
                  (try simp only [hl12_5] at HO_147)
                  rcases gk with _ | k5
                  · exact absurd HA.out (by simp [paths_Check.l3])
                  have H := HA.out
                  clear HA
                  simp only [paths_Check.l3] at H
                  by_cases c79 : x149_5 < (x19_3.length : Int)
                  · rw [if_pos c79] at H
                    have c79b0 : decide (x149_5 < (x19_3.length : Int)) = true := decide_eq_true c79
                    (try (have c79b0l := c79b0; simp only [hl12_1, hl12_2, hl12_5] at c79b0l))
                    clear c79
                    by_cases c80 : 0 ≤ x149_5
                    rotate_left
                    · rw [if_neg c80] at H; exact absurd H (by simp)
                    rw [if_pos c80] at H
                    have c80b0 : decide (0 ≤ x149_5) = true := decide_eq_true c80
                    (try (have c80b0l := c80b0; simp only [hl12_1, hl12_2, hl12_5] at c80b0l))
                    clear c80
                    by_cases c81 : x149_5 < (x19_3.length : Int)
                    rotate_left
                    · rw [if_neg c81] at H; exact absurd H (by simp)
                    rw [if_pos c81] at H
                    have c81b0 : decide (x149_5 < (x19_3.length : Int)) = true := decide_eq_true c81
                    (try (have c81b0l := c81b0; simp only [hl12_1, hl12_2, hl12_5] at c81b0l))
                    clear c81
                    by_cases c82 : 0 ≤ (rd x19_3 x149_5)
                    rotate_left
                    · rw [if_neg c82] at H; exact absurd H (by simp)
                    rw [if_pos c82] at H
                    have c82b0 : decide (0 ≤ (rd x19_3 x149_5)) = true := decide_eq_true c82
                    (try (have c82b0l := c82b0; simp only [hl12_1, hl12_2, hl12_5] at c82b0l))
                    clear c82
                    by_cases c83 : (rd x19_3 x149_5) < (x12_5.length : Int)
                    rotate_left
                    · rw [if_neg c83] at H; exact absurd H (by simp)
                    rw [if_pos c83] at H
                    have c83b0 : decide ((rd x19_3 x149_5) < (x12_5.length : Int)) = true := decide_eq_true c83
                    (try (have c83b0l := c83b0; simp only [hl12_1, hl12_2, hl12_5] at c83b0l))
                    clear c83
                    obtain ⟨y146, hy146⟩ : ∃ y_ : List Bool, y_ = (x12_5.set ((rd x19_3 x149_5) : Int).toNat true) := ⟨_, rfl⟩
                    replace H : (paths_Check.l3 k5 l3 y146 t114 (t114.length : Int) x115_2 x19_3 (x19_3.length : Int) (wrap64 (x149_5 + 1)) a0_0 l0_1) = some r := by first | (rw [hy146]; with_reducible exact H) | (have H2_ := bsm H; first | (rw [hy146]; with_reducible exact H2_) | with_reducible exact H2_) | with_reducible exact H | (rw [hy146]; exact H) | exact H
                    have Ny146 := zMk hy146
                    clear hy146
                    have H' := zMk H
                    clear H
                    have p145 : 0 ≤ (x149_5 : Int) := of_decide_eq_true (by assumption)
                    have q145 : x149_5 < (x19_3.length : Int) := of_decide_eq_true (by assumption)
                    obtain ⟨ad145, e145, hx145_0⟩ := zAi (zRr HO_147.out).2.2 x149_5 p145 q145
                    cases e145
                    replace p145 := eq_true p145
                    replace q145 := eq_true q145
                    have p84 : 0 ≤ ((rd x19_3 x149_5) : Int) := of_decide_eq_true (by assumption)
                    have q84 : ((rd x19_3 x149_5) : Int) < ((x12_5.length : Int) : Int) := of_decide_eq_true (by assumption)
                    obtain ⟨hx84_0, hf84_0⟩ := Kd.R_celln false HO_12.out ((rd x19_3 x149_5) : Int) p84 q84
                    replace p84 := eq_true p84
                    replace q84 := eq_true q84
                    have HP85 := Kd.R_putg HO_12.out ((rd x19_3 x149_5) : Int) true
                    go_wp2_with (first | ((with_reducible refine gate_store (t := 4) (p := 155) rfl ?_); refine store_event (t := 4) (p := 155) (v := ?vo_w86) (w1 := (wr.setCell ⟨go16, ((rd x19_3 x149_5) : Int).toNat, none⟩ (.bool true))) ?hg ?ho ?hn ?hr ?_; (case ho => rfl); (case hg => rfl); (case hn => rfl); (case hr => first | (go_simp; done)|(go_simp; rfl)|(go_simp; rw [show ∀ x : Int, IntKind.u32.wrap (IntKind.u8.wrap x) = x % 256 from fun x => (by show (x % 256) % 4294967296 = x % 256; omega)])); intro w86 hw; have hg : wr.grownBy w86 (some go16) := (by rw [hw]; exact HP85.2); have hp_ : Kd.R Kd.bool 4 w86 w.heap.size (fun _ => True) (.slice (some ⟨go16, 0, none⟩) x12_5.length co16) y146 := (by rw [hw, Ny146.out]; exact HP85.1); clear HP85; replace HO_113 := zMk (Kd.R_over' (v := (.slice (some ⟨go16, 0, none⟩) x12_5.length co16)) (by exact uR HO_113.out) (Kd.R_typed HO_12.out) (by decide) hg); replace HO_147 := zMk (Kd.R_over' (v := (.slice (some ⟨go16, 0, none⟩) x12_5.length co16)) (by exact uR HO_147.out) (Kd.R_typed HO_12.out) (by decide) hg); replace BK113 := zMk (blk_grown (g := gb113) (o := .cells #[.int .i64 a0_0, .slice A0_1 l0_1.length c0_1] 24 (0, 0)) (by (with_reducible repeat (first |  refine zKn ?_ _|  refine zKd ?_|  refine zKa ?_ _)); exact BK113.out) hg (Kd.R_ne HO_12.out BK113.out (by decide))); replace HO_12 := zMk (hp_); replace HB := zMk ((by rw [hw]; exact below_set (HB.out) GB16.out : Below w.heap.size w w86)); clear hg hw hp_))
                    (try simp only [← hl12_5])
                    go_roundg k5
                    case measure => have := HK1.out; have := HK2.out; have := HK3.out; have := HJ61.out; have := HK5.out; omega
                    case rel => exact ⟨(y146), (wrap64 (x149_5 + 1)), (by first | rfl | (simp; done) | (simp [*]; done)), H', ⟨by have := HK1.out; have := HK2.out; have := HK3.out; have := HJ61.out; have := HK5.out; omega⟩, ⟨by (try simp only [hl12_1]); (try simp only [hl12_2]); (try simp only [hl12_5]); exact uR HO_12.out⟩, ⟨by (try simp only [hl12_1]); (try simp only [hl12_2]); (try simp only [hl12_5]); exact uR HO_113.out⟩, ⟨by (try simp only [hl12_1]); (try simp only [hl12_2]); (try simp only [hl12_5]); exact uR HO_147.out⟩, ⟨by (try simp only [hl12_1]); (try simp only [hl12_2]); (try simp only [hl12_5]); (with_reducible repeat (first | refine zKn ?_ _ | refine zKd ?_ | refine zKa ?_ _)); exact BK113.out⟩, ⟨by exact uT HB.out⟩⟩
                  · rw [if_neg c79] at H
                    have c79b0 : decide (x149_5 < (x19_3.length : Int)) = false := decide_eq_false c79
                    (try (have c79b0l := c79b0; simp only [hl12_1, hl12_2, hl12_5] at c79b0l))
                    clear c79
                    have H' := zMk H
                    clear H
                    go_wp2
                    (try simp only [← hl12_2, ← hl12_5])
                    go_roundg k5
                    case measure => have := HK1.out; have := HK2.out; have := HK3.out; have := HJ61.out; have := HK5.out; omega
                    case rel => exact ⟨(x12_5), (wrap64 (x115_2 + 1)), (by first | rfl | (simp; done) | (simp [*]; done)), H', ⟨by have := HK1.out; have := HK2.out; have := HK3.out; have := HJ61.out; have := HK5.out; omega⟩, ⟨by (try simp only [hl12_1]); (try simp only [hl12_2]); (try simp only [hl12_5]); exact uR HO_12.out⟩, ⟨by (try simp only [hl12_1]); (try simp only [hl12_2]); (try simp only [hl12_5]); exact uR HO_113.out⟩, ⟨by (try simp only [hl12_1]); (try simp only [hl12_2]); (try simp only [hl12_5]); (with_reducible repeat (first | refine zKn ?_ _ | refine zKd ?_ | refine zKa ?_ _)); exact BK113.out⟩, ⟨by exact uT HB.out⟩⟩
            · rw [if_neg c59] at H
              have c59b0 : decide (x115_2 < (t114.length : Int)) = false := decide_eq_false c59
              (try (have c59b0l := c59b0; simp only [hl12_1, hl12_2] at c59b0l))
              clear c59
              obtain rfl := zOi H
              go_wp2
              go_ret
              exact ⟨by first | rfl | (simp [errW_none, errW_some] <;> rfl) | (simp [*, errW_none, errW_some] <;> rfl), by exact uT HB.out⟩
        · rw [if_neg c12] at H
          have c12b0 : ((rd l3 a1) == (-1)) = false := beq_eq_false_iff_ne.mpr c12
          have c12b1 : ((rd l3 a1) != (-1)) = true := bne_iff_ne.mpr c12
          obtain rfl := zOi H
          go_enter Try.func15, Try.ntmps15
          go_wp2_with (first | ((with_reducible refine gate_dst (N := 4) rfl ?_); refine box_event ?hg (N := 4) ?hd (cs := #[.int .i64 a0_0, .slice A0_1 l0_1.length c0_1]) (t := 24) ?hr ?_; (case hd => rfl); (case hg => rfl); (case hr => first | (go_simp; done)|(go_simp; rfl)|(go_simp; rw [show ∀ x : Int, IntKind.u32.wrap (IntKind.u8.wrap x) = x % 256 from fun x => (by show (x % 256) % 4294967296 = x % 256; omega)])); intro gb113 hg w87 hbox hb; have BK113 := zMk (hbox); have GW113 := zMk ((by rw [hg]; exact (zBs (by exact uT HB.out)) : w.heap.size ≤ gb113)); have GE113 := zMk ((by rw [hg]; exact (zBs (by exact uT HB.out)) : w.heap.size ≤ gb113)); have IGE113 := ownGe GE113.out; replace HB := zMk (zBt (by exact uT HB.out) hb); clear hb hbox hg; have hcz88_0 : w87.cell? ⟨gb113, 0, none⟩ = some (.int .i64 a0_0) := (zKc BK113.out 0).trans rfl; have hcz88_1 : w87.cell? ⟨gb113, 1, none⟩ = some (.slice A0_1 l0_1.length c0_1) := (zKc BK113.out 1).trans rfl; have hfz88_0 := zKf BK113.out 0; have hfz88_1 := zKf BK113.out 1)|((with_reducible refine gate_callee (f := 11) rfl ?_); refine goesL_ (some 26) rfl rfl Try.func11 (by kernel_rfl) rfl #[.agg #[.int .i64 a0_0, .slice A0_1 l0_1.length c0_1], .int .i64 a1] rfl (by (try simp only [zMa, zMc, zMn]); first |  done|  rfl|  (simp only [zLd, zLt]; rfl)) ?_; (with_reducible refine (paths_From.calls k a0_0 _ _ l0_1 a1 t114 t117 t120 _ ?side1 ?side2 A5.out).mono ?_); (case side1 => repeat (first |  exact (Kd.C_below HR0_1.out HB.out)|(with_reducible refine zCa ?_ _)|(with_reducible refine zCn ?_ _)|(with_reducible refine zCd ?_))); (case side2 => exact HC0_1.out); rintro e w89 ⟨v115, v118, rfl, ho0, ho1, hb⟩; refine ⟨_, rfl, ?_⟩; have HO116 := zMk (zRl ho0 (zBs (by exact uT HB.out))); have HO119 := zMk (zRl ho1 (zBs (by exact uT HB.out))); replace BK113 := zMk (zKb (g := gb113) (o := .cells #[.int .i64 a0_0, .slice A0_1 l0_1.length c0_1] 24 (0, 0)) (by (with_reducible repeat (first |  refine zKn ?_ _|  refine zKd ?_|  refine zKa ?_ _)); exact BK113.out) hb); replace HB := zMk (zBt (by exact uT HB.out) hb); obtain ⟨Ao90, co90, eo90⟩ := zRs HO116.out; subst eo90)|((with_reducible refine gate_callee (f := 24) rfl ?_); refine goesL_ (some 37) rfl rfl Try.func24 (by kernel_rfl) rfl #[.slice A2 l2.length c2, .slice Ao90 t114.length co90] rfl (by (try simp only [zMa, zMc, zMn]); first |  done|  rfl|  (simp only [zLd, zLt]; rfl)) ?_; (with_reducible refine (slices_Equal_int64_int64.calls k _ _ l2 _ _ t114 true _ ?side1 ?side2 ?side3 ?side4 A7.out).mono ?_); (case side1 => repeat (first |  exact (Kd.C_below HR2.out HB.out)|(with_reducible refine zCa ?_ _)|(with_reducible refine zCn ?_ _)|(with_reducible refine zCd ?_))); (case side2 => exact HC2.out); (case side3 => exact uC (zRr HO116.out).2.2); (case side4 => exact (zRr HO116.out).2.1); rintro e w' ⟨rfl, ⟨nd, rfl⟩⟩; refine ⟨_, rfl, ?_⟩; have hcz91_0 : w89.cell? ⟨gb113, 0, none⟩ = some (.int .i64 a0_0) := (zKc BK113.out 0).trans rfl; have hcz91_1 : w89.cell? ⟨gb113, 1, none⟩ = some (.slice A0_1 l0_1.length c0_1) := (zKc BK113.out 1).trans rfl; have hfz91_0 := zKf BK113.out 0; have hfz91_1 := zKf BK113.out 1; have p122 : 0 ≤ (a1 : Int) := of_decide_eq_true (by first | (with_reducible assumption)|  assumption); have q122 : a1 < (l3.length : Int) := of_decide_eq_true (by first | (with_reducible assumption)|  assumption); obtain ⟨ad122, e122, hx122_0⟩ := zAi HR3.out a1 p122 q122; cases e122; replace hx122_0 := (HB.out.cell (World.block_lt_of_cell? w _ hx122_0)).trans hx122_0; replace p122 := eq_true p122; replace q122 := eq_true q122))
          go_ret
          exact ⟨by first | rfl | (simp [errW_none, errW_some] <;> rfl) | (simp [*, errW_none, errW_some] <;> rfl), by exact uT HB.out⟩
      · rw [if_neg c9] at H
        have c9b0 : ((l3.length : Int) == a0_0) = false := beq_eq_false_iff_ne.mpr c9
        have c9b1 : ((l3.length : Int) != a0_0) = true := bne_iff_ne.mpr c9
        obtain rfl := zOi H
        go_enter Try.func15, Try.ntmps15
        go_wp2_with (first | ((with_reducible refine gate_dst (N := 4) rfl ?_); refine box_event ?hg (N := 4) ?hd (cs := #[.int .i64 a0_0, .slice A0_1 l0_1.length c0_1]) (t := 24) ?hr ?_; (case hd => rfl); (case hg => rfl); (case hr => first | (go_simp; done)|(go_simp; rfl)|(go_simp; rw [show ∀ x : Int, IntKind.u32.wrap (IntKind.u8.wrap x) = x % 256 from fun x => (by show (x % 256) % 4294967296 = x % 256; omega)])); intro gb113 hg w92 hbox hb; have BK113 := zMk (hbox); have GW113 := zMk ((by rw [hg]; exact (zBs (by exact uT HB.out)) : w.heap.size ≤ gb113)); have GE113 := zMk ((by rw [hg]; exact (zBs (by exact uT HB.out)) : w.heap.size ≤ gb113)); have IGE113 := ownGe GE113.out; replace HB := zMk (zBt (by exact uT HB.out) hb); clear hb hbox hg; have hcz93_0 : w92.cell? ⟨gb113, 0, none⟩ = some (.int .i64 a0_0) := (zKc BK113.out 0).trans rfl; have hcz93_1 : w92.cell? ⟨gb113, 1, none⟩ = some (.slice A0_1 l0_1.length c0_1) := (zKc BK113.out 1).trans rfl; have hfz93_0 := zKf BK113.out 0; have hfz93_1 := zKf BK113.out 1)|((with_reducible refine gate_callee (f := 11) rfl ?_); refine goesL_ (some 26) rfl rfl Try.func11 (by kernel_rfl) rfl #[.agg #[.int .i64 a0_0, .slice A0_1 l0_1.length c0_1], .int .i64 a1] rfl (by (try simp only [zMa, zMc, zMn]); first |  done|  rfl|  (simp only [zLd, zLt]; rfl)) ?_; (with_reducible refine (paths_From.calls k a0_0 _ _ l0_1 a1 t114 t117 t120 _ ?side1 ?side2 A5.out).mono ?_); (case side1 => repeat (first |  exact (Kd.C_below HR0_1.out HB.out)|(with_reducible refine zCa ?_ _)|(with_reducible refine zCn ?_ _)|(with_reducible refine zCd ?_))); (case side2 => exact HC0_1.out); rintro e w94 ⟨v115, v118, rfl, ho0, ho1, hb⟩; refine ⟨_, rfl, ?_⟩; have HO116 := zMk (zRl ho0 (zBs (by exact uT HB.out))); have HO119 := zMk (zRl ho1 (zBs (by exact uT HB.out))); replace BK113 := zMk (zKb (g := gb113) (o := .cells #[.int .i64 a0_0, .slice A0_1 l0_1.length c0_1] 24 (0, 0)) (by (with_reducible repeat (first |  refine zKn ?_ _|  refine zKd ?_|  refine zKa ?_ _)); exact BK113.out) hb); replace HB := zMk (zBt (by exact uT HB.out) hb); obtain ⟨Ao95, co95, eo95⟩ := zRs HO116.out; subst eo95)|((with_reducible refine gate_callee (f := 24) rfl ?_); refine goesL_ (some 37) rfl rfl Try.func24 (by kernel_rfl) rfl #[.slice A2 l2.length c2, .slice Ao95 t114.length co95] rfl (by (try simp only [zMa, zMc, zMn]); first |  done|  rfl|  (simp only [zLd, zLt]; rfl)) ?_; (with_reducible refine (slices_Equal_int64_int64.calls k _ _ l2 _ _ t114 true _ ?side1 ?side2 ?side3 ?side4 A7.out).mono ?_); (case side1 => repeat (first |  exact (Kd.C_below HR2.out HB.out)|(with_reducible refine zCa ?_ _)|(with_reducible refine zCn ?_ _)|(with_reducible refine zCd ?_))); (case side2 => exact HC2.out); (case side3 => exact uC (zRr HO116.out).2.2); (case side4 => exact (zRr HO116.out).2.1); rintro e w' ⟨rfl, ⟨nd, rfl⟩⟩; refine ⟨_, rfl, ?_⟩; have hcz96_0 : w94.cell? ⟨gb113, 0, none⟩ = some (.int .i64 a0_0) := (zKc BK113.out 0).trans rfl; have hcz96_1 : w94.cell? ⟨gb113, 1, none⟩ = some (.slice A0_1 l0_1.length c0_1) := (zKc BK113.out 1).trans rfl; have hfz96_0 := zKf BK113.out 0; have hfz96_1 := zKf BK113.out 1))
        go_ret
        exact ⟨by first | rfl | (simp [errW_none, errW_some] <;> rfl) | (simp [*, errW_none, errW_some] <;> rfl), by exact uT HB.out⟩
    · replace c8 := Bool.eq_false_iff.mpr c8
      subst c8
      replace H : (some 13) = some r := by rw [if_neg (show ¬ (false = true) by decide)] at H; exact H
      obtain rfl := zOi H
      go_enter Try.func15, Try.ntmps15
      go_wp2_with (first | ((with_reducible refine gate_dst (N := 4) rfl ?_); refine box_event ?hg (N := 4) ?hd (cs := #[.int .i64 a0_0, .slice A0_1 l0_1.length c0_1]) (t := 24) ?hr ?_; (case hd => rfl); (case hg => rfl); (case hr => first | (go_simp; done)|(go_simp; rfl)|(go_simp; rw [show ∀ x : Int, IntKind.u32.wrap (IntKind.u8.wrap x) = x % 256 from fun x => (by show (x % 256) % 4294967296 = x % 256; omega)])); intro gb113 hg w97 hbox hb; have BK113 := zMk (hbox); have GW113 := zMk ((by rw [hg]; exact (zBs (by exact uT HB.out)) : w.heap.size ≤ gb113)); have GE113 := zMk ((by rw [hg]; exact (zBs (by exact uT HB.out)) : w.heap.size ≤ gb113)); have IGE113 := ownGe GE113.out; replace HB := zMk (zBt (by exact uT HB.out) hb); clear hb hbox hg; have hcz98_0 : w97.cell? ⟨gb113, 0, none⟩ = some (.int .i64 a0_0) := (zKc BK113.out 0).trans rfl; have hcz98_1 : w97.cell? ⟨gb113, 1, none⟩ = some (.slice A0_1 l0_1.length c0_1) := (zKc BK113.out 1).trans rfl; have hfz98_0 := zKf BK113.out 0; have hfz98_1 := zKf BK113.out 1)|((with_reducible refine gate_callee (f := 11) rfl ?_); refine goesL_ (some 26) rfl rfl Try.func11 (by kernel_rfl) rfl #[.agg #[.int .i64 a0_0, .slice A0_1 l0_1.length c0_1], .int .i64 a1] rfl (by (try simp only [zMa, zMc, zMn]); first |  done|  rfl|  (simp only [zLd, zLt]; rfl)) ?_; (with_reducible refine (paths_From.calls k a0_0 _ _ l0_1 a1 t114 t117 t120 _ ?side1 ?side2 A5.out).mono ?_); (case side1 => repeat (first |  exact (Kd.C_below HR0_1.out HB.out)|(with_reducible refine zCa ?_ _)|(with_reducible refine zCn ?_ _)|(with_reducible refine zCd ?_))); (case side2 => exact HC0_1.out); rintro e w99 ⟨v115, v118, rfl, ho0, ho1, hb⟩; refine ⟨_, rfl, ?_⟩; have HO116 := zMk (zRl ho0 (zBs (by exact uT HB.out))); have HO119 := zMk (zRl ho1 (zBs (by exact uT HB.out))); replace BK113 := zMk (zKb (g := gb113) (o := .cells #[.int .i64 a0_0, .slice A0_1 l0_1.length c0_1] 24 (0, 0)) (by (with_reducible repeat (first |  refine zKn ?_ _|  refine zKd ?_|  refine zKa ?_ _)); exact BK113.out) hb); replace HB := zMk (zBt (by exact uT HB.out) hb); obtain ⟨Ao100, co100, eo100⟩ := zRs HO116.out; subst eo100)|((with_reducible refine gate_callee (f := 24) rfl ?_); refine goesL_ (some 37) rfl rfl Try.func24 (by kernel_rfl) rfl #[.slice A2 l2.length c2, .slice Ao100 t114.length co100] rfl (by (try simp only [zMa, zMc, zMn]); first |  done|  rfl|  (simp only [zLd, zLt]; rfl)) ?_; (with_reducible refine (slices_Equal_int64_int64.calls k _ _ l2 _ _ t114 false _ ?side1 ?side2 ?side3 ?side4 A7.out).mono ?_); (case side1 => repeat (first |  exact (Kd.C_below HR2.out HB.out)|(with_reducible refine zCa ?_ _)|(with_reducible refine zCn ?_ _)|(with_reducible refine zCd ?_))); (case side2 => exact HC2.out); (case side3 => exact uC (zRr HO116.out).2.2); (case side4 => exact (zRr HO116.out).2.1); rintro e w' ⟨rfl, ⟨nd, rfl⟩⟩; refine ⟨_, rfl, ?_⟩))
      go_ret
      exact ⟨by first | rfl | (simp [errW_none, errW_some] <;> rfl) | (simp [*, errW_none, errW_some] <;> rfl), by exact uT HB.out⟩
  · rw [if_neg c6] at H
    have c6b0 : (t120 == 0) = false := beq_eq_false_iff_ne.mpr c6
    have c6b1 : (t120 != 0) = true := bne_iff_ne.mpr c6
    obtain rfl := zOi H
    go_enter Try.func15, Try.ntmps15
    go_wp2_with (first | ((with_reducible refine gate_dst (N := 4) rfl ?_); refine box_event ?hg (N := 4) ?hd (cs := #[.int .i64 a0_0, .slice A0_1 l0_1.length c0_1]) (t := 24) ?hr ?_; (case hd => rfl); (case hg => rfl); (case hr => first | (go_simp; done)|(go_simp; rfl)|(go_simp; rw [show ∀ x : Int, IntKind.u32.wrap (IntKind.u8.wrap x) = x % 256 from fun x => (by show (x % 256) % 4294967296 = x % 256; omega)])); intro gb113 hg w101 hbox hb; have BK113 := zMk (hbox); have GW113 := zMk ((by rw [hg]; exact (zBs (by exact uT HB.out)) : w.heap.size ≤ gb113)); have GE113 := zMk ((by rw [hg]; exact (zBs (by exact uT HB.out)) : w.heap.size ≤ gb113)); have IGE113 := ownGe GE113.out; replace HB := zMk (zBt (by exact uT HB.out) hb); clear hb hbox hg; have hcz102_0 : w101.cell? ⟨gb113, 0, none⟩ = some (.int .i64 a0_0) := (zKc BK113.out 0).trans rfl; have hcz102_1 : w101.cell? ⟨gb113, 1, none⟩ = some (.slice A0_1 l0_1.length c0_1) := (zKc BK113.out 1).trans rfl; have hfz102_0 := zKf BK113.out 0; have hfz102_1 := zKf BK113.out 1)|((with_reducible refine gate_callee (f := 11) rfl ?_); refine goesL_ (some 26) rfl rfl Try.func11 (by kernel_rfl) rfl #[.agg #[.int .i64 a0_0, .slice A0_1 l0_1.length c0_1], .int .i64 a1] rfl (by (try simp only [zMa, zMc, zMn]); first |  done|  rfl|  (simp only [zLd, zLt]; rfl)) ?_; (with_reducible refine (paths_From.calls k a0_0 _ _ l0_1 a1 t114 t117 t120 _ ?side1 ?side2 A5.out).mono ?_); (case side1 => repeat (first |  exact (Kd.C_below HR0_1.out HB.out)|(with_reducible refine zCa ?_ _)|(with_reducible refine zCn ?_ _)|(with_reducible refine zCd ?_))); (case side2 => exact HC0_1.out); rintro e w103 ⟨v115, v118, rfl, ho0, ho1, hb⟩; refine ⟨_, rfl, ?_⟩; have HO116 := zMk (zRl ho0 (zBs (by exact uT HB.out))); have HO119 := zMk (zRl ho1 (zBs (by exact uT HB.out))); replace BK113 := zMk (zKb (g := gb113) (o := .cells #[.int .i64 a0_0, .slice A0_1 l0_1.length c0_1] 24 (0, 0)) (by (with_reducible repeat (first |  refine zKn ?_ _|  refine zKd ?_|  refine zKa ?_ _)); exact BK113.out) hb); replace HB := zMk (zBt (by exact uT HB.out) hb)))
    go_ret
    exact ⟨by first | rfl | (simp [errW_none, errW_some] <;> rfl) | (simp [*, errW_none, errW_some] <;> rfl), by exact uT HB.out⟩


def slices_Reverse_int_int.l0 : Nat → List Int → Int → Int → Option (List Int)
  | 0, _, _, _ => none
  | k + 1, x0, x2, x3 => if x2 < x3 then (if 0 ≤ x3 then (if x3 < (x0.length : Int) then (if 0 ≤ x2 then (if x2 < (x0.length : Int) then (slices_Reverse_int_int.l0 k ((x0.set (x2 : Int).toNat (rd x0 x3)).set (x3 : Int).toNat (rd x0 x2)) (wrap64 (x2 + 1)) (wrap64 (x3 - 1))) else (none)) else (none)) else (none)) else (none)) else (some x0)
def slices_Reverse_int_int.f (k : Nat) (l0 : List Int) : Option (List Int) := slices_Reverse_int_int.l0 k l0 0 (wrap64 ((l0.length : Int) - 1))
def slices_Reverse_int_int.T3 : Bool × List (List Nat × List Nat) := (true, [([], []), ([], []), ([], []), ([], []), ([], []), ([], []), ([4, 5], [4, 5]), ([6], [6]), ([], []), ([], []), ([8, 9], [8, 9]), ([10], [10]), ([0, 1, 0, 1, 4, 5, 6, 7, 11], [0, 1]), ([12, 7, 0, 1, 4, 5, 6, 7, 11], [7, 12]), ([2, 3, 0, 1, 2, 3, 4, 5, 6, 7, 8, 9, 10, 11, 12, 13], [2, 3]), ([14, 11, 13, 0, 1, 2, 3, 4, 5, 6, 7, 8, 9, 10, 11, 12, 13], [11, 14])])
def slices_Reverse_int_int.B3 : List Nat := [0, 0, 0, 0, 0, 0, 48, 112, 0, 0, 768, 1792, 4083, 8179, 16383, 32767]
theorem slices_Reverse_int_int.tab3 : rtab .any (opsOf Try.f27 3) = slices_Reverse_int_int.T3 := by kernel_rfl
theorem slices_Reverse_int_int.bits3 : waitsOk slices_Reverse_int_int.T3.2 slices_Reverse_int_int.B3 = true := by kernel_rfl
theorem slices_Reverse_int_int.calls (k : Nat) (P0_ : Nat → Prop) (u9000_ : Value) (l0 : List Int) (r : List Int) (w0 w : World) (hB : Below w0.heap.size w0 w) (ho0 : Kd.R (Kd.int .i64) 3 w w0.heap.size P0_ u9000_ l0) (h : slices_Reverse_int_int.f k l0 = some r) :
    Calls Try.prog 27 #[u9000_] w fun e w' => e = .returned (.tuple #[]) ∧ Kd.R (Kd.int .i64) 3 w' w0.heap.size (fun k_ => (P0_ k_ ∨ w.heap.size ≤ k_)) u9000_ r ∧ Below w0.heap.size w0 w' ∧ Kept w w' (fun k_ => P0_ k_) := by
  have HO0 := zMk (show Kd.R (Kd.int .i64) 3 w w0.heap.size (fun k_ => (P0_ k_ ∨ w.heap.size ≤ k_)) u9000_ l0 from zRm ho0 (fun k_ hk => (.inl hk)))
  have HK := zMk (Kept.refl w (fun k_ => P0_ k_))
  have HW0 := zMk hB.size
  have HB := zMk hB
  clear hB
  have H : (slices_Reverse_int_int.l0 k l0 0 (wrap64 ((l0.length : Int) - 1))) = some r := h
  clear h
  have H' := zMk H
  clear H
  obtain ⟨Ao2, co2, eo2⟩ := zRs HO0.out
  subst eo2
  go_enter Try.func27, Try.ntmps27
  go_wp2
  go_loopg [2, 3] k (fun kq v2 v3 w' => ∃ (x0_1 : List Int) (x2_1 : Int) (x3_1 : Int), v2 = .int .i64 x2_1 ∧ v3 = .int .i64 x3_1 ∧ Aside0 (slices_Reverse_int_int.l0 kq x0_1 x2_1 x3_1 = some r) ∧ Aside0 (kq ≤ k) ∧ Aside0 (Kd.R (Kd.int .i64) 3 w' w0.heap.size (fun k_ => (P0_ k_ ∨ w.heap.size ≤ k_)) (.slice Ao2 l0.length co2) x0_1) ∧ Aside0 (Kept w w' (fun k_ => P0_ k_)) ∧ Aside0 (Below w0.heap.size w0 w'))
  case atStart => exact ⟨(l0), (0), (wrap64 ((l0.length : Int) - 1)), (by first | rfl | (simp; done) | (simp [*]; done)), (by first | rfl | (simp; done) | (simp [*]; done)), H', ⟨Nat.le_refl _⟩, ⟨by exact uR HO0.out⟩, ⟨by repeat (first | (with_reducible first | exact HK.out | apply Kept.alloc | apply Kept.drewN | apply Kept.drew) | exact HK.out)⟩, ⟨by exact uT HB.out⟩⟩
  clear H'
  obtain ⟨x0_1, x2_1, x3_1, rfl, rfl, HA, HK1, HO_0, HK, HB⟩ := hrel
  have hl0_1 := (zRr HO_0.out).1
  rw [hl0_1] at HO_0
  (try simp only [hl0_1])
  rcases gk with _ | k1
  · exact absurd HA.out (by simp [slices_Reverse_int_int.l0])
  have H := HA.out
  clear HA
  simp only [slices_Reverse_int_int.l0] at H
  by_cases c3 : x2_1 < x3_1
  · rw [if_pos c3] at H
    have c3b0 : decide (x2_1 < x3_1) = true := decide_eq_true c3
    (try (have c3b0l := c3b0; simp only [hl0_1] at c3b0l))
    clear c3
    by_cases c4 : 0 ≤ x3_1
    rotate_left
    · rw [if_neg c4] at H; exact absurd H (by simp)
    rw [if_pos c4] at H
    have c4b0 : decide (0 ≤ x3_1) = true := decide_eq_true c4
    (try (have c4b0l := c4b0; simp only [hl0_1] at c4b0l))
    clear c4
    by_cases c5 : x3_1 < (x0_1.length : Int)
    rotate_left
    · rw [if_neg c5] at H; exact absurd H (by simp)
    rw [if_pos c5] at H
    have c5b0 : decide (x3_1 < (x0_1.length : Int)) = true := decide_eq_true c5
    (try (have c5b0l := c5b0; simp only [hl0_1] at c5b0l))
    clear c5
    by_cases c6 : 0 ≤ x2_1
    rotate_left
    · rw [if_neg c6] at H; exact absurd H (by simp)
    rw [if_pos c6] at H
    have c6b0 : decide (0 ≤ x2_1) = true := decide_eq_true c6
    (try (have c6b0l := c6b0; simp only [hl0_1] at c6b0l))
    clear c6
    by_cases c7 : x2_1 < (x0_1.length : Int)
    rotate_left
    · rw [if_neg c7] at H; exact absurd H (by simp)
    rw [if_pos c7] at H
    have c7b0 : decide (x2_1 < (x0_1.length : Int)) = true := decide_eq_true c7
    (try (have c7b0l := c7b0; simp only [hl0_1] at c7b0l))
    clear c7
    obtain ⟨y149, hy149⟩ : ∃ y_ : List Int, y_ = (x0_1.set (x2_1 : Int).toNat (rd x0_1 x3_1)) := ⟨_, rfl⟩
    replace H : (slices_Reverse_int_int.l0 k1 (y149.set (x3_1 : Int).toNat (rd x0_1 x2_1)) (wrap64 (x2_1 + 1)) (wrap64 (x3_1 - 1))) = some r := by first | (rw [hy149]; with_reducible exact H) | (have H2_ := bsm H; first | (rw [hy149]; with_reducible exact H2_) | with_reducible exact H2_) | with_reducible exact H | (rw [hy149]; exact H) | exact H
    have Ny149 := zMk hy149
    clear hy149
    obtain ⟨y150, hy150⟩ : ∃ y_ : List Int, y_ = (y149.set (x3_1 : Int).toNat (rd x0_1 x2_1)) := ⟨_, rfl⟩
    replace H : (slices_Reverse_int_int.l0 k1 y150 (wrap64 (x2_1 + 1)) (wrap64 (x3_1 - 1))) = some r := by first | (rw [hy150]; with_reducible exact H) | (have H2_ := bsm H; first | (rw [hy150]; with_reducible exact H2_) | with_reducible exact H2_) | with_reducible exact H | (rw [hy150]; exact H) | exact H
    have Ny150 := zMk hy150
    clear hy150
    have H' := zMk H
    clear H
    try go_wp2
    replace HO_0 := zMk (zRd HO_0.out)
    replace HK := zMk (Kept.drew HK.out)
    replace HB := zMk (zBd HB.out)
    have p147 : 0 ≤ (x3_1 : Int) := of_decide_eq_true (by assumption)
    have q147 : x3_1 < (x0_1.length : Int) := of_decide_eq_true (by assumption)
    obtain ⟨ad147, e147, hx147_0⟩ := zAi (zRr HO_0.out).2.2 x3_1 p147 q147
    cases e147
    replace p147 := eq_true p147
    replace q147 := eq_true q147
    have p148 : 0 ≤ (x2_1 : Int) := of_decide_eq_true (by assumption)
    have q148 : x2_1 < (x0_1.length : Int) := of_decide_eq_true (by assumption)
    obtain ⟨ad148, e148, hx148_0⟩ := zAi (zRr HO_0.out).2.2 x2_1 p148 q148
    obtain rfl : ad147 = ad148 := (by injection e148)
    replace p148 := eq_true p148
    replace q148 := eq_true q148
    have p8 : 0 ≤ (x2_1 : Int) := of_decide_eq_true (by assumption)
    have q8 : (x2_1 : Int) < ((x0_1.length : Int) : Int) := of_decide_eq_true (by assumption)
    obtain ⟨go8, co8, eo8, gb8, gl8, cl8, HG8⟩ := Kd.R_form HO_0.out (by omega)
    (first |  cases eo8|  (injection eo8 with ea_ en_ ec_; (first |  subst ea_|  (injection ea_ with ea_; subst ea_)); subst ec_; clear en_))
    have GB8 := zMk gb8
    have IGB8 := ownGe GB8.out
    have GG8 := zMk HG8
    clear gb8 gl8 HG8
    have HMgo8 := zMk (show (P0_ go8 ∨ w.heap.size ≤ go8) from (HO_0.out.1 _ rfl))
    (first | simp only [add_plain] at hx147_0 | skip)
    (first | simp only [add_plain] at hx148_0 | skip)
    obtain ⟨hx8_0, hf8_0⟩ := Kd.R_celln 0 HO_0.out (x2_1 : Int) p8 q8
    replace p8 := eq_true p8
    replace q8 := eq_true q8
    have HP11 := Kd.R_putn HO_0.out (x2_1 : Int) (rd x0_1 x3_1)
    rw [← Ny149.out] at HP11
    have HQ11 := zMk HP11
    clear HP11
    have p9 : 0 ≤ (x3_1 : Int) := of_decide_eq_true (by assumption)
    have q9 : (x3_1 : Int) < ((x0_1.length : Int) : Int) := of_decide_eq_true (by assumption)
    obtain ⟨hx9_0, hf9_0⟩ := Kd.R_celln 0 HQ11.out (x3_1 : Int) p9 q9
    replace p9 := eq_true p9
    replace q9 := eq_true q9
    have HP12 := Kd.R_putn HQ11.out (x3_1 : Int) (rd x0_1 x2_1)
    rw [← Ny150.out] at HP12
    have HQ12 := zMk HP12
    clear HP12
    refine start_ (n := 16) (S := fun w' => w'.cell? ⟨go8, (x3_1).toNat, none⟩ = some (.int .i64 (rd x0_1 x3_1)) ∧ w'.cell? ⟨go8, (x2_1).toNat, none⟩ = some (.int .i64 (rd x0_1 x2_1))) (ds := [13, 15]) #[false, false, false, false, false, false, false, false, false, false, false, false, false, false, false, false] (by kernel_rfl) rfl rfl ⟨hx147_0, hx148_0⟩ (fun hHeld => ?_); refine with_tabW slices_Reverse_int_int.tab3 slices_Reverse_int_int.bits3 (fun HT_ HW_ => ?_)
    generalize wr.drew = w10 at HO_0 HK HB GG8 HQ11 HQ12 hf8_0 hf9_0 hx147_0 hx148_0 hx8_0 hx9_0 hHeld ⊢
    refine pure_ (i := 0) (N := some 14) (v := ?_) (a' := ?_) #[true, false, false, false, false, false, false, false, false, false, false, false, false, false, false, false] rfl rfl (any_of HT_.out (by kernel_rfl)) (fun _ _ _ h => h) (Or.inl ⟨by rfl, ?_⟩) ?_ ?_
    rotate_left
    · intro w'
      go_simp
      with_reducible rfl
    rotate_left
    · simp only [Act.put, zSa, zSb, zSc, i64_w, i32_w]
      rfl
    refine pure_ (i := 1) (N := some 15) (v := ?_) (a' := ?_) #[true, true, false, false, false, false, false, false, false, false, false, false, false, false, false, false] rfl rfl (any_of HT_.out (by kernel_rfl)) (fun _ _ _ h => h) (Or.inl ⟨by rfl, ?_⟩) ?_ ?_
    rotate_left
    · intro w'
      go_simp
      with_reducible rfl
    rotate_left
    · simp only [Act.put, zSa, zSb, zSc, i64_w, i32_w]
      rfl
    refine pure_ (i := 2) (N := some 16) (v := ?_) (a' := ?_) #[true, true, true, false, false, false, false, false, false, false, false, false, false, false, false, false] rfl rfl (any_of HT_.out (by kernel_rfl)) (fun _ _ _ h => h) (Or.inl ⟨by rfl, ?_⟩) ?_ ?_
    rotate_left
    · intro w'
      go_simp
      with_reducible rfl
    rotate_left
    · simp only [Act.put, zSa, zSb, zSc, i64_w, i32_w]
      rfl
    refine pure_ (i := 3) (N := some 17) (v := ?_) (a' := ?_) #[true, true, true, true, false, false, false, false, false, false, false, false, false, false, false, false] rfl rfl (any_of HT_.out (by kernel_rfl)) (fun _ _ _ h => h) (Or.inl ⟨by rfl, ?_⟩) ?_ ?_
    rotate_left
    · intro w'
      go_simp
      with_reducible rfl
    rotate_left
    · simp only [Act.put, zSa, zSb, zSc, i64_w, i32_w]
      rfl
    refine pure_ (i := 4) (N := some 18) (v := ?_) (a' := ?_) #[true, true, true, true, true, false, false, false, false, false, false, false, false, false, false, false] rfl rfl (any_of HT_.out (by kernel_rfl)) (fun _ _ _ h => h) (Or.inl ⟨by rfl, ?_⟩) ?_ ?_
    rotate_left
    · intro w'
      go_simp
      with_reducible rfl
    rotate_left
    · simp only [Act.put, zSa, zSb, zSc, i64_w, i32_w]
      rfl
    refine pure_ (i := 5) (N := some 19) (v := ?_) (a' := ?_) #[true, true, true, true, true, true, false, false, false, false, false, false, false, false, false, false] rfl rfl (any_of HT_.out (by kernel_rfl)) (fun _ _ _ h => h) (Or.inl ⟨by rfl, ?_⟩) ?_ ?_
    rotate_left
    · intro w'
      go_simp
      with_reducible rfl
    rotate_left
    · simp only [Act.put, zSa, zSb, zSc, i64_w, i32_w]
      rfl
    refine pure_ (i := 6) (N := some 20) (v := ?_) (a' := ?_) #[true, true, true, true, true, true, true, false, false, false, false, false, false, false, false, false] rfl rfl (any_of HT_.out (by kernel_rfl)) (fun _ _ _ h => h) (Or.inl ⟨by rfl, ?_⟩) ?_ ?_
    rotate_left
    · intro w'
      go_simp
      with_reducible rfl
    rotate_left
    · simp only [Act.put, zSa, zSb, zSc, i64_w, i32_w]
      rfl
    refine pure_ (i := 8) (N := some 22) (v := ?_) (a' := ?_) #[true, true, true, true, true, true, true, false, true, false, false, false, false, false, false, false] rfl rfl (any_of HT_.out (by kernel_rfl)) (fun _ _ _ h => h) (Or.inl ⟨by rfl, ?_⟩) ?_ ?_
    rotate_left
    · intro w'
      go_simp
      with_reducible rfl
    rotate_left
    · simp only [Act.put, zSa, zSb, zSc, i64_w, i32_w]
      rfl
    refine pure_ (i := 9) (N := some 23) (v := ?_) (a' := ?_) #[true, true, true, true, true, true, true, false, true, true, false, false, false, false, false, false] rfl rfl (any_of HT_.out (by kernel_rfl)) (fun _ _ _ h => h) (Or.inl ⟨by rfl, ?_⟩) ?_ ?_
    rotate_left
    · intro w'
      go_simp
      with_reducible rfl
    rotate_left
    · simp only [Act.put, zSa, zSb, zSc, i64_w, i32_w]
      rfl
    refine pure_ (i := 10) (N := some 24) (v := ?_) (a' := ?_) #[true, true, true, true, true, true, true, false, true, true, true, false, false, false, false, false] rfl rfl (any_of HT_.out (by kernel_rfl)) (fun _ _ _ h => h) (Or.inl ⟨by rfl, ?_⟩) ?_ ?_
    rotate_left
    · intro w'
      go_simp
      with_reducible rfl
    rotate_left
    · simp only [Act.put, zSa, zSb, zSc, i64_w, i32_w]
      rfl
    refine take_ (i := 7) (N := some 21) (v := ?_) (a' := ?_) #[true, true, true, true, true, true, true, true, true, true, true, false, false, false, false, false] rfl rfl (take_ofW HT_.out HW_.out (by kernel_rfl)) (fun _ _ _ h => h) (Or.inl ⟨by rfl, ?_⟩) hHeld ?_ ?_
    rotate_left
    · rintro w' ⟨s0, s1⟩
      go_simp
      with_reducible rfl
    rotate_left
    · simp only [Act.put, zSa, zSb, zSc, i64_w, i32_w]
      rfl
    refine take_ (i := 11) (N := some 25) (v := ?_) (a' := ?_) #[true, true, true, true, true, true, true, true, true, true, true, true, false, false, false, false] rfl rfl (take_ofW HT_.out HW_.out (by kernel_rfl)) (fun _ _ _ h => h) (Or.inl ⟨by rfl, ?_⟩) hHeld ?_ ?_
    rotate_left
    · rintro w' ⟨s0, s1⟩
      go_simp
      with_reducible rfl
    rotate_left
    · simp only [Act.put, zSa, zSb, zSc, i64_w, i32_w]
      rfl
    refine pure_ (i := 12) (N := some 26) (v := ?_) (a' := ?_) #[true, true, true, true, true, true, true, true, true, true, true, true, true, false, false, false] rfl rfl (any_of HT_.out (by kernel_rfl)) (fun _ _ _ h => h) (Or.inl ⟨by rfl, ?_⟩) ?_ ?_
    rotate_left
    · intro w'
      go_simp
      with_reducible rfl
    rotate_left
    · simp only [Act.put, zSa, zSb, zSc, i64_w, i32_w]
      rfl
    refine last_ (i := 13) (N := none) #[true, true, true, true, true, true, true, true, true, true, true, true, true, true, false, false] rfl rfl (one_of HT_.out (by kernel_rfl)) (by decide) (fun K hK => ?_)
    refine skip_ (w1 := ?_) (by rfl) rfl ?_ ?_
    rotate_left
    · go_simp
      rfl
    refine hK.out _ _ ?_
    clear hK K
    refine pure_ (i := 14) (N := some 27) (v := ?_) (a' := ?_) #[true, true, true, true, true, true, true, true, true, true, true, true, true, true, true, false] rfl rfl (any_of HT_.out (by kernel_rfl)) (fun _ _ _ h => h) (Or.inl ⟨by rfl, ?_⟩) ?_ ?_
    rotate_left
    · intro w'
      go_simp
      with_reducible rfl
    rotate_left
    · simp only [Act.put, zSa, zSb, zSc, i64_w, i32_w]
      rfl
    refine last_ (i := 15) (N := none) #[true, true, true, true, true, true, true, true, true, true, true, true, true, true, true, true] rfl rfl (one_of HT_.out (by kernel_rfl)) (by decide) (fun K hK => ?_)
    refine skip_ (w1 := ?_) (by rfl) rfl ?_ ?_
    rotate_left
    · go_simp
      rfl
    refine hK.out _ _ ?_
    clear hK K
    refine done_ (done_of HT_.out (by kernel_rfl)) ?_
    try go_wp2
    (try simp only [← hl0_1])
    go_roundg k1
    case measure => have := HK1.out; omega
    case rel => exact ⟨(y150), (wrap64 (x2_1 + 1)), (wrap64 (x3_1 - 1)), (by first | rfl | (simp; done) | (simp [*]; done)), (by first | rfl | (simp; done) | (simp [*]; done)), H', ⟨by have := HK1.out; omega⟩, ⟨by (try simp only [hl0_1]); exact uR HQ12.out⟩, ⟨by repeat (first | (with_reducible first | exact HK.out | apply Kept.alloc | apply Kept.drewN | apply Kept.drew | refine Kept.setCell ?_ HMgo8.out _ | refine Kept.setCell ?_ HMgo8.out _) | exact HK.out)⟩, ⟨by exact uT HB.out⟩⟩
  · rw [if_neg c3] at H
    have c3b0 : decide (x2_1 < x3_1) = false := decide_eq_false c3
    (try (have c3b0l := c3b0; simp only [hl0_1] at c3b0l))
    clear c3
    obtain rfl := zOi H
    go_wp2
    first | go_end0 | ((try simp only [Exit.inBlock, Exit.then]); refine bodyPost_ret (results_none rfl _ _ _) rfl ?_)
    exact ⟨by first | rfl | (simp [errW_none, errW_some] <;> rfl) | (simp [*, errW_none, errW_some] <;> rfl), (by first | exact (by exact uR HO_0.out) | (simp only [hl0_1]; exact (by exact uR HO_0.out))), by exact uT HB.out, by repeat (first | (with_reducible first | exact HK.out | apply Kept.alloc | apply Kept.drewN | apply Kept.drew) | exact HK.out)⟩

end Go.Proofs.Ytnigaojboililaa.A
