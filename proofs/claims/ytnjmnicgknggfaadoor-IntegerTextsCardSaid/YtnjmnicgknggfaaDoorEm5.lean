/- Lemmas for the statement: the walks of the functions that it reaches, and plain laws. -/
import Derived.Test.YtnjmnicgknggfaaDoorEm1
import Derived.Test.YtnjmnicgknggfaaDoorEm2
import Derived.KernelRfl
import Derived.OpenShut
import Derived.Test.YtnjmnicgknggfaaDoorEm4
import Derived.Test.YtnjmnicgknggfaaDoorEm3
import Derived.Lib.ItoaNum
import Derived.Lib.Repeat
import Derived.Lib.Join
set_option linter.unusedVariables false
set_option linter.unusedSimpArgs false
namespace Go.Proofs.YtnjmnicgknggfaaDoor.E
open Go Go.RowKit Go.Proofs.YtnjmnicgknggfaaDoorW.PrintWords Go.Proofs.YtnjmnicgknggfaaDoorW.PrintLast Go.Proofs.YtnjmnicgknggfaaDoorW.PrintMore
attribute [local go_sem] max2_int min2_int max_two min_two max_three min_three max_four min_four
open Go.Proofs.YtnjmnicgknggfaaDoorW.PrintWords.Kd renaming R_alloc → zRa, R_drewN → zRn, R_drew → zRd, V_alloc → zVa, V_drewN → zVn, V_drew → zVd, V_below → zVb, C_alloc → zCa, C_drewN → zCn, C_drew → zCd, R_mono → zRm, V_mono → zVm, at_int → zAi, R_elder' → zRe, R_lower → zRl, R_new' → zRw, R_lt → zRt, R_below → zRb, R_base → zRz, R_reads' → zRr, R_slice → zRs, V_elder' → zVe, V_lower → zVl, V_slice → zVs, V_reads' → zVr
open Go.Proofs.YtnjmnicgknggfaaDoorW.PrintWords renaming pw_below_drewN → zBn, below_alloc → zBa, below_drew1 → zBd, below_size → zBs, below_step → zBt, blk_drewN → zKn, blk_drew → zKd, blk_alloc → zKa, blk_below → zKb, blk_cell → zKc, blk_frozen → zKf
open List renaming setIfInBounds_toArray → zSa, set_cons_zero → zSb, set_cons_succ → zSc, length_drop → zLd, length_take → zLt, map_toArray → zMa, map_cons → zMc, map_nil → zMn, length_cons → zLc, length_nil → zLn
open Go.Proofs.YtnjmnicgknggfaaDoorW.PrintWords.Aside0 renaming mk → zMk
open Option renaming bind_eq_some_iff → zBi, bind_some → zOb
open Option.some renaming inj → zOi
open Int renaming toNat_natCast → zTn

/-! ### integer_Add: function 17 -/
def integer_Add.f (k : Nat) (a0_0 : Bool) (l0_1 : List Int) (a1_0 : Bool) (l1_1 : List Int) : Option (Bool × List Int) := if (a0_0 == a1_0) = true then ((n_Add.f k l0_1 l1_1).bind fun t852 => ((integer_signed.f a0_0 t852).bind fun bt855 => (some (bt855.1, bt855.2)))) else ((n_Sub.f k l0_1 l1_1).bind fun bt859 => (if bt859.2 = 0 then ((integer_signed.f a0_0 bt859.1).bind fun bt863 => (some (bt863.1, bt863.2))) else ((n_Sub.f k l1_1 l0_1).bind fun bt867 => ((integer_signed.f a1_0 bt867.1).bind fun bt871 => (some (bt871.1, bt871.2))))))
def integer_Add.T2 : Bool × List (List Nat × List Nat) := (true, [([], []), ([0], [0]), ([], []), ([2], [2]), ([], []), ([4], [4]), ([3, 5], [3, 5]), ([1, 6, 6], [1, 6]), ([7, 7, 0, 1, 2, 3, 4, 5, 6, 7], [7])])
def integer_Add.B2 : List Nat := [0, 1, 0, 4, 0, 16, 60, 127, 255]
theorem integer_Add.tab2 : rtab .any (opsOf Tryd.f17 2) = integer_Add.T2 := by kernel_rfl
theorem integer_Add.bits2 : waitsOk integer_Add.T2.2 integer_Add.B2 = true := by kernel_rfl
set_option maxHeartbeats 8000000 in
set_option maxRecDepth 100000 in
theorem integer_Add.calls (k : Nat) (a0_0 : Bool) (A0_1 : Option Addr) (c0_1 : Nat) (l0_1 : List Int) (a1_0 : Bool) (A1_1 : Option Addr) (c1_1 : Nat) (l1_1 : List Int) (r1 : Bool) (r2 : List Int) (w : World) (hr0_1 : Kd.C (Kd.int .u32) w A0_1 l0_1.length l0_1) (hc0_1 : l0_1.length ≤ c0_1) (hr1_1 : Kd.C (Kd.int .u32) w A1_1 l1_1.length l1_1) (hc1_1 : l1_1.length ≤ c1_1) (h : integer_Add.f k a0_0 l0_1 a1_0 l1_1 = some (r1, r2)) :
    Calls Tryd.prog 17 #[.agg #[.bool a0_0, .slice A0_1 l0_1.length c0_1], .agg #[.bool a1_0, .slice A1_1 l1_1.length c1_1]] w fun e w' => ∃ v1_ : Value, e = .returned (.agg #[.bool r1, v1_]) ∧ Kd.R (Kd.int .u32) 58 w' w.heap.size (fun _ => True) v1_ r2 ∧ Below w.heap.size w w' := by
  have hu24 := Tryd.underlying24
  have HR0_1 := zMk hr0_1
  have HC0_1 := zMk hc0_1
  clear hr0_1 hc0_1
  have HR1_1 := zMk hr1_1
  have HC1_1 := zMk hc1_1
  clear hr1_1 hc1_1
  have HB := zMk (Below.refl w.heap.size w)
  have H : (if (a0_0 == a1_0) = true then ((n_Add.f k l0_1 l1_1).bind fun t852 => ((integer_signed.f a0_0 t852).bind fun bt855 => (some (bt855.1, bt855.2)))) else ((n_Sub.f k l0_1 l1_1).bind fun bt859 => (if bt859.2 = 0 then ((integer_signed.f a0_0 bt859.1).bind fun bt863 => (some (bt863.1, bt863.2))) else ((n_Sub.f k l1_1 l0_1).bind fun bt867 => ((integer_signed.f a1_0 bt867.1).bind fun bt871 => (some (bt871.1, bt871.2))))))) = some (r1, r2) := h
  clear h
  by_cases c3 : (a0_0 == a1_0) = true
  · rw [if_pos c3] at H
    have c3b0 : (a0_0 == a1_0) = true := c3
    (try (have c3b1 : decide (a0_0 = a1_0) = true := by simpa using c3))
    (try (have c3b2 : (a0_0 == a1_0) = true := by simpa using c3))
    clear c3
    replace H := bnd H
    obtain ⟨t852, A40, H⟩ := H
    have A4 := zMk A40
    clear A40
    replace H := bnd H
    obtain ⟨⟨t855, t856⟩, A50, H⟩ := H
    replace H : (some (t855, t856)) = some (r1, r2) := H
    have A5 := zMk A50
    clear A50
    simp only [Option.some.injEq, Prod.mk.injEq] at H
    obtain ⟨rfl, rfl⟩ := H
    go_enter Tryd.func17, Tryd.ntmps17
    try go_wp2_with (first |  ((with_reducible refine gate_dst (N := 2) rfl ?_); refine box_event ?hg (N := 2) ?hd (cs := #[.bool a0_0, .slice A0_1 l0_1.length c0_1]) (t := 24) ?hr ?_; (case hd => rfl); (case hg => rfl); (case hr => first |  (go_simp; done)|  (go_simp; rfl)|  (go_simp; rw [show ∀ x : Int, IntKind.u32.wrap (IntKind.u8.wrap x) = x % 256 from fun x => (by show (x % 256) % 4294967296 = x % 256; omega)])); intro gb849 hg w6 hbox hb; have BK849 := zMk (hbox); have GW849 := zMk ((by rw [hg]; exact (zBs (by exact uT HB.out)) : w.heap.size ≤ gb849)); have GE849 := zMk ((by rw [hg]; exact (zBs (by exact uT HB.out)) : w.heap.size ≤ gb849)); have IGE849 := ownGe GE849.out; replace HB := zMk (zBt (by exact uT HB.out) hb); clear hb hbox hg)|  ((with_reducible refine gate_dst (N := 3) rfl ?_); refine box_event ?hg (N := 3) ?hd (cs := #[.bool a1_0, .slice A1_1 l1_1.length c1_1]) (t := 24) ?hr ?_; (case hd => rfl); (case hg => rfl); (case hr => first |  (go_simp; done)|  (go_simp; rfl)|  (go_simp; rw [show ∀ x : Int, IntKind.u32.wrap (IntKind.u8.wrap x) = x % 256 from fun x => (by show (x % 256) % 4294967296 = x % 256; omega)])); intro gb850 hg w7 hbox hb; have BK850 := zMk (hbox); have GW850 := zMk ((by rw [hg]; exact (zBs (by exact uT HB.out)) : w.heap.size ≤ gb850)); have GE850 := zMk ((by rw [hg]; exact (zBs (by exact uT HB.out)) : w.heap.size ≤ gb850)); have IGE850 := ownGe GE850.out; replace HB := zMk (zBt (by exact uT HB.out) hb); have NB849_850 := zMk ((by rw [hg]; exact Nat.ne_of_lt (blk_lt (g := gb849) (o := .cells #[.bool a0_0, .slice A0_1 l0_1.length c0_1] 24 (0, 0)) (by (with_reducible repeat (first |  refine zKn ?_ _|  refine zKd ?_|  refine zKa ?_ _)); exact BK849.out)) : gb849 ≠ gb850)); have NB850_849 := zMk ((by rw [hg]; exact Nat.ne_of_gt (blk_lt (g := gb849) (o := .cells #[.bool a0_0, .slice A0_1 l0_1.length c0_1] 24 (0, 0)) (by (with_reducible repeat (first |  refine zKn ?_ _|  refine zKd ?_|  refine zKa ?_ _)); exact BK849.out)) : gb850 ≠ gb849)); replace BK849 := zMk (zKb (g := gb849) (o := .cells #[.bool a0_0, .slice A0_1 l0_1.length c0_1] 24 (0, 0)) (by (with_reducible repeat (first |  refine zKn ?_ _|  refine zKd ?_|  refine zKa ?_ _)); exact BK849.out) hb); clear hb hbox hg)|  ((with_reducible refine gate_dst (N := 4) rfl ?_); refine box_event ?hg (N := 4) ?hd (cs := #[.bool false, .slice none 0 0]) (t := 24) ?hr ?_; (case hd => rfl); (case hg => rfl); (case hr => first |  (go_simp; done)|  (go_simp; rfl)|  (go_simp; rw [show ∀ x : Int, IntKind.u32.wrap (IntKind.u8.wrap x) = x % 256 from fun x => (by show (x % 256) % 4294967296 = x % 256; omega)])); intro gb851 hg w8 hbox hb; have BK851 := zMk (hbox); have GW851 := zMk ((by rw [hg]; exact (zBs (by exact uT HB.out)) : w.heap.size ≤ gb851)); have GE851 := zMk ((by rw [hg]; exact (zBs (by exact uT HB.out)) : w.heap.size ≤ gb851)); have IGE851 := ownGe GE851.out; replace HB := zMk (zBt (by exact uT HB.out) hb); have NB849_851 := zMk ((by rw [hg]; exact Nat.ne_of_lt (blk_lt (g := gb849) (o := .cells #[.bool a0_0, .slice A0_1 l0_1.length c0_1] 24 (0, 0)) (by (with_reducible repeat (first |  refine zKn ?_ _|  refine zKd ?_|  refine zKa ?_ _)); exact BK849.out)) : gb849 ≠ gb851)); have NB851_849 := zMk ((by rw [hg]; exact Nat.ne_of_gt (blk_lt (g := gb849) (o := .cells #[.bool a0_0, .slice A0_1 l0_1.length c0_1] 24 (0, 0)) (by (with_reducible repeat (first |  refine zKn ?_ _|  refine zKd ?_|  refine zKa ?_ _)); exact BK849.out)) : gb851 ≠ gb849)); replace BK849 := zMk (zKb (g := gb849) (o := .cells #[.bool a0_0, .slice A0_1 l0_1.length c0_1] 24 (0, 0)) (by (with_reducible repeat (first |  refine zKn ?_ _|  refine zKd ?_|  refine zKa ?_ _)); exact BK849.out) hb); have NB850_851 := zMk ((by rw [hg]; exact Nat.ne_of_lt (blk_lt (g := gb850) (o := .cells #[.bool a1_0, .slice A1_1 l1_1.length c1_1] 24 (0, 0)) (by (with_reducible repeat (first |  refine zKn ?_ _|  refine zKd ?_|  refine zKa ?_ _)); exact BK850.out)) : gb850 ≠ gb851)); have NB851_850 := zMk ((by rw [hg]; exact Nat.ne_of_gt (blk_lt (g := gb850) (o := .cells #[.bool a1_0, .slice A1_1 l1_1.length c1_1] 24 (0, 0)) (by (with_reducible repeat (first |  refine zKn ?_ _|  refine zKd ?_|  refine zKa ?_ _)); exact BK850.out)) : gb851 ≠ gb850)); replace BK850 := zMk (zKb (g := gb850) (o := .cells #[.bool a1_0, .slice A1_1 l1_1.length c1_1] 24 (0, 0)) (by (with_reducible repeat (first |  refine zKn ?_ _|  refine zKd ?_|  refine zKa ?_ _)); exact BK850.out) hb); clear hb hbox hg; have hnb9 := NB849_850.out; have hnc9 := NB850_849.out; have hnb10 := NB849_851.out; have hnc10 := NB851_849.out; have hcz11_0 : w8.cell? ⟨gb849, 0, none⟩ = some (.bool a0_0) := (zKc BK849.out 0).trans rfl; have hcz11_1 : w8.cell? ⟨gb849, 1, none⟩ = some (.slice A0_1 l0_1.length c0_1) := (zKc BK849.out 1).trans rfl; have hfz11_0 := zKf BK849.out 0; have hfz11_1 := zKf BK849.out 1; have hnb12 := NB850_851.out; have hnc12 := NB851_850.out; have hcz13_0 : w8.cell? ⟨gb850, 0, none⟩ = some (.bool a1_0) := (zKc BK850.out 0).trans rfl; have hcz13_1 : w8.cell? ⟨gb850, 1, none⟩ = some (.slice A1_1 l1_1.length c1_1) := (zKc BK850.out 1).trans rfl; have hfz13_0 := zKf BK850.out 0; have hfz13_1 := zKf BK850.out 1))
    replace BK849 := zMk (zKd BK849.out)
    replace BK850 := zMk (zKd BK850.out)
    replace BK851 := zMk (zKd BK851.out)
    replace HB := zMk (zBd HB.out)
    refine start_ (n := 9) (S := fun w' => w'.cell? ⟨gb849, 0, none⟩ = some (.bool a0_0) ∧ w'.cell? ⟨gb849, 1, none⟩ = some (.slice A0_1 l0_1.length c0_1) ∧ w'.cell? ⟨gb850, 0, none⟩ = some (.bool a1_0) ∧ w'.cell? ⟨gb850, 1, none⟩ = some (.slice A1_1 l1_1.length c1_1)) (ds := []) #[false, false, false, false, false, false, false, false, false] (by kernel_rfl) rfl rfl ⟨(zKc BK849.out 0).trans rfl, (zKc BK849.out 1).trans rfl, (zKc BK850.out 0).trans rfl, (zKc BK850.out 1).trans rfl⟩ (fun hHeld => ?_); refine with_tabW integer_Add.tab2 integer_Add.bits2 (fun HT_ HW_ => ?_)
    generalize w8.drew = w14 at BK849 BK850 BK851 HB hHeld ⊢
    refine pure_ (i := 0) (N := some 12) (v := ?_) (a' := ?_) #[true, false, false, false, false, false, false, false, false] rfl rfl (any_of HT_.out (by kernel_rfl)) (fun _ _ _ h => h) (Or.inl ⟨by rfl, ?_⟩) ?_ ?_
    rotate_left
    · intro w'
      go_simp
      with_reducible rfl
    rotate_left
    · simp only [Act.put, zSa, zSb, zSc, i64_w, i32_w]
      rfl
    refine pure_ (i := 2) (N := some 14) (v := ?_) (a' := ?_) #[true, false, true, false, false, false, false, false, false] rfl rfl (any_of HT_.out (by kernel_rfl)) (fun _ _ _ h => h) (Or.inl ⟨by rfl, ?_⟩) ?_ ?_
    rotate_left
    · intro w'
      go_simp
      with_reducible rfl
    rotate_left
    · simp only [Act.put, zSa, zSb, zSc, i64_w, i32_w]
      rfl
    refine pure_ (i := 4) (N := some 16) (v := ?_) (a' := ?_) #[true, false, true, false, true, false, false, false, false] rfl rfl (any_of HT_.out (by kernel_rfl)) (fun _ _ _ h => h) (Or.inl ⟨by rfl, ?_⟩) ?_ ?_
    rotate_left
    · intro w'
      go_simp
      with_reducible rfl
    rotate_left
    · simp only [Act.put, zSa, zSb, zSc, i64_w, i32_w]
      rfl
    refine take_ (i := 1) (N := some 13) (v := ?_) (a' := ?_) #[true, true, true, false, true, false, false, false, false] rfl rfl (take_ofW HT_.out HW_.out (by kernel_rfl)) (fun _ _ _ h => h) (Or.inl ⟨by rfl, ?_⟩) hHeld ?_ ?_
    rotate_left
    · rintro w' ⟨s0, s1, s2, s3⟩
      go_simp
      with_reducible rfl
    rotate_left
    · simp only [Act.put, zSa, zSb, zSc, i64_w, i32_w]
      rfl
    refine take_ (i := 3) (N := some 15) (v := ?_) (a' := ?_) #[true, true, true, true, true, false, false, false, false] rfl rfl (take_ofW HT_.out HW_.out (by kernel_rfl)) (fun _ _ _ h => h) (Or.inl ⟨by rfl, ?_⟩) hHeld ?_ ?_
    rotate_left
    · rintro w' ⟨s0, s1, s2, s3⟩
      go_simp
      with_reducible rfl
    rotate_left
    · simp only [Act.put, zSa, zSb, zSc, i64_w, i32_w]
      rfl
    refine take_ (i := 5) (N := some 17) (v := ?_) (a' := ?_) #[true, true, true, true, true, true, false, false, false] rfl rfl (take_ofW HT_.out HW_.out (by kernel_rfl)) (fun _ _ _ h => h) (Or.inl ⟨by rfl, ?_⟩) hHeld ?_ ?_
    rotate_left
    · rintro w' ⟨s0, s1, s2, s3⟩
      go_simp
      with_reducible rfl
    rotate_left
    · simp only [Act.put, zSa, zSb, zSc, i64_w, i32_w]
      rfl
    refine one_ (i := 6) (N := some 18) #[true, true, true, true, true, true, true, false, false] rfl rfl (one_of HT_.out (by kernel_rfl)) (by decide) (fun K hK => ?_)
    refine goes_ Tryd.func33 (by kernel_rfl) rfl #[.slice A0_1 l0_1.length c0_1, .slice A1_1 l1_1.length c1_1] (by rfl) rfl rfl (by (try simp only [zMa, zMc, zMn]); first | done | rfl | (simp only [zLd, zLt]; rfl)) ?_
    with_reducible refine (n_Add.calls k (fun k_ => k_ < w.heap.size) _ _ l0_1 (fun k_ => k_ < w.heap.size) _ _ l1_1 t852 _ ?side1 ?side2 A4.out).mono ?_
    (case side1 => exact Kd.V_mk HC0_1.out (Kd.F_below (Kd.C_F (Kd.heap_int .u32) HR0_1.out) (by exact uT HB.out)))
    (case side2 => exact Kd.V_mk HC1_1.out (Kd.F_below (Kd.C_F (Kd.heap_int .u32) HR1_1.out) (by exact uT HB.out)))
    rintro e w15 ⟨v853, rfl, ho0, hb⟩
    refine ⟨_, rfl, ?_⟩
    have HO854 := zMk (zVl (zVm (ok' := fun k_ => k_ ≠ gb849 ∧ k_ ≠ gb850 ∧ k_ ≠ gb851) ho0 (fun k_ hk_ => ⟨Or.elim hk_ (fun hs_ => Or.elim hs_ (fun hs_ => fun e_ => Nat.not_le.2 hs_ (by rw [e_]; exact GW849.out)) (fun hs_ => fun e_ => Nat.not_le.2 hs_ (by rw [e_]; exact GW849.out))) (fun hn_ => (Kd.freshB (g := gb849) (o := .cells #[.bool a0_0, .slice A0_1 l0_1.length c0_1] 24 (0, 0)) (by (with_reducible repeat (first | refine zKn ?_ _ | refine zKd ?_ | refine zKa ?_ _)); exact BK849.out) k_ hn_)), Or.elim hk_ (fun hs_ => Or.elim hs_ (fun hs_ => fun e_ => Nat.not_le.2 hs_ (by rw [e_]; exact GW850.out)) (fun hs_ => fun e_ => Nat.not_le.2 hs_ (by rw [e_]; exact GW850.out))) (fun hn_ => (Kd.freshB (g := gb850) (o := .cells #[.bool a1_0, .slice A1_1 l1_1.length c1_1] 24 (0, 0)) (by (with_reducible repeat (first | refine zKn ?_ _ | refine zKd ?_ | refine zKa ?_ _)); exact BK850.out) k_ hn_)), Or.elim hk_ (fun hs_ => Or.elim hs_ (fun hs_ => fun e_ => Nat.not_le.2 hs_ (by rw [e_]; exact GW851.out)) (fun hs_ => fun e_ => Nat.not_le.2 hs_ (by rw [e_]; exact GW851.out))) (fun hn_ => (Kd.freshB (g := gb851) (o := .cells #[.bool false, .slice none 0 0] 24 (0, 0)) (by (with_reducible repeat (first | refine zKn ?_ _ | refine zKd ?_ | refine zKa ?_ _)); exact BK851.out) k_ hn_))⟩)) (zBs (by exact uT HB.out)))
    replace BK849 := zMk (zKb (g := gb849) (o := .cells #[.bool a0_0, .slice A0_1 l0_1.length c0_1] 24 (0, 0)) (by (with_reducible repeat (first | refine zKn ?_ _ | refine zKd ?_ | refine zKa ?_ _)); exact BK849.out) hb)
    replace BK850 := zMk (zKb (g := gb850) (o := .cells #[.bool a1_0, .slice A1_1 l1_1.length c1_1] 24 (0, 0)) (by (with_reducible repeat (first | refine zKn ?_ _ | refine zKd ?_ | refine zKa ?_ _)); exact BK850.out) hb)
    replace BK851 := zMk (zKb (g := gb851) (o := .cells #[.bool false, .slice none 0 0] 24 (0, 0)) (by (with_reducible repeat (first | refine zKn ?_ _ | refine zKd ?_ | refine zKa ?_ _)); exact BK851.out) hb)
    replace HB := zMk (zBt (by exact uT HB.out) hb)
    (try clear hb)
    (try clear hb2)
    (try clear hk)
    (try clear hi)
    (try clear ho0)
    obtain ⟨Ao16, co16, eo16⟩ := zVs HO854.out
    (first |  subst eo16|  (injection eo16 with f1_ f2_ f3_; have f4_ := f1_.symm; have f5_ := f3_.symm; clear f1_ f2_ f3_; subst f4_; subst f5_))
    refine hK.out _ _ ⟨(zKc BK849.out 0).trans rfl, (zKc BK849.out 1).trans rfl, (zKc BK850.out 0).trans rfl, (zKc BK850.out 1).trans rfl⟩ (fun hHeld => ?_)
    clear hK K
    refine norm_ (a' := ?_) ?_ ?_
    rotate_left
    · show Act.put _ (some 18) _ = _
      simp only [Act.put, zSa, zSb, zSc, i64_w, i32_w]
      rfl
    refine one_ (i := 7) (N := some 19) #[true, true, true, true, true, true, true, true, false] rfl rfl (one_of HT_.out (by kernel_rfl)) (by decide) (fun K hK => ?_)
    refine goes_ Tryd.func36 (by kernel_rfl) rfl #[.bool a0_0, .slice Ao16 t852.length co16] (by rfl) rfl rfl (by (try simp only [zMa, zMc, zMn]); first | done | rfl | (simp only [zLd, zLt]; rfl)) ?_
    with_reducible refine (integer_signed.calls a0_0 _ _ t852 t855 t856 _ ?side1 ?side2 A5.out).mono ?_
    (case side1 => exact uC (zVr HO854.out).2.2)
    (case side2 => exact (zVr HO854.out).2.1)
    rintro e w17 ⟨v857, rfl, ho0, hb⟩
    refine ⟨_, rfl, ?_⟩
    replace HO854 := zMk (zVe (by exact uV HO854.out) (zRz ho0) hb)
    have HO858 := zMk (zRl ho0 (zBs (by exact uT HB.out)))
    replace BK849 := zMk (zKb (g := gb849) (o := .cells #[.bool a0_0, .slice A0_1 l0_1.length c0_1] 24 (0, 0)) (by (with_reducible repeat (first | refine zKn ?_ _ | refine zKd ?_ | refine zKa ?_ _)); exact BK849.out) hb)
    replace BK850 := zMk (zKb (g := gb850) (o := .cells #[.bool a1_0, .slice A1_1 l1_1.length c1_1] 24 (0, 0)) (by (with_reducible repeat (first | refine zKn ?_ _ | refine zKd ?_ | refine zKa ?_ _)); exact BK850.out) hb)
    replace BK851 := zMk (zKb (g := gb851) (o := .cells #[.bool false, .slice none 0 0] 24 (0, 0)) (by (with_reducible repeat (first | refine zKn ?_ _ | refine zKd ?_ | refine zKa ?_ _)); exact BK851.out) hb)
    replace HB := zMk (zBt (by exact uT HB.out) hb)
    (try clear hb)
    (try clear hb2)
    (try clear hk)
    (try clear hi)
    (try clear ho0)
    obtain ⟨Ao19, co19, eo19⟩ := zRs HO858.out
    (first |  subst eo19|  (injection eo19 with f1_ f2_ f3_; have f4_ := f1_.symm; have f5_ := f3_.symm; clear f1_ f2_ f3_; subst f4_; subst f5_))
    refine hK.out _ _ ⟨(zKc BK849.out 0).trans rfl, (zKc BK849.out 1).trans rfl, (zKc BK850.out 0).trans rfl, (zKc BK850.out 1).trans rfl⟩ (fun hHeld => ?_)
    clear hK K
    refine norm_ (a' := ?_) ?_ ?_
    rotate_left
    · show Act.put _ (some 19) _ = _
      simp only [Act.put, zSa, zSb, zSc, i64_w, i32_w]
      rfl
    refine one_ (i := 8) (N := none) #[true, true, true, true, true, true, true, true, true] rfl rfl (one_of HT_.out (by kernel_rfl)) (by decide) (fun K hK => ?_)
    have hs18 : w17.cell? ⟨gb851, 0, none⟩ = some (.bool false) := (zKc BK851.out 0).trans rfl
    have hfs18 := zKf BK851.out 0
    have hns18_0 := NB849_851.out
    have hns18_1 := NB850_851.out
    have hms18_0 := NB851_849.out
    have hms18_1 := NB851_850.out
    have hs20 : w17.cell? ⟨gb851, 1, none⟩ = some (.slice none 0 0) := (zKc BK851.out 1).trans rfl
    have hfs20 := zKf BK851.out 1
    have hns20_0 := NB849_851.out
    have hns20_1 := NB850_851.out
    have hms20_0 := NB851_849.out
    have hms20_1 := NB851_850.out
    refine skip_ (w1 := ?_) (by rfl) rfl ?_ ?_
    rotate_left
    · go_simp
      rfl
    refine hK.out _ _ ⟨((cell_far (p := ⟨gb851, _, none⟩) NB849_851.out _).trans (((cell_far (p := ⟨gb851, _, none⟩) NB849_851.out _).trans (hHeld.1)))), ((cell_far (p := ⟨gb851, _, none⟩) NB849_851.out _).trans (((cell_far (p := ⟨gb851, _, none⟩) NB849_851.out _).trans (hHeld.2.1)))), ((cell_far (p := ⟨gb851, _, none⟩) NB850_851.out _).trans (((cell_far (p := ⟨gb851, _, none⟩) NB850_851.out _).trans (hHeld.2.2.1)))), ((cell_far (p := ⟨gb851, _, none⟩) NB850_851.out _).trans (((cell_far (p := ⟨gb851, _, none⟩) NB850_851.out _).trans (hHeld.2.2.2))))⟩ (fun hHeld => ?_)
    clear hK K
    refine done_ (done_of HT_.out (by kernel_rfl)) ?_
    try go_wp2
    refine bodyPost_ret (results_cell_row rfl _ _ gb851 24 #[.bool t855, .slice Ao19 t856.length co19] (0, 0) _ rfl (by (with_reducible repeat (first | refine zKn ?_ _ | refine zKd ?_ | refine zKa ?_ _)); refine blk_put (cs := #[.bool t855, .slice none 0 0]) ?_ 1 _ rfl; (with_reducible repeat (first | refine zKn ?_ _ | refine zKd ?_ | refine zKa ?_ _)); refine blk_put (cs := #[.bool false, .slice none 0 0]) ?_ 0 _ rfl; (with_reducible repeat (first | refine zKn ?_ _ | refine zKd ?_ | refine zKa ?_ _)); exact BK851.out) Tryd.underlying24 rfl (by kernel_rfl)) rfl ?_
    exact ⟨_, by first | rfl | (simp [errW_none, errW_some] <;> rfl) | (simp [*, errW_none, errW_some] <;> rfl), by (with_reducible repeat (first | apply zRa | apply zRn | apply zRd)); exact zRm (Kd.R_far (p := ⟨gb851, 1, none⟩) (Kd.R_far (p := ⟨gb851, 0, none⟩) (Kd.R_types HO858.out BK851.out (by decide)) (fun _ hk => hk.2) (.bool t855)) (fun _ hk => hk.2) (.slice Ao19 t856.length co19)) (fun _ hk => trivial), by exact uT HB.out⟩
  · rw [if_neg c3] at H
    have c3b0 : (a0_0 == a1_0) = false := by simpa using c3
    (try (have c3b1 : decide (a0_0 = a1_0) = false := by simpa using c3))
    (try (have c3b2 : (a0_0 == a1_0) = false := by simpa using c3))
    (try (have c3b3 : ¬ (a0_0 = a1_0) := by simpa using c3))
    clear c3
    replace H := bnd H
    obtain ⟨⟨t859, t862⟩, A210, H⟩ := H
    replace H : (if t862 = 0 then ((integer_signed.f a0_0 t859).bind fun bt863 => (some (bt863.1, bt863.2))) else ((n_Sub.f k l1_1 l0_1).bind fun bt867 => ((integer_signed.f a1_0 bt867.1).bind fun bt871 => (some (bt871.1, bt871.2))))) = some (r1, r2) := H
    have A21 := zMk A210
    clear A210
    by_cases c22 : t862 = 0
    · rw [if_pos c22] at H
      have c22b0 : (t862 == 0) = true := beq_iff_eq.mpr c22
      have c22b1 : (t862 != 0) = false := bne_eq_false_iff_eq.mpr c22
      clear c22
      replace H := bnd H
      obtain ⟨⟨t863, t864⟩, A230, H⟩ := H
      replace H : (some (t863, t864)) = some (r1, r2) := H
      have A23 := zMk A230
      clear A230
      simp only [Option.some.injEq, Prod.mk.injEq] at H
      obtain ⟨rfl, rfl⟩ := H
      go_enter Tryd.func17, Tryd.ntmps17
      go_wp2_with (first |  ((with_reducible refine gate_dst (N := 2) rfl ?_); refine box_event ?hg (N := 2) ?hd (cs := #[.bool a0_0, .slice A0_1 l0_1.length c0_1]) (t := 24) ?hr ?_; (case hd => rfl); (case hg => rfl); (case hr => first |  (go_simp; done)|  (go_simp; rfl)|  (go_simp; rw [show ∀ x : Int, IntKind.u32.wrap (IntKind.u8.wrap x) = x % 256 from fun x => (by show (x % 256) % 4294967296 = x % 256; omega)])); intro gb849 hg w24 hbox hb; have BK849 := zMk (hbox); have GW849 := zMk ((by rw [hg]; exact (zBs (by exact uT HB.out)) : w.heap.size ≤ gb849)); have GE849 := zMk ((by rw [hg]; exact (zBs (by exact uT HB.out)) : w.heap.size ≤ gb849)); have IGE849 := ownGe GE849.out; replace HB := zMk (zBt (by exact uT HB.out) hb); clear hb hbox hg)|  ((with_reducible refine gate_dst (N := 3) rfl ?_); refine box_event ?hg (N := 3) ?hd (cs := #[.bool a1_0, .slice A1_1 l1_1.length c1_1]) (t := 24) ?hr ?_; (case hd => rfl); (case hg => rfl); (case hr => first |  (go_simp; done)|  (go_simp; rfl)|  (go_simp; rw [show ∀ x : Int, IntKind.u32.wrap (IntKind.u8.wrap x) = x % 256 from fun x => (by show (x % 256) % 4294967296 = x % 256; omega)])); intro gb850 hg w25 hbox hb; have BK850 := zMk (hbox); have GW850 := zMk ((by rw [hg]; exact (zBs (by exact uT HB.out)) : w.heap.size ≤ gb850)); have GE850 := zMk ((by rw [hg]; exact (zBs (by exact uT HB.out)) : w.heap.size ≤ gb850)); have IGE850 := ownGe GE850.out; replace HB := zMk (zBt (by exact uT HB.out) hb); have NB849_850 := zMk ((by rw [hg]; exact Nat.ne_of_lt (blk_lt (g := gb849) (o := .cells #[.bool a0_0, .slice A0_1 l0_1.length c0_1] 24 (0, 0)) (by (with_reducible repeat (first |  refine zKn ?_ _|  refine zKd ?_|  refine zKa ?_ _)); exact BK849.out)) : gb849 ≠ gb850)); have NB850_849 := zMk ((by rw [hg]; exact Nat.ne_of_gt (blk_lt (g := gb849) (o := .cells #[.bool a0_0, .slice A0_1 l0_1.length c0_1] 24 (0, 0)) (by (with_reducible repeat (first |  refine zKn ?_ _|  refine zKd ?_|  refine zKa ?_ _)); exact BK849.out)) : gb850 ≠ gb849)); replace BK849 := zMk (zKb (g := gb849) (o := .cells #[.bool a0_0, .slice A0_1 l0_1.length c0_1] 24 (0, 0)) (by (with_reducible repeat (first |  refine zKn ?_ _|  refine zKd ?_|  refine zKa ?_ _)); exact BK849.out) hb); clear hb hbox hg)|  ((with_reducible refine gate_dst (N := 4) rfl ?_); refine box_event ?hg (N := 4) ?hd (cs := #[.bool false, .slice none 0 0]) (t := 24) ?hr ?_; (case hd => rfl); (case hg => rfl); (case hr => first |  (go_simp; done)|  (go_simp; rfl)|  (go_simp; rw [show ∀ x : Int, IntKind.u32.wrap (IntKind.u8.wrap x) = x % 256 from fun x => (by show (x % 256) % 4294967296 = x % 256; omega)])); intro gb851 hg w26 hbox hb; have BK851 := zMk (hbox); have GW851 := zMk ((by rw [hg]; exact (zBs (by exact uT HB.out)) : w.heap.size ≤ gb851)); have GE851 := zMk ((by rw [hg]; exact (zBs (by exact uT HB.out)) : w.heap.size ≤ gb851)); have IGE851 := ownGe GE851.out; replace HB := zMk (zBt (by exact uT HB.out) hb); have NB849_851 := zMk ((by rw [hg]; exact Nat.ne_of_lt (blk_lt (g := gb849) (o := .cells #[.bool a0_0, .slice A0_1 l0_1.length c0_1] 24 (0, 0)) (by (with_reducible repeat (first |  refine zKn ?_ _|  refine zKd ?_|  refine zKa ?_ _)); exact BK849.out)) : gb849 ≠ gb851)); have NB851_849 := zMk ((by rw [hg]; exact Nat.ne_of_gt (blk_lt (g := gb849) (o := .cells #[.bool a0_0, .slice A0_1 l0_1.length c0_1] 24 (0, 0)) (by (with_reducible repeat (first |  refine zKn ?_ _|  refine zKd ?_|  refine zKa ?_ _)); exact BK849.out)) : gb851 ≠ gb849)); replace BK849 := zMk (zKb (g := gb849) (o := .cells #[.bool a0_0, .slice A0_1 l0_1.length c0_1] 24 (0, 0)) (by (with_reducible repeat (first |  refine zKn ?_ _|  refine zKd ?_|  refine zKa ?_ _)); exact BK849.out) hb); have NB850_851 := zMk ((by rw [hg]; exact Nat.ne_of_lt (blk_lt (g := gb850) (o := .cells #[.bool a1_0, .slice A1_1 l1_1.length c1_1] 24 (0, 0)) (by (with_reducible repeat (first |  refine zKn ?_ _|  refine zKd ?_|  refine zKa ?_ _)); exact BK850.out)) : gb850 ≠ gb851)); have NB851_850 := zMk ((by rw [hg]; exact Nat.ne_of_gt (blk_lt (g := gb850) (o := .cells #[.bool a1_0, .slice A1_1 l1_1.length c1_1] 24 (0, 0)) (by (with_reducible repeat (first |  refine zKn ?_ _|  refine zKd ?_|  refine zKa ?_ _)); exact BK850.out)) : gb851 ≠ gb850)); replace BK850 := zMk (zKb (g := gb850) (o := .cells #[.bool a1_0, .slice A1_1 l1_1.length c1_1] 24 (0, 0)) (by (with_reducible repeat (first |  refine zKn ?_ _|  refine zKd ?_|  refine zKa ?_ _)); exact BK850.out) hb); clear hb hbox hg; have hnb27 := NB849_850.out; have hnc27 := NB850_849.out; have hnb28 := NB849_851.out; have hnc28 := NB851_849.out; have hcz29_0 : w26.cell? ⟨gb849, 0, none⟩ = some (.bool a0_0) := (zKc BK849.out 0).trans rfl; have hcz29_1 : w26.cell? ⟨gb849, 1, none⟩ = some (.slice A0_1 l0_1.length c0_1) := (zKc BK849.out 1).trans rfl; have hfz29_0 := zKf BK849.out 0; have hfz29_1 := zKf BK849.out 1; have hnb30 := NB850_851.out; have hnc30 := NB851_850.out; have hcz31_0 : w26.cell? ⟨gb850, 0, none⟩ = some (.bool a1_0) := (zKc BK850.out 0).trans rfl; have hcz31_1 : w26.cell? ⟨gb850, 1, none⟩ = some (.slice A1_1 l1_1.length c1_1) := (zKc BK850.out 1).trans rfl; have hfz31_0 := zKf BK850.out 0; have hfz31_1 := zKf BK850.out 1)|  ((with_reducible refine gate_callee (f := 35) rfl ?_); refine goesL_ (some 25) rfl rfl Tryd.func35 (by kernel_rfl) rfl #[.slice A0_1 l0_1.length c0_1, .slice A1_1 l1_1.length c1_1] rfl (by (try simp only [zMa, zMc, zMn]); first |  done|  rfl|  (simp only [zLd, zLt]; rfl)) ?_; (with_reducible refine (n_Sub.calls k _ _ l0_1 (fun k_ => k_ < w.heap.size) _ _ l1_1 t859 t862 _ ?side1 ?side2 ?side3 A21.out).mono ?_); (case side1 => repeat (first |  exact (Kd.C_below HR0_1.out HB.out)|  (with_reducible refine zCa ?_ _)|  (with_reducible refine zCn ?_ _)|  (with_reducible refine zCd ?_))); (case side2 => exact HC0_1.out); (case side3 => exact Kd.V_mk HC1_1.out (Kd.F_below (Kd.C_F (Kd.heap_int .u32) HR1_1.out) (by exact uT HB.out))); rintro e w32 ⟨v860, rfl, ho0, hb⟩; refine ⟨_, rfl, ?_⟩; have HO861 := zMk (zVl (zVm (ok' := fun k_ => k_ ≠ gb849 ∧ k_ ≠ gb850 ∧ k_ ≠ gb851) ho0 (fun k_ hk_ => ⟨Or.elim hk_ (fun hs_ => fun e_ => Nat.not_le.2 hs_ (by rw [e_]; exact GW849.out)) (fun hn_ => (Kd.freshB (g := gb849) (o := .cells #[.bool a0_0, .slice A0_1 l0_1.length c0_1] 24 (0, 0)) (by (with_reducible repeat (first |  refine zKn ?_ _|  refine zKd ?_|  refine zKa ?_ _)); exact BK849.out) k_ hn_)), Or.elim hk_ (fun hs_ => fun e_ => Nat.not_le.2 hs_ (by rw [e_]; exact GW850.out)) (fun hn_ => (Kd.freshB (g := gb850) (o := .cells #[.bool a1_0, .slice A1_1 l1_1.length c1_1] 24 (0, 0)) (by (with_reducible repeat (first |  refine zKn ?_ _|  refine zKd ?_|  refine zKa ?_ _)); exact BK850.out) k_ hn_)), Or.elim hk_ (fun hs_ => fun e_ => Nat.not_le.2 hs_ (by rw [e_]; exact GW851.out)) (fun hn_ => (Kd.freshB (g := gb851) (o := .cells #[.bool false, .slice none 0 0] 24 (0, 0)) (by (with_reducible repeat (first |  refine zKn ?_ _|  refine zKd ?_|  refine zKa ?_ _)); exact BK851.out) k_ hn_))⟩)) (zBs (by exact uT HB.out))); replace BK849 := zMk (zKb (g := gb849) (o := .cells #[.bool a0_0, .slice A0_1 l0_1.length c0_1] 24 (0, 0)) (by (with_reducible repeat (first |  refine zKn ?_ _|  refine zKd ?_|  refine zKa ?_ _)); exact BK849.out) hb); replace BK850 := zMk (zKb (g := gb850) (o := .cells #[.bool a1_0, .slice A1_1 l1_1.length c1_1] 24 (0, 0)) (by (with_reducible repeat (first |  refine zKn ?_ _|  refine zKd ?_|  refine zKa ?_ _)); exact BK850.out) hb); replace BK851 := zMk (zKb (g := gb851) (o := .cells #[.bool false, .slice none 0 0] 24 (0, 0)) (by (with_reducible repeat (first |  refine zKn ?_ _|  refine zKd ?_|  refine zKa ?_ _)); exact BK851.out) hb); replace HB := zMk (zBt (by exact uT HB.out) hb); (try clear hb); (try clear hb2); (try clear hk); (try clear hi); (try clear ho0); have hcz33_0 : w32.cell? ⟨gb849, 0, none⟩ = some (.bool a0_0) := (zKc BK849.out 0).trans rfl; have hcz33_1 : w32.cell? ⟨gb849, 1, none⟩ = some (.slice A0_1 l0_1.length c0_1) := (zKc BK849.out 1).trans rfl; have hfz33_0 := zKf BK849.out 0; have hfz33_1 := zKf BK849.out 1; obtain ⟨Ao34, co34, eo34⟩ := zVs HO861.out; subst eo34)|  ((with_reducible refine gate_callee (f := 36) rfl ?_); refine goesL_ (some 33) rfl rfl Tryd.func36 (by kernel_rfl) rfl #[.bool a0_0, .slice Ao34 t859.length co34] rfl (by (try simp only [zMa, zMc, zMn]); first |  done|  rfl|  (simp only [zLd, zLt]; rfl)) ?_; (with_reducible refine (integer_signed.calls a0_0 _ _ t859 t863 t864 _ ?side1 ?side2 A23.out).mono ?_); (case side1 => exact uC (zVr HO861.out).2.2); (case side2 => exact (zVr HO861.out).2.1); rintro e w35 ⟨v865, rfl, ho0, hb⟩; refine ⟨_, rfl, ?_⟩; replace HO861 := zMk (zVe (by exact uV HO861.out) (zRz ho0) hb); have HO866 := zMk (zRl ho0 (zBs (by exact uT HB.out))); replace BK849 := zMk (zKb (g := gb849) (o := .cells #[.bool a0_0, .slice A0_1 l0_1.length c0_1] 24 (0, 0)) (by (with_reducible repeat (first |  refine zKn ?_ _|  refine zKd ?_|  refine zKa ?_ _)); exact BK849.out) hb); replace BK850 := zMk (zKb (g := gb850) (o := .cells #[.bool a1_0, .slice A1_1 l1_1.length c1_1] 24 (0, 0)) (by (with_reducible repeat (first |  refine zKn ?_ _|  refine zKd ?_|  refine zKa ?_ _)); exact BK850.out) hb); replace BK851 := zMk (zKb (g := gb851) (o := .cells #[.bool false, .slice none 0 0] 24 (0, 0)) (by (with_reducible repeat (first |  refine zKn ?_ _|  refine zKd ?_|  refine zKa ?_ _)); exact BK851.out) hb); replace HB := zMk (zBt (by exact uT HB.out) hb); (try clear hb); (try clear hb2); (try clear hk); (try clear hi); (try clear ho0); have hcz36_0 : w35.cell? ⟨gb851, 0, none⟩ = some (.bool false) := (zKc BK851.out 0).trans rfl; have hcz36_1 : w35.cell? ⟨gb851, 1, none⟩ = some (.slice none 0 0) := (zKc BK851.out 1).trans rfl; have hfz36_0 := zKf BK851.out 0; have hfz36_1 := zKf BK851.out 1; obtain ⟨Ao37, co37, eo37⟩ := zRs HO866.out; subst eo37))
      refine bodyPost_ret (results_cell_row rfl _ _ gb851 24 #[.bool t863, .slice Ao37 t864.length co37] (0, 0) _ rfl (by (with_reducible repeat (first | refine zKn ?_ _ | refine zKd ?_ | refine zKa ?_ _)); refine blk_put (cs := #[.bool t863, .slice none 0 0]) ?_ 1 _ rfl; (with_reducible repeat (first | refine zKn ?_ _ | refine zKd ?_ | refine zKa ?_ _)); refine blk_put (cs := #[.bool false, .slice none 0 0]) ?_ 0 _ rfl; (with_reducible repeat (first | refine zKn ?_ _ | refine zKd ?_ | refine zKa ?_ _)); exact BK851.out) Tryd.underlying24 rfl (by kernel_rfl)) rfl ?_
      exact ⟨_, by first | rfl | (simp [errW_none, errW_some] <;> rfl) | (simp [*, errW_none, errW_some] <;> rfl), by (with_reducible repeat (first | apply zRa | apply zRn | apply zRd)); exact zRm (Kd.R_far (p := ⟨gb851, 1, none⟩) (Kd.R_far (p := ⟨gb851, 0, none⟩) (Kd.R_types HO866.out BK851.out (by decide)) (fun _ hk => hk.2) (.bool t863)) (fun _ hk => hk.2) (.slice Ao37 t864.length co37)) (fun _ hk => trivial), by exact uT HB.out⟩
    · rw [if_neg c22] at H
      have c22b0 : (t862 == 0) = false := beq_eq_false_iff_ne.mpr c22
      have c22b1 : (t862 != 0) = true := bne_iff_ne.mpr c22
      replace H := bnd H
      obtain ⟨⟨t867, t870⟩, A380, H⟩ := H
      replace H : ((integer_signed.f a1_0 t867).bind fun bt871 => (some (bt871.1, bt871.2))) = some (r1, r2) := H
      have A38 := zMk A380
      clear A380
      replace H := bnd H
      obtain ⟨⟨t871, t872⟩, A390, H⟩ := H
      replace H : (some (t871, t872)) = some (r1, r2) := H
      have A39 := zMk A390
      clear A390
      simp only [Option.some.injEq, Prod.mk.injEq] at H
      obtain ⟨rfl, rfl⟩ := H
      go_enter Tryd.func17, Tryd.ntmps17
      go_wp2_with (first |  ((with_reducible refine gate_dst (N := 2) rfl ?_); refine box_event ?hg (N := 2) ?hd (cs := #[.bool a0_0, .slice A0_1 l0_1.length c0_1]) (t := 24) ?hr ?_; (case hd => rfl); (case hg => rfl); (case hr => first |  (go_simp; done)|  (go_simp; rfl)|  (go_simp; rw [show ∀ x : Int, IntKind.u32.wrap (IntKind.u8.wrap x) = x % 256 from fun x => (by show (x % 256) % 4294967296 = x % 256; omega)])); intro gb849 hg w40 hbox hb; have BK849 := zMk (hbox); have GW849 := zMk ((by rw [hg]; exact (zBs (by exact uT HB.out)) : w.heap.size ≤ gb849)); have GE849 := zMk ((by rw [hg]; exact (zBs (by exact uT HB.out)) : w.heap.size ≤ gb849)); have IGE849 := ownGe GE849.out; replace HB := zMk (zBt (by exact uT HB.out) hb); clear hb hbox hg)|  ((with_reducible refine gate_dst (N := 3) rfl ?_); refine box_event ?hg (N := 3) ?hd (cs := #[.bool a1_0, .slice A1_1 l1_1.length c1_1]) (t := 24) ?hr ?_; (case hd => rfl); (case hg => rfl); (case hr => first |  (go_simp; done)|  (go_simp; rfl)|  (go_simp; rw [show ∀ x : Int, IntKind.u32.wrap (IntKind.u8.wrap x) = x % 256 from fun x => (by show (x % 256) % 4294967296 = x % 256; omega)])); intro gb850 hg w41 hbox hb; have BK850 := zMk (hbox); have GW850 := zMk ((by rw [hg]; exact (zBs (by exact uT HB.out)) : w.heap.size ≤ gb850)); have GE850 := zMk ((by rw [hg]; exact (zBs (by exact uT HB.out)) : w.heap.size ≤ gb850)); have IGE850 := ownGe GE850.out; replace HB := zMk (zBt (by exact uT HB.out) hb); have NB849_850 := zMk ((by rw [hg]; exact Nat.ne_of_lt (blk_lt (g := gb849) (o := .cells #[.bool a0_0, .slice A0_1 l0_1.length c0_1] 24 (0, 0)) (by (with_reducible repeat (first |  refine zKn ?_ _|  refine zKd ?_|  refine zKa ?_ _)); exact BK849.out)) : gb849 ≠ gb850)); have NB850_849 := zMk ((by rw [hg]; exact Nat.ne_of_gt (blk_lt (g := gb849) (o := .cells #[.bool a0_0, .slice A0_1 l0_1.length c0_1] 24 (0, 0)) (by (with_reducible repeat (first |  refine zKn ?_ _|  refine zKd ?_|  refine zKa ?_ _)); exact BK849.out)) : gb850 ≠ gb849)); replace BK849 := zMk (zKb (g := gb849) (o := .cells #[.bool a0_0, .slice A0_1 l0_1.length c0_1] 24 (0, 0)) (by (with_reducible repeat (first |  refine zKn ?_ _|  refine zKd ?_|  refine zKa ?_ _)); exact BK849.out) hb); clear hb hbox hg)|  ((with_reducible refine gate_dst (N := 4) rfl ?_); refine box_event ?hg (N := 4) ?hd (cs := #[.bool false, .slice none 0 0]) (t := 24) ?hr ?_; (case hd => rfl); (case hg => rfl); (case hr => first |  (go_simp; done)|  (go_simp; rfl)|  (go_simp; rw [show ∀ x : Int, IntKind.u32.wrap (IntKind.u8.wrap x) = x % 256 from fun x => (by show (x % 256) % 4294967296 = x % 256; omega)])); intro gb851 hg w42 hbox hb; have BK851 := zMk (hbox); have GW851 := zMk ((by rw [hg]; exact (zBs (by exact uT HB.out)) : w.heap.size ≤ gb851)); have GE851 := zMk ((by rw [hg]; exact (zBs (by exact uT HB.out)) : w.heap.size ≤ gb851)); have IGE851 := ownGe GE851.out; replace HB := zMk (zBt (by exact uT HB.out) hb); have NB849_851 := zMk ((by rw [hg]; exact Nat.ne_of_lt (blk_lt (g := gb849) (o := .cells #[.bool a0_0, .slice A0_1 l0_1.length c0_1] 24 (0, 0)) (by (with_reducible repeat (first |  refine zKn ?_ _|  refine zKd ?_|  refine zKa ?_ _)); exact BK849.out)) : gb849 ≠ gb851)); have NB851_849 := zMk ((by rw [hg]; exact Nat.ne_of_gt (blk_lt (g := gb849) (o := .cells #[.bool a0_0, .slice A0_1 l0_1.length c0_1] 24 (0, 0)) (by (with_reducible repeat (first |  refine zKn ?_ _|  refine zKd ?_|  refine zKa ?_ _)); exact BK849.out)) : gb851 ≠ gb849)); replace BK849 := zMk (zKb (g := gb849) (o := .cells #[.bool a0_0, .slice A0_1 l0_1.length c0_1] 24 (0, 0)) (by (with_reducible repeat (first |  refine zKn ?_ _|  refine zKd ?_|  refine zKa ?_ _)); exact BK849.out) hb); have NB850_851 := zMk ((by rw [hg]; exact Nat.ne_of_lt (blk_lt (g := gb850) (o := .cells #[.bool a1_0, .slice A1_1 l1_1.length c1_1] 24 (0, 0)) (by (with_reducible repeat (first |  refine zKn ?_ _|  refine zKd ?_|  refine zKa ?_ _)); exact BK850.out)) : gb850 ≠ gb851)); have NB851_850 := zMk ((by rw [hg]; exact Nat.ne_of_gt (blk_lt (g := gb850) (o := .cells #[.bool a1_0, .slice A1_1 l1_1.length c1_1] 24 (0, 0)) (by (with_reducible repeat (first |  refine zKn ?_ _|  refine zKd ?_|  refine zKa ?_ _)); exact BK850.out)) : gb851 ≠ gb850)); replace BK850 := zMk (zKb (g := gb850) (o := .cells #[.bool a1_0, .slice A1_1 l1_1.length c1_1] 24 (0, 0)) (by (with_reducible repeat (first |  refine zKn ?_ _|  refine zKd ?_|  refine zKa ?_ _)); exact BK850.out) hb); clear hb hbox hg; have hnb43 := NB849_850.out; have hnc43 := NB850_849.out; have hnb44 := NB849_851.out; have hnc44 := NB851_849.out; have hcz45_0 : w42.cell? ⟨gb849, 0, none⟩ = some (.bool a0_0) := (zKc BK849.out 0).trans rfl; have hcz45_1 : w42.cell? ⟨gb849, 1, none⟩ = some (.slice A0_1 l0_1.length c0_1) := (zKc BK849.out 1).trans rfl; have hfz45_0 := zKf BK849.out 0; have hfz45_1 := zKf BK849.out 1; have hnb46 := NB850_851.out; have hnc46 := NB851_850.out; have hcz47_0 : w42.cell? ⟨gb850, 0, none⟩ = some (.bool a1_0) := (zKc BK850.out 0).trans rfl; have hcz47_1 : w42.cell? ⟨gb850, 1, none⟩ = some (.slice A1_1 l1_1.length c1_1) := (zKc BK850.out 1).trans rfl; have hfz47_0 := zKf BK850.out 0; have hfz47_1 := zKf BK850.out 1)|  ((with_reducible refine gate_callee (f := 35) rfl ?_); refine goesL_ (some 25) rfl rfl Tryd.func35 (by kernel_rfl) rfl #[.slice A0_1 l0_1.length c0_1, .slice A1_1 l1_1.length c1_1] rfl (by (try simp only [zMa, zMc, zMn]); first |  done|  rfl|  (simp only [zLd, zLt]; rfl)) ?_; (with_reducible refine (n_Sub.calls k _ _ l0_1 (fun k_ => k_ < w.heap.size) _ _ l1_1 t859 t862 _ ?side1 ?side2 ?side3 A21.out).mono ?_); (case side1 => repeat (first |  exact (Kd.C_below HR0_1.out HB.out)|  (with_reducible refine zCa ?_ _)|  (with_reducible refine zCn ?_ _)|  (with_reducible refine zCd ?_))); (case side2 => exact HC0_1.out); (case side3 => exact Kd.V_mk HC1_1.out (Kd.F_below (Kd.C_F (Kd.heap_int .u32) HR1_1.out) (by exact uT HB.out))); rintro e w48 ⟨v860, rfl, ho0, hb⟩; refine ⟨_, rfl, ?_⟩; have HO861 := zMk (zVl (zVm (ok' := fun k_ => k_ ≠ gb849 ∧ k_ ≠ gb850 ∧ k_ ≠ gb851) ho0 (fun k_ hk_ => ⟨Or.elim hk_ (fun hs_ => fun e_ => Nat.not_le.2 hs_ (by rw [e_]; exact GW849.out)) (fun hn_ => (Kd.freshB (g := gb849) (o := .cells #[.bool a0_0, .slice A0_1 l0_1.length c0_1] 24 (0, 0)) (by (with_reducible repeat (first |  refine zKn ?_ _|  refine zKd ?_|  refine zKa ?_ _)); exact BK849.out) k_ hn_)), Or.elim hk_ (fun hs_ => fun e_ => Nat.not_le.2 hs_ (by rw [e_]; exact GW850.out)) (fun hn_ => (Kd.freshB (g := gb850) (o := .cells #[.bool a1_0, .slice A1_1 l1_1.length c1_1] 24 (0, 0)) (by (with_reducible repeat (first |  refine zKn ?_ _|  refine zKd ?_|  refine zKa ?_ _)); exact BK850.out) k_ hn_)), Or.elim hk_ (fun hs_ => fun e_ => Nat.not_le.2 hs_ (by rw [e_]; exact GW851.out)) (fun hn_ => (Kd.freshB (g := gb851) (o := .cells #[.bool false, .slice none 0 0] 24 (0, 0)) (by (with_reducible repeat (first |  refine zKn ?_ _|  refine zKd ?_|  refine zKa ?_ _)); exact BK851.out) k_ hn_))⟩)) (zBs (by exact uT HB.out))); replace BK849 := zMk (zKb (g := gb849) (o := .cells #[.bool a0_0, .slice A0_1 l0_1.length c0_1] 24 (0, 0)) (by (with_reducible repeat (first |  refine zKn ?_ _|  refine zKd ?_|  refine zKa ?_ _)); exact BK849.out) hb); replace BK850 := zMk (zKb (g := gb850) (o := .cells #[.bool a1_0, .slice A1_1 l1_1.length c1_1] 24 (0, 0)) (by (with_reducible repeat (first |  refine zKn ?_ _|  refine zKd ?_|  refine zKa ?_ _)); exact BK850.out) hb); replace BK851 := zMk (zKb (g := gb851) (o := .cells #[.bool false, .slice none 0 0] 24 (0, 0)) (by (with_reducible repeat (first |  refine zKn ?_ _|  refine zKd ?_|  refine zKa ?_ _)); exact BK851.out) hb); replace HB := zMk (zBt (by exact uT HB.out) hb); (try clear hb); (try clear hb2); (try clear hk); (try clear hi); (try clear ho0); have hcz49_0 : w48.cell? ⟨gb850, 0, none⟩ = some (.bool a1_0) := (zKc BK850.out 0).trans rfl; have hcz49_1 : w48.cell? ⟨gb850, 1, none⟩ = some (.slice A1_1 l1_1.length c1_1) := (zKc BK850.out 1).trans rfl; have hfz49_0 := zKf BK850.out 0; have hfz49_1 := zKf BK850.out 1; have hcz50_0 : w48.cell? ⟨gb849, 0, none⟩ = some (.bool a0_0) := (zKc BK849.out 0).trans rfl; have hcz50_1 : w48.cell? ⟨gb849, 1, none⟩ = some (.slice A0_1 l0_1.length c0_1) := (zKc BK849.out 1).trans rfl; have hfz50_0 := zKf BK849.out 0; have hfz50_1 := zKf BK849.out 1)|  ((with_reducible refine gate_callee (f := 35) rfl ?_); refine goesL_ (some 39) rfl rfl Tryd.func35 (by kernel_rfl) rfl #[.slice A1_1 l1_1.length c1_1, .slice A0_1 l0_1.length c0_1] rfl (by (try simp only [zMa, zMc, zMn]); first |  done|  rfl|  (simp only [zLd, zLt]; rfl)) ?_; (with_reducible refine (n_Sub.calls k _ _ l1_1 (fun k_ => k_ < w.heap.size) _ _ l0_1 t867 t870 _ ?side1 ?side2 ?side3 A38.out).mono ?_); (case side1 => repeat (first |  exact (Kd.C_below HR1_1.out HB.out)|  (with_reducible refine zCa ?_ _)|  (with_reducible refine zCn ?_ _)|  (with_reducible refine zCd ?_))); (case side2 => exact HC1_1.out); (case side3 => exact Kd.V_mk HC0_1.out (Kd.F_below (Kd.C_F (Kd.heap_int .u32) HR0_1.out) (by exact uT HB.out))); rintro e w51 ⟨v868, rfl, ho0, hb⟩; refine ⟨_, rfl, ?_⟩; replace HO861 := zMk (zVb (by exact uV HO861.out) hb); have HO869 := zMk (zVl (zVm (ok' := fun k_ => k_ ≠ gb849 ∧ k_ ≠ gb850 ∧ k_ ≠ gb851) ho0 (fun k_ hk_ => ⟨Or.elim hk_ (fun hs_ => fun e_ => Nat.not_le.2 hs_ (by rw [e_]; exact GW849.out)) (fun hn_ => (Kd.freshB (g := gb849) (o := .cells #[.bool a0_0, .slice A0_1 l0_1.length c0_1] 24 (0, 0)) (by (with_reducible repeat (first |  refine zKn ?_ _|  refine zKd ?_|  refine zKa ?_ _)); exact BK849.out) k_ hn_)), Or.elim hk_ (fun hs_ => fun e_ => Nat.not_le.2 hs_ (by rw [e_]; exact GW850.out)) (fun hn_ => (Kd.freshB (g := gb850) (o := .cells #[.bool a1_0, .slice A1_1 l1_1.length c1_1] 24 (0, 0)) (by (with_reducible repeat (first |  refine zKn ?_ _|  refine zKd ?_|  refine zKa ?_ _)); exact BK850.out) k_ hn_)), Or.elim hk_ (fun hs_ => fun e_ => Nat.not_le.2 hs_ (by rw [e_]; exact GW851.out)) (fun hn_ => (Kd.freshB (g := gb851) (o := .cells #[.bool false, .slice none 0 0] 24 (0, 0)) (by (with_reducible repeat (first |  refine zKn ?_ _|  refine zKd ?_|  refine zKa ?_ _)); exact BK851.out) k_ hn_))⟩)) (zBs (by exact uT HB.out))); replace BK849 := zMk (zKb (g := gb849) (o := .cells #[.bool a0_0, .slice A0_1 l0_1.length c0_1] 24 (0, 0)) (by (with_reducible repeat (first |  refine zKn ?_ _|  refine zKd ?_|  refine zKa ?_ _)); exact BK849.out) hb); replace BK850 := zMk (zKb (g := gb850) (o := .cells #[.bool a1_0, .slice A1_1 l1_1.length c1_1] 24 (0, 0)) (by (with_reducible repeat (first |  refine zKn ?_ _|  refine zKd ?_|  refine zKa ?_ _)); exact BK850.out) hb); replace BK851 := zMk (zKb (g := gb851) (o := .cells #[.bool false, .slice none 0 0] 24 (0, 0)) (by (with_reducible repeat (first |  refine zKn ?_ _|  refine zKd ?_|  refine zKa ?_ _)); exact BK851.out) hb); replace HB := zMk (zBt (by exact uT HB.out) hb); (try clear hb); (try clear hb2); (try clear hk); (try clear hi); (try clear ho0); have hcz52_0 : w51.cell? ⟨gb850, 0, none⟩ = some (.bool a1_0) := (zKc BK850.out 0).trans rfl; have hcz52_1 : w51.cell? ⟨gb850, 1, none⟩ = some (.slice A1_1 l1_1.length c1_1) := (zKc BK850.out 1).trans rfl; have hfz52_0 := zKf BK850.out 0; have hfz52_1 := zKf BK850.out 1; obtain ⟨Ao53, co53, eo53⟩ := zVs HO869.out; subst eo53)|  ((with_reducible refine gate_callee (f := 36) rfl ?_); refine goesL_ (some 45) rfl rfl Tryd.func36 (by kernel_rfl) rfl #[.bool a1_0, .slice Ao53 t867.length co53] rfl (by (try simp only [zMa, zMc, zMn]); first |  done|  rfl|  (simp only [zLd, zLt]; rfl)) ?_; (with_reducible refine (integer_signed.calls a1_0 _ _ t867 t871 t872 _ ?side1 ?side2 A39.out).mono ?_); (case side1 => exact uC (zVr HO869.out).2.2); (case side2 => exact (zVr HO869.out).2.1); rintro e w54 ⟨v873, rfl, ho0, hb⟩; refine ⟨_, rfl, ?_⟩; replace HO861 := zMk (zVe (by exact uV HO861.out) (zRz ho0) hb); replace HO869 := zMk (zVe (by exact uV HO869.out) (zRz ho0) hb); have HO874 := zMk (zRl ho0 (zBs (by exact uT HB.out))); replace BK849 := zMk (zKb (g := gb849) (o := .cells #[.bool a0_0, .slice A0_1 l0_1.length c0_1] 24 (0, 0)) (by (with_reducible repeat (first |  refine zKn ?_ _|  refine zKd ?_|  refine zKa ?_ _)); exact BK849.out) hb); replace BK850 := zMk (zKb (g := gb850) (o := .cells #[.bool a1_0, .slice A1_1 l1_1.length c1_1] 24 (0, 0)) (by (with_reducible repeat (first |  refine zKn ?_ _|  refine zKd ?_|  refine zKa ?_ _)); exact BK850.out) hb); replace BK851 := zMk (zKb (g := gb851) (o := .cells #[.bool false, .slice none 0 0] 24 (0, 0)) (by (with_reducible repeat (first |  refine zKn ?_ _|  refine zKd ?_|  refine zKa ?_ _)); exact BK851.out) hb); replace HB := zMk (zBt (by exact uT HB.out) hb); (try clear hb); (try clear hb2); (try clear hk); (try clear hi); (try clear ho0); have hcz55_0 : w54.cell? ⟨gb851, 0, none⟩ = some (.bool false) := (zKc BK851.out 0).trans rfl; have hcz55_1 : w54.cell? ⟨gb851, 1, none⟩ = some (.slice none 0 0) := (zKc BK851.out 1).trans rfl; have hfz55_0 := zKf BK851.out 0; have hfz55_1 := zKf BK851.out 1; obtain ⟨Ao56, co56, eo56⟩ := zRs HO874.out; subst eo56))
      refine bodyPost_ret (results_cell_row rfl _ _ gb851 24 #[.bool t871, .slice Ao56 t872.length co56] (0, 0) _ rfl (by (with_reducible repeat (first | refine zKn ?_ _ | refine zKd ?_ | refine zKa ?_ _)); refine blk_put (cs := #[.bool t871, .slice none 0 0]) ?_ 1 _ rfl; (with_reducible repeat (first | refine zKn ?_ _ | refine zKd ?_ | refine zKa ?_ _)); refine blk_put (cs := #[.bool false, .slice none 0 0]) ?_ 0 _ rfl; (with_reducible repeat (first | refine zKn ?_ _ | refine zKd ?_ | refine zKa ?_ _)); exact BK851.out) Tryd.underlying24 rfl (by kernel_rfl)) rfl ?_
      exact ⟨_, by first | rfl | (simp [errW_none, errW_some] <;> rfl) | (simp [*, errW_none, errW_some] <;> rfl), by (with_reducible repeat (first | apply zRa | apply zRn | apply zRd)); exact zRm (Kd.R_far (p := ⟨gb851, 1, none⟩) (Kd.R_far (p := ⟨gb851, 0, none⟩) (Kd.R_types HO874.out BK851.out (by decide)) (fun _ hk => hk.2) (.bool t871)) (fun _ hk => hk.2) (.slice Ao56 t872.length co56)) (fun _ hk => trivial), by exact uT HB.out⟩


/-! ### integer_Neg: function 23 -/
def integer_Neg.f (a0_0 : Bool) (l0_1 : List Int) : Option (Bool × List Int) := (integer_signed.f (!a0_0) l0_1).bind fun bt877 => (some (bt877.1, bt877.2))
set_option maxHeartbeats 8000000 in
set_option maxRecDepth 100000 in
theorem integer_Neg.calls (a0_0 : Bool) (A0_1 : Option Addr) (c0_1 : Nat) (l0_1 : List Int) (r1 : Bool) (r2 : List Int) (w : World) (hr0_1 : Kd.C (Kd.int .u32) w A0_1 l0_1.length l0_1) (hc0_1 : l0_1.length ≤ c0_1) (h : integer_Neg.f a0_0 l0_1 = some (r1, r2)) :
    Calls Tryd.prog 23 #[.agg #[.bool a0_0, .slice A0_1 l0_1.length c0_1]] w fun e w' => ∃ v1_ : Value, e = .returned (.agg #[.bool r1, v1_]) ∧ Kd.R (Kd.int .u32) 58 w' w.heap.size (fun _ => True) v1_ r2 ∧ Below w.heap.size w w' := by
  have hu24 := Tryd.underlying24
  have HR0_1 := zMk hr0_1
  have HC0_1 := zMk hc0_1
  clear hr0_1 hc0_1
  have HB := zMk (Below.refl w.heap.size w)
  have H : ((integer_signed.f (!a0_0) l0_1).bind fun bt877 => (some (bt877.1, bt877.2))) = some (r1, r2) := h
  clear h
  replace H := bnd H
  obtain ⟨⟨t877, t878⟩, A20, H⟩ := H
  replace H : (some (t877, t878)) = some (r1, r2) := H
  have A2 := zMk A20
  clear A20
  simp only [Option.some.injEq, Prod.mk.injEq] at H
  obtain ⟨rfl, rfl⟩ := H
  go_enter Tryd.func23, Tryd.ntmps23
  go_wp2_with (first |  ((with_reducible refine gate_dst (N := 1) rfl ?_); refine box_event ?hg (N := 1) ?hd (cs := #[.bool a0_0, .slice A0_1 l0_1.length c0_1]) (t := 24) ?hr ?_; (case hd => rfl); (case hg => rfl); (case hr => first |  (go_simp; done)|  (go_simp; rfl)|  (go_simp; rw [show ∀ x : Int, IntKind.u32.wrap (IntKind.u8.wrap x) = x % 256 from fun x => (by show (x % 256) % 4294967296 = x % 256; omega)])); intro gb875 hg w3 hbox hb; have BK875 := zMk (hbox); have GW875 := zMk ((by rw [hg]; exact (zBs (by exact uT HB.out)) : w.heap.size ≤ gb875)); have GE875 := zMk ((by rw [hg]; exact (zBs (by exact uT HB.out)) : w.heap.size ≤ gb875)); have IGE875 := ownGe GE875.out; replace HB := zMk (zBt (by exact uT HB.out) hb); clear hb hbox hg)|  ((with_reducible refine gate_dst (N := 2) rfl ?_); refine box_event ?hg (N := 2) ?hd (cs := #[.bool false, .slice none 0 0]) (t := 24) ?hr ?_; (case hd => rfl); (case hg => rfl); (case hr => first |  (go_simp; done)|  (go_simp; rfl)|  (go_simp; rw [show ∀ x : Int, IntKind.u32.wrap (IntKind.u8.wrap x) = x % 256 from fun x => (by show (x % 256) % 4294967296 = x % 256; omega)])); intro gb876 hg w4 hbox hb; have BK876 := zMk (hbox); have GW876 := zMk ((by rw [hg]; exact (zBs (by exact uT HB.out)) : w.heap.size ≤ gb876)); have GE876 := zMk ((by rw [hg]; exact (zBs (by exact uT HB.out)) : w.heap.size ≤ gb876)); have IGE876 := ownGe GE876.out; replace HB := zMk (zBt (by exact uT HB.out) hb); have NB875_876 := zMk ((by rw [hg]; exact Nat.ne_of_lt (blk_lt (g := gb875) (o := .cells #[.bool a0_0, .slice A0_1 l0_1.length c0_1] 24 (0, 0)) (by (with_reducible repeat (first |  refine zKn ?_ _|  refine zKd ?_|  refine zKa ?_ _)); exact BK875.out)) : gb875 ≠ gb876)); have NB876_875 := zMk ((by rw [hg]; exact Nat.ne_of_gt (blk_lt (g := gb875) (o := .cells #[.bool a0_0, .slice A0_1 l0_1.length c0_1] 24 (0, 0)) (by (with_reducible repeat (first |  refine zKn ?_ _|  refine zKd ?_|  refine zKa ?_ _)); exact BK875.out)) : gb876 ≠ gb875)); replace BK875 := zMk (zKb (g := gb875) (o := .cells #[.bool a0_0, .slice A0_1 l0_1.length c0_1] 24 (0, 0)) (by (with_reducible repeat (first |  refine zKn ?_ _|  refine zKd ?_|  refine zKa ?_ _)); exact BK875.out) hb); clear hb hbox hg; have hnb5 := NB875_876.out; have hnc5 := NB876_875.out; have hcz6_0 : w4.cell? ⟨gb875, 0, none⟩ = some (.bool a0_0) := (zKc BK875.out 0).trans rfl; have hcz6_1 : w4.cell? ⟨gb875, 1, none⟩ = some (.slice A0_1 l0_1.length c0_1) := (zKc BK875.out 1).trans rfl; have hfz6_0 := zKf BK875.out 0; have hfz6_1 := zKf BK875.out 1)|  ((with_reducible refine gate_callee (f := 36) rfl ?_); refine goesL_ (some 8) rfl rfl Tryd.func36 (by kernel_rfl) rfl #[.bool (!a0_0), .slice A0_1 l0_1.length c0_1] rfl (by (try simp only [zMa, zMc, zMn]); first |  done|  rfl|  (simp only [zLd, zLt]; rfl)) ?_; (with_reducible refine (integer_signed.calls (!a0_0) _ _ l0_1 t877 t878 _ ?side1 ?side2 A2.out).mono ?_); (case side1 => repeat (first |  exact (Kd.C_below HR0_1.out HB.out)|  (with_reducible refine zCa ?_ _)|  (with_reducible refine zCn ?_ _)|  (with_reducible refine zCd ?_))); (case side2 => exact HC0_1.out); rintro e w7 ⟨v879, rfl, ho0, hb⟩; refine ⟨_, rfl, ?_⟩; have HO880 := zMk (zRl ho0 (zBs (by exact uT HB.out))); replace BK875 := zMk (zKb (g := gb875) (o := .cells #[.bool a0_0, .slice A0_1 l0_1.length c0_1] 24 (0, 0)) (by (with_reducible repeat (first |  refine zKn ?_ _|  refine zKd ?_|  refine zKa ?_ _)); exact BK875.out) hb); replace BK876 := zMk (zKb (g := gb876) (o := .cells #[.bool false, .slice none 0 0] 24 (0, 0)) (by (with_reducible repeat (first |  refine zKn ?_ _|  refine zKd ?_|  refine zKa ?_ _)); exact BK876.out) hb); replace HB := zMk (zBt (by exact uT HB.out) hb); (try clear hb); (try clear hb2); (try clear hk); (try clear hi); (try clear ho0); have hcz8_0 : w7.cell? ⟨gb876, 0, none⟩ = some (.bool false) := (zKc BK876.out 0).trans rfl; have hcz8_1 : w7.cell? ⟨gb876, 1, none⟩ = some (.slice none 0 0) := (zKc BK876.out 1).trans rfl; have hfz8_0 := zKf BK876.out 0; have hfz8_1 := zKf BK876.out 1; obtain ⟨Ao9, co9, eo9⟩ := zRs HO880.out; subst eo9))
  refine bodyPost_ret (results_cell_row rfl _ _ gb876 24 #[.bool t877, .slice Ao9 t878.length co9] (0, 0) _ rfl (by (with_reducible repeat (first | refine zKn ?_ _ | refine zKd ?_ | refine zKa ?_ _)); refine blk_put (cs := #[.bool t877, .slice none 0 0]) ?_ 1 _ rfl; (with_reducible repeat (first | refine zKn ?_ _ | refine zKd ?_ | refine zKa ?_ _)); refine blk_put (cs := #[.bool false, .slice none 0 0]) ?_ 0 _ rfl; (with_reducible repeat (first | refine zKn ?_ _ | refine zKd ?_ | refine zKa ?_ _)); exact BK876.out) Tryd.underlying24 rfl (by kernel_rfl)) rfl ?_
  exact ⟨_, by first | rfl | (simp [errW_none, errW_some] <;> rfl) | (simp [*, errW_none, errW_some] <;> rfl), by (with_reducible repeat (first | apply zRa | apply zRn | apply zRd)); exact zRm (Kd.R_far (p := ⟨gb876, 1, none⟩) (Kd.R_far (p := ⟨gb876, 0, none⟩) (Kd.R_types HO880.out BK876.out (by decide)) (fun _ hk => hk.2) (.bool t877)) (fun _ hk => hk.2) (.slice Ao9 t878.length co9)) (fun _ hk => trivial), by exact uT HB.out⟩


/-! ### r1_Same: function 40 -/
def r1_Same.l0 : Nat → List Int → List Int → Int → Option (Bool)
  | 0, _, _, _ => none
  | k + 1, x0, x1, x5 => if x5 < (x0.length : Int) then (if 0 ≤ x5 then (if x5 < (x1.length : Int) then (if (rd x0 x5) = (rd x1 x5) then (r1_Same.l0 k x0 x1 (wrap64 (x5 + 1))) else (some false)) else (none)) else (none)) else (some true)
def r1_Same.f (k : Nat) (l0 : List Int) (l1 : List Int) : Option (Bool) := if (l0.length : Int) = (l1.length : Int) then (r1_Same.l0 k l0 l1 0) else (some false)
set_option maxHeartbeats 8000000 in
set_option maxRecDepth 100000 in
theorem r1_Same.calls (k : Nat) (A0 : Option Addr) (c0 : Nat) (l0 : List Int) (A1 : Option Addr) (c1 : Nat) (l1 : List Int) (r : Bool) (w : World) (hr0 : Kd.C (Kd.int .u32) w A0 l0.length l0) (hc0 : l0.length ≤ c0) (hr1 : Kd.C (Kd.int .u32) w A1 l1.length l1) (hc1 : l1.length ≤ c1) (h : r1_Same.f k l0 l1 = some r) :
    Calls Tryd.prog 40 #[.slice A0 l0.length c0, .slice A1 l1.length c1] w fun e w' => e = .returned (.bool r) ∧ Drawn0 w w' := by
  have HR0 := zMk hr0
  have HC0 := zMk hc0
  clear hr0 hc0
  have HR1 := zMk hr1
  have HC1 := zMk hc1
  clear hr1 hc1
  have H : (if (l0.length : Int) = (l1.length : Int) then (r1_Same.l0 k l0 l1 0) else (some false)) = some r := h
  clear h
  by_cases c3 : (l0.length : Int) = (l1.length : Int)
  · rw [if_pos c3] at H
    have c3b0 : ((l0.length : Int) == (l1.length : Int)) = true := beq_iff_eq.mpr c3
    have c3b1 : ((l0.length : Int) != (l1.length : Int)) = false := bne_eq_false_iff_eq.mpr c3
    have c3b2 : (l0.length == l1.length) = true := by first | simpa using c3 | (simp at c3 ⊢; omega)
    clear c3
    have H' := zMk H
    clear H
    go_enter Tryd.func40, Tryd.ntmps40
    go_wp2
    repeat (go_quiet (fail); try go_wp2)
    go_loopg [5] k (fun kq v5 w' => ∃ (x5_1 : Int), v5 = .int .i64 x5_1 ∧ Aside0 (r1_Same.l0 kq l0 l1 x5_1 = some r) ∧ Aside0 (kq ≤ k) ∧ Drawn0 w w')
    case atStart => exact ⟨(0), (by first | rfl | (simp; done) | (simp [*]; done)), H', ⟨Nat.le_refl _⟩, by repeat (first | exact Drawn0.refl _ | apply Drawn0.step)⟩
    clear H'
    obtain ⟨x5_1, rfl, HA, HK1, ⟨m1, rfl⟩⟩ := hrel
    rcases gk with _ | k1
    · exact absurd HA.out (by simp [r1_Same.l0])
    have H := HA.out
    clear HA
    simp only [r1_Same.l0] at H
    by_cases c4 : x5_1 < (l0.length : Int)
    · rw [if_pos c4] at H
      have c4b0 : decide (x5_1 < (l0.length : Int)) = true := decide_eq_true c4
      clear c4
      by_cases c5 : 0 ≤ x5_1
      rotate_left
      · rw [if_neg c5] at H; exact absurd H (by simp)
      rw [if_pos c5] at H
      have c5b0 : decide (0 ≤ x5_1) = true := decide_eq_true c5
      clear c5
      by_cases c6 : x5_1 < (l1.length : Int)
      rotate_left
      · rw [if_neg c6] at H; exact absurd H (by simp)
      rw [if_pos c6] at H
      have c6b0 : decide (x5_1 < (l1.length : Int)) = true := decide_eq_true c6
      clear c6
      by_cases c7 : (rd l0 x5_1) = (rd l1 x5_1)
      · rw [if_pos c7] at H
        have c7b0 : ((rd l0 x5_1) == (rd l1 x5_1)) = true := beq_iff_eq.mpr c7
        have c7b1 : ((rd l0 x5_1) != (rd l1 x5_1)) = false := bne_eq_false_iff_eq.mpr c7
        clear c7
        have H' := zMk H
        clear H
        have p420 : 0 ≤ (x5_1 : Int) := of_decide_eq_true (by first | (with_reducible assumption) | assumption)
        have q420 : x5_1 < (l0.length : Int) := of_decide_eq_true (by first | (with_reducible assumption) | assumption)
        obtain ⟨ad420, e420, hx420_0⟩ := zAi HR0.out x5_1 p420 q420
        cases e420
        replace p420 := eq_true p420
        replace q420 := eq_true q420
        have p421 : 0 ≤ (x5_1 : Int) := of_decide_eq_true (by first | (with_reducible assumption) | assumption)
        have q421 : x5_1 < (l1.length : Int) := of_decide_eq_true (by first | (with_reducible assumption) | assumption)
        obtain ⟨ad421, e421, hx421_0⟩ := zAi HR1.out x5_1 p421 q421
        cases e421
        replace p421 := eq_true p421
        replace q421 := eq_true q421
        go_wp2
        repeat (go_quiet (fail); try go_wp2)
        go_roundg k1
        case measure => have := HK1.out; omega
        case rel => exact ⟨(wrap64 (x5_1 + 1)), (by first | rfl | (simp; done) | (simp [*]; done)), H', ⟨by have := HK1.out; omega⟩, by repeat (first | exact Drawn0.refl _ | apply Drawn0.step)⟩
      · rw [if_neg c7] at H
        have c7b0 : ((rd l0 x5_1) == (rd l1 x5_1)) = false := beq_eq_false_iff_ne.mpr c7
        have c7b1 : ((rd l0 x5_1) != (rd l1 x5_1)) = true := bne_iff_ne.mpr c7
        obtain rfl := zOi H
        have p420 : 0 ≤ (x5_1 : Int) := of_decide_eq_true (by first | (with_reducible assumption) | assumption)
        have q420 : x5_1 < (l0.length : Int) := of_decide_eq_true (by first | (with_reducible assumption) | assumption)
        obtain ⟨ad420, e420, hx420_0⟩ := zAi HR0.out x5_1 p420 q420
        cases e420
        replace p420 := eq_true p420
        replace q420 := eq_true q420
        have p421 : 0 ≤ (x5_1 : Int) := of_decide_eq_true (by first | (with_reducible assumption) | assumption)
        have q421 : x5_1 < (l1.length : Int) := of_decide_eq_true (by first | (with_reducible assumption) | assumption)
        obtain ⟨ad421, e421, hx421_0⟩ := zAi HR1.out x5_1 p421 q421
        cases e421
        replace p421 := eq_true p421
        replace q421 := eq_true q421
        go_wp2
        repeat (go_quiet (fail); try go_wp2)
        go_ret
        exact ⟨by first | rfl | (simp; done) | (simp [*]; done), by repeat (first | exact Drawn0.refl _ | apply Drawn0.step)⟩
    · rw [if_neg c4] at H
      have c4b0 : decide (x5_1 < (l0.length : Int)) = false := decide_eq_false c4
      clear c4
      obtain rfl := zOi H
      go_wp2
      repeat (go_quiet (fail); try go_wp2)
      go_ret
      exact ⟨by first | rfl | (simp; done) | (simp [*]; done), by repeat (first | exact Drawn0.refl _ | apply Drawn0.step)⟩
  · rw [if_neg c3] at H
    have c3b0 : ((l0.length : Int) == (l1.length : Int)) = false := beq_eq_false_iff_ne.mpr c3
    have c3b1 : ((l0.length : Int) != (l1.length : Int)) = true := bne_iff_ne.mpr c3
    have c3b2 : (l0.length == l1.length) = false := by first | simpa using c3 | (simp at c3 ⊢; omega)
    obtain rfl := zOi H
    go_enter Tryd.func40, Tryd.ntmps40
    go_wp2
    repeat (go_quiet (fail); try go_wp2)
    go_ret
    exact ⟨by first | rfl | (simp; done) | (simp [*]; done), by repeat (first | exact Drawn0.refl _ | apply Drawn0.step)⟩


/-! ### r1_Of: function 66 -/
def r1_Of.f (k : Nat) (a0 : Int) : Option (List Int) := (r1_Norm.f k (([(Go.bits .and .u64 a0 4294967295) % 4294967296, (a0 / 4294967296) % 4294967296] : List Int))).bind fun t727 => (some t727)
set_option maxHeartbeats 8000000 in
set_option maxRecDepth 100000 in
theorem r1_Of.calls (k : Nat) (a0 : Int) (r : List Int) (w : World) (h : r1_Of.f k a0 = some r) :
    Calls Tryd.prog 66 #[.int .u64 a0] w fun e w' => ∃ v0_ : Value, e = .returned (v0_) ∧ Kd.R (Kd.int .u32) 58 w' w.heap.size (fun _ => True) v0_ r ∧ Below w.heap.size w w' := by
  have HB := zMk (Below.refl w.heap.size w)
  have H : ((r1_Norm.f k (([(Go.bits .and .u64 a0 4294967295) % 4294967296, (a0 / 4294967296) % 4294967296] : List Int))).bind fun t727 => (some t727)) = some r := h
  clear h
  obtain ⟨y724, hy724⟩ : ∃ y_ : List Int, y_ = (([(Go.bits .and .u64 a0 4294967295) % 4294967296, (a0 / 4294967296) % 4294967296] : List Int)) := ⟨_, rfl⟩
  replace H : ((r1_Norm.f k y724).bind fun t727 => (some t727)) = some r := by first | (rw [hy724]; with_reducible exact H) | (have H2_ := (zOb _ _).symm.trans H; rw [hy724]; with_reducible exact H2_) | (have H2_ := (zOb _ _).symm.trans H; with_reducible exact H2_) | with_reducible exact H | (rw [hy724]; exact H) | exact H
  have Ny724 := zMk hy724
  clear hy724
  replace H := bnd H
  obtain ⟨t727, A20, H⟩ := H
  have A2 := zMk A20
  clear A20
  obtain rfl := zOi H
  go_enter Tryd.func66, Tryd.ntmps66
  go_wp2_with (first |  ((with_reducible refine gate_dst (N := 9) rfl ?_); refine Kd.R_lit (Kd.int .u32) _ 58 ?hg (N := 9) ?hd (xs := ([(Go.bits .and .u64 a0 4294967295) % 4294967296, (a0 / 4294967296) % 4294967296] : List Int)) (inner := [.int .u32 ((Go.bits .and .u64 a0 4294967295) % 4294967296), .int .u32 ((a0 / 4294967296) % 4294967296)]) (ok := fun _ => True) (okp := fun _ => True) ?hr ?hp (fun _ hk => hk) trivial (Below.refl _ _) (Nat.le_refl _) (by simp) ?_; (case hd => rfl); (case hg => rfl); (case hr => first |  (go_simp; done)|  (go_simp; rfl)|  (go_simp; rw [show ∀ x : Int, IntKind.u32.wrap (IntKind.u8.wrap x) = x % 256 from fun x => (by show (x % 256) % 4294967296 = x % 256; omega)])); (case hp => exact (Reps.one (show Kd.M (Kd.int .u32) _ _ _ ((Go.bits .and .u64 a0 4294967295) % 4294967296) [.int .u32 ((Go.bits .and .u64 a0 4294967295) % 4294967296)] from rfl) (Reps.one (show Kd.M (Kd.int .u32) _ _ _ ((a0 / 4294967296) % 4294967296) [.int .u32 ((a0 / 4294967296) % 4294967296)] from rfl) (Reps.none _ _)))); intro v725 w3 ho4 hb hg_ hnew_; clear hg_ hnew_; (first |  rw [← Ny724.out] at ho4|  (simp only [Int.reduceToNat] at ho4; rw [← Ny724.out] at ho4)); have HO726 := zMk (zRl ho4 (zBs (by exact uT HB.out))); replace HB := zMk (zBt (by exact uT HB.out) hb); clear hb ho4; obtain ⟨Ao5, co5, eo5⟩ := zRs HO726.out; subst eo5)|  ((with_reducible refine gate_callee (f := 63) rfl ?_); refine goesL_ (some 10) rfl rfl Tryd.func63 (by kernel_rfl) rfl #[.slice Ao5 y724.length co5] rfl (by (try simp only [zMa, zMc, zMn]); first |  done|  rfl|  (simp only [zLd, zLt]; rfl)) ?_; (with_reducible refine (r1_Norm.calls k _ _ y724 t727 _ ?side1 ?side2 A2.out).mono ?_); (case side1 => exact uC (zRr HO726.out).2.2); (case side2 => exact (zRr HO726.out).2.1); rintro e w6 ⟨v728, rfl, ho0, hb⟩; refine ⟨_, rfl, ?_⟩; have HO729 := zMk (zRl (zRw ho0 (zRt (by exact uR HO726.out))) (zBs (by exact uT HB.out))); replace HO726 := zMk (zRe (by exact uR HO726.out) (zRz ho0) hb); replace HB := zMk (zBt (by exact uT HB.out) hb); (try clear hb); (try clear hb2); (try clear hk); (try clear hi); (try clear ho0)))
  go_ret
  exact ⟨_, by first | rfl | (simp [errW_none, errW_some] <;> rfl) | (simp [*, errW_none, errW_some] <;> rfl), by (with_reducible repeat (first | apply zRa | apply zRn | apply zRd)); exact zRm HO729.out (fun _ hk => trivial), by exact uT HB.out⟩

/- The plain laws of limbs: the value of a row of limbs, its normal form, what the document's answer and the program's small functions make of it. -/

/-- The number that limbs stand for, the lowest first. -/
def val : List Int → Int
  | [] => 0
  | x :: r => x + 4294967296 * val r
def Limbs (l : List Int) : Prop := ∀ x ∈ l, 0 ≤ x ∧ x < 4294967296
theorem w64 {n : Int} (h : -9223372036854775808 ≤ n) (h' : n ≤ 9223372036854775807) : wrap64 n = n := by unfold wrap64; omega
theorem limbs_of_wf {l : List Int} (h : ∀ x ∈ l, (Lit.int .u32 x).wf = true) : Limbs l := fun x hx => by
  have := Go.bounds_u32 (h x hx)
  omega
theorem Limbs.nil : Limbs [] := fun _ h => by cases h
theorem Limbs.cons {x : Int} {l : List Int} (h : Limbs (x :: l)) : (0 ≤ x ∧ x < 4294967296) ∧ Limbs l := ⟨h x (List.mem_cons_self ..), fun y hy => h y (List.mem_cons_of_mem _ hy)⟩
theorem Limbs.mk {x : Int} {l : List Int} (h0 : 0 ≤ x) (h1 : x < 4294967296) (h : Limbs l) : Limbs (x :: l) := fun y hy => by
  rcases List.mem_cons.1 hy with rfl | hy
  · exact ⟨h0, h1⟩
  · exact h y hy
theorem Limbs.take {l : List Int} (h : Limbs l) (n : Nat) : Limbs (l.take n) := fun x hx => h x (List.mem_of_mem_take hx)
theorem getD_lt (l : List Int) {n : Nat} (h : n < l.length) : l.getD n 0 = l[n] := by rw [List.getD_eq_getElem?_getD, List.getElem?_eq_getElem h, Option.getD_some]
theorem getD_ge (l : List Int) {n : Nat} (h : l.length ≤ n) : l.getD n 0 = 0 := by rw [List.getD_eq_getElem?_getD, List.getElem?_eq_none h, Option.getD_none]
theorem Limbs.getD {l : List Int} (h : Limbs l) (n : Nat) : 0 ≤ l.getD n 0 ∧ l.getD n 0 < 4294967296 := by
  by_cases hn : n < l.length
  · rw [getD_lt _ hn]; exact h _ (List.getElem_mem hn)
  · rw [getD_ge _ (by omega)]; omega
theorem val_append (a b : List Int) : val (a ++ b) = val a + 4294967296 ^ a.length * val b := by
  induction a with
  | nil => simp [val]
  | cons x a ih => simp only [List.cons_append, val, ih, zLc, Int.pow_succ]; rw [Int.mul_add, ← Int.mul_assoc, Int.mul_comm 4294967296 (4294967296 ^ a.length)]; omega
theorem val_nonneg {l : List Int} (h : Limbs l) : 0 ≤ val l := by
  induction l with
  | nil => simp [val]
  | cons x l ih => have := h.cons; have := ih this.2; simp only [val]; omega
theorem val_lt {l : List Int} (h : Limbs l) : val l < 4294967296 ^ l.length := by
  induction l with
  | nil => simp [val]
  | cons x l ih =>
    have h1 := h.cons
    have h2 := ih h1.2
    simp only [val, zLc, Int.pow_succ]
    omega

/-- No limb that is nought at the top. -/
def Trim (l : List Int) : Prop := l = [] ∨ l.getD (l.length - 1) 0 ≠ 0
theorem Trim.tail {x : Int} {l : List Int} (h : Trim (x :: l)) : Trim l := by
  rcases l with _ | ⟨y, l⟩
  · exact .inl rfl
  · rcases h with h | h
    · cases h
    · exact .inr (by simpa using h)
theorem val_pos {l : List Int} (h : Limbs l) (ht : Trim l) (hn : l ≠ []) : 0 < val l := by
  induction l with
  | nil => exact absurd rfl hn
  | cons x l ih =>
    have h1 := h.cons
    rcases l with _ | ⟨y, l⟩
    · rcases ht with ht | ht
      · cases ht
      · simp [val] at ht ⊢; omega
    · have := ih h1.2 ht.tail (by simp)
      simp only [val] at this ⊢
      omega
theorem val_inj {a : List Int} : ∀ {b : List Int}, Limbs a → Trim a → Limbs b → Trim b → val a = val b → a = b := by
  induction a with
  | nil =>
    intro b _ _ hb tb h
    by_cases hn : b = []
    · exact hn.symm
    · have := val_pos hb tb hn
      simp only [val] at h
      omega
  | cons x a ih =>
    intro b ha ta hb tb h
    rcases b with _ | ⟨y, b⟩
    · have := val_pos ha ta (by simp)
      simp only [val] at h this
      omega
    · have h1 := ha.cons
      have h2 := hb.cons
      simp only [val] at h
      have h3 : x = y := by omega
      have h4 : val a = val b := by omega
      rw [h3, ih h1.2 ta.tail h2.2 tb.tail h4]

theorem cutLen_trim (l : List Int) : ∀ n, cutLen l n = 0 ∨ l.getD (cutLen l n - 1) 0 ≠ 0
  | 0 => .inl rfl
  | n + 1 => by
    simp only [cutLen]
    split
    · exact cutLen_trim l n
    · rename_i h
      exact .inr (by simpa using h)
theorem val_cutLen (l : List Int) : ∀ n, n ≤ l.length → val (l.take (cutLen l n)) = val (l.take n)
  | 0, _ => by simp [cutLen]
  | n + 1, h => by
    simp only [cutLen]
    split
    · rename_i h0
      rw [val_cutLen l n (by omega), List.take_succ_eq_append_getElem (by omega), val_append]
      rw [getD_lt _ (by omega)] at h0
      simp [val, h0]
    · rfl
/-- A row of limbs without the noughts at the top. -/
def cut (l : List Int) : List Int := l.take (cutLen l l.length)
theorem cut_length (l : List Int) : (cut l).length ≤ l.length := by unfold cut; rw [zLt]; omega
theorem cut_len (l : List Int) : (cut l).length = cutLen l l.length := by have := cutLen_le l l.length; unfold cut; rw [zLt]; omega
theorem cut_limbs {l : List Int} (h : Limbs l) : Limbs (cut l) := h.take _
theorem cut_val (l : List Int) : val (cut l) = val l := by unfold cut; rw [val_cutLen l _ (Nat.le_refl _), List.take_length]
theorem cut_trim (l : List Int) : Trim (cut l) := by
  have h1 := cut_len l
  rcases cutLen_trim l l.length with h | h
  · exact .inl (List.eq_nil_of_length_eq_zero (by omega))
  · by_cases h0 : cutLen l l.length = 0
    · exact .inl (List.eq_nil_of_length_eq_zero (by omega))
    · refine .inr ?_
      rw [h1]
      unfold cut
      rw [List.getD_eq_getElem?_getD, List.getElem?_take, if_pos (by omega), ← List.getD_eq_getElem?_getD]
      exact h
theorem cut_f (l : List Int) : n_cut.f l = some (cut l) := rfl
theorem rd_nat (l : List Int) (n : Nat) : rd l (n : Int) = l.getD n 0 := by simp [rd]

/- the document's answer: Same, Norm, Of -/
theorem same_l0 (l : List Int) (hl : l.length < 4611686018427387904) : ∀ (m k : Nat), m ≤ l.length → l.length - m < k → r1_Same.l0 k l l (m : Int) = some true := by
  intro m k
  induction k generalizing m with
  | zero => intro _ h; omega
  | succ k ih =>
    intro hm hk
    simp only [r1_Same.l0]
    by_cases h : (m : Int) < (l.length : Int)
    · simp only [h, if_true, show (0 : Int) ≤ (m : Int) from by omega, w64 (n := (m : Int) + 1) (by omega) (by omega)]
      exact ih (m + 1) (by omega) (by omega)
    · rw [if_neg h]
theorem same_f (l : List Int) (hl : l.length < 4611686018427387904) (k : Nat) (hk : l.length < k) : r1_Same.f k l l = some true := by
  unfold r1_Same.f
  rw [if_pos rfl]
  exact same_l0 l hl 0 k (by omega) (by omega)
theorem norm_l0 (l : List Int) (hl : l.length < 35184372088832) : ∀ (n k : Nat), n ≤ l.length → n < k → r1_Norm.l0 k l (n : Int) = some (l.take (cutLen l n)) := by
  intro n k
  induction k generalizing n with
  | zero => intro _ h; omega
  | succ k ih =>
    intro hn hk
    simp only [r1_Norm.l0]
    rcases n with _ | n
    · rw [if_neg (by omega)]
      simp only [zOb]
      rw [if_pos (by omega), if_pos (by omega), if_pos (by simp)]
      simp [cutLen]
    · rw [if_pos (by omega), w64 (by omega) (by omega), show ((n + 1 : Nat) : Int) - 1 = (n : Int) from by omega, if_pos (by omega), if_pos (by omega), rd_nat]
      simp only [cutLen]
      by_cases h : l.getD n 0 = 0
      · rw [if_pos h, if_pos h]
        exact ih n (by omega) (by omega)
      · rw [if_neg h, if_neg h]
        simp only [zOb]
        rw [if_pos (by omega), if_pos (by omega), if_pos (by simp; omega)]
        simp
theorem norm_f (l : List Int) (hl : l.length < 35184372088832) (k : Nat) (hk : l.length < k) : r1_Norm.f k l = some (cut l) := norm_l0 l hl l.length k (Nat.le_refl _) hk
theorem clone_f (l : List Int) (hl : l.length < 35184372088832) : slices_Clone_uint32_uint32.f l = some l := if_pos hl
theorem nnorm_f (l : List Int) (hl : l.length < 35184372088832) : n_Norm.f l = some (cut l) := by
  unfold n_Norm.f
  rw [cut_f, zOb, clone_f _ (by have := cut_length l; omega)]
  rfl
/-- The limbs of a number below 2^64. -/
def of2 (a : Int) : List Int := cut [a % 4294967296, a / 4294967296]
theorem of_f (a : Int) (h0 : 0 ≤ a) (h1 : a < 18446744073709551616) : n_Of.f a = some (of2 a) := by
  unfold n_Of.f
  rw [show (a / 4294967296) % 4294967296 = a / 4294967296 from by omega]
  rfl
/- The plain laws of comparing: limbs against limbs, bits against bits. -/

theorem cmpI_step {a b x y P : Int} (ha : 0 ≤ a) (ha' : a < P) (hb : 0 ≤ b) (hb' : b < P) : cmpI (a + P * x) (b + P * y) = if x = y then cmpI a b else cmpI x y := by
  unfold cmpI
  rcases Int.lt_trichotomy x y with h | h | h
  · have h1 : P * x + P ≤ P * y := by have := Int.mul_le_mul_of_nonneg_left (show x + 1 ≤ y by omega) (show 0 ≤ P by omega); rw [Int.mul_add] at this; omega
    rw [if_pos (by omega), if_neg (by omega), if_pos h]
  · subst h
    rw [if_pos rfl]
    by_cases h2 : a < b
    · rw [if_pos (by omega), if_pos h2]
    · rw [if_neg (by omega), if_neg h2]
      by_cases h3 : a > b
      · rw [if_pos (by omega), if_pos h3]
      · rw [if_neg (by omega), if_neg h3]
  · have h1 : P * y + P ≤ P * x := by have := Int.mul_le_mul_of_nonneg_left (show y + 1 ≤ x by omega) (show 0 ≤ P by omega); rw [Int.mul_add] at this; omega
    rw [if_neg (by omega), if_pos (by omega), if_neg (by omega), if_neg (by omega), if_pos h]
theorem val_take_succ (l : List Int) (n : Nat) (h : n < l.length) : val (l.take (n + 1)) = val (l.take n) + 4294967296 ^ n * l.getD n 0 := by
  rw [List.take_succ_eq_append_getElem h, val_append, zLt, Nat.min_eq_left (by omega), getD_lt _ h]
  simp [val]
theorem val_ge {l : List Int} (h : Limbs l) (ht : Trim l) (hn : l ≠ []) : (4294967296 : Int) ^ (l.length - 1) ≤ val l := by
  obtain ⟨n, hn'⟩ : ∃ n, l.length = n + 1 := ⟨l.length - 1, by have : l.length ≠ 0 := fun h0 => hn (List.eq_nil_of_length_eq_zero h0); omega⟩
  have h1 := val_take_succ l n (by omega)
  rw [← hn', List.take_length] at h1
  have h2 : l.getD n 0 ≠ 0 := by
    rcases ht with ht | ht
    · exact absurd ht hn
    · rw [hn'] at ht; exact ht
  have h3 := h.getD n
  have h4 := val_nonneg (h.take n)
  have h5 : (4294967296 : Int) ^ n * 1 ≤ 4294967296 ^ n * l.getD n 0 := Int.mul_le_mul_of_nonneg_left (by omega) (Int.le_of_lt (Int.pow_pos (by decide)))
  rw [h1, show l.length - 1 = n by omega]
  omega
theorem pow_up {m n : Nat} (h : m ≤ n) : (4294967296 : Int) ^ m ≤ 4294967296 ^ n := by
  obtain ⟨d, rfl⟩ := Nat.exists_eq_add_of_le h
  rw [Int.pow_add]
  have h1 : (0 : Int) < 4294967296 ^ d := Int.pow_pos (by decide)
  have h2 : (0 : Int) < 4294967296 ^ m := Int.pow_pos (by decide)
  have := Int.mul_le_mul_of_nonneg_left (show (1 : Int) ≤ 4294967296 ^ d by omega) (Int.le_of_lt h2)
  rw [Int.mul_one] at this
  exact this
theorem wraps_u32 (n : Int) (h₀ : 0 ≤ n) (h₁ : n < 2 ^ 32) : IntKind.u32.wrap n = n := by show n % 4294967296 = n; omega
theorem wraps_u64 (n : Int) (h₀ : 0 ≤ n) (h₁ : n < 2 ^ 64) : IntKind.u64.wrap n = n := by show n % 18446744073709551616 = n; omega
/- The plain law of the program's product. -/
/-- Limbs in their normal form that stand for n. -/
structure IsNum (l : List Int) (n : Int) : Prop where
  limbs : Limbs l
  trim : Trim l
  eq : val l = n
theorem IsNum.unique {a b : List Int} {n : Int} (ha : IsNum a n) (hb : IsNum b n) : a = b := val_inj ha.limbs ha.trim hb.limbs hb.trim (ha.eq.trans hb.eq.symm)
theorem IsNum.cut {l : List Int} (h : Limbs l) : IsNum (cut l) (val l) := ⟨cut_limbs h, cut_trim l, cut_val l⟩
theorem IsNum.nonneg {l : List Int} {n : Int} (h : IsNum l n) : 0 ≤ n := by rw [← h.eq]; exact val_nonneg h.limbs
theorem getD_set_ne (l : List Int) {m n : Nat} (v : Int) (h : m ≠ n) : (l.set m v).getD n 0 = l.getD n 0 := by rw [List.getD_eq_getElem?_getD, List.getElem?_set_ne h, ← List.getD_eq_getElem?_getD]
theorem val_set (l : List Int) : ∀ (n : Nat) (v : Int), n < l.length → val (l.set n v) = val l + 4294967296 ^ n * (v - l.getD n 0) := by
  induction l with
  | nil => intro n v h; exact absurd h (by simp)
  | cons x l ih =>
    intro n v h
    rcases n with _ | n
    · simp only [zSb, val, List.getD_cons_zero, Int.pow_zero]; omega
    · have := ih n v (by simpa using h)
      simp only [zSc, val, List.getD_cons_succ, this, Int.pow_succ]
      grind
theorem Limbs.set {l : List Int} (h : Limbs l) (n : Nat) {v : Int} (h0 : 0 ≤ v) (h1 : v < 4294967296) : Limbs (l.set n v) := fun x hx => by
  rcases List.mem_or_eq_of_mem_set hx with hx | rfl
  · exact h x hx
  · exact ⟨h0, h1⟩
theorem getD_of_lt {l : List Int} : ∀ {m n : Nat}, Limbs l → val l < 4294967296 ^ n → n ≤ m → l.getD m 0 = 0 := by
  induction l with
  | nil => intro m n _ _ _; rfl
  | cons x l ih =>
    intro m n hl h hmn
    have h1 := hl.cons
    have h2 := val_nonneg h1.2
    simp only [val] at h
    rcases n with _ | n
    · rw [Int.pow_zero] at h
      have hx : x = 0 := by omega
      have hv : val l = 0 := by omega
      rcases m with _ | m
      · simpa using hx
      · rw [List.getD_cons_succ]
        exact ih (n := 0) h1.2 (by rw [hv]; decide) (by omega)
    · rcases m with _ | m
      · omega
      · rw [List.getD_cons_succ]
        refine ih (n := n) h1.2 ?_ (by omega)
        rw [Int.pow_succ] at h
        omega
theorem limbs_replicate (n : Nat) : Limbs (List.replicate n 0) := fun x hx => by rw [List.eq_of_mem_replicate hx]; omega
theorem val_replicate (n : Nat) : val (List.replicate n 0) = 0 := by
  induction n with
  | zero => rfl
  | succ n ih => simp only [List.replicate_succ, val, ih]; rfl

theorem mul_l1 (b : List Int) (hb : Limbs b) (x : Int) (hx : 0 ≤ x ∧ x < 4294967296) (i : Nat) (X : List Int) (n p : Int) (N : Nat) (hN : N < 70368744177665) (hi : i + b.length < N) (T : Int) :
    ∀ (j m k : Nat) (O : List Int) (c : Int), m + j = b.length → O.length = N → Limbs O → 0 ≤ c → c < 4294967296 → O.getD (i + b.length) 0 = 0 →
    val O + c * 4294967296 ^ (i + m) + x * (val b - val (b.take m)) * 4294967296 ^ i = T →
    ∃ O', O'.length = N ∧ Limbs O' ∧ val O' = T ∧ n_Mul.l1 (k + j + 1) b O (i : Int) x c X n p b (b.length : Int) (m : Int) = n_Mul.l0 k b O' X n (wrap64 (p + 1)) := by
  intro j
  induction j with
  | zero =>
    intro m k O c hm hO lO hc0 hc1 hz hT
    obtain rfl : m = b.length := by omega
    refine ⟨O.set (i + b.length) c, by rw [List.length_set]; exact hO, lO.set _ hc0 hc1, ?_, ?_⟩
    · rw [val_set _ _ _ (by omega), hz]
      rw [List.take_length] at hT
      grind
    · rw [n_Mul.l1, if_neg (by omega), w64 (by omega) (by omega), if_pos (by omega), if_pos (by omega), show c % 4294967296 = c from by omega]
      rfl
  | succ j ih =>
    intro m k O c hm hO lO hc0 hc1 hz hT
    have hbm := hb.getD m
    have hom := lO.getD (i + m)
    obtain ⟨s, hs⟩ : ∃ s, s = x * b.getD m 0 + O.getD (i + m) 0 + c := ⟨_, rfl⟩
    have hxb : 0 ≤ x * b.getD m 0 := Int.mul_nonneg hx.1 hbm.1
    have hxb2 : x * b.getD m 0 ≤ 4294967295 * 4294967295 := Int.mul_le_mul (by omega) (by omega) hbm.1 (by decide)
    have e1 : IntKind.u64.wrap ((IntKind.u64.wrap ((IntKind.u64.wrap ((IntKind.u64.wrap x) * (IntKind.u64.wrap (rd b (m : Int))))) + (IntKind.u64.wrap (rd O ((i + m : Nat) : Int))))) + c) = s := by
      rw [rd_nat, rd_nat, wraps_u64 x (by omega) (by omega), wraps_u64 (b.getD m 0) (by omega) (by omega), wraps_u64 (O.getD (i + m) 0) (by omega) (by omega), wraps_u64 (x * b.getD m 0) (by omega) (by omega), wraps_u64 (x * b.getD m 0 + O.getD (i + m) 0) (by omega) (by omega), wraps_u64 (x * b.getD m 0 + O.getD (i + m) 0 + c) (by omega) (by omega), hs]
    have hs0 : 0 ≤ s ∧ s < 18446744073709551616 := by omega
    obtain ⟨O', h1, h2, h3, h4⟩ := ih (m + 1) k (O.set (i + m) (s % 4294967296)) (s / 4294967296) (by omega) (by rw [List.length_set]; exact hO) (lO.set _ (by omega) (by omega)) (by omega) (by omega) (by rw [getD_set_ne _ _ (by omega)]; exact hz) (by
      rw [val_set _ _ _ (by omega), val_take_succ b m (by omega), ← hT, show i + (m + 1) = (i + m) + 1 by omega, Int.pow_succ, Int.pow_add]
      have := Int.emod_add_mul_ediv s 4294967296
      grind)
    refine ⟨O', h1, h2, h3, ?_⟩
    rw [show k + (j + 1) + 1 = (k + j + 1) + 1 by omega, n_Mul.l1, if_pos (by omega), if_pos (by omega), if_pos (by omega), w64 (n := (i : Int) + (m : Int)) (by omega) (by omega), if_pos (by omega), if_pos (by omega), w64 (n := (m : Int) + 1) (by omega) (by omega), show ((i : Int) + (m : Int)) = ((i + m : Nat) : Int) by omega, e1, zTn, show ((m : Int) + 1) = ((m + 1 : Nat) : Int) by omega]
    exact h4
theorem mul_l0 (a b : List Int) (ha : Limbs a) (hb : Limbs b) (N : Nat) (hN : N < 70368744177665) (hab : a.length + b.length = N) :
    ∀ (j m k : Nat) (O : List Int), m + j = a.length → O.length = N → Limbs O → val O = val (a.take m) * val b →
    ∃ r, n_Mul.l0 (k + (b.length + 2) * j + 1) b O a (a.length : Int) (m : Int) = some r ∧ IsNum r (val a * val b) ∧ r.length ≤ N := by
  intro j
  induction j with
  | zero =>
    intro m k O hm hO lO hv
    refine ⟨cut O, ?_, ?_, by have := cut_length O; omega⟩
    · rw [n_Mul.l0, if_neg (by omega)]
      rfl
    · have := IsNum.cut lO
      rw [hv, List.take_of_length_le (by omega)] at this
      exact this
  | succ j ih =>
    intro m k O hm hO lO hv
    have ham := ha.getD m
    have hlt : val O < 4294967296 ^ (m + b.length) := by
      rw [hv, Int.pow_add]
      have h1 := val_lt (ha.take m)
      have h2 := val_lt hb
      have h3 := val_nonneg (ha.take m)
      have h4 := val_nonneg hb
      rw [zLt, Nat.min_eq_left (by omega)] at h1
      exact Int.lt_of_le_of_lt (Int.mul_le_mul_of_nonneg_right (Int.le_of_lt h1) h4) (Int.mul_lt_mul_of_pos_left h2 (Int.pow_pos (by decide)))
    obtain ⟨O', h1, h2, h3, h4⟩ := mul_l1 b hb (a.getD m 0) ham m a (a.length : Int) (m : Int) N hN (by omega) (val (a.take (m + 1)) * val b) b.length 0 (k + (b.length + 2) * j + 1) O 0 (by omega) hO lO (by omega) (by omega) (getD_of_lt lO hlt (Nat.le_refl _)) (by
      rw [hv, val_take_succ a m (by omega)]
      simp only [List.take_zero, val]
      grind)
    obtain ⟨r, h5, h6, h7⟩ := ih (m + 1) k O' (by omega) h1 h2 h3
    refine ⟨r, ?_, h6, h7⟩
    rw [show k + (b.length + 2) * (j + 1) + 1 = ((k + (b.length + 2) * j + 1) + b.length + 1) + 1 by rw [Nat.mul_add]; omega, n_Mul.l0, if_pos (by omega), if_pos (by omega), if_pos (by omega), rd_nat]
    rw [show ((0 : Nat) : Int) = 0 from rfl] at h4
    rw [h4, w64 (by omega) (by omega)]
    exact h5
theorem mul_f (a b : List Int) (ha : Limbs a) (hb : Limbs b) (hN : a.length + b.length < 70368744177665) (k : Nat) (hk : (b.length + 2) * a.length + 1 ≤ k) :
    ∃ r, n_Mul.f k a b = some r ∧ IsNum r (val a * val b) ∧ r.length ≤ a.length + b.length := by
  have ca := cut_length a
  have cb := cut_length b
  have h0 : ((cut b).length + 2) * (cut a).length + 1 ≤ k := Nat.le_trans (Nat.succ_le_succ (Nat.mul_le_mul (by omega) ca)) hk
  obtain ⟨d, rfl⟩ : ∃ d, k = d + ((cut b).length + 2) * (cut a).length + 1 := ⟨k - (((cut b).length + 2) * (cut a).length + 1), by omega⟩
  obtain ⟨r, h1, h2, h3⟩ := mul_l0 (cut a) (cut b) (cut_limbs ha) (cut_limbs hb) ((cut a).length + (cut b).length) (by omega) rfl (cut a).length 0 d (List.replicate ((cut a).length + (cut b).length) 0) (by omega) (by simp) (limbs_replicate _) (by rw [val_replicate]; simp [val])
  refine ⟨r, ?_, by rw [cut_val, cut_val] at h2; exact h2, by omega⟩
  unfold n_Mul.f
  rw [cut_f, zOb, cut_f, zOb, w64 (by omega) (by omega), if_pos (by omega), show ((cut a).length : Int) + ((cut b).length : Int) = (((cut a).length + (cut b).length : Nat) : Int) by omega, zTn, if_pos (by omega)]
  exact h1
/- The plain laws of bits, and of comparing them. -/
/- bits -/
def bval : List Int → Int
  | [] => 0
  | x :: r => x + 2 * bval r
def Bits (l : List Int) : Prop := ∀ x ∈ l, x = 0 ∨ x = 1
theorem bval_append (a b : List Int) : bval (a ++ b) = bval a + 2 ^ a.length * bval b := by
  induction a with
  | nil => simp [bval]
  | cons x a ih => simp only [List.cons_append, bval, ih, zLc, Int.pow_succ]; rw [Int.mul_add, ← Int.mul_assoc, Int.mul_comm 2 (2 ^ a.length)]; omega
theorem Bits.tail {x : Int} {l : List Int} (h : Bits (x :: l)) : (x = 0 ∨ x = 1) ∧ Bits l := ⟨h x (List.mem_cons_self ..), fun y hy => h y (List.mem_cons_of_mem _ hy)⟩
theorem Bits.nil : Bits [] := fun _ h => by cases h
theorem Bits.append {a b : List Int} (ha : Bits a) (hb : Bits b) : Bits (a ++ b) := fun x hx => by
  rcases List.mem_append.1 hx with h | h
  · exact ha x h
  · exact hb x h
theorem Bits.one {x : Int} (h : x = 0 ∨ x = 1) : Bits [x] := fun y hy => by rw [List.mem_singleton] at hy; rw [hy]; exact h
theorem Bits.take {l : List Int} (h : Bits l) (n : Nat) : Bits (l.take n) := fun x hx => h x (List.mem_of_mem_take hx)
theorem Bits.getD {l : List Int} (h : Bits l) (n : Nat) : l.getD n 0 = 0 ∨ l.getD n 0 = 1 := by
  by_cases hn : n < l.length
  · rw [getD_lt _ hn]; exact h _ (List.getElem_mem hn)
  · rw [getD_ge _ (by omega)]; exact .inl rfl
theorem bval_bounds {l : List Int} (h : Bits l) : 0 ≤ bval l ∧ bval l < 2 ^ l.length := by
  induction l with
  | nil => simp [bval]
  | cons x l ih =>
    have h1 := h.tail
    have h2 := ih h1.2
    simp only [bval, zLc, Int.pow_succ]
    omega
theorem bval_take_succ (l : List Int) (n : Nat) : bval (l.take (n + 1)) = bval (l.take n) + 2 ^ n * l.getD n 0 := by
  by_cases h : n < l.length
  · rw [List.take_succ_eq_append_getElem h, bval_append, zLt, Nat.min_eq_left (by omega), getD_lt _ h]
    simp [bval]
  · rw [List.take_of_length_le (by omega), List.take_of_length_le (by omega), getD_ge _ (by omega)]
    simp
theorem bval_take_lt {l : List Int} (h : Bits l) (n : Nat) : 0 ≤ bval (l.take n) ∧ bval (l.take n) < 2 ^ n := by
  have h1 := bval_bounds (h.take n)
  refine ⟨h1.1, Int.lt_of_lt_of_le h1.2 ?_⟩
  have := Nat.pow_le_pow_right (show 0 < 2 by decide) (show (l.take n).length ≤ n by rw [zLt]; omega)
  exact_mod_cast this
/-- The n low bits of x, the lowest first. -/
def bitsW (x : Int) : Nat → List Int
  | 0 => []
  | n + 1 => bitsW x n ++ [x / 2 ^ n % 2]
theorem bitsW_zero (x : Int) : bitsW x 0 = [] := rfl
theorem bitsW_succ (x : Int) (n : Nat) : bitsW x (n + 1) = bitsW x n ++ [x / 2 ^ n % 2] := rfl
theorem bitsW_length (x : Int) (n : Nat) : (bitsW x n).length = n := by
  induction n with
  | zero => rfl
  | succ n ih => simp [bitsW, ih]
theorem bitsW_bits (x : Int) (n : Nat) : Bits (bitsW x n) := by
  induction n with
  | zero => exact Bits.nil
  | succ n ih => exact ih.append (Bits.one (by omega))
theorem bval_bitsW (x : Int) (n : Nat) (h : 0 ≤ x) : bval (bitsW x n) = x % 2 ^ n := by
  induction n with
  | zero => simp only [bitsW, bval, Int.pow_zero]; omega
  | succ n ih =>
    simp only [bitsW]
    rw [bval_append, ih, bitsW_length]
    simp only [bval]
    rw [Int.pow_succ, Int.emod_def x (2 ^ n * 2), ← Int.ediv_ediv_of_nonneg (Int.le_of_lt (Int.pow_pos (by decide)))]
    have h1 := Int.emod_def x (2 ^ n)
    have h2 := Int.emod_def (x / 2 ^ n) 2
    rw [h1, h2, Int.mul_add, Int.mul_sub, Int.mul_assoc]
    simp only [Int.mul_zero, Int.add_zero]
    omega
def bitsOf : List Int → List Int
  | [] => []
  | x :: r => bitsW x 32 ++ bitsOf r
theorem bitsOf_length (l : List Int) : (bitsOf l).length = 32 * l.length := by
  induction l with
  | nil => rfl
  | cons x l ih => simp [bitsOf, ih, bitsW_length]; omega
theorem bitsOf_bits (l : List Int) : Bits (bitsOf l) := by
  induction l with
  | nil => exact Bits.nil
  | cons x l ih => exact (bitsW_bits x 32).append ih
theorem bval_bitsOf {l : List Int} (h : Limbs l) : bval (bitsOf l) = val l := by
  induction l with
  | nil => rfl
  | cons x l ih =>
    have h1 := h.cons
    simp only [bitsOf, val]
    rw [bval_append, ih h1.2, bval_bitsW x 32 h1.1.1, bitsW_length]
    have : x % 2 ^ 32 = x := by omega
    rw [this]; omega
theorem u32_and1 (x : Int) (h₀ : 0 ≤ x) (h₁ : x < 4294967296) : Go.bits .and .u32 x 1 = x % 2 := bits_mask .u32 32 (by decide) wraps_u32 1 (by decide) x h₀ h₁
theorem u8_and1 (x : Int) (h₀ : 0 ≤ x) (h₁ : x < 256) : Go.bits .and .u8 x 1 = x % 2 := bits_mask .u8 8 (by decide) wraps_u8 1 (by decide) x h₀ h₁
theorem shr_u32 (x : Int) (i : Nat) (h : i ≤ 32) : shr .u32 x (IntKind.u64.wrap (i : Int)) = x / 2 ^ i := by
  rw [wraps_u64 _ (by omega) (by omega)]
  unfold shr
  rw [show min ((i : Int)).toNat (IntKind.bits .u32) = i from by rw [zTn]; exact Nat.min_eq_left h]
theorem bits_l1 (x0 : List Int) (hl : Limbs x0) (m : Nat) (hm : m < x0.length) (pre : List Int) (hp : pre.length + 32 < 140737488355328) (hm2 : x0.length < 4611686018427387904) : ∀ (j i k : Nat), i + j = 32 →
    r1_bits.l1 (k + j + 1) x0 (pre ++ bitsW (x0.getD m 0) i) (m : Int) (i : Int) = r1_bits.l0 k x0 (pre ++ bitsW (x0.getD m 0) 32) ((m + 1 : Nat) : Int) := by
  intro j
  induction j with
  | zero =>
    intro i k h
    obtain rfl : i = 32 := by omega
    rw [r1_bits.l1, if_neg (by omega), w64 (by omega) (by omega)]
    rfl
  | succ j ih =>
    intro i k h
    have hx := hl.getD m
    have hdiv : 0 ≤ x0.getD m 0 / 2 ^ i ∧ x0.getD m 0 / 2 ^ i < 4294967296 := by
      refine ⟨Int.ediv_nonneg hx.1 (Int.le_of_lt (Int.pow_pos (by decide))), ?_⟩
      have := Int.ediv_le_self (2 ^ i) hx.1
      omega
    rw [show k + (j + 1) + 1 = (k + j + 1) + 1 by omega, r1_bits.l1, if_pos (by omega), if_pos (by omega), if_pos (by omega), if_pos (by rw [wraps_u64 _ (by omega) (by omega)]; omega), if_pos (by rw [List.length_append, bitsW_length]; omega), rd_nat, shr_u32 _ i (by omega), u32_and1 _ hdiv.1 hdiv.2, w64 (by omega) (by omega), show x0.getD m 0 / 2 ^ i % 2 % 256 = x0.getD m 0 / 2 ^ i % 2 by omega]
    have := ih (i + 1) k (by omega)
    rw [show ((i + 1 : Nat) : Int) = (i : Int) + 1 by omega] at this
    rw [← this, bitsW_succ, List.append_assoc]
theorem bits_l0 (x0 : List Int) (hl : Limbs x0) (hm2 : x0.length < 4000000000000) : ∀ (j m k : Nat), m + j = x0.length →
    r1_bits.l0 (k + 34 * j + 1) x0 (bitsOf (x0.take m)) (m : Int) = some (bitsOf x0) := by
  intro j
  induction j with
  | zero =>
    intro m k h
    rw [r1_bits.l0, if_neg (by omega), List.take_of_length_le (by omega)]
  | succ j ih =>
    intro m k h
    rw [show k + 34 * (j + 1) + 1 = ((k + 34 * j + 1) + 32 + 1) + 1 by omega]
    rw [r1_bits.l0, if_pos (by omega)]
    have h1 := bits_l1 x0 hl m (by omega) (bitsOf (x0.take m)) (by rw [bitsOf_length, zLt]; omega) (by omega) 32 0 (k + 34 * j + 1) (by omega)
    rw [bitsW_zero, List.append_nil] at h1
    rw [show ((0 : Nat) : Int) = 0 from rfl] at h1
    rw [h1]
    have h2 : bitsOf (x0.take (m + 1)) = bitsOf (x0.take m) ++ bitsW (x0.getD m 0) 32 := by
      rw [List.take_succ_eq_append_getElem (by omega), getD_lt _ (by omega)]
      have : ∀ a b : List Int, bitsOf (a ++ b) = bitsOf a ++ bitsOf b := by
        intro a b
        induction a with
        | nil => rfl
        | cons x a ih => simp [bitsOf, ih]
      rw [this]
      simp [bitsOf]
    have h3 := ih (m + 1) k (by omega)
    rw [h2] at h3
    exact h3
theorem bits_f (l : List Int) (hl : Limbs l) (hm : l.length < 4000000000000) (k : Nat) (hk : 34 * l.length + 1 ≤ k) : r1_bits.f k l = some (bitsOf l) := by
  unfold r1_bits.f
  obtain ⟨d, rfl⟩ : ∃ d, k = d + 34 * l.length + 1 := ⟨k - (34 * l.length + 1), by omega⟩
  exact bits_l0 l hl hm l.length 0 d (by omega)
theorem at_f (l : List Int) (i : Nat) : r1_at.f l (i : Int) = some (l.getD i 0) := by
  unfold r1_at.f
  by_cases h : (i : Int) < (l.length : Int)
  · rw [if_pos h, if_pos (by omega), rd_nat]
  · rw [if_neg h, getD_ge _ (by omega)]
theorem rcmp_l0 (x y : List Int) (hx : Bits x) (hy : Bits y) : ∀ (n k : Nat), n < 4611686018427387904 → n < k → r1_Cmp.l0 k x y ((n : Int) - 1) = some (cmpI (bval (x.take n)) (bval (y.take n))) := by
  intro n
  induction n with
  | zero =>
    intro k _ hk
    obtain ⟨k, rfl⟩ : ∃ d, k = d + 1 := ⟨k - 1, by omega⟩
    simp only [r1_Cmp.l0]
    rw [if_neg (by omega)]
    simp [bval, cmpI]
  | succ n ih =>
    intro k hn hk
    obtain ⟨k, rfl⟩ : ∃ d, k = d + 1 := ⟨k - 1, by omega⟩
    simp only [r1_Cmp.l0]
    rw [if_pos (by omega), show ((n + 1 : Nat) : Int) - 1 = (n : Int) by omega]
    simp only [at_f, zOb]
    rw [w64 (by omega) (by omega), ih k (by omega) (by omega)]
    have h1 := bval_take_lt hx n
    have h2 := bval_take_lt hy n
    rw [bval_take_succ, bval_take_succ, cmpI_step h1.1 h1.2 h2.1 h2.2]
    by_cases h3 : x.getD n 0 < y.getD n 0
    · rw [if_pos h3, if_neg (by omega)]
      unfold cmpI
      rw [if_pos h3]
    · rw [if_neg h3]
      by_cases h4 : x.getD n 0 > y.getD n 0
      · rw [if_pos h4, if_neg (by omega)]
        unfold cmpI
        rw [if_neg h3, if_pos h4]
      · rw [if_neg h4, if_pos (by omega)]
theorem mx_nat (a b : Nat) : mx (a : Int) (b : Int) = ((max a b : Nat) : Int) := by unfold mx; split <;> omega
theorem rcmp_f (a b : List Int) (ha : Limbs a) (hb : Limbs b) (la : a.length < 4000000000000) (lb : b.length < 4000000000000) (k : Nat) (hk : 34 * a.length + 34 * b.length + 2 ≤ k) : r1_Cmp.f k a b = some (cmpI (val a) (val b)) := by
  unfold r1_Cmp.f
  rw [bits_f a ha la k (by omega), zOb, bits_f b hb lb k (by omega), zOb, mx_nat, bitsOf_length, bitsOf_length, w64 (by omega) (by omega), rcmp_l0 _ _ (bitsOf_bits a) (bitsOf_bits b) _ k (by omega) (by omega)]
  rw [List.take_of_length_le (by rw [bitsOf_length]; omega), List.take_of_length_le (by rw [bitsOf_length]; omega), bval_bitsOf ha, bval_bitsOf hb]
/- The plain laws of the document's answer over bits: sums, limbs again, the product. -/
theorem bval_one (x : Int) : bval [x] = x := by simp [bval]
/- limbs of bits -/
theorem shl_u32 (b : Int) (hb : b = 0 ∨ b = 1) (i : Nat) (h : i < 32) : shl .u32 (b % 4294967296) (i : Int) = b * 2 ^ i := by
  unfold shl
  rw [show min ((i : Int)).toNat (IntKind.bits .u32) = i from by rw [zTn]; exact Nat.min_eq_left (Nat.le_of_lt h)]
  have hp : (0 : Int) < 2 ^ i := Int.pow_pos (by decide)
  have hp2 : (2 : Int) ^ i ≤ 2 ^ 31 := by
    have := Nat.pow_le_pow_right (show 0 < 2 by decide) (show i ≤ 31 by omega)
    exact_mod_cast this
  rcases hb with rfl | rfl
  · simp; rfl
  · rw [show (1 : Int) % 4294967296 = 1 from rfl, Int.one_mul, wraps_u32 _ (by omega) (by omega)]
theorem or_low (x b : Int) (i : Nat) (hi : i < 32) (hx : 0 ≤ x) (hx2 : x < 2 ^ i) (hb : b = 0 ∨ b = 1) : Go.bits .or .u32 x (b * 2 ^ i) = x + b * 2 ^ i := by
  have hp : (0 : Int) < 2 ^ i := Int.pow_pos (by decide)
  have hp2 : (2 : Int) ^ i ≤ 2 ^ 31 := by
    have := Nat.pow_le_pow_right (show 0 < 2 by decide) (show i ≤ 31 by omega)
    exact_mod_cast this
  have hc : Go.bits .or .u32 x (b * 2 ^ i) = Go.bits .or .u32 (b * 2 ^ i) x := by
    obtain ⟨p, rfl⟩ := Int.eq_ofNat_of_zero_le hx
    obtain ⟨q, hq⟩ := Int.eq_ofNat_of_zero_le (show 0 ≤ b * 2 ^ i by rcases hb with rfl | rfl <;> omega)
    have hq2 : q < 2 ^ 32 := by rcases hb with rfl | rfl <;> omega
    have hp3 : p < 2 ^ 32 := by omega
    rw [hq, (bits_nat .u32 32 (by decide) wraps_u32 p q hp3 hq2).2, (bits_nat .u32 32 (by decide) wraps_u32 q p hq2 hp3).2, Nat.or_comm]
  rw [hc, bits_join .u32 32 (by decide) wraps_u32 i (b * 2 ^ i) x (by rcases hb with rfl | rfl <;> omega) (by rw [Int.mul_emod_left]) (by rcases hb with rfl | rfl <;> omega) hx hx2 (by omega)]
  omega
theorem pow_split (m : Nat) : (2 : Int) ^ m = 4294967296 ^ (m / 32) * 2 ^ (m % 32) := by
  rw [show (4294967296 : Int) = 2 ^ 32 from rfl, ← Int.pow_mul, ← Int.pow_add]
  congr 1
  omega
theorem limb_top (O : List Int) (lO : Limbs O) (m : Nat) (h : val O < 2 ^ m) : O.getD (m / 32) 0 < 2 ^ (m % 32) := by
  by_cases hm : m / 32 < O.length
  · have h1 : val O = val (O.take (m / 32)) + 4294967296 ^ (m / 32) * val (O.drop (m / 32)) := by
      have h0 := val_append (O.take (m / 32)) (O.drop (m / 32))
      rw [List.take_append_drop, zLt, Nat.min_eq_left (by omega)] at h0
      exact h0
    have h2 := val_nonneg (lO.take (m / 32))
    have h3 : O.drop (m / 32) = O.getD (m / 32) 0 :: O.drop (m / 32 + 1) := by rw [List.drop_eq_getElem_cons hm, getD_lt _ hm]
    have h4 : 0 ≤ val (O.drop (m / 32 + 1)) := val_nonneg (fun x hx => lO x (List.mem_of_mem_drop hx))
    rw [h3, val] at h1
    rw [h1, pow_split] at h
    have hp : (0 : Int) < 4294967296 ^ (m / 32) := Int.pow_pos (by decide)
    have h5 : (4294967296 : Int) ^ (m / 32) * O.getD (m / 32) 0 < 4294967296 ^ (m / 32) * 2 ^ (m % 32) := by
      have : 0 ≤ 4294967296 ^ (m / 32) * (4294967296 * val (O.drop (m / 32 + 1))) := Int.mul_nonneg (Int.le_of_lt hp) (by omega)
      rw [Int.mul_add] at h
      omega
    exact Int.lt_of_mul_lt_mul_left h5 (Int.le_of_lt hp)
  · rw [getD_ge _ (by omega)]
    exact Int.pow_pos (by decide)
theorem add_bit (x b P : Int) (hx : 0 ≤ x) (hx2 : x < P) (hb : b = 0 ∨ b = 1) (hP : P ≤ 2 ^ 31) (hp : 0 < P) : 0 ≤ x + b * P ∧ x + b * P < 4294967296 := by
  rcases hb with rfl | rfl
  · rw [Int.zero_mul]; omega
  · rw [Int.one_mul]; omega
theorem tdiv32 (m : Nat) (h : m < 4611686018427387904) : wrap64 (Int.tdiv (m : Int) 32) = ((m / 32 : Nat) : Int) := by
  have h0 : Int.tdiv (m : Int) 32 = ((m / 32 : Nat) : Int) := rfl
  rw [h0]
  exact w64 (by omega) (by omega)
theorem tmod32 (m : Nat) : IntKind.u64.wrap (Int.tmod (m : Int) 32) = ((m % 32 : Nat) : Int) := by
  have h0 : Int.tmod (m : Int) 32 = ((m % 32 : Nat) : Int) := rfl
  rw [h0]
  have h1 : m % 32 < 32 := Nat.mod_lt _ (by decide)
  generalize m % 32 = r at h1 ⊢
  show (r : Int) % 18446744073709551616 = r
  omega
theorem limbs_l0 (b : List Int) (hb : Bits b) (N : Nat) (hN : N < 35184372088832) (hbN : b.length ≤ 32 * N) :
    ∀ (j m k : Nat) (O : List Int), m + j = b.length → O.length = N → Limbs O → val O = bval (b.take m) →
    ∃ r, r1_limbs.l0 (k + N + 1 + j + 1) b O (m : Int) = some r ∧ IsNum r (bval b) ∧ r.length ≤ N := by
  intro j
  induction j with
  | zero =>
    intro m k O hm hO lO hv
    refine ⟨cut O, ?_, ?_, by have := cut_length O; omega⟩
    · rw [r1_limbs.l0, if_neg (by omega), norm_f O (by omega) _ (by omega)]
      rfl
    · have := IsNum.cut lO
      rw [hv, List.take_of_length_le (by omega)] at this
      exact this
  | succ j ih =>
    intro m k O hm hO lO hv
    have e1 := tdiv32 m (by omega)
    have e2 := tmod32 m
    have hlt : m / 32 < O.length := by omega
    have h31 : m % 32 ≤ 31 := by omega
    have hbm := hb.getD m
    have htop := limb_top O lO m (by rw [hv]; exact (bval_take_lt hb m).2)
    have hol := lO.getD (m / 32)
    have hmod : m % 32 < 32 := Nat.mod_lt _ (by decide)
    have hp : (0 : Int) < 2 ^ (m % 32) := Int.pow_pos (by decide)
    have hp2 : (2 : Int) ^ (m % 32) ≤ 2 ^ 31 := by
      have := Nat.pow_le_pow_right (show 0 < 2 by decide) h31
      exact_mod_cast this
    have hset := add_bit (O.getD (m / 32) 0) (b.getD m 0) (2 ^ (m % 32)) hol.1 htop hbm hp2 hp
    have hsh := shl_u32 (b.getD m 0) hbm (m % 32) hmod
    have hor := or_low (O.getD (m / 32) 0) (b.getD m 0) (m % 32) hmod hol.1 htop hbm
    have hps := pow_split m
    clear htop hp hp2
    generalize (2 : Int) ^ (m % 32) = Q at hset hsh hor hps
    have hv2 : val (O.set (m / 32) (O.getD (m / 32) 0 + b.getD m 0 * Q)) = bval (b.take (m + 1)) := by
      rw [val_set O (m / 32) _ hlt, hv, bval_take_succ, hps]
      have h9 : O.getD (m / 32) 0 + b.getD m 0 * Q - O.getD (m / 32) 0 = b.getD m 0 * Q := by rw [Int.add_comm (O.getD (m / 32) 0)]; exact Int.add_sub_cancel _ _
      rw [h9, Int.mul_assoc, Int.mul_comm Q]
    clear hps
    obtain ⟨r, h1, h2, h3⟩ := ih (m + 1) k (O.set (m / 32) (O.getD (m / 32) 0 + b.getD m 0 * Q)) (by omega) (by rw [List.length_set]; exact hO) (lO.set _ hset.1 hset.2) hv2
    refine ⟨r, ?_, h2, h3⟩
    rw [show k + N + 1 + (j + 1) + 1 = (k + N + 1 + j + 1) + 1 by omega, r1_limbs.l0, if_pos (by omega), e1, e2, if_pos (by omega), if_pos (by omega), if_pos (by omega), if_pos (by omega), rd_nat, rd_nat, hsh, hor, w64 (by omega) (by omega), zTn, show ((m : Int) + 1) = ((m + 1 : Nat) : Int) by omega]
    exact h1
theorem limbs_f (b : List Int) (hb : Bits b) (hl : b.length < 140737488355328) (k : Nat) (hk : 2 * b.length + 4 ≤ k) :
    ∃ r, r1_limbs.f k b = some r ∧ IsNum r (bval b) ∧ 32 * r.length ≤ b.length + 31 := by
  obtain ⟨N, hN⟩ : ∃ N, N = (b.length + 31) / 32 := ⟨_, rfl⟩
  have e1 : wrap64 (Int.tdiv (wrap64 ((b.length : Int) + 31)) 32) = (N : Int) := by
    rw [w64 (n := (b.length : Int) + 31) (by omega) (by omega), show (b.length : Int) + 31 = ((b.length + 31 : Nat) : Int) by omega, show Int.tdiv ((b.length + 31 : Nat) : Int) 32 = (((b.length + 31) / 32 : Nat) : Int) from rfl, ← hN, w64 (by omega) (by omega)]
  obtain ⟨d, rfl⟩ : ∃ d, k = d + N + 1 + b.length + 1 := ⟨k - (N + 1 + b.length + 1), by omega⟩
  obtain ⟨r, h1, h2, h3⟩ := limbs_l0 b hb N (by omega) (by omega) b.length 0 d (List.replicate N 0) (by omega) (by simp) (limbs_replicate _) (by rw [val_replicate]; rfl)
  refine ⟨r, ?_, h2, by omega⟩
  unfold r1_limbs.f
  rw [e1, if_pos (by omega), zTn, if_pos (by omega)]
  exact h1
/- The plain law of the document's sum of bits. -/
/-- The document's sum of bits: one bit more than the longer one. -/
theorem sum_l0 (x y : List Int) (hx : Bits x) (hy : Bits y) (M : Nat) (hM : M = max x.length y.length) (hM2 : M < 140737488355000) :
    ∀ (j m k : Nat) (O : List Int) (c : Int), m + j = M + 1 → O.length = m → Bits O → (c = 0 ∨ c = 1) → bval O + 2 ^ m * c = bval (x.take m) + bval (y.take m) →
    ∃ r, r1_sum.l0 (k + j + 1) x y O c (m : Int) = some r ∧ Bits r ∧ r.length = M + 1 ∧ bval r = bval x + bval y := by
  intro j
  induction j with
  | zero =>
    intro m k O c hm hO hB hc hv
    refine ⟨O, ?_, hB, by omega, ?_⟩
    · rw [r1_sum.l0, mx_nat, if_neg (by omega)]
    · rw [List.take_of_length_le (by omega), List.take_of_length_le (by omega)] at hv
      have h1 := bval_bounds hx
      have h2 := bval_bounds hy
      have hpow : ∀ {a b : Nat}, a ≤ b → (2 : Int) ^ a ≤ 2 ^ b := fun h => by
        have := Nat.pow_le_pow_right (show 0 < 2 by decide) h
        exact_mod_cast this
      have h3 := hpow (show x.length ≤ M by omega)
      have h4 := hpow (show y.length ≤ M by omega)
      have h5 : (2 : Int) ^ m = 2 ^ M * 2 := by rw [show m = M + 1 by omega, Int.pow_succ]
      have h6 := bval_bounds hB
      rcases hc with rfl | rfl
      · omega
      · omega
  | succ j ih =>
    intro m k O c hm hO hB hc hv
    have hxm := hx.getD m
    have hym := hy.getD m
    obtain ⟨s, hs⟩ : ∃ s, s = x.getD m 0 + y.getD m 0 + c := ⟨_, rfl⟩
    have hs0 : 0 ≤ s ∧ s ≤ 3 := by omega
    obtain ⟨r, h1, h2, h3, h4⟩ := ih (m + 1) k (O ++ [s % 2]) (s / 2) (by omega) (by simp [hO]) (hB.append (Bits.one (by omega))) (by omega) (by
      rw [bval_append, bval_one, bval_take_succ, bval_take_succ, hO, Int.pow_succ]
      have := Int.emod_add_mul_ediv s 2
      grind)
    refine ⟨r, ?_, h2, h3, h4⟩
    rw [show k + (j + 1) + 1 = (k + j + 1) + 1 by omega, r1_sum.l0, mx_nat, if_pos (by omega), at_f, zOb, at_f, zOb, if_pos (by omega), w64 (by omega) (by omega)]
    rw [show ((x.getD m 0 + y.getD m 0) % 256 + c) % 256 = s by omega, u8_and1 s (by omega) (by omega), show ((m : Int) + 1) = ((m + 1 : Nat) : Int) by omega]
    exact h1
theorem sum_f (x y : List Int) (hx : Bits x) (hy : Bits y) (hM : max x.length y.length < 140737488355000) (k : Nat) (hk : max x.length y.length + 2 ≤ k) :
    ∃ r, r1_sum.f k x y = some r ∧ Bits r ∧ r.length = max x.length y.length + 1 ∧ bval r = bval x + bval y := by
  obtain ⟨d, rfl⟩ : ∃ d, k = d + (max x.length y.length + 1) + 1 := ⟨k - (max x.length y.length + 2), by omega⟩
  obtain ⟨r, h1, h2, h3, h4⟩ := sum_l0 x y hx hy _ rfl hM (max x.length y.length + 1) 0 d [] 0 (by omega) rfl Bits.nil (.inl rfl) (by simp [bval])
  exact ⟨r, h1, h2, h3, h4⟩
/- The plain law of the document's product. -/
theorem bits_zeros (n : Nat) : Bits (List.replicate n 0) := fun x hx => .inl (List.eq_of_mem_replicate hx)
theorem bval_zeros (n : Nat) : bval (List.replicate n 0) = 0 := by
  induction n with
  | zero => rfl
  | succ n ih => simp only [List.replicate_succ, bval, ih]; rfl
theorem rmul_l0 (x y : List Int) (hx : Bits x) (hy : Bits y) (hl : x.length + 2 * y.length < 1000000000) :
    ∀ (j m k : Nat) (A : List Int), m + j = y.length → Bits A → A.length ≤ x.length + 2 * m → bval A = bval x * bval (y.take m) →
    ∃ r, r1_Mul.l0 (k + 2 * (x.length + 2 * y.length) + 10 + j + 1) x y A (List.replicate m 0) (m : Int) = some r ∧ IsNum r (bval x * bval y) := by
  intro j
  induction j with
  | zero =>
    intro m k A hm hA lA hv
    obtain ⟨r, h1, h2, _⟩ := limbs_f A hA (by omega) (k + 2 * (x.length + 2 * y.length) + 10) (by omega)
    refine ⟨r, ?_, ?_⟩
    · rw [Nat.add_zero, r1_Mul.l0, if_neg (by omega), h1]
      rfl
    · rw [hv, List.take_of_length_le (by omega)] at h2
      exact h2
  | succ j ih =>
    intro m k A hm hA lA hv
    have hz : List.replicate m (0 : Int) ++ [0] = List.replicate (m + 1) 0 := List.replicate_succ'.symm
    have hlz : (List.replicate m (0 : Int)).length = m := List.length_replicate
    have hS : Bits (List.replicate m 0 ++ x) := (bits_zeros m).append hx
    have hSl : (List.replicate m (0 : Int) ++ x).length = m + x.length := by rw [List.length_append, hlz]
    obtain ⟨t, h1, h2, h3, h4⟩ := sum_f A (List.replicate m 0 ++ x) hA hS (by omega) (k + 2 * (x.length + 2 * y.length) + 10 + j + 1) (by omega)
    rcases hy.getD m with h0 | h0
    · obtain ⟨r, h5, h6⟩ := ih (m + 1) k A (by omega) hA (by omega) (by rw [bval_take_succ, h0, hv, Int.mul_zero, Int.add_zero])
      refine ⟨r, ?_, h6⟩
      rw [show k + 2 * (x.length + 2 * y.length) + 10 + (j + 1) + 1 = (k + 2 * (x.length + 2 * y.length) + 10 + j + 1) + 1 by omega, r1_Mul.l0, if_pos (by omega), if_pos (by omega), rd_nat, h0, if_neg (by decide), if_pos (by omega), hz, w64 (by omega) (by omega)]
      exact h5
    · obtain ⟨r, h5, h6⟩ := ih (m + 1) k t (by omega) h2 (by omega) (by
        rw [h4, hv, bval_append, bval_zeros, hlz, bval_take_succ, h0, Int.zero_add, Int.mul_one, Int.mul_add, Int.mul_comm (bval x) (2 ^ m)])
      refine ⟨r, ?_, h6⟩
      rw [show k + 2 * (x.length + 2 * y.length) + 10 + (j + 1) + 1 = (k + 2 * (x.length + 2 * y.length) + 10 + j + 1) + 1 by omega, r1_Mul.l0, if_pos (by omega), if_pos (by omega), rd_nat, h0, if_pos rfl]
      simp only [zOb, List.nil_append]
      rw [if_pos (by simp only [zLn]; omega), if_pos (by omega), h1, zOb, if_pos (by omega), hz, w64 (by omega) (by omega)]
      exact h5
theorem rmul_f (a b : List Int) (ha : Limbs a) (hb : Limbs b) (la : a.length < 1000000) (lb : b.length < 1000000) (k : Nat) (hk : 200 * a.length + 200 * b.length + 100 ≤ k) :
    ∃ r, r1_Mul.f k a b = some r ∧ IsNum r (val a * val b) := by
  have ca := cut_length a
  have cb := cut_length b
  have la2 := bitsOf_length (cut a)
  have lb2 := bitsOf_length (cut b)
  obtain ⟨d, hd⟩ : ∃ d, k = d + 2 * ((bitsOf (cut a)).length + 2 * (bitsOf (cut b)).length) + 10 + (bitsOf (cut b)).length + 1 := ⟨k - (2 * ((bitsOf (cut a)).length + 2 * (bitsOf (cut b)).length) + 10 + (bitsOf (cut b)).length + 1), by omega⟩
  obtain ⟨r, h1, h2⟩ := rmul_l0 (bitsOf (cut a)) (bitsOf (cut b)) (bitsOf_bits _) (bitsOf_bits _) (by omega) (bitsOf (cut b)).length 0 d [] (by omega) Bits.nil (by simp) (by simp [bval])
  refine ⟨r, ?_, by rw [bval_bitsOf (cut_limbs ha), bval_bitsOf (cut_limbs hb), cut_val, cut_val] at h2; exact h2⟩
  rw [← hd] at h1
  unfold r1_Mul.f
  rw [norm_f a (by omega) k (by omega), zOb, bits_f _ (cut_limbs ha) (by omega) k (by omega), zOb, norm_f b (by omega) k (by omega), zOb, bits_f _ (cut_limbs hb) (by omega) k (by omega), zOb]
  exact h1
/- The plain laws of sums of limbs, of a limb's difference. -/
theorem add32_f (x y c : Int) (hx : 0 ≤ x ∧ x < 4294967296) (hy : 0 ≤ y ∧ y < 4294967296) (hc : c = 0 ∨ c = 1) :
    ∃ d b : Int, bits_Add32.f x y c = some (d, b) ∧ 0 ≤ d ∧ d < 4294967296 ∧ (b = 0 ∨ b = 1) ∧ x + y + c = d + 4294967296 * b := by
  have e : IntKind.u64.wrap ((IntKind.u64.wrap ((IntKind.u64.wrap (x)) + (IntKind.u64.wrap (y)))) + (IntKind.u64.wrap (c))) = x + y + c := by
    rw [wraps_u64 x (by omega) (by omega), wraps_u64 y (by omega) (by omega), wraps_u64 (x + y) (by omega) (by omega), wraps_u64 c (by omega) (by omega), wraps_u64 (x + y + c) (by omega) (by omega)]
  refine ⟨(x + y + c) % 4294967296, (x + y + c) / 4294967296, ?_, by omega, by omega, by omega, by omega⟩
  unfold bits_Add32.f
  rw [e, show (x + y + c) / 4294967296 % 4294967296 = (x + y + c) / 4294967296 by omega]
theorem val_take_succ' (l : List Int) (n : Nat) : val (l.take (n + 1)) = val (l.take n) + 4294967296 ^ n * l.getD n 0 := by
  by_cases h : n < l.length
  · exact val_take_succ l n h
  · rw [List.take_of_length_le (by omega), List.take_of_length_le (by omega), getD_ge _ (by omega)]
    omega
theorem add_l0 (x0 a b : List Int) (ha : Limbs a) (hb : Limbs b) (hx : x0.length = a.length) (hba : b.length ≤ a.length) (hN : a.length < 35184372088832) :
    ∀ (j m k : Nat) (O : List Int) (c : Int), m + j = a.length → O.length = a.length + 1 → Limbs O → (c = 0 ∨ c = 1) → (∀ i, m ≤ i → O.getD i 0 = 0) → val O + c * 4294967296 ^ m = val (a.take m) + val (b.take m) →
    ∃ r, n_Add.l0 (k + j + 1) x0 b O c a (a.length : Int) (m : Int) = some r ∧ IsNum r (val a + val b) ∧ r.length ≤ a.length + 1 := by
  intro j
  induction j with
  | zero =>
    intro m k O c hm hO lO hc hz hT
    obtain rfl : m = a.length := by omega
    refine ⟨cut (O.set a.length c), ?_, ?_, by have := cut_length (O.set a.length c); rw [List.length_set] at this; omega⟩
    · rw [n_Add.l0, if_neg (by omega), if_pos (by omega), if_pos (by omega), cut_f, hx]
      rfl
    · have := IsNum.cut (lO.set a.length (v := c) (by omega) (by omega))
      rw [val_set _ _ _ (by omega), hz _ (Nat.le_refl _)] at this
      rw [List.take_length, List.take_of_length_le hba] at hT
      rw [show val O + 4294967296 ^ a.length * (c - 0) = val a + val b by rw [← hT]; grind] at this
      exact this
  | succ j ih =>
    intro m k O c hm hO lO hc hz hT
    obtain ⟨d, c', e, d0, d1, hc', hd⟩ := add32_f (a.getD m 0) (b.getD m 0) c (ha.getD m) (hb.getD m) hc
    obtain ⟨r, h1, h2, h3⟩ := ih (m + 1) k (O.set m d) c' (by omega) (by rw [List.length_set]; exact hO) (lO.set _ d0 d1) hc' (fun i hi => by rw [getD_set_ne _ _ (by omega)]; exact hz i (by omega)) (by
      rw [val_set _ _ _ (by omega), hz m (Nat.le_refl _), val_take_succ' b m, val_take_succ' a m, Int.pow_succ]
      grind)
    refine ⟨r, ?_, h2, h3⟩
    rw [show k + (j + 1) + 1 = (k + j + 1) + 1 by omega, n_Add.l0, if_pos (by omega), if_pos (by omega), if_pos (by omega)]
    by_cases hbm : (m : Int) < (b.length : Int)
    · rw [if_pos hbm, rd_nat, rd_nat, e, zOb, if_pos (by omega), w64 (by omega) (by omega), zTn, show ((m : Int) + 1) = ((m + 1 : Nat) : Int) by omega]
      exact h1
    · rw [getD_ge b (by omega)] at e
      rw [if_neg hbm, rd_nat, e, zOb, if_pos (by omega), w64 (by omega) (by omega), zTn, show ((m : Int) + 1) = ((m + 1 : Nat) : Int) by omega]
      exact h1
theorem add_j0 (a b : List Int) (ha : Limbs a) (hb : Limbs b) (hba : b.length ≤ a.length) (hN : a.length < 35184372088832) (k : Nat) (hk : a.length + 2 ≤ k) :
    ∃ r, n_Add.j0 k a b = some r ∧ IsNum r (val a + val b) ∧ r.length ≤ a.length + 1 := by
  obtain ⟨d, rfl⟩ : ∃ d, k = (d + a.length + 1) + 1 := ⟨k - (a.length + 2), by omega⟩
  obtain ⟨r, h1, h2, h3⟩ := add_l0 a a b ha hb rfl hba hN a.length 0 d (List.replicate (a.length + 1) 0) 0 (by omega) (by simp) (limbs_replicate _) (.inl rfl) (fun i _ => by
    by_cases hi : i < a.length + 1
    · rw [getD_lt _ (by simpa using hi)]; simp
    · rw [getD_ge _ (by simp; omega)]) (by rw [val_replicate]; simp [val])
  refine ⟨r, ?_, h2, h3⟩
  rw [n_Add.j0, w64 (by omega) (by omega), if_pos (by omega), show ((a.length : Int) + 1) = ((a.length + 1 : Nat) : Int) by omega, zTn, if_pos (by omega)]
  exact h1
theorem add_f (a b : List Int) (ha : Limbs a) (hb : Limbs b) (la : a.length < 35184372088832) (lb : b.length < 35184372088832) (k : Nat) (hka : a.length + 2 ≤ k) (hkb : b.length + 2 ≤ k) :
    ∃ r, n_Add.f k a b = some r ∧ IsNum r (val a + val b) ∧ r.length ≤ max a.length b.length + 1 := by
  unfold n_Add.f
  have ca := cut_length a
  have cb := cut_length b
  rw [cut_f, zOb, cut_f, zOb]
  by_cases h : ((cut a).length : Int) < ((cut b).length : Int)
  · obtain ⟨r, h1, h2, h3⟩ := add_j0 (cut b) (cut a) (cut_limbs hb) (cut_limbs ha) (by omega) (by omega) k (by omega)
    rw [cut_val, cut_val, Int.add_comm] at h2
    exact ⟨r, by rw [if_pos h]; exact h1, h2, by omega⟩
  · obtain ⟨r, h1, h2, h3⟩ := add_j0 (cut a) (cut b) (cut_limbs ha) (cut_limbs hb) (by omega) (by omega) k (by omega)
    rw [cut_val, cut_val] at h2
    exact ⟨r, by rw [if_neg h]; exact h1, h2, by omega⟩
/- The plain law of the document's difference. -/
/- the document's answer -/
theorem rless_l0 (x y : List Int) (hx : Bits x) (hy : Bits y) (M : Nat) (hM : M = max x.length y.length) (hM2 : M < 140737488355000) :
    ∀ (j m k : Nat) (O : List Int) (c : Int), m + j = M → O.length = m → Bits O → (c = 0 ∨ c = 1) → bval O - 2 ^ m * c = bval (x.take m) - bval (y.take m) →
    ∃ r c', r1_less.l0 (k + j + 1) x y O c (m : Int) = some r ∧ Bits r ∧ r.length = M ∧ (c' = 0 ∨ c' = 1) ∧ bval r - 2 ^ M * c' = bval x - bval y := by
  intro j
  induction j with
  | zero =>
    intro m k O c hm hO hB hc hv
    obtain rfl : m = M := by omega
    rw [List.take_of_length_le (by omega), List.take_of_length_le (by omega)] at hv
    exact ⟨O, c, by rw [r1_less.l0, mx_nat, if_neg (by omega)], hB, hO, hc, hv⟩
  | succ j ih =>
    intro m k O c hm hO hB hc hv
    have hxm := hx.getD m
    have hym := hy.getD m
    obtain ⟨s, hs⟩ : ∃ s, s = 2 + x.getD m 0 - y.getD m 0 - c := ⟨_, rfl⟩
    have hs0 : 0 ≤ s ∧ s ≤ 3 := by omega
    obtain ⟨r, c', h1, h2, h3, h4, h5⟩ := ih (m + 1) k (O ++ [s % 2]) (1 - s / 2) (by omega) (by simp [hO]) (hB.append (Bits.one (by omega))) (by omega) (by
      rw [bval_append, bval_one, bval_take_succ, bval_take_succ, hO, Int.pow_succ]
      have := Int.emod_add_mul_ediv s 2
      grind)
    refine ⟨r, c', ?_, h2, h3, h4, h5⟩
    rw [show k + (j + 1) + 1 = (k + j + 1) + 1 by omega, r1_less.l0, mx_nat, if_pos (by omega), at_f, zOb, at_f, zOb, if_pos (by omega), w64 (by omega) (by omega)]
    rw [show (((2 + x.getD m 0) % 256 - y.getD m 0) % 256 - c) % 256 = s by omega, u8_and1 s (by omega) (by omega), show ((m : Int) + 1) = ((m + 1 : Nat) : Int) by omega, show (1 - s / 2) % 256 = 1 - s / 2 by omega]
    exact h1
theorem rless_f (x y : List Int) (hx : Bits x) (hy : Bits y) (h : bval y ≤ bval x) (hM : max x.length y.length < 140737488355000) (k : Nat) (hk : max x.length y.length + 1 ≤ k) :
    ∃ r, r1_less.f k x y = some r ∧ Bits r ∧ r.length = max x.length y.length ∧ bval r = bval x - bval y := by
  obtain ⟨d, rfl⟩ : ∃ d, k = d + max x.length y.length + 1 := ⟨k - (max x.length y.length + 1), by omega⟩
  obtain ⟨r, c, h1, h2, h3, h4, h5⟩ := rless_l0 x y hx hy _ rfl hM (max x.length y.length) 0 d [] 0 (by omega) rfl Bits.nil (.inl rfl) (by simp [bval])
  refine ⟨r, h1, h2, h3, ?_⟩
  have hb := bval_bounds h2
  rw [h3] at hb
  rcases h4 with rfl | rfl
  · rw [Int.mul_zero] at h5; omega
  · rw [Int.mul_one] at h5; omega
theorem rsub_f (a b : List Int) (ha : Limbs a) (hb : Limbs b) (la : a.length < 1000000) (lb : b.length < 1000000) (k : Nat) (hk : 200 * a.length + 200 * b.length + 100 ≤ k) :
    (val a < val b ∧ r1_Sub.f k a b = some ([], 17)) ∨ (val b ≤ val a ∧ ∃ r, r1_Sub.f k a b = some (r, 0) ∧ IsNum r (val a - val b)) := by
  unfold r1_Sub.f
  rw [rcmp_f a b ha hb (by omega) (by omega) k (by omega), zOb]
  by_cases h : val a < val b
  · refine .inl ⟨h, ?_⟩
    unfold cmpI
    rw [if_pos h, if_pos (by omega)]
  · refine .inr ⟨by omega, ?_⟩
    have hc : ¬ cmpI (val a) (val b) < 0 := by
      unfold cmpI
      rw [if_neg h]
      split <;> omega
    have la2 := bitsOf_length a
    have lb2 := bitsOf_length b
    obtain ⟨t, h1, h2, h3, h4⟩ := rless_f (bitsOf a) (bitsOf b) (bitsOf_bits a) (bitsOf_bits b) (by rw [bval_bitsOf ha, bval_bitsOf hb]; omega) (by omega) k (by omega)
    obtain ⟨r, h5, h6, _⟩ := limbs_f t h2 (by omega) k (by omega)
    refine ⟨r, ?_, by rw [h4, bval_bitsOf ha, bval_bitsOf hb] at h6; exact h6⟩
    rw [if_neg hc, bits_f a ha (by omega) k (by omega), zOb, bits_f b hb (by omega) k (by omega), zOb, h1, zOb, h5]
    rfl
/- The plain law of the document's sum. -/
theorem radd_f (a b : List Int) (ha : Limbs a) (hb : Limbs b) (la : a.length < 1000000) (lb : b.length < 1000000) (k : Nat) (hk : 200 * a.length + 200 * b.length + 100 ≤ k) :
    ∃ r, r1_Add.f k a b = some r ∧ IsNum r (val a + val b) := by
  unfold r1_Add.f
  have la2 := bitsOf_length a
  have lb2 := bitsOf_length b
  obtain ⟨t, h1, h2, h3, h4⟩ := sum_f (bitsOf a) (bitsOf b) (bitsOf_bits a) (bitsOf_bits b) (by omega) k (by omega)
  obtain ⟨r, h5, h6, _⟩ := limbs_f t h2 (by omega) k (by omega)
  refine ⟨r, ?_, by rw [h4, bval_bitsOf ha, bval_bitsOf hb] at h6; exact h6⟩
  rw [bits_f a ha (by omega) k (by omega), zOb, bits_f b hb (by omega) k (by omega), zOb, h1, zOb, h5]
  rfl
/- The plain law of the program's difference. -/
/- A limb's weight. -/
/-- A limb's weight: a word of its own, so that no tactic reckons with the power. -/
@[irreducible] def Bp (n : Nat) : Int := (4294967296 : Int) ^ n
theorem Bp_succ (n : Nat) : Bp (n + 1) = Bp n * 4294967296 := by unfold Bp; exact Int.pow_succ 4294967296 n
theorem pow_upB {m n : Nat} (h : m ≤ n) : Bp m ≤ Bp n := by unfold Bp; exact pow_up h
theorem val_ltB {l : List Int} (h : Limbs l) : val l < Bp l.length := by unfold Bp; exact val_lt h
theorem val_geB {l : List Int} (h : Limbs l) (ht : Trim l) (hn : l ≠ []) : Bp (l.length - 1) ≤ val l := by unfold Bp; exact val_ge h ht hn
theorem Limbs.drop {l : List Int} (h : Limbs l) (n : Nat) : Limbs (l.drop n) := fun x hx => h x (List.mem_of_mem_drop hx)
theorem Limbs.append {a b : List Int} (ha : Limbs a) (hb : Limbs b) : Limbs (a ++ b) := fun x hx => by
  rcases List.mem_append.1 hx with h | h
  · exact ha x h
  · exact hb x h
theorem len_of_lt {l : List Int} {v : Int} {m : Nat} (h : IsNum l v) (hv : v < Bp m) : l.length ≤ m := by
  rcases Nat.lt_or_ge m l.length with hlt | hge
  · have h1 := val_geB h.limbs h.trim (by intro h0; rw [h0] at hlt; exact absurd hlt (by simp))
    have h2 : Bp m ≤ Bp (l.length - 1) := pow_upB (by omega)
    rw [h.eq] at h1
    omega
  · exact hge
theorem IsNum.nil : IsNum [] 0 := ⟨Limbs.nil, .inl rfl, rfl⟩
theorem zeros_getD (n i : Nat) : (List.replicate n (0 : Int)).getD i 0 = 0 := by
  by_cases hi : i < n
  · rw [getD_lt _ (by simpa using hi)]; simp
  · rw [getD_ge _ (by simp; omega)]

/-! ### integer_Sub: function 19 -/
def integer_Sub.f (k : Nat) (a0_0 : Bool) (l0_1 : List Int) (a1_0 : Bool) (l1_1 : List Int) : Option (Bool × List Int) := (integer_Neg.f a1_0 l1_1).bind fun bt884 => ((integer_Add.f k a0_0 l0_1 bt884.1 bt884.2).bind fun bt888 => (some (bt888.1, bt888.2)))
set_option maxHeartbeats 8000000 in
set_option maxRecDepth 100000 in
theorem integer_Sub.calls (k : Nat) (a0_0 : Bool) (A0_1 : Option Addr) (c0_1 : Nat) (l0_1 : List Int) (a1_0 : Bool) (A1_1 : Option Addr) (c1_1 : Nat) (l1_1 : List Int) (r1 : Bool) (r2 : List Int) (w : World) (hr0_1 : Kd.C (Kd.int .u32) w A0_1 l0_1.length l0_1) (hc0_1 : l0_1.length ≤ c0_1) (hr1_1 : Kd.C (Kd.int .u32) w A1_1 l1_1.length l1_1) (hc1_1 : l1_1.length ≤ c1_1) (h : integer_Sub.f k a0_0 l0_1 a1_0 l1_1 = some (r1, r2)) :
    Calls Tryd.prog 19 #[.agg #[.bool a0_0, .slice A0_1 l0_1.length c0_1], .agg #[.bool a1_0, .slice A1_1 l1_1.length c1_1]] w fun e w' => ∃ v1_ : Value, e = .returned (.agg #[.bool r1, v1_]) ∧ Kd.R (Kd.int .u32) 58 w' w.heap.size (fun _ => True) v1_ r2 ∧ Below w.heap.size w w' := by
  have hu24 := Tryd.underlying24
  have HR0_1 := zMk hr0_1
  have HC0_1 := zMk hc0_1
  clear hr0_1 hc0_1
  have HR1_1 := zMk hr1_1
  have HC1_1 := zMk hc1_1
  clear hr1_1 hc1_1
  have HB := zMk (Below.refl w.heap.size w)
  have H : ((integer_Neg.f a1_0 l1_1).bind fun bt884 => ((integer_Add.f k a0_0 l0_1 bt884.1 bt884.2).bind fun bt888 => (some (bt888.1, bt888.2)))) = some (r1, r2) := h
  clear h
  replace H := bnd H
  obtain ⟨⟨t884, t885⟩, A30, H⟩ := H
  replace H : ((integer_Add.f k a0_0 l0_1 t884 t885).bind fun bt888 => (some (bt888.1, bt888.2))) = some (r1, r2) := H
  have A3 := zMk A30
  clear A30
  replace H := bnd H
  obtain ⟨⟨t888, t889⟩, A40, H⟩ := H
  replace H : (some (t888, t889)) = some (r1, r2) := H
  have A4 := zMk A40
  clear A40
  simp only [Option.some.injEq, Prod.mk.injEq] at H
  obtain ⟨rfl, rfl⟩ := H
  go_enter Tryd.func19, Tryd.ntmps19
  try go_wp2_with (first |  ((with_reducible refine gate_dst (N := 2) rfl ?_); refine box_event ?hg (N := 2) ?hd (cs := #[.bool a0_0, .slice A0_1 l0_1.length c0_1]) (t := 24) ?hr ?_; (case hd => rfl); (case hg => rfl); (case hr => first |  (go_simp; done)|  (go_simp; rfl)|  (go_simp; rw [show ∀ x : Int, IntKind.u32.wrap (IntKind.u8.wrap x) = x % 256 from fun x => (by show (x % 256) % 4294967296 = x % 256; omega)])); intro gb881 hg w5 hbox hb; have BK881 := zMk (hbox); have GW881 := zMk ((by rw [hg]; exact (zBs (by exact uT HB.out)) : w.heap.size ≤ gb881)); have GE881 := zMk ((by rw [hg]; exact (zBs (by exact uT HB.out)) : w.heap.size ≤ gb881)); have IGE881 := ownGe GE881.out; replace HB := zMk (zBt (by exact uT HB.out) hb); clear hb hbox hg)|  ((with_reducible refine gate_dst (N := 3) rfl ?_); refine box_event ?hg (N := 3) ?hd (cs := #[.bool a1_0, .slice A1_1 l1_1.length c1_1]) (t := 24) ?hr ?_; (case hd => rfl); (case hg => rfl); (case hr => first |  (go_simp; done)|  (go_simp; rfl)|  (go_simp; rw [show ∀ x : Int, IntKind.u32.wrap (IntKind.u8.wrap x) = x % 256 from fun x => (by show (x % 256) % 4294967296 = x % 256; omega)])); intro gb882 hg w6 hbox hb; have BK882 := zMk (hbox); have GW882 := zMk ((by rw [hg]; exact (zBs (by exact uT HB.out)) : w.heap.size ≤ gb882)); have GE882 := zMk ((by rw [hg]; exact (zBs (by exact uT HB.out)) : w.heap.size ≤ gb882)); have IGE882 := ownGe GE882.out; replace HB := zMk (zBt (by exact uT HB.out) hb); have NB881_882 := zMk ((by rw [hg]; exact Nat.ne_of_lt (blk_lt (g := gb881) (o := .cells #[.bool a0_0, .slice A0_1 l0_1.length c0_1] 24 (0, 0)) (by (with_reducible repeat (first |  refine zKn ?_ _|  refine zKd ?_|  refine zKa ?_ _)); exact BK881.out)) : gb881 ≠ gb882)); have NB882_881 := zMk ((by rw [hg]; exact Nat.ne_of_gt (blk_lt (g := gb881) (o := .cells #[.bool a0_0, .slice A0_1 l0_1.length c0_1] 24 (0, 0)) (by (with_reducible repeat (first |  refine zKn ?_ _|  refine zKd ?_|  refine zKa ?_ _)); exact BK881.out)) : gb882 ≠ gb881)); replace BK881 := zMk (zKb (g := gb881) (o := .cells #[.bool a0_0, .slice A0_1 l0_1.length c0_1] 24 (0, 0)) (by (with_reducible repeat (first |  refine zKn ?_ _|  refine zKd ?_|  refine zKa ?_ _)); exact BK881.out) hb); clear hb hbox hg)|  ((with_reducible refine gate_dst (N := 4) rfl ?_); refine box_event ?hg (N := 4) ?hd (cs := #[.bool false, .slice none 0 0]) (t := 24) ?hr ?_; (case hd => rfl); (case hg => rfl); (case hr => first |  (go_simp; done)|  (go_simp; rfl)|  (go_simp; rw [show ∀ x : Int, IntKind.u32.wrap (IntKind.u8.wrap x) = x % 256 from fun x => (by show (x % 256) % 4294967296 = x % 256; omega)])); intro gb883 hg w7 hbox hb; have BK883 := zMk (hbox); have GW883 := zMk ((by rw [hg]; exact (zBs (by exact uT HB.out)) : w.heap.size ≤ gb883)); have GE883 := zMk ((by rw [hg]; exact (zBs (by exact uT HB.out)) : w.heap.size ≤ gb883)); have IGE883 := ownGe GE883.out; replace HB := zMk (zBt (by exact uT HB.out) hb); have NB881_883 := zMk ((by rw [hg]; exact Nat.ne_of_lt (blk_lt (g := gb881) (o := .cells #[.bool a0_0, .slice A0_1 l0_1.length c0_1] 24 (0, 0)) (by (with_reducible repeat (first |  refine zKn ?_ _|  refine zKd ?_|  refine zKa ?_ _)); exact BK881.out)) : gb881 ≠ gb883)); have NB883_881 := zMk ((by rw [hg]; exact Nat.ne_of_gt (blk_lt (g := gb881) (o := .cells #[.bool a0_0, .slice A0_1 l0_1.length c0_1] 24 (0, 0)) (by (with_reducible repeat (first |  refine zKn ?_ _|  refine zKd ?_|  refine zKa ?_ _)); exact BK881.out)) : gb883 ≠ gb881)); replace BK881 := zMk (zKb (g := gb881) (o := .cells #[.bool a0_0, .slice A0_1 l0_1.length c0_1] 24 (0, 0)) (by (with_reducible repeat (first |  refine zKn ?_ _|  refine zKd ?_|  refine zKa ?_ _)); exact BK881.out) hb); have NB882_883 := zMk ((by rw [hg]; exact Nat.ne_of_lt (blk_lt (g := gb882) (o := .cells #[.bool a1_0, .slice A1_1 l1_1.length c1_1] 24 (0, 0)) (by (with_reducible repeat (first |  refine zKn ?_ _|  refine zKd ?_|  refine zKa ?_ _)); exact BK882.out)) : gb882 ≠ gb883)); have NB883_882 := zMk ((by rw [hg]; exact Nat.ne_of_gt (blk_lt (g := gb882) (o := .cells #[.bool a1_0, .slice A1_1 l1_1.length c1_1] 24 (0, 0)) (by (with_reducible repeat (first |  refine zKn ?_ _|  refine zKd ?_|  refine zKa ?_ _)); exact BK882.out)) : gb883 ≠ gb882)); replace BK882 := zMk (zKb (g := gb882) (o := .cells #[.bool a1_0, .slice A1_1 l1_1.length c1_1] 24 (0, 0)) (by (with_reducible repeat (first |  refine zKn ?_ _|  refine zKd ?_|  refine zKa ?_ _)); exact BK882.out) hb); clear hb hbox hg))
  replace BK881 := zMk (zKd BK881.out)
  replace BK882 := zMk (zKd BK882.out)
  replace BK883 := zMk (zKd BK883.out)
  replace HB := zMk (zBd HB.out)
  refine start_ (n := 5) (S := fun w' => w'.cell? ⟨gb881, 0, none⟩ = some (.bool a0_0) ∧ w'.cell? ⟨gb881, 1, none⟩ = some (.slice A0_1 l0_1.length c0_1) ∧ w'.cell? ⟨gb882, 0, none⟩ = some (.bool a1_0) ∧ w'.cell? ⟨gb882, 1, none⟩ = some (.slice A1_1 l1_1.length c1_1)) (ds := []) #[false, false, false, false, false] (by kernel_rfl) rfl rfl ⟨(zKc BK881.out 0).trans rfl, (zKc BK881.out 1).trans rfl, (zKc BK882.out 0).trans rfl, (zKc BK882.out 1).trans rfl⟩ (fun hHeld => ?_)
  generalize w7.drew = w8 at BK881 BK882 BK883 HB hHeld ⊢
  refine take_ (i := 0) (N := some 5) (v := ?_) (a' := ?_) #[true, false, false, false, false] rfl rfl (by kernel_rfl) (fun _ _ _ h => h) (Or.inl ⟨by rfl, ?_⟩) hHeld ?_ ?_
  rotate_left
  · rintro w' ⟨s0, s1, s2, s3⟩
    go_simp
    with_reducible rfl
  rotate_left
  · simp only [Act.put, zSa, zSb, zSc, i64_w, i32_w]
    rfl
  refine take_ (i := 1) (N := some 6) (v := ?_) (a' := ?_) #[true, true, false, false, false] rfl rfl (by kernel_rfl) (fun _ _ _ h => h) (Or.inl ⟨by rfl, ?_⟩) hHeld ?_ ?_
  rotate_left
  · rintro w' ⟨s0, s1, s2, s3⟩
    go_simp
    with_reducible rfl
  rotate_left
  · simp only [Act.put, zSa, zSb, zSc, i64_w, i32_w]
    rfl
  refine one_ (i := 2) (N := some 7) #[true, true, true, false, false] rfl rfl (by kernel_rfl) (by decide) (fun K hK => ?_)
  refine goes_ Tryd.func23 (by kernel_rfl) rfl #[.agg #[.bool a1_0, .slice A1_1 l1_1.length c1_1]] (by rfl) rfl rfl (by (try simp only [zMa, zMc, zMn]); first | done | rfl | (simp only [zLd, zLt]; rfl)) ?_
  with_reducible refine (integer_Neg.calls a1_0 _ _ l1_1 t884 t885 _ ?side1 ?side2 A3.out).mono ?_
  (case side1 => repeat (first | exact (Kd.C_below HR1_1.out HB.out) | (with_reducible refine zCa ?_ _) | (with_reducible refine zCn ?_ _) | (with_reducible refine zCd ?_)))
  (case side2 => exact HC1_1.out)
  rintro e w9 ⟨v886, rfl, ho0, hb⟩
  refine ⟨_, rfl, ?_⟩
  have HO887 := zMk (zRl ho0 (zBs (by exact uT HB.out)))
  replace BK881 := zMk (zKb (g := gb881) (o := .cells #[.bool a0_0, .slice A0_1 l0_1.length c0_1] 24 (0, 0)) (by (with_reducible repeat (first | refine zKn ?_ _ | refine zKd ?_ | refine zKa ?_ _)); exact BK881.out) hb)
  replace BK882 := zMk (zKb (g := gb882) (o := .cells #[.bool a1_0, .slice A1_1 l1_1.length c1_1] 24 (0, 0)) (by (with_reducible repeat (first | refine zKn ?_ _ | refine zKd ?_ | refine zKa ?_ _)); exact BK882.out) hb)
  replace BK883 := zMk (zKb (g := gb883) (o := .cells #[.bool false, .slice none 0 0] 24 (0, 0)) (by (with_reducible repeat (first | refine zKn ?_ _ | refine zKd ?_ | refine zKa ?_ _)); exact BK883.out) hb)
  replace HB := zMk (zBt (by exact uT HB.out) hb)
  (try clear hb)
  (try clear hb2)
  (try clear hk)
  (try clear hi)
  (try clear ho0)
  obtain ⟨Ao10, co10, eo10⟩ := zRs HO887.out
  (first |  subst eo10|  (injection eo10 with f1_ f2_ f3_; have f4_ := f1_.symm; have f5_ := f3_.symm; clear f1_ f2_ f3_; subst f4_; subst f5_))
  refine hK.out _ _ ⟨(zKc BK881.out 0).trans rfl, (zKc BK881.out 1).trans rfl, (zKc BK882.out 0).trans rfl, (zKc BK882.out 1).trans rfl⟩ (fun hHeld => ?_)
  clear hK K
  refine norm_ (a' := ?_) ?_ ?_
  rotate_left
  · show Act.put _ (some 7) _ = _
    simp only [Act.put, zSa, zSb, zSc, i64_w, i32_w]
    rfl
  refine one_ (i := 3) (N := some 8) #[true, true, true, true, false] rfl rfl (by kernel_rfl) (by decide) (fun K hK => ?_)
  refine goes_ Tryd.func17 (by kernel_rfl) rfl #[.agg #[.bool a0_0, .slice A0_1 l0_1.length c0_1], .agg #[.bool t884, .slice Ao10 t885.length co10]] (by rfl) rfl rfl (by (try simp only [zMa, zMc, zMn]); first | done | rfl | (simp only [zLd, zLt]; rfl)) ?_
  with_reducible refine (integer_Add.calls k a0_0 _ _ l0_1 t884 _ _ t885 t888 t889 _ ?side1 ?side2 ?side3 ?side4 A4.out).mono ?_
  (case side1 => repeat (first | exact (Kd.C_below HR0_1.out HB.out) | (with_reducible refine zCa ?_ _) | (with_reducible refine zCn ?_ _) | (with_reducible refine zCd ?_)))
  (case side2 => exact HC0_1.out)
  (case side3 => exact uC (zRr HO887.out).2.2)
  (case side4 => exact (zRr HO887.out).2.1)
  rintro e w11 ⟨v890, rfl, ho0, hb⟩
  refine ⟨_, rfl, ?_⟩
  have HO891 := zMk (zRl (zRw ho0 (zRt (by exact uR HO887.out))) (zBs (by exact uT HB.out)))
  replace HO887 := zMk (zRe (by exact uR HO887.out) (zRz ho0) hb)
  replace BK881 := zMk (zKb (g := gb881) (o := .cells #[.bool a0_0, .slice A0_1 l0_1.length c0_1] 24 (0, 0)) (by (with_reducible repeat (first | refine zKn ?_ _ | refine zKd ?_ | refine zKa ?_ _)); exact BK881.out) hb)
  replace BK882 := zMk (zKb (g := gb882) (o := .cells #[.bool a1_0, .slice A1_1 l1_1.length c1_1] 24 (0, 0)) (by (with_reducible repeat (first | refine zKn ?_ _ | refine zKd ?_ | refine zKa ?_ _)); exact BK882.out) hb)
  replace BK883 := zMk (zKb (g := gb883) (o := .cells #[.bool false, .slice none 0 0] 24 (0, 0)) (by (with_reducible repeat (first | refine zKn ?_ _ | refine zKd ?_ | refine zKa ?_ _)); exact BK883.out) hb)
  replace HB := zMk (zBt (by exact uT HB.out) hb)
  (try clear hb)
  (try clear hb2)
  (try clear hk)
  (try clear hi)
  (try clear ho0)
  obtain ⟨Ao13, co13, eo13⟩ := zRs HO891.out
  (first |  subst eo13|  (injection eo13 with f1_ f2_ f3_; have f4_ := f1_.symm; have f5_ := f3_.symm; clear f1_ f2_ f3_; subst f4_; subst f5_))
  refine hK.out _ _ ⟨(zKc BK881.out 0).trans rfl, (zKc BK881.out 1).trans rfl, (zKc BK882.out 0).trans rfl, (zKc BK882.out 1).trans rfl⟩ (fun hHeld => ?_)
  clear hK K
  refine norm_ (a' := ?_) ?_ ?_
  rotate_left
  · show Act.put _ (some 8) _ = _
    simp only [Act.put, zSa, zSb, zSc, i64_w, i32_w]
    rfl
  refine one_ (i := 4) (N := none) #[true, true, true, true, true] rfl rfl (by kernel_rfl) (by decide) (fun K hK => ?_)
  have hs12 : w11.cell? ⟨gb883, 0, none⟩ = some (.bool false) := (zKc BK883.out 0).trans rfl
  have hfs12 := zKf BK883.out 0
  have hns12_0 := NB881_883.out
  have hns12_1 := NB882_883.out
  have hms12_0 := NB883_881.out
  have hms12_1 := NB883_882.out
  have hs14 : w11.cell? ⟨gb883, 1, none⟩ = some (.slice none 0 0) := (zKc BK883.out 1).trans rfl
  have hfs14 := zKf BK883.out 1
  have hns14_0 := NB881_883.out
  have hns14_1 := NB882_883.out
  have hms14_0 := NB883_881.out
  have hms14_1 := NB883_882.out
  refine skip_ (w1 := ?_) (by rfl) rfl ?_ ?_
  rotate_left
  · go_simp
    rfl
  refine hK.out _ _ ⟨((cell_far (p := ⟨gb883, _, none⟩) NB881_883.out _).trans (((cell_far (p := ⟨gb883, _, none⟩) NB881_883.out _).trans (hHeld.1)))), ((cell_far (p := ⟨gb883, _, none⟩) NB881_883.out _).trans (((cell_far (p := ⟨gb883, _, none⟩) NB881_883.out _).trans (hHeld.2.1)))), ((cell_far (p := ⟨gb883, _, none⟩) NB882_883.out _).trans (((cell_far (p := ⟨gb883, _, none⟩) NB882_883.out _).trans (hHeld.2.2.1)))), ((cell_far (p := ⟨gb883, _, none⟩) NB882_883.out _).trans (((cell_far (p := ⟨gb883, _, none⟩) NB882_883.out _).trans (hHeld.2.2.2))))⟩ (fun hHeld => ?_)
  clear hK K
  refine done_ (by kernel_rfl) ?_
  try go_wp2
  refine bodyPost_ret (results_cell_row rfl _ _ gb883 24 #[.bool t888, .slice Ao13 t889.length co13] (0, 0) _ rfl (by (with_reducible repeat (first | refine zKn ?_ _ | refine zKd ?_ | refine zKa ?_ _)); refine blk_put (cs := #[.bool t888, .slice none 0 0]) ?_ 1 _ rfl; (with_reducible repeat (first | refine zKn ?_ _ | refine zKd ?_ | refine zKa ?_ _)); refine blk_put (cs := #[.bool false, .slice none 0 0]) ?_ 0 _ rfl; (with_reducible repeat (first | refine zKn ?_ _ | refine zKd ?_ | refine zKa ?_ _)); exact BK883.out) Tryd.underlying24 rfl (by kernel_rfl)) rfl ?_
  exact ⟨_, by first | rfl | (simp [errW_none, errW_some] <;> rfl) | (simp [*, errW_none, errW_some] <;> rfl), by (with_reducible repeat (first | apply zRa | apply zRn | apply zRd)); exact zRm (Kd.R_far (p := ⟨gb883, 1, none⟩) (Kd.R_far (p := ⟨gb883, 0, none⟩) (Kd.R_types HO891.out BK883.out (by decide)) (fun _ hk => hk.2) (.bool t888)) (fun _ hk => hk.2) (.slice Ao13 t889.length co13)) (fun _ hk => trivial), by exact uT HB.out⟩


/-! ### integer_Mul: function 21 -/
def integer_Mul.f (k : Nat) (a0_0 : Bool) (l0_1 : List Int) (a1_0 : Bool) (l1_1 : List Int) : Option (Bool × List Int) := (n_Mul.f k l0_1 l1_1).bind fun t495 => ((integer_signed.f (a0_0 != a1_0) t495).bind fun bt498 => (some (bt498.1, bt498.2)))
def integer_Mul.T1 : Bool × List (List Nat × List Nat) := (true, [([], []), ([0], [0]), ([], []), ([2], [2]), ([1, 3], [1, 3]), ([], []), ([5], [5]), ([], []), ([7], [7]), ([6, 8], [6, 8]), ([4, 9, 9], [4, 9]), ([10, 10, 0, 1, 2, 3, 4, 5, 6, 7, 8, 9, 10], [10])])
def integer_Mul.B1 : List Nat := [0, 1, 0, 4, 15, 0, 32, 0, 128, 480, 1023, 2047]
theorem integer_Mul.tab1 : rtab .any (opsOf Tryd.f21 1) = integer_Mul.T1 := by kernel_rfl
theorem integer_Mul.bits1 : waitsOk integer_Mul.T1.2 integer_Mul.B1 = true := by kernel_rfl
set_option maxHeartbeats 8000000 in
set_option maxRecDepth 100000 in
theorem integer_Mul.calls (k : Nat) (a0_0 : Bool) (A0_1 : Option Addr) (c0_1 : Nat) (l0_1 : List Int) (a1_0 : Bool) (A1_1 : Option Addr) (c1_1 : Nat) (l1_1 : List Int) (r1 : Bool) (r2 : List Int) (w : World) (hr0_1 : Kd.C (Kd.int .u32) w A0_1 l0_1.length l0_1) (hc0_1 : l0_1.length ≤ c0_1) (hr1_1 : Kd.C (Kd.int .u32) w A1_1 l1_1.length l1_1) (hc1_1 : l1_1.length ≤ c1_1) (h : integer_Mul.f k a0_0 l0_1 a1_0 l1_1 = some (r1, r2)) :
    Calls Tryd.prog 21 #[.agg #[.bool a0_0, .slice A0_1 l0_1.length c0_1], .agg #[.bool a1_0, .slice A1_1 l1_1.length c1_1]] w fun e w' => ∃ v1_ : Value, e = .returned (.agg #[.bool r1, v1_]) ∧ Kd.R (Kd.int .u32) 58 w' w.heap.size (fun _ => True) v1_ r2 ∧ Below w.heap.size w w' := by
  have hu24 := Tryd.underlying24
  have HR0_1 := zMk hr0_1
  have HC0_1 := zMk hc0_1
  clear hr0_1 hc0_1
  have HR1_1 := zMk hr1_1
  have HC1_1 := zMk hc1_1
  clear hr1_1 hc1_1
  have HB := zMk (Below.refl w.heap.size w)
  have H : ((n_Mul.f k l0_1 l1_1).bind fun t495 => ((integer_signed.f (a0_0 != a1_0) t495).bind fun bt498 => (some (bt498.1, bt498.2)))) = some (r1, r2) := h
  clear h
  replace H := bnd H
  obtain ⟨t495, A30, H⟩ := H
  have A3 := zMk A30
  clear A30
  replace H := bnd H
  obtain ⟨⟨t498, t499⟩, A40, H⟩ := H
  replace H : (some (t498, t499)) = some (r1, r2) := H
  have A4 := zMk A40
  clear A40
  simp only [Option.some.injEq, Prod.mk.injEq] at H
  obtain ⟨rfl, rfl⟩ := H
  go_enter Tryd.func21, Tryd.ntmps21
  try go_wp2_with (first |  ((with_reducible refine gate_dst (N := 2) rfl ?_); refine box_event ?hg (N := 2) ?hd (cs := #[.bool a0_0, .slice A0_1 l0_1.length c0_1]) (t := 24) ?hr ?_; (case hd => rfl); (case hg => rfl); (case hr => first |  (go_simp; done)|  (go_simp; rfl)|  (go_simp; rw [show ∀ x : Int, IntKind.u32.wrap (IntKind.u8.wrap x) = x % 256 from fun x => (by show (x % 256) % 4294967296 = x % 256; omega)])); intro gb492 hg w5 hbox hb; have BK492 := zMk (hbox); have GW492 := zMk ((by rw [hg]; exact (zBs (by exact uT HB.out)) : w.heap.size ≤ gb492)); have GE492 := zMk ((by rw [hg]; exact (zBs (by exact uT HB.out)) : w.heap.size ≤ gb492)); have IGE492 := ownGe GE492.out; replace HB := zMk (zBt (by exact uT HB.out) hb); clear hb hbox hg)|  ((with_reducible refine gate_dst (N := 3) rfl ?_); refine box_event ?hg (N := 3) ?hd (cs := #[.bool a1_0, .slice A1_1 l1_1.length c1_1]) (t := 24) ?hr ?_; (case hd => rfl); (case hg => rfl); (case hr => first |  (go_simp; done)|  (go_simp; rfl)|  (go_simp; rw [show ∀ x : Int, IntKind.u32.wrap (IntKind.u8.wrap x) = x % 256 from fun x => (by show (x % 256) % 4294967296 = x % 256; omega)])); intro gb493 hg w6 hbox hb; have BK493 := zMk (hbox); have GW493 := zMk ((by rw [hg]; exact (zBs (by exact uT HB.out)) : w.heap.size ≤ gb493)); have GE493 := zMk ((by rw [hg]; exact (zBs (by exact uT HB.out)) : w.heap.size ≤ gb493)); have IGE493 := ownGe GE493.out; replace HB := zMk (zBt (by exact uT HB.out) hb); have NB492_493 := zMk ((by rw [hg]; exact Nat.ne_of_lt (blk_lt (g := gb492) (o := .cells #[.bool a0_0, .slice A0_1 l0_1.length c0_1] 24 (0, 0)) (by (with_reducible repeat (first |  refine zKn ?_ _|  refine zKd ?_|  refine zKa ?_ _)); exact BK492.out)) : gb492 ≠ gb493)); have NB493_492 := zMk ((by rw [hg]; exact Nat.ne_of_gt (blk_lt (g := gb492) (o := .cells #[.bool a0_0, .slice A0_1 l0_1.length c0_1] 24 (0, 0)) (by (with_reducible repeat (first |  refine zKn ?_ _|  refine zKd ?_|  refine zKa ?_ _)); exact BK492.out)) : gb493 ≠ gb492)); replace BK492 := zMk (zKb (g := gb492) (o := .cells #[.bool a0_0, .slice A0_1 l0_1.length c0_1] 24 (0, 0)) (by (with_reducible repeat (first |  refine zKn ?_ _|  refine zKd ?_|  refine zKa ?_ _)); exact BK492.out) hb); clear hb hbox hg)|  ((with_reducible refine gate_dst (N := 4) rfl ?_); refine box_event ?hg (N := 4) ?hd (cs := #[.bool false, .slice none 0 0]) (t := 24) ?hr ?_; (case hd => rfl); (case hg => rfl); (case hr => first |  (go_simp; done)|  (go_simp; rfl)|  (go_simp; rw [show ∀ x : Int, IntKind.u32.wrap (IntKind.u8.wrap x) = x % 256 from fun x => (by show (x % 256) % 4294967296 = x % 256; omega)])); intro gb494 hg w7 hbox hb; have BK494 := zMk (hbox); have GW494 := zMk ((by rw [hg]; exact (zBs (by exact uT HB.out)) : w.heap.size ≤ gb494)); have GE494 := zMk ((by rw [hg]; exact (zBs (by exact uT HB.out)) : w.heap.size ≤ gb494)); have IGE494 := ownGe GE494.out; replace HB := zMk (zBt (by exact uT HB.out) hb); have NB492_494 := zMk ((by rw [hg]; exact Nat.ne_of_lt (blk_lt (g := gb492) (o := .cells #[.bool a0_0, .slice A0_1 l0_1.length c0_1] 24 (0, 0)) (by (with_reducible repeat (first |  refine zKn ?_ _|  refine zKd ?_|  refine zKa ?_ _)); exact BK492.out)) : gb492 ≠ gb494)); have NB494_492 := zMk ((by rw [hg]; exact Nat.ne_of_gt (blk_lt (g := gb492) (o := .cells #[.bool a0_0, .slice A0_1 l0_1.length c0_1] 24 (0, 0)) (by (with_reducible repeat (first |  refine zKn ?_ _|  refine zKd ?_|  refine zKa ?_ _)); exact BK492.out)) : gb494 ≠ gb492)); replace BK492 := zMk (zKb (g := gb492) (o := .cells #[.bool a0_0, .slice A0_1 l0_1.length c0_1] 24 (0, 0)) (by (with_reducible repeat (first |  refine zKn ?_ _|  refine zKd ?_|  refine zKa ?_ _)); exact BK492.out) hb); have NB493_494 := zMk ((by rw [hg]; exact Nat.ne_of_lt (blk_lt (g := gb493) (o := .cells #[.bool a1_0, .slice A1_1 l1_1.length c1_1] 24 (0, 0)) (by (with_reducible repeat (first |  refine zKn ?_ _|  refine zKd ?_|  refine zKa ?_ _)); exact BK493.out)) : gb493 ≠ gb494)); have NB494_493 := zMk ((by rw [hg]; exact Nat.ne_of_gt (blk_lt (g := gb493) (o := .cells #[.bool a1_0, .slice A1_1 l1_1.length c1_1] 24 (0, 0)) (by (with_reducible repeat (first |  refine zKn ?_ _|  refine zKd ?_|  refine zKa ?_ _)); exact BK493.out)) : gb494 ≠ gb493)); replace BK493 := zMk (zKb (g := gb493) (o := .cells #[.bool a1_0, .slice A1_1 l1_1.length c1_1] 24 (0, 0)) (by (with_reducible repeat (first |  refine zKn ?_ _|  refine zKd ?_|  refine zKa ?_ _)); exact BK493.out) hb); clear hb hbox hg))
  replace BK492 := zMk (zKd BK492.out)
  replace BK493 := zMk (zKd BK493.out)
  replace BK494 := zMk (zKd BK494.out)
  replace HB := zMk (zBd HB.out)
  refine start_ (n := 12) (S := fun w' => w'.cell? ⟨gb492, 0, none⟩ = some (.bool a0_0) ∧ w'.cell? ⟨gb492, 1, none⟩ = some (.slice A0_1 l0_1.length c0_1) ∧ w'.cell? ⟨gb493, 0, none⟩ = some (.bool a1_0) ∧ w'.cell? ⟨gb493, 1, none⟩ = some (.slice A1_1 l1_1.length c1_1)) (ds := []) #[false, false, false, false, false, false, false, false, false, false, false, false] (by kernel_rfl) rfl rfl ⟨(zKc BK492.out 0).trans rfl, (zKc BK492.out 1).trans rfl, (zKc BK493.out 0).trans rfl, (zKc BK493.out 1).trans rfl⟩ (fun hHeld => ?_); refine with_tabW integer_Mul.tab1 integer_Mul.bits1 (fun HT_ HW_ => ?_)
  generalize w7.drew = w8 at BK492 BK493 BK494 HB hHeld ⊢
  refine pure_ (i := 0) (N := some 5) (v := ?_) (a' := ?_) #[true, false, false, false, false, false, false, false, false, false, false, false] rfl rfl (any_of HT_.out (by kernel_rfl)) (fun _ _ _ h => h) (Or.inl ⟨by rfl, ?_⟩) ?_ ?_
  rotate_left
  · intro w'
    go_simp
    with_reducible rfl
  rotate_left
  · simp only [Act.put, zSa, zSb, zSc, i64_w, i32_w]
    rfl
  refine pure_ (i := 2) (N := some 7) (v := ?_) (a' := ?_) #[true, false, true, false, false, false, false, false, false, false, false, false] rfl rfl (any_of HT_.out (by kernel_rfl)) (fun _ _ _ h => h) (Or.inl ⟨by rfl, ?_⟩) ?_ ?_
  rotate_left
  · intro w'
    go_simp
    with_reducible rfl
  rotate_left
  · simp only [Act.put, zSa, zSb, zSc, i64_w, i32_w]
    rfl
  refine pure_ (i := 5) (N := some 10) (v := ?_) (a' := ?_) #[true, false, true, false, false, true, false, false, false, false, false, false] rfl rfl (any_of HT_.out (by kernel_rfl)) (fun _ _ _ h => h) (Or.inl ⟨by rfl, ?_⟩) ?_ ?_
  rotate_left
  · intro w'
    go_simp
    with_reducible rfl
  rotate_left
  · simp only [Act.put, zSa, zSb, zSc, i64_w, i32_w]
    rfl
  refine pure_ (i := 7) (N := some 12) (v := ?_) (a' := ?_) #[true, false, true, false, false, true, false, true, false, false, false, false] rfl rfl (any_of HT_.out (by kernel_rfl)) (fun _ _ _ h => h) (Or.inl ⟨by rfl, ?_⟩) ?_ ?_
  rotate_left
  · intro w'
    go_simp
    with_reducible rfl
  rotate_left
  · simp only [Act.put, zSa, zSb, zSc, i64_w, i32_w]
    rfl
  refine take_ (i := 1) (N := some 6) (v := ?_) (a' := ?_) #[true, true, true, false, false, true, false, true, false, false, false, false] rfl rfl (take_ofW HT_.out HW_.out (by kernel_rfl)) (fun _ _ _ h => h) (Or.inl ⟨by rfl, ?_⟩) hHeld ?_ ?_
  rotate_left
  · rintro w' ⟨s0, s1, s2, s3⟩
    go_simp
    with_reducible rfl
  rotate_left
  · simp only [Act.put, zSa, zSb, zSc, i64_w, i32_w]
    rfl
  refine take_ (i := 3) (N := some 8) (v := ?_) (a' := ?_) #[true, true, true, true, false, true, false, true, false, false, false, false] rfl rfl (take_ofW HT_.out HW_.out (by kernel_rfl)) (fun _ _ _ h => h) (Or.inl ⟨by rfl, ?_⟩) hHeld ?_ ?_
  rotate_left
  · rintro w' ⟨s0, s1, s2, s3⟩
    go_simp
    with_reducible rfl
  rotate_left
  · simp only [Act.put, zSa, zSb, zSc, i64_w, i32_w]
    rfl
  refine pure_ (i := 4) (N := some 9) (v := ?_) (a' := ?_) #[true, true, true, true, true, true, false, true, false, false, false, false] rfl rfl (any_of HT_.out (by kernel_rfl)) (fun _ _ _ h => h) (Or.inl ⟨by rfl, ?_⟩) ?_ ?_
  rotate_left
  · intro w'
    go_simp
    with_reducible rfl
  rotate_left
  · simp only [Act.put, zSa, zSb, zSc, i64_w, i32_w]
    rfl
  refine take_ (i := 6) (N := some 11) (v := ?_) (a' := ?_) #[true, true, true, true, true, true, true, true, false, false, false, false] rfl rfl (take_ofW HT_.out HW_.out (by kernel_rfl)) (fun _ _ _ h => h) (Or.inl ⟨by rfl, ?_⟩) hHeld ?_ ?_
  rotate_left
  · rintro w' ⟨s0, s1, s2, s3⟩
    go_simp
    with_reducible rfl
  rotate_left
  · simp only [Act.put, zSa, zSb, zSc, i64_w, i32_w]
    rfl
  refine take_ (i := 8) (N := some 13) (v := ?_) (a' := ?_) #[true, true, true, true, true, true, true, true, true, false, false, false] rfl rfl (take_ofW HT_.out HW_.out (by kernel_rfl)) (fun _ _ _ h => h) (Or.inl ⟨by rfl, ?_⟩) hHeld ?_ ?_
  rotate_left
  · rintro w' ⟨s0, s1, s2, s3⟩
    go_simp
    with_reducible rfl
  rotate_left
  · simp only [Act.put, zSa, zSb, zSc, i64_w, i32_w]
    rfl
  refine one_ (i := 9) (N := some 14) #[true, true, true, true, true, true, true, true, true, true, false, false] rfl rfl (one_of HT_.out (by kernel_rfl)) (by decide) (fun K hK => ?_)
  refine goes_ Tryd.func45 (by kernel_rfl) rfl #[.slice A0_1 l0_1.length c0_1, .slice A1_1 l1_1.length c1_1] (by rfl) rfl rfl (by (try simp only [zMa, zMc, zMn]); first | done | rfl | (simp only [zLd, zLt]; rfl)) ?_
  with_reducible refine (n_Mul.calls k (fun k_ => k_ < w.heap.size) _ _ l0_1 (fun k_ => k_ < w.heap.size) _ _ l1_1 t495 _ ?side1 ?side2 A3.out).mono ?_
  (case side1 => exact Kd.V_mk HC0_1.out (Kd.F_below (Kd.C_F (Kd.heap_int .u32) HR0_1.out) (by exact uT HB.out)))
  (case side2 => exact Kd.V_mk HC1_1.out (Kd.F_below (Kd.C_F (Kd.heap_int .u32) HR1_1.out) (by exact uT HB.out)))
  rintro e w9 ⟨v496, rfl, ho0, hb⟩
  refine ⟨_, rfl, ?_⟩
  have HO497 := zMk (zVl (zVm (ok' := fun k_ => k_ ≠ gb492 ∧ k_ ≠ gb493 ∧ k_ ≠ gb494) ho0 (fun k_ hk_ => ⟨Or.elim hk_ (fun hs_ => Or.elim hs_ (fun hs_ => fun e_ => Nat.not_le.2 hs_ (by rw [e_]; exact GW492.out)) (fun hs_ => fun e_ => Nat.not_le.2 hs_ (by rw [e_]; exact GW492.out))) (fun hn_ => (Kd.freshB (g := gb492) (o := .cells #[.bool a0_0, .slice A0_1 l0_1.length c0_1] 24 (0, 0)) (by (with_reducible repeat (first | refine zKn ?_ _ | refine zKd ?_ | refine zKa ?_ _)); exact BK492.out) k_ hn_)), Or.elim hk_ (fun hs_ => Or.elim hs_ (fun hs_ => fun e_ => Nat.not_le.2 hs_ (by rw [e_]; exact GW493.out)) (fun hs_ => fun e_ => Nat.not_le.2 hs_ (by rw [e_]; exact GW493.out))) (fun hn_ => (Kd.freshB (g := gb493) (o := .cells #[.bool a1_0, .slice A1_1 l1_1.length c1_1] 24 (0, 0)) (by (with_reducible repeat (first | refine zKn ?_ _ | refine zKd ?_ | refine zKa ?_ _)); exact BK493.out) k_ hn_)), Or.elim hk_ (fun hs_ => Or.elim hs_ (fun hs_ => fun e_ => Nat.not_le.2 hs_ (by rw [e_]; exact GW494.out)) (fun hs_ => fun e_ => Nat.not_le.2 hs_ (by rw [e_]; exact GW494.out))) (fun hn_ => (Kd.freshB (g := gb494) (o := .cells #[.bool false, .slice none 0 0] 24 (0, 0)) (by (with_reducible repeat (first | refine zKn ?_ _ | refine zKd ?_ | refine zKa ?_ _)); exact BK494.out) k_ hn_))⟩)) (zBs (by exact uT HB.out)))
  replace BK492 := zMk (zKb (g := gb492) (o := .cells #[.bool a0_0, .slice A0_1 l0_1.length c0_1] 24 (0, 0)) (by (with_reducible repeat (first | refine zKn ?_ _ | refine zKd ?_ | refine zKa ?_ _)); exact BK492.out) hb)
  replace BK493 := zMk (zKb (g := gb493) (o := .cells #[.bool a1_0, .slice A1_1 l1_1.length c1_1] 24 (0, 0)) (by (with_reducible repeat (first | refine zKn ?_ _ | refine zKd ?_ | refine zKa ?_ _)); exact BK493.out) hb)
  replace BK494 := zMk (zKb (g := gb494) (o := .cells #[.bool false, .slice none 0 0] 24 (0, 0)) (by (with_reducible repeat (first | refine zKn ?_ _ | refine zKd ?_ | refine zKa ?_ _)); exact BK494.out) hb)
  replace HB := zMk (zBt (by exact uT HB.out) hb)
  (try clear hb)
  (try clear hb2)
  (try clear hk)
  (try clear hi)
  (try clear ho0)
  obtain ⟨Ao10, co10, eo10⟩ := zVs HO497.out
  (first |  subst eo10|  (injection eo10 with f1_ f2_ f3_; have f4_ := f1_.symm; have f5_ := f3_.symm; clear f1_ f2_ f3_; subst f4_; subst f5_))
  refine hK.out _ _ ⟨(zKc BK492.out 0).trans rfl, (zKc BK492.out 1).trans rfl, (zKc BK493.out 0).trans rfl, (zKc BK493.out 1).trans rfl⟩ (fun hHeld => ?_)
  clear hK K
  refine norm_ (a' := ?_) ?_ ?_
  rotate_left
  · show Act.put _ (some 14) _ = _
    simp only [Act.put, zSa, zSb, zSc, i64_w, i32_w]
    rfl
  refine one_ (i := 10) (N := some 15) #[true, true, true, true, true, true, true, true, true, true, true, false] rfl rfl (one_of HT_.out (by kernel_rfl)) (by decide) (fun K hK => ?_)
  refine goes_ Tryd.func36 (by kernel_rfl) rfl #[.bool (a0_0 != a1_0), .slice Ao10 t495.length co10] (by rfl) rfl rfl (by (try simp only [zMa, zMc, zMn]); first | done | rfl | (simp only [zLd, zLt]; rfl)) ?_
  with_reducible refine (integer_signed.calls (a0_0 != a1_0) _ _ t495 t498 t499 _ ?side1 ?side2 A4.out).mono ?_
  (case side1 => exact uC (zVr HO497.out).2.2)
  (case side2 => exact (zVr HO497.out).2.1)
  rintro e w11 ⟨v500, rfl, ho0, hb⟩
  refine ⟨_, rfl, ?_⟩
  replace HO497 := zMk (zVe (by exact uV HO497.out) (zRz ho0) hb)
  have HO501 := zMk (zRl ho0 (zBs (by exact uT HB.out)))
  replace BK492 := zMk (zKb (g := gb492) (o := .cells #[.bool a0_0, .slice A0_1 l0_1.length c0_1] 24 (0, 0)) (by (with_reducible repeat (first | refine zKn ?_ _ | refine zKd ?_ | refine zKa ?_ _)); exact BK492.out) hb)
  replace BK493 := zMk (zKb (g := gb493) (o := .cells #[.bool a1_0, .slice A1_1 l1_1.length c1_1] 24 (0, 0)) (by (with_reducible repeat (first | refine zKn ?_ _ | refine zKd ?_ | refine zKa ?_ _)); exact BK493.out) hb)
  replace BK494 := zMk (zKb (g := gb494) (o := .cells #[.bool false, .slice none 0 0] 24 (0, 0)) (by (with_reducible repeat (first | refine zKn ?_ _ | refine zKd ?_ | refine zKa ?_ _)); exact BK494.out) hb)
  replace HB := zMk (zBt (by exact uT HB.out) hb)
  (try clear hb)
  (try clear hb2)
  (try clear hk)
  (try clear hi)
  (try clear ho0)
  obtain ⟨Ao13, co13, eo13⟩ := zRs HO501.out
  (first |  subst eo13|  (injection eo13 with f1_ f2_ f3_; have f4_ := f1_.symm; have f5_ := f3_.symm; clear f1_ f2_ f3_; subst f4_; subst f5_))
  refine hK.out _ _ ⟨(zKc BK492.out 0).trans rfl, (zKc BK492.out 1).trans rfl, (zKc BK493.out 0).trans rfl, (zKc BK493.out 1).trans rfl⟩ (fun hHeld => ?_)
  clear hK K
  refine norm_ (a' := ?_) ?_ ?_
  rotate_left
  · show Act.put _ (some 15) _ = _
    simp only [Act.put, zSa, zSb, zSc, i64_w, i32_w]
    rfl
  refine one_ (i := 11) (N := none) #[true, true, true, true, true, true, true, true, true, true, true, true] rfl rfl (one_of HT_.out (by kernel_rfl)) (by decide) (fun K hK => ?_)
  have hs12 : w11.cell? ⟨gb494, 0, none⟩ = some (.bool false) := (zKc BK494.out 0).trans rfl
  have hfs12 := zKf BK494.out 0
  have hns12_0 := NB492_494.out
  have hns12_1 := NB493_494.out
  have hms12_0 := NB494_492.out
  have hms12_1 := NB494_493.out
  have hs14 : w11.cell? ⟨gb494, 1, none⟩ = some (.slice none 0 0) := (zKc BK494.out 1).trans rfl
  have hfs14 := zKf BK494.out 1
  have hns14_0 := NB492_494.out
  have hns14_1 := NB493_494.out
  have hms14_0 := NB494_492.out
  have hms14_1 := NB494_493.out
  refine skip_ (w1 := ?_) (by rfl) rfl ?_ ?_
  rotate_left
  · go_simp
    rfl
  refine hK.out _ _ ⟨((cell_far (p := ⟨gb494, _, none⟩) NB492_494.out _).trans (((cell_far (p := ⟨gb494, _, none⟩) NB492_494.out _).trans (hHeld.1)))), ((cell_far (p := ⟨gb494, _, none⟩) NB492_494.out _).trans (((cell_far (p := ⟨gb494, _, none⟩) NB492_494.out _).trans (hHeld.2.1)))), ((cell_far (p := ⟨gb494, _, none⟩) NB493_494.out _).trans (((cell_far (p := ⟨gb494, _, none⟩) NB493_494.out _).trans (hHeld.2.2.1)))), ((cell_far (p := ⟨gb494, _, none⟩) NB493_494.out _).trans (((cell_far (p := ⟨gb494, _, none⟩) NB493_494.out _).trans (hHeld.2.2.2))))⟩ (fun hHeld => ?_)
  clear hK K
  refine done_ (done_of HT_.out (by kernel_rfl)) ?_
  try go_wp2
  refine bodyPost_ret (results_cell_row rfl _ _ gb494 24 #[.bool t498, .slice Ao13 t499.length co13] (0, 0) _ rfl (by (with_reducible repeat (first | refine zKn ?_ _ | refine zKd ?_ | refine zKa ?_ _)); refine blk_put (cs := #[.bool t498, .slice none 0 0]) ?_ 1 _ rfl; (with_reducible repeat (first | refine zKn ?_ _ | refine zKd ?_ | refine zKa ?_ _)); refine blk_put (cs := #[.bool false, .slice none 0 0]) ?_ 0 _ rfl; (with_reducible repeat (first | refine zKn ?_ _ | refine zKd ?_ | refine zKa ?_ _)); exact BK494.out) Tryd.underlying24 rfl (by kernel_rfl)) rfl ?_
  exact ⟨_, by first | rfl | (simp [errW_none, errW_some] <;> rfl) | (simp [*, errW_none, errW_some] <;> rfl), by (with_reducible repeat (first | apply zRa | apply zRn | apply zRd)); exact zRm (Kd.R_far (p := ⟨gb494, 1, none⟩) (Kd.R_far (p := ⟨gb494, 0, none⟩) (Kd.R_types HO501.out BK494.out (by decide)) (fun _ hk => hk.2) (.bool t498)) (fun _ hk => hk.2) (.slice Ao13 t499.length co13)) (fun _ hk => trivial), by exact uT HB.out⟩


/-! ### filigreeref02_Sub: function 20 -/
def filigreeref02_Sub.f (k : Nat) (a0_0 : Bool) (l0_1 : List Int) (a1_0 : Bool) (l1_1 : List Int) : Option (Bool × List Int) := (filigreeref02_Neg.f k a1_0 l1_1).bind fun bt685 => ((filigreeref02_Add.f k a0_0 l0_1 bt685.1 bt685.2).bind fun bt689 => (some (bt689.1, bt689.2)))
set_option maxHeartbeats 8000000 in
set_option maxRecDepth 100000 in
theorem filigreeref02_Sub.calls (k : Nat) (a0_0 : Bool) (A0_1 : Option Addr) (c0_1 : Nat) (l0_1 : List Int) (a1_0 : Bool) (A1_1 : Option Addr) (c1_1 : Nat) (l1_1 : List Int) (r1 : Bool) (r2 : List Int) (w : World) (hr0_1 : Kd.C (Kd.int .u32) w A0_1 l0_1.length l0_1) (hc0_1 : l0_1.length ≤ c0_1) (hr1_1 : Kd.C (Kd.int .u32) w A1_1 l1_1.length l1_1) (hc1_1 : l1_1.length ≤ c1_1) (h : filigreeref02_Sub.f k a0_0 l0_1 a1_0 l1_1 = some (r1, r2)) :
    Calls Tryd.prog 20 #[.agg #[.bool a0_0, .slice A0_1 l0_1.length c0_1], .agg #[.bool a1_0, .slice A1_1 l1_1.length c1_1]] w fun e w' => ∃ v1_ : Value, e = .returned (.agg #[.bool r1, v1_]) ∧ Kd.R (Kd.int .u32) 58 w' w.heap.size (fun _ => True) v1_ r2 ∧ Below w.heap.size w w' := by
  have hu24 := Tryd.underlying24
  have HR0_1 := zMk hr0_1
  have HC0_1 := zMk hc0_1
  clear hr0_1 hc0_1
  have HR1_1 := zMk hr1_1
  have HC1_1 := zMk hc1_1
  clear hr1_1 hc1_1
  have HB := zMk (Below.refl w.heap.size w)
  have H : ((filigreeref02_Neg.f k a1_0 l1_1).bind fun bt685 => ((filigreeref02_Add.f k a0_0 l0_1 bt685.1 bt685.2).bind fun bt689 => (some (bt689.1, bt689.2)))) = some (r1, r2) := h
  clear h
  replace H := bnd H
  obtain ⟨⟨t685, t686⟩, A30, H⟩ := H
  replace H : ((filigreeref02_Add.f k a0_0 l0_1 t685 t686).bind fun bt689 => (some (bt689.1, bt689.2))) = some (r1, r2) := H
  have A3 := zMk A30
  clear A30
  replace H := bnd H
  obtain ⟨⟨t689, t690⟩, A40, H⟩ := H
  replace H : (some (t689, t690)) = some (r1, r2) := H
  have A4 := zMk A40
  clear A40
  simp only [Option.some.injEq, Prod.mk.injEq] at H
  obtain ⟨rfl, rfl⟩ := H
  go_enter Tryd.func20, Tryd.ntmps20
  try go_wp2_with (first |  ((with_reducible refine gate_dst (N := 2) rfl ?_); refine box_event ?hg (N := 2) ?hd (cs := #[.bool a0_0, .slice A0_1 l0_1.length c0_1]) (t := 24) ?hr ?_; (case hd => rfl); (case hg => rfl); (case hr => first |  (go_simp; done)|  (go_simp; rfl)|  (go_simp; rw [show ∀ x : Int, IntKind.u32.wrap (IntKind.u8.wrap x) = x % 256 from fun x => (by show (x % 256) % 4294967296 = x % 256; omega)])); intro gb682 hg w5 hbox hb; have BK682 := zMk (hbox); have GW682 := zMk ((by rw [hg]; exact (zBs (by exact uT HB.out)) : w.heap.size ≤ gb682)); have GE682 := zMk ((by rw [hg]; exact (zBs (by exact uT HB.out)) : w.heap.size ≤ gb682)); have IGE682 := ownGe GE682.out; replace HB := zMk (zBt (by exact uT HB.out) hb); clear hb hbox hg)|  ((with_reducible refine gate_dst (N := 3) rfl ?_); refine box_event ?hg (N := 3) ?hd (cs := #[.bool a1_0, .slice A1_1 l1_1.length c1_1]) (t := 24) ?hr ?_; (case hd => rfl); (case hg => rfl); (case hr => first |  (go_simp; done)|  (go_simp; rfl)|  (go_simp; rw [show ∀ x : Int, IntKind.u32.wrap (IntKind.u8.wrap x) = x % 256 from fun x => (by show (x % 256) % 4294967296 = x % 256; omega)])); intro gb683 hg w6 hbox hb; have BK683 := zMk (hbox); have GW683 := zMk ((by rw [hg]; exact (zBs (by exact uT HB.out)) : w.heap.size ≤ gb683)); have GE683 := zMk ((by rw [hg]; exact (zBs (by exact uT HB.out)) : w.heap.size ≤ gb683)); have IGE683 := ownGe GE683.out; replace HB := zMk (zBt (by exact uT HB.out) hb); have NB682_683 := zMk ((by rw [hg]; exact Nat.ne_of_lt (blk_lt (g := gb682) (o := .cells #[.bool a0_0, .slice A0_1 l0_1.length c0_1] 24 (0, 0)) (by (with_reducible repeat (first |  refine zKn ?_ _|  refine zKd ?_|  refine zKa ?_ _)); exact BK682.out)) : gb682 ≠ gb683)); have NB683_682 := zMk ((by rw [hg]; exact Nat.ne_of_gt (blk_lt (g := gb682) (o := .cells #[.bool a0_0, .slice A0_1 l0_1.length c0_1] 24 (0, 0)) (by (with_reducible repeat (first |  refine zKn ?_ _|  refine zKd ?_|  refine zKa ?_ _)); exact BK682.out)) : gb683 ≠ gb682)); replace BK682 := zMk (zKb (g := gb682) (o := .cells #[.bool a0_0, .slice A0_1 l0_1.length c0_1] 24 (0, 0)) (by (with_reducible repeat (first |  refine zKn ?_ _|  refine zKd ?_|  refine zKa ?_ _)); exact BK682.out) hb); clear hb hbox hg)|  ((with_reducible refine gate_dst (N := 4) rfl ?_); refine box_event ?hg (N := 4) ?hd (cs := #[.bool false, .slice none 0 0]) (t := 24) ?hr ?_; (case hd => rfl); (case hg => rfl); (case hr => first |  (go_simp; done)|  (go_simp; rfl)|  (go_simp; rw [show ∀ x : Int, IntKind.u32.wrap (IntKind.u8.wrap x) = x % 256 from fun x => (by show (x % 256) % 4294967296 = x % 256; omega)])); intro gb684 hg w7 hbox hb; have BK684 := zMk (hbox); have GW684 := zMk ((by rw [hg]; exact (zBs (by exact uT HB.out)) : w.heap.size ≤ gb684)); have GE684 := zMk ((by rw [hg]; exact (zBs (by exact uT HB.out)) : w.heap.size ≤ gb684)); have IGE684 := ownGe GE684.out; replace HB := zMk (zBt (by exact uT HB.out) hb); have NB682_684 := zMk ((by rw [hg]; exact Nat.ne_of_lt (blk_lt (g := gb682) (o := .cells #[.bool a0_0, .slice A0_1 l0_1.length c0_1] 24 (0, 0)) (by (with_reducible repeat (first |  refine zKn ?_ _|  refine zKd ?_|  refine zKa ?_ _)); exact BK682.out)) : gb682 ≠ gb684)); have NB684_682 := zMk ((by rw [hg]; exact Nat.ne_of_gt (blk_lt (g := gb682) (o := .cells #[.bool a0_0, .slice A0_1 l0_1.length c0_1] 24 (0, 0)) (by (with_reducible repeat (first |  refine zKn ?_ _|  refine zKd ?_|  refine zKa ?_ _)); exact BK682.out)) : gb684 ≠ gb682)); replace BK682 := zMk (zKb (g := gb682) (o := .cells #[.bool a0_0, .slice A0_1 l0_1.length c0_1] 24 (0, 0)) (by (with_reducible repeat (first |  refine zKn ?_ _|  refine zKd ?_|  refine zKa ?_ _)); exact BK682.out) hb); have NB683_684 := zMk ((by rw [hg]; exact Nat.ne_of_lt (blk_lt (g := gb683) (o := .cells #[.bool a1_0, .slice A1_1 l1_1.length c1_1] 24 (0, 0)) (by (with_reducible repeat (first |  refine zKn ?_ _|  refine zKd ?_|  refine zKa ?_ _)); exact BK683.out)) : gb683 ≠ gb684)); have NB684_683 := zMk ((by rw [hg]; exact Nat.ne_of_gt (blk_lt (g := gb683) (o := .cells #[.bool a1_0, .slice A1_1 l1_1.length c1_1] 24 (0, 0)) (by (with_reducible repeat (first |  refine zKn ?_ _|  refine zKd ?_|  refine zKa ?_ _)); exact BK683.out)) : gb684 ≠ gb683)); replace BK683 := zMk (zKb (g := gb683) (o := .cells #[.bool a1_0, .slice A1_1 l1_1.length c1_1] 24 (0, 0)) (by (with_reducible repeat (first |  refine zKn ?_ _|  refine zKd ?_|  refine zKa ?_ _)); exact BK683.out) hb); clear hb hbox hg))
  replace BK682 := zMk (zKd BK682.out)
  replace BK683 := zMk (zKd BK683.out)
  replace BK684 := zMk (zKd BK684.out)
  replace HB := zMk (zBd HB.out)
  refine start_ (n := 5) (S := fun w' => w'.cell? ⟨gb682, 0, none⟩ = some (.bool a0_0) ∧ w'.cell? ⟨gb682, 1, none⟩ = some (.slice A0_1 l0_1.length c0_1) ∧ w'.cell? ⟨gb683, 0, none⟩ = some (.bool a1_0) ∧ w'.cell? ⟨gb683, 1, none⟩ = some (.slice A1_1 l1_1.length c1_1)) (ds := []) #[false, false, false, false, false] (by kernel_rfl) rfl rfl ⟨(zKc BK682.out 0).trans rfl, (zKc BK682.out 1).trans rfl, (zKc BK683.out 0).trans rfl, (zKc BK683.out 1).trans rfl⟩ (fun hHeld => ?_)
  generalize w7.drew = w8 at BK682 BK683 BK684 HB hHeld ⊢
  refine take_ (i := 0) (N := some 5) (v := ?_) (a' := ?_) #[true, false, false, false, false] rfl rfl (by kernel_rfl) (fun _ _ _ h => h) (Or.inl ⟨by rfl, ?_⟩) hHeld ?_ ?_
  rotate_left
  · rintro w' ⟨s0, s1, s2, s3⟩
    go_simp
    with_reducible rfl
  rotate_left
  · simp only [Act.put, zSa, zSb, zSc, i64_w, i32_w]
    rfl
  refine take_ (i := 1) (N := some 6) (v := ?_) (a' := ?_) #[true, true, false, false, false] rfl rfl (by kernel_rfl) (fun _ _ _ h => h) (Or.inl ⟨by rfl, ?_⟩) hHeld ?_ ?_
  rotate_left
  · rintro w' ⟨s0, s1, s2, s3⟩
    go_simp
    with_reducible rfl
  rotate_left
  · simp only [Act.put, zSa, zSb, zSc, i64_w, i32_w]
    rfl
  refine one_ (i := 2) (N := some 7) #[true, true, true, false, false] rfl rfl (by kernel_rfl) (by decide) (fun K hK => ?_)
  refine goes_ Tryd.func44 (by kernel_rfl) rfl #[.agg #[.bool a1_0, .slice A1_1 l1_1.length c1_1]] (by rfl) rfl rfl (by (try simp only [zMa, zMc, zMn]); first | done | rfl | (simp only [zLd, zLt]; rfl)) ?_
  with_reducible refine (filigreeref02_Neg.calls k a1_0 _ _ l1_1 t685 t686 _ ?side1 ?side2 A3.out).mono ?_
  (case side1 => repeat (first | exact (Kd.C_below HR1_1.out HB.out) | (with_reducible refine zCa ?_ _) | (with_reducible refine zCn ?_ _) | (with_reducible refine zCd ?_)))
  (case side2 => exact HC1_1.out)
  rintro e w9 ⟨v687, rfl, ho0, hb⟩
  refine ⟨_, rfl, ?_⟩
  have HO688 := zMk (zRl ho0 (zBs (by exact uT HB.out)))
  replace BK682 := zMk (zKb (g := gb682) (o := .cells #[.bool a0_0, .slice A0_1 l0_1.length c0_1] 24 (0, 0)) (by (with_reducible repeat (first | refine zKn ?_ _ | refine zKd ?_ | refine zKa ?_ _)); exact BK682.out) hb)
  replace BK683 := zMk (zKb (g := gb683) (o := .cells #[.bool a1_0, .slice A1_1 l1_1.length c1_1] 24 (0, 0)) (by (with_reducible repeat (first | refine zKn ?_ _ | refine zKd ?_ | refine zKa ?_ _)); exact BK683.out) hb)
  replace BK684 := zMk (zKb (g := gb684) (o := .cells #[.bool false, .slice none 0 0] 24 (0, 0)) (by (with_reducible repeat (first | refine zKn ?_ _ | refine zKd ?_ | refine zKa ?_ _)); exact BK684.out) hb)
  replace HB := zMk (zBt (by exact uT HB.out) hb)
  (try clear hb)
  (try clear hb2)
  (try clear hk)
  (try clear hi)
  (try clear ho0)
  obtain ⟨Ao10, co10, eo10⟩ := zRs HO688.out
  (first |  subst eo10|  (injection eo10 with f1_ f2_ f3_; have f4_ := f1_.symm; have f5_ := f3_.symm; clear f1_ f2_ f3_; subst f4_; subst f5_))
  refine hK.out _ _ ⟨(zKc BK682.out 0).trans rfl, (zKc BK682.out 1).trans rfl, (zKc BK683.out 0).trans rfl, (zKc BK683.out 1).trans rfl⟩ (fun hHeld => ?_)
  clear hK K
  refine norm_ (a' := ?_) ?_ ?_
  rotate_left
  · show Act.put _ (some 7) _ = _
    simp only [Act.put, zSa, zSb, zSc, i64_w, i32_w]
    rfl
  refine one_ (i := 3) (N := some 8) #[true, true, true, true, false] rfl rfl (by kernel_rfl) (by decide) (fun K hK => ?_)
  refine goes_ Tryd.func18 (by kernel_rfl) rfl #[.agg #[.bool a0_0, .slice A0_1 l0_1.length c0_1], .agg #[.bool t685, .slice Ao10 t686.length co10]] (by rfl) rfl rfl (by (try simp only [zMa, zMc, zMn]); first | done | rfl | (simp only [zLd, zLt]; rfl)) ?_
  with_reducible refine (filigreeref02_Add.calls k a0_0 _ _ l0_1 t685 _ _ t686 t689 t690 _ ?side1 ?side2 ?side3 ?side4 A4.out).mono ?_
  (case side1 => repeat (first | exact (Kd.C_below HR0_1.out HB.out) | (with_reducible refine zCa ?_ _) | (with_reducible refine zCn ?_ _) | (with_reducible refine zCd ?_)))
  (case side2 => exact HC0_1.out)
  (case side3 => exact uC (zRr HO688.out).2.2)
  (case side4 => exact (zRr HO688.out).2.1)
  rintro e w11 ⟨v691, rfl, ho0, hb⟩
  refine ⟨_, rfl, ?_⟩
  have HO692 := zMk (zRl (zRw ho0 (zRt (by exact uR HO688.out))) (zBs (by exact uT HB.out)))
  replace HO688 := zMk (zRe (by exact uR HO688.out) (zRz ho0) hb)
  replace BK682 := zMk (zKb (g := gb682) (o := .cells #[.bool a0_0, .slice A0_1 l0_1.length c0_1] 24 (0, 0)) (by (with_reducible repeat (first | refine zKn ?_ _ | refine zKd ?_ | refine zKa ?_ _)); exact BK682.out) hb)
  replace BK683 := zMk (zKb (g := gb683) (o := .cells #[.bool a1_0, .slice A1_1 l1_1.length c1_1] 24 (0, 0)) (by (with_reducible repeat (first | refine zKn ?_ _ | refine zKd ?_ | refine zKa ?_ _)); exact BK683.out) hb)
  replace BK684 := zMk (zKb (g := gb684) (o := .cells #[.bool false, .slice none 0 0] 24 (0, 0)) (by (with_reducible repeat (first | refine zKn ?_ _ | refine zKd ?_ | refine zKa ?_ _)); exact BK684.out) hb)
  replace HB := zMk (zBt (by exact uT HB.out) hb)
  (try clear hb)
  (try clear hb2)
  (try clear hk)
  (try clear hi)
  (try clear ho0)
  obtain ⟨Ao13, co13, eo13⟩ := zRs HO692.out
  (first |  subst eo13|  (injection eo13 with f1_ f2_ f3_; have f4_ := f1_.symm; have f5_ := f3_.symm; clear f1_ f2_ f3_; subst f4_; subst f5_))
  refine hK.out _ _ ⟨(zKc BK682.out 0).trans rfl, (zKc BK682.out 1).trans rfl, (zKc BK683.out 0).trans rfl, (zKc BK683.out 1).trans rfl⟩ (fun hHeld => ?_)
  clear hK K
  refine norm_ (a' := ?_) ?_ ?_
  rotate_left
  · show Act.put _ (some 8) _ = _
    simp only [Act.put, zSa, zSb, zSc, i64_w, i32_w]
    rfl
  refine one_ (i := 4) (N := none) #[true, true, true, true, true] rfl rfl (by kernel_rfl) (by decide) (fun K hK => ?_)
  have hs12 : w11.cell? ⟨gb684, 0, none⟩ = some (.bool false) := (zKc BK684.out 0).trans rfl
  have hfs12 := zKf BK684.out 0
  have hns12_0 := NB682_684.out
  have hns12_1 := NB683_684.out
  have hms12_0 := NB684_682.out
  have hms12_1 := NB684_683.out
  have hs14 : w11.cell? ⟨gb684, 1, none⟩ = some (.slice none 0 0) := (zKc BK684.out 1).trans rfl
  have hfs14 := zKf BK684.out 1
  have hns14_0 := NB682_684.out
  have hns14_1 := NB683_684.out
  have hms14_0 := NB684_682.out
  have hms14_1 := NB684_683.out
  refine skip_ (w1 := ?_) (by rfl) rfl ?_ ?_
  rotate_left
  · go_simp
    rfl
  refine hK.out _ _ ⟨((cell_far (p := ⟨gb684, _, none⟩) NB682_684.out _).trans (((cell_far (p := ⟨gb684, _, none⟩) NB682_684.out _).trans (hHeld.1)))), ((cell_far (p := ⟨gb684, _, none⟩) NB682_684.out _).trans (((cell_far (p := ⟨gb684, _, none⟩) NB682_684.out _).trans (hHeld.2.1)))), ((cell_far (p := ⟨gb684, _, none⟩) NB683_684.out _).trans (((cell_far (p := ⟨gb684, _, none⟩) NB683_684.out _).trans (hHeld.2.2.1)))), ((cell_far (p := ⟨gb684, _, none⟩) NB683_684.out _).trans (((cell_far (p := ⟨gb684, _, none⟩) NB683_684.out _).trans (hHeld.2.2.2))))⟩ (fun hHeld => ?_)
  clear hK K
  refine done_ (by kernel_rfl) ?_
  try go_wp2
  refine bodyPost_ret (results_cell_row rfl _ _ gb684 24 #[.bool t689, .slice Ao13 t690.length co13] (0, 0) _ rfl (by (with_reducible repeat (first | refine zKn ?_ _ | refine zKd ?_ | refine zKa ?_ _)); refine blk_put (cs := #[.bool t689, .slice none 0 0]) ?_ 1 _ rfl; (with_reducible repeat (first | refine zKn ?_ _ | refine zKd ?_ | refine zKa ?_ _)); refine blk_put (cs := #[.bool false, .slice none 0 0]) ?_ 0 _ rfl; (with_reducible repeat (first | refine zKn ?_ _ | refine zKd ?_ | refine zKa ?_ _)); exact BK684.out) Tryd.underlying24 rfl (by kernel_rfl)) rfl ?_
  exact ⟨_, by first | rfl | (simp [errW_none, errW_some] <;> rfl) | (simp [*, errW_none, errW_some] <;> rfl), by (with_reducible repeat (first | apply zRa | apply zRn | apply zRd)); exact zRm (Kd.R_far (p := ⟨gb684, 1, none⟩) (Kd.R_far (p := ⟨gb684, 0, none⟩) (Kd.R_types HO692.out BK684.out (by decide)) (fun _ hk => hk.2) (.bool t689)) (fun _ hk => hk.2) (.slice Ao13 t690.length co13)) (fun _ hk => trivial), by exact uT HB.out⟩


/-! ### filigreeref02_Mul: function 22 -/
def filigreeref02_Mul.f (k : Nat) (a0_0 : Bool) (l0_1 : List Int) (a1_0 : Bool) (l1_1 : List Int) : Option (Bool × List Int) := (r1_Mul.f k l0_1 l1_1).bind fun t1052 => ((filigreeref02_make2.f k (a0_0 != a1_0) t1052).bind fun bt1055 => (some (bt1055.1, bt1055.2)))
def filigreeref02_Mul.T1 : Bool × List (List Nat × List Nat) := (true, [([], []), ([0], [0]), ([], []), ([2], [2]), ([1, 3], [1, 3]), ([], []), ([5], [5]), ([], []), ([7], [7]), ([6, 8], [6, 8]), ([4, 9, 9], [4, 9]), ([10, 10, 0, 1, 2, 3, 4, 5, 6, 7, 8, 9, 10], [10])])
def filigreeref02_Mul.B1 : List Nat := [0, 1, 0, 4, 15, 0, 32, 0, 128, 480, 1023, 2047]
theorem filigreeref02_Mul.tab1 : rtab .any (opsOf Tryd.f22 1) = filigreeref02_Mul.T1 := by kernel_rfl
theorem filigreeref02_Mul.bits1 : waitsOk filigreeref02_Mul.T1.2 filigreeref02_Mul.B1 = true := by kernel_rfl
set_option maxHeartbeats 8000000 in
set_option maxRecDepth 100000 in
theorem filigreeref02_Mul.calls (k : Nat) (a0_0 : Bool) (A0_1 : Option Addr) (c0_1 : Nat) (l0_1 : List Int) (a1_0 : Bool) (A1_1 : Option Addr) (c1_1 : Nat) (l1_1 : List Int) (r1 : Bool) (r2 : List Int) (w : World) (hr0_1 : Kd.C (Kd.int .u32) w A0_1 l0_1.length l0_1) (hc0_1 : l0_1.length ≤ c0_1) (hr1_1 : Kd.C (Kd.int .u32) w A1_1 l1_1.length l1_1) (hc1_1 : l1_1.length ≤ c1_1) (h : filigreeref02_Mul.f k a0_0 l0_1 a1_0 l1_1 = some (r1, r2)) :
    Calls Tryd.prog 22 #[.agg #[.bool a0_0, .slice A0_1 l0_1.length c0_1], .agg #[.bool a1_0, .slice A1_1 l1_1.length c1_1]] w fun e w' => ∃ v1_ : Value, e = .returned (.agg #[.bool r1, v1_]) ∧ Kd.R (Kd.int .u32) 58 w' w.heap.size (fun _ => True) v1_ r2 ∧ Below w.heap.size w w' := by
  have hu24 := Tryd.underlying24
  have HR0_1 := zMk hr0_1
  have HC0_1 := zMk hc0_1
  clear hr0_1 hc0_1
  have HR1_1 := zMk hr1_1
  have HC1_1 := zMk hc1_1
  clear hr1_1 hc1_1
  have HB := zMk (Below.refl w.heap.size w)
  have H : ((r1_Mul.f k l0_1 l1_1).bind fun t1052 => ((filigreeref02_make2.f k (a0_0 != a1_0) t1052).bind fun bt1055 => (some (bt1055.1, bt1055.2)))) = some (r1, r2) := h
  clear h
  replace H := bnd H
  obtain ⟨t1052, A30, H⟩ := H
  have A3 := zMk A30
  clear A30
  replace H := bnd H
  obtain ⟨⟨t1055, t1056⟩, A40, H⟩ := H
  replace H : (some (t1055, t1056)) = some (r1, r2) := H
  have A4 := zMk A40
  clear A40
  simp only [Option.some.injEq, Prod.mk.injEq] at H
  obtain ⟨rfl, rfl⟩ := H
  go_enter Tryd.func22, Tryd.ntmps22
  try go_wp2_with (first |  ((with_reducible refine gate_dst (N := 2) rfl ?_); refine box_event ?hg (N := 2) ?hd (cs := #[.bool a0_0, .slice A0_1 l0_1.length c0_1]) (t := 24) ?hr ?_; (case hd => rfl); (case hg => rfl); (case hr => first |  (go_simp; done)|  (go_simp; rfl)|  (go_simp; rw [show ∀ x : Int, IntKind.u32.wrap (IntKind.u8.wrap x) = x % 256 from fun x => (by show (x % 256) % 4294967296 = x % 256; omega)])); intro gb1049 hg w5 hbox hb; have BK1049 := zMk (hbox); have GW1049 := zMk ((by rw [hg]; exact (zBs (by exact uT HB.out)) : w.heap.size ≤ gb1049)); have GE1049 := zMk ((by rw [hg]; exact (zBs (by exact uT HB.out)) : w.heap.size ≤ gb1049)); have IGE1049 := ownGe GE1049.out; replace HB := zMk (zBt (by exact uT HB.out) hb); clear hb hbox hg)|  ((with_reducible refine gate_dst (N := 3) rfl ?_); refine box_event ?hg (N := 3) ?hd (cs := #[.bool a1_0, .slice A1_1 l1_1.length c1_1]) (t := 24) ?hr ?_; (case hd => rfl); (case hg => rfl); (case hr => first |  (go_simp; done)|  (go_simp; rfl)|  (go_simp; rw [show ∀ x : Int, IntKind.u32.wrap (IntKind.u8.wrap x) = x % 256 from fun x => (by show (x % 256) % 4294967296 = x % 256; omega)])); intro gb1050 hg w6 hbox hb; have BK1050 := zMk (hbox); have GW1050 := zMk ((by rw [hg]; exact (zBs (by exact uT HB.out)) : w.heap.size ≤ gb1050)); have GE1050 := zMk ((by rw [hg]; exact (zBs (by exact uT HB.out)) : w.heap.size ≤ gb1050)); have IGE1050 := ownGe GE1050.out; replace HB := zMk (zBt (by exact uT HB.out) hb); have NB1049_1050 := zMk ((by rw [hg]; exact Nat.ne_of_lt (blk_lt (g := gb1049) (o := .cells #[.bool a0_0, .slice A0_1 l0_1.length c0_1] 24 (0, 0)) (by (with_reducible repeat (first |  refine zKn ?_ _|  refine zKd ?_|  refine zKa ?_ _)); exact BK1049.out)) : gb1049 ≠ gb1050)); have NB1050_1049 := zMk ((by rw [hg]; exact Nat.ne_of_gt (blk_lt (g := gb1049) (o := .cells #[.bool a0_0, .slice A0_1 l0_1.length c0_1] 24 (0, 0)) (by (with_reducible repeat (first |  refine zKn ?_ _|  refine zKd ?_|  refine zKa ?_ _)); exact BK1049.out)) : gb1050 ≠ gb1049)); replace BK1049 := zMk (zKb (g := gb1049) (o := .cells #[.bool a0_0, .slice A0_1 l0_1.length c0_1] 24 (0, 0)) (by (with_reducible repeat (first |  refine zKn ?_ _|  refine zKd ?_|  refine zKa ?_ _)); exact BK1049.out) hb); clear hb hbox hg)|  ((with_reducible refine gate_dst (N := 4) rfl ?_); refine box_event ?hg (N := 4) ?hd (cs := #[.bool false, .slice none 0 0]) (t := 24) ?hr ?_; (case hd => rfl); (case hg => rfl); (case hr => first |  (go_simp; done)|  (go_simp; rfl)|  (go_simp; rw [show ∀ x : Int, IntKind.u32.wrap (IntKind.u8.wrap x) = x % 256 from fun x => (by show (x % 256) % 4294967296 = x % 256; omega)])); intro gb1051 hg w7 hbox hb; have BK1051 := zMk (hbox); have GW1051 := zMk ((by rw [hg]; exact (zBs (by exact uT HB.out)) : w.heap.size ≤ gb1051)); have GE1051 := zMk ((by rw [hg]; exact (zBs (by exact uT HB.out)) : w.heap.size ≤ gb1051)); have IGE1051 := ownGe GE1051.out; replace HB := zMk (zBt (by exact uT HB.out) hb); have NB1049_1051 := zMk ((by rw [hg]; exact Nat.ne_of_lt (blk_lt (g := gb1049) (o := .cells #[.bool a0_0, .slice A0_1 l0_1.length c0_1] 24 (0, 0)) (by (with_reducible repeat (first |  refine zKn ?_ _|  refine zKd ?_|  refine zKa ?_ _)); exact BK1049.out)) : gb1049 ≠ gb1051)); have NB1051_1049 := zMk ((by rw [hg]; exact Nat.ne_of_gt (blk_lt (g := gb1049) (o := .cells #[.bool a0_0, .slice A0_1 l0_1.length c0_1] 24 (0, 0)) (by (with_reducible repeat (first |  refine zKn ?_ _|  refine zKd ?_|  refine zKa ?_ _)); exact BK1049.out)) : gb1051 ≠ gb1049)); replace BK1049 := zMk (zKb (g := gb1049) (o := .cells #[.bool a0_0, .slice A0_1 l0_1.length c0_1] 24 (0, 0)) (by (with_reducible repeat (first |  refine zKn ?_ _|  refine zKd ?_|  refine zKa ?_ _)); exact BK1049.out) hb); have NB1050_1051 := zMk ((by rw [hg]; exact Nat.ne_of_lt (blk_lt (g := gb1050) (o := .cells #[.bool a1_0, .slice A1_1 l1_1.length c1_1] 24 (0, 0)) (by (with_reducible repeat (first |  refine zKn ?_ _|  refine zKd ?_|  refine zKa ?_ _)); exact BK1050.out)) : gb1050 ≠ gb1051)); have NB1051_1050 := zMk ((by rw [hg]; exact Nat.ne_of_gt (blk_lt (g := gb1050) (o := .cells #[.bool a1_0, .slice A1_1 l1_1.length c1_1] 24 (0, 0)) (by (with_reducible repeat (first |  refine zKn ?_ _|  refine zKd ?_|  refine zKa ?_ _)); exact BK1050.out)) : gb1051 ≠ gb1050)); replace BK1050 := zMk (zKb (g := gb1050) (o := .cells #[.bool a1_0, .slice A1_1 l1_1.length c1_1] 24 (0, 0)) (by (with_reducible repeat (first |  refine zKn ?_ _|  refine zKd ?_|  refine zKa ?_ _)); exact BK1050.out) hb); clear hb hbox hg))
  replace BK1049 := zMk (zKd BK1049.out)
  replace BK1050 := zMk (zKd BK1050.out)
  replace BK1051 := zMk (zKd BK1051.out)
  replace HB := zMk (zBd HB.out)
  refine start_ (n := 12) (S := fun w' => w'.cell? ⟨gb1049, 0, none⟩ = some (.bool a0_0) ∧ w'.cell? ⟨gb1049, 1, none⟩ = some (.slice A0_1 l0_1.length c0_1) ∧ w'.cell? ⟨gb1050, 0, none⟩ = some (.bool a1_0) ∧ w'.cell? ⟨gb1050, 1, none⟩ = some (.slice A1_1 l1_1.length c1_1)) (ds := []) #[false, false, false, false, false, false, false, false, false, false, false, false] (by kernel_rfl) rfl rfl ⟨(zKc BK1049.out 0).trans rfl, (zKc BK1049.out 1).trans rfl, (zKc BK1050.out 0).trans rfl, (zKc BK1050.out 1).trans rfl⟩ (fun hHeld => ?_); refine with_tabW filigreeref02_Mul.tab1 filigreeref02_Mul.bits1 (fun HT_ HW_ => ?_)
  generalize w7.drew = w8 at BK1049 BK1050 BK1051 HB hHeld ⊢
  refine pure_ (i := 0) (N := some 5) (v := ?_) (a' := ?_) #[true, false, false, false, false, false, false, false, false, false, false, false] rfl rfl (any_of HT_.out (by kernel_rfl)) (fun _ _ _ h => h) (Or.inl ⟨by rfl, ?_⟩) ?_ ?_
  rotate_left
  · intro w'
    go_simp
    with_reducible rfl
  rotate_left
  · simp only [Act.put, zSa, zSb, zSc, i64_w, i32_w]
    rfl
  refine pure_ (i := 2) (N := some 7) (v := ?_) (a' := ?_) #[true, false, true, false, false, false, false, false, false, false, false, false] rfl rfl (any_of HT_.out (by kernel_rfl)) (fun _ _ _ h => h) (Or.inl ⟨by rfl, ?_⟩) ?_ ?_
  rotate_left
  · intro w'
    go_simp
    with_reducible rfl
  rotate_left
  · simp only [Act.put, zSa, zSb, zSc, i64_w, i32_w]
    rfl
  refine pure_ (i := 5) (N := some 10) (v := ?_) (a' := ?_) #[true, false, true, false, false, true, false, false, false, false, false, false] rfl rfl (any_of HT_.out (by kernel_rfl)) (fun _ _ _ h => h) (Or.inl ⟨by rfl, ?_⟩) ?_ ?_
  rotate_left
  · intro w'
    go_simp
    with_reducible rfl
  rotate_left
  · simp only [Act.put, zSa, zSb, zSc, i64_w, i32_w]
    rfl
  refine pure_ (i := 7) (N := some 12) (v := ?_) (a' := ?_) #[true, false, true, false, false, true, false, true, false, false, false, false] rfl rfl (any_of HT_.out (by kernel_rfl)) (fun _ _ _ h => h) (Or.inl ⟨by rfl, ?_⟩) ?_ ?_
  rotate_left
  · intro w'
    go_simp
    with_reducible rfl
  rotate_left
  · simp only [Act.put, zSa, zSb, zSc, i64_w, i32_w]
    rfl
  refine take_ (i := 1) (N := some 6) (v := ?_) (a' := ?_) #[true, true, true, false, false, true, false, true, false, false, false, false] rfl rfl (take_ofW HT_.out HW_.out (by kernel_rfl)) (fun _ _ _ h => h) (Or.inl ⟨by rfl, ?_⟩) hHeld ?_ ?_
  rotate_left
  · rintro w' ⟨s0, s1, s2, s3⟩
    go_simp
    with_reducible rfl
  rotate_left
  · simp only [Act.put, zSa, zSb, zSc, i64_w, i32_w]
    rfl
  refine take_ (i := 3) (N := some 8) (v := ?_) (a' := ?_) #[true, true, true, true, false, true, false, true, false, false, false, false] rfl rfl (take_ofW HT_.out HW_.out (by kernel_rfl)) (fun _ _ _ h => h) (Or.inl ⟨by rfl, ?_⟩) hHeld ?_ ?_
  rotate_left
  · rintro w' ⟨s0, s1, s2, s3⟩
    go_simp
    with_reducible rfl
  rotate_left
  · simp only [Act.put, zSa, zSb, zSc, i64_w, i32_w]
    rfl
  refine pure_ (i := 4) (N := some 9) (v := ?_) (a' := ?_) #[true, true, true, true, true, true, false, true, false, false, false, false] rfl rfl (any_of HT_.out (by kernel_rfl)) (fun _ _ _ h => h) (Or.inl ⟨by rfl, ?_⟩) ?_ ?_
  rotate_left
  · intro w'
    go_simp
    with_reducible rfl
  rotate_left
  · simp only [Act.put, zSa, zSb, zSc, i64_w, i32_w]
    rfl
  refine take_ (i := 6) (N := some 11) (v := ?_) (a' := ?_) #[true, true, true, true, true, true, true, true, false, false, false, false] rfl rfl (take_ofW HT_.out HW_.out (by kernel_rfl)) (fun _ _ _ h => h) (Or.inl ⟨by rfl, ?_⟩) hHeld ?_ ?_
  rotate_left
  · rintro w' ⟨s0, s1, s2, s3⟩
    go_simp
    with_reducible rfl
  rotate_left
  · simp only [Act.put, zSa, zSb, zSc, i64_w, i32_w]
    rfl
  refine take_ (i := 8) (N := some 13) (v := ?_) (a' := ?_) #[true, true, true, true, true, true, true, true, true, false, false, false] rfl rfl (take_ofW HT_.out HW_.out (by kernel_rfl)) (fun _ _ _ h => h) (Or.inl ⟨by rfl, ?_⟩) hHeld ?_ ?_
  rotate_left
  · rintro w' ⟨s0, s1, s2, s3⟩
    go_simp
    with_reducible rfl
  rotate_left
  · simp only [Act.put, zSa, zSb, zSc, i64_w, i32_w]
    rfl
  refine one_ (i := 9) (N := some 14) #[true, true, true, true, true, true, true, true, true, true, false, false] rfl rfl (one_of HT_.out (by kernel_rfl)) (by decide) (fun K hK => ?_)
  refine goes_ Tryd.func46 (by kernel_rfl) rfl #[.slice A0_1 l0_1.length c0_1, .slice A1_1 l1_1.length c1_1] (by rfl) rfl rfl (by (try simp only [zMa, zMc, zMn]); first | done | rfl | (simp only [zLd, zLt]; rfl)) ?_
  with_reducible refine (r1_Mul.calls k _ _ l0_1 _ _ l1_1 t1052 _ ?side1 ?side2 ?side3 ?side4 A3.out).mono ?_
  (case side1 => repeat (first | exact (Kd.C_below HR0_1.out HB.out) | (with_reducible refine zCa ?_ _) | (with_reducible refine zCn ?_ _) | (with_reducible refine zCd ?_)))
  (case side2 => exact HC0_1.out)
  (case side3 => repeat (first | exact (Kd.C_below HR1_1.out HB.out) | (with_reducible refine zCa ?_ _) | (with_reducible refine zCn ?_ _) | (with_reducible refine zCd ?_)))
  (case side4 => exact HC1_1.out)
  rintro e w9 ⟨v1053, rfl, ho0, hb⟩
  refine ⟨_, rfl, ?_⟩
  have HO1054 := zMk (zRl ho0 (zBs (by exact uT HB.out)))
  replace BK1049 := zMk (zKb (g := gb1049) (o := .cells #[.bool a0_0, .slice A0_1 l0_1.length c0_1] 24 (0, 0)) (by (with_reducible repeat (first | refine zKn ?_ _ | refine zKd ?_ | refine zKa ?_ _)); exact BK1049.out) hb)
  replace BK1050 := zMk (zKb (g := gb1050) (o := .cells #[.bool a1_0, .slice A1_1 l1_1.length c1_1] 24 (0, 0)) (by (with_reducible repeat (first | refine zKn ?_ _ | refine zKd ?_ | refine zKa ?_ _)); exact BK1050.out) hb)
  replace BK1051 := zMk (zKb (g := gb1051) (o := .cells #[.bool false, .slice none 0 0] 24 (0, 0)) (by (with_reducible repeat (first | refine zKn ?_ _ | refine zKd ?_ | refine zKa ?_ _)); exact BK1051.out) hb)
  replace HB := zMk (zBt (by exact uT HB.out) hb)
  (try clear hb)
  (try clear hb2)
  (try clear hk)
  (try clear hi)
  (try clear ho0)
  obtain ⟨Ao10, co10, eo10⟩ := zRs HO1054.out
  (first |  subst eo10|  (injection eo10 with f1_ f2_ f3_; have f4_ := f1_.symm; have f5_ := f3_.symm; clear f1_ f2_ f3_; subst f4_; subst f5_))
  refine hK.out _ _ ⟨(zKc BK1049.out 0).trans rfl, (zKc BK1049.out 1).trans rfl, (zKc BK1050.out 0).trans rfl, (zKc BK1050.out 1).trans rfl⟩ (fun hHeld => ?_)
  clear hK K
  refine norm_ (a' := ?_) ?_ ?_
  rotate_left
  · show Act.put _ (some 14) _ = _
    simp only [Act.put, zSa, zSb, zSc, i64_w, i32_w]
    rfl
  refine one_ (i := 10) (N := some 15) #[true, true, true, true, true, true, true, true, true, true, true, false] rfl rfl (one_of HT_.out (by kernel_rfl)) (by decide) (fun K hK => ?_)
  refine goes_ Tryd.func38 (by kernel_rfl) rfl #[.bool (a0_0 != a1_0), .slice Ao10 t1052.length co10] (by rfl) rfl rfl (by (try simp only [zMa, zMc, zMn]); first | done | rfl | (simp only [zLd, zLt]; rfl)) ?_
  with_reducible refine (filigreeref02_make2.calls k (a0_0 != a1_0) _ _ t1052 t1055 t1056 _ ?side1 ?side2 A4.out).mono ?_
  (case side1 => exact uC (zRr HO1054.out).2.2)
  (case side2 => exact (zRr HO1054.out).2.1)
  rintro e w11 ⟨v1057, rfl, ho0, hb⟩
  refine ⟨_, rfl, ?_⟩
  have HO1058 := zMk (zRl (zRw ho0 (zRt (by exact uR HO1054.out))) (zBs (by exact uT HB.out)))
  replace HO1054 := zMk (zRe (by exact uR HO1054.out) (zRz ho0) hb)
  replace BK1049 := zMk (zKb (g := gb1049) (o := .cells #[.bool a0_0, .slice A0_1 l0_1.length c0_1] 24 (0, 0)) (by (with_reducible repeat (first | refine zKn ?_ _ | refine zKd ?_ | refine zKa ?_ _)); exact BK1049.out) hb)
  replace BK1050 := zMk (zKb (g := gb1050) (o := .cells #[.bool a1_0, .slice A1_1 l1_1.length c1_1] 24 (0, 0)) (by (with_reducible repeat (first | refine zKn ?_ _ | refine zKd ?_ | refine zKa ?_ _)); exact BK1050.out) hb)
  replace BK1051 := zMk (zKb (g := gb1051) (o := .cells #[.bool false, .slice none 0 0] 24 (0, 0)) (by (with_reducible repeat (first | refine zKn ?_ _ | refine zKd ?_ | refine zKa ?_ _)); exact BK1051.out) hb)
  replace HB := zMk (zBt (by exact uT HB.out) hb)
  (try clear hb)
  (try clear hb2)
  (try clear hk)
  (try clear hi)
  (try clear ho0)
  obtain ⟨Ao13, co13, eo13⟩ := zRs HO1058.out
  (first |  subst eo13|  (injection eo13 with f1_ f2_ f3_; have f4_ := f1_.symm; have f5_ := f3_.symm; clear f1_ f2_ f3_; subst f4_; subst f5_))
  refine hK.out _ _ ⟨(zKc BK1049.out 0).trans rfl, (zKc BK1049.out 1).trans rfl, (zKc BK1050.out 0).trans rfl, (zKc BK1050.out 1).trans rfl⟩ (fun hHeld => ?_)
  clear hK K
  refine norm_ (a' := ?_) ?_ ?_
  rotate_left
  · show Act.put _ (some 15) _ = _
    simp only [Act.put, zSa, zSb, zSc, i64_w, i32_w]
    rfl
  refine one_ (i := 11) (N := none) #[true, true, true, true, true, true, true, true, true, true, true, true] rfl rfl (one_of HT_.out (by kernel_rfl)) (by decide) (fun K hK => ?_)
  have hs12 : w11.cell? ⟨gb1051, 0, none⟩ = some (.bool false) := (zKc BK1051.out 0).trans rfl
  have hfs12 := zKf BK1051.out 0
  have hns12_0 := NB1049_1051.out
  have hns12_1 := NB1050_1051.out
  have hms12_0 := NB1051_1049.out
  have hms12_1 := NB1051_1050.out
  have hs14 : w11.cell? ⟨gb1051, 1, none⟩ = some (.slice none 0 0) := (zKc BK1051.out 1).trans rfl
  have hfs14 := zKf BK1051.out 1
  have hns14_0 := NB1049_1051.out
  have hns14_1 := NB1050_1051.out
  have hms14_0 := NB1051_1049.out
  have hms14_1 := NB1051_1050.out
  refine skip_ (w1 := ?_) (by rfl) rfl ?_ ?_
  rotate_left
  · go_simp
    rfl
  refine hK.out _ _ ⟨((cell_far (p := ⟨gb1051, _, none⟩) NB1049_1051.out _).trans (((cell_far (p := ⟨gb1051, _, none⟩) NB1049_1051.out _).trans (hHeld.1)))), ((cell_far (p := ⟨gb1051, _, none⟩) NB1049_1051.out _).trans (((cell_far (p := ⟨gb1051, _, none⟩) NB1049_1051.out _).trans (hHeld.2.1)))), ((cell_far (p := ⟨gb1051, _, none⟩) NB1050_1051.out _).trans (((cell_far (p := ⟨gb1051, _, none⟩) NB1050_1051.out _).trans (hHeld.2.2.1)))), ((cell_far (p := ⟨gb1051, _, none⟩) NB1050_1051.out _).trans (((cell_far (p := ⟨gb1051, _, none⟩) NB1050_1051.out _).trans (hHeld.2.2.2))))⟩ (fun hHeld => ?_)
  clear hK K
  refine done_ (done_of HT_.out (by kernel_rfl)) ?_
  try go_wp2
  refine bodyPost_ret (results_cell_row rfl _ _ gb1051 24 #[.bool t1055, .slice Ao13 t1056.length co13] (0, 0) _ rfl (by (with_reducible repeat (first | refine zKn ?_ _ | refine zKd ?_ | refine zKa ?_ _)); refine blk_put (cs := #[.bool t1055, .slice none 0 0]) ?_ 1 _ rfl; (with_reducible repeat (first | refine zKn ?_ _ | refine zKd ?_ | refine zKa ?_ _)); refine blk_put (cs := #[.bool false, .slice none 0 0]) ?_ 0 _ rfl; (with_reducible repeat (first | refine zKn ?_ _ | refine zKd ?_ | refine zKa ?_ _)); exact BK1051.out) Tryd.underlying24 rfl (by kernel_rfl)) rfl ?_
  exact ⟨_, by first | rfl | (simp [errW_none, errW_some] <;> rfl) | (simp [*, errW_none, errW_some] <;> rfl), by (with_reducible repeat (first | apply zRa | apply zRn | apply zRd)); exact zRm (Kd.R_far (p := ⟨gb1051, 1, none⟩) (Kd.R_far (p := ⟨gb1051, 0, none⟩) (Kd.R_types HO1058.out BK1051.out (by decide)) (fun _ hk => hk.2) (.bool t1055)) (fun _ hk => hk.2) (.slice Ao13 t1056.length co13)) (fun _ hk => trivial), by exact uT HB.out⟩


/-! ### filigreeref02_Same: function 16 -/
def filigreeref02_Same.f (k : Nat) (a0_0 : Bool) (l0_1 : List Int) (a1_0 : Bool) (l1_1 : List Int) : Option (Bool) := if (a0_0 == a1_0) = true then ((r1_Same.f k l0_1 l1_1).bind fun t424 => (some t424)) else (some false)
set_option maxHeartbeats 8000000 in
set_option maxRecDepth 100000 in
theorem filigreeref02_Same.calls (k : Nat) (a0_0 : Bool) (A0_1 : Option Addr) (c0_1 : Nat) (l0_1 : List Int) (a1_0 : Bool) (A1_1 : Option Addr) (c1_1 : Nat) (l1_1 : List Int) (r : Bool) (w : World) (hr0_1 : Kd.C (Kd.int .u32) w A0_1 l0_1.length l0_1) (hc0_1 : l0_1.length ≤ c0_1) (hr1_1 : Kd.C (Kd.int .u32) w A1_1 l1_1.length l1_1) (hc1_1 : l1_1.length ≤ c1_1) (h : filigreeref02_Same.f k a0_0 l0_1 a1_0 l1_1 = some r) :
    Calls Tryd.prog 16 #[.agg #[.bool a0_0, .slice A0_1 l0_1.length c0_1], .agg #[.bool a1_0, .slice A1_1 l1_1.length c1_1]] w fun e w' => e = .returned (.bool r) ∧ Below w.heap.size w w' := by
  have hu24 := Tryd.underlying24
  have HR0_1 := zMk hr0_1
  have HC0_1 := zMk hc0_1
  clear hr0_1 hc0_1
  have HR1_1 := zMk hr1_1
  have HC1_1 := zMk hc1_1
  clear hr1_1 hc1_1
  have HB := zMk (Below.refl w.heap.size w)
  have H : (if (a0_0 == a1_0) = true then ((r1_Same.f k l0_1 l1_1).bind fun t424 => (some t424)) else (some false)) = some r := h
  clear h
  by_cases c3 : (a0_0 == a1_0) = true
  · rw [if_pos c3] at H
    have c3b0 : (a0_0 == a1_0) = true := c3
    (try (have c3b1 : decide (a0_0 = a1_0) = true := by simpa using c3))
    (try (have c3b2 : (a0_0 == a1_0) = true := by simpa using c3))
    clear c3
    replace H := bnd H
    obtain ⟨t424, A40, H⟩ := H
    have A4 := zMk A40
    clear A40
    obtain rfl := zOi H
    go_enter Tryd.func16, Tryd.ntmps16
    go_wp2_with (first |  ((with_reducible refine gate_dst (N := 2) rfl ?_); refine box_event ?hg (N := 2) ?hd (cs := #[.bool a0_0, .slice A0_1 l0_1.length c0_1]) (t := 24) ?hr ?_; (case hd => rfl); (case hg => rfl); (case hr => first |  (go_simp; done)|  (go_simp; rfl)|  (go_simp; rw [show ∀ x : Int, IntKind.u32.wrap (IntKind.u8.wrap x) = x % 256 from fun x => (by show (x % 256) % 4294967296 = x % 256; omega)])); intro gb422 hg w5 hbox hb; have BK422 := zMk (hbox); have GW422 := zMk ((by rw [hg]; exact (zBs (by exact uT HB.out)) : w.heap.size ≤ gb422)); have GE422 := zMk ((by rw [hg]; exact (zBs (by exact uT HB.out)) : w.heap.size ≤ gb422)); have IGE422 := ownGe GE422.out; replace HB := zMk (zBt (by exact uT HB.out) hb); clear hb hbox hg)|  ((with_reducible refine gate_dst (N := 3) rfl ?_); refine box_event ?hg (N := 3) ?hd (cs := #[.bool a1_0, .slice A1_1 l1_1.length c1_1]) (t := 24) ?hr ?_; (case hd => rfl); (case hg => rfl); (case hr => first |  (go_simp; done)|  (go_simp; rfl)|  (go_simp; rw [show ∀ x : Int, IntKind.u32.wrap (IntKind.u8.wrap x) = x % 256 from fun x => (by show (x % 256) % 4294967296 = x % 256; omega)])); intro gb423 hg w6 hbox hb; have BK423 := zMk (hbox); have GW423 := zMk ((by rw [hg]; exact (zBs (by exact uT HB.out)) : w.heap.size ≤ gb423)); have GE423 := zMk ((by rw [hg]; exact (zBs (by exact uT HB.out)) : w.heap.size ≤ gb423)); have IGE423 := ownGe GE423.out; replace HB := zMk (zBt (by exact uT HB.out) hb); have NB422_423 := zMk ((by rw [hg]; exact Nat.ne_of_lt (blk_lt (g := gb422) (o := .cells #[.bool a0_0, .slice A0_1 l0_1.length c0_1] 24 (0, 0)) (by (with_reducible repeat (first |  refine zKn ?_ _|  refine zKd ?_|  refine zKa ?_ _)); exact BK422.out)) : gb422 ≠ gb423)); have NB423_422 := zMk ((by rw [hg]; exact Nat.ne_of_gt (blk_lt (g := gb422) (o := .cells #[.bool a0_0, .slice A0_1 l0_1.length c0_1] 24 (0, 0)) (by (with_reducible repeat (first |  refine zKn ?_ _|  refine zKd ?_|  refine zKa ?_ _)); exact BK422.out)) : gb423 ≠ gb422)); replace BK422 := zMk (zKb (g := gb422) (o := .cells #[.bool a0_0, .slice A0_1 l0_1.length c0_1] 24 (0, 0)) (by (with_reducible repeat (first |  refine zKn ?_ _|  refine zKd ?_|  refine zKa ?_ _)); exact BK422.out) hb); clear hb hbox hg; have hnb7 := NB422_423.out; have hnc7 := NB423_422.out; have hcz8_0 : w6.cell? ⟨gb422, 0, none⟩ = some (.bool a0_0) := (zKc BK422.out 0).trans rfl; have hcz8_1 : w6.cell? ⟨gb422, 1, none⟩ = some (.slice A0_1 l0_1.length c0_1) := (zKc BK422.out 1).trans rfl; have hfz8_0 := zKf BK422.out 0; have hfz8_1 := zKf BK422.out 1; have hcz9_0 : w6.cell? ⟨gb423, 0, none⟩ = some (.bool a1_0) := (zKc BK423.out 0).trans rfl; have hcz9_1 : w6.cell? ⟨gb423, 1, none⟩ = some (.slice A1_1 l1_1.length c1_1) := (zKc BK423.out 1).trans rfl; have hfz9_0 := zKf BK423.out 0; have hfz9_1 := zKf BK423.out 1)|  (go_at_call 40; (with_reducible refine (r1_Same.calls k _ _ l0_1 _ _ l1_1 t424 _ ?side1 ?side2 ?side3 ?side4 A4.out).mono ?_); (case side1 => repeat (first |  exact (Kd.C_below HR0_1.out HB.out)|  (with_reducible refine zCa ?_ _)|  (with_reducible refine zCn ?_ _)|  (with_reducible refine zCd ?_))); (case side2 => exact HC0_1.out); (case side3 => repeat (first |  exact (Kd.C_below HR1_1.out HB.out)|  (with_reducible refine zCa ?_ _)|  (with_reducible refine zCn ?_ _)|  (with_reducible refine zCd ?_))); (case side4 => exact HC1_1.out); rintro e w' ⟨rfl, ⟨nd, rfl⟩⟩))
    go_ret
    exact ⟨by first | rfl | (simp [errW_none, errW_some] <;> rfl) | (simp [*, errW_none, errW_some] <;> rfl), by exact uT HB.out⟩
  · rw [if_neg c3] at H
    have c3b0 : (a0_0 == a1_0) = false := by simpa using c3
    (try (have c3b1 : decide (a0_0 = a1_0) = false := by simpa using c3))
    (try (have c3b2 : (a0_0 == a1_0) = false := by simpa using c3))
    (try (have c3b3 : ¬ (a0_0 = a1_0) := by simpa using c3))
    clear c3
    obtain rfl := zOi H
    go_enter Tryd.func16, Tryd.ntmps16
    go_wp2_with (first |  ((with_reducible refine gate_dst (N := 2) rfl ?_); refine box_event ?hg (N := 2) ?hd (cs := #[.bool a0_0, .slice A0_1 l0_1.length c0_1]) (t := 24) ?hr ?_; (case hd => rfl); (case hg => rfl); (case hr => first |  (go_simp; done)|  (go_simp; rfl)|  (go_simp; rw [show ∀ x : Int, IntKind.u32.wrap (IntKind.u8.wrap x) = x % 256 from fun x => (by show (x % 256) % 4294967296 = x % 256; omega)])); intro gb422 hg w10 hbox hb; have BK422 := zMk (hbox); have GW422 := zMk ((by rw [hg]; exact (zBs (by exact uT HB.out)) : w.heap.size ≤ gb422)); have GE422 := zMk ((by rw [hg]; exact (zBs (by exact uT HB.out)) : w.heap.size ≤ gb422)); have IGE422 := ownGe GE422.out; replace HB := zMk (zBt (by exact uT HB.out) hb); clear hb hbox hg)|  ((with_reducible refine gate_dst (N := 3) rfl ?_); refine box_event ?hg (N := 3) ?hd (cs := #[.bool a1_0, .slice A1_1 l1_1.length c1_1]) (t := 24) ?hr ?_; (case hd => rfl); (case hg => rfl); (case hr => first |  (go_simp; done)|  (go_simp; rfl)|  (go_simp; rw [show ∀ x : Int, IntKind.u32.wrap (IntKind.u8.wrap x) = x % 256 from fun x => (by show (x % 256) % 4294967296 = x % 256; omega)])); intro gb423 hg w11 hbox hb; have BK423 := zMk (hbox); have GW423 := zMk ((by rw [hg]; exact (zBs (by exact uT HB.out)) : w.heap.size ≤ gb423)); have GE423 := zMk ((by rw [hg]; exact (zBs (by exact uT HB.out)) : w.heap.size ≤ gb423)); have IGE423 := ownGe GE423.out; replace HB := zMk (zBt (by exact uT HB.out) hb); have NB422_423 := zMk ((by rw [hg]; exact Nat.ne_of_lt (blk_lt (g := gb422) (o := .cells #[.bool a0_0, .slice A0_1 l0_1.length c0_1] 24 (0, 0)) (by (with_reducible repeat (first |  refine zKn ?_ _|  refine zKd ?_|  refine zKa ?_ _)); exact BK422.out)) : gb422 ≠ gb423)); have NB423_422 := zMk ((by rw [hg]; exact Nat.ne_of_gt (blk_lt (g := gb422) (o := .cells #[.bool a0_0, .slice A0_1 l0_1.length c0_1] 24 (0, 0)) (by (with_reducible repeat (first |  refine zKn ?_ _|  refine zKd ?_|  refine zKa ?_ _)); exact BK422.out)) : gb423 ≠ gb422)); replace BK422 := zMk (zKb (g := gb422) (o := .cells #[.bool a0_0, .slice A0_1 l0_1.length c0_1] 24 (0, 0)) (by (with_reducible repeat (first |  refine zKn ?_ _|  refine zKd ?_|  refine zKa ?_ _)); exact BK422.out) hb); clear hb hbox hg; have hnb12 := NB422_423.out; have hnc12 := NB423_422.out; have hcz13_0 : w11.cell? ⟨gb422, 0, none⟩ = some (.bool a0_0) := (zKc BK422.out 0).trans rfl; have hcz13_1 : w11.cell? ⟨gb422, 1, none⟩ = some (.slice A0_1 l0_1.length c0_1) := (zKc BK422.out 1).trans rfl; have hfz13_0 := zKf BK422.out 0; have hfz13_1 := zKf BK422.out 1; have hcz14_0 : w11.cell? ⟨gb423, 0, none⟩ = some (.bool a1_0) := (zKc BK423.out 0).trans rfl; have hcz14_1 : w11.cell? ⟨gb423, 1, none⟩ = some (.slice A1_1 l1_1.length c1_1) := (zKc BK423.out 1).trans rfl; have hfz14_0 := zKf BK423.out 0; have hfz14_1 := zKf BK423.out 1))
    go_ret
    exact ⟨by first | rfl | (simp [errW_none, errW_some] <;> rfl) | (simp [*, errW_none, errW_some] <;> rfl), by exact uT HB.out⟩

/- Whole numbers: a sign and limbs in their normal form; sums, differences, products. -/
/-- A number with a sign. -/
def sg (b : Bool) (v : Int) : Int := if b = true then -v else v
structure IsInt (b : Bool) (l : List Int) (z : Int) : Prop where
  num : IsNum l (z.natAbs : Int)
  neg : b = decide (z < 0)
theorem IsInt.unique {b b' : Bool} {l l' : List Int} {z : Int} (h : IsInt b l z) (h' : IsInt b' l' z) : b = b' ∧ l = l' := ⟨h.neg.trans h'.neg.symm, h.num.unique h'.num⟩
theorem IsInt.sg {b : Bool} {l : List Int} {z : Int} (h : IsInt b l z) : Go.Proofs.YtnjmnicgknggfaaDoor.E.sg b (val l) = z := by
  rw [h.num.eq, h.neg]
  unfold Go.Proofs.YtnjmnicgknggfaaDoor.E.sg
  by_cases c : z < 0
  · rw [decide_eq_true c, if_pos rfl]; omega
  · rw [decide_eq_false c, if_neg (by decide)]; omega
theorem pos_len {l : List Int} (h : Limbs l) (t : Trim l) : (decide ((l.length : Int) > 0)) = decide (0 < val l) := by
  rcases Classical.em (l = []) with h0 | h0
  · subst h0; rfl
  · have h1 := val_pos h t h0
    have h2 : 0 < l.length := List.length_pos_iff.2 h0
    rw [decide_eq_true h1, decide_eq_true (by omega)]
theorem isInt_cut (b : Bool) {l : List Int} (h : Limbs l) : IsInt (b && decide (0 < val l)) (cut l) (Go.Proofs.YtnjmnicgknggfaaDoor.E.sg b (val l)) := by
  have hn := IsNum.cut h
  have h0 := val_nonneg h
  cases b with
  | true =>
    refine ⟨?_, ?_⟩
    · rw [show ((Go.Proofs.YtnjmnicgknggfaaDoor.E.sg true (val l)).natAbs : Int) = val l by unfold Go.Proofs.YtnjmnicgknggfaaDoor.E.sg; rw [if_pos rfl]; omega]; exact hn
    · rw [Bool.true_and]; refine decide_eq_decide.2 ?_; unfold Go.Proofs.YtnjmnicgknggfaaDoor.E.sg; rw [if_pos rfl]; omega
  | false =>
    refine ⟨?_, ?_⟩
    · rw [show ((Go.Proofs.YtnjmnicgknggfaaDoor.E.sg false (val l)).natAbs : Int) = val l by unfold Go.Proofs.YtnjmnicgknggfaaDoor.E.sg; rw [if_neg (by decide)]; omega]; exact hn
    · rw [Bool.false_and]; symm; refine decide_eq_false ?_; unfold Go.Proofs.YtnjmnicgknggfaaDoor.E.sg; rw [if_neg (by decide)]; omega
theorem signed_f (b : Bool) (l : List Int) (h : Limbs l) (hl : l.length < 35184372088832) : ∃ x y, integer_signed.f b l = some (x, y) ∧ IsInt x y (sg b (val l)) ∧ y.length ≤ l.length := by
  have hn := IsNum.cut h
  refine ⟨b && decide (0 < val l), cut l, ?_, isInt_cut b h, cut_length l⟩
  unfold integer_signed.f
  rw [nnorm_f l hl, zOb, pos_len hn.limbs hn.trim, hn.eq]
  cases b with
  | true => rw [if_pos rfl, Bool.true_and]
  | false => rw [if_neg (by decide), Bool.false_and]
theorem make2_f (b : Bool) (l : List Int) (h : Limbs l) (hl : l.length < 35184372088832) (k : Nat) (hk : l.length < k) : ∃ x y, filigreeref02_make2.f k b l = some (x, y) ∧ IsInt x y (sg b (val l)) ∧ y.length ≤ l.length := by
  have hn := IsNum.cut h
  refine ⟨b && decide (0 < val l), cut l, ?_, isInt_cut b h, cut_length l⟩
  unfold filigreeref02_make2.f
  rw [norm_f l hl k hk, zOb, pos_len hn.limbs hn.trim, hn.eq]
  cases b with
  | true => rw [if_pos rfl, Bool.true_and]
  | false => rw [if_neg (by decide), Bool.false_and]
/-- An answer that is a number with a sign. -/
def TellsInt (o : Option (Bool × List Int)) (z : Int) (n : Nat) : Prop := ∃ x y, o = some (x, y) ∧ IsInt x y z ∧ y.length ≤ n
theorem norm_int (a : Bool) (x : List Int) (hx : Limbs x) (lx : x.length ≤ 100000) : TellsInt (integer_Norm.f a x) (sg a (val x)) x.length := by
  obtain ⟨p, q, e, i, l⟩ := signed_f a x hx (by omega)
  refine ⟨p, q, ?_, i, l⟩
  unfold integer_Norm.f
  rw [e, zOb]
theorem rnorm_int (a : Bool) (x : List Int) (hx : Limbs x) (lx : x.length ≤ 100000) (k : Nat) (hk : 200000 ≤ k) : TellsInt (filigreeref02_Norm.f k a x) (sg a (val x)) x.length := by
  obtain ⟨p, q, e, i, l⟩ := make2_f a x hx (by omega) k (by omega)
  refine ⟨p, q, ?_, i, l⟩
  unfold filigreeref02_Norm.f
  rw [e, zOb]
theorem isame_f (b : Bool) (l : List Int) (hl : l.length < 100000) (k : Nat) (hk : 100000 ≤ k) : filigreeref02_Same.f k b l b l = some true := by
  unfold filigreeref02_Same.f
  rw [if_pos (by simp), same_f l (by omega) k (by omega)]
  rfl
/- The plain laws of the small parts of the quotient: joined limbs, leading noughts, a quotient by one limb, a shift. -/
theorem or64 (x y : Int) (hx : 0 ≤ x ∧ x < 4294967296) (hy : 0 ≤ y ∧ y < 4294967296) : Go.bits .or .u64 (IntKind.u64.wrap (x * 4294967296)) (IntKind.u64.wrap y) = x * 4294967296 + y := by
  rw [wraps_u64 _ (by omega) (by omega), wraps_u64 y (by omega) (by omega)]
  exact bits_join .u64 64 (by decide) wraps_u64 32 (x * 4294967296) y (by omega) (by omega) (by omega) hy.1 (by omega) (by omega)
theorem smallN_val (rest x : Int) (hr : 0 ≤ rest ∧ rest < 4294967296) (hx : 0 ≤ x ∧ x < 4294967296) : smallN rest x = rest * 4294967296 + x := or64 rest x hr hx
theorem val_drop_cons (l : List Int) (n : Nat) (h : n < l.length) : val (l.drop n) = l.getD n 0 + 4294967296 * val (l.drop (n + 1)) := by
  rw [List.drop_eq_getElem_cons h, getD_lt _ h]
  rfl
theorem smallIt_val (l : List Int) (hl : Limbs l) (b : Int) (hb : 1 ≤ b) (hb2 : b < 4294967296) : ∀ k, k ≤ l.length →
    ∃ qv, val (smallIt l b k).1 = 4294967296 ^ (l.length - k) * qv ∧ val (l.drop (l.length - k)) = qv * b + (smallIt l b k).2 ∧ 0 ≤ (smallIt l b k).2 ∧ (smallIt l b k).2 < b ∧ Limbs (smallIt l b k).1 ∧ ∀ i, i < l.length - k → (smallIt l b k).1.getD i 0 = 0 := by
  intro k
  induction k with
  | zero =>
    intro _
    refine ⟨0, ?_, ?_, Int.le_refl _, by simp only [smallIt]; omega, limbs_replicate _, ?_⟩
    · simp only [smallIt]; rw [val_replicate]; simp
    · simp [smallIt, val]
    · intro i hi
      simp only [smallIt]
      rw [getD_lt _ (by simp; omega)]
      simp
  | succ k ih =>
    intro hk
    obtain ⟨qv, h1, h2, h3, h4, h5, h6⟩ := ih (by omega)
    have hlen := smallIt_length l b k
    have hstep0 : smallIt l b (k + 1) = smallStep l b (smallIt l b k) (l.length - 1 - k) := rfl
    generalize smallIt l b k = s at h1 h2 h3 h4 h5 h6 hlen hstep0
    obtain ⟨O, rest⟩ := s
    simp only at h1 h2 h3 h4 h5 h6 hlen
    obtain ⟨p, hp⟩ : ∃ p, p = l.length - 1 - k := ⟨_, rfl⟩
    have hx := hl.getD p
    have hn : smallN rest (rd l (p : Int)) = rest * 4294967296 + l.getD p 0 := by rw [rd_nat]; exact smallN_val _ _ ⟨h3, by omega⟩ hx
    obtain ⟨n, hn2⟩ : ∃ n, n = rest * 4294967296 + l.getD p 0 := ⟨_, rfl⟩
    have hstep : smallIt l b (k + 1) = (O.set p (n / b % 4294967296), n % b) := by
      rw [hstep0, ← hp, hn2, ← hn]
      rfl
    have hdm := Int.emod_add_mul_ediv n b
    have hm0 := Int.emod_nonneg n (show b ≠ 0 by omega)
    have hm1 := Int.emod_lt_of_pos n (show 0 < b by omega)
    have hq0 : 0 ≤ n / b := Int.ediv_nonneg (by omega) (by omega)
    have hq1 : n / b < 4294967296 := Int.ediv_lt_of_lt_mul (by omega) (by
      have : (rest + 1) * 4294967296 ≤ b * 4294967296 := Int.mul_le_mul_of_nonneg_right (by omega) (by omega)
      rw [Int.mul_comm 4294967296 b]
      omega)
    rw [hstep]
    simp only
    rw [show n / b % 4294967296 = n / b by omega]
    refine ⟨n / b + 4294967296 * qv, ?_, ?_, hm0, hm1, h5.set _ hq0 hq1, ?_⟩
    · rw [val_set _ _ _ (by omega), h6 p (by omega), h1, show l.length - k = p + 1 by omega, show l.length - (k + 1) = p by omega, Int.pow_succ]
      grind
    · rw [show l.length - (k + 1) = p by omega, val_drop_cons l p (by omega), show p + 1 = l.length - k by omega, h2]
      grind
    · intro i hi
      rw [getD_set_ne _ _ (by omega)]
      exact h6 i (by omega)
theorem small_f (l : List Int) (hl : Limbs l) (hlen : l.length ≤ 35184372088832) (b : Int) (hb : 1 ≤ b) (hb2 : b < 4294967296) :
    ∃ q, n_small.f l b = some (q, val l % b) ∧ IsNum q (val l / b) ∧ q.length ≤ l.length := by
  obtain ⟨qv, h1, h2, h3, h4, h5, h6⟩ := smallIt_val l hl b hb hb2 l.length (Nat.le_refl _)
  have hln := smallIt_length l b l.length
  rw [Nat.sub_self, Int.pow_zero, Int.one_mul] at h1
  rw [Nat.sub_self, List.drop_zero] at h2
  have hdiv : val l / b = qv := by
    rw [h2, Int.add_comm, Int.add_mul_ediv_right _ _ (by omega), Int.ediv_eq_zero_of_lt h3 h4]; omega
  have hmod : val l % b = (smallIt l b l.length).2 := by
    rw [h2, Int.add_comm, Int.add_mul_emod_self_right, Int.emod_eq_of_lt h3 h4]
  refine ⟨cut (smallIt l b l.length).1, ?_, ?_, by have := cut_length (smallIt l b l.length).1; omega⟩
  · unfold n_small.f
    rw [if_pos hlen, wraps_u64 b (by omega) (by omega), if_neg (by omega), hmod, show (smallIt l b l.length).2 % 4294967296 = (smallIt l b l.length).2 by omega]
    unfold cut
    rw [hln]
  · rw [hdiv, ← h1]
    exact IsNum.cut h5
/- Words on bits: weights, a bit that is set. -/
/-- A bit's weight: a word of its own. -/
@[irreducible] def Tp (n : Nat) : Int := (2 : Int) ^ n
theorem Tp_zero : Tp 0 = 1 := by unfold Tp; rfl
theorem Tp_succ (n : Nat) : Tp (n + 1) = Tp n * 2 := by unfold Tp; exact Int.pow_succ 2 n
theorem bval_set (l : List Int) : ∀ (n : Nat) (v : Int), n < l.length → bval (l.set n v) = bval l + Tp n * (v - l.getD n 0) := by
  induction l with
  | nil => intro n v h; exact absurd h (by simp)
  | cons x l ih =>
    intro n v h
    rcases n with _ | n
    · simp only [zSb, bval, List.getD_cons_zero, Tp_zero]; omega
    · have := ih n v (by simpa using h)
      simp only [zSc, bval, List.getD_cons_succ, this, Tp_succ]
      grind
theorem bval_drop (l : List Int) (n : Nat) (h : n < l.length) : bval (l.drop n) = l.getD n 0 + 2 * bval (l.drop (n + 1)) := by
  rw [List.drop_eq_getElem_cons h, getD_lt _ h]
  rfl
theorem Bits.set {l : List Int} (h : Bits l) (n : Nat) {v : Int} (hv : v = 0 ∨ v = 1) : Bits (l.set n v) := fun x hx => by
  rcases List.mem_or_eq_of_mem_set hx with hx | rfl
  · exact h x hx
  · exact hv
theorem bits_zero (n : Nat) : Bits (List.replicate n 0) := fun x hx => .inl (List.eq_of_mem_replicate hx)
theorem bval_zero (n : Nat) : bval (List.replicate n 0) = 0 := by
  induction n with
  | zero => rfl
  | succ n ih => simp only [List.replicate_succ, bval, ih]; rfl
/- The plain law of the document's quotient, bit by bit. -/
theorem rdiv_l0 (b x : List Int) (hb : Limbs b) (hx : Bits x) (lb : b.length ≤ 20) (lx : x.length ≤ 1000) (hbp : 0 < val b) :
    ∀ (m k : Nat) (Q r : List Int) (qv : Int), m ≤ x.length → Q.length = x.length → Bits Q → (∀ i, i < m → Q.getD i 0 = 0) → Aside0 (bval Q = Tp m * qv) → IsNum r (val r) → val r < val b → Aside0 (bval (x.drop m) = qv * val b + val r) → 10000 + m ≤ k →
    ∃ q r', r1_DivMod.l0 k b x Q r ((m : Int) - 1) = some (q, r', 0) ∧ IsNum q (bval x / val b) ∧ IsNum r' (bval x % val b) := by
  intro m
  induction m with
  | zero =>
    intro k Q r qv _ hQ bQ _ h1 nr hr h2 hk
    obtain ⟨k, rfl⟩ : ∃ d, k = d + 1 := ⟨k - 1, by omega⟩
    have h3 := h1.out
    have h4 := h2.out
    rw [Tp_zero, Int.one_mul] at h3
    rw [List.drop_zero] at h4
    obtain ⟨q, e1, n1, _⟩ := limbs_f Q bQ (by omega) k (by omega)
    have hr0 := val_nonneg nr.limbs
    refine ⟨q, r, ?_, ?_, ?_⟩
    · rw [r1_DivMod.l0, if_neg (by omega), e1]
      rfl
    · rw [h4, Int.add_comm, Int.add_mul_ediv_right _ _ (Int.ne_of_gt hbp), Int.ediv_eq_zero_of_lt hr0 hr, Int.zero_add, ← h3]
      exact n1
    · rw [h4, Int.add_comm, Int.add_mul_emod_self_right, Int.emod_eq_of_lt hr0 hr]
      exact nr
  | succ m ih =>
    intro k Q r qv hm hQ bQ hz h1 nr hr h2 hk
    obtain ⟨k, rfl⟩ : ∃ d, k = d + 1 := ⟨k - 1, by omega⟩
    have hxm := hx.getD m
    have hrl : r.length ≤ b.length := len_of_lt nr (Int.lt_trans hr (val_ltB hb))
    have hbl := bitsOf_length r
    have hr0 := val_nonneg nr.limbs
    obtain ⟨t, e1, n1, _⟩ := limbs_f ([x.getD m 0] ++ bitsOf r) ((Bits.one hxm).append (bitsOf_bits r)) (by rw [List.length_append]; simp only [zLc, zLn]; omega) k (by rw [List.length_append]; simp only [zLc, zLn]; omega)
    have hbv : bval ([x.getD m 0] ++ bitsOf r) = x.getD m 0 + 2 * val r := by
      show x.getD m 0 + 2 * bval (bitsOf r) = _
      rw [bval_bitsOf nr.limbs]
    rw [hbv] at n1
    have htl : t.length ≤ b.length + 1 := len_of_lt n1 (by
      have := val_ltB hb
      rw [Bp_succ]
      omega)
    have hd : Aside0 (bval (x.drop m) = (2 * qv) * val b + (x.getD m 0 + 2 * val r)) := ⟨by
      rw [bval_drop x m (by omega), h2.out]
      grind⟩
    have hl0 : r1_DivMod.l0 (k + 1) b x Q r (((m + 1 : Nat) : Int) - 1) = (if cmpI (val t) (val b) ≥ 0 then ((r1_Sub.f k t b).bind fun bt579 => r1_DivMod.l0 k b x (Q.set m 1) bt579.1 ((m : Int) - 1)) else r1_DivMod.l0 k b x Q t ((m : Int) - 1)) := by
      rw [show ((m + 1 : Nat) : Int) - 1 = (m : Int) by omega, r1_DivMod.l0, if_pos (by omega), if_pos (by omega), if_pos (by omega), zOb, bits_f r nr.limbs (by omega) k (by omega), zOb, if_pos (by simp only [zLc, zLn]; omega), rd_nat, e1, zOb, rcmp_f t b n1.limbs hb (by omega) (by omega) k (by omega), zOb, w64 (n := (m : Int) - 1) (by omega) (by omega), zTn]
      congr 1
      refine congrArg _ (funext fun p => ?_)
      rw [if_pos (by omega)]
    rw [hl0]
    by_cases hc : val b ≤ val t
    · have hcm : cmpI (val t) (val b) ≥ 0 := by
        unfold cmpI
        rw [if_neg (by omega)]
        split <;> omega
      rw [if_pos hcm]
      rcases rsub_f t b n1.limbs hb (by omega) (by omega) k (by omega) with ⟨h, _⟩ | ⟨_, y, e2, n2⟩
      · omega
      · rw [e2, zOb]
        have hy : val y = val t - val b := n2.eq
        rw [n1.eq] at hy
        refine ih k (Q.set m 1) y (2 * qv + 1) (by omega) (by rw [List.length_set]; exact hQ) (bQ.set m (.inr rfl)) (fun i hi => by rw [getD_set_ne _ _ (by omega)]; exact hz i (by omega)) ⟨?_⟩ ⟨n2.limbs, n2.trim, rfl⟩ (by omega) ⟨?_⟩ (by omega)
        · rw [bval_set _ _ _ (by omega), h1.out, hz m (by omega), Tp_succ]
          grind
        · rw [hd.out, hy]
          grind
    · have hcm : ¬ cmpI (val t) (val b) ≥ 0 := by
        unfold cmpI
        rw [if_pos (by omega)]
        decide
      rw [if_neg hcm]
      have ht : val t = x.getD m 0 + 2 * val r := n1.eq
      refine ih k Q t (2 * qv) (by omega) hQ bQ (fun i hi => hz i (by omega)) ⟨?_⟩ ⟨n1.limbs, n1.trim, rfl⟩ (by omega) ⟨?_⟩ (by omega)
      · rw [h1.out, Tp_succ]
        grind
      · rw [hd.out, ht]
theorem rdivmod_f (a b : List Int) (ha : Limbs a) (hb : Limbs b) (la : a.length ≤ 20) (lb : b.length ≤ 20) (k : Nat) (hk : 20000 ≤ k) :
    (val b = 0 ∧ r1_DivMod.f k a b = some ([], [], 15)) ∨ (0 < val b ∧ ∃ q r, r1_DivMod.f k a b = some (q, r, 0) ∧ IsNum q (val a / val b) ∧ IsNum r (val a % val b)) := by
  have cb := cut_length b
  unfold r1_DivMod.f
  rw [norm_f b (by omega) k (by omega), zOb]
  by_cases h0 : ((cut b).length : Int) = 0
  · refine .inl ⟨?_, by rw [if_pos h0]⟩
    rw [← cut_val b, List.eq_nil_of_length_eq_zero (by omega : (cut b).length = 0)]
    rfl
  · have hne : cut b ≠ [] := fun h => h0 (by rw [h]; rfl)
    have hbp := val_pos (cut_limbs hb) (cut_trim b) hne
    have hbl := bitsOf_length a
    obtain ⟨q, r, e, nq, nr⟩ := rdiv_l0 (cut b) (bitsOf a) (cut_limbs hb) (bitsOf_bits a) (by omega) (by omega) hbp (bitsOf a).length k (List.replicate (bitsOf a).length 0) [] 0 (Nat.le_refl _) (by simp) (bits_zero _) (fun i _ => zeros_getD _ i) ⟨by rw [bval_zero, Int.mul_zero]⟩ IsNum.nil hbp ⟨by rw [List.drop_length]; simp [bval, val]⟩ (by omega)
    rw [bval_bitsOf ha, cut_val] at nq nr
    rw [cut_val] at hbp
    refine .inr ⟨hbp, q, r, ?_, nq, nr⟩
    rw [if_neg h0, bits_f a ha (by omega) k (by omega), zOb, if_pos (by omega), zTn, if_pos (by omega), w64 (by omega) (by omega)]
    exact e
/- Decimal numerals: their digits, and what they stand for. -/
section
open Go.Lib
theorem dec_lt {u : Nat} (h : u < 10) : decDigits u = [UInt8.ofNat (48 + u)] := by rw [decDigits, dif_pos h]
theorem dec_ge {u : Nat} (h : 10 ≤ u) : decDigits u = decDigits (u / 10) ++ [UInt8.ofNat (48 + u % 10)] := by rw [decDigits, dif_neg (by omega)]
/-- What digits stand for. -/
def dv (l : List UInt8) : Nat := l.foldl (fun a c => a * 10 + (c.toNat - 48)) 0
theorem dv_snoc (l : List UInt8) (c : UInt8) : dv (l ++ [c]) = dv l * 10 + (c.toNat - 48) := by simp [dv]
def IsDigit (c : UInt8) : Prop := 48 ≤ c.toNat ∧ c.toNat ≤ 57
instance (c : UInt8) : Decidable (IsDigit c) := by unfold IsDigit; infer_instance
/-- A numeral: digits, at least one; no nought ahead of others. -/
def Numeral (l : List UInt8) : Prop := l ≠ [] ∧ (∀ c ∈ l, IsDigit c) ∧ (1 < l.length → l.getD 0 0 ≠ 48)
theorem digit_nat (d : Nat) (h : d < 10) : (UInt8.ofNat (48 + d)).toNat = 48 + d := by
  rw [UInt8.toNat_ofNat']; omega
theorem dec_ne (u : Nat) : decDigits u ≠ [] := by
  rcases Nat.lt_or_ge u 10 with h | h
  · rw [dec_lt h]; simp
  · rw [dec_ge h]; simp
/-- k digits of a number below 10^k. -/
def padD : Nat → Nat → List UInt8
  | 0, _ => []
  | k + 1, r => padD k (r / 10) ++ [UInt8.ofNat (48 + r % 10)]
theorem dec_pad (q : Nat) (hq : 1 ≤ q) : ∀ (k r : Nat), r < 10 ^ k → decDigits (q * 10 ^ k + r) = decDigits q ++ padD k r
  | 0, r, h => by
    have : r = 0 := by simpa using h
    simp [padD, this]
  | k + 1, r, h => by
    have hk : 1 ≤ 10 ^ k := Nat.one_le_pow _ _ (by omega)
    have hp : q * 10 ^ (k + 1) = (q * 10 ^ k) * 10 := by rw [Nat.pow_succ, Nat.mul_assoc]
    have h1 : 1 ≤ q * 10 ^ k := Nat.le_trans (by omega) (Nat.mul_le_mul hq hk)
    rw [dec_ge (by rw [hp]; omega), show (q * 10 ^ (k + 1) + r) / 10 = q * 10 ^ k + r / 10 by rw [hp]; omega, show (q * 10 ^ (k + 1) + r) % 10 = r % 10 by rw [hp]; omega, dec_pad q hq k (r / 10) (by rw [Nat.pow_succ] at h; omega)]
    simp [padD]
theorem padD_zero : ∀ k, padD k 0 = List.replicate k 48
  | 0 => rfl
  | k + 1 => by
    rw [padD, show 0 / 10 = 0 from rfl, padD_zero k, List.replicate_succ']
    rfl
theorem dec_len_le : ∀ (k r : Nat), 1 ≤ k → r < 10 ^ k → (decDigits r).length ≤ k
  | 0, _, h, _ => by omega
  | k + 1, r, _, hr => by
    rcases Nat.lt_or_ge r 10 with h | h
    · rw [dec_lt h]; simp
    · have h1 : 1 ≤ k := by
        rcases Nat.eq_zero_or_pos k with h0 | h0
        · subst h0; omega
        · exact h0
      have := dec_len_le k (r / 10) h1 (by rw [Nat.pow_succ] at hr; omega)
      rw [dec_ge h]; simp; omega
theorem padD_dec : ∀ (k r : Nat), 1 ≤ k → r < 10 ^ k → padD k r = List.replicate (k - (decDigits r).length) 48 ++ decDigits r
  | 0, _, h, _ => by omega
  | k + 1, r, _, hr => by
    rcases Nat.lt_or_ge r 10 with h | h
    · rw [padD, show r / 10 = 0 by omega, padD_zero, dec_lt h, show r % 10 = r by omega]
      simp
    · have h1 : 1 ≤ k := by
        rcases Nat.eq_zero_or_pos k with h0 | h0
        · subst h0; omega
        · exact h0
      rw [padD, padD_dec k (r / 10) h1 (by rw [Nat.pow_succ] at hr; omega), dec_ge h]
      simp
theorem repeat48 : ∀ n, repeatL [48] n = List.replicate n 48
  | 0 => rfl
  | n + 1 => by rw [repeatL, repeat48 n]; rfl
theorem itoa_dec (n : Int) (h : 0 ≤ n) : itoa n = decDigits n.toNat := by unfold itoa; rw [if_neg (by omega)]
theorem join_flat (l : List (List UInt8)) : join l [] = l.flatten := by
  cases l with
  | nil => rfl
  | cons x l => rw [join_cons]; simp [joinTail]
/-- The digits of a number, of nought none. -/
def decE (u : Nat) : List UInt8 := if u = 0 then [] else decDigits u
theorem decE_step (u : Nat) (h : 1 ≤ u) : decE u = decE (u / 10) ++ [UInt8.ofNat (48 + u % 10)] := by
  unfold decE
  rw [if_neg (by omega)]
  rcases Nat.lt_or_ge u 10 with h1 | h1
  · rw [if_pos (by omega), dec_lt h1, show u % 10 = u by omega]; rfl
  · rw [if_neg (by omega), dec_ge h1]
end
/- The number's text: natural.Text and the document's. -/
section
open Go.Lib
theorem rdOf_nat (l : List ByteArray) (n : Nat) : rdOf ByteArray.empty l (n : Int) = l.getD n ByteArray.empty := by simp [rdOf]
/-- slices.Reverse from its i-th round on. -/
theorem rev_l0 (l : List ByteArray) (hl : l.length < 4611686018427387904) : ∀ (d i k : Nat) (x : List ByteArray), l.length - 2 * i ≤ d → 2 * i ≤ l.length → x.length = l.length →
    (∀ j, j < l.length → x.getD j ByteArray.empty = if j < i ∨ l.length - 1 - i < j then l.getD (l.length - 1 - j) ByteArray.empty else l.getD j ByteArray.empty) → d < k →
    slices_Reverse_string_string.l0 k x (i : Int) ((l.length : Int) - 1 - i) = some l.reverse
  | d, i, 0, x, hd, hi, hx, hj, hk => by omega
  | d, i, k + 1, x, hd, hi, hx, hj, hk => by
    simp only [slices_Reverse_string_string.l0]
    by_cases hlt : (i : Int) < (l.length : Int) - 1 - i
    · obtain ⟨j, hjj⟩ : ∃ j : Nat, (l.length : Int) - 1 - i = (j : Int) := ⟨l.length - 1 - i, by omega⟩
      rw [hjj]
      rw [hjj] at hlt
      rw [if_pos hlt, if_pos (by omega), if_pos (by rw [hx]; omega), if_pos (by omega), if_pos (by rw [hx]; omega), w64 (by omega) (by omega), w64 (by omega) (by omega)]
      rw [rdOf_nat, rdOf_nat, show ((i : Nat) : Int).toNat = i by omega, show ((j : Nat) : Int).toNat = j by omega]
      have e1 : (i : Int) + 1 = ((i + 1 : Nat) : Int) := by omega
      have e2 : (j : Int) - 1 = (l.length : Int) - 1 - ((i + 1 : Nat) : Int) := by omega
      rw [e1, e2]
      rcases Nat.eq_zero_or_pos d with h0 | h0
      · omega
      refine rev_l0 l hl (d - 1) (i + 1) k _ (by omega) (by omega) (by simp [hx]) (fun m hm => ?_) (by omega)
      have hxi : i < x.length := by omega
      have hxj : j < x.length := by omega
      have hm2 : m < x.length := by omega
      have hmi := hj m hm
      have hii := hj i (by omega)
      have hij := hj j (by omega)
      rw [if_neg (by omega)] at hii hij
      rw [List.getD_eq_getElem?_getD, List.getElem?_set]
      by_cases c1 : j = m
      · subst c1
        rw [if_pos rfl, if_pos (by simpa using hxj), if_pos (by omega), Option.getD_some, hii, show l.length - 1 - j = i by omega]
      · rw [if_neg c1, List.getElem?_set]
        by_cases c2 : i = m
        · subst c2
          rw [if_pos rfl, if_pos hxi, if_pos (by omega), Option.getD_some, hij, show l.length - 1 - i = j by omega]
        · rw [if_neg c2, ← List.getD_eq_getElem?_getD, hmi]
          by_cases c3 : m < i ∨ l.length - 1 - i < m
          · rw [if_pos c3, if_pos (by omega)]
          · rw [if_neg c3, if_neg (by omega)]
    · rw [if_neg hlt]
      congr 1
      refine List.ext_getElem (by simp [hx]) fun m h1 h2 => ?_
      have hm : m < l.length := by omega
      have h3 := hj m hm
      rw [List.getD_eq_getElem?_getD, List.getElem?_eq_getElem h1, Option.getD_some] at h3
      rw [List.getElem_reverse, h3]
      split
      · rw [List.getD_eq_getElem?_getD, List.getElem?_eq_getElem (by omega), Option.getD_some]
      · rename_i hc
        have : l.length - 1 - m = m := by omega
        rw [List.getD_eq_getElem?_getD, List.getElem?_eq_getElem hm, Option.getD_some]
        congr 1
        exact this.symm
  termination_by _ _ k => k
theorem rev_f (l : List ByteArray) (hl : l.length < 4611686018427387904) (k : Nat) (hk : l.length < k) : slices_Reverse_string_string.f k l = some l.reverse := by
  unfold slices_Reverse_string_string.f
  rw [w64 (by omega) (by omega)]
  have h := rev_l0 l hl l.length 0 k l (by omega) (by omega) rfl (fun j hj => by rw [if_neg (by omega)]) hk
  simpa using h
def bytesOf (l : List UInt8) : ByteArray := ⟨l.toArray⟩
theorem bytesOf_list (l : List UInt8) : (bytesOf l).data.toList = l := rfl
theorem bytesOf_size (l : List UInt8) : (bytesOf l).size = l.length := rfl
def partsOf (ps : List ByteArray) : List UInt8 := (ps.reverse.map (·.data.toList)).flatten
theorem partsOf_snoc (ps : List ByteArray) (s : ByteArray) : partsOf (ps ++ [s]) = s.data.toList ++ partsOf ps := by simp [partsOf]
theorem partsOf_rev (ps : List ByteArray) : join (ps.reverse.map (·.data.toList)) [] = partsOf ps := join_flat _
theorem text_l0 : ∀ (N k : Nat) (x : List Int) (ps : List ByteArray), Limbs x → x.length ≤ 100000 → val x < 1000000000 ^ N → 1 ≤ N → 2 * N + ps.length + 5 ≤ k → N + ps.length ≤ 10000 → (partsOf ps).length ≤ 9 * ps.length →
    n_Text.l0 k x ps = some (bytesOf (decDigits (val x).toNat ++ partsOf ps))
  | 0, _, _, _, _, _, _, h1, _, _, _ => by omega
  | N + 1, 0, _, _, _, _, _, _, hk, _, _ => by omega
  | N + 1, k + 1, x, ps, hx, hlen, hv, _, hk, hN, hp => by
    simp only [n_Text.l0]
    obtain ⟨q, hq, nq, ql⟩ := small_f x hx (by omega) 1000000000 (by omega) (by omega)
    have v0 := val_nonneg hx
    have hr0 : 0 ≤ val x % 1000000000 := Int.emod_nonneg _ (by omega)
    have hr1 : val x % 1000000000 < 1000000000 := Int.emod_lt_of_pos _ (by omega)
    obtain ⟨r, hr⟩ : ∃ r : Nat, val x % 1000000000 = (r : Int) := ⟨(val x % 1000000000).toNat, by omega⟩
    have hr9 : r < 10 ^ 9 := by omega
    have hl9 := dec_len_le 9 r (by omega) hr9
    have hl1 : 1 ≤ (decDigits r).length := by
      rcases Nat.eq_zero_or_pos (decDigits r).length with h0 | h0
      · exact absurd (List.eq_nil_of_length_eq_zero h0) (dec_ne r)
      · exact h0
    rw [hq, zOb, hr, w64 (by omega) (by omega)]
    have hit : strconv_Itoa_74.f (r : Int) = some (bytesOf (decDigits r)) := by
      unfold strconv_Itoa_74.f
      rw [if_pos (by omega), if_pos (by omega), itoa_dec _ (by omega)]
      rfl
    rw [hit, zOb]
    have hqv := nq.eq
    have hqr : val x = val q * 1000000000 + (r : Int) := by rw [hqv]; omega
    have hq0 := nq.nonneg
    by_cases hz : (q.length : Int) = 0
    · have hq' : q = [] := List.eq_nil_of_length_eq_zero (by omega)
      have hvq : val q = 0 := by rw [hq']; rfl
      rw [if_pos hz, if_pos (by omega), rev_f _ (by simp; omega) k (by simp; omega), zOb]
      unfold strings_Join.f
      rw [show ((⟨#[]⟩ : ByteArray)).data.toList = [] from rfl, partsOf_rev, partsOf_snoc, bytesOf_list, if_pos (by simp; omega), if_pos (by simp; omega), zOb]
      rw [hqr, hvq, show ((0 : Int) * 1000000000 + (r : Int)).toNat = r by omega]
      rfl
    · have hqpos : 1 ≤ val q := by
        rcases Int.lt_or_le 0 (val q) with h | h
        · omega
        · exact absurd (nq.unique (show IsNum [] (val x / 1000000000) from ⟨Limbs.nil, .inl rfl, by rw [← hqv]; show (0 : Int) = val q; omega⟩)) (by intro h0; rw [h0] at hz; exact hz rfl)
      rw [if_neg hz, bytesOf_size, w64 (by omega) (by omega)]
      unfold strings_Repeat.f
      have hsub : ((9 - ((decDigits r).length : Int))).toNat = 9 - (decDigits r).length := by omega
      rw [if_pos (by omega), if_pos (by omega), if_pos (by rw [hsub]; show 1 * _ ≤ _; omega), zOb, hsub]
      rw [show ((⟨#[48]⟩ : ByteArray)).data.toList = [48] from rfl, repeat48]
      obtain ⟨z, hzz⟩ : ∃ z : ByteArray, z = (⟨(List.replicate (9 - (decDigits r).length) (48 : UInt8)).toArray⟩ : ByteArray) := ⟨_, rfl⟩
      have hzl : z.data.toList = List.replicate (9 - (decDigits r).length) 48 := by rw [hzz]
      have hzs : z.size = 9 - (decDigits r).length := by rw [hzz]; show (List.replicate _ _).toArray.size = _; simp
      rw [← hzz, if_pos (by rw [hzs]; omega), if_pos (by omega)]
      have hap : (z ++ bytesOf (decDigits r)).data.toList = padD 9 r := by rw [ByteArray.toList_data_append, hzl, bytesOf_list, padD_dec 9 r (by omega) hr9]
      have hqN : val q < 1000000000 ^ N := by
        rw [hqv]
        refine Int.ediv_lt_of_lt_mul (by omega) ?_
        rw [Int.pow_succ] at hv
        exact hv
      have hN1 : 1 ≤ N := by
        rcases Nat.eq_zero_or_pos N with h0 | h0
        · subst h0; simp at hqN; omega
        · exact h0
      have hpl : (padD 9 r).length = 9 := by rw [padD_dec 9 r (by omega) hr9]; simp; omega
      rw [text_l0 N k q (ps ++ [z ++ bytesOf (decDigits r)]) nq.limbs (by omega) hqN hN1 (by simp; omega) (by simp; omega) (by rw [partsOf_snoc, hap]; simp [hpl]; omega), partsOf_snoc, hap]
      congr 2
      rw [← List.append_assoc]
      congr 1
      rw [← dec_pad (val q).toNat (by omega) 9 r hr9]
      congr 1
      omega
theorem pow_mono_nat (a b n : Nat) (h : a ≤ b) : (a : Int) ^ n ≤ (b : Int) ^ n := by
  rw [← Int.natCast_pow, ← Int.natCast_pow]
  exact Int.ofNat_le.2 (Nat.pow_le_pow_left h n)
theorem pow_limbs (n : Nat) : (4294967296 : Int) ^ n ≤ 1000000000 ^ (2 * n) := by
  rw [Int.pow_mul]
  exact pow_mono_nat 4294967296 1000000000000000000 n (by decide)
theorem text_f (l : List Int) (hl : Limbs l) (hlen : l.length ≤ 600) (k : Nat) (hk : 5000 ≤ k) : n_Text.f k l = some (bytesOf (decDigits (val l).toNat)) := by
  unfold n_Text.f
  have hc := cut_length l
  rw [cut_f, zOb, text_l0 (2 * l.length + 1) k (cut l) [] (cut_limbs hl) (by omega) ?_ (by omega) (by simp; omega) (by simp; omega) (by simp [partsOf]), cut_val]
  · simp [partsOf]
  · rw [cut_val]
    have h1 := val_lt hl
    have h2 := pow_limbs l.length
    have h3 : (1000000000 : Int) ^ (2 * l.length) ≤ 1000000000 ^ (2 * l.length + 1) := by rw [Int.pow_succ]; have : (0 : Int) < 1000000000 ^ (2 * l.length) := Int.pow_pos (by decide); omega
    omega
theorem strOfNums_eq (l : List UInt8) : strOfNums (l.map fun c => ((c.toNat : Nat) : Int)) = bytesOf l := by
  refine ByteArray.ext ?_
  have := strOfNums_data (l.map fun c => ((c.toNat : Nat) : Int))
  refine Array.toList_inj.1 ?_
  rw [this, bytesOf_list, List.map_map]
  refine (List.map_congr_left fun c _ => ?_).trans (List.map_id l)
  simp [UInt8.ofNat_toNat]
theorem rtext_l0 : ∀ (k : Nat) (N : Nat) (x : List Int) (v : Int) (out : List UInt8), IsNum x v → x.length ≤ 20 → v < 10 ^ N → N + 20000 < k → out.length + N ≤ 1000000 →
    r1_Text.l0 k x (out.map fun c => ((c.toNat : Nat) : Int)) = some (bytesOf (decE v.toNat ++ out))
  | 0, _, _, _, _, _, _, _, _, _ => by omega
  | k + 1, N, x, v, out, hx, hl, hN, hk, ho => by
    simp only [r1_Text.l0]
    have v0 := hx.nonneg
    by_cases hp : (x.length : Int) > 0
    · rw [if_pos hp]
      have hvp : 0 < v := by rw [← hx.eq]; exact val_pos hx.limbs hx.trim (by intro h0; rw [h0] at hp; simp at hp)
      have hN1 : 1 ≤ N := by
        rcases Nat.eq_zero_or_pos N with h0 | h0
        · subst h0; simp at hN; omega
        · exact h0
      have L10 : Limbs [10] := Limbs.mk (by omega) (by omega) Limbs.nil
      have v10 : val [10] = 10 := by decide
      rcases rdivmod_f x [10] hx.limbs L10 hl (by simp) k (by omega) with ⟨h0, _⟩ | ⟨_, q, r, e, nq, nr⟩
      · rw [v10] at h0; omega
      · rw [hx.eq, v10] at nq nr
        have hr0 : 0 ≤ v % 10 := Int.emod_nonneg _ (by omega)
        have hr1 : v % 10 < 10 := Int.emod_lt_of_pos _ (by omega)
        have hql : q.length ≤ x.length := by
          refine len_of_lt nq (Int.lt_of_le_of_lt (Int.ediv_le_self _ v0) ?_)
          rw [← hx.eq]; exact val_ltB hx.limbs
        have hdig : (v % 10).toNat = v.toNat % 10 := by omega
        have hdiv : (v / 10).toNat = v.toNat / 10 := by omega
        have hstep : decE v.toNat ++ out = decE (v / 10).toNat ++ (UInt8.ofNat (48 + v.toNat % 10) :: out) := by
          rw [decE_step v.toNat (by omega), hdiv]; simp
        have hnum : ((UInt8.ofNat (48 + v.toNat % 10)).toNat : Int) = 48 + v % 10 := by rw [digit_nat _ (by omega)]; omega
        have hqN : v / 10 < 10 ^ (N - 1) := by
          refine Int.ediv_lt_of_lt_mul (by omega) ?_
          rw [← Int.pow_succ, Nat.succ_eq_add_one, show N - 1 + 1 = N by omega]
          exact hN
        have ih := rtext_l0 k (N - 1) q (v / 10) (UInt8.ofNat (48 + v.toNat % 10) :: out) nq (by omega) hqN (by omega) (by simp; omega)
        rw [← hstep] at ih
        rw [e, zOb]
        simp only
        by_cases hrp : (r.length : Int) > 0
        · have hrv : r = [v % 10] := by
            refine nr.unique ⟨Limbs.mk hr0 (by omega) Limbs.nil, ?_, by simp [val]⟩
            refine Or.inr ?_
            have : v % 10 ≠ 0 := by
              intro h0
              rw [h0] at nr
              have := nr.unique IsNum.nil
              rw [this] at hrp
              simp at hrp
            simpa using this
          rw [if_pos hrp, if_pos hrp, zOb, if_pos (by simp; omega)]
          have hd : (48 + rd r 0 % 256) % 256 = ((UInt8.ofNat (48 + v.toNat % 10)).toNat : Int) := by
            rw [hnum, hrv]
            show (48 + v % 10 % 256) % 256 = 48 + v % 10
            omega
          rw [hd]
          exact ih
        · rw [if_neg hrp, zOb, if_pos (by simp; omega)]
          have hrn : r = [] := List.eq_nil_of_length_eq_zero (by omega)
          have hv0 : v % 10 = 0 := by rw [← nr.eq, hrn]; rfl
          have hd : (48 : Int) = ((UInt8.ofNat (48 + v.toNat % 10)).toNat : Int) := by rw [hnum, hv0]; rfl
          rw [hd]
          exact ih
    · rw [if_neg hp, strOfNums_eq]
      have hx0 : x = [] := List.eq_nil_of_length_eq_zero (by omega)
      have hv0 : v = 0 := by rw [← hx.eq, hx0]; rfl
      rw [hv0]
      rfl
theorem pow_limbs10 (n : Nat) : (4294967296 : Int) ^ n ≤ 10 ^ (10 * n) := by
  rw [Int.pow_mul]
  exact pow_mono_nat 4294967296 10000000000 n (by decide)
theorem rtext_f (l : List Int) (hl : Limbs l) (hlen : l.length ≤ 4) (k : Nat) (hk : 30000 ≤ k) : r1_Text.f k l = some (bytesOf (decDigits (val l).toNat)) := by
  unfold r1_Text.f
  have hc := cut_length l
  rw [norm_f l (by omega) k (by omega), zOb]
  have hn := IsNum.cut hl
  by_cases h0 : ((cut l).length : Int) = 0
  · have hx0 : cut l = [] := List.eq_nil_of_length_eq_zero (by omega)
    have hv0 : val l = 0 := by rw [← hn.eq, hx0]; rfl
    rw [if_pos h0, hv0, show (0 : Int).toNat = 0 from rfl, dec_lt (by omega)]
    rfl
  · rw [if_neg h0]
    have hvp : 0 < val l := by rw [← hn.eq]; exact val_pos hn.limbs hn.trim (by intro h1; rw [h1] at h0; simp at h0)
    have h1 := val_lt hl
    have h2 := pow_limbs10 l.length
    have h3 := rtext_l0 k (10 * l.length) (cut l) (val l) [] hn (by omega) (by omega) (by omega) (by simp; omega)
    rw [show ([] : List UInt8).map (fun c => ((c.toNat : Nat) : Int)) = [] from rfl] at h3
    rw [h3, List.append_nil]
    unfold decE
    rw [if_neg (by omega)]
end
/- Numerals read: natural.Parse and the document's. -/
section
open Go.Lib
theorem bt_list (s : ByteArray) (i : Nat) : bt s (i : Int) = ((s.data.toList.getD i 0).toNat : Int) := by
  unfold bt
  rw [show ((i : Nat) : Int).toNat = i by omega]
  have hs : s.size = s.data.toList.length := by rw [Array.length_toList]; rfl
  split
  · rename_i h
    have hl : i < s.data.toList.length := by omega
    rw [List.getD_eq_getElem?_getD, List.getElem?_eq_getElem hl]
    simp
    rfl
  · rename_i h
    rw [List.getD_eq_getElem?_getD, List.getElem?_eq_none (by omega)]
    rfl
theorem size_list (s : ByteArray) : s.size = s.data.toList.length := by rw [Array.length_toList]; rfl
theorem dv_take_succ (l : List UInt8) (i : Nat) (h : i < l.length) : dv (l.take (i + 1)) = dv (l.take i) * 10 + ((l.getD i 0).toNat - 48) := by
  rw [List.take_add_one, List.getElem?_eq_getElem h, List.getD_eq_getElem?_getD, List.getElem?_eq_getElem h]
  exact dv_snoc _ _
theorem dv_lt (l : List UInt8) (i : Nat) (hd : ∀ j, j < i → IsDigit (l.getD j 0)) : i ≤ l.length → dv (l.take i) < 10 ^ i := by
  induction i with
  | zero => intro _; simp [dv]
  | succ i ih =>
    intro h
    have h1 := ih (fun j hj => hd j (by omega)) (by omega)
    have h2 := hd i (by omega)
    unfold IsDigit at h2
    rw [dv_take_succ l i (by omega), Nat.pow_succ]
    omega
theorem pow10_B (i : Nat) : (10 : Int) ^ i ≤ Bp i := by
  unfold Bp
  have h : ((10 : Nat) : Int) ^ i ≤ ((4294967296 : Nat) : Int) ^ i := by
    rw [← Int.natCast_pow, ← Int.natCast_pow]
    exact Int.ofNat_le.2 (Nat.pow_le_pow_left (by decide) i)
  exact h
theorem len_of_dv {x : List Int} {l : List UInt8} {i : Nat} (hx : IsNum x (dv (l.take i) : Nat)) (hd : ∀ j, j < i → IsDigit (l.getD j 0)) (hi : i ≤ l.length) : x.length ≤ i := by
  refine len_of_lt hx (Int.lt_of_lt_of_le ?_ (pow10_B i))
  have h := dv_lt l i hd hi
  have h2 : ((dv (l.take i) : Nat) : Int) < ((10 ^ i : Nat) : Int) := Int.ofNat_lt.2 h
  rw [Int.natCast_pow] at h2
  exact h2
theorem one_num (d : Int) (h0 : 0 ≤ d) (h1 : d < 4294967296) : Limbs [d] ∧ val [d] = d := ⟨Limbs.mk h0 h1 Limbs.nil, by simp [val]⟩
theorem ofd_num (d : Int) (h0 : 0 ≤ d) (h1 : d < 4294967296) : IsNum (of2 d) d ∧ (of2 d).length ≤ 2 := by
  have hl : Limbs [d % 4294967296, d / 4294967296] := Limbs.mk (by omega) (by omega) (Limbs.mk (by omega) (by omega) Limbs.nil)
  have hv : val [d % 4294967296, d / 4294967296] = d := by simp [val]; omega
  exact ⟨by have := IsNum.cut hl; rw [hv] at this; exact this, cut_length _⟩
/-- What reading tells of the bytes from i on. -/
def Tells (l : List UInt8) (i : Nat) (o : Option (List Int × Int)) : Prop :=
  ((∀ j, i ≤ j → j < l.length → IsDigit (l.getD j 0)) → ∃ r, o = some (r, 0) ∧ IsNum r (dv l : Nat)) ∧ ((∃ j, i ≤ j ∧ j < l.length ∧ ¬ IsDigit (l.getD j 0)) → o = some ([], 2))
theorem tells_end {l : List UInt8} {x : List Int} (hx : IsNum x (dv (l.take l.length) : Nat)) {i : Nat} (hi : l.length ≤ i) : Tells l i (some (x, 0)) := by
  rw [List.take_length] at hx
  exact ⟨fun _ => ⟨x, rfl, hx⟩, fun ⟨j, h1, h2, _⟩ => by omega⟩
theorem tells_bad {l : List UInt8} {i : Nat} (hi : i < l.length) (h : ¬ IsDigit (l.getD i 0)) : Tells l i (some ([], 2)) :=
  ⟨fun h1 => absurd (h1 i (Nat.le_refl _) hi) h, fun _ => rfl⟩
theorem tells_step {l : List UInt8} {i : Nat} {o : Option (List Int × Int)} (h : IsDigit (l.getD i 0)) (ho : Tells l (i + 1) o) : Tells l i o :=
  ⟨fun h1 => ho.1 (fun j hj => h1 j (by omega)), fun ⟨j, h1, h2, h3⟩ => ho.2 ⟨j, by rcases Nat.lt_or_ge i j with h4 | h4; · exact h4
                                                                                    · exact absurd (show IsDigit (l.getD j 0) by rw [show j = i by omega]; exact h) h3, h2, h3⟩⟩
theorem parse_l (k : Nat) (s : ByteArray) (l : List UInt8) (hs : s.data.toList = l) (hl : l.length ≤ 6000) (hk : 100000 ≤ k) : ∀ (d i : Nat) (x : List Int), i ≤ l.length → l.length - i < d → (∀ j, j < i → IsDigit (l.getD j 0)) → IsNum x (dv (l.take i) : Nat) →
    Tells l i (n_Parse.l k s d x (i : Int))
  | 0, i, x, hi, hd, hdig, hx => by omega
  | d + 1, i, x, hi, hd, hdig, hx => by
    have hsz := size_list s
    rw [hs] at hsz
    simp only [n_Parse.l]
    by_cases hlt : i < l.length
    · rw [if_pos (by omega), if_pos (by omega), bt_list, hs]
      by_cases c1 : ((l.getD i 0).toNat : Int) < 48
      · rw [if_pos c1]
        exact tells_bad hlt (fun h => by unfold IsDigit at h; omega)
      · rw [if_neg c1]
        by_cases c2 : ((l.getD i 0).toNat : Int) > 57
        · rw [if_pos c2]
          exact tells_bad hlt (fun h => by unfold IsDigit at h; omega)
        · rw [if_neg c2]
          have hdg : IsDigit (l.getD i 0) := by unfold IsDigit; omega
          have hxl := len_of_dv hx hdig hi
          obtain ⟨L10, v10⟩ := one_num 10 (by omega) (by omega)
          obtain ⟨m, hm, nm, ml⟩ := mul_f x [10] hx.limbs L10 (by simp; omega) k (by simp; omega)
          rw [hx.eq, v10] at nm
          have hml : m.length ≤ x.length + 1 := ml
          clear ml
          obtain ⟨n1, n2⟩ := ofd_num (((l.getD i 0).toNat : Int) - 48) (by omega) (by omega)
          obtain ⟨a, ha, na, al⟩ := add_f m (of2 (((l.getD i 0).toNat : Int) - 48)) nm.limbs n1.limbs (by omega) (by omega) k (by omega) (by omega)
          rw [nm.eq, n1.eq] at na
          rw [hm, zOb, of_f _ (by omega) (by omega), zOb, ha, zOb, w64 (by omega) (by omega), show ((i : Int) + 1) = ((i + 1 : Nat) : Int) by omega]
          refine tells_step hdg (parse_l k s l hs hl hk d (i + 1) a (by omega) (by omega) (fun j hj => ?_) ?_)
          · rcases Nat.lt_or_ge j i with h | h
            · exact hdig j h
            · rw [show j = i by omega]; exact hdg
          · rw [dv_take_succ l i hlt]
            have e : ((dv (l.take i) * 10 + ((l.getD i 0).toNat - 48) : Nat) : Int) = (dv (l.take i) : Nat) * 10 + (((l.getD i 0).toNat : Int) - 48) := by omega
            rw [e]
            exact na
    · rw [if_neg (by omega)]
      refine tells_end ?_ (by omega)
      rw [show i = l.length by omega] at hx
      exact hx
theorem getD_digit {l : List UInt8} : (∀ j, 0 ≤ j → j < l.length → IsDigit (l.getD j 0)) ↔ ∀ c ∈ l, IsDigit c := by
  constructor
  · intro h c hc
    obtain ⟨i, hi, rfl⟩ := List.getElem_of_mem hc
    have := h i (by omega) hi
    rw [List.getD_eq_getElem?_getD, List.getElem?_eq_getElem hi] at this
    exact this
  · intro h j _ hj
    rw [List.getD_eq_getElem?_getD, List.getElem?_eq_getElem hj]
    exact h _ (List.getElem_mem hj)
theorem bad_digit {l : List UInt8} (h : ¬ ∀ c ∈ l, IsDigit c) : ∃ j, 0 ≤ j ∧ j < l.length ∧ ¬ IsDigit (l.getD j 0) := by
  rcases Classical.em (∃ j, 0 ≤ j ∧ j < l.length ∧ ¬ IsDigit (l.getD j 0)) with h1 | h1
  · exact h1
  · refine absurd (getD_digit.1 fun j h0 hj => ?_) h
    rcases Classical.em (IsDigit (l.getD j 0)) with h2 | h2
    · exact h2
    · exact absurd ⟨j, h0, hj, h2⟩ h1
/-- A whole text, read: a numeral's number, or that it is none. -/
def Reads (l : List UInt8) (o : Option (List Int × Int)) : Prop := (Numeral l → ∃ r, o = some (r, 0) ∧ IsNum r (dv l : Nat)) ∧ (¬ Numeral l → o = some ([], 2))
theorem reads_of_tells {l : List UInt8} {o : Option (List Int × Int)} (h0 : l ≠ []) (h1 : ¬ (1 < l.length ∧ ((l.getD 0 0).toNat : Int) = 48)) (h : Tells l 0 o) : Reads l o := by
  have hh : 1 < l.length → l.getD 0 0 ≠ 48 := fun h2 h3 => h1 ⟨h2, by rw [h3]; rfl⟩
  refine ⟨fun hn => h.1 (getD_digit.2 hn.2.1), fun hn => h.2 (bad_digit fun hd => hn ⟨h0, hd, hh⟩)⟩
theorem reads_bad {l : List UInt8} (h : l = [] ∨ (1 < l.length ∧ ((l.getD 0 0).toNat : Int) = 48)) : Reads l (some ([], 2)) := by
  refine ⟨fun hn => ?_, fun _ => rfl⟩
  rcases h with h | ⟨h1, h2⟩
  · exact absurd h hn.1
  · refine absurd (UInt8.toNat_inj.1 ?_) (hn.2.2 h1)
    show (l.getD 0 0).toNat = 48
    omega
theorem parse_f (s : ByteArray) (hl : s.size ≤ 6000) (k : Nat) (hk : 100000 ≤ k) : Reads s.data.toList (n_Parse.f k s) := by
  have hsz := size_list s
  unfold n_Parse.f
  have hb := bt_list s 0
  rw [show ((0 : Nat) : Int) = 0 from rfl] at hb
  by_cases c0 : s.size = 0
  · rw [if_pos c0]
    exact reads_bad (.inl (List.eq_nil_of_length_eq_zero (by omega)))
  · rw [if_neg c0, hb]
    by_cases c1 : 1 < s.size ∧ ((s.data.toList.getD 0 0).toNat : Int) = 48
    · rw [if_pos c1]
      exact reads_bad (.inr ⟨by omega, c1.2⟩)
    · rw [if_neg c1]
      refine reads_of_tells (fun h => by rw [h] at hsz; exact c0 hsz) (fun h => c1 ⟨by omega, h.2⟩) ?_
      exact parse_l k s _ rfl (by omega) hk (s.size + 1) 0 [] (by omega) (by omega) (fun j hj => by omega) (by simp [dv]; exact IsNum.nil)
theorem rparse_l0 (s : ByteArray) (l : List UInt8) (hs : s.data.toList = l) (hl : l.length ≤ 100) : ∀ (d i k : Nat) (x : List Int), i ≤ l.length → l.length - i < d → (∀ j, j < i → IsDigit (l.getD j 0)) → IsNum x (dv (l.take i) : Nat) → 100000 + 2 * d ≤ k →
    Tells l i (r1_Parse.l0 k s x (i : Int))
  | 0, _, _, _, hi, hd, _, _, _ => by omega
  | d + 1, _, 0, _, _, _, _, _, hk => by omega
  | d + 1, _, 1, _, _, _, _, _, hk => by omega
  | d + 1, i, k + 2, x, hi, hd, hdig, hx, hk => by
    have hsz := size_list s
    rw [hs] at hsz
    simp only [r1_Parse.l0]
    by_cases hlt : i < l.length
    · rw [if_pos (by omega), if_pos (by omega), bt_list, hs]
      by_cases c1 : ((l.getD i 0).toNat : Int) < 48
      · rw [if_pos c1]
        simp only [r1_Parse.j2, if_true]
        exact tells_bad hlt (fun h => by unfold IsDigit at h; omega)
      · rw [if_neg c1]
        by_cases c2 : ((l.getD i 0).toNat : Int) > 57
        · rw [decide_eq_true c2]
          simp only [r1_Parse.j2, if_true]
          exact tells_bad hlt (fun h => by unfold IsDigit at h; omega)
        · rw [decide_eq_false c2]
          simp only [r1_Parse.j2, Bool.false_eq_true, if_false]
          have hdg : IsDigit (l.getD i 0) := by unfold IsDigit; omega
          have hxl := len_of_dv hx hdig hi
          obtain ⟨L10, v10⟩ := one_num 10 (by omega) (by omega)
          obtain ⟨m, hm, nm⟩ := rmul_f x [10] hx.limbs L10 (by omega) (by simp) k (by simp; omega)
          rw [hx.eq, v10] at nm
          have hmv : (dv (l.take i) * 10 : Int) < 10 ^ (i + 1) := by
            have h := dv_lt l i hdig hi
            have h2 : ((dv (l.take i) * 10 : Nat) : Int) < ((10 ^ (i + 1) : Nat) : Int) := Int.ofNat_lt.2 (by rw [Nat.pow_succ]; omega)
            rw [Int.natCast_pow] at h2
            exact h2
          have hml : m.length ≤ i + 1 := len_of_lt nm (Int.lt_of_lt_of_le hmv (pow10_B _))
          obtain ⟨n1, n2⟩ := one_num (((l.getD i 0).toNat : Int) - 48) (by omega) (by omega)
          obtain ⟨a, ha, na⟩ := radd_f m [((l.getD i 0).toNat : Int) - 48] nm.limbs n1 (by omega) (by simp) k (by simp; omega)
          rw [nm.eq, n2] at na
          rw [hm, zOb, if_pos (by omega), if_pos (by omega), bt_list, hs, show (((l.getD i 0).toNat : Int) - 48) % 256 = ((l.getD i 0).toNat : Int) - 48 by omega, ha, zOb, w64 (by omega) (by omega), show ((i : Int) + 1) = ((i + 1 : Nat) : Int) by omega]
          refine tells_step hdg (rparse_l0 s l hs hl d (i + 1) k a (by omega) (by omega) (fun j hj => ?_) ?_ (by omega))
          · rcases Nat.lt_or_ge j i with h | h
            · exact hdig j h
            · rw [show j = i by omega]; exact hdg
          · rw [dv_take_succ l i hlt]
            have e : ((dv (l.take i) * 10 + ((l.getD i 0).toNat - 48) : Nat) : Int) = (dv (l.take i) : Nat) * 10 + (((l.getD i 0).toNat : Int) - 48) := by omega
            rw [e]
            exact na
    · rw [if_neg (by omega)]
      refine tells_end ?_ (by omega)
      rw [show i = l.length by omega] at hx
      exact hx
theorem rparse_f (s : ByteArray) (hl : s.size ≤ 100) (k : Nat) (hk : 110000 ≤ k) : Reads s.data.toList (r1_Parse.f k s) := by
  have hsz := size_list s
  have hb := bt_list s 0
  rw [show ((0 : Nat) : Int) = 0 from rfl] at hb
  obtain ⟨m, rfl⟩ : ∃ m, k = m + 1 := ⟨k - 1, by omega⟩
  unfold r1_Parse.f
  by_cases c0 : s.size = 0
  · rw [if_pos (by omega)]
    simp only [r1_Parse.j0, if_true]
    exact reads_bad (.inl (List.eq_nil_of_length_eq_zero (by omega)))
  · rw [if_neg (by omega), hb]
    have main : ¬ (1 < s.data.toList.length ∧ ((s.data.toList.getD 0 0).toNat : Int) = 48) → Reads s.data.toList (r1_Parse.l0 m s [] 0) := fun c1 => by
      refine reads_of_tells (fun h => by rw [h] at hsz; exact c0 hsz) c1 ?_
      exact rparse_l0 s _ rfl (by omega) (s.size + 1) 0 m [] (by omega) (by omega) (fun j hj => by omega) (by simp [dv]; exact IsNum.nil) (by omega)
    by_cases c2 : (s.size : Int) > 1
    · rw [if_pos c2, if_pos (by omega)]
      by_cases c3 : ((s.data.toList.getD 0 0).toNat : Int) = 48
      · rw [beq_iff_eq.mpr c3]
        simp only [r1_Parse.j0, if_true]
        exact reads_bad (.inr ⟨by omega, c3⟩)
      · rw [beq_eq_false_iff_ne.mpr c3]
        simp only [r1_Parse.j0, Bool.false_eq_true, if_false]
        exact main (fun h => c3 h.2)
    · rw [if_neg c2]
      simp only [r1_Parse.j0, Bool.false_eq_true, if_false]
      exact main (fun h => by omega)
end
end Go.Proofs.YtnjmnicgknggfaaDoor.E
