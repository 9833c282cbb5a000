/- Lemmas for the statement: the walks of the functions that it reaches, and plain laws. -/
import Derived.Test.YtnjmnicgknggfaaDoorEm1
import Derived.Test.YtnjmnicgknggfaaDoorEm2
import Derived.KernelRfl
import Derived.OpenShut
import Derived.Test.YtnjmnicgknggfaaDoorEm4
import Derived.Test.YtnjmnicgknggfaaDoorEm3
import Derived.Lib.ItoaNum
import Derived.Lib.Repeat
import Derived.Lib.Join
set_option linter.unusedVariables false
set_option linter.unusedSimpArgs false
namespace Go.Proofs.YtnjmnicgknggfaaDoor.E
open Go Go.RowKit Go.Proofs.YtnjmnicgknggfaaDoorW.PrintWords Go.Proofs.YtnjmnicgknggfaaDoorW.PrintLast Go.Proofs.YtnjmnicgknggfaaDoorW.PrintMore
attribute [local go_sem] max2_int min2_int max_two min_two max_three min_three max_four min_four
open Go.Proofs.YtnjmnicgknggfaaDoorW.PrintWords.Kd renaming R_alloc → zRa, R_drewN → zRn, R_drew → zRd, V_alloc → zVa, V_drewN → zVn, V_drew → zVd, V_below → zVb, C_alloc → zCa, C_drewN → zCn, C_drew → zCd, R_mono → zRm, V_mono → zVm, at_int → zAi, R_elder' → zRe, R_lower → zRl, R_new' → zRw, R_lt → zRt, R_below → zRb, R_base → zRz, R_reads' → zRr, R_slice → zRs, V_elder' → zVe, V_lower → zVl, V_slice → zVs, V_reads' → zVr
open Go.Proofs.YtnjmnicgknggfaaDoorW.PrintWords renaming pw_below_drewN → zBn, below_alloc → zBa, below_drew1 → zBd, below_size → zBs, below_step → zBt, blk_drewN → zKn, blk_drew → zKd, blk_alloc → zKa, blk_below → zKb, blk_cell → zKc, blk_frozen → zKf
open List renaming setIfInBounds_toArray → zSa, set_cons_zero → zSb, set_cons_succ → zSc, length_drop → zLd, length_take → zLt, map_toArray → zMa, map_cons → zMc, map_nil → zMn, length_cons → zLc, length_nil → zLn
open Go.Proofs.YtnjmnicgknggfaaDoorW.PrintWords.Aside0 renaming mk → zMk
open Option renaming bind_eq_some_iff → zBi, bind_some → zOb
open Option.some renaming inj → zOi
open Int renaming toNat_natCast → zTn

def integer_Add.f (k : Nat) (a0_0 : Bool) (l0_1 : List Int) (a1_0 : Bool) (l1_1 : List Int) : Option (Bool × List Int) := if (a0_0 == a1_0) = true then ((n_Add.f k l0_1 l1_1).bind fun t852 => ((integer_signed.f a0_0 t852).bind fun bt855 => (some (bt855.1, bt855.2)))) else ((n_Sub.f k l0_1 l1_1).bind fun bt859 => (if bt859.2 = 0 then ((integer_signed.f a0_0 bt859.1).bind fun bt863 => (some (bt863.1, bt863.2))) else ((n_Sub.f k l1_1 l0_1).bind fun bt867 => ((integer_signed.f a1_0 bt867.1).bind fun bt871 => (some (bt871.1, bt871.2))))))
def integer_Add.T2 : Bool × List (List Nat × List Nat) := (true, [([], []), ([0], [0]), ([], []), ([2], [2]), ([], []), ([4], [4]), ([3, 5], [3, 5]), ([1, 6, 6], [1, 6]), ([7, 7, 0, 1, 2, 3, 4, 5, 6, 7], [7])])
def integer_Add.B2 : List Nat := [0, 1, 0, 4, 0, 16, 60, 127, 255]
theorem integer_Add.tab2 : rtab .any (opsOf Tryd.f17 2) = integer_Add.T2 := by kernel_rfl
theorem integer_Add.bits2 : waitsOk integer_Add.T2.2 integer_Add.B2 = true := by kernel_rfl
set_option maxHeartbeats 8000000 in
set_option maxRecDepth 100000 in
theorem integer_Add.calls (k : Nat) (a0_0 : Bool) (A0_1 : Option Addr) (c0_1 : Nat) (l0_1 : List Int) (a1_0 : Bool) (A1_1 : Option Addr) (c1_1 : Nat) (l1_1 : List Int) (r1 : Bool) (r2 : List Int) (w : World) (hr0_1 : Kd.C (Kd.int .u32) w A0_1 l0_1.length l0_1) (hc0_1 : l0_1.length ≤ c0_1) (hr1_1 : Kd.C (Kd.int .u32) w A1_1 l1_1.length l1_1) (hc1_1 : l1_1.length ≤ c1_1) (h : integer_Add.f k a0_0 l0_1 a1_0 l1_1 = some (r1, r2)) :
    Calls Tryd.prog 17 #[.agg #[.bool a0_0, .slice A0_1 l0_1.length c0_1], .agg #[.bool a1_0, .slice A1_1 l1_1.length c1_1]] w fun e w' => ∃ v1_ : Value, e = .returned (.agg #[.bool r1, v1_]) ∧ Kd.R (Kd.int .u32) 58 w' w.heap.size (fun _ => True) v1_ r2 ∧ Below w.heap.size w w' := by
  have hu24 := Tryd.underlying24
  have HR0_1 := zMk hr0_1
  have HC0_1 := zMk hc0_1
  clear hr0_1 hc0_1
  have HR1_1 := zMk hr1_1
  have HC1_1 := zMk hc1_1
  clear hr1_1 hc1_1
  have HB := zMk (Below.refl w.heap.size w)
  have H : (if (a0_0 == a1_0) = true then ((n_Add.f k l0_1 l1_1).bind fun t852 => ((integer_signed.f a0_0 t852).bind fun bt855 => (some (bt855.1, bt855.2)))) else ((n_Sub.f k l0_1 l1_1).bind fun bt859 => (if bt859.2 = 0 then ((integer_signed.f a0_0 bt859.1).bind fun bt863 => (some (bt863.1, bt863.2))) else ((n_Sub.f k l1_1 l0_1).bind fun bt867 => ((integer_signed.f a1_0 bt867.1).bind fun bt871 => (some (bt871.1, bt871.2))))))) = some (r1, r2) := h
  clear h
  by_cases c3 : (a0_0 == a1_0) = true
  · rw [if_pos c3] at H
    have c3b0 : (a0_0 == a1_0) = true := c3
    (try (have c3b1 : decide (a0_0 = a1_0) = true := by simpa using c3))
    (try (have c3b2 : (a0_0 == a1_0) = true := by simpa using c3))
    clear c3
    replace H := bnd H
    obtain ⟨t852, A40, H⟩ := H
    have A4 := zMk A40
    clear A40
    replace H := bnd H
    obtain ⟨⟨t855, t856⟩, A50, H⟩ := H
    replace H : (some (t855, t856)) = some (r1, r2) := H
    have A5 := zMk A50
    clear A50
    simp only [Option.some.injEq, Prod.mk.injEq] at H
    obtain ⟨rfl, rfl⟩ := H
    go_enter Tryd.func17, Tryd.ntmps17
    try go_wp2_with (first |  ((with_reducible refine gate_dst (N := 2) rfl ?_); refine box_event ?hg (N := 2) ?hd (cs := #[.bool a0_0, .slice A0_1 l0_1.length c0_1]) (t := 24) ?hr ?_; (case hd => rfl); (case hg => rfl); (case hr => first |  (go_simp; done)|  (go_simp; rfl)|  (go_simp; rw [show ∀ x : Int, IntKind.u32.wrap (IntKind.u8.wrap x) = x % 256 from fun x => (by show (x % 256) % 4294967296 = x % 256; omega)])); intro gb849 hg w6 hbox hb; have BK849 := zMk (hbox); have GW849 := zMk ((by rw [hg]; exact (zBs (by exact uT HB.out)) : w.heap.size ≤ gb849)); have GE849 := zMk ((by rw [hg]; exact (zBs (by exact uT HB.out)) : w.heap.size ≤ gb849)); have IGE849 := ownGe GE849.out; replace HB := zMk (zBt (by exact uT HB.out) hb); clear hb hbox hg)|  ((with_reducible refine gate_dst (N := 3) rfl ?_); refine box_event ?hg (N := 3) ?hd (cs := #[.bool a1_0, .slice A1_1 l1_1.length c1_1]) (t := 24) ?hr ?_; (case hd => rfl); (case hg => rfl); (case hr => first |  (go_simp; done)|  (go_simp; rfl)|  (go_simp; rw [show ∀ x : Int, IntKind.u32.wrap (IntKind.u8.wrap x) = x % 256 from fun x => (by show (x % 256) % 4294967296 = x % 256; omega)])); intro gb850 hg w7 hbox hb; have BK850 := zMk (hbox); have GW850 := zMk ((by rw [hg]; exact (zBs (by exact uT HB.out)) : w.heap.size ≤ gb850)); have GE850 := zMk ((by rw [hg]; exact (zBs (by exact uT HB.out)) : w.heap.size ≤ gb850)); have IGE850 := ownGe GE850.out; replace HB := zMk (zBt (by exact uT HB.out) hb); have NB849_850 := zMk ((by rw [hg]; exact Nat.ne_of_lt (blk_lt (g := gb849) (o := .cells #[.bool a0_0, .slice A0_1 l0_1.length c0_1] 24 (0, 0)) (by (with_reducible repeat (first |  refine zKn ?_ _|  refine zKd ?_|  refine zKa ?_ _)); exact BK849.out)) : gb849 ≠ gb850)); have NB850_849 := zMk ((by rw [hg]; exact Nat.ne_of_gt (blk_lt (g := gb849) (o := .cells #[.bool a0_0, .slice A0_1 l0_1.length c0_1] 24 (0, 0)) (by (with_reducible repeat (first |  refine zKn ?_ _|  refine zKd ?_|  refine zKa ?_ _)); exact BK849.out)) : gb850 ≠ gb849)); replace BK849 := zMk (zKb (g := gb849) (o := .cells #[.bool a0_0, .slice A0_1 l0_1.length c0_1] 24 (0, 0)) (by (with_reducible repeat (first |  refine zKn ?_ _|  refine zKd ?_|  refine zKa ?_ _)); exact BK849.out) hb); clear hb hbox hg)|  ((with_reducible refine gate_dst (N := 4) rfl ?_); refine box_event ?hg (N := 4) ?hd (cs := #[.bool false, .slice none 0 0]) (t := 24) ?hr ?_; (case hd => rfl); (case hg => rfl); (case hr => first |  (go_simp; done)|  (go_simp; rfl)|  (go_simp; rw [show ∀ x : Int, IntKind.u32.wrap (IntKind.u8.wrap x) = x % 256 from fun x => (by show (x % 256) % 4294967296 = x % 256; omega)])); intro gb851 hg w8 hbox hb; have BK851 := zMk (hbox); have GW851 := zMk ((by rw [hg]; exact (zBs (by exact uT HB.out)) : w.heap.size ≤ gb851)); have GE851 := zMk ((by rw [hg]; exact (zBs (by exact uT HB.out)) : w.heap.size ≤ gb851)); have IGE851 := ownGe GE851.out; replace HB := zMk (zBt (by exact uT HB.out) hb); have NB849_851 := zMk ((by rw [hg]; exact Nat.ne_of_lt (blk_lt (g := gb849) (o := .cells #[.bool a0_0, .slice A0_1 l0_1.length c0_1] 24 (0, 0)) (by (with_reducible repeat (first |  refine zKn ?_ _|  refine zKd ?_|  refine zKa ?_ _)); exact BK849.out)) : gb849 ≠ gb851)); have NB851_849 := zMk ((by rw [hg]; exact Nat.ne_of_gt (blk_lt (g := gb849) (o := .cells #[.bool a0_0, .slice A0_1 l0_1.length c0_1] 24 (0, 0)) (by (with_reducible repeat (first |  refine zKn ?_ _|  refine zKd ?_|  refine zKa ?_ _)); exact BK849.out)) : gb851 ≠ gb849)); replace BK849 := zMk (zKb (g := gb849) (o := .cells #[.bool a0_0, .slice A0_1 l0_1.length c0_1] 24 (0, 0)) (by (with_reducible repeat (first |  refine zKn ?_ _|  refine zKd ?_|  refine zKa ?_ _)); exact BK849.out) hb); have NB850_851 := zMk ((by rw [hg]; exact Nat.ne_of_lt (blk_lt (g := gb850) (o := .cells #[.bool a1_0, .slice A1_1 l1_1.length c1_1] 24 (0, 0)) (by (with_reducible repeat (first |  refine zKn ?_ _|  refine zKd ?_|  refine zKa ?_ _)); exact BK850.out)) : gb850 ≠ gb851)); have NB851_850 := zMk ((by rw [hg]; exact Nat.ne_of_gt (blk_lt (g := gb850) (o := .cells #[.bool a1_0, .slice A1_1 l1_1.length c1_1] 24 (0, 0)) (by (with_reducible repeat (first |  refine zKn ?_ _|  refine zKd ?_|  refine zKa ?_ _)); exact BK850.out)) : gb851 ≠ gb850)); replace BK850 := zMk (zKb (g := gb850) (o := .cells #[.bool a1_0, .slice A1_1 l1_1.length c1_1] 24 (0, 0)) (by (with_reducible repeat (first |  refine zKn ?_ _|  refine zKd ?_|  refine zKa ?_ _)); exact BK850.out) hb); clear hb hbox hg; have hnb9 := NB849_850.out; have hnc9 := NB850_849.out; have hnb10 := NB849_851.out; have hnc10 := NB851_849.out; have hcz11_0 : w8.cell? ⟨gb849, 0, none⟩ = some (.bool a0_0) := (zKc BK849.out 0).trans rfl; have hcz11_1 : w8.cell? ⟨gb849, 1, none⟩ = some (.slice A0_1 l0_1.length c0_1) := (zKc BK849.out 1).trans rfl; have hfz11_0 := zKf BK849.out 0; have hfz11_1 := zKf BK849.out 1; have hnb12 := NB850_851.out; have hnc12 := NB851_850.out; have hcz13_0 : w8.cell? ⟨gb850, 0, none⟩ = some (.bool a1_0) := (zKc BK850.out 0).trans rfl; have hcz13_1 : w8.cell? ⟨gb850, 1, none⟩ = some (.slice A1_1 l1_1.length c1_1) := (zKc BK850.out 1).trans rfl; have hfz13_0 := zKf BK850.out 0; have hfz13_1 := zKf BK850.out 1))
    replace BK849 := zMk (zKd BK849.out)
    replace BK850 := zMk (zKd BK850.out)
    replace BK851 := zMk (zKd BK851.out)
    replace HB := zMk (zBd HB.out)
    refine start_ (n := 9) (S := fun w' => w'.cell? ⟨gb849, 0, none⟩ = some (.bool a0_0) ∧ w'.cell? ⟨gb849, 1, none⟩ = some (.slice A0_1 l0_1.length c0_1) ∧ w'.cell? ⟨gb850, 0, none⟩ = some (.bool a1_0) ∧ w'.cell? ⟨gb850, 1, none⟩ = some (.slice A1_1 l1_1.length c1_1)) (ds := []) #[false, false, false, false, false, false, false, false, false] (by kernel_rfl) rfl rfl ⟨(zKc BK849.out 0).trans rfl, (zKc BK849.out 1).trans rfl, (zKc BK850.out 0).trans rfl, (zKc BK850.out 1).trans rfl⟩ (fun hHeld => ?_); refine with_tabW integer_Add.tab2 integer_Add.bits2 (fun HT_ HW_ => ?_)
    generalize w8.drew = w14 at BK849 BK850 BK851 HB hHeld ⊢
    refine pure_ (i := 0) (N := some 12) (v := ?_) (a' := ?_) #[true, false, false, false, false, false, false, false, false] rfl rfl (any_of HT_.out (by kernel_rfl)) (fun _ _ _ h => h) (Or.inl ⟨by rfl, ?_⟩) ?_ ?_
    rotate_left
    · intro w'
      go_simp
      with_reducible rfl
    rotate_left
    · simp only [Act.put, zSa, zSb, zSc, i64_w, i32_w]
      rfl
    refine pure_ (i := 2) (N := some 14) (v := ?_) (a' := ?_) #[true, false, true, false, false, false, false, false, false] rfl rfl (any_of HT_.out (by kernel_rfl)) (fun _ _ _ h => h) (Or.inl ⟨by rfl, ?_⟩) ?_ ?_
    rotate_left
    · intro w'
      go_simp
      with_reducible rfl
    rotate_left
    · simp only [Act.put, zSa, zSb, zSc, i64_w, i32_w]
      rfl
    refine pure_ (i := 4) (N := some 16) (v := ?_) (a' := ?_) #[true, false, true, false, true, false, false, false, false] rfl rfl (any_of HT_.out (by kernel_rfl)) (fun _ _ _ h => h) (Or.inl ⟨by rfl, ?_⟩) ?_ ?_
    rotate_left
    · intro w'
      go_simp
      with_reducible rfl
    rotate_left
    · simp only [Act.put, zSa, zSb, zSc, i64_w, i32_w]
      rfl
    refine take_ (i := 1) (N := some 13) (v := ?_) (a' := ?_) #[true, true, true, false, true, false, false, false, false] rfl rfl (take_ofW HT_.out HW_.out (by kernel_rfl)) (fun _ _ _ h => h) (Or.inl ⟨by rfl, ?_⟩) hHeld ?_ ?_
    rotate_left
    · rintro w' ⟨s0, s1, s2, s3⟩
      go_simp
      with_reducible rfl
    rotate_left
    · simp only [Act.put, zSa, zSb, zSc, i64_w, i32_w]
      rfl
    refine take_ (i := 3) (N := some 15) (v := ?_) (a' := ?_) #[true, true, true, true, true, false, false, false, false] rfl rfl (take_ofW HT_.out HW_.out (by kernel_rfl)) (fun _ _ _ h => h) (Or.inl ⟨by rfl, ?_⟩) hHeld ?_ ?_
    rotate_left
    · rintro w' ⟨s0, s1, s2, s3⟩
      go_simp
      with_reducible rfl
    rotate_left
    · simp only [Act.put, zSa, zSb, zSc, i64_w, i32_w]
      rfl
    refine take_ (i := 5) (N := some 17) (v := ?_) (a' := ?_) #[true, true, true, true, true, true, false, false, false] rfl rfl (take_ofW HT_.out HW_.out (by kernel_rfl)) (fun _ _ _ h => h) (Or.inl ⟨by rfl, ?_⟩) hHeld ?_ ?_
    rotate_left
    · rintro w' ⟨s0, s1, s2, s3⟩
      go_simp
      with_reducible rfl
    rotate_left
    · simp only [Act.put, zSa, zSb, zSc, i64_w, i32_w]
      rfl
    refine one_ (i := 6) (N := some 18) #[true, true, true, true, true, true, true, false, false] rfl rfl (one_of HT_.out (by kernel_rfl)) (by decide) (fun K hK => ?_)
    refine goes_ Tryd.func33 (by kernel_rfl) rfl #[.slice A0_1 l0_1.length c0_1, .slice A1_1 l1_1.length c1_1] (by rfl) rfl rfl (by (try simp only [zMa, zMc, zMn]); first | done | rfl | (simp only [zLd, zLt]; rfl)) ?_
    with_reducible refine (n_Add.calls k (fun k_ => k_ < w.heap.size) _ _ l0_1 (fun k_ => k_ < w.heap.size) _ _ l1_1 t852 _ ?side1 ?side2 A4.out).mono ?_
    (case side1 => exact Kd.V_mk HC0_1.out (Kd.F_below (Kd.C_F (Kd.heap_int .u32) HR0_1.out) (by exact uT HB.out)))
    (case side2 => exact Kd.V_mk HC1_1.out (Kd.F_below (Kd.C_F (Kd.heap_int .u32) HR1_1.out) (by exact uT HB.out)))
    rintro e w15 ⟨v853, rfl, ho0, hb⟩
    refine ⟨_, rfl, ?_⟩
    have HO854 := zMk (zVl (zVm (ok' := fun k_ => k_ ≠ gb849 ∧ k_ ≠ gb850 ∧ k_ ≠ gb851) ho0 (fun k_ hk_ => ⟨Or.elim hk_ (fun hs_ => Or.elim hs_ (fun hs_ => fun e_ => Nat.not_le.2 hs_ (by rw [e_]; exact GW849.out)) (fun hs_ => fun e_ => Nat.not_le.2 hs_ (by rw [e_]; exact GW849.out))) (fun hn_ => (Kd.freshB (g := gb849) (o := .cells #[.bool a0_0, .slice A0_1 l0_1.length c0_1] 24 (0, 0)) (by (with_reducible repeat (first | refine zKn ?_ _ | refine zKd ?_ | refine zKa ?_ _)); exact BK849.out) k_ hn_)), Or.elim hk_ (fun hs_ => Or.elim hs_ (fun hs_ => fun e_ => Nat.not_le.2 hs_ (by rw [e_]; exact GW850.out)) (fun hs_ => fun e_ => Nat.not_le.2 hs_ (by rw [e_]; exact GW850.out))) (fun hn_ => (Kd.freshB (g := gb850) (o := .cells #[.bool a1_0, .slice A1_1 l1_1.length c1_1] 24 (0, 0)) (by (with_reducible repeat (first | refine zKn ?_ _ | refine zKd ?_ | refine zKa ?_ _)); exact BK850.out) k_ hn_)), Or.elim hk_ (fun hs_ => Or.elim hs_ (fun hs_ => fun e_ => Nat.not_le.2 hs_ (by rw [e_]; exact GW851.out)) (fun hs_ => fun e_ => Nat.not_le.2 hs_ (by rw [e_]; exact GW851.out))) (fun hn_ => (Kd.freshB (g := gb851) (o := .cells #[.bool false, .slice none 0 0] 24 (0, 0)) (by (with_reducible repeat (first | refine zKn ?_ _ | refine zKd ?_ | refine zKa ?_ _)); exact BK851.out) k_ hn_))⟩)) (zBs (by exact uT HB.out)))
    replace BK849 := zMk (zKb (g := gb849) (o := .cells #[.bool a0_0, .slice A0_1 l0_1.length c0_1] 24 (0, 0)) (by (with_reducible repeat (first | refine zKn ?_ _ | refine zKd ?_ | refine zKa ?_ _)); exact BK849.out) hb)
    replace BK850 := zMk (zKb (g := gb850) (o := .cells #[.bool a1_0, .slice A1_1 l1_1.length c1_1] 24 (0, 0)) (by (with_reducible repeat (first | refine zKn ?_ _ | refine zKd ?_ | refine zKa ?_ _)); exact BK850.out) hb)
    replace BK851 := zMk (zKb (g := gb851) (o := .cells #[.bool false, .slice none 0 0] 24 (0, 0)) (by (with_reducible repeat (first | refine zKn ?_ _ | refine zKd ?_ | refine zKa ?_ _)); exact BK851.out) hb)
    replace HB := zMk (zBt (by exact uT HB.out) hb)
    (try clear hb)
    (try clear hb2)
    (try clear hk)
    (try clear hi)
    (try clear ho0)
    obtain ⟨Ao16, co16, eo16⟩ := zVs HO854.out
    (first |  subst eo16|  (injection eo16 with f1_ f2_ f3_; have f4_ := f1_.symm; have f5_ := f3_.symm; clear f1_ f2_ f3_; subst f4_; subst f5_))
    refine hK.out _ _ ⟨(zKc BK849.out 0).trans rfl, (zKc BK849.out 1).trans rfl, (zKc BK850.out 0).trans rfl, (zKc BK850.out 1).trans rfl⟩ (fun hHeld => ?_)
    clear hK K
    refine norm_ (a' := ?_) ?_ ?_
    rotate_left
    · show Act.put _ (some 18) _ = _
      simp only [Act.put, zSa, zSb, zSc, i64_w, i32_w]
      rfl
    refine one_ (i := 7) (N := some 19) #[true, true, true, true, true, true, true, true, false] rfl rfl (one_of HT_.out (by kernel_rfl)) (by decide) (fun K hK => ?_)
    refine goes_ Tryd.func36 (by kernel_rfl) rfl #[.bool a0_0, .slice Ao16 t852.length co16] (by rfl) rfl rfl (by (try simp only [zMa, zMc, zMn]); first | done | rfl | (simp only [zLd, zLt]; rfl)) ?_
    with_reducible refine (integer_signed.calls a0_0 _ _ t852 t855 t856 _ ?side1 ?side2 A5.out).mono ?_
    (case side1 => exact uC (zVr HO854.out).2.2)
    (case side2 => exact (zVr HO854.out).2.1)
    rintro e w17 ⟨v857, rfl, ho0, hb⟩
    refine ⟨_, rfl, ?_⟩
    replace HO854 := zMk (zVe (by exact uV HO854.out) (zRz ho0) hb)
    have HO858 := zMk (zRl ho0 (zBs (by exact uT HB.out)))
    replace BK849 := zMk (zKb (g := gb849) (o := .cells #[.bool a0_0, .slice A0_1 l0_1.length c0_1] 24 (0, 0)) (by (with_reducible repeat (first | refine zKn ?_ _ | refine zKd ?_ | refine zKa ?_ _)); exact BK849.out) hb)
    replace BK850 := zMk (zKb (g := gb850) (o := .cells #[.bool a1_0, .slice A1_1 l1_1.length c1_1] 24 (0, 0)) (by (with_reducible repeat (first | refine zKn ?_ _ | refine zKd ?_ | refine zKa ?_ _)); exact BK850.out) hb)
    replace BK851 := zMk (zKb (g := gb851) (o := .cells #[.bool false, .slice none 0 0] 24 (0, 0)) (by (with_reducible repeat (first | refine zKn ?_ _ | refine zKd ?_ | refine zKa ?_ _)); exact BK851.out) hb)
    replace HB := zMk (zBt (by exact uT HB.out) hb)
    (try clear hb)
    (try clear hb2)
    (try clear hk)
    (try clear hi)
    (try clear ho0)
    obtain ⟨Ao19, co19, eo19⟩ := zRs HO858.out
    (first |  subst eo19|  (injection eo19 with f1_ f2_ f3_; have f4_ := f1_.symm; have f5_ := f3_.symm; clear f1_ f2_ f3_; subst f4_; subst f5_))
    refine hK.out _ _ ⟨(zKc BK849.out 0).trans rfl, (zKc BK849.out 1).trans rfl, (zKc BK850.out 0).trans rfl, (zKc BK850.out 1).trans rfl⟩ (fun hHeld => ?_)
    clear hK K
    refine norm_ (a' := ?_) ?_ ?_
    rotate_left
    · show Act.put _ (some 19) _ = _
      simp only [Act.put, zSa, zSb, zSc, i64_w, i32_w]
      rfl
    refine one_ (i := 8) (N := none) #[true, true, true, true, true, true, true, true, true] rfl rfl (one_of HT_.out (by kernel_rfl)) (by decide) (fun K hK => ?_)
    have hs18 : w17.cell? ⟨gb851, 0, none⟩ = some (.bool false) := (zKc BK851.out 0).trans rfl
    have hfs18 := zKf BK851.out 0
    have hns18_0 := NB849_851.out
    have hns18_1 := NB850_851.out
    have hms18_0 := NB851_849.out
    have hms18_1 := NB851_850.out
    have hs20 : w17.cell? ⟨gb851, 1, none⟩ = some (.slice none 0 0) := (zKc BK851.out 1).trans rfl
    have hfs20 := zKf BK851.out 1
    have hns20_0 := NB849_851.out
    have hns20_1 := NB850_851.out
    have hms20_0 := NB851_849.out
    have hms20_1 := NB851_850.out
    refine skip_ (w1 := ?_) (by rfl) rfl ?_ ?_
    rotate_left
    · go_simp
      rfl
    refine hK.out _ _ ⟨((cell_far (p := ⟨gb851, _, none⟩) NB849_851.out _).trans (((cell_far (p := ⟨gb851, _, none⟩) NB849_851.out _).trans (hHeld.1)))), ((cell_far (p := ⟨gb851, _, none⟩) NB849_851.out _).trans (((cell_far (p := ⟨gb851, _, none⟩) NB849_851.out _).trans (hHeld.2.1)))), ((cell_far (p := ⟨gb851, _, none⟩) NB850_851.out _).trans (((cell_far (p := ⟨gb851, _, none⟩) NB850_851.out _).trans (hHeld.2.2.1)))), ((cell_far (p := ⟨gb851, _, none⟩) NB850_851.out _).trans (((cell_far (p := ⟨gb851, _, none⟩) NB850_851.out _).trans (hHeld.2.2.2))))⟩ (fun hHeld => ?_)
    clear hK K
    refine done_ (done_of HT_.out (by kernel_rfl)) ?_
    try go_wp2
    refine bodyPost_ret (results_cell_row rfl _ _ gb851 24 #[.bool t855, .slice Ao19 t856.length co19] (0, 0) _ rfl (by (with_reducible repeat (first | refine zKn ?_ _ | refine zKd ?_ | refine zKa ?_ _)); refine blk_put (cs := #[.bool t855, .slice none 0 0]) ?_ 1 _ rfl; (with_reducible repeat (first | refine zKn ?_ _ | refine zKd ?_ | refine zKa ?_ _)); refine blk_put (cs := #[.bool false, .slice none 0 0]) ?_ 0 _ rfl; (with_reducible repeat (first | refine zKn ?_ _ | refine zKd ?_ | refine zKa ?_ _)); exact BK851.out) Tryd.underlying24 rfl (by kernel_rfl)) rfl ?_
    exact ⟨_, by first | rfl | (simp [errW_none, errW_some] <;> rfl) | (simp [*, errW_none, errW_some] <;> rfl), by (with_reducible repeat (first | apply zRa | apply zRn | apply zRd)); exact zRm (Kd.R_far (p := ⟨gb851, 1, none⟩) (Kd.R_far (p := ⟨gb851, 0, none⟩) (Kd.R_types HO858.out BK851.out (by decide)) (fun _ hk => hk.2) (.bool t855)) (fun _ hk => hk.2) (.slice Ao19 t856.length co19)) (fun _ hk => trivial), by exact uT HB.out⟩
  · rw [if_neg c3] at H
    have c3b0 : (a0_0 == a1_0) = false := by simpa using c3
    (try (have c3b1 : decide (a0_0 = a1_0) = false := by simpa using c3))
    (try (have c3b2 : (a0_0 == a1_0) = false := by simpa using c3))
    (try (have c3b3 : ¬ (a0_0 = a1_0) := by simpa using c3))
    clear c3
    replace H := bnd H
    obtain ⟨⟨t859, t862⟩, A210, H⟩ := H
    replace H : (if t862 = 0 then ((integer_signed.f a0_0 t859).bind fun bt863 => (some (bt863.1, bt863.2))) else ((n_Sub.f k l1_1 l0_1).bind fun bt867 => ((integer_signed.f a1_0 bt867.1).bind fun bt871 => (some (bt871.1, bt871.2))))) = some (r1, r2) := H
    have A21 := zMk A210
    clear A210
    by_cases c22 : t862 = 0
    · rw [if_pos c22] at H
      have c22b0 : (t862 == 0) = true := beq_iff_eq.mpr c22
      have c22b1 : (t862 != 0) = false := bne_eq_false_iff_eq.mpr c22
      clear c22
      replace H := bnd H
      obtain ⟨⟨t863, t864⟩, A230, H⟩ := H
      replace H : (some (t863, t864)) = some (r1, r2) := H
      have A23 := zMk A230
      clear A230
      simp only [Option.some.injEq, Prod.mk.injEq] at H
      obtain ⟨rfl, rfl⟩ := H
      go_enter Tryd.func17, Tryd.ntmps17
      go_wp2_with (first |  ((with_reducible refine gate_dst (N := 2) rfl ?_); refine box_event ?hg (N := 2) ?hd (cs := #[.bool a0_0, .slice A0_1 l0_1.length c0_1]) (t := 24) ?hr ?_; (case hd => rfl); (case hg => rfl); (case hr => first |  (go_simp; done)|  (go_simp; rfl)|  (go_simp; rw [show ∀ x : Int, IntKind.u32.wrap (IntKind.u8.wrap x) = x % 256 from fun x => (by show (x % 256) % 4294967296 = x % 256; omega)])); intro gb849 hg w24 hbox hb; have BK849 := zMk (hbox); have GW849 := zMk ((by rw [hg]; exact (zBs (by exact uT HB.out)) : w.heap.size ≤ gb849)); have GE849 := zMk ((by rw [hg]; exact (zBs (by exact uT HB.out)) : w.heap.size ≤ gb849)); have IGE849 := ownGe GE849.out; replace HB := zMk (zBt (by exact uT HB.out) hb); clear hb hbox hg)|  ((with_reducible refine gate_dst (N := 3) rfl ?_); refine box_event ?hg (N := 3) ?hd (cs := #[.bool a1_0, .slice A1_1 l1_1.length c1_1]) (t := 24) ?hr ?_; (case hd => rfl); (case hg => rfl); (case hr => first |  (go_simp; done)|  (go_simp; rfl)|  (go_simp; rw [show ∀ x : Int, IntKind.u32.wrap (IntKind.u8.wrap x) = x % 256 from fun x => (by show (x % 256) % 4294967296 = x % 256; omega)])); intro gb850 hg w25 hbox hb; have BK850 := zMk (hbox); have GW850 := zMk ((by rw [hg]; exact (zBs (by exact uT HB.out)) : w.heap.size ≤ gb850)); have GE850 := zMk ((by rw [hg]; exact (zBs (by exact uT HB.out)) : w.heap.size ≤ gb850)); have IGE850 := ownGe GE850.out; replace HB := zMk (zBt (by exact uT HB.out) hb); have NB849_850 := zMk ((by rw [hg]; exact Nat.ne_of_lt (blk_lt (g := gb849) (o := .cells #[.bool a0_0, .slice A0_1 l0_1.length c0_1] 24 (0, 0)) (by (with_reducible repeat (first |  refine zKn ?_ _|  refine zKd ?_|  refine zKa ?_ _)); exact BK849.out)) : gb849 ≠ gb850)); have NB850_849 := zMk ((by rw [hg]; exact Nat.ne_of_gt (blk_lt (g := gb849) (o := .cells #[.bool a0_0, .slice A0_1 l0_1.length c0_1] 24 (0, 0)) (by (with_reducible repeat (first |  refine zKn ?_ _|  refine zKd ?_|  refine zKa ?_ _)); exact BK849.out)) : gb850 ≠ gb849)); replace BK849 := zMk (zKb (g := gb849) (o := .cells #[.bool a0_0, .slice A0_1 l0_1.length c0_1] 24 (0, 0)) (by (with_reducible repeat (first |  refine zKn ?_ _|  refine zKd ?_|  refine zKa ?_ _)); exact BK849.out) hb); clear hb hbox hg)|  ((with_reducible refine gate_dst (N := 4) rfl ?_); refine box_event ?hg (N := 4) ?hd (cs := #[.bool false, .slice none 0 0]) (t := 24) ?hr ?_; (case hd => rfl); (case hg => rfl); (case hr => first |  (go_simp; done)|  (go_simp; rfl)|  (go_simp; rw [show ∀ x : Int, IntKind.u32.wrap (IntKind.u8.wrap x) = x % 256 from fun x => (by show (x % 256) % 4294967296 = x % 256; omega)])); intro gb851 hg w26 hbox hb; have BK851 := zMk (hbox); have GW851 := zMk ((by rw [hg]; exact (zBs (by exact uT HB.out)) : w.heap.size ≤ gb851)); have GE851 := zMk ((by rw [hg]; exact (zBs (by exact uT HB.out)) : w.heap.size ≤ gb851)); have IGE851 := ownGe GE851.out; replace HB := zMk (zBt (by exact uT HB.out) hb); have NB849_851 := zMk ((by rw [hg]; exact Nat.ne_of_lt (blk_lt (g := gb849) (o := .cells #[.bool a0_0, .slice A0_1 l0_1.length c0_1] 24 (0, 0)) (by (with_reducible repeat (first |  refine zKn ?_ _|  refine zKd ?_|  refine zKa ?_ _)); exact BK849.out)) : gb849 ≠ gb851)); have NB851_849 := zMk ((by rw [hg]; exact Nat.ne_of_gt (blk_lt (g := gb849) (o := .cells #[.bool a0_0, .slice A0_1 l0_1.length c0_1] 24 (0, 0)) (by (with_reducible repeat (first |  refine zKn ?_ _|  refine zKd ?_|  refine zKa ?_ _)); exact BK849.out)) : gb851 ≠ gb849)); replace BK849 := zMk (zKb (g := gb849) (o := .cells #[.bool a0_0, .slice A0_1 l0_1.length c0_1] 24 (0, 0)) (by (with_reducible repeat (first |  refine zKn ?_ _|  refine zKd ?_|  refine zKa ?_ _)); exact BK849.out) hb); have NB850_851 := zMk ((by rw [hg]; exact Nat.ne_of_lt (blk_lt (g := gb850) (o := .cells #[.bool a1_0, .slice A1_1 l1_1.length c1_1] 24 (0, 0)) (by (with_reducible repeat (first |  refine zKn ?_ _|  refine zKd ?_|  refine zKa ?_ _)); exact BK850.out)) : gb850 ≠ gb851)); have NB851_850 := zMk ((by rw [hg]; exact Nat.ne_of_gt (blk_lt (g := gb850) (o := .cells #[.bool a1_0, .slice A1_1 l1_1.length c1_1] 24 (0, 0)) (by (with_reducible repeat (first |  refine zKn ?_ _|  refine zKd ?_|  refine zKa ?_ _)); exact BK850.out)) : gb851 ≠ gb850)); replace BK850 := zMk (zKb (g := gb850) (o := .cells #[.bool a1_0, .slice A1_1 l1_1.length c1_1] 24 (0, 0)) (by (with_reducible repeat (first |  refine zKn ?_ _|  refine zKd ?_|  refine zKa ?_ _)); exact BK850.out) hb); clear hb hbox hg; have hnb27 := NB849_850.out; have hnc27 := NB850_849.out; have hnb28 := NB849_851.out; have hnc28 := NB851_849.out; have hcz29_0 : w26.cell? ⟨gb849, 0, none⟩ = some (.bool a0_0) := (zKc BK849.out 0).trans rfl; have hcz29_1 : w26.cell? ⟨gb849, 1, none⟩ = some (.slice A0_1 l0_1.length c0_1) := (zKc BK849.out 1).trans rfl; have hfz29_0 := zKf BK849.out 0; have hfz29_1 := zKf BK849.out 1; have hnb30 := NB850_851.out; have hnc30 := NB851_850.out; have hcz31_0 : w26.cell? ⟨gb850, 0, none⟩ = some (.bool a1_0) := (zKc BK850.out 0).trans rfl; have hcz31_1 : w26.cell? ⟨gb850, 1, none⟩ = some (.slice A1_1 l1_1.length c1_1) := (zKc BK850.out 1).trans rfl; have hfz31_0 := zKf BK850.out 0; have hfz31_1 := zKf BK850.out 1)|  ((with_reducible refine gate_callee (f := 35) rfl ?_); refine goesL_ (some 25) rfl rfl Tryd.func35 (by kernel_rfl) rfl #[.slice A0_1 l0_1.length c0_1, .slice A1_1 l1_1.length c1_1] rfl (by (try simp only [zMa, zMc, zMn]); first |  done|  rfl|  (simp only [zLd, zLt]; rfl)) ?_; (with_reducible refine (n_Sub.calls k _ _ l0_1 (fun k_ => k_ < w.heap.size) _ _ l1_1 t859 t862 _ ?side1 ?side2 ?side3 A21.out).mono ?_); (case side1 => repeat (first |  exact (Kd.C_below HR0_1.out HB.out)|  (with_reducible refine zCa ?_ _)|  (with_reducible refine zCn ?_ _)|  (with_reducible refine zCd ?_))); (case side2 => exact HC0_1.out); (case side3 => exact Kd.V_mk HC1_1.out (Kd.F_below (Kd.C_F (Kd.heap_int .u32) HR1_1.out) (by exact uT HB.out))); rintro e w32 ⟨v860, rfl, ho0, hb⟩; refine ⟨_, rfl, ?_⟩; have HO861 := zMk (zVl (zVm (ok' := fun k_ => k_ ≠ gb849 ∧ k_ ≠ gb850 ∧ k_ ≠ gb851) ho0 (fun k_ hk_ => ⟨Or.elim hk_ (fun hs_ => fun e_ => Nat.not_le.2 hs_ (by rw [e_]; exact GW849.out)) (fun hn_ => (Kd.freshB (g := gb849) (o := .cells #[.bool a0_0, .slice A0_1 l0_1.length c0_1] 24 (0, 0)) (by (with_reducible repeat (first |  refine zKn ?_ _|  refine zKd ?_|  refine zKa ?_ _)); exact BK849.out) k_ hn_)), Or.elim hk_ (fun hs_ => fun e_ => Nat.not_le.2 hs_ (by rw [e_]; exact GW850.out)) (fun hn_ => (Kd.freshB (g := gb850) (o := .cells #[.bool a1_0, .slice A1_1 l1_1.length c1_1] 24 (0, 0)) (by (with_reducible repeat (first |  refine zKn ?_ _|  refine zKd ?_|  refine zKa ?_ _)); exact BK850.out) k_ hn_)), Or.elim hk_ (fun hs_ => fun e_ => Nat.not_le.2 hs_ (by rw [e_]; exact GW851.out)) (fun hn_ => (Kd.freshB (g := gb851) (o := .cells #[.bool false, .slice none 0 0] 24 (0, 0)) (by (with_reducible repeat (first |  refine zKn ?_ _|  refine zKd ?_|  refine zKa ?_ _)); exact BK851.out) k_ hn_))⟩)) (zBs (by exact uT HB.out))); replace BK849 := zMk (zKb (g := gb849) (o := .cells #[.bool a0_0, .slice A0_1 l0_1.length c0_1] 24 (0, 0)) (by (with_reducible repeat (first |  refine zKn ?_ _|  refine zKd ?_|  refine zKa ?_ _)); exact BK849.out) hb); replace BK850 := zMk (zKb (g := gb850) (o := .cells #[.bool a1_0, .slice A1_1 l1_1.length c1_1] 24 (0, 0)) (by (with_reducible repeat (first |  refine zKn ?_ _|  refine zKd ?_|  refine zKa ?_ _)); exact BK850.out) hb); replace BK851 := zMk (zKb (g := gb851) (o := .cells #[.bool false, .slice none 0 0] 24 (0, 0)) (by (with_reducible repeat (first |  refine zKn ?_ _|  refine zKd ?_|  refine zKa ?_ _)); exact BK851.out) hb); replace HB := zMk (zBt (by exact uT HB.out) hb); (try clear hb); (try clear hb2); (try clear hk); (try clear hi); (try clear ho0); have hcz33_0 : w32.cell? ⟨gb849, 0, none⟩ = some (.bool a0_0) := (zKc BK849.out 0).trans rfl; have hcz33_1 : w32.cell? ⟨gb849, 1, none⟩ = some (.slice A0_1 l0_1.length c0_1) := (zKc BK849.out 1).trans rfl; have hfz33_0 := zKf BK849.out 0; have hfz33_1 := zKf BK849.out 1; obtain ⟨Ao34, co34, eo34⟩ := zVs HO861.out; subst eo34)|  ((with_reducible refine gate_callee (f := 36) rfl ?_); refine goesL_ (some 33) rfl rfl Tryd.func36 (by kernel_rfl) rfl #[.bool a0_0, .slice Ao34 t859.length co34] rfl (by (try simp only [zMa, zMc, zMn]); first |  done|  rfl|  (simp only [zLd, zLt]; rfl)) ?_; (with_reducible refine (integer_signed.calls a0_0 _ _ t859 t863 t864 _ ?side1 ?side2 A23.out).mono ?_); (case side1 => exact uC (zVr HO861.out).2.2); (case side2 => exact (zVr HO861.out).2.1); rintro e w35 ⟨v865, rfl, ho0, hb⟩; refine ⟨_, rfl, ?_⟩; replace HO861 := zMk (zVe (by exact uV HO861.out) (zRz ho0) hb); have HO866 := zMk (zRl ho0 (zBs (by exact uT HB.out))); replace BK849 := zMk (zKb (g := gb849) (o := .cells #[.bool a0_0, .slice A0_1 l0_1.length c0_1] 24 (0, 0)) (by (with_reducible repeat (first |  refine zKn ?_ _|  refine zKd ?_|  refine zKa ?_ _)); exact BK849.out) hb); replace BK850 := zMk (zKb (g := gb850) (o := .cells #[.bool a1_0, .slice A1_1 l1_1.length c1_1] 24 (0, 0)) (by (with_reducible repeat (first |  refine zKn ?_ _|  refine zKd ?_|  refine zKa ?_ _)); exact BK850.out) hb); replace BK851 := zMk (zKb (g := gb851) (o := .cells #[.bool false, .slice none 0 0] 24 (0, 0)) (by (with_reducible repeat (first |  refine zKn ?_ _|  refine zKd ?_|  refine zKa ?_ _)); exact BK851.out) hb); replace HB := zMk (zBt (by exact uT HB.out) hb); (try clear hb); (try clear hb2); (try clear hk); (try clear hi); (try clear ho0); have hcz36_0 : w35.cell? ⟨gb851, 0, none⟩ = some (.bool false) := (zKc BK851.out 0).trans rfl; have hcz36_1 : w35.cell? ⟨gb851, 1, none⟩ = some (.slice none 0 0) := (zKc BK851.out 1).trans rfl; have hfz36_0 := zKf BK851.out 0; have hfz36_1 := zKf BK851.out 1; obtain ⟨Ao37, co37, eo37⟩ := zRs HO866.out; subst eo37))
      refine bodyPost_ret (results_cell_row rfl _ _ gb851 24 #[.bool t863, .slice Ao37 t864.length co37] (0, 0) _ rfl (by (with_reducible repeat (first | refine zKn ?_ _ | refine zKd ?_ | refine zKa ?_ _)); refine blk_put (cs := #[.bool t863, .slice none 0 0]) ?_ 1 _ rfl; (with_reducible repeat (first | refine zKn ?_ _ | refine zKd ?_ | refine zKa ?_ _)); refine blk_put (cs := #[.bool false, .slice none 0 0]) ?_ 0 _ rfl; (with_reducible repeat (first | refine zKn ?_ _ | refine zKd ?_ | refine zKa ?_ _)); exact BK851.out) Tryd.underlying24 rfl (by kernel_rfl)) rfl ?_
      exact ⟨_, by first | rfl | (simp [errW_none, errW_some] <;> rfl) | (simp [*, errW_none, errW_some] <;> rfl), by (with_reducible repeat (first | apply zRa | apply zRn | apply zRd)); exact zRm (Kd.R_far (p := ⟨gb851, 1, none⟩) (Kd.R_far (p := ⟨gb851, 0, none⟩) (Kd.R_types HO866.out BK851.out (by decide)) (fun _ hk => hk.2) (.bool t863)) (fun _ hk => hk.2) (.slice Ao37 t864.length co37)) (fun _ hk => trivial), by exact uT HB.out⟩
    · rw [if_neg c22] at H
      have c22b0 : (t862 == 0) = false := beq_eq_false_iff_ne.mpr c22
      have c22b1 : (t862 != 0) = true := bne_iff_ne.mpr c22
      replace H := bnd H
      obtain ⟨⟨t867, t870⟩, A380, H⟩ := H
      replace H : ((integer_signed.f a1_0 t867).bind fun bt871 => (some (bt871.1, bt871.2))) = some (r1, r2) := H
      have A38 := zMk A380
      clear A380
      replace H := bnd H
      obtain ⟨⟨t871, t872⟩, A390, H⟩ := H
      replace H : (some (t871, t872)) = some (r1, r2) := H
      have A39 := zMk A390
      clear A390
      simp only [Option.some.injEq, Prod.mk.injEq] at H
      obtain ⟨rfl, rfl⟩ := H
      go_enter Tryd.func17, Tryd.ntmps17
      go_wp2_with (first |  ((with_reducible refine gate_dst (N := 2) rfl ?_); refine box_event ?hg (N := 2) ?hd (cs := #[.bool a0_0, .slice A0_1 l0_1.length c0_1]) (t := 24) ?hr ?_; (case hd => rfl); (case hg => rfl); (case hr => first |  (go_simp; done)|  (go_simp; rfl)|  (go_simp; rw [show ∀ x : Int, IntKind.u32.wrap (IntKind.u8.wrap x) = x % 256 from fun x => (by show (x % 256) % 4294967296 = x % 256; omega)])); intro gb849 hg w40 hbox hb; have BK849 := zMk (hbox); have GW849 := zMk ((by rw [hg]; exact (zBs (by exact uT HB.out)) : w.heap.size ≤ gb849)); have GE849 := zMk ((by rw [hg]; exact (zBs (by exact uT HB.out)) : w.heap.size ≤ gb849)); have IGE849 := ownGe GE849.out; replace HB := zMk (zBt (by exact uT HB.out) hb); clear hb hbox hg)|  ((with_reducible refine gate_dst (N := 3) rfl ?_); refine box_event ?hg (N := 3) ?hd (cs := #[.bool a1_0, .slice A1_1 l1_1.length c1_1]) (t := 24) ?hr ?_; (case hd => rfl); (case hg => rfl); (case hr => first |  (go_simp; done)|  (go_simp; rfl)|  (go_simp; rw [show ∀ x : Int, IntKind.u32.wrap (IntKind.u8.wrap x) = x % 256 from fun x => (by show (x % 256) % 4294967296 = x % 256; omega)])); intro gb850 hg w41 hbox hb; have BK850 := zMk (hbox); have GW850 := zMk ((by rw [hg]; exact (zBs (by exact uT HB.out)) : w.heap.size ≤ gb850)); have GE850 := zMk ((by rw [hg]; exact (zBs (by exact uT HB.out)) : w.heap.size ≤ gb850)); have IGE850 := ownGe GE850.out; replace HB := zMk (zBt (by exact uT HB.out) hb); have NB849_850 := zMk ((by rw [hg]; exact Nat.ne_of_lt (blk_lt (g := gb849) (o := .cells #[.bool a0_0, .slice A0_1 l0_1.length c0_1] 24 (0, 0)) (by (with_reducible repeat (first |  refine zKn ?_ _|  refine zKd ?_|  refine zKa ?_ _)); exact BK849.out)) : gb849 ≠ gb850)); have NB850_849 := zMk ((by rw [hg]; exact Nat.ne_of_gt (blk_lt (g := gb849) (o := .cells #[.bool a0_0, .slice A0_1 l0_1.length c0_1] 24 (0, 0)) (by (with_reducible repeat (first |  refine zKn ?_ _|  refine zKd ?_|  refine zKa ?_ _)); exact BK849.out)) : gb850 ≠ gb849)); replace BK849 := zMk (zKb (g := gb849) (o := .cells #[.bool a0_0, .slice A0_1 l0_1.length c0_1] 24 (0, 0)) (by (with_reducible repeat (first |  refine zKn ?_ _|  refine zKd ?_|  refine zKa ?_ _)); exact BK849.out) hb); clear hb hbox hg)|  ((with_reducible refine gate_dst (N := 4) rfl ?_); refine box_event ?hg (N := 4) ?hd (cs := #[.bool false, .slice none 0 0]) (t := 24) ?hr ?_; (case hd => rfl); (case hg => rfl); (case hr => first |  (go_simp; done)|  (go_simp; rfl)|  (go_simp; rw [show ∀ x : Int, IntKind.u32.wrap (IntKind.u8.wrap x) = x % 256 from fun x => (by show (x % 256) % 4294967296 = x % 256; omega)])); intro gb851 hg w42 hbox hb; have BK851 := zMk (hbox); have GW851 := zMk ((by rw [hg]; exact (zBs (by exact uT HB.out)) : w.heap.size ≤ gb851)); have GE851 := zMk ((by rw [hg]; exact (zBs (by exact uT HB.out)) : w.heap.size ≤ gb851)); have IGE851 := ownGe GE851.out; replace HB := zMk (zBt (by exact uT HB.out) hb); have NB849_851 := zMk ((by rw [hg]; exact Nat.ne_of_lt (blk_lt (g := gb849) (o := .cells #[.bool a0_0, .slice A0_1 l0_1.length c0_1] 24 (0, 0)) (by (with_reducible repeat (first |  refine zKn ?_ _|  refine zKd ?_|  refine zKa ?_ _)); exact BK849.out)) : gb849 ≠ gb851)); have NB851_849 := zMk ((by rw [hg]; exact Nat.ne_of_gt (blk_lt (g := gb849) (o := .cells #[.bool a0_0, .slice A0_1 l0_1.length c0_1] 24 (0, 0)) (by (with_reducible repeat (first |  refine zKn ?_ _|  refine zKd ?_|  refine zKa ?_ _)); exact BK849.out)) : gb851 ≠ gb849)); replace BK849 := zMk (zKb (g := gb849) (o := .cells #[.bool a0_0, .slice A0_1 l0_1.length c0_1] 24 (0, 0)) (by (with_reducible repeat (first |  refine zKn ?_ _|  refine zKd ?_|  refine zKa ?_ _)); exact BK849.out) hb); have NB850_851 := zMk ((by rw [hg]; exact Nat.ne_of_lt (blk_lt (g := gb850) (o := .cells #[.bool a1_0, .slice A1_1 l1_1.length c1_1] 24 (0, 0)) (by (with_reducible repeat (first |  refine zKn ?_ _|  refine zKd ?_|  refine zKa ?_ _)); exact BK850.out)) : gb850 ≠ gb851)); have NB851_850 := zMk ((by rw [hg]; exact Nat.ne_of_gt (blk_lt (g := gb850) (o := .cells #[.bool a1_0, .slice A1_1 l1_1.length c1_1] 24 (0, 0)) (by (with_reducible repeat (first |  refine zKn ?_ _|  refine zKd ?_|  refine zKa ?_ _)); exact BK850.out)) : gb851 ≠ gb850)); replace BK850 := zMk (zKb (g := gb850) (o := .cells #[.bool a1_0, .slice A1_1 l1_1.length c1_1] 24 (0, 0)) (by (with_reducible repeat (first |  refine zKn ?_ _|  refine zKd ?_|  refine zKa ?_ _)); exact BK850.out) hb); clear hb hbox hg; have hnb43 := NB849_850.out; have hnc43 := NB850_849.out; have hnb44 := NB849_851.out; have hnc44 := NB851_849.out; have hcz45_0 : w42.cell? ⟨gb849, 0, none⟩ = some (.bool a0_0) := (zKc BK849.out 0).trans rfl; have hcz45_1 : w42.cell? ⟨gb849, 1, none⟩ = some (.slice A0_1 l0_1.length c0_1) := (zKc BK849.out 1).trans rfl; have hfz45_0 := zKf BK849.out 0; have hfz45_1 := zKf BK849.out 1; have hnb46 := NB850_851.out; have hnc46 := NB851_850.out; have hcz47_0 : w42.cell? ⟨gb850, 0, none⟩ = some (.bool a1_0) := (zKc BK850.out 0).trans rfl; have hcz47_1 : w42.cell? ⟨gb850, 1, none⟩ = some (.slice A1_1 l1_1.length c1_1) := (zKc BK850.out 1).trans rfl; have hfz47_0 := zKf BK850.out 0; have hfz47_1 := zKf BK850.out 1)|  ((with_reducible refine gate_callee (f := 35) rfl ?_); refine goesL_ (some 25) rfl rfl Tryd.func35 (by kernel_rfl) rfl #[.slice A0_1 l0_1.length c0_1, .slice A1_1 l1_1.length c1_1] rfl (by (try simp only [zMa, zMc, zMn]); first |  done|  rfl|  (simp only [zLd, zLt]; rfl)) ?_; (with_reducible refine (n_Sub.calls k _ _ l0_1 (fun k_ => k_ < w.heap.size) _ _ l1_1 t859 t862 _ ?side1 ?side2 ?side3 A21.out).mono ?_); (case side1 => repeat (first |  exact (Kd.C_below HR0_1.out HB.out)|  (with_reducible refine zCa ?_ _)|  (with_reducible refine zCn ?_ _)|  (with_reducible refine zCd ?_))); (case side2 => exact HC0_1.out); (case side3 => exact Kd.V_mk HC1_1.out (Kd.F_below (Kd.C_F (Kd.heap_int .u32) HR1_1.out) (by exact uT HB.out))); rintro e w48 ⟨v860, rfl, ho0, hb⟩; refine ⟨_, rfl, ?_⟩; have HO861 := zMk (zVl (zVm (ok' := fun k_ => k_ ≠ gb849 ∧ k_ ≠ gb850 ∧ k_ ≠ gb851) ho0 (fun k_ hk_ => ⟨Or.elim hk_ (fun hs_ => fun e_ => Nat.not_le.2 hs_ (by rw [e_]; exact GW849.out)) (fun hn_ => (Kd.freshB (g := gb849) (o := .cells #[.bool a0_0, .slice A0_1 l0_1.length c0_1] 24 (0, 0)) (by (with_reducible repeat (first |  refine zKn ?_ _|  refine zKd ?_|  refine zKa ?_ _)); exact BK849.out) k_ hn_)), Or.elim hk_ (fun hs_ => fun e_ => Nat.not_le.2 hs_ (by rw [e_]; exact GW850.out)) (fun hn_ => (Kd.freshB (g := gb850) (o := .cells #[.bool a1_0, .slice A1_1 l1_1.length c1_1] 24 (0, 0)) (by (with_reducible repeat (first |  refine zKn ?_ _|  refine zKd ?_|  refine zKa ?_ _)); exact BK850.out) k_ hn_)), Or.elim hk_ (fun hs_ => fun e_ => Nat.not_le.2 hs_ (by rw [e_]; exact GW851.out)) (fun hn_ => (Kd.freshB (g := gb851) (o := .cells #[.bool false, .slice none 0 0] 24 (0, 0)) (by (with_reducible repeat (first |  refine zKn ?_ _|  refine zKd ?_|  refine zKa ?_ _)); exact BK851.out) k_ hn_))⟩)) (zBs (by exact uT HB.out))); replace BK849 := zMk (zKb (g := gb849) (o := .cells #[.bool a0_0, .slice A0_1 l0_1.length c0_1] 24 (0, 0)) (by (with_reducible repeat (first |  refine zKn ?_ _|  refine zKd ?_|  refine zKa ?_ _)); exact BK849.out) hb); replace BK850 := zMk (zKb (g := gb850) (o := .cells #[.bool a1_0, .slice A1_1 l1_1.length c1_1] 24 (0, 0)) (by (with_reducible repeat (first |  refine zKn ?_ _|  refine zKd ?_|  refine zKa ?_ _)); exact BK850.out) hb); replace BK851 := zMk (zKb (g := gb851) (o := .cells #[.bool false, .slice none 0 0] 24 (0, 0)) (by (with_reducible repeat (first |  refine zKn ?_ _|  refine zKd ?_|  refine zKa ?_ _)); exact BK851.out) hb); replace HB := zMk (zBt (by exact uT HB.out) hb); (try clear hb); (try clear hb2); (try clear hk); (try clear hi); (try clear ho0); have hcz49_0 : w48.cell? ⟨gb850, 0, none⟩ = some (.bool a1_0) := (zKc BK850.out 0).trans rfl; have hcz49_1 : w48.cell? ⟨gb850, 1, none⟩ = some (.slice A1_1 l1_1.length c1_1) := (zKc BK850.out 1).trans rfl; have hfz49_0 := zKf BK850.out 0; have hfz49_1 := zKf BK850.out 1; have hcz50_0 : w48.cell? ⟨gb849, 0, none⟩ = some (.bool a0_0) := (zKc BK849.out 0).trans rfl; have hcz50_1 : w48.cell? ⟨gb849, 1, none⟩ = some (.slice A0_1 l0_1.length c0_1) := (zKc BK849.out 1).trans rfl; have hfz50_0 := zKf BK849.out 0; have hfz50_1 := zKf BK849.out 1)|  ((with_reducible refine gate_callee (f := 35) rfl ?_); refine goesL_ (some 39) rfl rfl Tryd.func35 (by kernel_rfl) rfl #[.slice A1_1 l1_1.length c1_1, .slice A0_1 l0_1.length c0_1] rfl (by (try simp only [zMa, zMc, zMn]); first |  done|  rfl|  (simp only [zLd, zLt]; rfl)) ?_; (with_reducible refine (n_Sub.calls k _ _ l1_1 (fun k_ => k_ < w.heap.size) _ _ l0_1 t867 t870 _ ?side1 ?side2 ?side3 A38.out).mono ?_); (case side1 => repeat (first |  exact (Kd.C_below HR1_1.out HB.out)|  (with_reducible refine zCa ?_ _)|  (with_reducible refine zCn ?_ _)|  (with_reducible refine zCd ?_))); (case side2 => exact HC1_1.out); (case side3 => exact Kd.V_mk HC0_1.out (Kd.F_below (Kd.C_F (Kd.heap_int .u32) HR0_1.out) (by exact uT HB.out))); rintro e w51 ⟨v868, rfl, ho0, hb⟩; refine ⟨_, rfl, ?_⟩; replace HO861 := zMk (zVb (by exact uV HO861.out) hb); have HO869 := zMk (zVl (zVm (ok' := fun k_ => k_ ≠ gb849 ∧ k_ ≠ gb850 ∧ k_ ≠ gb851) ho0 (fun k_ hk_ => ⟨Or.elim hk_ (fun hs_ => fun e_ => Nat.not_le.2 hs_ (by rw [e_]; exact GW849.out)) (fun hn_ => (Kd.freshB (g := gb849) (o := .cells #[.bool a0_0, .slice A0_1 l0_1.length c0_1] 24 (0, 0)) (by (with_reducible repeat (first |  refine zKn ?_ _|  refine zKd ?_|  refine zKa ?_ _)); exact BK849.out) k_ hn_)), Or.elim hk_ (fun hs_ => fun e_ => Nat.not_le.2 hs_ (by rw [e_]; exact GW850.out)) (fun hn_ => (Kd.freshB (g := gb850) (o := .cells #[.bool a1_0, .slice A1_1 l1_1.length c1_1] 24 (0, 0)) (by (with_reducible repeat (first |  refine zKn ?_ _|  refine zKd ?_|  refine zKa ?_ _)); exact BK850.out) k_ hn_)), Or.elim hk_ (fun hs_ => fun e_ => Nat.not_le.2 hs_ (by rw [e_]; exact GW851.out)) (fun hn_ => (Kd.freshB (g := gb851) (o := .cells #[.bool false, .slice none 0 0] 24 (0, 0)) (by (with_reducible repeat (first |  refine zKn ?_ _|  refine zKd ?_|  refine zKa ?_ _)); exact BK851.out) k_ hn_))⟩)) (zBs (by exact uT HB.out))); replace BK849 := zMk (zKb (g := gb849) (o := .cells #[.bool a0_0, .slice A0_1 l0_1.length c0_1] 24 (0, 0)) (by (with_reducible repeat (first |  refine zKn ?_ _|  refine zKd ?_|  refine zKa ?_ _)); exact BK849.out) hb); replace BK850 := zMk (zKb (g := gb850) (o := .cells #[.bool a1_0, .slice A1_1 l1_1.length c1_1] 24 (0, 0)) (by (with_reducible repeat (first |  refine zKn ?_ _|  refine zKd ?_|  refine zKa ?_ _)); exact BK850.out) hb); replace BK851 := zMk (zKb (g := gb851) (o := .cells #[.bool false, .slice none 0 0] 24 (0, 0)) (by (with_reducible repeat (first |  refine zKn ?_ _|  refine zKd ?_|  refine zKa ?_ _)); exact BK851.out) hb); replace HB := zMk (zBt (by exact uT HB.out) hb); (try clear hb); (try clear hb2); (try clear hk); (try clear hi); (try clear ho0); have hcz52_0 : w51.cell? ⟨gb850, 0, none⟩ = some (.bool a1_0) := (zKc BK850.out 0).trans rfl; have hcz52_1 : w51.cell? ⟨gb850, 1, none⟩ = some (.slice A1_1 l1_1.length c1_1) := (zKc BK850.out 1).trans rfl; have hfz52_0 := zKf BK850.out 0; have hfz52_1 := zKf BK850.out 1; obtain ⟨Ao53, co53, eo53⟩ := zVs HO869.out; subst eo53)|  ((with_reducible refine gate_callee (f := 36) rfl ?_); refine goesL_ (some 45) rfl rfl Tryd.func36 (by kernel_rfl) rfl #[.bool a1_0, .slice Ao53 t867.length co53] rfl (by (try simp only [zMa, zMc, zMn]); first |  done|  rfl|  (simp only [zLd, zLt]; rfl)) ?_; (with_reducible refine (integer_signed.calls a1_0 _ _ t867 t871 t872 _ ?side1 ?side2 A39.out).mono ?_); (case side1 => exact uC (zVr HO869.out).2.2); (case side2 => exact (zVr HO869.out).2.1); rintro e w54 ⟨v873, rfl, ho0, hb⟩; refine ⟨_, rfl, ?_⟩; replace HO861 := zMk (zVe (by exact uV HO861.out) (zRz ho0) hb); replace HO869 := zMk (zVe (by exact uV HO869.out) (zRz ho0) hb); have HO874 := zMk (zRl ho0 (zBs (by exact uT HB.out))); replace BK849 := zMk (zKb (g := gb849) (o := .cells #[.bool a0_0, .slice A0_1 l0_1.length c0_1] 24 (0, 0)) (by (with_reducible repeat (first |  refine zKn ?_ _|  refine zKd ?_|  refine zKa ?_ _)); exact BK849.out) hb); replace BK850 := zMk (zKb (g := gb850) (o := .cells #[.bool a1_0, .slice A1_1 l1_1.length c1_1] 24 (0, 0)) (by (with_reducible repeat (first |  refine zKn ?_ _|  refine zKd ?_|  refine zKa ?_ _)); exact BK850.out) hb); replace BK851 := zMk (zKb (g := gb851) (o := .cells #[.bool false, .slice none 0 0] 24 (0, 0)) (by (with_reducible repeat (first |  refine zKn ?_ _|  refine zKd ?_|  refine zKa ?_ _)); exact BK851.out) hb); replace HB := zMk (zBt (by exact uT HB.out) hb); (try clear hb); (try clear hb2); (try clear hk); (try clear hi); (try clear ho0); have hcz55_0 : w54.cell? ⟨gb851, 0, none⟩ = some (.bool false) := (zKc BK851.out 0).trans rfl; have hcz55_1 : w54.cell? ⟨gb851, 1, none⟩ = some (.slice none 0 0) := (zKc BK851.out 1).trans rfl; have hfz55_0 := zKf BK851.out 0; have hfz55_1 := zKf BK851.out 1; obtain ⟨Ao56, co56, eo56⟩ := zRs HO874.out; subst eo56))
      refine bodyPost_ret (results_cell_row rfl _ _ gb851 24 #[.bool t871, .slice Ao56 t872.length co56] (0, 0) _ rfl (by (with_reducible repeat (first | refine zKn ?_ _ | refine zKd ?_ | refine zKa ?_ _)); refine blk_put (cs := #[.bool t871, .slice none 0 0]) ?_ 1 _ rfl; (with_reducible repeat (first | refine zKn ?_ _ | refine zKd ?_ | refine zKa ?_ _)); refine blk_put (cs := #[.bool false, .slice none 0 0]) ?_ 0 _ rfl; (with_reducible repeat (first | refine zKn ?_ _ | refine zKd ?_ | refine zKa ?_ _)); exact BK851.out) Tryd.underlying24 rfl (by kernel_rfl)) rfl ?_
      exact ⟨_, by first | rfl | (simp [errW_none, errW_some] <;> rfl) | (simp [*, errW_none, errW_some] <;> rfl), by (with_reducible repeat (first | apply zRa | apply zRn | apply zRd)); exact zRm (Kd.R_far (p := ⟨gb851, 1, none⟩) (Kd.R_far (p := ⟨gb851, 0, none⟩) (Kd.R_types HO874.out BK851.out (by decide)) (fun _ hk => hk.2) (.bool t871)) (fun _ hk => hk.2) (.slice Ao56 t872.length co56)) (fun _ hk => trivial), by exact uT HB.out⟩


def integer_Neg.f (a0_0 : Bool) (l0_1 : List Int) : Option (Bool × List Int) := (integer_signed.f (!a0_0) l0_1).bind fun bt877 => (some (bt877.1, bt877.2))
set_option maxHeartbeats 8000000 in
set_option maxRecDepth 100000 in
theorem integer_Neg.calls (a0_0 : Bool) (A0_1 : Option Addr) (c0_1 : Nat) (l0_1 : List Int) (r1 : Bool) (r2 : List Int) (w : World) (hr0_1 : Kd.C (Kd.int .u32) w A0_1 l0_1.length l0_1) (hc0_1 : l0_1.length ≤ c0_1) (h : integer_Neg.f a0_0 l0_1 = some (r1, r2)) :
    Calls Tryd.prog 23 #[.agg #[.bool a0_0, .slice A0_1 l0_1.length c0_1]] w fun e w' => ∃ v1_ : Value, e = .returned (.agg #[.bool r1, v1_]) ∧ Kd.R (Kd.int .u32) 58 w' w.heap.size (fun _ => True) v1_ r2 ∧ Below w.heap.size w w' := by
  have hu24 := Tryd.underlying24
  have HR0_1 := zMk hr0_1
  have HC0_1 := zMk hc0_1
  clear hr0_1 hc0_1
  have HB := zMk (Below.refl w.heap.size w)
  have H : ((integer_signed.f (!a0_0) l0_1).bind fun bt877 => (some (bt877.1, bt877.2))) = some (r1, r2) := h
  clear h
  replace H := bnd H
  obtain ⟨⟨t877, t878⟩, A20, H⟩ := H
  replace H : (some (t877, t878)) = some (r1, r2) := H
  have A2 := zMk A20
  clear A20
  simp only [Option.some.injEq, Prod.mk.injEq] at H
  obtain ⟨rfl, rfl⟩ := H
  go_enter Tryd.func23, Tryd.ntmps23
  go_wp2_with (first |  ((with_reducible refine gate_dst (N := 1) rfl ?_); refine box_event ?hg (N := 1) ?hd (cs := #[.bool a0_0, .slice A0_1 l0_1.length c0_1]) (t := 24) ?hr ?_; (case hd => rfl); (case hg => rfl); (case hr => first |  (go_simp; done)|  (go_simp; rfl)|  (go_simp; rw [show ∀ x : Int, IntKind.u32.wrap (IntKind.u8.wrap x) = x % 256 from fun x => (by show (x % 256) % 4294967296 = x % 256; omega)])); intro gb875 hg w3 hbox hb; have BK875 := zMk (hbox); have GW875 := zMk ((by rw [hg]; exact (zBs (by exact uT HB.out)) : w.heap.size ≤ gb875)); have GE875 := zMk ((by rw [hg]; exact (zBs (by exact uT HB.out)) : w.heap.size ≤ gb875)); have IGE875 := ownGe GE875.out; replace HB := zMk (zBt (by exact uT HB.out) hb); clear hb hbox hg)|  ((with_reducible refine gate_dst (N := 2) rfl ?_); refine box_event ?hg (N := 2) ?hd (cs := #[.bool false, .slice none 0 0]) (t := 24) ?hr ?_; (case hd => rfl); (case hg => rfl); (case hr => first |  (go_simp; done)|  (go_simp; rfl)|  (go_simp; rw [show ∀ x : Int, IntKind.u32.wrap (IntKind.u8.wrap x) = x % 256 from fun x => (by show (x % 256) % 4294967296 = x % 256; omega)])); intro gb876 hg w4 hbox hb; have BK876 := zMk (hbox); have GW876 := zMk ((by rw [hg]; exact (zBs (by exact uT HB.out)) : w.heap.size ≤ gb876)); have GE876 := zMk ((by rw [hg]; exact (zBs (by exact uT HB.out)) : w.heap.size ≤ gb876)); have IGE876 := ownGe GE876.out; replace HB := zMk (zBt (by exact uT HB.out) hb); have NB875_876 := zMk ((by rw [hg]; exact Nat.ne_of_lt (blk_lt (g := gb875) (o := .cells #[.bool a0_0, .slice A0_1 l0_1.length c0_1] 24 (0, 0)) (by (with_reducible repeat (first |  refine zKn ?_ _|  refine zKd ?_|  refine zKa ?_ _)); exact BK875.out)) : gb875 ≠ gb876)); have NB876_875 := zMk ((by rw [hg]; exact Nat.ne_of_gt (blk_lt (g := gb875) (o := .cells #[.bool a0_0, .slice A0_1 l0_1.length c0_1] 24 (0, 0)) (by (with_reducible repeat (first |  refine zKn ?_ _|  refine zKd ?_|  refine zKa ?_ _)); exact BK875.out)) : gb876 ≠ gb875)); replace BK875 := zMk (zKb (g := gb875) (o := .cells #[.bool a0_0, .slice A0_1 l0_1.length c0_1] 24 (0, 0)) (by (with_reducible repeat (first |  refine zKn ?_ _|  refine zKd ?_|  refine zKa ?_ _)); exact BK875.out) hb); clear hb hbox hg; have hnb5 := NB875_876.out; have hnc5 := NB876_875.out; have hcz6_0 : w4.cell? ⟨gb875, 0, none⟩ = some (.bool a0_0) := (zKc BK875.out 0).trans rfl; have hcz6_1 : w4.cell? ⟨gb875, 1, none⟩ = some (.slice A0_1 l0_1.length c0_1) := (zKc BK875.out 1).trans rfl; have hfz6_0 := zKf BK875.out 0; have hfz6_1 := zKf BK875.out 1)|  ((with_reducible refine gate_callee (f := 36) rfl ?_); refine goesL_ (some 8) rfl rfl Tryd.func36 (by kernel_rfl) rfl #[.bool (!a0_0), .slice A0_1 l0_1.length c0_1] rfl (by (try simp only [zMa, zMc, zMn]); first |  done|  rfl|  (simp only [zLd, zLt]; rfl)) ?_; (with_reducible refine (integer_signed.calls (!a0_0) _ _ l0_1 t877 t878 _ ?side1 ?side2 A2.out).mono ?_); (case side1 => repeat (first |  exact (Kd.C_below HR0_1.out HB.out)|  (with_reducible refine zCa ?_ _)|  (with_reducible refine zCn ?_ _)|  (with_reducible refine zCd ?_))); (case side2 => exact HC0_1.out); rintro e w7 ⟨v879, rfl, ho0, hb⟩; refine ⟨_, rfl, ?_⟩; have HO880 := zMk (zRl ho0 (zBs (by exact uT HB.out))); replace BK875 := zMk (zKb (g := gb875) (o := .cells #[.bool a0_0, .slice A0_1 l0_1.length c0_1] 24 (0, 0)) (by (with_reducible repeat (first |  refine zKn ?_ _|  refine zKd ?_|  refine zKa ?_ _)); exact BK875.out) hb); replace BK876 := zMk (zKb (g := gb876) (o := .cells #[.bool false, .slice none 0 0] 24 (0, 0)) (by (with_reducible repeat (first |  refine zKn ?_ _|  refine zKd ?_|  refine zKa ?_ _)); exact BK876.out) hb); replace HB := zMk (zBt (by exact uT HB.out) hb); (try clear hb); (try clear hb2); (try clear hk); (try clear hi); (try clear ho0); have hcz8_0 : w7.cell? ⟨gb876, 0, none⟩ = some (.bool false) := (zKc BK876.out 0).trans rfl; have hcz8_1 : w7.cell? ⟨gb876, 1, none⟩ = some (.slice none 0 0) := (zKc BK876.out 1).trans rfl; have hfz8_0 := zKf BK876.out 0; have hfz8_1 := zKf BK876.out 1; obtain ⟨Ao9, co9, eo9⟩ := zRs HO880.out; subst eo9))
  refine bodyPost_ret (results_cell_row rfl _ _ gb876 24 #[.bool t877, .slice Ao9 t878.length co9] (0, 0) _ rfl (by (with_reducible repeat (first | refine zKn ?_ _ | refine zKd ?_ | refine zKa ?_ _)); refine blk_put (cs := #[.bool t877, .slice none 0 0]) ?_ 1 _ rfl; (with_reducible repeat (first | refine zKn ?_ _ | refine zKd ?_ | refine zKa ?_ _)); refine blk_put (cs := #[.bool false, .slice none 0 0]) ?_ 0 _ rfl; (with_reducible repeat (first | refine zKn ?_ _ | refine zKd ?_ | refine zKa ?_ _)); exact BK876.out) Tryd.underlying24 rfl (by kernel_rfl)) rfl ?_
  exact ⟨_, by first | rfl | (simp [errW_none, errW_some] <;> rfl) | (simp [*, errW_none, errW_some] <;> rfl), by (with_reducible repeat (first | apply zRa | apply zRn | apply zRd)); exact zRm (Kd.R_far (p := ⟨gb876, 1, none⟩) (Kd.R_far (p := ⟨gb876, 0, none⟩) (Kd.R_types HO880.out BK876.out (by decide)) (fun _ hk => hk.2) (.bool t877)) (fun _ hk => hk.2) (.slice Ao9 t878.length co9)) (fun _ hk => trivial), by exact uT HB.out⟩


def r1_Same.l0 : Nat → List Int → List Int → Int → Option (Bool)
  | 0, _, _, _ => none
  | k + 1, x0, x1, x5 => if x5 < (x0.length : Int) then (if 0 ≤ x5 then (if x5 < (x1.length : Int) then (if (rd x0 x5) = (rd x1 x5) then (r1_Same.l0 k x0 x1 (wrap64 (x5 + 1))) else (some false)) else (none)) else (none)) else (some true)
def r1_Same.f (k : Nat) (l0 : List Int) (l1 : List Int) : Option (Bool) := if (l0.length : Int) = (l1.length : Int) then (r1_Same.l0 k l0 l1 0) else (some false)
set_option maxHeartbeats 8000000 in
set_option maxRecDepth 100000 in
theorem r1_Same.calls (k : Nat) (A0 : Option Addr) (c0 : Nat) (l0 : List Int) (A1 : Option Addr) (c1 : Nat) (l1 : List Int) (r : Bool) (w : World) (hr0 : Kd.C (Kd.int .u32) w A0 l0.length l0) (hc0 : l0.length ≤ c0) (hr1 : Kd.C (Kd.int .u32) w A1 l1.length l1) (hc1 : l1.length ≤ c1) (h : r1_Same.f k l0 l1 = some r) :
    Calls Tryd.prog 40 #[.slice A0 l0.length c0, .slice A1 l1.length c1] w fun e w' => e = .returned (.bool r) ∧ Drawn0 w w' := by
  have HR0 := zMk hr0
  have HC0 := zMk hc0
  clear hr0 hc0
  have HR1 := zMk hr1
  have HC1 := zMk hc1
  clear hr1 hc1
  have H : (if (l0.length : Int) = (l1.length : Int) then (r1_Same.l0 k l0 l1 0) else (some false)) = some r := h
  clear h
  by_cases c3 : (l0.length : Int) = (l1.length : Int)
  · rw [if_pos c3] at H
    have c3b0 : ((l0.length : Int) == (l1.length : Int)) = true := beq_iff_eq.mpr c3
    have c3b1 : ((l0.length : Int) != (l1.length : Int)) = false := bne_eq_false_iff_eq.mpr c3
    have c3b2 : (l0.length == l1.length) = true := by first | simpa using c3 | (simp at c3 ⊢; omega)
    clear c3
    have H' := zMk H
    clear H
    go_enter Tryd.func40, Tryd.ntmps40
    go_wp2
    repeat (go_quiet (fail); try go_wp2)
    go_loopg [5] k (fun kq v5 w' => ∃ (x5_1 : Int), v5 = .int .i64 x5_1 ∧ Aside0 (r1_Same.l0 kq l0 l1 x5_1 = some r) ∧ Aside0 (kq ≤ k) ∧ Drawn0 w w')
    case atStart => exact ⟨(0), (by first | rfl | (simp; done) | (simp [*]; done)), H', ⟨Nat.le_refl _⟩, by repeat (first | exact Drawn0.refl _ | apply Drawn0.step)⟩
    clear H'
    obtain ⟨x5_1, rfl, HA, HK1, ⟨m1, rfl⟩⟩ := hrel
    rcases gk with _ | k1
    · exact absurd HA.out (by simp [r1_Same.l0])
    have H := HA.out
    clear HA
    simp only [r1_Same.l0] at H
    by_cases c4 : x5_1 < (l0.length : Int)
    · rw [if_pos c4] at H
      have c4b0 : decide (x5_1 < (l0.length : Int)) = true := decide_eq_true c4
      clear c4
      by_cases c5 : 0 ≤ x5_1
      rotate_left
      · rw [if_neg c5] at H; exact absurd H (by simp)
      rw [if_pos c5] at H
      have c5b0 : decide (0 ≤ x5_1) = true := decide_eq_true c5
      clear c5
      by_cases c6 : x5_1 < (l1.length : Int)
      rotate_left
      · rw [if_neg c6] at H; exact absurd H (by simp)
      rw [if_pos c6] at H
      have c6b0 : decide (x5_1 < (l1.length : Int)) = true := decide_eq_true c6
      clear c6
      by_cases c7 : (rd l0 x5_1) = (rd l1 x5_1)
      · rw [if_pos c7] at H
        have c7b0 : ((rd l0 x5_1) == (rd l1 x5_1)) = true := beq_iff_eq.mpr c7
        have c7b1 : ((rd l0 x5_1) != (rd l1 x5_1)) = false := bne_eq_false_iff_eq.mpr c7
        clear c7
        have H' := zMk H
        clear H
        have p420 : 0 ≤ (x5_1 : Int) := of_decide_eq_true (by first | (with_reducible assumption) | assumption)
        have q420 : x5_1 < (l0.length : Int) := of_decide_eq_true (by first | (with_reducible assumption) | assumption)
        obtain ⟨ad420, e420, hx420_0⟩ := zAi HR0.out x5_1 p420 q420
        cases e420
        replace p420 := eq_true p420
        replace q420 := eq_true q420
        have p421 : 0 ≤ (x5_1 : Int) := of_decide_eq_true (by first | (with_reducible assumption) | assumption)
        have q421 : x5_1 < (l1.length : Int) := of_decide_eq_true (by first | (with_reducible assumption) | assumption)
        obtain ⟨ad421, e421, hx421_0⟩ := zAi HR1.out x5_1 p421 q421
        cases e421
        replace p421 := eq_true p421
        replace q421 := eq_true q421
        go_wp2
        repeat (go_quiet (fail); try go_wp2)
        go_roundg k1
        case measure => have := HK1.out; omega
        case rel => exact ⟨(wrap64 (x5_1 + 1)), (by first | rfl | (simp; done) | (simp [*]; done)), H', ⟨by have := HK1.out; omega⟩, by repeat (first | exact Drawn0.refl _ | apply Drawn0.step)⟩
      · rw [if_neg c7] at H
        have c7b0 : ((rd l0 x5_1) == (rd l1 x5_1)) = false := beq_eq_false_iff_ne.mpr c7
        have c7b1 : ((rd l0 x5_1) != (rd l1 x5_1)) = true := bne_iff_ne.mpr c7
        obtain rfl := zOi H
        have p420 : 0 ≤ (x5_1 : Int) := of_decide_eq_true (by first | (with_reducible assumption) | assumption)
        have q420 : x5_1 < (l0.length : Int) := of_decide_eq_true (by first | (with_reducible assumption) | assumption)
        obtain ⟨ad420, e420, hx420_0⟩ := zAi HR0.out x5_1 p420 q420
        cases e420
        replace p420 := eq_true p420
        replace q420 := eq_true q420
        have p421 : 0 ≤ (x5_1 : Int) := of_decide_eq_true (by first | (with_reducible assumption) | assumption)
        have q421 : x5_1 < (l1.length : Int) := of_decide_eq_true (by first | (with_reducible assumption) | assumption)
        obtain ⟨ad421, e421, hx421_0⟩ := zAi HR1.out x5_1 p421 q421
        cases e421
        replace p421 := eq_true p421
        replace q421 := eq_true q421
        go_wp2
        repeat (go_quiet (fail); try go_wp2)
        go_ret
        exact ⟨by first | rfl | (simp; done) | (simp [*]; done), by repeat (first | exact Drawn0.refl _ | apply Drawn0.step)⟩
    · rw [if_neg c4] at H
      have c4b0 : decide (x5_1 < (l0.length : Int)) = false := decide_eq_false c4
      clear c4
      obtain rfl := zOi H
      go_wp2
      repeat (go_quiet (fail); try go_wp2)
      go_ret
      exact ⟨by first | rfl | (simp; done) | (simp [*]; done), by repeat (first | exact Drawn0.refl _ | apply Drawn0.step)⟩
  · rw [if_neg c3] at H
    have c3b0 : ((l0.length : Int) == (l1.length : Int)) = false := beq_eq_false_iff_ne.mpr c3
    have c3b1 : ((l0.length : Int) != (l1.length : Int)) = true := bne_iff_ne.mpr c3
    have c3b2 : (l0.length == l1.length) = false := by first | simpa using c3 | (simp at c3 ⊢; omega)
    obtain rfl := zOi H
    go_enter Tryd.func40, Tryd.ntmps40
    go_wp2
    repeat (go_quiet (fail); try go_wp2)
    go_ret
    exact ⟨by first | rfl | (simp; done) | (simp [*]; done), by repeat (first | exact Drawn0.refl _ | apply Drawn0.step)⟩


def r1_Of.f (k : Nat) (a0 : Int) : Option (List Int) := (r1_Norm.f k (([(Go.bits .and .u64 a0 4294967295) % 4294967296, (a0 / 4294967296) % 4294967296] : List Int))).bind fun t727 => (some t727)
set_option maxHeartbeats 8000000 in
set_option maxRecDepth 100000 in
theorem r1_Of.calls (k : Nat) (a0 : Int) (r : List Int) (w : World) (h : r1_Of.f k a0 = some r) :
    Calls Tryd.prog 66 #[.int .u64 a0] w fun e w' => ∃ v0_ : Value, e = .returned (v0_) ∧ Kd.R (Kd.int .u32) 58 w' w.heap.size (fun _ => True) v0_ r ∧ Below w.heap.size w w' := by
  have HB := zMk (Below.refl w.heap.size w)
  have H : ((r1_Norm.f k (([(Go.bits .and .u64 a0 4294967295) % 4294967296, (a0 / 4294967296) % 4294967296] : List Int))).bind fun t727 => (some t727)) = some r := h
  clear h
  obtain ⟨y724, hy724⟩ : ∃ y_ : List Int, y_ = (([(Go.bits .and .u64 a0 4294967295) % 4294967296, (a0 / 4294967296) % 4294967296] : List Int)) := ⟨_, rfl⟩
  replace H : ((r1_Norm.f k y724).bind fun t727 => (some t727)) = some r := by first | (rw [hy724]; with_reducible exact H) | (have H2_ := (zOb _ _).symm.trans H; rw [hy724]; with_reducible exact H2_) | (have H2_ := (zOb _ _).symm.trans H; with_reducible exact H2_) | with_reducible exact H | (rw [hy724]; exact H) | exact H
  have Ny724 := zMk hy724
  clear hy724
  replace H := bnd H
  obtain ⟨t727, A20, H⟩ := H
  have A2 := zMk A20
  clear A20
  obtain rfl := zOi H
  go_enter Tryd.func66, Tryd.ntmps66
  go_wp2_with (first |  ((with_reducible refine gate_dst (N := 9) rfl ?_); refine Kd.R_lit (Kd.int .u32) _ 58 ?hg (N := 9) ?hd (xs := ([(Go.bits .and .u64 a0 4294967295) % 4294967296, (a0 / 4294967296) % 4294967296] : List Int)) (inner := [.int .u32 ((Go.bits .and .u64 a0 4294967295) % 4294967296), .int .u32 ((a0 / 4294967296) % 4294967296)]) (ok := fun _ => True) (okp := fun _ => True) ?hr ?hp (fun _ hk => hk) trivial (Below.refl _ _) (Nat.le_refl _) (by simp) ?_; (case hd => rfl); (case hg => rfl); (case hr => first |  (go_simp; done)|  (go_simp; rfl)|  (go_simp; rw [show ∀ x : Int, IntKind.u32.wrap (IntKind.u8.wrap x) = x % 256 from fun x => (by show (x % 256) % 4294967296 = x % 256; omega)])); (case hp => exact (Reps.one (show Kd.M (Kd.int .u32) _ _ _ ((Go.bits .and .u64 a0 4294967295) % 4294967296) [.int .u32 ((Go.bits .and .u64 a0 4294967295) % 4294967296)] from rfl) (Reps.one (show Kd.M (Kd.int .u32) _ _ _ ((a0 / 4294967296) % 4294967296) [.int .u32 ((a0 / 4294967296) % 4294967296)] from rfl) (Reps.none _ _)))); intro v725 w3 ho4 hb hg_ hnew_; clear hg_ hnew_; (first |  rw [← Ny724.out] at ho4|  (simp only [Int.reduceToNat] at ho4; rw [← Ny724.out] at ho4)); have HO726 := zMk (zRl ho4 (zBs (by exact uT HB.out))); replace HB := zMk (zBt (by exact uT HB.out) hb); clear hb ho4; obtain ⟨Ao5, co5, eo5⟩ := zRs HO726.out; subst eo5)|  ((with_reducible refine gate_callee (f := 63) rfl ?_); refine goesL_ (some 10) rfl rfl Tryd.func63 (by kernel_rfl) rfl #[.slice Ao5 y724.length co5] rfl (by (try simp only [zMa, zMc, zMn]); first |  done|  rfl|  (simp only [zLd, zLt]; rfl)) ?_; (with_reducible refine (r1_Norm.calls k _ _ y724 t727 _ ?side1 ?side2 A2.out).mono ?_); (case side1 => exact uC (zRr HO726.out).2.2); (case side2 => exact (zRr HO726.out).2.1); rintro e w6 ⟨v728, rfl, ho0, hb⟩; refine ⟨_, rfl, ?_⟩; have HO729 := zMk (zRl (zRw ho0 (zRt (by exact uR HO726.out))) (zBs (by exact uT HB.out))); replace HO726 := zMk (zRe (by exact uR HO726.out) (zRz ho0) hb); replace HB := zMk (zBt (by exact uT HB.out) hb); (try clear hb); (try clear hb2); (try clear hk); (try clear hi); (try clear ho0)))
  go_ret
  exact ⟨_, by first | rfl | (simp [errW_none, errW_some] <;> rfl) | (simp [*, errW_none, errW_some] <;> rfl), by (with_reducible repeat (first | apply zRa | apply zRn | apply zRd)); exact zRm HO729.out (fun _ hk => trivial), by exact uT HB.out⟩


def val : List Int → Int
  | [] => 0
  | x :: r => x + 4294967296 * val r
def Limbs (l : List Int) : Prop := ∀ x ∈ l, 0 ≤ x ∧ x < 4294967296
theorem w64 {n : Int} (h : -9223372036854775808 ≤ n) (h' : n ≤ 9223372036854775807) : wrap64 n = n := by unfold wrap64; omega
theorem limbs_of_wf {l : List Int} (h : ∀ x ∈ l, (Lit.int .u32 x).wf = true) : Limbs l := fun x hx => by
  have := Go.bounds_u32 (h x hx)
  omega
theorem Limbs.nil : Limbs [] := fun _ h => by cases h
theorem Limbs.cons {x : Int} {l : List Int} (h : Limbs (x :: l)) : (0 ≤ x ∧ x < 4294967296) ∧ Limbs l := ⟨h x (List.mem_cons_self ..), fun y hy => h y (List.mem_cons_of_mem _ hy)⟩
theorem Limbs.mk {x : Int} {l : List Int} (h0 : 0 ≤ x) (h1 : x < 4294967296) (h : Limbs l) : Limbs (x :: l) := fun y hy => by
  rcases List.mem_cons.1 hy with rfl | hy
  · exact ⟨h0, h1⟩
  · exact h y hy
theorem Limbs.take {l : List Int} (h : Limbs l) (n : Nat) : Limbs (l.take n) := fun x hx => h x (List.mem_of_mem_take hx)
theorem getD_lt (l : List Int) {n : Nat} (h : n < l.length) : l.getD n 0 = l[n] := by rw [List.getD_eq_getElem?_getD, List.getElem?_eq_getElem h, Option.getD_some]
theorem getD_ge (l : List Int) {n : Nat} (h : l.length ≤ n) : l.getD n 0 = 0 := by rw [List.getD_eq_getElem?_getD, List.getElem?_eq_none h, Option.getD_none]
theorem Limbs.getD {l : List Int} (h : Limbs l) (n : Nat) : 0 ≤ l.getD n 0 ∧ l.getD n 0 < 4294967296 := by
  by_cases hn : n < l.length
  · rw [getD_lt _ hn]; exact h _ (List.getElem_mem hn)
  · rw [getD_ge _ (by omega)]; omega
theorem val_append (a b : List Int) : val (a ++ b) = val a + 4294967296 ^ a.length * val b := by
  induction a with
  | nil => simp [val]
  | cons x a ih => simp only [List.cons_append, val, ih, zLc, Int.pow_succ]; rw [Int.mul_add, ← Int.mul_assoc, Int.mul_comm 4294967296 (4294967296 ^ a.length)]; omega
theorem val_nonneg {l : List Int} (h : Limbs l) : 0 ≤ val l := by
  induction l with
  | nil => simp [val]
  | cons x l ih => have := h.cons; have := ih this.2; simp only [val]; omega
theorem val_lt {l : List Int} (h : Limbs l) : val l < 4294967296 ^ l.length := by
  induction l with
  | nil => simp [val]
  | cons x l ih =>
    have h1 := h.cons
    have h2 := ih h1.2
    simp only [val, zLc, Int.pow_succ]
    omega

def Trim (l : List Int) : Prop := l = [] ∨ l.getD (l.length - 1) 0 ≠ 0
theorem Trim.tail {x : Int} {l : List Int} (h : Trim (x :: l)) : Trim l := by
  rcases l with _ | ⟨y, l⟩
  · exact .inl rfl
  · rcases h with h | h
    · cases h
    · exact .inr (by simpa using h)
theorem val_pos {l : List Int} (h : Limbs l) (ht : Trim l) (hn : l ≠ []) : 0 < val l := by
  induction l with
  | nil => exact absurd rfl hn
  | cons x l ih =>
    have h1 := h.cons
    rcases l with _ | ⟨y, l⟩
    · rcases ht with ht | ht
      · cases ht
      · simp [val] at ht ⊢; omega
    · have := ih h1.2 ht.tail (by simp)
      simp only [val] at this ⊢
      omega
theorem val_inj {a : List Int} : ∀ {b : List Int}, Limbs a → Trim a → Limbs b → Trim b → val a = val b → a = b := by
  induction a with
  | nil =>
    intro b _ _ hb tb h
    by_cases hn : b = []
    · exact hn.symm
    · have := val_pos hb tb hn
      simp only [val] at h
      omega
  | cons x a ih =>
    intro b ha ta hb tb h
    rcases b with _ | ⟨y, b⟩
    · have := val_pos ha ta (by simp)
      simp only [val] at h this
      omega
    · have h1 := ha.cons
      have h2 := hb.cons
      simp only [val] at h
      have h3 : x = y := by omega
      have h4 : val a = val b := by omega
      rw [h3, ih h1.2 ta.tail h2.2 tb.tail h4]

theorem cutLen_trim (l : List Int) : ∀ n, cutLen l n = 0 ∨ l.getD (cutLen l n - 1) 0 ≠ 0
  | 0 => .inl rfl
  | n + 1 => by
    simp only [cutLen]
    split
    · exact cutLen_trim l n
    · rename_i h
      exact .inr (by simpa using h)
theorem val_cutLen (l : List Int) : ∀ n, n ≤ l.length → val (l.take (cutLen l n)) = val (l.take n)
  | 0, _ => by simp [cutLen]
  | n + 1, h => by
    simp only [cutLen]
    split
    · rename_i h0
      rw [val_cutLen l n (by omega), List.take_succ_eq_append_getElem (by omega), val_append]
      rw [getD_lt _ (by omega)] at h0
      simp [val, h0]
    · rfl
def cut (l : List Int) : List Int := l.take (cutLen l l.length)
theorem cut_length (l : List Int) : (cut l).length ≤ l.length := by unfold cut; rw [zLt]; omega
theorem cut_len (l : List Int) : (cut l).length = cutLen l l.length := by have := cutLen_le l l.length; unfold cut; rw [zLt]; omega
theorem cut_limbs {l : List Int} (h : Limbs l) : Limbs (cut l) := h.take _
theorem cut_val (l : List Int) : val (cut l) = val l := by unfold cut; rw [val_cutLen l _ (Nat.le_refl _), List.take_length]
theorem cut_trim (l : List Int) : Trim (cut l) := by
  have h1 := cut_len l
  rcases cutLen_trim l l.length with h | h
  · exact .inl (List.eq_nil_of_length_eq_zero (by omega))
  · by_cases h0 : cutLen l l.length = 0
    · exact .inl (List.eq_nil_of_length_eq_zero (by omega))
    · refine .inr ?_
      rw [h1]
      unfold cut
      rw [List.getD_eq_getElem?_getD, List.getElem?_take, if_pos (by omega), ← List.getD_eq_getElem?_getD]
      exact h
theorem cut_f (l : List Int) : n_cut.f l = some (cut l) := rfl
theorem rd_nat (l : List Int) (n : Nat) : rd l (n : Int) = l.getD n 0 := by simp [rd]

theorem same_l0 (l : List Int) (hl : l.length < 4611686018427387904) : ∀ (m k : Nat), m ≤ l.length → l.length - m < k → r1_Same.l0 k l l (m : Int) = some true := by
  intro m k
  induction k generalizing m with
  | zero => intro _ h; omega
  | succ k ih =>
    intro hm hk
    simp only [r1_Same.l0]
    by_cases h : (m : Int) < (l.length : Int)
    · simp only [h, if_true, show (0 : Int) ≤ (m : Int) from by omega, w64 (n := (m : Int) + 1) (by omega) (by omega)]
      exact ih (m + 1) (by omega) (by omega)
    · rw [if_neg h]
theorem same_f (l : List Int) (hl : l.length < 4611686018427387904) (k : Nat) (hk : l.length < k) : r1_Same.f k l l = some true := by
  unfold r1_Same.f
  rw [if_pos rfl]
  exact same_l0 l hl 0 k (by omega) (by omega)
theorem norm_l0 (l : List Int) (hl : l.length < 35184372088832) : ∀ (n k : Nat), n ≤ l.length → n < k → r1_Norm.l0 k l (n : Int) = some (l.take (cutLen l n)) := by
  intro n k
  induction k generalizing n with
  | zero => intro _ h; omega
  | succ k ih =>
    intro hn hk
    simp only [r1_Norm.l0]
    rcases n with _ | n
    · rw [if_neg (by omega)]
      simp only [zOb]
      rw [if_pos (by omega), if_pos (by omega), if_pos (by simp)]
      simp [cutLen]
    · rw [if_pos (by omega), w64 (by omega) (by omega), show ((n + 1 : Nat) : Int) - 1 = (n : Int) from by omega, if_pos (by omega), if_pos (by omega), rd_nat]
      simp only [cutLen]
      by_cases h : l.getD n 0 = 0
      · rw [if_pos h, if_pos h]
        exact ih n (by omega) (by omega)
      · rw [if_neg h, if_neg h]
        simp only [zOb]
        rw [if_pos (by omega), if_pos (by omega), if_pos (by simp; omega)]
        simp
theorem norm_f (l : List Int) (hl : l.length < 35184372088832) (k : Nat) (hk : l.length < k) : r1_Norm.f k l = some (cut l) := norm_l0 l hl l.length k (Nat.le_refl _) hk
theorem clone_f (l : List Int) (hl : l.length < 35184372088832) : slices_Clone_uint32_uint32.f l = some l := if_pos hl
theorem nnorm_f (l : List Int) (hl : l.length < 35184372088832) : n_Norm.f l = some (cut l) := by
  unfold n_Norm.f
  rw [cut_f, zOb, clone_f _ (by have := cut_length l; omega)]
  rfl
def of2 (a : Int) : List Int := cut [a % 4294967296, a / 4294967296]
theorem of_f (a : Int) (h0 : 0 ≤ a) (h1 : a < 18446744073709551616) : n_Of.f a = some (of2 a) := by
  unfold n_Of.f
  rw [show (a / 4294967296) % 4294967296 = a / 4294967296 from by omega]
  rfl

theorem val_take_succ (l : List Int) (n : Nat) (h : n < l.length) : val (l.take (n + 1)) = val (l.take n) + 4294967296 ^ n * l.getD n 0 := by
  rw [List.take_succ_eq_append_getElem h, val_append, zLt, Nat.min_eq_left (by omega), getD_lt _ h]
  simp [val]
theorem val_ge {l : List Int} (h : Limbs l) (ht : Trim l) (hn : l ≠ []) : (4294967296 : Int) ^ (l.length - 1) ≤ val l := by
  obtain ⟨n, hn'⟩ : ∃ n, l.length = n + 1 := ⟨l.length - 1, by have : l.length ≠ 0 := fun h0 => hn (List.eq_nil_of_length_eq_zero h0); omega⟩
  have h1 := val_take_succ l n (by omega)
  rw [← hn', List.take_length] at h1
  have h2 : l.getD n 0 ≠ 0 := by
    rcases ht with ht | ht
    · exact absurd ht hn
    · rw [hn'] at ht; exact ht
  have h3 := h.getD n
  have h4 := val_nonneg (h.take n)
  have h5 : (4294967296 : Int) ^ n * 1 ≤ 4294967296 ^ n * l.getD n 0 := Int.mul_le_mul_of_nonneg_left (by omega) (Int.le_of_lt (Int.pow_pos (by decide)))
  rw [h1, show l.length - 1 = n by omega]
  omega
theorem pow_up {m n : Nat} (h : m ≤ n) : (4294967296 : Int) ^ m ≤ 4294967296 ^ n := by
  obtain ⟨d, rfl⟩ := Nat.exists_eq_add_of_le h
  rw [Int.pow_add]
  have h1 : (0 : Int) < 4294967296 ^ d := Int.pow_pos (by decide)
  have h2 : (0 : Int) < 4294967296 ^ m := Int.pow_pos (by decide)
  have := Int.mul_le_mul_of_nonneg_left (show (1 : Int) ≤ 4294967296 ^ d by omega) (Int.le_of_lt h2)
  rw [Int.mul_one] at this
  exact this
theorem wraps_u64 (n : Int) (h₀ : 0 ≤ n) (h₁ : n < 2 ^ 64) : IntKind.u64.wrap n = n := by show n % 18446744073709551616 = n; omega
structure IsNum (l : List Int) (n : Int) : Prop where
  limbs : Limbs l
  trim : Trim l
  eq : val l = n
theorem IsNum.unique {a b : List Int} {n : Int} (ha : IsNum a n) (hb : IsNum b n) : a = b := val_inj ha.limbs ha.trim hb.limbs hb.trim (ha.eq.trans hb.eq.symm)
theorem IsNum.cut {l : List Int} (h : Limbs l) : IsNum (cut l) (val l) := ⟨cut_limbs h, cut_trim l, cut_val l⟩
theorem IsNum.nonneg {l : List Int} {n : Int} (h : IsNum l n) : 0 ≤ n := by rw [← h.eq]; exact val_nonneg h.limbs
theorem getD_set_ne (l : List Int) {m n : Nat} (v : Int) (h : m ≠ n) : (l.set m v).getD n 0 = l.getD n 0 := by rw [List.getD_eq_getElem?_getD, List.getElem?_set_ne h, ← List.getD_eq_getElem?_getD]
theorem val_set (l : List Int) : ∀ (n : Nat) (v : Int), n < l.length → val (l.set n v) = val l + 4294967296 ^ n * (v - l.getD n 0) := by
  induction l with
  | nil => intro n v h; exact absurd h (by simp)
  | cons x l ih =>
    intro n v h
    rcases n with _ | n
    · simp only [zSb, val, List.getD_cons_zero, Int.pow_zero]; omega
    · have := ih n v (by simpa using h)
      simp only [zSc, val, List.getD_cons_succ, this, Int.pow_succ]
      grind
theorem Limbs.set {l : List Int} (h : Limbs l) (n : Nat) {v : Int} (h0 : 0 ≤ v) (h1 : v < 4294967296) : Limbs (l.set n v) := fun x hx => by
  rcases List.mem_or_eq_of_mem_set hx with hx | rfl
  · exact h x hx
  · exact ⟨h0, h1⟩
theorem getD_of_lt {l : List Int} : ∀ {m n : Nat}, Limbs l → val l < 4294967296 ^ n → n ≤ m → l.getD m 0 = 0 := by
  induction l with
  | nil => intro m n _ _ _; rfl
  | cons x l ih =>
    intro m n hl h hmn
    have h1 := hl.cons
    have h2 := val_nonneg h1.2
    simp only [val] at h
    rcases n with _ | n
    · rw [Int.pow_zero] at h
      have hx : x = 0 := by omega
      have hv : val l = 0 := by omega
      rcases m with _ | m
      · simpa using hx
      · rw [List.getD_cons_succ]
        exact ih (n := 0) h1.2 (by rw [hv]; decide) (by omega)
    · rcases m with _ | m
      · omega
      · rw [List.getD_cons_succ]
        refine ih (n := n) h1.2 ?_ (by omega)
        rw [Int.pow_succ] at h
        omega
theorem limbs_replicate (n : Nat) : Limbs (List.replicate n 0) := fun x hx => by rw [List.eq_of_mem_replicate hx]; omega
theorem val_replicate (n : Nat) : val (List.replicate n 0) = 0 := by
  induction n with
  | zero => rfl
  | succ n ih => simp only [List.replicate_succ, val, ih]; rfl

theorem mul_l1 (b : List Int) (hb : Limbs b) (x : Int) (hx : 0 ≤ x ∧ x < 4294967296) (i : Nat) (X : List Int) (n p : Int) (N : Nat) (hN : N < 70368744177665) (hi : i + b.length < N) (T : Int) :
    ∀ (j m k : Nat) (O : List Int) (c : Int), m + j = b.length → O.length = N → Limbs O → 0 ≤ c → c < 4294967296 → O.getD (i + b.length) 0 = 0 →
    val O + c * 4294967296 ^ (i + m) + x * (val b - val (b.take m)) * 4294967296 ^ i = T →
    ∃ O', O'.length = N ∧ Limbs O' ∧ val O' = T ∧ n_Mul.l1 (k + j + 1) b O (i : Int) x c X n p b (b.length : Int) (m : Int) = n_Mul.l0 k b O' X n (wrap64 (p + 1)) := by
  intro j
  induction j with
  | zero =>
    intro m k O c hm hO lO hc0 hc1 hz hT
    obtain rfl : m = b.length := by omega
    refine ⟨O.set (i + b.length) c, by rw [List.length_set]; exact hO, lO.set _ hc0 hc1, ?_, ?_⟩
    · rw [val_set _ _ _ (by omega), hz]
      rw [List.take_length] at hT
      grind
    · rw [n_Mul.l1, if_neg (by omega), w64 (by omega) (by omega), if_pos (by omega), if_pos (by omega), show c % 4294967296 = c from by omega]
      rfl
  | succ j ih =>
    intro m k O c hm hO lO hc0 hc1 hz hT
    have hbm := hb.getD m
    have hom := lO.getD (i + m)
    obtain ⟨s, hs⟩ : ∃ s, s = x * b.getD m 0 + O.getD (i + m) 0 + c := ⟨_, rfl⟩
    have hxb : 0 ≤ x * b.getD m 0 := Int.mul_nonneg hx.1 hbm.1
    have hxb2 : x * b.getD m 0 ≤ 4294967295 * 4294967295 := Int.mul_le_mul (by omega) (by omega) hbm.1 (by decide)
    have e1 : IntKind.u64.wrap ((IntKind.u64.wrap ((IntKind.u64.wrap ((IntKind.u64.wrap x) * (IntKind.u64.wrap (rd b (m : Int))))) + (IntKind.u64.wrap (rd O ((i + m : Nat) : Int))))) + c) = s := by
      rw [rd_nat, rd_nat, wraps_u64 x (by omega) (by omega), wraps_u64 (b.getD m 0) (by omega) (by omega), wraps_u64 (O.getD (i + m) 0) (by omega) (by omega), wraps_u64 (x * b.getD m 0) (by omega) (by omega), wraps_u64 (x * b.getD m 0 + O.getD (i + m) 0) (by omega) (by omega), wraps_u64 (x * b.getD m 0 + O.getD (i + m) 0 + c) (by omega) (by omega), hs]
    have hs0 : 0 ≤ s ∧ s < 18446744073709551616 := by omega
    obtain ⟨O', h1, h2, h3, h4⟩ := ih (m + 1) k (O.set (i + m) (s % 4294967296)) (s / 4294967296) (by omega) (by rw [List.length_set]; exact hO) (lO.set _ (by omega) (by omega)) (by omega) (by omega) (by rw [getD_set_ne _ _ (by omega)]; exact hz) (by
      rw [val_set _ _ _ (by omega), val_take_succ b m (by omega), ← hT, show i + (m + 1) = (i + m) + 1 by omega, Int.pow_succ, Int.pow_add]
      have := Int.emod_add_mul_ediv s 4294967296
      grind)
    refine ⟨O', h1, h2, h3, ?_⟩
    rw [show k + (j + 1) + 1 = (k + j + 1) + 1 by omega, n_Mul.l1, if_pos (by omega), if_pos (by omega), if_pos (by omega), w64 (n := (i : Int) + (m : Int)) (by omega) (by omega), if_pos (by omega), if_pos (by omega), w64 (n := (m : Int) + 1) (by omega) (by omega), show ((i : Int) + (m : Int)) = ((i + m : Nat) : Int) by omega, e1, zTn, show ((m : Int) + 1) = ((m + 1 : Nat) : Int) by omega]
    exact h4
theorem mul_l0 (a b : List Int) (ha : Limbs a) (hb : Limbs b) (N : Nat) (hN : N < 70368744177665) (hab : a.length + b.length = N) :
    ∀ (j m k : Nat) (O : List Int), m + j = a.length → O.length = N → Limbs O → val O = val (a.take m) * val b →
    ∃ r, n_Mul.l0 (k + (b.length + 2) * j + 1) b O a (a.length : Int) (m : Int) = some r ∧ IsNum r (val a * val b) ∧ r.length ≤ N := by
  intro j
  induction j with
  | zero =>
    intro m k O hm hO lO hv
    refine ⟨cut O, ?_, ?_, by have := cut_length O; omega⟩
    · rw [n_Mul.l0, if_neg (by omega)]
      rfl
    · have := IsNum.cut lO
      rw [hv, List.take_of_length_le (by omega)] at this
      exact this
  | succ j ih =>
    intro m k O hm hO lO hv
    have ham := ha.getD m
    have hlt : val O < 4294967296 ^ (m + b.length) := by
      rw [hv, Int.pow_add]
      have h1 := val_lt (ha.take m)
      have h2 := val_lt hb
      have h3 := val_nonneg (ha.take m)
      have h4 := val_nonneg hb
      rw [zLt, Nat.min_eq_left (by omega)] at h1
      exact Int.lt_of_le_of_lt (Int.mul_le_mul_of_nonneg_right (Int.le_of_lt h1) h4) (Int.mul_lt_mul_of_pos_left h2 (Int.pow_pos (by decide)))
    obtain ⟨O', h1, h2, h3, h4⟩ := mul_l1 b hb (a.getD m 0) ham m a (a.length : Int) (m : Int) N hN (by omega) (val (a.take (m + 1)) * val b) b.length 0 (k + (b.length + 2) * j + 1) O 0 (by omega) hO lO (by omega) (by omega) (getD_of_lt lO hlt (Nat.le_refl _)) (by
      rw [hv, val_take_succ a m (by omega)]
      simp only [List.take_zero, val]
      grind)
    obtain ⟨r, h5, h6, h7⟩ := ih (m + 1) k O' (by omega) h1 h2 h3
    refine ⟨r, ?_, h6, h7⟩
    rw [show k + (b.length + 2) * (j + 1) + 1 = ((k + (b.length + 2) * j + 1) + b.length + 1) + 1 by rw [Nat.mul_add]; omega, n_Mul.l0, if_pos (by omega), if_pos (by omega), if_pos (by omega), rd_nat]
    rw [show ((0 : Nat) : Int) = 0 from rfl] at h4
    rw [h4, w64 (by omega) (by omega)]
    exact h5
theorem mul_f (a b : List Int) (ha : Limbs a) (hb : Limbs b) (hN : a.length + b.length < 70368744177665) (k : Nat) (hk : (b.length + 2) * a.length + 1 ≤ k) :
    ∃ r, n_Mul.f k a b = some r ∧ IsNum r (val a * val b) ∧ r.length ≤ a.length + b.length := by
  have ca := cut_length a
  have cb := cut_length b
  have h0 : ((cut b).length + 2) * (cut a).length + 1 ≤ k := Nat.le_trans (Nat.succ_le_succ (Nat.mul_le_mul (by omega) ca)) hk
  obtain ⟨d, rfl⟩ : ∃ d, k = d + ((cut b).length + 2) * (cut a).length + 1 := ⟨k - (((cut b).length + 2) * (cut a).length + 1), by omega⟩
  obtain ⟨r, h1, h2, h3⟩ := mul_l0 (cut a) (cut b) (cut_limbs ha) (cut_limbs hb) ((cut a).length + (cut b).length) (by omega) rfl (cut a).length 0 d (List.replicate ((cut a).length + (cut b).length) 0) (by omega) (by simp) (limbs_replicate _) (by rw [val_replicate]; simp [val])
  refine ⟨r, ?_, by rw [cut_val, cut_val] at h2; exact h2, by omega⟩
  unfold n_Mul.f
  rw [cut_f, zOb, cut_f, zOb, w64 (by omega) (by omega), if_pos (by omega), show ((cut a).length : Int) + ((cut b).length : Int) = (((cut a).length + (cut b).length : Nat) : Int) by omega, zTn, if_pos (by omega)]
  exact h1
def Bits (l : List Int) : Prop := ∀ x ∈ l, x = 0 ∨ x = 1
theorem Bits.tail {x : Int} {l : List Int} (h : Bits (x :: l)) : (x = 0 ∨ x = 1) ∧ Bits l := ⟨h x (List.mem_cons_self ..), fun y hy => h y (List.mem_cons_of_mem _ hy)⟩
theorem Bits.nil : Bits [] := fun _ h => by cases h
theorem Bits.append {a b : List Int} (ha : Bits a) (hb : Bits b) : Bits (a ++ b) := fun x hx => by
  rcases List.mem_append.1 hx with h | h
  · exact ha x h
  · exact hb x h
theorem Bits.one {x : Int} (h : x = 0 ∨ x = 1) : Bits [x] := fun y hy => by rw [List.mem_singleton] at hy; rw [hy]; exact h
theorem Bits.take {l : List Int} (h : Bits l) (n : Nat) : Bits (l.take n) := fun x hx => h x (List.mem_of_mem_take hx)
theorem Bits.getD {l : List Int} (h : Bits l) (n : Nat) : l.getD n 0 = 0 ∨ l.getD n 0 = 1 := by
  by_cases hn : n < l.length
  · rw [getD_lt _ hn]; exact h _ (List.getElem_mem hn)
  · rw [getD_ge _ (by omega)]; exact .inl rfl



theorem add32_f (x y c : Int) (hx : 0 ≤ x ∧ x < 4294967296) (hy : 0 ≤ y ∧ y < 4294967296) (hc : c = 0 ∨ c = 1) :
    ∃ d b : Int, bits_Add32.f x y c = some (d, b) ∧ 0 ≤ d ∧ d < 4294967296 ∧ (b = 0 ∨ b = 1) ∧ x + y + c = d + 4294967296 * b := by
  have e : IntKind.u64.wrap ((IntKind.u64.wrap ((IntKind.u64.wrap (x)) + (IntKind.u64.wrap (y)))) + (IntKind.u64.wrap (c))) = x + y + c := by
    rw [wraps_u64 x (by omega) (by omega), wraps_u64 y (by omega) (by omega), wraps_u64 (x + y) (by omega) (by omega), wraps_u64 c (by omega) (by omega), wraps_u64 (x + y + c) (by omega) (by omega)]
  refine ⟨(x + y + c) % 4294967296, (x + y + c) / 4294967296, ?_, by omega, by omega, by omega, by omega⟩
  unfold bits_Add32.f
  rw [e, show (x + y + c) / 4294967296 % 4294967296 = (x + y + c) / 4294967296 by omega]
theorem val_take_succ' (l : List Int) (n : Nat) : val (l.take (n + 1)) = val (l.take n) + 4294967296 ^ n * l.getD n 0 := by
  by_cases h : n < l.length
  · exact val_take_succ l n h
  · rw [List.take_of_length_le (by omega), List.take_of_length_le (by omega), getD_ge _ (by omega)]
    omega
theorem add_l0 (x0 a b : List Int) (ha : Limbs a) (hb : Limbs b) (hx : x0.length = a.length) (hba : b.length ≤ a.length) (hN : a.length < 35184372088832) :
    ∀ (j m k : Nat) (O : List Int) (c : Int), m + j = a.length → O.length = a.length + 1 → Limbs O → (c = 0 ∨ c = 1) → (∀ i, m ≤ i → O.getD i 0 = 0) → val O + c * 4294967296 ^ m = val (a.take m) + val (b.take m) →
    ∃ r, n_Add.l0 (k + j + 1) x0 b O c a (a.length : Int) (m : Int) = some r ∧ IsNum r (val a + val b) ∧ r.length ≤ a.length + 1 := by
  intro j
  induction j with
  | zero =>
    intro m k O c hm hO lO hc hz hT
    obtain rfl : m = a.length := by omega
    refine ⟨cut (O.set a.length c), ?_, ?_, by have := cut_length (O.set a.length c); rw [List.length_set] at this; omega⟩
    · rw [n_Add.l0, if_neg (by omega), if_pos (by omega), if_pos (by omega), cut_f, hx]
      rfl
    · have := IsNum.cut (lO.set a.length (v := c) (by omega) (by omega))
      rw [val_set _ _ _ (by omega), hz _ (Nat.le_refl _)] at this
      rw [List.take_length, List.take_of_length_le hba] at hT
      rw [show val O + 4294967296 ^ a.length * (c - 0) = val a + val b by rw [← hT]; grind] at this
      exact this
  | succ j ih =>
    intro m k O c hm hO lO hc hz hT
    obtain ⟨d, c', e, d0, d1, hc', hd⟩ := add32_f (a.getD m 0) (b.getD m 0) c (ha.getD m) (hb.getD m) hc
    obtain ⟨r, h1, h2, h3⟩ := ih (m + 1) k (O.set m d) c' (by omega) (by rw [List.length_set]; exact hO) (lO.set _ d0 d1) hc' (fun i hi => by rw [getD_set_ne _ _ (by omega)]; exact hz i (by omega)) (by
      rw [val_set _ _ _ (by omega), hz m (Nat.le_refl _), val_take_succ' b m, val_take_succ' a m, Int.pow_succ]
      grind)
    refine ⟨r, ?_, h2, h3⟩
    rw [show k + (j + 1) + 1 = (k + j + 1) + 1 by omega, n_Add.l0, if_pos (by omega), if_pos (by omega), if_pos (by omega)]
    by_cases hbm : (m : Int) < (b.length : Int)
    · rw [if_pos hbm, rd_nat, rd_nat, e, zOb, if_pos (by omega), w64 (by omega) (by omega), zTn, show ((m : Int) + 1) = ((m + 1 : Nat) : Int) by omega]
      exact h1
    · rw [getD_ge b (by omega)] at e
      rw [if_neg hbm, rd_nat, e, zOb, if_pos (by omega), w64 (by omega) (by omega), zTn, show ((m : Int) + 1) = ((m + 1 : Nat) : Int) by omega]
      exact h1
theorem add_j0 (a b : List Int) (ha : Limbs a) (hb : Limbs b) (hba : b.length ≤ a.length) (hN : a.length < 35184372088832) (k : Nat) (hk : a.length + 2 ≤ k) :
    ∃ r, n_Add.j0 k a b = some r ∧ IsNum r (val a + val b) ∧ r.length ≤ a.length + 1 := by
  obtain ⟨d, rfl⟩ : ∃ d, k = (d + a.length + 1) + 1 := ⟨k - (a.length + 2), by omega⟩
  obtain ⟨r, h1, h2, h3⟩ := add_l0 a a b ha hb rfl hba hN a.length 0 d (List.replicate (a.length + 1) 0) 0 (by omega) (by simp) (limbs_replicate _) (.inl rfl) (fun i _ => by
    by_cases hi : i < a.length + 1
    · rw [getD_lt _ (by simpa using hi)]; simp
    · rw [getD_ge _ (by simp; omega)]) (by rw [val_replicate]; simp [val])
  refine ⟨r, ?_, h2, h3⟩
  rw [n_Add.j0, w64 (by omega) (by omega), if_pos (by omega), show ((a.length : Int) + 1) = ((a.length + 1 : Nat) : Int) by omega, zTn, if_pos (by omega)]
  exact h1
theorem add_f (a b : List Int) (ha : Limbs a) (hb : Limbs b) (la : a.length < 35184372088832) (lb : b.length < 35184372088832) (k : Nat) (hka : a.length + 2 ≤ k) (hkb : b.length + 2 ≤ k) :
    ∃ r, n_Add.f k a b = some r ∧ IsNum r (val a + val b) ∧ r.length ≤ max a.length b.length + 1 := by
  unfold n_Add.f
  have ca := cut_length a
  have cb := cut_length b
  rw [cut_f, zOb, cut_f, zOb]
  by_cases h : ((cut a).length : Int) < ((cut b).length : Int)
  · obtain ⟨r, h1, h2, h3⟩ := add_j0 (cut b) (cut a) (cut_limbs hb) (cut_limbs ha) (by omega) (by omega) k (by omega)
    rw [cut_val, cut_val, Int.add_comm] at h2
    exact ⟨r, by rw [if_pos h]; exact h1, h2, by omega⟩
  · obtain ⟨r, h1, h2, h3⟩ := add_j0 (cut a) (cut b) (cut_limbs ha) (cut_limbs hb) (by omega) (by omega) k (by omega)
    rw [cut_val, cut_val] at h2
    exact ⟨r, by rw [if_neg h]; exact h1, h2, by omega⟩



@[irreducible] def Bp (n : Nat) : Int := (4294967296 : Int) ^ n
theorem pow_upB {m n : Nat} (h : m ≤ n) : Bp m ≤ Bp n := by unfold Bp; exact pow_up h
theorem val_geB {l : List Int} (h : Limbs l) (ht : Trim l) (hn : l ≠ []) : Bp (l.length - 1) ≤ val l := by unfold Bp; exact val_ge h ht hn
theorem Limbs.drop {l : List Int} (h : Limbs l) (n : Nat) : Limbs (l.drop n) := fun x hx => h x (List.mem_of_mem_drop hx)
theorem Limbs.append {a b : List Int} (ha : Limbs a) (hb : Limbs b) : Limbs (a ++ b) := fun x hx => by
  rcases List.mem_append.1 hx with h | h
  · exact ha x h
  · exact hb x h
theorem len_of_lt {l : List Int} {v : Int} {m : Nat} (h : IsNum l v) (hv : v < Bp m) : l.length ≤ m := by
  rcases Nat.lt_or_ge m l.length with hlt | hge
  · have h1 := val_geB h.limbs h.trim (by intro h0; rw [h0] at hlt; exact absurd hlt (by simp))
    have h2 : Bp m ≤ Bp (l.length - 1) := pow_upB (by omega)
    rw [h.eq] at h1
    omega
  · exact hge
theorem IsNum.nil : IsNum [] 0 := ⟨Limbs.nil, .inl rfl, rfl⟩

def integer_Sub.f (k : Nat) (a0_0 : Bool) (l0_1 : List Int) (a1_0 : Bool) (l1_1 : List Int) : Option (Bool × List Int) := (integer_Neg.f a1_0 l1_1).bind fun bt884 => ((integer_Add.f k a0_0 l0_1 bt884.1 bt884.2).bind fun bt888 => (some (bt888.1, bt888.2)))
set_option maxHeartbeats 8000000 in
set_option maxRecDepth 100000 in
theorem integer_Sub.calls (k : Nat) (a0_0 : Bool) (A0_1 : Option Addr) (c0_1 : Nat) (l0_1 : List Int) (a1_0 : Bool) (A1_1 : Option Addr) (c1_1 : Nat) (l1_1 : List Int) (r1 : Bool) (r2 : List Int) (w : World) (hr0_1 : Kd.C (Kd.int .u32) w A0_1 l0_1.length l0_1) (hc0_1 : l0_1.length ≤ c0_1) (hr1_1 : Kd.C (Kd.int .u32) w A1_1 l1_1.length l1_1) (hc1_1 : l1_1.length ≤ c1_1) (h : integer_Sub.f k a0_0 l0_1 a1_0 l1_1 = some (r1, r2)) :
    Calls Tryd.prog 19 #[.agg #[.bool a0_0, .slice A0_1 l0_1.length c0_1], .agg #[.bool a1_0, .slice A1_1 l1_1.length c1_1]] w fun e w' => ∃ v1_ : Value, e = .returned (.agg #[.bool r1, v1_]) ∧ Kd.R (Kd.int .u32) 58 w' w.heap.size (fun _ => True) v1_ r2 ∧ Below w.heap.size w w' := by
  have hu24 := Tryd.underlying24
  have HR0_1 := zMk hr0_1
  have HC0_1 := zMk hc0_1
  clear hr0_1 hc0_1
  have HR1_1 := zMk hr1_1
  have HC1_1 := zMk hc1_1
  clear hr1_1 hc1_1
  have HB := zMk (Below.refl w.heap.size w)
  have H : ((integer_Neg.f a1_0 l1_1).bind fun bt884 => ((integer_Add.f k a0_0 l0_1 bt884.1 bt884.2).bind fun bt888 => (some (bt888.1, bt888.2)))) = some (r1, r2) := h
  clear h
  replace H := bnd H
  obtain ⟨⟨t884, t885⟩, A30, H⟩ := H
  replace H : ((integer_Add.f k a0_0 l0_1 t884 t885).bind fun bt888 => (some (bt888.1, bt888.2))) = some (r1, r2) := H
  have A3 := zMk A30
  clear A30
  replace H := bnd H
  obtain ⟨⟨t888, t889⟩, A40, H⟩ := H
  replace H : (some (t888, t889)) = some (r1, r2) := H
  have A4 := zMk A40
  clear A40
  simp only [Option.some.injEq, Prod.mk.injEq] at H
  obtain ⟨rfl, rfl⟩ := H
  go_enter Tryd.func19, Tryd.ntmps19
  try go_wp2_with (first |  ((with_reducible refine gate_dst (N := 2) rfl ?_); refine box_event ?hg (N := 2) ?hd (cs := #[.bool a0_0, .slice A0_1 l0_1.length c0_1]) (t := 24) ?hr ?_; (case hd => rfl); (case hg => rfl); (case hr => first |  (go_simp; done)|  (go_simp; rfl)|  (go_simp; rw [show ∀ x : Int, IntKind.u32.wrap (IntKind.u8.wrap x) = x % 256 from fun x => (by show (x % 256) % 4294967296 = x % 256; omega)])); intro gb881 hg w5 hbox hb; have BK881 := zMk (hbox); have GW881 := zMk ((by rw [hg]; exact (zBs (by exact uT HB.out)) : w.heap.size ≤ gb881)); have GE881 := zMk ((by rw [hg]; exact (zBs (by exact uT HB.out)) : w.heap.size ≤ gb881)); have IGE881 := ownGe GE881.out; replace HB := zMk (zBt (by exact uT HB.out) hb); clear hb hbox hg)|  ((with_reducible refine gate_dst (N := 3) rfl ?_); refine box_event ?hg (N := 3) ?hd (cs := #[.bool a1_0, .slice A1_1 l1_1.length c1_1]) (t := 24) ?hr ?_; (case hd => rfl); (case hg => rfl); (case hr => first |  (go_simp; done)|  (go_simp; rfl)|  (go_simp; rw [show ∀ x : Int, IntKind.u32.wrap (IntKind.u8.wrap x) = x % 256 from fun x => (by show (x % 256) % 4294967296 = x % 256; omega)])); intro gb882 hg w6 hbox hb; have BK882 := zMk (hbox); have GW882 := zMk ((by rw [hg]; exact (zBs (by exact uT HB.out)) : w.heap.size ≤ gb882)); have GE882 := zMk ((by rw [hg]; exact (zBs (by exact uT HB.out)) : w.heap.size ≤ gb882)); have IGE882 := ownGe GE882.out; replace HB := zMk (zBt (by exact uT HB.out) hb); have NB881_882 := zMk ((by rw [hg]; exact Nat.ne_of_lt (blk_lt (g := gb881) (o := .cells #[.bool a0_0, .slice A0_1 l0_1.length c0_1] 24 (0, 0)) (by (with_reducible repeat (first |  refine zKn ?_ _|  refine zKd ?_|  refine zKa ?_ _)); exact BK881.out)) : gb881 ≠ gb882)); have NB882_881 := zMk ((by rw [hg]; exact Nat.ne_of_gt (blk_lt (g := gb881) (o := .cells #[.bool a0_0, .slice A0_1 l0_1.length c0_1] 24 (0, 0)) (by (with_reducible repeat (first |  refine zKn ?_ _|  refine zKd ?_|  refine zKa ?_ _)); exact BK881.out)) : gb882 ≠ gb881)); replace BK881 := zMk (zKb (g := gb881) (o := .cells #[.bool a0_0, .slice A0_1 l0_1.length c0_1] 24 (0, 0)) (by (with_reducible repeat (first |  refine zKn ?_ _|  refine zKd ?_|  refine zKa ?_ _)); exact BK881.out) hb); clear hb hbox hg)|  ((with_reducible refine gate_dst (N := 4) rfl ?_); refine box_event ?hg (N := 4) ?hd (cs := #[.bool false, .slice none 0 0]) (t := 24) ?hr ?_; (case hd => rfl); (case hg => rfl); (case hr => first |  (go_simp; done)|  (go_simp; rfl)|  (go_simp; rw [show ∀ x : Int, IntKind.u32.wrap (IntKind.u8.wrap x) = x % 256 from fun x => (by show (x % 256) % 4294967296 = x % 256; omega)])); intro gb883 hg w7 hbox hb; have BK883 := zMk (hbox); have GW883 := zMk ((by rw [hg]; exact (zBs (by exact uT HB.out)) : w.heap.size ≤ gb883)); have GE883 := zMk ((by rw [hg]; exact (zBs (by exact uT HB.out)) : w.heap.size ≤ gb883)); have IGE883 := ownGe GE883.out; replace HB := zMk (zBt (by exact uT HB.out) hb); have NB881_883 := zMk ((by rw [hg]; exact Nat.ne_of_lt (blk_lt (g := gb881) (o := .cells #[.bool a0_0, .slice A0_1 l0_1.length c0_1] 24 (0, 0)) (by (with_reducible repeat (first |  refine zKn ?_ _|  refine zKd ?_|  refine zKa ?_ _)); exact BK881.out)) : gb881 ≠ gb883)); have NB883_881 := zMk ((by rw [hg]; exact Nat.ne_of_gt (blk_lt (g := gb881) (o := .cells #[.bool a0_0, .slice A0_1 l0_1.length c0_1] 24 (0, 0)) (by (with_reducible repeat (first |  refine zKn ?_ _|  refine zKd ?_|  refine zKa ?_ _)); exact BK881.out)) : gb883 ≠ gb881)); replace BK881 := zMk (zKb (g := gb881) (o := .cells #[.bool a0_0, .slice A0_1 l0_1.length c0_1] 24 (0, 0)) (by (with_reducible repeat (first |  refine zKn ?_ _|  refine zKd ?_|  refine zKa ?_ _)); exact BK881.out) hb); have NB882_883 := zMk ((by rw [hg]; exact Nat.ne_of_lt (blk_lt (g := gb882) (o := .cells #[.bool a1_0, .slice A1_1 l1_1.length c1_1] 24 (0, 0)) (by (with_reducible repeat (first |  refine zKn ?_ _|  refine zKd ?_|  refine zKa ?_ _)); exact BK882.out)) : gb882 ≠ gb883)); have NB883_882 := zMk ((by rw [hg]; exact Nat.ne_of_gt (blk_lt (g := gb882) (o := .cells #[.bool a1_0, .slice A1_1 l1_1.length c1_1] 24 (0, 0)) (by (with_reducible repeat (first |  refine zKn ?_ _|  refine zKd ?_|  refine zKa ?_ _)); exact BK882.out)) : gb883 ≠ gb882)); replace BK882 := zMk (zKb (g := gb882) (o := .cells #[.bool a1_0, .slice A1_1 l1_1.length c1_1] 24 (0, 0)) (by (with_reducible repeat (first |  refine zKn ?_ _|  refine zKd ?_|  refine zKa ?_ _)); exact BK882.out) hb); clear hb hbox hg))
  replace BK881 := zMk (zKd BK881.out)
  replace BK882 := zMk (zKd BK882.out)
  replace BK883 := zMk (zKd BK883.out)
  replace HB := zMk (zBd HB.out)
  refine start_ (n := 5) (S := fun w' => w'.cell? ⟨gb881, 0, none⟩ = some (.bool a0_0) ∧ w'.cell? ⟨gb881, 1, none⟩ = some (.slice A0_1 l0_1.length c0_1) ∧ w'.cell? ⟨gb882, 0, none⟩ = some (.bool a1_0) ∧ w'.cell? ⟨gb882, 1, none⟩ = some (.slice A1_1 l1_1.length c1_1)) (ds := []) #[false, false, false, false, false] (by kernel_rfl) rfl rfl ⟨(zKc BK881.out 0).trans rfl, (zKc BK881.out 1).trans rfl, (zKc BK882.out 0).trans rfl, (zKc BK882.out 1).trans rfl⟩ (fun hHeld => ?_)
  generalize w7.drew = w8 at BK881 BK882 BK883 HB hHeld ⊢
  refine take_ (i := 0) (N := some 5) (v := ?_) (a' := ?_) #[true, false, false, false, false] rfl rfl (by kernel_rfl) (fun _ _ _ h => h) (Or.inl ⟨by rfl, ?_⟩) hHeld ?_ ?_
  rotate_left
  · rintro w' ⟨s0, s1, s2, s3⟩
    go_simp
    with_reducible rfl
  rotate_left
  · simp only [Act.put, zSa, zSb, zSc, i64_w, i32_w]
    rfl
  refine take_ (i := 1) (N := some 6) (v := ?_) (a' := ?_) #[true, true, false, false, false] rfl rfl (by kernel_rfl) (fun _ _ _ h => h) (Or.inl ⟨by rfl, ?_⟩) hHeld ?_ ?_
  rotate_left
  · rintro w' ⟨s0, s1, s2, s3⟩
    go_simp
    with_reducible rfl
  rotate_left
  · simp only [Act.put, zSa, zSb, zSc, i64_w, i32_w]
    rfl
  refine one_ (i := 2) (N := some 7) #[true, true, true, false, false] rfl rfl (by kernel_rfl) (by decide) (fun K hK => ?_)
  refine goes_ Tryd.func23 (by kernel_rfl) rfl #[.agg #[.bool a1_0, .slice A1_1 l1_1.length c1_1]] (by rfl) rfl rfl (by (try simp only [zMa, zMc, zMn]); first | done | rfl | (simp only [zLd, zLt]; rfl)) ?_
  with_reducible refine (integer_Neg.calls a1_0 _ _ l1_1 t884 t885 _ ?side1 ?side2 A3.out).mono ?_
  (case side1 => repeat (first | exact (Kd.C_below HR1_1.out HB.out) | (with_reducible refine zCa ?_ _) | (with_reducible refine zCn ?_ _) | (with_reducible refine zCd ?_)))
  (case side2 => exact HC1_1.out)
  rintro e w9 ⟨v886, rfl, ho0, hb⟩
  refine ⟨_, rfl, ?_⟩
  have HO887 := zMk (zRl ho0 (zBs (by exact uT HB.out)))
  replace BK881 := zMk (zKb (g := gb881) (o := .cells #[.bool a0_0, .slice A0_1 l0_1.length c0_1] 24 (0, 0)) (by (with_reducible repeat (first | refine zKn ?_ _ | refine zKd ?_ | refine zKa ?_ _)); exact BK881.out) hb)
  replace BK882 := zMk (zKb (g := gb882) (o := .cells #[.bool a1_0, .slice A1_1 l1_1.length c1_1] 24 (0, 0)) (by (with_reducible repeat (first | refine zKn ?_ _ | refine zKd ?_ | refine zKa ?_ _)); exact BK882.out) hb)
  replace BK883 := zMk (zKb (g := gb883) (o := .cells #[.bool false, .slice none 0 0] 24 (0, 0)) (by (with_reducible repeat (first | refine zKn ?_ _ | refine zKd ?_ | refine zKa ?_ _)); exact BK883.out) hb)
  replace HB := zMk (zBt (by exact uT HB.out) hb)
  (try clear hb)
  (try clear hb2)
  (try clear hk)
  (try clear hi)
  (try clear ho0)
  obtain ⟨Ao10, co10, eo10⟩ := zRs HO887.out
  (first |  subst eo10|  (injection eo10 with f1_ f2_ f3_; have f4_ := f1_.symm; have f5_ := f3_.symm; clear f1_ f2_ f3_; subst f4_; subst f5_))
  refine hK.out _ _ ⟨(zKc BK881.out 0).trans rfl, (zKc BK881.out 1).trans rfl, (zKc BK882.out 0).trans rfl, (zKc BK882.out 1).trans rfl⟩ (fun hHeld => ?_)
  clear hK K
  refine norm_ (a' := ?_) ?_ ?_
  rotate_left
  · show Act.put _ (some 7) _ = _
    simp only [Act.put, zSa, zSb, zSc, i64_w, i32_w]
    rfl
  refine one_ (i := 3) (N := some 8) #[true, true, true, true, false] rfl rfl (by kernel_rfl) (by decide) (fun K hK => ?_)
  refine goes_ Tryd.func17 (by kernel_rfl) rfl #[.agg #[.bool a0_0, .slice A0_1 l0_1.length c0_1], .agg #[.bool t884, .slice Ao10 t885.length co10]] (by rfl) rfl rfl (by (try simp only [zMa, zMc, zMn]); first | done | rfl | (simp only [zLd, zLt]; rfl)) ?_
  with_reducible refine (integer_Add.calls k a0_0 _ _ l0_1 t884 _ _ t885 t888 t889 _ ?side1 ?side2 ?side3 ?side4 A4.out).mono ?_
  (case side1 => repeat (first | exact (Kd.C_below HR0_1.out HB.out) | (with_reducible refine zCa ?_ _) | (with_reducible refine zCn ?_ _) | (with_reducible refine zCd ?_)))
  (case side2 => exact HC0_1.out)
  (case side3 => exact uC (zRr HO887.out).2.2)
  (case side4 => exact (zRr HO887.out).2.1)
  rintro e w11 ⟨v890, rfl, ho0, hb⟩
  refine ⟨_, rfl, ?_⟩
  have HO891 := zMk (zRl (zRw ho0 (zRt (by exact uR HO887.out))) (zBs (by exact uT HB.out)))
  replace HO887 := zMk (zRe (by exact uR HO887.out) (zRz ho0) hb)
  replace BK881 := zMk (zKb (g := gb881) (o := .cells #[.bool a0_0, .slice A0_1 l0_1.length c0_1] 24 (0, 0)) (by (with_reducible repeat (first | refine zKn ?_ _ | refine zKd ?_ | refine zKa ?_ _)); exact BK881.out) hb)
  replace BK882 := zMk (zKb (g := gb882) (o := .cells #[.bool a1_0, .slice A1_1 l1_1.length c1_1] 24 (0, 0)) (by (with_reducible repeat (first | refine zKn ?_ _ | refine zKd ?_ | refine zKa ?_ _)); exact BK882.out) hb)
  replace BK883 := zMk (zKb (g := gb883) (o := .cells #[.bool false, .slice none 0 0] 24 (0, 0)) (by (with_reducible repeat (first | refine zKn ?_ _ | refine zKd ?_ | refine zKa ?_ _)); exact BK883.out) hb)
  replace HB := zMk (zBt (by exact uT HB.out) hb)
  (try clear hb)
  (try clear hb2)
  (try clear hk)
  (try clear hi)
  (try clear ho0)
  obtain ⟨Ao13, co13, eo13⟩ := zRs HO891.out
  (first |  subst eo13|  (injection eo13 with f1_ f2_ f3_; have f4_ := f1_.symm; have f5_ := f3_.symm; clear f1_ f2_ f3_; subst f4_; subst f5_))
  refine hK.out _ _ ⟨(zKc BK881.out 0).trans rfl, (zKc BK881.out 1).trans rfl, (zKc BK882.out 0).trans rfl, (zKc BK882.out 1).trans rfl⟩ (fun hHeld => ?_)
  clear hK K
  refine norm_ (a' := ?_) ?_ ?_
  rotate_left
  · show Act.put _ (some 8) _ = _
    simp only [Act.put, zSa, zSb, zSc, i64_w, i32_w]
    rfl
  refine one_ (i := 4) (N := none) #[true, true, true, true, true] rfl rfl (by kernel_rfl) (by decide) (fun K hK => ?_)
  have hs12 : w11.cell? ⟨gb883, 0, none⟩ = some (.bool false) := (zKc BK883.out 0).trans rfl
  have hfs12 := zKf BK883.out 0
  have hns12_0 := NB881_883.out
  have hns12_1 := NB882_883.out
  have hms12_0 := NB883_881.out
  have hms12_1 := NB883_882.out
  have hs14 : w11.cell? ⟨gb883, 1, none⟩ = some (.slice none 0 0) := (zKc BK883.out 1).trans rfl
  have hfs14 := zKf BK883.out 1
  have hns14_0 := NB881_883.out
  have hns14_1 := NB882_883.out
  have hms14_0 := NB883_881.out
  have hms14_1 := NB883_882.out
  refine skip_ (w1 := ?_) (by rfl) rfl ?_ ?_
  rotate_left
  · go_simp
    rfl
  refine hK.out _ _ ⟨((cell_far (p := ⟨gb883, _, none⟩) NB881_883.out _).trans (((cell_far (p := ⟨gb883, _, none⟩) NB881_883.out _).trans (hHeld.1)))), ((cell_far (p := ⟨gb883, _, none⟩) NB881_883.out _).trans (((cell_far (p := ⟨gb883, _, none⟩) NB881_883.out _).trans (hHeld.2.1)))), ((cell_far (p := ⟨gb883, _, none⟩) NB882_883.out _).trans (((cell_far (p := ⟨gb883, _, none⟩) NB882_883.out _).trans (hHeld.2.2.1)))), ((cell_far (p := ⟨gb883, _, none⟩) NB882_883.out _).trans (((cell_far (p := ⟨gb883, _, none⟩) NB882_883.out _).trans (hHeld.2.2.2))))⟩ (fun hHeld => ?_)
  clear hK K
  refine done_ (by kernel_rfl) ?_
  try go_wp2
  refine bodyPost_ret (results_cell_row rfl _ _ gb883 24 #[.bool t888, .slice Ao13 t889.length co13] (0, 0) _ rfl (by (with_reducible repeat (first | refine zKn ?_ _ | refine zKd ?_ | refine zKa ?_ _)); refine blk_put (cs := #[.bool t888, .slice none 0 0]) ?_ 1 _ rfl; (with_reducible repeat (first | refine zKn ?_ _ | refine zKd ?_ | refine zKa ?_ _)); refine blk_put (cs := #[.bool false, .slice none 0 0]) ?_ 0 _ rfl; (with_reducible repeat (first | refine zKn ?_ _ | refine zKd ?_ | refine zKa ?_ _)); exact BK883.out) Tryd.underlying24 rfl (by kernel_rfl)) rfl ?_
  exact ⟨_, by first | rfl | (simp [errW_none, errW_some] <;> rfl) | (simp [*, errW_none, errW_some] <;> rfl), by (with_reducible repeat (first | apply zRa | apply zRn | apply zRd)); exact zRm (Kd.R_far (p := ⟨gb883, 1, none⟩) (Kd.R_far (p := ⟨gb883, 0, none⟩) (Kd.R_types HO891.out BK883.out (by decide)) (fun _ hk => hk.2) (.bool t888)) (fun _ hk => hk.2) (.slice Ao13 t889.length co13)) (fun _ hk => trivial), by exact uT HB.out⟩


def integer_Mul.f (k : Nat) (a0_0 : Bool) (l0_1 : List Int) (a1_0 : Bool) (l1_1 : List Int) : Option (Bool × List Int) := (n_Mul.f k l0_1 l1_1).bind fun t495 => ((integer_signed.f (a0_0 != a1_0) t495).bind fun bt498 => (some (bt498.1, bt498.2)))
def integer_Mul.T1 : Bool × List (List Nat × List Nat) := (true, [([], []), ([0], [0]), ([], []), ([2], [2]), ([1, 3], [1, 3]), ([], []), ([5], [5]), ([], []), ([7], [7]), ([6, 8], [6, 8]), ([4, 9, 9], [4, 9]), ([10, 10, 0, 1, 2, 3, 4, 5, 6, 7, 8, 9, 10], [10])])
def integer_Mul.B1 : List Nat := [0, 1, 0, 4, 15, 0, 32, 0, 128, 480, 1023, 2047]
theorem integer_Mul.tab1 : rtab .any (opsOf Tryd.f21 1) = integer_Mul.T1 := by kernel_rfl
theorem integer_Mul.bits1 : waitsOk integer_Mul.T1.2 integer_Mul.B1 = true := by kernel_rfl
set_option maxHeartbeats 8000000 in
set_option maxRecDepth 100000 in
theorem integer_Mul.calls (k : Nat) (a0_0 : Bool) (A0_1 : Option Addr) (c0_1 : Nat) (l0_1 : List Int) (a1_0 : Bool) (A1_1 : Option Addr) (c1_1 : Nat) (l1_1 : List Int) (r1 : Bool) (r2 : List Int) (w : World) (hr0_1 : Kd.C (Kd.int .u32) w A0_1 l0_1.length l0_1) (hc0_1 : l0_1.length ≤ c0_1) (hr1_1 : Kd.C (Kd.int .u32) w A1_1 l1_1.length l1_1) (hc1_1 : l1_1.length ≤ c1_1) (h : integer_Mul.f k a0_0 l0_1 a1_0 l1_1 = some (r1, r2)) :
    Calls Tryd.prog 21 #[.agg #[.bool a0_0, .slice A0_1 l0_1.length c0_1], .agg #[.bool a1_0, .slice A1_1 l1_1.length c1_1]] w fun e w' => ∃ v1_ : Value, e = .returned (.agg #[.bool r1, v1_]) ∧ Kd.R (Kd.int .u32) 58 w' w.heap.size (fun _ => True) v1_ r2 ∧ Below w.heap.size w w' := by
  have hu24 := Tryd.underlying24
  have HR0_1 := zMk hr0_1
  have HC0_1 := zMk hc0_1
  clear hr0_1 hc0_1
  have HR1_1 := zMk hr1_1
  have HC1_1 := zMk hc1_1
  clear hr1_1 hc1_1
  have HB := zMk (Below.refl w.heap.size w)
  have H : ((n_Mul.f k l0_1 l1_1).bind fun t495 => ((integer_signed.f (a0_0 != a1_0) t495).bind fun bt498 => (some (bt498.1, bt498.2)))) = some (r1, r2) := h
  clear h
  replace H := bnd H
  obtain ⟨t495, A30, H⟩ := H
  have A3 := zMk A30
  clear A30
  replace H := bnd H
  obtain ⟨⟨t498, t499⟩, A40, H⟩ := H
  replace H : (some (t498, t499)) = some (r1, r2) := H
  have A4 := zMk A40
  clear A40
  simp only [Option.some.injEq, Prod.mk.injEq] at H
  obtain ⟨rfl, rfl⟩ := H
  go_enter Tryd.func21, Tryd.ntmps21
  try go_wp2_with (first |  ((with_reducible refine gate_dst (N := 2) rfl ?_); refine box_event ?hg (N := 2) ?hd (cs := #[.bool a0_0, .slice A0_1 l0_1.length c0_1]) (t := 24) ?hr ?_; (case hd => rfl); (case hg => rfl); (case hr => first |  (go_simp; done)|  (go_simp; rfl)|  (go_simp; rw [show ∀ x : Int, IntKind.u32.wrap (IntKind.u8.wrap x) = x % 256 from fun x => (by show (x % 256) % 4294967296 = x % 256; omega)])); intro gb492 hg w5 hbox hb; have BK492 := zMk (hbox); have GW492 := zMk ((by rw [hg]; exact (zBs (by exact uT HB.out)) : w.heap.size ≤ gb492)); have GE492 := zMk ((by rw [hg]; exact (zBs (by exact uT HB.out)) : w.heap.size ≤ gb492)); have IGE492 := ownGe GE492.out; replace HB := zMk (zBt (by exact uT HB.out) hb); clear hb hbox hg)|  ((with_reducible refine gate_dst (N := 3) rfl ?_); refine box_event ?hg (N := 3) ?hd (cs := #[.bool a1_0, .slice A1_1 l1_1.length c1_1]) (t := 24) ?hr ?_; (case hd => rfl); (case hg => rfl); (case hr => first |  (go_simp; done)|  (go_simp; rfl)|  (go_simp; rw [show ∀ x : Int, IntKind.u32.wrap (IntKind.u8.wrap x) = x % 256 from fun x => (by show (x % 256) % 4294967296 = x % 256; omega)])); intro gb493 hg w6 hbox hb; have BK493 := zMk (hbox); have GW493 := zMk ((by rw [hg]; exact (zBs (by exact uT HB.out)) : w.heap.size ≤ gb493)); have GE493 := zMk ((by rw [hg]; exact (zBs (by exact uT HB.out)) : w.heap.size ≤ gb493)); have IGE493 := ownGe GE493.out; replace HB := zMk (zBt (by exact uT HB.out) hb); have NB492_493 := zMk ((by rw [hg]; exact Nat.ne_of_lt (blk_lt (g := gb492) (o := .cells #[.bool a0_0, .slice A0_1 l0_1.length c0_1] 24 (0, 0)) (by (with_reducible repeat (first |  refine zKn ?_ _|  refine zKd ?_|  refine zKa ?_ _)); exact BK492.out)) : gb492 ≠ gb493)); have NB493_492 := zMk ((by rw [hg]; exact Nat.ne_of_gt (blk_lt (g := gb492) (o := .cells #[.bool a0_0, .slice A0_1 l0_1.length c0_1] 24 (0, 0)) (by (with_reducible repeat (first |  refine zKn ?_ _|  refine zKd ?_|  refine zKa ?_ _)); exact BK492.out)) : gb493 ≠ gb492)); replace BK492 := zMk (zKb (g := gb492) (o := .cells #[.bool a0_0, .slice A0_1 l0_1.length c0_1] 24 (0, 0)) (by (with_reducible repeat (first |  refine zKn ?_ _|  refine zKd ?_|  refine zKa ?_ _)); exact BK492.out) hb); clear hb hbox hg)|  ((with_reducible refine gate_dst (N := 4) rfl ?_); refine box_event ?hg (N := 4) ?hd (cs := #[.bool false, .slice none 0 0]) (t := 24) ?hr ?_; (case hd => rfl); (case hg => rfl); (case hr => first |  (go_simp; done)|  (go_simp; rfl)|  (go_simp; rw [show ∀ x : Int, IntKind.u32.wrap (IntKind.u8.wrap x) = x % 256 from fun x => (by show (x % 256) % 4294967296 = x % 256; omega)])); intro gb494 hg w7 hbox hb; have BK494 := zMk (hbox); have GW494 := zMk ((by rw [hg]; exact (zBs (by exact uT HB.out)) : w.heap.size ≤ gb494)); have GE494 := zMk ((by rw [hg]; exact (zBs (by exact uT HB.out)) : w.heap.size ≤ gb494)); have IGE494 := ownGe GE494.out; replace HB := zMk (zBt (by exact uT HB.out) hb); have NB492_494 := zMk ((by rw [hg]; exact Nat.ne_of_lt (blk_lt (g := gb492) (o := .cells #[.bool a0_0, .slice A0_1 l0_1.length c0_1] 24 (0, 0)) (by (with_reducible repeat (first |  refine zKn ?_ _|  refine zKd ?_|  refine zKa ?_ _)); exact BK492.out)) : gb492 ≠ gb494)); have NB494_492 := zMk ((by rw [hg]; exact Nat.ne_of_gt (blk_lt (g := gb492) (o := .cells #[.bool a0_0, .slice A0_1 l0_1.length c0_1] 24 (0, 0)) (by (with_reducible repeat (first |  refine zKn ?_ _|  refine zKd ?_|  refine zKa ?_ _)); exact BK492.out)) : gb494 ≠ gb492)); replace BK492 := zMk (zKb (g := gb492) (o := .cells #[.bool a0_0, .slice A0_1 l0_1.length c0_1] 24 (0, 0)) (by (with_reducible repeat (first |  refine zKn ?_ _|  refine zKd ?_|  refine zKa ?_ _)); exact BK492.out) hb); have NB493_494 := zMk ((by rw [hg]; exact Nat.ne_of_lt (blk_lt (g := gb493) (o := .cells #[.bool a1_0, .slice A1_1 l1_1.length c1_1] 24 (0, 0)) (by (with_reducible repeat (first |  refine zKn ?_ _|  refine zKd ?_|  refine zKa ?_ _)); exact BK493.out)) : gb493 ≠ gb494)); have NB494_493 := zMk ((by rw [hg]; exact Nat.ne_of_gt (blk_lt (g := gb493) (o := .cells #[.bool a1_0, .slice A1_1 l1_1.length c1_1] 24 (0, 0)) (by (with_reducible repeat (first |  refine zKn ?_ _|  refine zKd ?_|  refine zKa ?_ _)); exact BK493.out)) : gb494 ≠ gb493)); replace BK493 := zMk (zKb (g := gb493) (o := .cells #[.bool a1_0, .slice A1_1 l1_1.length c1_1] 24 (0, 0)) (by (with_reducible repeat (first |  refine zKn ?_ _|  refine zKd ?_|  refine zKa ?_ _)); exact BK493.out) hb); clear hb hbox hg))
  replace BK492 := zMk (zKd BK492.out)
  replace BK493 := zMk (zKd BK493.out)
  replace BK494 := zMk (zKd BK494.out)
  replace HB := zMk (zBd HB.out)
  refine start_ (n := 12) (S := fun w' => w'.cell? ⟨gb492, 0, none⟩ = some (.bool a0_0) ∧ w'.cell? ⟨gb492, 1, none⟩ = some (.slice A0_1 l0_1.length c0_1) ∧ w'.cell? ⟨gb493, 0, none⟩ = some (.bool a1_0) ∧ w'.cell? ⟨gb493, 1, none⟩ = some (.slice A1_1 l1_1.length c1_1)) (ds := []) #[false, false, false, false, false, false, false, false, false, false, false, false] (by kernel_rfl) rfl rfl ⟨(zKc BK492.out 0).trans rfl, (zKc BK492.out 1).trans rfl, (zKc BK493.out 0).trans rfl, (zKc BK493.out 1).trans rfl⟩ (fun hHeld => ?_); refine with_tabW integer_Mul.tab1 integer_Mul.bits1 (fun HT_ HW_ => ?_)
  generalize w7.drew = w8 at BK492 BK493 BK494 HB hHeld ⊢
  refine pure_ (i := 0) (N := some 5) (v := ?_) (a' := ?_) #[true, false, false, false, false, false, false, false, false, false, false, false] rfl rfl (any_of HT_.out (by kernel_rfl)) (fun _ _ _ h => h) (Or.inl ⟨by rfl, ?_⟩) ?_ ?_
  rotate_left
  · intro w'
    go_simp
    with_reducible rfl
  rotate_left
  · simp only [Act.put, zSa, zSb, zSc, i64_w, i32_w]
    rfl
  refine pure_ (i := 2) (N := some 7) (v := ?_) (a' := ?_) #[true, false, true, false, false, false, false, false, false, false, false, false] rfl rfl (any_of HT_.out (by kernel_rfl)) (fun _ _ _ h => h) (Or.inl ⟨by rfl, ?_⟩) ?_ ?_
  rotate_left
  · intro w'
    go_simp
    with_reducible rfl
  rotate_left
  · simp only [Act.put, zSa, zSb, zSc, i64_w, i32_w]
    rfl
  refine pure_ (i := 5) (N := some 10) (v := ?_) (a' := ?_) #[true, false, true, false, false, true, false, false, false, false, false, false] rfl rfl (any_of HT_.out (by kernel_rfl)) (fun _ _ _ h => h) (Or.inl ⟨by rfl, ?_⟩) ?_ ?_
  rotate_left
  · intro w'
    go_simp
    with_reducible rfl
  rotate_left
  · simp only [Act.put, zSa, zSb, zSc, i64_w, i32_w]
    rfl
  refine pure_ (i := 7) (N := some 12) (v := ?_) (a' := ?_) #[true, false, true, false, false, true, false, true, false, false, false, false] rfl rfl (any_of HT_.out (by kernel_rfl)) (fun _ _ _ h => h) (Or.inl ⟨by rfl, ?_⟩) ?_ ?_
  rotate_left
  · intro w'
    go_simp
    with_reducible rfl
  rotate_left
  · simp only [Act.put, zSa, zSb, zSc, i64_w, i32_w]
    rfl
  refine take_ (i := 1) (N := some 6) (v := ?_) (a' := ?_) #[true, true, true, false, false, true, false, true, false, false, false, false] rfl rfl (take_ofW HT_.out HW_.out (by kernel_rfl)) (fun _ _ _ h => h) (Or.inl ⟨by rfl, ?_⟩) hHeld ?_ ?_
  rotate_left
  · rintro w' ⟨s0, s1, s2, s3⟩
    go_simp
    with_reducible rfl
  rotate_left
  · simp only [Act.put, zSa, zSb, zSc, i64_w, i32_w]
    rfl
  refine take_ (i := 3) (N := some 8) (v := ?_) (a' := ?_) #[true, true, true, true, false, true, false, true, false, false, false, false] rfl rfl (take_ofW HT_.out HW_.out (by kernel_rfl)) (fun _ _ _ h => h) (Or.inl ⟨by rfl, ?_⟩) hHeld ?_ ?_
  rotate_left
  · rintro w' ⟨s0, s1, s2, s3⟩
    go_simp
    with_reducible rfl
  rotate_left
  · simp only [Act.put, zSa, zSb, zSc, i64_w, i32_w]
    rfl
  refine pure_ (i := 4) (N := some 9) (v := ?_) (a' := ?_) #[true, true, true, true, true, true, false, true, false, false, false, false] rfl rfl (any_of HT_.out (by kernel_rfl)) (fun _ _ _ h => h) (Or.inl ⟨by rfl, ?_⟩) ?_ ?_
  rotate_left
  · intro w'
    go_simp
    with_reducible rfl
  rotate_left
  · simp only [Act.put, zSa, zSb, zSc, i64_w, i32_w]
    rfl
  refine take_ (i := 6) (N := some 11) (v := ?_) (a' := ?_) #[true, true, true, true, true, true, true, true, false, false, false, false] rfl rfl (take_ofW HT_.out HW_.out (by kernel_rfl)) (fun _ _ _ h => h) (Or.inl ⟨by rfl, ?_⟩) hHeld ?_ ?_
  rotate_left
  · rintro w' ⟨s0, s1, s2, s3⟩
    go_simp
    with_reducible rfl
  rotate_left
  · simp only [Act.put, zSa, zSb, zSc, i64_w, i32_w]
    rfl
  refine take_ (i := 8) (N := some 13) (v := ?_) (a' := ?_) #[true, true, true, true, true, true, true, true, true, false, false, false] rfl rfl (take_ofW HT_.out HW_.out (by kernel_rfl)) (fun _ _ _ h => h) (Or.inl ⟨by rfl, ?_⟩) hHeld ?_ ?_
  rotate_left
  · rintro w' ⟨s0, s1, s2, s3⟩
    go_simp
    with_reducible rfl
  rotate_left
  · simp only [Act.put, zSa, zSb, zSc, i64_w, i32_w]
    rfl
  refine one_ (i := 9) (N := some 14) #[true, true, true, true, true, true, true, true, true, true, false, false] rfl rfl (one_of HT_.out (by kernel_rfl)) (by decide) (fun K hK => ?_)
  refine goes_ Tryd.func45 (by kernel_rfl) rfl #[.slice A0_1 l0_1.length c0_1, .slice A1_1 l1_1.length c1_1] (by rfl) rfl rfl (by (try simp only [zMa, zMc, zMn]); first | done | rfl | (simp only [zLd, zLt]; rfl)) ?_
  with_reducible refine (n_Mul.calls k (fun k_ => k_ < w.heap.size) _ _ l0_1 (fun k_ => k_ < w.heap.size) _ _ l1_1 t495 _ ?side1 ?side2 A3.out).mono ?_
  (case side1 => exact Kd.V_mk HC0_1.out (Kd.F_below (Kd.C_F (Kd.heap_int .u32) HR0_1.out) (by exact uT HB.out)))
  (case side2 => exact Kd.V_mk HC1_1.out (Kd.F_below (Kd.C_F (Kd.heap_int .u32) HR1_1.out) (by exact uT HB.out)))
  rintro e w9 ⟨v496, rfl, ho0, hb⟩
  refine ⟨_, rfl, ?_⟩
  have HO497 := zMk (zVl (zVm (ok' := fun k_ => k_ ≠ gb492 ∧ k_ ≠ gb493 ∧ k_ ≠ gb494) ho0 (fun k_ hk_ => ⟨Or.elim hk_ (fun hs_ => Or.elim hs_ (fun hs_ => fun e_ => Nat.not_le.2 hs_ (by rw [e_]; exact GW492.out)) (fun hs_ => fun e_ => Nat.not_le.2 hs_ (by rw [e_]; exact GW492.out))) (fun hn_ => (Kd.freshB (g := gb492) (o := .cells #[.bool a0_0, .slice A0_1 l0_1.length c0_1] 24 (0, 0)) (by (with_reducible repeat (first | refine zKn ?_ _ | refine zKd ?_ | refine zKa ?_ _)); exact BK492.out) k_ hn_)), Or.elim hk_ (fun hs_ => Or.elim hs_ (fun hs_ => fun e_ => Nat.not_le.2 hs_ (by rw [e_]; exact GW493.out)) (fun hs_ => fun e_ => Nat.not_le.2 hs_ (by rw [e_]; exact GW493.out))) (fun hn_ => (Kd.freshB (g := gb493) (o := .cells #[.bool a1_0, .slice A1_1 l1_1.length c1_1] 24 (0, 0)) (by (with_reducible repeat (first | refine zKn ?_ _ | refine zKd ?_ | refine zKa ?_ _)); exact BK493.out) k_ hn_)), Or.elim hk_ (fun hs_ => Or.elim hs_ (fun hs_ => fun e_ => Nat.not_le.2 hs_ (by rw [e_]; exact GW494.out)) (fun hs_ => fun e_ => Nat.not_le.2 hs_ (by rw [e_]; exact GW494.out))) (fun hn_ => (Kd.freshB (g := gb494) (o := .cells #[.bool false, .slice none 0 0] 24 (0, 0)) (by (with_reducible repeat (first | refine zKn ?_ _ | refine zKd ?_ | refine zKa ?_ _)); exact BK494.out) k_ hn_))⟩)) (zBs (by exact uT HB.out)))
  replace BK492 := zMk (zKb (g := gb492) (o := .cells #[.bool a0_0, .slice A0_1 l0_1.length c0_1] 24 (0, 0)) (by (with_reducible repeat (first | refine zKn ?_ _ | refine zKd ?_ | refine zKa ?_ _)); exact BK492.out) hb)
  replace BK493 := zMk (zKb (g := gb493) (o := .cells #[.bool a1_0, .slice A1_1 l1_1.length c1_1] 24 (0, 0)) (by (with_reducible repeat (first | refine zKn ?_ _ | refine zKd ?_ | refine zKa ?_ _)); exact BK493.out) hb)
  replace BK494 := zMk (zKb (g := gb494) (o := .cells #[.bool false, .slice none 0 0] 24 (0, 0)) (by (with_reducible repeat (first | refine zKn ?_ _ | refine zKd ?_ | refine zKa ?_ _)); exact BK494.out) hb)
  replace HB := zMk (zBt (by exact uT HB.out) hb)
  (try clear hb)
  (try clear hb2)
  (try clear hk)
  (try clear hi)
  (try clear ho0)
  obtain ⟨Ao10, co10, eo10⟩ := zVs HO497.out
  (first |  subst eo10|  (injection eo10 with f1_ f2_ f3_; have f4_ := f1_.symm; have f5_ := f3_.symm; clear f1_ f2_ f3_; subst f4_; subst f5_))
  refine hK.out _ _ ⟨(zKc BK492.out 0).trans rfl, (zKc BK492.out 1).trans rfl, (zKc BK493.out 0).trans rfl, (zKc BK493.out 1).trans rfl⟩ (fun hHeld => ?_)
  clear hK K
  refine norm_ (a' := ?_) ?_ ?_
  rotate_left
  · show Act.put _ (some 14) _ = _
    simp only [Act.put, zSa, zSb, zSc, i64_w, i32_w]
    rfl
  refine one_ (i := 10) (N := some 15) #[true, true, true, true, true, true, true, true, true, true, true, false] rfl rfl (one_of HT_.out (by kernel_rfl)) (by decide) (fun K hK => ?_)
  refine goes_ Tryd.func36 (by kernel_rfl) rfl #[.bool (a0_0 != a1_0), .slice Ao10 t495.length co10] (by rfl) rfl rfl (by (try simp only [zMa, zMc, zMn]); first | done | rfl | (simp only [zLd, zLt]; rfl)) ?_
  with_reducible refine (integer_signed.calls (a0_0 != a1_0) _ _ t495 t498 t499 _ ?side1 ?side2 A4.out).mono ?_
  (case side1 => exact uC (zVr HO497.out).2.2)
  (case side2 => exact (zVr HO497.out).2.1)
  rintro e w11 ⟨v500, rfl, ho0, hb⟩
  refine ⟨_, rfl, ?_⟩
  replace HO497 := zMk (zVe (by exact uV HO497.out) (zRz ho0) hb)
  have HO501 := zMk (zRl ho0 (zBs (by exact uT HB.out)))
  replace BK492 := zMk (zKb (g := gb492) (o := .cells #[.bool a0_0, .slice A0_1 l0_1.length c0_1] 24 (0, 0)) (by (with_reducible repeat (first | refine zKn ?_ _ | refine zKd ?_ | refine zKa ?_ _)); exact BK492.out) hb)
  replace BK493 := zMk (zKb (g := gb493) (o := .cells #[.bool a1_0, .slice A1_1 l1_1.length c1_1] 24 (0, 0)) (by (with_reducible repeat (first | refine zKn ?_ _ | refine zKd ?_ | refine zKa ?_ _)); exact BK493.out) hb)
  replace BK494 := zMk (zKb (g := gb494) (o := .cells #[.bool false, .slice none 0 0] 24 (0, 0)) (by (with_reducible repeat (first | refine zKn ?_ _ | refine zKd ?_ | refine zKa ?_ _)); exact BK494.out) hb)
  replace HB := zMk (zBt (by exact uT HB.out) hb)
  (try clear hb)
  (try clear hb2)
  (try clear hk)
  (try clear hi)
  (try clear ho0)
  obtain ⟨Ao13, co13, eo13⟩ := zRs HO501.out
  (first |  subst eo13|  (injection eo13 with f1_ f2_ f3_; have f4_ := f1_.symm; have f5_ := f3_.symm; clear f1_ f2_ f3_; subst f4_; subst f5_))
  refine hK.out _ _ ⟨(zKc BK492.out 0).trans rfl, (zKc BK492.out 1).trans rfl, (zKc BK493.out 0).trans rfl, (zKc BK493.out 1).trans rfl⟩ (fun hHeld => ?_)
  clear hK K
  refine norm_ (a' := ?_) ?_ ?_
  rotate_left
  · show Act.put _ (some 15) _ = _
    simp only [Act.put, zSa, zSb, zSc, i64_w, i32_w]
    rfl
  refine one_ (i := 11) (N := none) #[true, true, true, true, true, true, true, true, true, true, true, true] rfl rfl (one_of HT_.out (by kernel_rfl)) (by decide) (fun K hK => ?_)
  have hs12 : w11.cell? ⟨gb494, 0, none⟩ = some (.bool false) := (zKc BK494.out 0).trans rfl
  have hfs12 := zKf BK494.out 0
  have hns12_0 := NB492_494.out
  have hns12_1 := NB493_494.out
  have hms12_0 := NB494_492.out
  have hms12_1 := NB494_493.out
  have hs14 : w11.cell? ⟨gb494, 1, none⟩ = some (.slice none 0 0) := (zKc BK494.out 1).trans rfl
  have hfs14 := zKf BK494.out 1
  have hns14_0 := NB492_494.out
  have hns14_1 := NB493_494.out
  have hms14_0 := NB494_492.out
  have hms14_1 := NB494_493.out
  refine skip_ (w1 := ?_) (by rfl) rfl ?_ ?_
  rotate_left
  · go_simp
    rfl
  refine hK.out _ _ ⟨((cell_far (p := ⟨gb494, _, none⟩) NB492_494.out _).trans (((cell_far (p := ⟨gb494, _, none⟩) NB492_494.out _).trans (hHeld.1)))), ((cell_far (p := ⟨gb494, _, none⟩) NB492_494.out _).trans (((cell_far (p := ⟨gb494, _, none⟩) NB492_494.out _).trans (hHeld.2.1)))), ((cell_far (p := ⟨gb494, _, none⟩) NB493_494.out _).trans (((cell_far (p := ⟨gb494, _, none⟩) NB493_494.out _).trans (hHeld.2.2.1)))), ((cell_far (p := ⟨gb494, _, none⟩) NB493_494.out _).trans (((cell_far (p := ⟨gb494, _, none⟩) NB493_494.out _).trans (hHeld.2.2.2))))⟩ (fun hHeld => ?_)
  clear hK K
  refine done_ (done_of HT_.out (by kernel_rfl)) ?_
  try go_wp2
  refine bodyPost_ret (results_cell_row rfl _ _ gb494 24 #[.bool t498, .slice Ao13 t499.length co13] (0, 0) _ rfl (by (with_reducible repeat (first | refine zKn ?_ _ | refine zKd ?_ | refine zKa ?_ _)); refine blk_put (cs := #[.bool t498, .slice none 0 0]) ?_ 1 _ rfl; (with_reducible repeat (first | refine zKn ?_ _ | refine zKd ?_ | refine zKa ?_ _)); refine blk_put (cs := #[.bool false, .slice none 0 0]) ?_ 0 _ rfl; (with_reducible repeat (first | refine zKn ?_ _ | refine zKd ?_ | refine zKa ?_ _)); exact BK494.out) Tryd.underlying24 rfl (by kernel_rfl)) rfl ?_
  exact ⟨_, by first | rfl | (simp [errW_none, errW_some] <;> rfl) | (simp [*, errW_none, errW_some] <;> rfl), by (with_reducible repeat (first | apply zRa | apply zRn | apply zRd)); exact zRm (Kd.R_far (p := ⟨gb494, 1, none⟩) (Kd.R_far (p := ⟨gb494, 0, none⟩) (Kd.R_types HO501.out BK494.out (by decide)) (fun _ hk => hk.2) (.bool t498)) (fun _ hk => hk.2) (.slice Ao13 t499.length co13)) (fun _ hk => trivial), by exact uT HB.out⟩


def filigreeref02_Sub.f (k : Nat) (a0_0 : Bool) (l0_1 : List Int) (a1_0 : Bool) (l1_1 : List Int) : Option (Bool × List Int) := (filigreeref02_Neg.f k a1_0 l1_1).bind fun bt685 => ((filigreeref02_Add.f k a0_0 l0_1 bt685.1 bt685.2).bind fun bt689 => (some (bt689.1, bt689.2)))
set_option maxHeartbeats 8000000 in
set_option maxRecDepth 100000 in
theorem filigreeref02_Sub.calls (k : Nat) (a0_0 : Bool) (A0_1 : Option Addr) (c0_1 : Nat) (l0_1 : List Int) (a1_0 : Bool) (A1_1 : Option Addr) (c1_1 : Nat) (l1_1 : List Int) (r1 : Bool) (r2 : List Int) (w : World) (hr0_1 : Kd.C (Kd.int .u32) w A0_1 l0_1.length l0_1) (hc0_1 : l0_1.length ≤ c0_1) (hr1_1 : Kd.C (Kd.int .u32) w A1_1 l1_1.length l1_1) (hc1_1 : l1_1.length ≤ c1_1) (h : filigreeref02_Sub.f k a0_0 l0_1 a1_0 l1_1 = some (r1, r2)) :
    Calls Tryd.prog 20 #[.agg #[.bool a0_0, .slice A0_1 l0_1.length c0_1], .agg #[.bool a1_0, .slice A1_1 l1_1.length c1_1]] w fun e w' => ∃ v1_ : Value, e = .returned (.agg #[.bool r1, v1_]) ∧ Kd.R (Kd.int .u32) 58 w' w.heap.size (fun _ => True) v1_ r2 ∧ Below w.heap.size w w' := by
  have hu24 := Tryd.underlying24
  have HR0_1 := zMk hr0_1
  have HC0_1 := zMk hc0_1
  clear hr0_1 hc0_1
  have HR1_1 := zMk hr1_1
  have HC1_1 := zMk hc1_1
  clear hr1_1 hc1_1
  have HB := zMk (Below.refl w.heap.size w)
  have H : ((filigreeref02_Neg.f k a1_0 l1_1).bind fun bt685 => ((filigreeref02_Add.f k a0_0 l0_1 bt685.1 bt685.2).bind fun bt689 => (some (bt689.1, bt689.2)))) = some (r1, r2) := h
  clear h
  replace H := bnd H
  obtain ⟨⟨t685, t686⟩, A30, H⟩ := H
  replace H : ((filigreeref02_Add.f k a0_0 l0_1 t685 t686).bind fun bt689 => (some (bt689.1, bt689.2))) = some (r1, r2) := H
  have A3 := zMk A30
  clear A30
  replace H := bnd H
  obtain ⟨⟨t689, t690⟩, A40, H⟩ := H
  replace H : (some (t689, t690)) = some (r1, r2) := H
  have A4 := zMk A40
  clear A40
  simp only [Option.some.injEq, Prod.mk.injEq] at H
  obtain ⟨rfl, rfl⟩ := H
  go_enter Tryd.func20, Tryd.ntmps20
  try go_wp2_with (first |  ((with_reducible refine gate_dst (N := 2) rfl ?_); refine box_event ?hg (N := 2) ?hd (cs := #[.bool a0_0, .slice A0_1 l0_1.length c0_1]) (t := 24) ?hr ?_; (case hd => rfl); (case hg => rfl); (case hr => first |  (go_simp; done)|  (go_simp; rfl)|  (go_simp; rw [show ∀ x : Int, IntKind.u32.wrap (IntKind.u8.wrap x) = x % 256 from fun x => (by show (x % 256) % 4294967296 = x % 256; omega)])); intro gb682 hg w5 hbox hb; have BK682 := zMk (hbox); have GW682 := zMk ((by rw [hg]; exact (zBs (by exact uT HB.out)) : w.heap.size ≤ gb682)); have GE682 := zMk ((by rw [hg]; exact (zBs (by exact uT HB.out)) : w.heap.size ≤ gb682)); have IGE682 := ownGe GE682.out; replace HB := zMk (zBt (by exact uT HB.out) hb); clear hb hbox hg)|  ((with_reducible refine gate_dst (N := 3) rfl ?_); refine box_event ?hg (N := 3) ?hd (cs := #[.bool a1_0, .slice A1_1 l1_1.length c1_1]) (t := 24) ?hr ?_; (case hd => rfl); (case hg => rfl); (case hr => first |  (go_simp; done)|  (go_simp; rfl)|  (go_simp; rw [show ∀ x : Int, IntKind.u32.wrap (IntKind.u8.wrap x) = x % 256 from fun x => (by show (x % 256) % 4294967296 = x % 256; omega)])); intro gb683 hg w6 hbox hb; have BK683 := zMk (hbox); have GW683 := zMk ((by rw [hg]; exact (zBs (by exact uT HB.out)) : w.heap.size ≤ gb683)); have GE683 := zMk ((by rw [hg]; exact (zBs (by exact uT HB.out)) : w.heap.size ≤ gb683)); have IGE683 := ownGe GE683.out; replace HB := zMk (zBt (by exact uT HB.out) hb); have NB682_683 := zMk ((by rw [hg]; exact Nat.ne_of_lt (blk_lt (g := gb682) (o := .cells #[.bool a0_0, .slice A0_1 l0_1.length c0_1] 24 (0, 0)) (by (with_reducible repeat (first |  refine zKn ?_ _|  refine zKd ?_|  refine zKa ?_ _)); exact BK682.out)) : gb682 ≠ gb683)); have NB683_682 := zMk ((by rw [hg]; exact Nat.ne_of_gt (blk_lt (g := gb682) (o := .cells #[.bool a0_0, .slice A0_1 l0_1.length c0_1] 24 (0, 0)) (by (with_reducible repeat (first |  refine zKn ?_ _|  refine zKd ?_|  refine zKa ?_ _)); exact BK682.out)) : gb683 ≠ gb682)); replace BK682 := zMk (zKb (g := gb682) (o := .cells #[.bool a0_0, .slice A0_1 l0_1.length c0_1] 24 (0, 0)) (by (with_reducible repeat (first |  refine zKn ?_ _|  refine zKd ?_|  refine zKa ?_ _)); exact BK682.out) hb); clear hb hbox hg)|  ((with_reducible refine gate_dst (N := 4) rfl ?_); refine box_event ?hg (N := 4) ?hd (cs := #[.bool false, .slice none 0 0]) (t := 24) ?hr ?_; (case hd => rfl); (case hg => rfl); (case hr => first |  (go_simp; done)|  (go_simp; rfl)|  (go_simp; rw [show ∀ x : Int, IntKind.u32.wrap (IntKind.u8.wrap x) = x % 256 from fun x => (by show (x % 256) % 4294967296 = x % 256; omega)])); intro gb684 hg w7 hbox hb; have BK684 := zMk (hbox); have GW684 := zMk ((by rw [hg]; exact (zBs (by exact uT HB.out)) : w.heap.size ≤ gb684)); have GE684 := zMk ((by rw [hg]; exact (zBs (by exact uT HB.out)) : w.heap.size ≤ gb684)); have IGE684 := ownGe GE684.out; replace HB := zMk (zBt (by exact uT HB.out) hb); have NB682_684 := zMk ((by rw [hg]; exact Nat.ne_of_lt (blk_lt (g := gb682) (o := .cells #[.bool a0_0, .slice A0_1 l0_1.length c0_1] 24 (0, 0)) (by (with_reducible repeat (first |  refine zKn ?_ _|  refine zKd ?_|  refine zKa ?_ _)); exact BK682.out)) : gb682 ≠ gb684)); have NB684_682 := zMk ((by rw [hg]; exact Nat.ne_of_gt (blk_lt (g := gb682) (o := .cells #[.bool a0_0, .slice A0_1 l0_1.length c0_1] 24 (0, 0)) (by (with_reducible repeat (first |  refine zKn ?_ _|  refine zKd ?_|  refine zKa ?_ _)); exact BK682.out)) : gb684 ≠ gb682)); replace BK682 := zMk (zKb (g := gb682) (o := .cells #[.bool a0_0, .slice A0_1 l0_1.length c0_1] 24 (0, 0)) (by (with_reducible repeat (first |  refine zKn ?_ _|  refine zKd ?_|  refine zKa ?_ _)); exact BK682.out) hb); have NB683_684 := zMk ((by rw [hg]; exact Nat.ne_of_lt (blk_lt (g := gb683) (o := .cells #[.bool a1_0, .slice A1_1 l1_1.length c1_1] 24 (0, 0)) (by (with_reducible repeat (first |  refine zKn ?_ _|  refine zKd ?_|  refine zKa ?_ _)); exact BK683.out)) : gb683 ≠ gb684)); have NB684_683 := zMk ((by rw [hg]; exact Nat.ne_of_gt (blk_lt (g := gb683) (o := .cells #[.bool a1_0, .slice A1_1 l1_1.length c1_1] 24 (0, 0)) (by (with_reducible repeat (first |  refine zKn ?_ _|  refine zKd ?_|  refine zKa ?_ _)); exact BK683.out)) : gb684 ≠ gb683)); replace BK683 := zMk (zKb (g := gb683) (o := .cells #[.bool a1_0, .slice A1_1 l1_1.length c1_1] 24 (0, 0)) (by (with_reducible repeat (first |  refine zKn ?_ _|  refine zKd ?_|  refine zKa ?_ _)); exact BK683.out) hb); clear hb hbox hg))
  replace BK682 := zMk (zKd BK682.out)
  replace BK683 := zMk (zKd BK683.out)
  replace BK684 := zMk (zKd BK684.out)
  replace HB := zMk (zBd HB.out)
  refine start_ (n := 5) (S := fun w' => w'.cell? ⟨gb682, 0, none⟩ = some (.bool a0_0) ∧ w'.cell? ⟨gb682, 1, none⟩ = some (.slice A0_1 l0_1.length c0_1) ∧ w'.cell? ⟨gb683, 0, none⟩ = some (.bool a1_0) ∧ w'.cell? ⟨gb683, 1, none⟩ = some (.slice A1_1 l1_1.length c1_1)) (ds := []) #[false, false, false, false, false] (by kernel_rfl) rfl rfl ⟨(zKc BK682.out 0).trans rfl, (zKc BK682.out 1).trans rfl, (zKc BK683.out 0).trans rfl, (zKc BK683.out 1).trans rfl⟩ (fun hHeld => ?_)
  generalize w7.drew = w8 at BK682 BK683 BK684 HB hHeld ⊢
  refine take_ (i := 0) (N := some 5) (v := ?_) (a' := ?_) #[true, false, false, false, false] rfl rfl (by kernel_rfl) (fun _ _ _ h => h) (Or.inl ⟨by rfl, ?_⟩) hHeld ?_ ?_
  rotate_left
  · rintro w' ⟨s0, s1, s2, s3⟩
    go_simp
    with_reducible rfl
  rotate_left
  · simp only [Act.put, zSa, zSb, zSc, i64_w, i32_w]
    rfl
  refine take_ (i := 1) (N := some 6) (v := ?_) (a' := ?_) #[true, true, false, false, false] rfl rfl (by kernel_rfl) (fun _ _ _ h => h) (Or.inl ⟨by rfl, ?_⟩) hHeld ?_ ?_
  rotate_left
  · rintro w' ⟨s0, s1, s2, s3⟩
    go_simp
    with_reducible rfl
  rotate_left
  · simp only [Act.put, zSa, zSb, zSc, i64_w, i32_w]
    rfl
  refine one_ (i := 2) (N := some 7) #[true, true, true, false, false] rfl rfl (by kernel_rfl) (by decide) (fun K hK => ?_)
  refine goes_ Tryd.func44 (by kernel_rfl) rfl #[.agg #[.bool a1_0, .slice A1_1 l1_1.length c1_1]] (by rfl) rfl rfl (by (try simp only [zMa, zMc, zMn]); first | done | rfl | (simp only [zLd, zLt]; rfl)) ?_
  with_reducible refine (filigreeref02_Neg.calls k a1_0 _ _ l1_1 t685 t686 _ ?side1 ?side2 A3.out).mono ?_
  (case side1 => repeat (first | exact (Kd.C_below HR1_1.out HB.out) | (with_reducible refine zCa ?_ _) | (with_reducible refine zCn ?_ _) | (with_reducible refine zCd ?_)))
  (case side2 => exact HC1_1.out)
  rintro e w9 ⟨v687, rfl, ho0, hb⟩
  refine ⟨_, rfl, ?_⟩
  have HO688 := zMk (zRl ho0 (zBs (by exact uT HB.out)))
  replace BK682 := zMk (zKb (g := gb682) (o := .cells #[.bool a0_0, .slice A0_1 l0_1.length c0_1] 24 (0, 0)) (by (with_reducible repeat (first | refine zKn ?_ _ | refine zKd ?_ | refine zKa ?_ _)); exact BK682.out) hb)
  replace BK683 := zMk (zKb (g := gb683) (o := .cells #[.bool a1_0, .slice A1_1 l1_1.length c1_1] 24 (0, 0)) (by (with_reducible repeat (first | refine zKn ?_ _ | refine zKd ?_ | refine zKa ?_ _)); exact BK683.out) hb)
  replace BK684 := zMk (zKb (g := gb684) (o := .cells #[.bool false, .slice none 0 0] 24 (0, 0)) (by (with_reducible repeat (first | refine zKn ?_ _ | refine zKd ?_ | refine zKa ?_ _)); exact BK684.out) hb)
  replace HB := zMk (zBt (by exact uT HB.out) hb)
  (try clear hb)
  (try clear hb2)
  (try clear hk)
  (try clear hi)
  (try clear ho0)
  obtain ⟨Ao10, co10, eo10⟩ := zRs HO688.out
  (first |  subst eo10|  (injection eo10 with f1_ f2_ f3_; have f4_ := f1_.symm; have f5_ := f3_.symm; clear f1_ f2_ f3_; subst f4_; subst f5_))
  refine hK.out _ _ ⟨(zKc BK682.out 0).trans rfl, (zKc BK682.out 1).trans rfl, (zKc BK683.out 0).trans rfl, (zKc BK683.out 1).trans rfl⟩ (fun hHeld => ?_)
  clear hK K
  refine norm_ (a' := ?_) ?_ ?_
  rotate_left
  · show Act.put _ (some 7) _ = _
    simp only [Act.put, zSa, zSb, zSc, i64_w, i32_w]
    rfl
  refine one_ (i := 3) (N := some 8) #[true, true, true, true, false] rfl rfl (by kernel_rfl) (by decide) (fun K hK => ?_)
  refine goes_ Tryd.func18 (by kernel_rfl) rfl #[.agg #[.bool a0_0, .slice A0_1 l0_1.length c0_1], .agg #[.bool t685, .slice Ao10 t686.length co10]] (by rfl) rfl rfl (by (try simp only [zMa, zMc, zMn]); first | done | rfl | (simp only [zLd, zLt]; rfl)) ?_
  with_reducible refine (filigreeref02_Add.calls k a0_0 _ _ l0_1 t685 _ _ t686 t689 t690 _ ?side1 ?side2 ?side3 ?side4 A4.out).mono ?_
  (case side1 => repeat (first | exact (Kd.C_below HR0_1.out HB.out) | (with_reducible refine zCa ?_ _) | (with_reducible refine zCn ?_ _) | (with_reducible refine zCd ?_)))
  (case side2 => exact HC0_1.out)
  (case side3 => exact uC (zRr HO688.out).2.2)
  (case side4 => exact (zRr HO688.out).2.1)
  rintro e w11 ⟨v691, rfl, ho0, hb⟩
  refine ⟨_, rfl, ?_⟩
  have HO692 := zMk (zRl (zRw ho0 (zRt (by exact uR HO688.out))) (zBs (by exact uT HB.out)))
  replace HO688 := zMk (zRe (by exact uR HO688.out) (zRz ho0) hb)
  replace BK682 := zMk (zKb (g := gb682) (o := .cells #[.bool a0_0, .slice A0_1 l0_1.length c0_1] 24 (0, 0)) (by (with_reducible repeat (first | refine zKn ?_ _ | refine zKd ?_ | refine zKa ?_ _)); exact BK682.out) hb)
  replace BK683 := zMk (zKb (g := gb683) (o := .cells #[.bool a1_0, .slice A1_1 l1_1.length c1_1] 24 (0, 0)) (by (with_reducible repeat (first | refine zKn ?_ _ | refine zKd ?_ | refine zKa ?_ _)); exact BK683.out) hb)
  replace BK684 := zMk (zKb (g := gb684) (o := .cells #[.bool false, .slice none 0 0] 24 (0, 0)) (by (with_reducible repeat (first | refine zKn ?_ _ | refine zKd ?_ | refine zKa ?_ _)); exact BK684.out) hb)
  replace HB := zMk (zBt (by exact uT HB.out) hb)
  (try clear hb)
  (try clear hb2)
  (try clear hk)
  (try clear hi)
  (try clear ho0)
  obtain ⟨Ao13, co13, eo13⟩ := zRs HO692.out
  (first |  subst eo13|  (injection eo13 with f1_ f2_ f3_; have f4_ := f1_.symm; have f5_ := f3_.symm; clear f1_ f2_ f3_; subst f4_; subst f5_))
  refine hK.out _ _ ⟨(zKc BK682.out 0).trans rfl, (zKc BK682.out 1).trans rfl, (zKc BK683.out 0).trans rfl, (zKc BK683.out 1).trans rfl⟩ (fun hHeld => ?_)
  clear hK K
  refine norm_ (a' := ?_) ?_ ?_
  rotate_left
  · show Act.put _ (some 8) _ = _
    simp only [Act.put, zSa, zSb, zSc, i64_w, i32_w]
    rfl
  refine one_ (i := 4) (N := none) #[true, true, true, true, true] rfl rfl (by kernel_rfl) (by decide) (fun K hK => ?_)
  have hs12 : w11.cell? ⟨gb684, 0, none⟩ = some (.bool false) := (zKc BK684.out 0).trans rfl
  have hfs12 := zKf BK684.out 0
  have hns12_0 := NB682_684.out
  have hns12_1 := NB683_684.out
  have hms12_0 := NB684_682.out
  have hms12_1 := NB684_683.out
  have hs14 : w11.cell? ⟨gb684, 1, none⟩ = some (.slice none 0 0) := (zKc BK684.out 1).trans rfl
  have hfs14 := zKf BK684.out 1
  have hns14_0 := NB682_684.out
  have hns14_1 := NB683_684.out
  have hms14_0 := NB684_682.out
  have hms14_1 := NB684_683.out
  refine skip_ (w1 := ?_) (by rfl) rfl ?_ ?_
  rotate_left
  · go_simp
    rfl
  refine hK.out _ _ ⟨((cell_far (p := ⟨gb684, _, none⟩) NB682_684.out _).trans (((cell_far (p := ⟨gb684, _, none⟩) NB682_684.out _).trans (hHeld.1)))), ((cell_far (p := ⟨gb684, _, none⟩) NB682_684.out _).trans (((cell_far (p := ⟨gb684, _, none⟩) NB682_684.out _).trans (hHeld.2.1)))), ((cell_far (p := ⟨gb684, _, none⟩) NB683_684.out _).trans (((cell_far (p := ⟨gb684, _, none⟩) NB683_684.out _).trans (hHeld.2.2.1)))), ((cell_far (p := ⟨gb684, _, none⟩) NB683_684.out _).trans (((cell_far (p := ⟨gb684, _, none⟩) NB683_684.out _).trans (hHeld.2.2.2))))⟩ (fun hHeld => ?_)
  clear hK K
  refine done_ (by kernel_rfl) ?_
  try go_wp2
  refine bodyPost_ret (results_cell_row rfl _ _ gb684 24 #[.bool t689, .slice Ao13 t690.length co13] (0, 0) _ rfl (by (with_reducible repeat (first | refine zKn ?_ _ | refine zKd ?_ | refine zKa ?_ _)); refine blk_put (cs := #[.bool t689, .slice none 0 0]) ?_ 1 _ rfl; (with_reducible repeat (first | refine zKn ?_ _ | refine zKd ?_ | refine zKa ?_ _)); refine blk_put (cs := #[.bool false, .slice none 0 0]) ?_ 0 _ rfl; (with_reducible repeat (first | refine zKn ?_ _ | refine zKd ?_ | refine zKa ?_ _)); exact BK684.out) Tryd.underlying24 rfl (by kernel_rfl)) rfl ?_
  exact ⟨_, by first | rfl | (simp [errW_none, errW_some] <;> rfl) | (simp [*, errW_none, errW_some] <;> rfl), by (with_reducible repeat (first | apply zRa | apply zRn | apply zRd)); exact zRm (Kd.R_far (p := ⟨gb684, 1, none⟩) (Kd.R_far (p := ⟨gb684, 0, none⟩) (Kd.R_types HO692.out BK684.out (by decide)) (fun _ hk => hk.2) (.bool t689)) (fun _ hk => hk.2) (.slice Ao13 t690.length co13)) (fun _ hk => trivial), by exact uT HB.out⟩


def filigreeref02_Mul.f (k : Nat) (a0_0 : Bool) (l0_1 : List Int) (a1_0 : Bool) (l1_1 : List Int) : Option (Bool × List Int) := (r1_Mul.f k l0_1 l1_1).bind fun t1052 => ((filigreeref02_make2.f k (a0_0 != a1_0) t1052).bind fun bt1055 => (some (bt1055.1, bt1055.2)))
def filigreeref02_Mul.T1 : Bool × List (List Nat × List Nat) := (true, [([], []), ([0], [0]), ([], []), ([2], [2]), ([1, 3], [1, 3]), ([], []), ([5], [5]), ([], []), ([7], [7]), ([6, 8], [6, 8]), ([4, 9, 9], [4, 9]), ([10, 10, 0, 1, 2, 3, 4, 5, 6, 7, 8, 9, 10], [10])])
def filigreeref02_Mul.B1 : List Nat := [0, 1, 0, 4, 15, 0, 32, 0, 128, 480, 1023, 2047]
theorem filigreeref02_Mul.tab1 : rtab .any (opsOf Tryd.f22 1) = filigreeref02_Mul.T1 := by kernel_rfl
theorem filigreeref02_Mul.bits1 : waitsOk filigreeref02_Mul.T1.2 filigreeref02_Mul.B1 = true := by kernel_rfl
set_option maxHeartbeats 8000000 in
set_option maxRecDepth 100000 in
theorem filigreeref02_Mul.calls (k : Nat) (a0_0 : Bool) (A0_1 : Option Addr) (c0_1 : Nat) (l0_1 : List Int) (a1_0 : Bool) (A1_1 : Option Addr) (c1_1 : Nat) (l1_1 : List Int) (r1 : Bool) (r2 : List Int) (w : World) (hr0_1 : Kd.C (Kd.int .u32) w A0_1 l0_1.length l0_1) (hc0_1 : l0_1.length ≤ c0_1) (hr1_1 : Kd.C (Kd.int .u32) w A1_1 l1_1.length l1_1) (hc1_1 : l1_1.length ≤ c1_1) (h : filigreeref02_Mul.f k a0_0 l0_1 a1_0 l1_1 = some (r1, r2)) :
    Calls Tryd.prog 22 #[.agg #[.bool a0_0, .slice A0_1 l0_1.length c0_1], .agg #[.bool a1_0, .slice A1_1 l1_1.length c1_1]] w fun e w' => ∃ v1_ : Value, e = .returned (.agg #[.bool r1, v1_]) ∧ Kd.R (Kd.int .u32) 58 w' w.heap.size (fun _ => True) v1_ r2 ∧ Below w.heap.size w w' := by
  have hu24 := Tryd.underlying24
  have HR0_1 := zMk hr0_1
  have HC0_1 := zMk hc0_1
  clear hr0_1 hc0_1
  have HR1_1 := zMk hr1_1
  have HC1_1 := zMk hc1_1
  clear hr1_1 hc1_1
  have HB := zMk (Below.refl w.heap.size w)
  have H : ((r1_Mul.f k l0_1 l1_1).bind fun t1052 => ((filigreeref02_make2.f k (a0_0 != a1_0) t1052).bind fun bt1055 => (some (bt1055.1, bt1055.2)))) = some (r1, r2) := h
  clear h
  replace H := bnd H
  obtain ⟨t1052, A30, H⟩ := H
  have A3 := zMk A30
  clear A30
  replace H := bnd H
  obtain ⟨⟨t1055, t1056⟩, A40, H⟩ := H
  replace H : (some (t1055, t1056)) = some (r1, r2) := H
  have A4 := zMk A40
  clear A40
  simp only [Option.some.injEq, Prod.mk.injEq] at H
  obtain ⟨rfl, rfl⟩ := H
  go_enter Tryd.func22, Tryd.ntmps22
  try go_wp2_with (first |  ((with_reducible refine gate_dst (N := 2) rfl ?_); refine box_event ?hg (N := 2) ?hd (cs := #[.bool a0_0, .slice A0_1 l0_1.length c0_1]) (t := 24) ?hr ?_; (case hd => rfl); (case hg => rfl); (case hr => first |  (go_simp; done)|  (go_simp; rfl)|  (go_simp; rw [show ∀ x : Int, IntKind.u32.wrap (IntKind.u8.wrap x) = x % 256 from fun x => (by show (x % 256) % 4294967296 = x % 256; omega)])); intro gb1049 hg w5 hbox hb; have BK1049 := zMk (hbox); have GW1049 := zMk ((by rw [hg]; exact (zBs (by exact uT HB.out)) : w.heap.size ≤ gb1049)); have GE1049 := zMk ((by rw [hg]; exact (zBs (by exact uT HB.out)) : w.heap.size ≤ gb1049)); have IGE1049 := ownGe GE1049.out; replace HB := zMk (zBt (by exact uT HB.out) hb); clear hb hbox hg)|  ((with_reducible refine gate_dst (N := 3) rfl ?_); refine box_event ?hg (N := 3) ?hd (cs := #[.bool a1_0, .slice A1_1 l1_1.length c1_1]) (t := 24) ?hr ?_; (case hd => rfl); (case hg => rfl); (case hr => first |  (go_simp; done)|  (go_simp; rfl)|  (go_simp; rw [show ∀ x : Int, IntKind.u32.wrap (IntKind.u8.wrap x) = x % 256 from fun x => (by show (x % 256) % 4294967296 = x % 256; omega)])); intro gb1050 hg w6 hbox hb; have BK1050 := zMk (hbox); have GW1050 := zMk ((by rw [hg]; exact (zBs (by exact uT HB.out)) : w.heap.size ≤ gb1050)); have GE1050 := zMk ((by rw [hg]; exact (zBs (by exact uT HB.out)) : w.heap.size ≤ gb1050)); have IGE1050 := ownGe GE1050.out; replace HB := zMk (zBt (by exact uT HB.out) hb); have NB1049_1050 := zMk ((by rw [hg]; exact Nat.ne_of_lt (blk_lt (g := gb1049) (o := .cells #[.bool a0_0, .slice A0_1 l0_1.length c0_1] 24 (0, 0)) (by (with_reducible repeat (first |  refine zKn ?_ _|  refine zKd ?_|  refine zKa ?_ _)); exact BK1049.out)) : gb1049 ≠ gb1050)); have NB1050_1049 := zMk ((by rw [hg]; exact Nat.ne_of_gt (blk_lt (g := gb1049) (o := .cells #[.bool a0_0, .slice A0_1 l0_1.length c0_1] 24 (0, 0)) (by (with_reducible repeat (first |  refine zKn ?_ _|  refine zKd ?_|  refine zKa ?_ _)); exact BK1049.out)) : gb1050 ≠ gb1049)); replace BK1049 := zMk (zKb (g := gb1049) (o := .cells #[.bool a0_0, .slice A0_1 l0_1.length c0_1] 24 (0, 0)) (by (with_reducible repeat (first |  refine zKn ?_ _|  refine zKd ?_|  refine zKa ?_ _)); exact BK1049.out) hb); clear hb hbox hg)|  ((with_reducible refine gate_dst (N := 4) rfl ?_); refine box_event ?hg (N := 4) ?hd (cs := #[.bool false, .slice none 0 0]) (t := 24) ?hr ?_; (case hd => rfl); (case hg => rfl); (case hr => first |  (go_simp; done)|  (go_simp; rfl)|  (go_simp; rw [show ∀ x : Int, IntKind.u32.wrap (IntKind.u8.wrap x) = x % 256 from fun x => (by show (x % 256) % 4294967296 = x % 256; omega)])); intro gb1051 hg w7 hbox hb; have BK1051 := zMk (hbox); have GW1051 := zMk ((by rw [hg]; exact (zBs (by exact uT HB.out)) : w.heap.size ≤ gb1051)); have GE1051 := zMk ((by rw [hg]; exact (zBs (by exact uT HB.out)) : w.heap.size ≤ gb1051)); have IGE1051 := ownGe GE1051.out; replace HB := zMk (zBt (by exact uT HB.out) hb); have NB1049_1051 := zMk ((by rw [hg]; exact Nat.ne_of_lt (blk_lt (g := gb1049) (o := .cells #[.bool a0_0, .slice A0_1 l0_1.length c0_1] 24 (0, 0)) (by (with_reducible repeat (first |  refine zKn ?_ _|  refine zKd ?_|  refine zKa ?_ _)); exact BK1049.out)) : gb1049 ≠ gb1051)); have NB1051_1049 := zMk ((by rw [hg]; exact Nat.ne_of_gt (blk_lt (g := gb1049) (o := .cells #[.bool a0_0, .slice A0_1 l0_1.length c0_1] 24 (0, 0)) (by (with_reducible repeat (first |  refine zKn ?_ _|  refine zKd ?_|  refine zKa ?_ _)); exact BK1049.out)) : gb1051 ≠ gb1049)); replace BK1049 := zMk (zKb (g := gb1049) (o := .cells #[.bool a0_0, .slice A0_1 l0_1.length c0_1] 24 (0, 0)) (by (with_reducible repeat (first |  refine zKn ?_ _|  refine zKd ?_|  refine zKa ?_ _)); exact BK1049.out) hb); have NB1050_1051 := zMk ((by rw [hg]; exact Nat.ne_of_lt (blk_lt (g := gb1050) (o := .cells #[.bool a1_0, .slice A1_1 l1_1.length c1_1] 24 (0, 0)) (by (with_reducible repeat (first |  refine zKn ?_ _|  refine zKd ?_|  refine zKa ?_ _)); exact BK1050.out)) : gb1050 ≠ gb1051)); have NB1051_1050 := zMk ((by rw [hg]; exact Nat.ne_of_gt (blk_lt (g := gb1050) (o := .cells #[.bool a1_0, .slice A1_1 l1_1.length c1_1] 24 (0, 0)) (by (with_reducible repeat (first |  refine zKn ?_ _|  refine zKd ?_|  refine zKa ?_ _)); exact BK1050.out)) : gb1051 ≠ gb1050)); replace BK1050 := zMk (zKb (g := gb1050) (o := .cells #[.bool a1_0, .slice A1_1 l1_1.length c1_1] 24 (0, 0)) (by (with_reducible repeat (first |  refine zKn ?_ _|  refine zKd ?_|  refine zKa ?_ _)); exact BK1050.out) hb); clear hb hbox hg))
  replace BK1049 := zMk (zKd BK1049.out)
  replace BK1050 := zMk (zKd BK1050.out)
  replace BK1051 := zMk (zKd BK1051.out)
  replace HB := zMk (zBd HB.out)
  refine start_ (n := 12) (S := fun w' => w'.cell? ⟨gb1049, 0, none⟩ = some (.bool a0_0) ∧ w'.cell? ⟨gb1049, 1, none⟩ = some (.slice A0_1 l0_1.length c0_1) ∧ w'.cell? ⟨gb1050, 0, none⟩ = some (.bool a1_0) ∧ w'.cell? ⟨gb1050, 1, none⟩ = some (.slice A1_1 l1_1.length c1_1)) (ds := []) #[false, false, false, false, false, false, false, false, false, false, false, false] (by kernel_rfl) rfl rfl ⟨(zKc BK1049.out 0).trans rfl, (zKc BK1049.out 1).trans rfl, (zKc BK1050.out 0).trans rfl, (zKc BK1050.out 1).trans rfl⟩ (fun hHeld => ?_); refine with_tabW filigreeref02_Mul.tab1 filigreeref02_Mul.bits1 (fun HT_ HW_ => ?_)
  generalize w7.drew = w8 at BK1049 BK1050 BK1051 HB hHeld ⊢
  refine pure_ (i := 0) (N := some 5) (v := ?_) (a' := ?_) #[true, false, false, false, false, false, false, false, false, false, false, false] rfl rfl (any_of HT_.out (by kernel_rfl)) (fun _ _ _ h => h) (Or.inl ⟨by rfl, ?_⟩) ?_ ?_
  rotate_left
  · intro w'
    go_simp
    with_reducible rfl
  rotate_left
  · simp only [Act.put, zSa, zSb, zSc, i64_w, i32_w]
    rfl
  refine pure_ (i := 2) (N := some 7) (v := ?_) (a' := ?_) #[true, false, true, false, false, false, false, false, false, false, false, false] rfl rfl (any_of HT_.out (by kernel_rfl)) (fun _ _ _ h => h) (Or.inl ⟨by rfl, ?_⟩) ?_ ?_
  rotate_left
  · intro w'
    go_simp
    with_reducible rfl
  rotate_left
  · simp only [Act.put, zSa, zSb, zSc, i64_w, i32_w]
    rfl
  refine pure_ (i := 5) (N := some 10) (v := ?_) (a' := ?_) #[true, false, true, false, false, true, false, false, false, false, false, false] rfl rfl (any_of HT_.out (by kernel_rfl)) (fun _ _ _ h => h) (Or.inl ⟨by rfl, ?_⟩) ?_ ?_
  rotate_left
  · intro w'
    go_simp
    with_reducible rfl
  rotate_left
  · simp only [Act.put, zSa, zSb, zSc, i64_w, i32_w]
    rfl
  refine pure_ (i := 7) (N := some 12) (v := ?_) (a' := ?_) #[true, false, true, false, false, true, false, true, false, false, false, false] rfl rfl (any_of HT_.out (by kernel_rfl)) (fun _ _ _ h => h) (Or.inl ⟨by rfl, ?_⟩) ?_ ?_
  rotate_left
  · intro w'
    go_simp
    with_reducible rfl
  rotate_left
  · simp only [Act.put, zSa, zSb, zSc, i64_w, i32_w]
    rfl
  refine take_ (i := 1) (N := some 6) (v := ?_) (a' := ?_) #[true, true, true, false, false, true, false, true, false, false, false, false] rfl rfl (take_ofW HT_.out HW_.out (by kernel_rfl)) (fun _ _ _ h => h) (Or.inl ⟨by rfl, ?_⟩) hHeld ?_ ?_
  rotate_left
  · rintro w' ⟨s0, s1, s2, s3⟩
    go_simp
    with_reducible rfl
  rotate_left
  · simp only [Act.put, zSa, zSb, zSc, i64_w, i32_w]
    rfl
  refine take_ (i := 3) (N := some 8) (v := ?_) (a' := ?_) #[true, true, true, true, false, true, false, true, false, false, false, false] rfl rfl (take_ofW HT_.out HW_.out (by kernel_rfl)) (fun _ _ _ h => h) (Or.inl ⟨by rfl, ?_⟩) hHeld ?_ ?_
  rotate_left
  · rintro w' ⟨s0, s1, s2, s3⟩
    go_simp
    with_reducible rfl
  rotate_left
  · simp only [Act.put, zSa, zSb, zSc, i64_w, i32_w]
    rfl
  refine pure_ (i := 4) (N := some 9) (v := ?_) (a' := ?_) #[true, true, true, true, true, true, false, true, false, false, false, false] rfl rfl (any_of HT_.out (by kernel_rfl)) (fun _ _ _ h => h) (Or.inl ⟨by rfl, ?_⟩) ?_ ?_
  rotate_left
  · intro w'
    go_simp
    with_reducible rfl
  rotate_left
  · simp only [Act.put, zSa, zSb, zSc, i64_w, i32_w]
    rfl
  refine take_ (i := 6) (N := some 11) (v := ?_) (a' := ?_) #[true, true, true, true, true, true, true, true, false, false, false, false] rfl rfl (take_ofW HT_.out HW_.out (by kernel_rfl)) (fun _ _ _ h => h) (Or.inl ⟨by rfl, ?_⟩) hHeld ?_ ?_
  rotate_left
  · rintro w' ⟨s0, s1, s2, s3⟩
    go_simp
    with_reducible rfl
  rotate_left
  · simp only [Act.put, zSa, zSb, zSc, i64_w, i32_w]
    rfl
  refine take_ (i := 8) (N := some 13) (v := ?_) (a' := ?_) #[true, true, true, true, true, true, true, true, true, false, false, false] rfl rfl (take_ofW HT_.out HW_.out (by kernel_rfl)) (fun _ _ _ h => h) (Or.inl ⟨by rfl, ?_⟩) hHeld ?_ ?_
  rotate_left
  · rintro w' ⟨s0, s1, s2, s3⟩
    go_simp
    with_reducible rfl
  rotate_left
  · simp only [Act.put, zSa, zSb, zSc, i64_w, i32_w]
    rfl
  refine one_ (i := 9) (N := some 14) #[true, true, true, true, true, true, true, true, true, true, false, false] rfl rfl (one_of HT_.out (by kernel_rfl)) (by decide) (fun K hK => ?_)
  refine goes_ Tryd.func46 (by kernel_rfl) rfl #[.slice A0_1 l0_1.length c0_1, .slice A1_1 l1_1.length c1_1] (by rfl) rfl rfl (by (try simp only [zMa, zMc, zMn]); first | done | rfl | (simp only [zLd, zLt]; rfl)) ?_
  with_reducible refine (r1_Mul.calls k _ _ l0_1 _ _ l1_1 t1052 _ ?side1 ?side2 ?side3 ?side4 A3.out).mono ?_
  (case side1 => repeat (first | exact (Kd.C_below HR0_1.out HB.out) | (with_reducible refine zCa ?_ _) | (with_reducible refine zCn ?_ _) | (with_reducible refine zCd ?_)))
  (case side2 => exact HC0_1.out)
  (case side3 => repeat (first | exact (Kd.C_below HR1_1.out HB.out) | (with_reducible refine zCa ?_ _) | (with_reducible refine zCn ?_ _) | (with_reducible refine zCd ?_)))
  (case side4 => exact HC1_1.out)
  rintro e w9 ⟨v1053, rfl, ho0, hb⟩
  refine ⟨_, rfl, ?_⟩
  have HO1054 := zMk (zRl ho0 (zBs (by exact uT HB.out)))
  replace BK1049 := zMk (zKb (g := gb1049) (o := .cells #[.bool a0_0, .slice A0_1 l0_1.length c0_1] 24 (0, 0)) (by (with_reducible repeat (first | refine zKn ?_ _ | refine zKd ?_ | refine zKa ?_ _)); exact BK1049.out) hb)
  replace BK1050 := zMk (zKb (g := gb1050) (o := .cells #[.bool a1_0, .slice A1_1 l1_1.length c1_1] 24 (0, 0)) (by (with_reducible repeat (first | refine zKn ?_ _ | refine zKd ?_ | refine zKa ?_ _)); exact BK1050.out) hb)
  replace BK1051 := zMk (zKb (g := gb1051) (o := .cells #[.bool false, .slice none 0 0] 24 (0, 0)) (by (with_reducible repeat (first | refine zKn ?_ _ | refine zKd ?_ | refine zKa ?_ _)); exact BK1051.out) hb)
  replace HB := zMk (zBt (by exact uT HB.out) hb)
  (try clear hb)
  (try clear hb2)
  (try clear hk)
  (try clear hi)
  (try clear ho0)
  obtain ⟨Ao10, co10, eo10⟩ := zRs HO1054.out
  (first |  subst eo10|  (injection eo10 with f1_ f2_ f3_; have f4_ := f1_.symm; have f5_ := f3_.symm; clear f1_ f2_ f3_; subst f4_; subst f5_))
  refine hK.out _ _ ⟨(zKc BK1049.out 0).trans rfl, (zKc BK1049.out 1).trans rfl, (zKc BK1050.out 0).trans rfl, (zKc BK1050.out 1).trans rfl⟩ (fun hHeld => ?_)
  clear hK K
  refine norm_ (a' := ?_) ?_ ?_
  rotate_left
  · show Act.put _ (some 14) _ = _
    simp only [Act.put, zSa, zSb, zSc, i64_w, i32_w]
    rfl
  refine one_ (i := 10) (N := some 15) #[true, true, true, true, true, true, true, true, true, true, true, false] rfl rfl (one_of HT_.out (by kernel_rfl)) (by decide) (fun K hK => ?_)
  refine goes_ Tryd.func38 (by kernel_rfl) rfl #[.bool (a0_0 != a1_0), .slice Ao10 t1052.length co10] (by rfl) rfl rfl (by (try simp only [zMa, zMc, zMn]); first | done | rfl | (simp only [zLd, zLt]; rfl)) ?_
  with_reducible refine (filigreeref02_make2.calls k (a0_0 != a1_0) _ _ t1052 t1055 t1056 _ ?side1 ?side2 A4.out).mono ?_
  (case side1 => exact uC (zRr HO1054.out).2.2)
  (case side2 => exact (zRr HO1054.out).2.1)
  rintro e w11 ⟨v1057, rfl, ho0, hb⟩
  refine ⟨_, rfl, ?_⟩
  have HO1058 := zMk (zRl (zRw ho0 (zRt (by exact uR HO1054.out))) (zBs (by exact uT HB.out)))
  replace HO1054 := zMk (zRe (by exact uR HO1054.out) (zRz ho0) hb)
  replace BK1049 := zMk (zKb (g := gb1049) (o := .cells #[.bool a0_0, .slice A0_1 l0_1.length c0_1] 24 (0, 0)) (by (with_reducible repeat (first | refine zKn ?_ _ | refine zKd ?_ | refine zKa ?_ _)); exact BK1049.out) hb)
  replace BK1050 := zMk (zKb (g := gb1050) (o := .cells #[.bool a1_0, .slice A1_1 l1_1.length c1_1] 24 (0, 0)) (by (with_reducible repeat (first | refine zKn ?_ _ | refine zKd ?_ | refine zKa ?_ _)); exact BK1050.out) hb)
  replace BK1051 := zMk (zKb (g := gb1051) (o := .cells #[.bool false, .slice none 0 0] 24 (0, 0)) (by (with_reducible repeat (first | refine zKn ?_ _ | refine zKd ?_ | refine zKa ?_ _)); exact BK1051.out) hb)
  replace HB := zMk (zBt (by exact uT HB.out) hb)
  (try clear hb)
  (try clear hb2)
  (try clear hk)
  (try clear hi)
  (try clear ho0)
  obtain ⟨Ao13, co13, eo13⟩ := zRs HO1058.out
  (first |  subst eo13|  (injection eo13 with f1_ f2_ f3_; have f4_ := f1_.symm; have f5_ := f3_.symm; clear f1_ f2_ f3_; subst f4_; subst f5_))
  refine hK.out _ _ ⟨(zKc BK1049.out 0).trans rfl, (zKc BK1049.out 1).trans rfl, (zKc BK1050.out 0).trans rfl, (zKc BK1050.out 1).trans rfl⟩ (fun hHeld => ?_)
  clear hK K
  refine norm_ (a' := ?_) ?_ ?_
  rotate_left
  · show Act.put _ (some 15) _ = _
    simp only [Act.put, zSa, zSb, zSc, i64_w, i32_w]
    rfl
  refine one_ (i := 11) (N := none) #[true, true, true, true, true, true, true, true, true, true, true, true] rfl rfl (one_of HT_.out (by kernel_rfl)) (by decide) (fun K hK => ?_)
  have hs12 : w11.cell? ⟨gb1051, 0, none⟩ = some (.bool false) := (zKc BK1051.out 0).trans rfl
  have hfs12 := zKf BK1051.out 0
  have hns12_0 := NB1049_1051.out
  have hns12_1 := NB1050_1051.out
  have hms12_0 := NB1051_1049.out
  have hms12_1 := NB1051_1050.out
  have hs14 : w11.cell? ⟨gb1051, 1, none⟩ = some (.slice none 0 0) := (zKc BK1051.out 1).trans rfl
  have hfs14 := zKf BK1051.out 1
  have hns14_0 := NB1049_1051.out
  have hns14_1 := NB1050_1051.out
  have hms14_0 := NB1051_1049.out
  have hms14_1 := NB1051_1050.out
  refine skip_ (w1 := ?_) (by rfl) rfl ?_ ?_
  rotate_left
  · go_simp
    rfl
  refine hK.out _ _ ⟨((cell_far (p := ⟨gb1051, _, none⟩) NB1049_1051.out _).trans (((cell_far (p := ⟨gb1051, _, none⟩) NB1049_1051.out _).trans (hHeld.1)))), ((cell_far (p := ⟨gb1051, _, none⟩) NB1049_1051.out _).trans (((cell_far (p := ⟨gb1051, _, none⟩) NB1049_1051.out _).trans (hHeld.2.1)))), ((cell_far (p := ⟨gb1051, _, none⟩) NB1050_1051.out _).trans (((cell_far (p := ⟨gb1051, _, none⟩) NB1050_1051.out _).trans (hHeld.2.2.1)))), ((cell_far (p := ⟨gb1051, _, none⟩) NB1050_1051.out _).trans (((cell_far (p := ⟨gb1051, _, none⟩) NB1050_1051.out _).trans (hHeld.2.2.2))))⟩ (fun hHeld => ?_)
  clear hK K
  refine done_ (done_of HT_.out (by kernel_rfl)) ?_
  try go_wp2
  refine bodyPost_ret (results_cell_row rfl _ _ gb1051 24 #[.bool t1055, .slice Ao13 t1056.length co13] (0, 0) _ rfl (by (with_reducible repeat (first | refine zKn ?_ _ | refine zKd ?_ | refine zKa ?_ _)); refine blk_put (cs := #[.bool t1055, .slice none 0 0]) ?_ 1 _ rfl; (with_reducible repeat (first | refine zKn ?_ _ | refine zKd ?_ | refine zKa ?_ _)); refine blk_put (cs := #[.bool false, .slice none 0 0]) ?_ 0 _ rfl; (with_reducible repeat (first | refine zKn ?_ _ | refine zKd ?_ | refine zKa ?_ _)); exact BK1051.out) Tryd.underlying24 rfl (by kernel_rfl)) rfl ?_
  exact ⟨_, by first | rfl | (simp [errW_none, errW_some] <;> rfl) | (simp [*, errW_none, errW_some] <;> rfl), by (with_reducible repeat (first | apply zRa | apply zRn | apply zRd)); exact zRm (Kd.R_far (p := ⟨gb1051, 1, none⟩) (Kd.R_far (p := ⟨gb1051, 0, none⟩) (Kd.R_types HO1058.out BK1051.out (by decide)) (fun _ hk => hk.2) (.bool t1055)) (fun _ hk => hk.2) (.slice Ao13 t1056.length co13)) (fun _ hk => trivial), by exact uT HB.out⟩


def filigreeref02_Same.f (k : Nat) (a0_0 : Bool) (l0_1 : List Int) (a1_0 : Bool) (l1_1 : List Int) : Option (Bool) := if (a0_0 == a1_0) = true then ((r1_Same.f k l0_1 l1_1).bind fun t424 => (some t424)) else (some false)
set_option maxHeartbeats 8000000 in
set_option maxRecDepth 100000 in
theorem filigreeref02_Same.calls (k : Nat) (a0_0 : Bool) (A0_1 : Option Addr) (c0_1 : Nat) (l0_1 : List Int) (a1_0 : Bool) (A1_1 : Option Addr) (c1_1 : Nat) (l1_1 : List Int) (r : Bool) (w : World) (hr0_1 : Kd.C (Kd.int .u32) w A0_1 l0_1.length l0_1) (hc0_1 : l0_1.length ≤ c0_1) (hr1_1 : Kd.C (Kd.int .u32) w A1_1 l1_1.length l1_1) (hc1_1 : l1_1.length ≤ c1_1) (h : filigreeref02_Same.f k a0_0 l0_1 a1_0 l1_1 = some r) :
    Calls Tryd.prog 16 #[.agg #[.bool a0_0, .slice A0_1 l0_1.length c0_1], .agg #[.bool a1_0, .slice A1_1 l1_1.length c1_1]] w fun e w' => e = .returned (.bool r) ∧ Below w.heap.size w w' := by
  have hu24 := Tryd.underlying24
  have HR0_1 := zMk hr0_1
  have HC0_1 := zMk hc0_1
  clear hr0_1 hc0_1
  have HR1_1 := zMk hr1_1
  have HC1_1 := zMk hc1_1
  clear hr1_1 hc1_1
  have HB := zMk (Below.refl w.heap.size w)
  have H : (if (a0_0 == a1_0) = true then ((r1_Same.f k l0_1 l1_1).bind fun t424 => (some t424)) else (some false)) = some r := h
  clear h
  by_cases c3 : (a0_0 == a1_0) = true
  · rw [if_pos c3] at H
    have c3b0 : (a0_0 == a1_0) = true := c3
    (try (have c3b1 : decide (a0_0 = a1_0) = true := by simpa using c3))
    (try (have c3b2 : (a0_0 == a1_0) = true := by simpa using c3))
    clear c3
    replace H := bnd H
    obtain ⟨t424, A40, H⟩ := H
    have A4 := zMk A40
    clear A40
    obtain rfl := zOi H
    go_enter Tryd.func16, Tryd.ntmps16
    go_wp2_with (first |  ((with_reducible refine gate_dst (N := 2) rfl ?_); refine box_event ?hg (N := 2) ?hd (cs := #[.bool a0_0, .slice A0_1 l0_1.length c0_1]) (t := 24) ?hr ?_; (case hd => rfl); (case hg => rfl); (case hr => first |  (go_simp; done)|  (go_simp; rfl)|  (go_simp; rw [show ∀ x : Int, IntKind.u32.wrap (IntKind.u8.wrap x) = x % 256 from fun x => (by show (x % 256) % 4294967296 = x % 256; omega)])); intro gb422 hg w5 hbox hb; have BK422 := zMk (hbox); have GW422 := zMk ((by rw [hg]; exact (zBs (by exact uT HB.out)) : w.heap.size ≤ gb422)); have GE422 := zMk ((by rw [hg]; exact (zBs (by exact uT HB.out)) : w.heap.size ≤ gb422)); have IGE422 := ownGe GE422.out; replace HB := zMk (zBt (by exact uT HB.out) hb); clear hb hbox hg)|  ((with_reducible refine gate_dst (N := 3) rfl ?_); refine box_event ?hg (N := 3) ?hd (cs := #[.bool a1_0, .slice A1_1 l1_1.length c1_1]) (t := 24) ?hr ?_; (case hd => rfl); (case hg => rfl); (case hr => first |  (go_simp; done)|  (go_simp; rfl)|  (go_simp; rw [show ∀ x : Int, IntKind.u32.wrap (IntKind.u8.wrap x) = x % 256 from fun x => (by show (x % 256) % 4294967296 = x % 256; omega)])); intro gb423 hg w6 hbox hb; have BK423 := zMk (hbox); have GW423 := zMk ((by rw [hg]; exact (zBs (by exact uT HB.out)) : w.heap.size ≤ gb423)); have GE423 := zMk ((by rw [hg]; exact (zBs (by exact uT HB.out)) : w.heap.size ≤ gb423)); have IGE423 := ownGe GE423.out; replace HB := zMk (zBt (by exact uT HB.out) hb); have NB422_423 := zMk ((by rw [hg]; exact Nat.ne_of_lt (blk_lt (g := gb422) (o := .cells #[.bool a0_0, .slice A0_1 l0_1.length c0_1] 24 (0, 0)) (by (with_reducible repeat (first |  refine zKn ?_ _|  refine zKd ?_|  refine zKa ?_ _)); exact BK422.out)) : gb422 ≠ gb423)); have NB423_422 := zMk ((by rw [hg]; exact Nat.ne_of_gt (blk_lt (g := gb422) (o := .cells #[.bool a0_0, .slice A0_1 l0_1.length c0_1] 24 (0, 0)) (by (with_reducible repeat (first |  refine zKn ?_ _|  refine zKd ?_|  refine zKa ?_ _)); exact BK422.out)) : gb423 ≠ gb422)); replace BK422 := zMk (zKb (g := gb422) (o := .cells #[.bool a0_0, .slice A0_1 l0_1.length c0_1] 24 (0, 0)) (by (with_reducible repeat (first |  refine zKn ?_ _|  refine zKd ?_|  refine zKa ?_ _)); exact BK422.out) hb); clear hb hbox hg; have hnb7 := NB422_423.out; have hnc7 := NB423_422.out; have hcz8_0 : w6.cell? ⟨gb422, 0, none⟩ = some (.bool a0_0) := (zKc BK422.out 0).trans rfl; have hcz8_1 : w6.cell? ⟨gb422, 1, none⟩ = some (.slice A0_1 l0_1.length c0_1) := (zKc BK422.out 1).trans rfl; have hfz8_0 := zKf BK422.out 0; have hfz8_1 := zKf BK422.out 1; have hcz9_0 : w6.cell? ⟨gb423, 0, none⟩ = some (.bool a1_0) := (zKc BK423.out 0).trans rfl; have hcz9_1 : w6.cell? ⟨gb423, 1, none⟩ = some (.slice A1_1 l1_1.length c1_1) := (zKc BK423.out 1).trans rfl; have hfz9_0 := zKf BK423.out 0; have hfz9_1 := zKf BK423.out 1)|  (go_at_call 40; (with_reducible refine (r1_Same.calls k _ _ l0_1 _ _ l1_1 t424 _ ?side1 ?side2 ?side3 ?side4 A4.out).mono ?_); (case side1 => repeat (first |  exact (Kd.C_below HR0_1.out HB.out)|  (with_reducible refine zCa ?_ _)|  (with_reducible refine zCn ?_ _)|  (with_reducible refine zCd ?_))); (case side2 => exact HC0_1.out); (case side3 => repeat (first |  exact (Kd.C_below HR1_1.out HB.out)|  (with_reducible refine zCa ?_ _)|  (with_reducible refine zCn ?_ _)|  (with_reducible refine zCd ?_))); (case side4 => exact HC1_1.out); rintro e w' ⟨rfl, ⟨nd, rfl⟩⟩))
    go_ret
    exact ⟨by first | rfl | (simp [errW_none, errW_some] <;> rfl) | (simp [*, errW_none, errW_some] <;> rfl), by exact uT HB.out⟩
  · rw [if_neg c3] at H
    have c3b0 : (a0_0 == a1_0) = false := by simpa using c3
    (try (have c3b1 : decide (a0_0 = a1_0) = false := by simpa using c3))
    (try (have c3b2 : (a0_0 == a1_0) = false := by simpa using c3))
    (try (have c3b3 : ¬ (a0_0 = a1_0) := by simpa using c3))
    clear c3
    obtain rfl := zOi H
    go_enter Tryd.func16, Tryd.ntmps16
    go_wp2_with (first |  ((with_reducible refine gate_dst (N := 2) rfl ?_); refine box_event ?hg (N := 2) ?hd (cs := #[.bool a0_0, .slice A0_1 l0_1.length c0_1]) (t := 24) ?hr ?_; (case hd => rfl); (case hg => rfl); (case hr => first |  (go_simp; done)|  (go_simp; rfl)|  (go_simp; rw [show ∀ x : Int, IntKind.u32.wrap (IntKind.u8.wrap x) = x % 256 from fun x => (by show (x % 256) % 4294967296 = x % 256; omega)])); intro gb422 hg w10 hbox hb; have BK422 := zMk (hbox); have GW422 := zMk ((by rw [hg]; exact (zBs (by exact uT HB.out)) : w.heap.size ≤ gb422)); have GE422 := zMk ((by rw [hg]; exact (zBs (by exact uT HB.out)) : w.heap.size ≤ gb422)); have IGE422 := ownGe GE422.out; replace HB := zMk (zBt (by exact uT HB.out) hb); clear hb hbox hg)|  ((with_reducible refine gate_dst (N := 3) rfl ?_); refine box_event ?hg (N := 3) ?hd (cs := #[.bool a1_0, .slice A1_1 l1_1.length c1_1]) (t := 24) ?hr ?_; (case hd => rfl); (case hg => rfl); (case hr => first |  (go_simp; done)|  (go_simp; rfl)|  (go_simp; rw [show ∀ x : Int, IntKind.u32.wrap (IntKind.u8.wrap x) = x % 256 from fun x => (by show (x % 256) % 4294967296 = x % 256; omega)])); intro gb423 hg w11 hbox hb; have BK423 := zMk (hbox); have GW423 := zMk ((by rw [hg]; exact (zBs (by exact uT HB.out)) : w.heap.size ≤ gb423)); have GE423 := zMk ((by rw [hg]; exact (zBs (by exact uT HB.out)) : w.heap.size ≤ gb423)); have IGE423 := ownGe GE423.out; replace HB := zMk (zBt (by exact uT HB.out) hb); have NB422_423 := zMk ((by rw [hg]; exact Nat.ne_of_lt (blk_lt (g := gb422) (o := .cells #[.bool a0_0, .slice A0_1 l0_1.length c0_1] 24 (0, 0)) (by (with_reducible repeat (first |  refine zKn ?_ _|  refine zKd ?_|  refine zKa ?_ _)); exact BK422.out)) : gb422 ≠ gb423)); have NB423_422 := zMk ((by rw [hg]; exact Nat.ne_of_gt (blk_lt (g := gb422) (o := .cells #[.bool a0_0, .slice A0_1 l0_1.length c0_1] 24 (0, 0)) (by (with_reducible repeat (first |  refine zKn ?_ _|  refine zKd ?_|  refine zKa ?_ _)); exact BK422.out)) : gb423 ≠ gb422)); replace BK422 := zMk (zKb (g := gb422) (o := .cells #[.bool a0_0, .slice A0_1 l0_1.length c0_1] 24 (0, 0)) (by (with_reducible repeat (first |  refine zKn ?_ _|  refine zKd ?_|  refine zKa ?_ _)); exact BK422.out) hb); clear hb hbox hg; have hnb12 := NB422_423.out; have hnc12 := NB423_422.out; have hcz13_0 : w11.cell? ⟨gb422, 0, none⟩ = some (.bool a0_0) := (zKc BK422.out 0).trans rfl; have hcz13_1 : w11.cell? ⟨gb422, 1, none⟩ = some (.slice A0_1 l0_1.length c0_1) := (zKc BK422.out 1).trans rfl; have hfz13_0 := zKf BK422.out 0; have hfz13_1 := zKf BK422.out 1; have hcz14_0 : w11.cell? ⟨gb423, 0, none⟩ = some (.bool a1_0) := (zKc BK423.out 0).trans rfl; have hcz14_1 : w11.cell? ⟨gb423, 1, none⟩ = some (.slice A1_1 l1_1.length c1_1) := (zKc BK423.out 1).trans rfl; have hfz14_0 := zKf BK423.out 0; have hfz14_1 := zKf BK423.out 1))
    go_ret
    exact ⟨by first | rfl | (simp [errW_none, errW_some] <;> rfl) | (simp [*, errW_none, errW_some] <;> rfl), by exact uT HB.out⟩

def sg (b : Bool) (v : Int) : Int := if b = true then -v else v
structure IsInt (b : Bool) (l : List Int) (z : Int) : Prop where
  num : IsNum l (z.natAbs : Int)
  neg : b = decide (z < 0)
theorem IsInt.unique {b b' : Bool} {l l' : List Int} {z : Int} (h : IsInt b l z) (h' : IsInt b' l' z) : b = b' ∧ l = l' := ⟨h.neg.trans h'.neg.symm, h.num.unique h'.num⟩
theorem IsInt.sg {b : Bool} {l : List Int} {z : Int} (h : IsInt b l z) : Go.Proofs.YtnjmnicgknggfaaDoor.E.sg b (val l) = z := by
  rw [h.num.eq, h.neg]
  unfold Go.Proofs.YtnjmnicgknggfaaDoor.E.sg
  by_cases c : z < 0
  · rw [decide_eq_true c, if_pos rfl]; omega
  · rw [decide_eq_false c, if_neg (by decide)]; omega
theorem pos_len {l : List Int} (h : Limbs l) (t : Trim l) : (decide ((l.length : Int) > 0)) = decide (0 < val l) := by
  rcases Classical.em (l = []) with h0 | h0
  · subst h0; rfl
  · have h1 := val_pos h t h0
    have h2 : 0 < l.length := List.length_pos_iff.2 h0
    rw [decide_eq_true h1, decide_eq_true (by omega)]
theorem isInt_cut (b : Bool) {l : List Int} (h : Limbs l) : IsInt (b && decide (0 < val l)) (cut l) (Go.Proofs.YtnjmnicgknggfaaDoor.E.sg b (val l)) := by
  have hn := IsNum.cut h
  have h0 := val_nonneg h
  cases b with
  | true =>
    refine ⟨?_, ?_⟩
    · rw [show ((Go.Proofs.YtnjmnicgknggfaaDoor.E.sg true (val l)).natAbs : Int) = val l by unfold Go.Proofs.YtnjmnicgknggfaaDoor.E.sg; rw [if_pos rfl]; omega]; exact hn
    · rw [Bool.true_and]; refine decide_eq_decide.2 ?_; unfold Go.Proofs.YtnjmnicgknggfaaDoor.E.sg; rw [if_pos rfl]; omega
  | false =>
    refine ⟨?_, ?_⟩
    · rw [show ((Go.Proofs.YtnjmnicgknggfaaDoor.E.sg false (val l)).natAbs : Int) = val l by unfold Go.Proofs.YtnjmnicgknggfaaDoor.E.sg; rw [if_neg (by decide)]; omega]; exact hn
    · rw [Bool.false_and]; symm; refine decide_eq_false ?_; unfold Go.Proofs.YtnjmnicgknggfaaDoor.E.sg; rw [if_neg (by decide)]; omega
theorem signed_f (b : Bool) (l : List Int) (h : Limbs l) (hl : l.length < 35184372088832) : ∃ x y, integer_signed.f b l = some (x, y) ∧ IsInt x y (sg b (val l)) ∧ y.length ≤ l.length := by
  have hn := IsNum.cut h
  refine ⟨b && decide (0 < val l), cut l, ?_, isInt_cut b h, cut_length l⟩
  unfold integer_signed.f
  rw [nnorm_f l hl, zOb, pos_len hn.limbs hn.trim, hn.eq]
  cases b with
  | true => rw [if_pos rfl, Bool.true_and]
  | false => rw [if_neg (by decide), Bool.false_and]
theorem make2_f (b : Bool) (l : List Int) (h : Limbs l) (hl : l.length < 35184372088832) (k : Nat) (hk : l.length < k) : ∃ x y, filigreeref02_make2.f k b l = some (x, y) ∧ IsInt x y (sg b (val l)) ∧ y.length ≤ l.length := by
  have hn := IsNum.cut h
  refine ⟨b && decide (0 < val l), cut l, ?_, isInt_cut b h, cut_length l⟩
  unfold filigreeref02_make2.f
  rw [norm_f l hl k hk, zOb, pos_len hn.limbs hn.trim, hn.eq]
  cases b with
  | true => rw [if_pos rfl, Bool.true_and]
  | false => rw [if_neg (by decide), Bool.false_and]
def TellsInt (o : Option (Bool × List Int)) (z : Int) (n : Nat) : Prop := ∃ x y, o = some (x, y) ∧ IsInt x y z ∧ y.length ≤ n
theorem norm_int (a : Bool) (x : List Int) (hx : Limbs x) (lx : x.length ≤ 100000) : TellsInt (integer_Norm.f a x) (sg a (val x)) x.length := by
  obtain ⟨p, q, e, i, l⟩ := signed_f a x hx (by omega)
  refine ⟨p, q, ?_, i, l⟩
  unfold integer_Norm.f
  rw [e, zOb]
theorem rnorm_int (a : Bool) (x : List Int) (hx : Limbs x) (lx : x.length ≤ 100000) (k : Nat) (hk : 200000 ≤ k) : TellsInt (filigreeref02_Norm.f k a x) (sg a (val x)) x.length := by
  obtain ⟨p, q, e, i, l⟩ := make2_f a x hx (by omega) k (by omega)
  refine ⟨p, q, ?_, i, l⟩
  unfold filigreeref02_Norm.f
  rw [e, zOb]
theorem isame_f (b : Bool) (l : List Int) (hl : l.length < 100000) (k : Nat) (hk : 100000 ≤ k) : filigreeref02_Same.f k b l b l = some true := by
  unfold filigreeref02_Same.f
  rw [if_pos (by simp), same_f l (by omega) k (by omega)]
  rfl
theorem or64 (x y : Int) (hx : 0 ≤ x ∧ x < 4294967296) (hy : 0 ≤ y ∧ y < 4294967296) : Go.bits .or .u64 (IntKind.u64.wrap (x * 4294967296)) (IntKind.u64.wrap y) = x * 4294967296 + y := by
  rw [wraps_u64 _ (by omega) (by omega), wraps_u64 y (by omega) (by omega)]
  exact bits_join .u64 64 (by decide) wraps_u64 32 (x * 4294967296) y (by omega) (by omega) (by omega) hy.1 (by omega) (by omega)
theorem smallN_val (rest x : Int) (hr : 0 ≤ rest ∧ rest < 4294967296) (hx : 0 ≤ x ∧ x < 4294967296) : smallN rest x = rest * 4294967296 + x := or64 rest x hr hx
theorem val_drop_cons (l : List Int) (n : Nat) (h : n < l.length) : val (l.drop n) = l.getD n 0 + 4294967296 * val (l.drop (n + 1)) := by
  rw [List.drop_eq_getElem_cons h, getD_lt _ h]
  rfl
theorem smallIt_val (l : List Int) (hl : Limbs l) (b : Int) (hb : 1 ≤ b) (hb2 : b < 4294967296) : ∀ k, k ≤ l.length →
    ∃ qv, val (smallIt l b k).1 = 4294967296 ^ (l.length - k) * qv ∧ val (l.drop (l.length - k)) = qv * b + (smallIt l b k).2 ∧ 0 ≤ (smallIt l b k).2 ∧ (smallIt l b k).2 < b ∧ Limbs (smallIt l b k).1 ∧ ∀ i, i < l.length - k → (smallIt l b k).1.getD i 0 = 0 := by
  intro k
  induction k with
  | zero =>
    intro _
    refine ⟨0, ?_, ?_, Int.le_refl _, by simp only [smallIt]; omega, limbs_replicate _, ?_⟩
    · simp only [smallIt]; rw [val_replicate]; simp
    · simp [smallIt, val]
    · intro i hi
      simp only [smallIt]
      rw [getD_lt _ (by simp; omega)]
      simp
  | succ k ih =>
    intro hk
    obtain ⟨qv, h1, h2, h3, h4, h5, h6⟩ := ih (by omega)
    have hlen := smallIt_length l b k
    have hstep0 : smallIt l b (k + 1) = smallStep l b (smallIt l b k) (l.length - 1 - k) := rfl
    generalize smallIt l b k = s at h1 h2 h3 h4 h5 h6 hlen hstep0
    obtain ⟨O, rest⟩ := s
    simp only at h1 h2 h3 h4 h5 h6 hlen
    obtain ⟨p, hp⟩ : ∃ p, p = l.length - 1 - k := ⟨_, rfl⟩
    have hx := hl.getD p
    have hn : smallN rest (rd l (p : Int)) = rest * 4294967296 + l.getD p 0 := by rw [rd_nat]; exact smallN_val _ _ ⟨h3, by omega⟩ hx
    obtain ⟨n, hn2⟩ : ∃ n, n = rest * 4294967296 + l.getD p 0 := ⟨_, rfl⟩
    have hstep : smallIt l b (k + 1) = (O.set p (n / b % 4294967296), n % b) := by
      rw [hstep0, ← hp, hn2, ← hn]
      rfl
    have hdm := Int.emod_add_mul_ediv n b
    have hm0 := Int.emod_nonneg n (show b ≠ 0 by omega)
    have hm1 := Int.emod_lt_of_pos n (show 0 < b by omega)
    have hq0 : 0 ≤ n / b := Int.ediv_nonneg (by omega) (by omega)
    have hq1 : n / b < 4294967296 := Int.ediv_lt_of_lt_mul (by omega) (by
      have : (rest + 1) * 4294967296 ≤ b * 4294967296 := Int.mul_le_mul_of_nonneg_right (by omega) (by omega)
      rw [Int.mul_comm 4294967296 b]
      omega)
    rw [hstep]
    simp only
    rw [show n / b % 4294967296 = n / b by omega]
    refine ⟨n / b + 4294967296 * qv, ?_, ?_, hm0, hm1, h5.set _ hq0 hq1, ?_⟩
    · rw [val_set _ _ _ (by omega), h6 p (by omega), h1, show l.length - k = p + 1 by omega, show l.length - (k + 1) = p by omega, Int.pow_succ]
      grind
    · rw [show l.length - (k + 1) = p by omega, val_drop_cons l p (by omega), show p + 1 = l.length - k by omega, h2]
      grind
    · intro i hi
      rw [getD_set_ne _ _ (by omega)]
      exact h6 i (by omega)
theorem small_f (l : List Int) (hl : Limbs l) (hlen : l.length ≤ 35184372088832) (b : Int) (hb : 1 ≤ b) (hb2 : b < 4294967296) :
    ∃ q, n_small.f l b = some (q, val l % b) ∧ IsNum q (val l / b) ∧ q.length ≤ l.length := by
  obtain ⟨qv, h1, h2, h3, h4, h5, h6⟩ := smallIt_val l hl b hb hb2 l.length (Nat.le_refl _)
  have hln := smallIt_length l b l.length
  rw [Nat.sub_self, Int.pow_zero, Int.one_mul] at h1
  rw [Nat.sub_self, List.drop_zero] at h2
  have hdiv : val l / b = qv := by
    rw [h2, Int.add_comm, Int.add_mul_ediv_right _ _ (by omega), Int.ediv_eq_zero_of_lt h3 h4]; omega
  have hmod : val l % b = (smallIt l b l.length).2 := by
    rw [h2, Int.add_comm, Int.add_mul_emod_self_right, Int.emod_eq_of_lt h3 h4]
  refine ⟨cut (smallIt l b l.length).1, ?_, ?_, by have := cut_length (smallIt l b l.length).1; omega⟩
  · unfold n_small.f
    rw [if_pos hlen, wraps_u64 b (by omega) (by omega), if_neg (by omega), hmod, show (smallIt l b l.length).2 % 4294967296 = (smallIt l b l.length).2 by omega]
    unfold cut
    rw [hln]
  · rw [hdiv, ← h1]
    exact IsNum.cut h5
theorem Bits.set {l : List Int} (h : Bits l) (n : Nat) {v : Int} (hv : v = 0 ∨ v = 1) : Bits (l.set n v) := fun x hx => by
  rcases List.mem_or_eq_of_mem_set hx with hx | rfl
  · exact h x hx
  · exact hv

section
open Go.Lib
theorem dec_lt {u : Nat} (h : u < 10) : decDigits u = [UInt8.ofNat (48 + u)] := by rw [decDigits, dif_pos h]
theorem dec_ge {u : Nat} (h : 10 ≤ u) : decDigits u = decDigits (u / 10) ++ [UInt8.ofNat (48 + u % 10)] := by rw [decDigits, dif_neg (by omega)]
def dv (l : List UInt8) : Nat := l.foldl (fun a c => a * 10 + (c.toNat - 48)) 0
theorem dv_snoc (l : List UInt8) (c : UInt8) : dv (l ++ [c]) = dv l * 10 + (c.toNat - 48) := by simp [dv]
def IsDigit (c : UInt8) : Prop := 48 ≤ c.toNat ∧ c.toNat ≤ 57
instance (c : UInt8) : Decidable (IsDigit c) := by unfold IsDigit; infer_instance
def Numeral (l : List UInt8) : Prop := l ≠ [] ∧ (∀ c ∈ l, IsDigit c) ∧ (1 < l.length → l.getD 0 0 ≠ 48)
theorem digit_nat (d : Nat) (h : d < 10) : (UInt8.ofNat (48 + d)).toNat = 48 + d := by
  rw [UInt8.toNat_ofNat']; omega
theorem isDigit_ofNat (d : Nat) (h : d < 10) : IsDigit (UInt8.ofNat (48 + d)) := by
  unfold IsDigit; rw [digit_nat d h]; omega
theorem dec_ne (u : Nat) : decDigits u ≠ [] := by
  rcases Nat.lt_or_ge u 10 with h | h
  · rw [dec_lt h]; simp
  · rw [dec_ge h]; simp
theorem dec_dv (u : Nat) : dv (decDigits u) = u := by
  induction u using Nat.strongRecOn with
  | ind u ih =>
    rcases Nat.lt_or_ge u 10 with h | h
    · rw [dec_lt h]
      simp only [dv, List.foldl_cons, List.foldl_nil, digit_nat u h]
      omega
    · rw [dec_ge h, dv_snoc, ih (u / 10) (by omega), digit_nat _ (by omega)]
      omega
theorem dec_digits (u : Nat) : ∀ c ∈ decDigits u, IsDigit c := by
  induction u using Nat.strongRecOn with
  | ind u ih =>
    rcases Nat.lt_or_ge u 10 with h | h
    · rw [dec_lt h]
      intro c hc
      rw [List.mem_singleton] at hc
      rw [hc]
      exact isDigit_ofNat u h
    · rw [dec_ge h]
      intro c hc
      rcases List.mem_append.1 hc with h1 | h1
      · exact ih (u / 10) (by omega) c h1
      · rw [List.mem_singleton] at h1
        rw [h1]
        exact isDigit_ofNat _ (by omega)
theorem getD_append_of_ne (l : List UInt8) (m : List UInt8) (h : l ≠ []) : (l ++ m).getD 0 0 = l.getD 0 0 := by
  cases l with
  | nil => exact absurd rfl h
  | cons x l => rfl
theorem dec_head (u : Nat) (h0 : 1 ≤ u) : (decDigits u).getD 0 0 ≠ 48 := by
  induction u using Nat.strongRecOn with
  | ind u ih =>
    rcases Nat.lt_or_ge u 10 with h | h
    · rw [dec_lt h]
      intro hc
      have h1 : (UInt8.ofNat (48 + u)).toNat = (48 : UInt8).toNat := congrArg UInt8.toNat hc
      rw [digit_nat u h] at h1
      have h2 : (48 : UInt8).toNat = 48 := rfl
      omega
    · rw [dec_ge h, getD_append_of_ne _ _ (dec_ne _)]
      exact ih (u / 10) (by omega) (by omega)
theorem dec_numeral (u : Nat) : Numeral (decDigits u) := by
  refine ⟨dec_ne u, dec_digits u, fun hl => ?_⟩
  rcases Nat.eq_zero_or_pos u with h | h
  · subst h; rw [dec_lt (by omega)] at hl; simp at hl
  · exact dec_head u h
theorem snoc_of_ne {l : List UInt8} (h : l ≠ []) : ∃ m c, l = m ++ [c] := ⟨l.dropLast, l.getLast h, (List.dropLast_concat_getLast h).symm⟩
theorem dec_of_numeral : ∀ (n : Nat) (l : List UInt8), l.length = n → Numeral l → decDigits (dv l) = l
  | n, l, hn, hl => by
    obtain ⟨m, c, rfl⟩ := snoc_of_ne hl.1
    have hc : IsDigit c := hl.2.1 c (by simp)
    have hcc : UInt8.ofNat (48 + (c.toNat - 48)) = c := by rw [show 48 + (c.toNat - 48) = c.toNat by unfold IsDigit at hc; omega, UInt8.ofNat_toNat]
    rcases List.eq_nil_or_concat m with hm | ⟨_, _, hm⟩
    · subst hm
      rw [List.nil_append, show dv [c] = c.toNat - 48 by simp [dv], dec_lt (by unfold IsDigit at hc; omega), hcc]
    · have hne : m ≠ [] := by rw [hm]; simp
      have hh : (m ++ [c]).getD 0 0 ≠ 48 := hl.2.2 (by rw [hm]; simp)
      rw [getD_append_of_ne _ _ hne] at hh
      have hmn : Numeral m := ⟨hne, fun x hx => hl.2.1 x (List.mem_append_left _ hx), fun _ => hh⟩
      have ih := dec_of_numeral (n - 1) m (by simp at hn; omega) hmn
      have hpos : 1 ≤ dv m := by
        rcases Nat.eq_zero_or_pos (dv m) with h0 | h0
        · rw [h0, dec_lt (by omega)] at ih
          rw [← ih] at hh
          exact absurd rfl hh
        · exact h0
      have hd : c.toNat - 48 < 10 := by unfold IsDigit at hc; omega
      rw [dv_snoc, dec_ge (by omega), show (dv m * 10 + (c.toNat - 48)) / 10 = dv m by omega, show (dv m * 10 + (c.toNat - 48)) % 10 = c.toNat - 48 by omega, ih, hcc]
  termination_by n => n
  decreasing_by simp at hn; omega
def padD : Nat → Nat → List UInt8
  | 0, _ => []
  | k + 1, r => padD k (r / 10) ++ [UInt8.ofNat (48 + r % 10)]
theorem dec_pad (q : Nat) (hq : 1 ≤ q) : ∀ (k r : Nat), r < 10 ^ k → decDigits (q * 10 ^ k + r) = decDigits q ++ padD k r
  | 0, r, h => by
    have : r = 0 := by simpa using h
    simp [padD, this]
  | k + 1, r, h => by
    have hk : 1 ≤ 10 ^ k := Nat.one_le_pow _ _ (by omega)
    have hp : q * 10 ^ (k + 1) = (q * 10 ^ k) * 10 := by rw [Nat.pow_succ, Nat.mul_assoc]
    have h1 : 1 ≤ q * 10 ^ k := Nat.le_trans (by omega) (Nat.mul_le_mul hq hk)
    rw [dec_ge (by rw [hp]; omega), show (q * 10 ^ (k + 1) + r) / 10 = q * 10 ^ k + r / 10 by rw [hp]; omega, show (q * 10 ^ (k + 1) + r) % 10 = r % 10 by rw [hp]; omega, dec_pad q hq k (r / 10) (by rw [Nat.pow_succ] at h; omega)]
    simp [padD]
theorem padD_zero : ∀ k, padD k 0 = List.replicate k 48
  | 0 => rfl
  | k + 1 => by
    rw [padD, show 0 / 10 = 0 from rfl, padD_zero k, List.replicate_succ']
    rfl
theorem dec_len_le : ∀ (k r : Nat), 1 ≤ k → r < 10 ^ k → (decDigits r).length ≤ k
  | 0, _, h, _ => by omega
  | k + 1, r, _, hr => by
    rcases Nat.lt_or_ge r 10 with h | h
    · rw [dec_lt h]; simp
    · have h1 : 1 ≤ k := by
        rcases Nat.eq_zero_or_pos k with h0 | h0
        · subst h0; omega
        · exact h0
      have := dec_len_le k (r / 10) h1 (by rw [Nat.pow_succ] at hr; omega)
      rw [dec_ge h]; simp; omega
theorem padD_dec : ∀ (k r : Nat), 1 ≤ k → r < 10 ^ k → padD k r = List.replicate (k - (decDigits r).length) 48 ++ decDigits r
  | 0, _, h, _ => by omega
  | k + 1, r, _, hr => by
    rcases Nat.lt_or_ge r 10 with h | h
    · rw [padD, show r / 10 = 0 by omega, padD_zero, dec_lt h, show r % 10 = r by omega]
      simp
    · have h1 : 1 ≤ k := by
        rcases Nat.eq_zero_or_pos k with h0 | h0
        · subst h0; omega
        · exact h0
      rw [padD, padD_dec k (r / 10) h1 (by rw [Nat.pow_succ] at hr; omega), dec_ge h]
      simp
theorem repeat48 : ∀ n, repeatL [48] n = List.replicate n 48
  | 0 => rfl
  | n + 1 => by rw [repeatL, repeat48 n]; rfl
theorem itoa_dec (n : Int) (h : 0 ≤ n) : itoa n = decDigits n.toNat := by unfold itoa; rw [if_neg (by omega)]
theorem join_flat (l : List (List UInt8)) : join l [] = l.flatten := by
  cases l with
  | nil => rfl
  | cons x l => rw [join_cons]; simp [joinTail]
end
section
open Go.Lib
theorem rdOf_nat (l : List ByteArray) (n : Nat) : rdOf ByteArray.empty l (n : Int) = l.getD n ByteArray.empty := by simp [rdOf]
theorem rev_l0 (l : List ByteArray) (hl : l.length < 4611686018427387904) : ∀ (d i k : Nat) (x : List ByteArray), l.length - 2 * i ≤ d → 2 * i ≤ l.length → x.length = l.length →
    (∀ j, j < l.length → x.getD j ByteArray.empty = if j < i ∨ l.length - 1 - i < j then l.getD (l.length - 1 - j) ByteArray.empty else l.getD j ByteArray.empty) → d < k →
    slices_Reverse_string_string.l0 k x (i : Int) ((l.length : Int) - 1 - i) = some l.reverse
  | d, i, 0, x, hd, hi, hx, hj, hk => by omega
  | d, i, k + 1, x, hd, hi, hx, hj, hk => by
    simp only [slices_Reverse_string_string.l0]
    by_cases hlt : (i : Int) < (l.length : Int) - 1 - i
    · obtain ⟨j, hjj⟩ : ∃ j : Nat, (l.length : Int) - 1 - i = (j : Int) := ⟨l.length - 1 - i, by omega⟩
      rw [hjj]
      rw [hjj] at hlt
      rw [if_pos hlt, if_pos (by omega), if_pos (by rw [hx]; omega), if_pos (by omega), if_pos (by rw [hx]; omega), w64 (by omega) (by omega), w64 (by omega) (by omega)]
      rw [rdOf_nat, rdOf_nat, show ((i : Nat) : Int).toNat = i by omega, show ((j : Nat) : Int).toNat = j by omega]
      have e1 : (i : Int) + 1 = ((i + 1 : Nat) : Int) := by omega
      have e2 : (j : Int) - 1 = (l.length : Int) - 1 - ((i + 1 : Nat) : Int) := by omega
      rw [e1, e2]
      rcases Nat.eq_zero_or_pos d with h0 | h0
      · omega
      refine rev_l0 l hl (d - 1) (i + 1) k _ (by omega) (by omega) (by simp [hx]) (fun m hm => ?_) (by omega)
      have hxi : i < x.length := by omega
      have hxj : j < x.length := by omega
      have hm2 : m < x.length := by omega
      have hmi := hj m hm
      have hii := hj i (by omega)
      have hij := hj j (by omega)
      rw [if_neg (by omega)] at hii hij
      rw [List.getD_eq_getElem?_getD, List.getElem?_set]
      by_cases c1 : j = m
      · subst c1
        rw [if_pos rfl, if_pos (by simpa using hxj), if_pos (by omega), Option.getD_some, hii, show l.length - 1 - j = i by omega]
      · rw [if_neg c1, List.getElem?_set]
        by_cases c2 : i = m
        · subst c2
          rw [if_pos rfl, if_pos hxi, if_pos (by omega), Option.getD_some, hij, show l.length - 1 - i = j by omega]
        · rw [if_neg c2, ← List.getD_eq_getElem?_getD, hmi]
          by_cases c3 : m < i ∨ l.length - 1 - i < m
          · rw [if_pos c3, if_pos (by omega)]
          · rw [if_neg c3, if_neg (by omega)]
    · rw [if_neg hlt]
      congr 1
      refine List.ext_getElem (by simp [hx]) fun m h1 h2 => ?_
      have hm : m < l.length := by omega
      have h3 := hj m hm
      rw [List.getD_eq_getElem?_getD, List.getElem?_eq_getElem h1, Option.getD_some] at h3
      rw [List.getElem_reverse, h3]
      split
      · rw [List.getD_eq_getElem?_getD, List.getElem?_eq_getElem (by omega), Option.getD_some]
      · rename_i hc
        have : l.length - 1 - m = m := by omega
        rw [List.getD_eq_getElem?_getD, List.getElem?_eq_getElem hm, Option.getD_some]
        congr 1
        exact this.symm
  termination_by _ _ k => k
theorem rev_f (l : List ByteArray) (hl : l.length < 4611686018427387904) (k : Nat) (hk : l.length < k) : slices_Reverse_string_string.f k l = some l.reverse := by
  unfold slices_Reverse_string_string.f
  rw [w64 (by omega) (by omega)]
  have h := rev_l0 l hl l.length 0 k l (by omega) (by omega) rfl (fun j hj => by rw [if_neg (by omega)]) hk
  simpa using h
def bytesOf (l : List UInt8) : ByteArray := ⟨l.toArray⟩
theorem bytesOf_list (l : List UInt8) : (bytesOf l).data.toList = l := rfl
theorem bytesOf_size (l : List UInt8) : (bytesOf l).size = l.length := rfl
def partsOf (ps : List ByteArray) : List UInt8 := (ps.reverse.map (·.data.toList)).flatten
theorem partsOf_snoc (ps : List ByteArray) (s : ByteArray) : partsOf (ps ++ [s]) = s.data.toList ++ partsOf ps := by simp [partsOf]
theorem partsOf_rev (ps : List ByteArray) : join (ps.reverse.map (·.data.toList)) [] = partsOf ps := join_flat _
theorem text_l0 : ∀ (N k : Nat) (x : List Int) (ps : List ByteArray), Limbs x → x.length ≤ 100000 → val x < 1000000000 ^ N → 1 ≤ N → 2 * N + ps.length + 5 ≤ k → N + ps.length ≤ 10000 → (partsOf ps).length ≤ 9 * ps.length →
    n_Text.l0 k x ps = some (bytesOf (decDigits (val x).toNat ++ partsOf ps))
  | 0, _, _, _, _, _, _, h1, _, _, _ => by omega
  | N + 1, 0, _, _, _, _, _, _, hk, _, _ => by omega
  | N + 1, k + 1, x, ps, hx, hlen, hv, _, hk, hN, hp => by
    simp only [n_Text.l0]
    obtain ⟨q, hq, nq, ql⟩ := small_f x hx (by omega) 1000000000 (by omega) (by omega)
    have v0 := val_nonneg hx
    have hr0 : 0 ≤ val x % 1000000000 := Int.emod_nonneg _ (by omega)
    have hr1 : val x % 1000000000 < 1000000000 := Int.emod_lt_of_pos _ (by omega)
    obtain ⟨r, hr⟩ : ∃ r : Nat, val x % 1000000000 = (r : Int) := ⟨(val x % 1000000000).toNat, by omega⟩
    have hr9 : r < 10 ^ 9 := by omega
    have hl9 := dec_len_le 9 r (by omega) hr9
    have hl1 : 1 ≤ (decDigits r).length := by
      rcases Nat.eq_zero_or_pos (decDigits r).length with h0 | h0
      · exact absurd (List.eq_nil_of_length_eq_zero h0) (dec_ne r)
      · exact h0
    rw [hq, zOb, hr, w64 (by omega) (by omega)]
    have hit : strconv_Itoa_74.f (r : Int) = some (bytesOf (decDigits r)) := by
      unfold strconv_Itoa_74.f
      rw [if_pos (by omega), if_pos (by omega), itoa_dec _ (by omega)]
      rfl
    rw [hit, zOb]
    have hqv := nq.eq
    have hqr : val x = val q * 1000000000 + (r : Int) := by rw [hqv]; omega
    have hq0 := nq.nonneg
    by_cases hz : (q.length : Int) = 0
    · have hq' : q = [] := List.eq_nil_of_length_eq_zero (by omega)
      have hvq : val q = 0 := by rw [hq']; rfl
      rw [if_pos hz, if_pos (by omega), rev_f _ (by simp; omega) k (by simp; omega), zOb]
      unfold strings_Join.f
      rw [show ((⟨#[]⟩ : ByteArray)).data.toList = [] from rfl, partsOf_rev, partsOf_snoc, bytesOf_list, if_pos (by simp; omega), if_pos (by simp; omega), zOb]
      rw [hqr, hvq, show ((0 : Int) * 1000000000 + (r : Int)).toNat = r by omega]
      rfl
    · have hqpos : 1 ≤ val q := by
        rcases Int.lt_or_le 0 (val q) with h | h
        · omega
        · exact absurd (nq.unique (show IsNum [] (val x / 1000000000) from ⟨Limbs.nil, .inl rfl, by rw [← hqv]; show (0 : Int) = val q; omega⟩)) (by intro h0; rw [h0] at hz; exact hz rfl)
      rw [if_neg hz, bytesOf_size, w64 (by omega) (by omega)]
      unfold strings_Repeat.f
      have hsub : ((9 - ((decDigits r).length : Int))).toNat = 9 - (decDigits r).length := by omega
      rw [if_pos (by omega), if_pos (by omega), if_pos (by rw [hsub]; show 1 * _ ≤ _; omega), zOb, hsub]
      rw [show ((⟨#[48]⟩ : ByteArray)).data.toList = [48] from rfl, repeat48]
      obtain ⟨z, hzz⟩ : ∃ z : ByteArray, z = (⟨(List.replicate (9 - (decDigits r).length) (48 : UInt8)).toArray⟩ : ByteArray) := ⟨_, rfl⟩
      have hzl : z.data.toList = List.replicate (9 - (decDigits r).length) 48 := by rw [hzz]
      have hzs : z.size = 9 - (decDigits r).length := by rw [hzz]; show (List.replicate _ _).toArray.size = _; simp
      rw [← hzz, if_pos (by rw [hzs]; omega), if_pos (by omega)]
      have hap : (z ++ bytesOf (decDigits r)).data.toList = padD 9 r := by rw [ByteArray.toList_data_append, hzl, bytesOf_list, padD_dec 9 r (by omega) hr9]
      have hqN : val q < 1000000000 ^ N := by
        rw [hqv]
        refine Int.ediv_lt_of_lt_mul (by omega) ?_
        rw [Int.pow_succ] at hv
        exact hv
      have hN1 : 1 ≤ N := by
        rcases Nat.eq_zero_or_pos N with h0 | h0
        · subst h0; simp at hqN; omega
        · exact h0
      have hpl : (padD 9 r).length = 9 := by rw [padD_dec 9 r (by omega) hr9]; simp; omega
      rw [text_l0 N k q (ps ++ [z ++ bytesOf (decDigits r)]) nq.limbs (by omega) hqN hN1 (by simp; omega) (by simp; omega) (by rw [partsOf_snoc, hap]; simp [hpl]; omega), partsOf_snoc, hap]
      congr 2
      rw [← List.append_assoc]
      congr 1
      rw [← dec_pad (val q).toNat (by omega) 9 r hr9]
      congr 1
      omega
theorem pow_mono_nat (a b n : Nat) (h : a ≤ b) : (a : Int) ^ n ≤ (b : Int) ^ n := by
  rw [← Int.natCast_pow, ← Int.natCast_pow]
  exact Int.ofNat_le.2 (Nat.pow_le_pow_left h n)
theorem pow_limbs (n : Nat) : (4294967296 : Int) ^ n ≤ 1000000000 ^ (2 * n) := by
  rw [Int.pow_mul]
  exact pow_mono_nat 4294967296 1000000000000000000 n (by decide)
theorem text_f (l : List Int) (hl : Limbs l) (hlen : l.length ≤ 600) (k : Nat) (hk : 5000 ≤ k) : n_Text.f k l = some (bytesOf (decDigits (val l).toNat)) := by
  unfold n_Text.f
  have hc := cut_length l
  rw [cut_f, zOb, text_l0 (2 * l.length + 1) k (cut l) [] (cut_limbs hl) (by omega) ?_ (by omega) (by simp; omega) (by simp; omega) (by simp [partsOf]), cut_val]
  · simp [partsOf]
  · rw [cut_val]
    have h1 := val_lt hl
    have h2 := pow_limbs l.length
    have h3 : (1000000000 : Int) ^ (2 * l.length) ≤ 1000000000 ^ (2 * l.length + 1) := by rw [Int.pow_succ]; have : (0 : Int) < 1000000000 ^ (2 * l.length) := Int.pow_pos (by decide); omega
    omega
theorem pow_limbs10 (n : Nat) : (4294967296 : Int) ^ n ≤ 10 ^ (10 * n) := by
  rw [Int.pow_mul]
  exact pow_mono_nat 4294967296 10000000000 n (by decide)
end
section
open Go.Lib
theorem bt_list (s : ByteArray) (i : Nat) : bt s (i : Int) = ((s.data.toList.getD i 0).toNat : Int) := by
  unfold bt
  rw [show ((i : Nat) : Int).toNat = i by omega]
  have hs : s.size = s.data.toList.length := by rw [Array.length_toList]; rfl
  split
  · rename_i h
    have hl : i < s.data.toList.length := by omega
    rw [List.getD_eq_getElem?_getD, List.getElem?_eq_getElem hl]
    simp
    rfl
  · rename_i h
    rw [List.getD_eq_getElem?_getD, List.getElem?_eq_none (by omega)]
    rfl
theorem size_list (s : ByteArray) : s.size = s.data.toList.length := by rw [Array.length_toList]; rfl
theorem dv_take_succ (l : List UInt8) (i : Nat) (h : i < l.length) : dv (l.take (i + 1)) = dv (l.take i) * 10 + ((l.getD i 0).toNat - 48) := by
  rw [List.take_add_one, List.getElem?_eq_getElem h, List.getD_eq_getElem?_getD, List.getElem?_eq_getElem h]
  exact dv_snoc _ _
theorem dv_lt (l : List UInt8) (i : Nat) (hd : ∀ j, j < i → IsDigit (l.getD j 0)) : i ≤ l.length → dv (l.take i) < 10 ^ i := by
  induction i with
  | zero => intro _; simp [dv]
  | succ i ih =>
    intro h
    have h1 := ih (fun j hj => hd j (by omega)) (by omega)
    have h2 := hd i (by omega)
    unfold IsDigit at h2
    rw [dv_take_succ l i (by omega), Nat.pow_succ]
    omega
theorem pow10_B (i : Nat) : (10 : Int) ^ i ≤ Bp i := by
  unfold Bp
  have h : ((10 : Nat) : Int) ^ i ≤ ((4294967296 : Nat) : Int) ^ i := by
    rw [← Int.natCast_pow, ← Int.natCast_pow]
    exact Int.ofNat_le.2 (Nat.pow_le_pow_left (by decide) i)
  exact h
theorem len_of_dv {x : List Int} {l : List UInt8} {i : Nat} (hx : IsNum x (dv (l.take i) : Nat)) (hd : ∀ j, j < i → IsDigit (l.getD j 0)) (hi : i ≤ l.length) : x.length ≤ i := by
  refine len_of_lt hx (Int.lt_of_lt_of_le ?_ (pow10_B i))
  have h := dv_lt l i hd hi
  have h2 : ((dv (l.take i) : Nat) : Int) < ((10 ^ i : Nat) : Int) := Int.ofNat_lt.2 h
  rw [Int.natCast_pow] at h2
  exact h2
theorem one_num (d : Int) (h0 : 0 ≤ d) (h1 : d < 4294967296) : Limbs [d] ∧ val [d] = d := ⟨Limbs.mk h0 h1 Limbs.nil, by simp [val]⟩
theorem ofd_num (d : Int) (h0 : 0 ≤ d) (h1 : d < 4294967296) : IsNum (of2 d) d ∧ (of2 d).length ≤ 2 := by
  have hl : Limbs [d % 4294967296, d / 4294967296] := Limbs.mk (by omega) (by omega) (Limbs.mk (by omega) (by omega) Limbs.nil)
  have hv : val [d % 4294967296, d / 4294967296] = d := by simp [val]; omega
  exact ⟨by have := IsNum.cut hl; rw [hv] at this; exact this, cut_length _⟩
def Tells (l : List UInt8) (i : Nat) (o : Option (List Int × Int)) : Prop :=
  ((∀ j, i ≤ j → j < l.length → IsDigit (l.getD j 0)) → ∃ r, o = some (r, 0) ∧ IsNum r (dv l : Nat)) ∧ ((∃ j, i ≤ j ∧ j < l.length ∧ ¬ IsDigit (l.getD j 0)) → o = some ([], 2))
theorem tells_end {l : List UInt8} {x : List Int} (hx : IsNum x (dv (l.take l.length) : Nat)) {i : Nat} (hi : l.length ≤ i) : Tells l i (some (x, 0)) := by
  rw [List.take_length] at hx
  exact ⟨fun _ => ⟨x, rfl, hx⟩, fun ⟨j, h1, h2, _⟩ => by omega⟩
theorem tells_bad {l : List UInt8} {i : Nat} (hi : i < l.length) (h : ¬ IsDigit (l.getD i 0)) : Tells l i (some ([], 2)) :=
  ⟨fun h1 => absurd (h1 i (Nat.le_refl _) hi) h, fun _ => rfl⟩
theorem tells_step {l : List UInt8} {i : Nat} {o : Option (List Int × Int)} (h : IsDigit (l.getD i 0)) (ho : Tells l (i + 1) o) : Tells l i o :=
  ⟨fun h1 => ho.1 (fun j hj => h1 j (by omega)), fun ⟨j, h1, h2, h3⟩ => ho.2 ⟨j, by rcases Nat.lt_or_ge i j with h4 | h4; · exact h4
                                                                                    · exact absurd (show IsDigit (l.getD j 0) by rw [show j = i by omega]; exact h) h3, h2, h3⟩⟩
theorem parse_l (k : Nat) (s : ByteArray) (l : List UInt8) (hs : s.data.toList = l) (hl : l.length ≤ 6000) (hk : 100000 ≤ k) : ∀ (d i : Nat) (x : List Int), i ≤ l.length → l.length - i < d → (∀ j, j < i → IsDigit (l.getD j 0)) → IsNum x (dv (l.take i) : Nat) →
    Tells l i (n_Parse.l k s d x (i : Int))
  | 0, i, x, hi, hd, hdig, hx => by omega
  | d + 1, i, x, hi, hd, hdig, hx => by
    have hsz := size_list s
    rw [hs] at hsz
    simp only [n_Parse.l]
    by_cases hlt : i < l.length
    · rw [if_pos (by omega), if_pos (by omega), bt_list, hs]
      by_cases c1 : ((l.getD i 0).toNat : Int) < 48
      · rw [if_pos c1]
        exact tells_bad hlt (fun h => by unfold IsDigit at h; omega)
      · rw [if_neg c1]
        by_cases c2 : ((l.getD i 0).toNat : Int) > 57
        · rw [if_pos c2]
          exact tells_bad hlt (fun h => by unfold IsDigit at h; omega)
        · rw [if_neg c2]
          have hdg : IsDigit (l.getD i 0) := by unfold IsDigit; omega
          have hxl := len_of_dv hx hdig hi
          obtain ⟨L10, v10⟩ := one_num 10 (by omega) (by omega)
          obtain ⟨m, hm, nm, ml⟩ := mul_f x [10] hx.limbs L10 (by simp; omega) k (by simp; omega)
          rw [hx.eq, v10] at nm
          have hml : m.length ≤ x.length + 1 := ml
          clear ml
          obtain ⟨n1, n2⟩ := ofd_num (((l.getD i 0).toNat : Int) - 48) (by omega) (by omega)
          obtain ⟨a, ha, na, al⟩ := add_f m (of2 (((l.getD i 0).toNat : Int) - 48)) nm.limbs n1.limbs (by omega) (by omega) k (by omega) (by omega)
          rw [nm.eq, n1.eq] at na
          rw [hm, zOb, of_f _ (by omega) (by omega), zOb, ha, zOb, w64 (by omega) (by omega), show ((i : Int) + 1) = ((i + 1 : Nat) : Int) by omega]
          refine tells_step hdg (parse_l k s l hs hl hk d (i + 1) a (by omega) (by omega) (fun j hj => ?_) ?_)
          · rcases Nat.lt_or_ge j i with h | h
            · exact hdig j h
            · rw [show j = i by omega]; exact hdg
          · rw [dv_take_succ l i hlt]
            have e : ((dv (l.take i) * 10 + ((l.getD i 0).toNat - 48) : Nat) : Int) = (dv (l.take i) : Nat) * 10 + (((l.getD i 0).toNat : Int) - 48) := by omega
            rw [e]
            exact na
    · rw [if_neg (by omega)]
      refine tells_end ?_ (by omega)
      rw [show i = l.length by omega] at hx
      exact hx
theorem getD_digit {l : List UInt8} : (∀ j, 0 ≤ j → j < l.length → IsDigit (l.getD j 0)) ↔ ∀ c ∈ l, IsDigit c := by
  constructor
  · intro h c hc
    obtain ⟨i, hi, rfl⟩ := List.getElem_of_mem hc
    have := h i (by omega) hi
    rw [List.getD_eq_getElem?_getD, List.getElem?_eq_getElem hi] at this
    exact this
  · intro h j _ hj
    rw [List.getD_eq_getElem?_getD, List.getElem?_eq_getElem hj]
    exact h _ (List.getElem_mem hj)
theorem bad_digit {l : List UInt8} (h : ¬ ∀ c ∈ l, IsDigit c) : ∃ j, 0 ≤ j ∧ j < l.length ∧ ¬ IsDigit (l.getD j 0) := by
  rcases Classical.em (∃ j, 0 ≤ j ∧ j < l.length ∧ ¬ IsDigit (l.getD j 0)) with h1 | h1
  · exact h1
  · refine absurd (getD_digit.1 fun j h0 hj => ?_) h
    rcases Classical.em (IsDigit (l.getD j 0)) with h2 | h2
    · exact h2
    · exact absurd ⟨j, h0, hj, h2⟩ h1
def Reads (l : List UInt8) (o : Option (List Int × Int)) : Prop := (Numeral l → ∃ r, o = some (r, 0) ∧ IsNum r (dv l : Nat)) ∧ (¬ Numeral l → o = some ([], 2))
theorem reads_of_tells {l : List UInt8} {o : Option (List Int × Int)} (h0 : l ≠ []) (h1 : ¬ (1 < l.length ∧ ((l.getD 0 0).toNat : Int) = 48)) (h : Tells l 0 o) : Reads l o := by
  have hh : 1 < l.length → l.getD 0 0 ≠ 48 := fun h2 h3 => h1 ⟨h2, by rw [h3]; rfl⟩
  refine ⟨fun hn => h.1 (getD_digit.2 hn.2.1), fun hn => h.2 (bad_digit fun hd => hn ⟨h0, hd, hh⟩)⟩
theorem reads_bad {l : List UInt8} (h : l = [] ∨ (1 < l.length ∧ ((l.getD 0 0).toNat : Int) = 48)) : Reads l (some ([], 2)) := by
  refine ⟨fun hn => ?_, fun _ => rfl⟩
  rcases h with h | ⟨h1, h2⟩
  · exact absurd h hn.1
  · refine absurd (UInt8.toNat_inj.1 ?_) (hn.2.2 h1)
    show (l.getD 0 0).toNat = 48
    omega
theorem parse_f (s : ByteArray) (hl : s.size ≤ 6000) (k : Nat) (hk : 100000 ≤ k) : Reads s.data.toList (n_Parse.f k s) := by
  have hsz := size_list s
  unfold n_Parse.f
  have hb := bt_list s 0
  rw [show ((0 : Nat) : Int) = 0 from rfl] at hb
  by_cases c0 : s.size = 0
  · rw [if_pos c0]
    exact reads_bad (.inl (List.eq_nil_of_length_eq_zero (by omega)))
  · rw [if_neg c0, hb]
    by_cases c1 : 1 < s.size ∧ ((s.data.toList.getD 0 0).toNat : Int) = 48
    · rw [if_pos c1]
      exact reads_bad (.inr ⟨by omega, c1.2⟩)
    · rw [if_neg c1]
      refine reads_of_tells (fun h => by rw [h] at hsz; exact c0 hsz) (fun h => c1 ⟨by omega, h.2⟩) ?_
      exact parse_l k s _ rfl (by omega) hk (s.size + 1) 0 [] (by omega) (by omega) (fun j hj => by omega) (by simp [dv]; exact IsNum.nil)
end
section
open Go.Lib
theorem ext_list (s : ByteArray) (i j : Nat) : (s.extract i j).data.toList = (s.data.toList.drop i).take (j - i) := by
  rw [ByteArray.data_extract, Array.toList_extract, List.extract_eq_take_drop]
theorem toList_data (s : ByteArray) : s.toList = s.data.toList := ByteArray.toList_eq s
def itext (z : Int) : List UInt8 := if z < 0 then 45 :: decDigits z.natAbs else decDigits z.natAbs
theorem bytes_ext {s t : ByteArray} (h : s.data.toList = t.data.toList) : s = t := ByteArray.ext (Array.toList_inj.1 h)
theorem cat_minus (l : List UInt8) : (⟨#[45]⟩ : ByteArray) ++ bytesOf l = bytesOf (45 :: l) := bytes_ext (by rw [ByteArray.toList_data_append]; rfl)
theorem cat_none (l : List UInt8) : (⟨#[]⟩ : ByteArray) ++ bytesOf l = bytesOf l := bytes_ext (by rw [ByteArray.toList_data_append]; rfl)
theorem natAbs_sg (a : Bool) {v : Int} (h : 0 ≤ v) : (sg a v).natAbs = v.toNat := by cases a <;> simp [sg] <;> omega
theorem digits_le_gen {l : List Int} (hl : Limbs l) (M : Nat) (hM : 10 * l.length + 1 ≤ M) : (decDigits (val l).toNat).length ≤ M := by
  refine dec_len_le M _ (by omega) ?_
  have h1 := val_lt hl
  have h2 := pow_limbs10 l.length
  have h3 : ((10 : Nat) : Int) ^ (10 * l.length) ≤ ((10 : Nat) : Int) ^ M := by
    rw [← Int.natCast_pow, ← Int.natCast_pow]
    exact Int.ofNat_le.2 (Nat.pow_le_pow_right (by omega) (by omega))
  have h4 : ((10 ^ M : Nat) : Int) = ((10 : Nat) : Int) ^ M := Int.natCast_pow ..
  have h5 : val l < ((10 ^ M : Nat) : Int) := by
    rw [h4]
    exact Int.lt_of_lt_of_le h1 (Int.le_trans h2 h3)
  have h0 := val_nonneg hl
  generalize (10 ^ M : Nat) = P at h5 ⊢
  omega
theorem digits_le {l : List Int} (hl : Limbs l) (h : l.length ≤ 600) : (decDigits (val l).toNat).length ≤ 7000 := digits_le_gen hl 7000 (by omega)
theorem digits_le_small {l : List Int} (hl : Limbs l) (h : l.length ≤ 100) : (decDigits (val l).toNat).length ≤ 2000 := digits_le_gen hl 2000 (by omega)
theorem itext_f (a : Bool) (x : List Int) (hx : Limbs x) (lx : x.length ≤ 600) (k : Nat) (hk : 300000 ≤ k) : integer_Text.f k a x = some (bytesOf (itext (sg a (val x)))) := by
  obtain ⟨p, q, e, i, l⟩ := norm_int a x hx (by omega)
  have h0 := val_nonneg hx
  have hd := digits_le hx lx
  unfold integer_Text.f
  rw [e, zOb, text_f x hx (by omega) k (by omega)]
  have hn := natAbs_sg a h0
  have hp := i.neg
  unfold itext
  rw [hn]
  by_cases c : sg a (val x) < 0
  · rw [decide_eq_true c] at hp
    subst hp
    rw [if_pos rfl, if_pos c, zOb, if_pos (by rw [bytesOf_size]; omega), cat_minus]
  · rw [decide_eq_false c] at hp
    subst hp
    rw [if_neg Bool.false_ne_true, if_neg c, zOb, if_pos (by rw [bytesOf_size]; omega), cat_none]
def bare (l : List UInt8) : List UInt8 × Bool := match l with
  | 45 :: m => (m, true)
  | m => (m, false)
theorem bare_minus (m : List UInt8) : bare (45 :: m) = (m, true) := rfl
theorem bare_plain {l : List UInt8} (h : l.getD 0 0 ≠ 45) : bare l = (l, false) := by
  cases l with
  | nil => rfl
  | cons c m =>
    unfold bare
    split
    · rename_i h1
      injection h1 with h2 h3
      subst h2
      exact absurd rfl h
    · rfl
theorem cut_prefix (s : ByteArray) : strings_CutPrefix.f s (⟨#[45]⟩ : ByteArray) = some (bytesOf (bare s.data.toList).1, (bare s.data.toList).2) := by
  have hsz := size_list s
  have h1 : ((⟨#[45]⟩ : ByteArray).size : Int) = 1 := rfl
  unfold strings_CutPrefix.f stringslite_CutPrefix.f stringslite_HasPrefix.f
  rw [h1]
  by_cases c : (s.size : Int) ≥ 1
  · rw [if_pos c, if_pos (by omega), if_pos (by omega), zOb]
    obtain ⟨x, m, hm⟩ : ∃ x m, s.data.toList = x :: m := by
      cases hh : s.data.toList with
      | nil => rw [hh] at hsz; exact absurd (show s.size = 0 from hsz) (by omega)
      | cons x m => exact ⟨x, m, rfl⟩
    have hl : (s.extract 0 ((1 : Int)).toNat).toList = [x] := by rw [toList_data, ext_list, hm]; rfl
    have hr : (⟨#[45]⟩ : ByteArray).toList = [45] := by rw [toList_data]
    rw [hl, hr, hm]
    by_cases h45 : x = 45
    · subst h45
      rw [bare_minus, if_pos (by simp), if_pos (by omega), if_pos (by omega), zOb]
      congr 2
      refine bytes_ext ?_
      rw [ext_list, hm, bytesOf_list]
      rw [hm] at hsz
      show (m.take (s.size - 1)) = m
      exact List.take_of_length_le (by simp at hsz; omega)
    · rw [bare_plain (by simpa using h45), if_neg (by simpa using h45), zOb]
      congr 2
      refine bytes_ext ?_
      rw [bytesOf_list, hm]
  · rw [if_neg c, zOb, if_neg (by decide), zOb]
    have hn : s.data.toList = [] := List.eq_nil_of_length_eq_zero (by omega)
    rw [hn]
    show some (s, false) = some (bytesOf [], false)
    congr 2
    exact bytes_ext hn
def INum (l : List UInt8) : Prop := Numeral (bare l).1 ∧ ((bare l).2 = true → dv (bare l).1 ≠ 0)
def ival (l : List UInt8) : Int := sg (bare l).2 (dv (bare l).1 : Nat)
def IReads (l : List UInt8) (o : Option (Bool × List Int × Int)) : Prop := (INum l → ∃ x y, o = some (x, y, 0) ∧ IsInt x y (ival l) ∧ y.length ≤ 6000) ∧ (¬ INum l → o = some (false, [], 2))
theorem reads_len {l : List UInt8} {r : List Int} (hn : Numeral l) (h : IsNum r (dv l : Nat)) : r.length ≤ l.length := by
  rw [← List.take_length (l := l)] at h
  exact len_of_dv h (fun j hj => getD_digit.2 hn.2.1 j (by omega) hj) (Nat.le_refl _)
theorem num_zero {r : List Int} {v : Nat} (h : IsNum r (v : Int)) : ((r.length : Int) = 0) ↔ v = 0 := by
  constructor
  · intro h0
    have : r = [] := List.eq_nil_of_length_eq_zero (by omega)
    subst this
    have := h.eq
    simp [val] at this
    omega
  · intro h0
    subst h0
    rw [h.unique IsNum.nil]
    rfl
theorem bare_len (l : List UInt8) : (bare l).1.length ≤ l.length := by
  unfold bare
  split
  · simp
  · exact Nat.le_refl _
theorem iparse_f (s : ByteArray) (hl : s.size ≤ 6000) (k : Nat) (hk : 300000 ≤ k) : IReads s.data.toList (integer_Parse.f k s) := by
  have hsz := size_list s
  have hbl := bare_len s.data.toList
  unfold integer_Parse.f
  rw [cut_prefix, zOb]
  have p := parse_f (bytesOf (bare s.data.toList).1) (by rw [bytesOf_size]; omega) k (by omega)
  rw [bytesOf_list] at p
  by_cases hn : Numeral (bare s.data.toList).1
  · obtain ⟨r, e, n⟩ := p.1 hn
    have hrl := reads_len hn n
    rw [e, zOb, if_pos rfl]
    obtain ⟨x, y, e2, i, l2⟩ := signed_f (bare s.data.toList).2 r n.limbs (by omega)
    rw [n.eq] at i
    by_cases hb : (bare s.data.toList).2 = true
    · rw [if_pos hb]
      by_cases hz : dv (bare s.data.toList).1 = 0
      · rw [if_pos ((num_zero n).2 hz)]
        exact ⟨fun h => absurd hz (h.2 hb), fun _ => rfl⟩
      · rw [if_neg (fun h => hz ((num_zero n).1 h)), e2, zOb]
        exact ⟨fun _ => ⟨x, y, rfl, i, by omega⟩, fun h => absurd ⟨hn, fun _ => hz⟩ h⟩
    · rw [if_neg hb, e2, zOb]
      exact ⟨fun _ => ⟨x, y, rfl, i, by omega⟩, fun h => absurd ⟨hn, fun h1 => absurd h1 hb⟩ h⟩
  · rw [p.2 hn, zOb, if_neg (by decide)]
    exact ⟨fun h => absurd h.1 hn, fun _ => rfl⟩
theorem IReads.same {l : List UInt8} {o o' : Option (Bool × List Int × Int)} (h : IReads l o) (h' : IReads l o') : o = o' ∧ ∃ x y e, o = some (x, y, e) ∧ y.length ≤ 6000 := by
  by_cases c : INum l
  · obtain ⟨x, y, e, i, l⟩ := h.1 c
    obtain ⟨x', y', e', i', _⟩ := h'.1 c
    obtain ⟨rfl, rfl⟩ := i.unique i'
    exact ⟨e.trans e'.symm, x, y, 0, e, l⟩
  · exact ⟨(h.2 c).trans (h'.2 c).symm, false, [], 2, h.2 c, by simp⟩
theorem dec_not_minus (u : Nat) : (decDigits u).getD 0 0 ≠ 45 := by
  have h := dec_numeral u
  have h1 := getD_digit.2 h.2.1 0 (by omega) (List.length_pos_iff.2 h.1)
  intro h2
  rw [h2] at h1
  exact absurd h1.1 (by decide)
theorem bare_itext (z : Int) : bare (itext z) = (decDigits z.natAbs, decide (z < 0)) := by
  unfold itext
  by_cases c : z < 0
  · rw [if_pos c, bare_minus, decide_eq_true c]
  · rw [if_neg c, bare_plain (dec_not_minus _), decide_eq_false c]
theorem inum_itext (z : Int) : INum (itext z) ∧ ival (itext z) = z := by
  unfold INum ival
  rw [bare_itext]
  refine ⟨⟨dec_numeral _, fun h => ?_⟩, ?_⟩
  · rw [dec_dv]
    have := of_decide_eq_true h
    omega
  · rw [dec_dv]
    unfold sg
    by_cases c : z < 0
    · rw [if_pos (decide_eq_true c)]; omega
    · rw [if_neg (by simpa using c)]; omega
theorem itext_ival {l : List UInt8} (h : INum l) : itext (ival l) = l := by
  unfold INum at h
  unfold ival itext
  by_cases c : l.getD 0 0 = 45
  · cases l with
    | nil => exact absurd c (by decide)
    | cons x m =>
      obtain rfl : x = 45 := c
      rw [bare_minus] at h ⊢
      have h0 : dv m ≠ 0 := h.2 rfl
      have hs : sg true (dv m : Nat) = -((dv m : Nat) : Int) := rfl
      rw [hs, if_pos (by omega), show (-((dv m : Nat) : Int)).natAbs = dv m by omega, dec_of_numeral _ _ rfl h.1]
  · rw [bare_plain c] at h ⊢
    have hs : sg false (dv l : Nat) = ((dv l : Nat) : Int) := rfl
    rw [hs, if_neg (by omega), show (((dv l : Nat) : Int)).natAbs = dv l by omega, dec_of_numeral _ _ rfl h.1]
end
end Go.Proofs.YtnjmnicgknggfaaDoor.E
