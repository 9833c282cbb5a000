/- Lemmas for the statement: the walks of the functions that it reaches, and plain laws. -/
import Derived.Test.YtkiemlbobcklpaaG3
import Derived.Test.YtkiemlbobcklpaaG1
import Derived.Test.YtkiemlbobcklpaaG2
import Derived.Test.YtkiemlbobcklpaaG4
import Derived.Test.YtkiemlbobcklpaaG5
set_option linter.unusedVariables false
set_option linter.unusedSimpArgs false
set_option maxHeartbeats 8000000
set_option maxRecDepth 100000
namespace Go.Proofs.Ytkiemlbobcklpaa.A
open Go Go.RowKit Go.Proofs.YtkiemlbobcklpaaW.PrintWords Go.Proofs.YtkiemlbobcklpaaW.PrintLast Go.Proofs.YtkiemlbobcklpaaW.PrintMore
attribute [local go_sem] max2_int min2_int max_two min_two max_three min_three max_four min_four
open Go.Proofs.YtkiemlbobcklpaaW.PrintWords.Kd renaming R_alloc → zRa, R_drewN → zRn, R_drew → zRd, C_alloc → zCa, C_drewN → zCn, C_drew → zCd, R_mono → zRm, at_int → zAi, R_elder' → zRe, R_lower → zRl, R_new' → zRw, R_lt → zRt, R_below → zRb, R_base → zRz, R_reads' → zRr, R_slice → zRs
open Go.Proofs.YtkiemlbobcklpaaW.PrintWords renaming pw_below_drewN → zBn, below_alloc → zBa, below_drew1 → zBd, below_size → zBs, below_step → zBt, blk_drewN → zKn, blk_drew → zKd, blk_alloc → zKa, blk_below → zKb, blk_cell → zKc, blk_frozen → zKf
open List renaming setIfInBounds_toArray → zSa, set_cons_zero → zSb, set_cons_succ → zSc, length_drop → zLd, length_take → zLt, map_toArray → zMa, map_cons → zMc, map_nil → zMn, length_cons → zLc, length_nil → zLn
open Go.Proofs.YtkiemlbobcklpaaW.PrintWords.Aside0 renaming mk → zMk
open Option renaming bind_eq_some_iff → zBi, bind_some → zOb
open Option.some renaming inj → zOi
open Int renaming toNat_natCast → zTn

def w6_PartsCuts.f (k : Nat) (a0_0 : Int) (l0_1 : List (S43)) : Option (Bool) := (w4_Light.f a0_0 l0_1 25).bind fun t552 => (if t552 = true then ((r4_Right.f k a0_0 l0_1).bind fun t554 => (if t554 = 0 then ((parts_Cuts.f k a0_0 l0_1).bind fun t562 => ((r6_Cuts.f k a0_0 l0_1).bind fun t565 => ((r4_Ints.f k t562 t565).bind fun t568 => (if t568 = true then ((parts_Bridges.f k a0_0 l0_1).bind fun t569 => ((r6_Bridges.f k a0_0 l0_1).bind fun t572 => ((r4_Ints.f k t569 t572).bind fun t575 => (if t575 = true then ((w6_alive.f k).bind fun t576 => (some t576)) else (some false))))) else (some false))))) else ((parts_Cuts.f k a0_0 l0_1).bind fun t555 => ((parts_Bridges.f k a0_0 l0_1).bind fun t558 => (if (wrap64 ((t555.length : Int) + (t558.length : Int))) = 0 then ((w6_alive.f k).bind fun t561 => (some t561)) else (some false)))))) else ((w6_alive.f k).bind fun t553 => (some t553)))
def w6_PartsCuts.T4 : Bool × List (List Nat × List Nat) := (true, [([], []), ([0], [0]), ([1], [1]), ([], []), ([3, 1], [3]), ([4], [4]), ([2, 5], [2, 5]), ([6], [6]), ([7, 4], [7]), ([8, 8], [8]), ([8, 9], [8, 9]), ([10, 9, 0, 1, 2, 3, 4, 5, 6, 7, 8, 9, 10], [10])])
def w6_PartsCuts.B4 : List Nat := [0, 1, 3, 0, 11, 27, 63, 127, 255, 511, 1023, 2047]
theorem w6_PartsCuts.tab4 : rtab .any (opsOf Try.f4 4) = w6_PartsCuts.T4 := by kernel_rfl
theorem w6_PartsCuts.bits4 : waitsOk w6_PartsCuts.T4.2 w6_PartsCuts.B4 = true := by kernel_rfl
def w6_PartsCuts.T5 : Bool × List (List Nat × List Nat) := (true, [([], []), ([0], [0]), ([], []), ([2, 1], [2]), ([1, 3, 3], [1, 3]), ([4, 4], [4]), ([5], [5]), ([6, 5, 5], [5, 6]), ([5], [5]), ([8, 7, 5], [5, 8]), ([7, 9, 9, 5], [5, 7, 9]), ([5, 10], [5, 10]), ([11, 10], [11]), ([12, 12], [12]), ([12, 13], [12, 13]), ([14, 13, 0, 1, 2, 3, 4, 5, 6, 7, 8, 9, 10, 11, 12, 13, 14], [14])])
def w6_PartsCuts.B5 : List Nat := [0, 1, 0, 7, 15, 31, 63, 127, 63, 511, 1023, 2047, 4095, 8191, 16383, 32767]
theorem w6_PartsCuts.tab5 : rtab .any (opsOf Try.f4 5) = w6_PartsCuts.T5 := by kernel_rfl
theorem w6_PartsCuts.bits5 : waitsOk w6_PartsCuts.T5.2 w6_PartsCuts.B5 = true := by kernel_rfl
theorem w6_PartsCuts.calls (k : Nat) (a0_0 : Int) (A0_1 : Option Addr) (c0_1 : Nat) (l0_1 : List (S43)) (r : Bool) (w : World) (hr0_1 : Kd.C k43 w A0_1 l0_1.length l0_1) (hc0_1 : l0_1.length ≤ c0_1) (h : w6_PartsCuts.f k a0_0 l0_1 = some r) (hr_ : r = true) :
  Calls Try.prog 4 #[.agg #[.int .i64 a0_0, .slice A0_1 l0_1.length c0_1]] w fun e w' => e = .returned (.bool r) ∧ Below w.heap.size w w' := by
 have HRT := zMk hr_
 clear hr_
 have hu24 := Try.underlying24
 have HR0_1 := zMk hr0_1
 have HC0_1 := zMk hc0_1
 clear hr0_1 hc0_1
 have HB := zMk (Below.refl w.heap.size w)
 have H : ((w4_Light.f a0_0 l0_1 25).bind fun t552 => (if t552 = true then ((r4_Right.f k a0_0 l0_1).bind fun t554 => (if t554 = 0 then ((parts_Cuts.f k a0_0 l0_1).bind fun t562 => ((r6_Cuts.f k a0_0 l0_1).bind fun t565 => ((r4_Ints.f k t562 t565).bind fun t568 => (if t568 = true then ((parts_Bridges.f k a0_0 l0_1).bind fun t569 => ((r6_Bridges.f k a0_0 l0_1).bind fun t572 => ((r4_Ints.f k t569 t572).bind fun t575 => (if t575 = true then ((w6_alive.f k).bind fun t576 => (some t576)) else (some false))))) else (some false))))) else ((parts_Cuts.f k a0_0 l0_1).bind fun t555 => ((parts_Bridges.f k a0_0 l0_1).bind fun t558 => (if (wrap64 ((t555.length : Int) + (t558.length : Int))) = 0 then ((w6_alive.f k).bind fun t561 => (some t561)) else (some false)))))) else ((w6_alive.f k).bind fun t553 => (some t553)))) = some r := h
 clear h
 replace H := bnd H
 obtain ⟨t552, A20, H⟩ := H
 have A2 := zMk A20
 clear A20
 by_cases c3 : t552 = true
 ·subst c3
  replace H : ((r4_Right.f k a0_0 l0_1).bind fun t554 => (if t554 = 0 then ((parts_Cuts.f k a0_0 l0_1).bind fun t562 => ((r6_Cuts.f k a0_0 l0_1).bind fun t565 => ((r4_Ints.f k t562 t565).bind fun t568 => (if t568 = true then ((parts_Bridges.f k a0_0 l0_1).bind fun t569 => ((r6_Bridges.f k a0_0 l0_1).bind fun t572 => ((r4_Ints.f k t569 t572).bind fun t575 => (if t575 = true then ((w6_alive.f k).bind fun t576 => (some t576)) else (some false))))) else (some false))))) else ((parts_Cuts.f k a0_0 l0_1).bind fun t555 => ((parts_Bridges.f k a0_0 l0_1).bind fun t558 => (if (wrap64 ((t555.length : Int) + (t558.length : Int))) = 0 then ((w6_alive.f k).bind fun t561 => (some t561)) else (some false)))))) = some r := by rw [if_pos rfl] at H; exact H
  replace H := bnd H
  obtain ⟨t554, A40, H⟩ := H
  have A4 := zMk A40
  clear A40
  by_cases c5 : t554 = 0
  ·rw [if_pos c5] at H
   have c5b0 : (t554 == 0) = true := beq_iff_eq.mpr c5
   have c5b1 : (t554 != 0) = false := bne_eq_false_iff_eq.mpr c5
   clear c5
   replace H := bnd H
   obtain ⟨t562, A60, H⟩ := H
   have A6 := zMk A60
   clear A60
   replace H := bnd H
   obtain ⟨t565, A70, H⟩ := H
   have A7 := zMk A70
   clear A70
   replace H := bnd H
   obtain ⟨t568, A80, H⟩ := H
   have A8 := zMk A80
   clear A80
   by_cases c9 : t568 = true
   ·subst c9
    replace H : ((parts_Bridges.f k a0_0 l0_1).bind fun t569 => ((r6_Bridges.f k a0_0 l0_1).bind fun t572 => ((r4_Ints.f k t569 t572).bind fun t575 => (if t575 = true then ((w6_alive.f k).bind fun t576 => (some t576)) else (some false))))) = some r := by rw [if_pos rfl] at H; exact H
    replace H := bnd H
    obtain ⟨t569, A100, H⟩ := H
    have A10 := zMk A100
    clear A100
    replace H := bnd H
    obtain ⟨t572, A110, H⟩ := H
    have A11 := zMk A110
    clear A110
    replace H := bnd H
    obtain ⟨t575, A120, H⟩ := H
    have A12 := zMk A120
    clear A120
    by_cases c13 : t575 = true
    ·subst c13
     replace H : ((w6_alive.f k).bind fun t576 => (some t576)) = some r := by rw [if_pos rfl] at H; exact H
     replace H := bnd H
     obtain ⟨t576, A140, H⟩ := H
     have A14 := zMk A140
     clear A140
     obtain rfl := zOi H
     go_enter Try.func4, Try.ntmps4
     try go_wp2_with (first | ((with_reducible refine gate_dst (N:=1) rfl ?_); refine box_event ?hg (N:=1) ?hd (cs:=#[.int .i64 a0_0, .slice A0_1 l0_1.length c0_1]) (t:=24) ?hr ?_; (case hd => rfl); (case hg => rfl); (case hr => first | (go_simp; done)|(go_simp; rfl)|(go_simp; rw [show ∀ x : Int, IntKind.u32.wrap (IntKind.u8.wrap x) = x % 256 from fun x => (by show (x % 256) % 4294967296 = x % 256; omega)])); intro gb551 hg w15 hbox hb; have BK551 := zMk (hbox); have GW551 := zMk ((by rw [hg]; exact (zBs (by exact uT HB.out)) : w.heap.size ≤ gb551)); have GE551 := zMk ((by rw [hg]; exact (zBs (by exact uT HB.out)) : w.heap.size ≤ gb551)); have IGE551 := ownGe GE551.out; replace HB := zMk (zBt (by exact uT HB.out) hb); clear hb hbox hg; have hcz16_0 : w15.cell? ⟨gb551, 0, none⟩ = some (.int .i64 a0_0) := (zKc BK551.out 0).trans rfl; have hcz16_1 : w15.cell? ⟨gb551, 1, none⟩ = some (.slice A0_1 l0_1.length c0_1) := (zKc BK551.out 1).trans rfl; have hfz16_0 := zKf BK551.out 0; have hfz16_1 := zKf BK551.out 1)|((with_reducible refine gate_callee (f:=8) rfl ?_); refine goesL_ (some 4) rfl rfl Try.func8 (by kernel_rfl) rfl #[.agg #[.int .i64 a0_0, .slice A0_1 l0_1.length c0_1], .int .i64 25] rfl (by (try simp only [zMa, zMc, zMn]); first |  done|  rfl|  (simp only [zLd, zLt]; rfl)) ?_; (with_reducible refine (w4_Light.calls a0_0 _ _ l0_1 25 true _ ?side1 ?side2 A2.out).mono ?_); (case side1 => repeat (first |  exact (Kd.C_below HR0_1.out HB.out)|(with_reducible refine zCa ?_ _)|(with_reducible refine zCn ?_ _)|(with_reducible refine zCd ?_))); (case side2 => exact HC0_1.out); rintro e w17 ⟨rfl, hb⟩; refine ⟨_, rfl, ?_⟩; replace BK551 := zMk (zKb (g:=gb551) (o:=.cells #[.int .i64 a0_0, .slice A0_1 l0_1.length c0_1] 24 (0, 0)) (by (with_reducible repeat (first |  refine zKn ?_ _|  refine zKd ?_|  refine zKa ?_ _)); exact BK551.out) hb); replace HB := zMk (zBt (by exact uT HB.out) hb); have hcz18_0 : w17.cell? ⟨gb551, 0, none⟩ = some (.int .i64 a0_0) := (zKc BK551.out 0).trans rfl; have hcz18_1 : w17.cell? ⟨gb551, 1, none⟩ = some (.slice A0_1 l0_1.length c0_1) := (zKc BK551.out 1).trans rfl; have hfz18_0 := zKf BK551.out 0; have hfz18_1 := zKf BK551.out 1)|((with_reducible refine gate_callee (f:=10) rfl ?_); refine goesL_ (some 8) rfl rfl Try.func10 (by kernel_rfl) rfl #[.agg #[.int .i64 a0_0, .slice A0_1 l0_1.length c0_1]] rfl (by (try simp only [zMa, zMc, zMn]); first |  done|  rfl|  (simp only [zLd, zLt]; rfl)) ?_; (with_reducible refine (r4_Right.calls k a0_0 _ _ l0_1 t554 _ ?side1 ?side2 A4.out).mono ?_); (case side1 => repeat (first |  exact (Kd.C_below HR0_1.out HB.out)|(with_reducible refine zCa ?_ _)|(with_reducible refine zCn ?_ _)|(with_reducible refine zCd ?_))); (case side2 => exact HC0_1.out); rintro e w19 ⟨rfl, hb⟩; refine ⟨_, rfl, ?_⟩; replace BK551 := zMk (zKb (g:=gb551) (o:=.cells #[.int .i64 a0_0, .slice A0_1 l0_1.length c0_1] 24 (0, 0)) (by (with_reducible repeat (first |  refine zKn ?_ _|  refine zKd ?_|  refine zKa ?_ _)); exact BK551.out) hb); replace HB := zMk (zBt (by exact uT HB.out) hb)))
     replace BK551 := zMk (zKd BK551.out)
     replace HB := zMk (zBd HB.out)
     refine start_ (n:=16) (S:=fun w' => w'.cell? ⟨gb551, 0, none⟩ = some (.int .i64 a0_0) ∧ w'.cell? ⟨gb551, 1, none⟩ = some (.slice A0_1 l0_1.length c0_1)) (ds:=[]) #[false,false,false,false,false,false,false,false,false,false,false,false,false,false,false,false] (by kernel_rfl) rfl rfl ⟨(zKc BK551.out 0).trans rfl, (zKc BK551.out 1).trans rfl⟩ (fun hHeld => ?_); refine with_tabW w6_PartsCuts.tab5 w6_PartsCuts.bits5 (fun HT_ HW_ => ?_)
     generalize w19.drew = w20 at BK551 HB hHeld ⊢
     refine take_ (i:=0) (N:=some 21) (v:=?_) (a' := ?_) #[true,false,false,false,false,false,false,false,false,false,false,false,false,false,false,false] rfl rfl (take_ofW HT_.out HW_.out (by kernel_rfl)) (fun _ _ _ h => h) (Or.inl ⟨by rfl, ?_⟩) hHeld ?_ ?_
     rotate_left
     ·rintro w' ⟨s0, s1⟩
      go_simp
      with_reducible rfl
     rotate_left
     ·simp only [Act.put, zSa, zSb, zSc, i64_w, i32_w]
      rfl
     refine take_ (i:=2) (N:=some 23) (v:=?_) (a' := ?_) #[true,false,true,false,false,false,false,false,false,false,false,false,false,false,false,false] rfl rfl (take_ofW HT_.out HW_.out (by kernel_rfl)) (fun _ _ _ h => h) (Or.inl ⟨by rfl, ?_⟩) hHeld ?_ ?_
     rotate_left
     ·rintro w' ⟨s0, s1⟩
      go_simp
      with_reducible rfl
     rotate_left
     ·simp only [Act.put, zSa, zSb, zSc, i64_w, i32_w]
      rfl
     refine one_ (i:=1) (N:=some 22) #[true,true,true,false,false,false,false,false,false,false,false,false,false,false,false,false] rfl rfl (one_of HT_.out (by kernel_rfl)) (by decide) (fun K hK => ?_)
     refine goes_ Try.func14 (by kernel_rfl) rfl #[.agg #[.int .i64 a0_0, .slice A0_1 l0_1.length c0_1]] (by rfl) rfl rfl (by (try simp only [zMa, zMc, zMn]); first | done | rfl | (simp only [zLd, zLt]; rfl)) ?_
     with_reducible refine (parts_Cuts.calls k a0_0 _ _ l0_1 t562 _ ?side1 ?side2 A6.out).mono ?_
     (case side1 => repeat (first | exact (Kd.C_below HR0_1.out HB.out) | (with_reducible refine zCa ?_ _) | (with_reducible refine zCn ?_ _) | (with_reducible refine zCd ?_)))
     (case side2 => exact HC0_1.out)
     rintro e w21 ⟨v563, rfl, ho0, hb⟩
     refine ⟨_, rfl, ?_⟩
     have HO564 := zMk (zRl ho0 (zBs (by exact uT HB.out)))
     replace BK551 := zMk (zKb (g:=gb551) (o:=.cells #[.int .i64 a0_0, .slice A0_1 l0_1.length c0_1] 24 (0, 0)) (by (with_reducible repeat (first | refine zKn ?_ _ | refine zKd ?_ | refine zKa ?_ _)); exact BK551.out) hb)
     replace HB := zMk (zBt (by exact uT HB.out) hb)
     refine hK.out _ _ ⟨(zKc BK551.out 0).trans rfl, (zKc BK551.out 1).trans rfl⟩ (fun hHeld => ?_)
     clear hK K
     refine norm_ (a' := ?_) ?_ ?_
     rotate_left
     ·show Act.put _ (some 22) _ = _
      simp only [Act.put, zSa, zSb, zSc, i64_w, i32_w]
      rfl
     refine one_ (i:=3) (N:=some 24) #[true,true,true,true,false,false,false,false,false,false,false,false,false,false,false,false] rfl rfl (one_of HT_.out (by kernel_rfl)) (by decide) (fun K hK => ?_)
     refine goes_ Try.func17 (by kernel_rfl) rfl #[.agg #[.int .i64 a0_0, .slice A0_1 l0_1.length c0_1]] (by rfl) rfl rfl (by (try simp only [zMa, zMc, zMn]); first | done | rfl | (simp only [zLd, zLt]; rfl)) ?_
     with_reducible refine (r6_Cuts.calls k a0_0 _ _ l0_1 t565 _ ?side1 ?side2 A7.out).mono ?_
     (case side1 => repeat (first | exact (Kd.C_below HR0_1.out HB.out) | (with_reducible refine zCa ?_ _) | (with_reducible refine zCn ?_ _) | (with_reducible refine zCd ?_)))
     (case side2 => exact HC0_1.out)
     rintro e w22 ⟨v566, rfl, ho0, hb⟩
     refine ⟨_, rfl, ?_⟩
     have HO567 := zMk (zRl (zRw ho0 (zRt (by exact uR HO564.out))) (zBs (by exact uT HB.out)))
     replace HO564 := zMk (zRe (by exact uR HO564.out) (zRz ho0) hb)
     replace BK551 := zMk (zKb (g:=gb551) (o:=.cells #[.int .i64 a0_0, .slice A0_1 l0_1.length c0_1] 24 (0, 0)) (by (with_reducible repeat (first | refine zKn ?_ _ | refine zKd ?_ | refine zKa ?_ _)); exact BK551.out) hb)
     replace HB := zMk (zBt (by exact uT HB.out) hb)
     obtain ⟨Ao23, co23, eo23⟩ := zRs HO564.out
     (first |  subst eo23|  (injection eo23 with f1_ f2_ f3_; have f4_ := f1_.symm; have f5_ := f3_.symm; clear f1_ f2_ f3_; subst f4_; subst f5_))
     obtain ⟨Ao24, co24, eo24⟩ := zRs HO567.out
     (first |  subst eo24|  (injection eo24 with f1_ f2_ f3_; have f4_ := f1_.symm; have f5_ := f3_.symm; clear f1_ f2_ f3_; subst f4_; subst f5_))
     refine hK.out _ _ ⟨(zKc BK551.out 0).trans rfl, (zKc BK551.out 1).trans rfl⟩ (fun hHeld => ?_)
     clear hK K
     refine norm_ (a' := ?_) ?_ ?_
     rotate_left
     ·show Act.put _ (some 24) _ = _
      simp only [Act.put, zSa, zSb, zSc, i64_w, i32_w]
      rfl
     refine one_ (i:=4) (N:=some 25) #[true,true,true,true,true,false,false,false,false,false,false,false,false,false,false,false] rfl rfl (one_of HT_.out (by kernel_rfl)) (by decide) (fun K hK => ?_)
     refine goes_ Try.func16 (by kernel_rfl) rfl #[.slice Ao23 t562.length co23, .slice Ao24 t565.length co24] (by rfl) rfl rfl (by (try simp only [zMa, zMc, zMn]); first | done | rfl | (simp only [zLd, zLt]; rfl)) ?_
     with_reducible refine (r4_Ints.calls k _ _ t562 _ _ t565 true _ ?side1 ?side2 ?side3 ?side4 A8.out).mono ?_
     (case side1 => exact uC (zRr HO564.out).2.2)
     (case side2 => exact (zRr HO564.out).2.1)
     (case side3 => exact uC (zRr HO567.out).2.2)
     (case side4 => exact (zRr HO567.out).2.1)
     rintro e w' ⟨rfl, ⟨nd, rfl⟩⟩
     refine ⟨_, rfl, ?_⟩
     refine hK.out _ _ ⟨(zKc BK551.out 0).trans rfl, (zKc BK551.out 1).trans rfl⟩ (fun hHeld => ?_)
     clear hK K
     refine norm_ (a' := ?_) ?_ ?_
     rotate_left
     ·show Act.put _ (some 25) _ = _
      simp only [Act.put, zSa, zSb, zSc, i64_w, i32_w]
      rfl
     refine pure_ (i:=5) (N:=some 26) (v:=?_) (a' := ?_) #[true,true,true,true,true,true,false,false,false,false,false,false,false,false,false,false] rfl rfl (any_of HT_.out (by kernel_rfl)) (fun _ _ _ h => h) (Or.inl ⟨by rfl, ?_⟩) ?_ ?_
     rotate_left
     ·intro w'
      go_simp
      with_reducible rfl
     rotate_left
     ·simp only [Act.put, zSa, zSb, zSc, i64_w, i32_w]
      rfl
     refine take_ (i:=6) (N:=some 27) (v:=?_) (a' := ?_) #[true,true,true,true,true,true,true,false,false,false,false,false,false,false,false,false] rfl rfl (take_ofW HT_.out HW_.out (by kernel_rfl)) (fun _ _ _ h => h) (Or.inl ⟨by rfl, ?_⟩) hHeld ?_ ?_
     rotate_left
     ·rintro w' ⟨s0, s1⟩
      go_simp
      with_reducible rfl
     rotate_left
     ·simp only [Act.put, zSa, zSb, zSc, i64_w, i32_w]
      rfl
     refine take_ (i:=8) (N:=some 29) (v:=?_) (a' := ?_) #[true,true,true,true,true,true,true,false,true,false,false,false,false,false,false,false] rfl rfl (take_ofW HT_.out HW_.out (by kernel_rfl)) (fun _ _ _ h => h) (Or.inl ⟨by rfl, ?_⟩) hHeld ?_ ?_
     rotate_left
     ·rintro w' ⟨s0, s1⟩
      go_simp
      with_reducible rfl
     rotate_left
     ·simp only [Act.put, zSa, zSb, zSc, i64_w, i32_w]
      rfl
     refine one_ (i:=7) (N:=some 28) #[true,true,true,true,true,true,true,true,true,false,false,false,false,false,false,false] rfl rfl (one_of HT_.out (by kernel_rfl)) (by decide) (fun K hK => ?_)
     refine goes_ Try.func15 (by kernel_rfl) rfl #[.agg #[.int .i64 a0_0, .slice A0_1 l0_1.length c0_1]] (by rfl) rfl rfl (by (try simp only [zMa, zMc, zMn]); first | done | rfl | (simp only [zLd, zLt]; rfl)) ?_
     with_reducible refine (parts_Bridges.calls k a0_0 _ _ l0_1 t569 _ ?side1 ?side2 A10.out).mono ?_
     (case side1 => repeat (first | exact (Kd.C_below HR0_1.out (by exact uT HB.out)) | (with_reducible refine zCa ?_ _) | (with_reducible refine zCn ?_ _) | (with_reducible refine zCd ?_)))
     (case side2 => exact HC0_1.out)
     rintro e w25 ⟨v570, rfl, ho0, hb⟩
     refine ⟨_, rfl, ?_⟩
     have HO571 := zMk (zRl (zRw (zRw ho0 (zRt (by exact uR HO564.out))) (zRt (by exact uR HO567.out))) (zBs (by exact uT HB.out)))
     replace HO564 := zMk (zRe (by exact uR HO564.out) (zRz ho0) hb)
     replace HO567 := zMk (zRe (by exact uR HO567.out) (zRz ho0) hb)
     replace BK551 := zMk (zKb (g:=gb551) (o:=.cells #[.int .i64 a0_0, .slice A0_1 l0_1.length c0_1] 24 (0, 0)) (by (with_reducible repeat (first | refine zKn ?_ _ | refine zKd ?_ | refine zKa ?_ _)); exact BK551.out) hb)
     replace HB := zMk (zBt (by exact uT HB.out) hb)
     refine hK.out _ _ ⟨(zKc BK551.out 0).trans rfl, (zKc BK551.out 1).trans rfl⟩ (fun hHeld => ?_)
     clear hK K
     refine norm_ (a' := ?_) ?_ ?_
     rotate_left
     ·show Act.put _ (some 28) _ = _
      simp only [Act.put, zSa, zSb, zSc, i64_w, i32_w]
      rfl
     refine one_ (i:=9) (N:=some 30) #[true,true,true,true,true,true,true,true,true,true,false,false,false,false,false,false] rfl rfl (one_of HT_.out (by kernel_rfl)) (by decide) (fun K hK => ?_)
     refine goes_ Try.func18 (by kernel_rfl) rfl #[.agg #[.int .i64 a0_0, .slice A0_1 l0_1.length c0_1]] (by rfl) rfl rfl (by (try simp only [zMa, zMc, zMn]); first | done | rfl | (simp only [zLd, zLt]; rfl)) ?_
     with_reducible refine (r6_Bridges.calls k a0_0 _ _ l0_1 t572 _ ?side1 ?side2 A11.out).mono ?_
     (case side1 => repeat (first | exact (Kd.C_below HR0_1.out HB.out) | (with_reducible refine zCa ?_ _) | (with_reducible refine zCn ?_ _) | (with_reducible refine zCd ?_)))
     (case side2 => exact HC0_1.out)
     rintro e w26 ⟨v573, rfl, ho0, hb⟩
     refine ⟨_, rfl, ?_⟩
     have HO574 := zMk (zRl (zRw (zRw (zRw ho0 (zRt (by exact uR HO564.out))) (zRt (by exact uR HO567.out))) (zRt (by exact uR HO571.out))) (zBs (by exact uT HB.out)))
     replace HO564 := zMk (zRe (by exact uR HO564.out) (zRz ho0) hb)
     replace HO567 := zMk (zRe (by exact uR HO567.out) (zRz ho0) hb)
     replace HO571 := zMk (zRe (by exact uR HO571.out) (zRz ho0) hb)
     replace BK551 := zMk (zKb (g:=gb551) (o:=.cells #[.int .i64 a0_0, .slice A0_1 l0_1.length c0_1] 24 (0, 0)) (by (with_reducible repeat (first | refine zKn ?_ _ | refine zKd ?_ | refine zKa ?_ _)); exact BK551.out) hb)
     replace HB := zMk (zBt (by exact uT HB.out) hb)
     obtain ⟨Ao27, co27, eo27⟩ := zRs HO571.out
     (first |  subst eo27|  (injection eo27 with f1_ f2_ f3_; have f4_ := f1_.symm; have f5_ := f3_.symm; clear f1_ f2_ f3_; subst f4_; subst f5_))
     obtain ⟨Ao28, co28, eo28⟩ := zRs HO574.out
     (first |  subst eo28|  (injection eo28 with f1_ f2_ f3_; have f4_ := f1_.symm; have f5_ := f3_.symm; clear f1_ f2_ f3_; subst f4_; subst f5_))
     refine hK.out _ _ ⟨(zKc BK551.out 0).trans rfl, (zKc BK551.out 1).trans rfl⟩ (fun hHeld => ?_)
     clear hK K
     refine norm_ (a' := ?_) ?_ ?_
     rotate_left
     ·show Act.put _ (some 30) _ = _
      simp only [Act.put, zSa, zSb, zSc, i64_w, i32_w]
      rfl
     refine one_ (i:=10) (N:=some 31) #[true,true,true,true,true,true,true,true,true,true,true,false,false,false,false,false] rfl rfl (one_of HT_.out (by kernel_rfl)) (by decide) (fun K hK => ?_)
     refine goes_ Try.func16 (by kernel_rfl) rfl #[.slice Ao27 t569.length co27, .slice Ao28 t572.length co28] (by rfl) rfl rfl (by (try simp only [zMa, zMc, zMn]); first | done | rfl | (simp only [zLd, zLt]; rfl)) ?_
     with_reducible refine (r4_Ints.calls k _ _ t569 _ _ t572 true _ ?side1 ?side2 ?side3 ?side4 A12.out).mono ?_
     (case side1 => exact uC (zRr HO571.out).2.2)
     (case side2 => exact (zRr HO571.out).2.1)
     (case side3 => exact uC (zRr HO574.out).2.2)
     (case side4 => exact (zRr HO574.out).2.1)
     rintro e w' ⟨rfl, ⟨nd, rfl⟩⟩
     refine ⟨_, rfl, ?_⟩
     refine hK.out _ _ ⟨(zKc BK551.out 0).trans rfl, (zKc BK551.out 1).trans rfl⟩ (fun hHeld => ?_)
     clear hK K
     refine norm_ (a' := ?_) ?_ ?_
     rotate_left
     ·show Act.put _ (some 31) _ = _
      simp only [Act.put, zSa, zSb, zSc, i64_w, i32_w]
      rfl
     refine pure_ (i:=11) (N:=some 32) (v:=?_) (a' := ?_) #[true,true,true,true,true,true,true,true,true,true,true,true,false,false,false,false] rfl rfl (any_of HT_.out (by kernel_rfl)) (fun _ _ _ h => h) (Or.inl ⟨by rfl, ?_⟩) ?_ ?_
     rotate_left
     ·intro w'
      go_simp
      with_reducible rfl
     rotate_left
     ·simp only [Act.put, zSa, zSb, zSc, i64_w, i32_w]
      rfl
     refine pure_ (i:=12) (N:=some 33) (v:=?_) (a' := ?_) #[true,true,true,true,true,true,true,true,true,true,true,true,true,false,false,false] rfl rfl (any_of HT_.out (by kernel_rfl)) (fun _ _ _ h => h) (Or.inl ⟨by rfl, ?_⟩) ?_ ?_
     rotate_left
     ·intro w'
      go_simp
      with_reducible rfl
     rotate_left
     ·simp only [Act.put, zSa, zSb, zSc, i64_w, i32_w]
      rfl
     refine one_ (i:=13) (N:=some 34) #[true,true,true,true,true,true,true,true,true,true,true,true,true,true,false,false] rfl rfl (one_of HT_.out (by kernel_rfl)) (by decide) (fun K hK => ?_)
     refine goes_ Try.func9 (by kernel_rfl) rfl #[] (by rfl) rfl rfl (by (try simp only [zMa, zMc, zMn]); first | done | rfl | (simp only [zLd, zLt]; rfl)) ?_
     with_reducible refine (w6_alive.calls k  t576 _ A14.out).mono ?_
     rintro e w29 ⟨rfl, hb⟩
     refine ⟨_, rfl, ?_⟩
     replace HO564 := zMk (zRb (by exact uR HO564.out) hb)
     replace HO567 := zMk (zRb (by exact uR HO567.out) hb)
     replace HO571 := zMk (zRb (by exact uR HO571.out) hb)
     replace HO574 := zMk (zRb (by exact uR HO574.out) hb)
     replace BK551 := zMk (zKb (g:=gb551) (o:=.cells #[.int .i64 a0_0, .slice A0_1 l0_1.length c0_1] 24 (0, 0)) (by (with_reducible repeat (first | refine zKn ?_ _ | refine zKd ?_ | refine zKa ?_ _)); exact BK551.out) hb)
     replace HB := zMk (zBt (by exact uT HB.out) hb)
     refine hK.out _ _ ⟨(zKc BK551.out 0).trans rfl, (zKc BK551.out 1).trans rfl⟩ (fun hHeld => ?_)
     clear hK K
     refine norm_ (a' := ?_) ?_ ?_
     rotate_left
     ·show Act.put _ (some 34) _ = _
      simp only [Act.put, zSa, zSb, zSc, i64_w, i32_w]
      rfl
     refine pure_ (i:=14) (N:=some 35) (v:=?_) (a' := ?_) #[true,true,true,true,true,true,true,true,true,true,true,true,true,true,true,false] rfl rfl (any_of HT_.out (by kernel_rfl)) (fun _ _ _ h => h) (Or.inl ⟨by rfl, ?_⟩) ?_ ?_
     rotate_left
     ·intro w'
      go_simp
      with_reducible rfl
     rotate_left
     ·simp only [Act.put, zSa, zSb, zSc, i64_w, i32_w]
      rfl
     refine pure_ (i:=15) (N:=some 2) (v:=?_) (a' := ?_) #[true,true,true,true,true,true,true,true,true,true,true,true,true,true,true,true] rfl rfl (any_of HT_.out (by kernel_rfl)) (fun _ _ _ h => h) (Or.inl ⟨by rfl, ?_⟩) ?_ ?_
     rotate_left
     ·intro w'
      go_simp
      with_reducible rfl
     rotate_left
     ·simp only [Act.put, zSa, zSb, zSc, i64_w, i32_w]
      rfl
     refine done_ (done_of HT_.out (by kernel_rfl)) ?_
     try go_wp2
     go_ret
     exact ⟨by first | rfl | (simp [errW_none, errW_some] <;> rfl) | (simp [*, errW_none, errW_some] <;> rfl), by exact uT HB.out⟩
    ·replace c13 := Bool.eq_false_iff.mpr c13
     subst c13
     replace H : (some false) = some r := by rw [if_neg (show ¬ (false = true) by decide)] at H; exact H
     exact absurd ((zOi H).trans HRT.out) (by decide)
   ·replace c9 := Bool.eq_false_iff.mpr c9
    subst c9
    replace H : (some false) = some r := by rw [if_neg (show ¬ (false = true) by decide)] at H; exact H
    exact absurd ((zOi H).trans HRT.out) (by decide)
  ·rw [if_neg c5] at H
   have c5b0 : (t554 == 0) = false := beq_eq_false_iff_ne.mpr c5
   have c5b1 : (t554 != 0) = true := bne_iff_ne.mpr c5
   replace H := bnd H
   obtain ⟨t555, A540, H⟩ := H
   have A54 := zMk A540
   clear A540
   replace H := bnd H
   obtain ⟨t558, A550, H⟩ := H
   have A55 := zMk A550
   clear A550
   by_cases c56 : (wrap64 ((t555.length : Int) + (t558.length : Int))) = 0
   ·rw [if_pos c56] at H
    have c56b0 : ((wrap64 ((t555.length : Int) + (t558.length : Int))) == 0) = true := beq_iff_eq.mpr c56
    have c56b1 : ((wrap64 ((t555.length : Int) + (t558.length : Int))) != 0) = false := bne_eq_false_iff_eq.mpr c56
    clear c56
    replace H := bnd H
    obtain ⟨t561, A570, H⟩ := H
    have A57 := zMk A570
    clear A570
    obtain rfl := zOi H
    go_enter Try.func4, Try.ntmps4
    try go_wp2_with (first | ((with_reducible refine gate_dst (N:=1) rfl ?_); refine box_event ?hg (N:=1) ?hd (cs:=#[.int .i64 a0_0, .slice A0_1 l0_1.length c0_1]) (t:=24) ?hr ?_; (case hd => rfl); (case hg => rfl); (case hr => first | (go_simp; done)|(go_simp; rfl)|(go_simp; rw [show ∀ x : Int, IntKind.u32.wrap (IntKind.u8.wrap x) = x % 256 from fun x => (by show (x % 256) % 4294967296 = x % 256; omega)])); intro gb551 hg w58 hbox hb; have BK551 := zMk (hbox); have GW551 := zMk ((by rw [hg]; exact (zBs (by exact uT HB.out)) : w.heap.size ≤ gb551)); have GE551 := zMk ((by rw [hg]; exact (zBs (by exact uT HB.out)) : w.heap.size ≤ gb551)); have IGE551 := ownGe GE551.out; replace HB := zMk (zBt (by exact uT HB.out) hb); clear hb hbox hg; have hcz59_0 : w58.cell? ⟨gb551, 0, none⟩ = some (.int .i64 a0_0) := (zKc BK551.out 0).trans rfl; have hcz59_1 : w58.cell? ⟨gb551, 1, none⟩ = some (.slice A0_1 l0_1.length c0_1) := (zKc BK551.out 1).trans rfl; have hfz59_0 := zKf BK551.out 0; have hfz59_1 := zKf BK551.out 1)|((with_reducible refine gate_callee (f:=8) rfl ?_); refine goesL_ (some 4) rfl rfl Try.func8 (by kernel_rfl) rfl #[.agg #[.int .i64 a0_0, .slice A0_1 l0_1.length c0_1], .int .i64 25] rfl (by (try simp only [zMa, zMc, zMn]); first |  done|  rfl|  (simp only [zLd, zLt]; rfl)) ?_; (with_reducible refine (w4_Light.calls a0_0 _ _ l0_1 25 true _ ?side1 ?side2 A2.out).mono ?_); (case side1 => repeat (first |  exact (Kd.C_below HR0_1.out HB.out)|(with_reducible refine zCa ?_ _)|(with_reducible refine zCn ?_ _)|(with_reducible refine zCd ?_))); (case side2 => exact HC0_1.out); rintro e w60 ⟨rfl, hb⟩; refine ⟨_, rfl, ?_⟩; replace BK551 := zMk (zKb (g:=gb551) (o:=.cells #[.int .i64 a0_0, .slice A0_1 l0_1.length c0_1] 24 (0, 0)) (by (with_reducible repeat (first |  refine zKn ?_ _|  refine zKd ?_|  refine zKa ?_ _)); exact BK551.out) hb); replace HB := zMk (zBt (by exact uT HB.out) hb); have hcz61_0 : w60.cell? ⟨gb551, 0, none⟩ = some (.int .i64 a0_0) := (zKc BK551.out 0).trans rfl; have hcz61_1 : w60.cell? ⟨gb551, 1, none⟩ = some (.slice A0_1 l0_1.length c0_1) := (zKc BK551.out 1).trans rfl; have hfz61_0 := zKf BK551.out 0; have hfz61_1 := zKf BK551.out 1)|((with_reducible refine gate_callee (f:=10) rfl ?_); refine goesL_ (some 8) rfl rfl Try.func10 (by kernel_rfl) rfl #[.agg #[.int .i64 a0_0, .slice A0_1 l0_1.length c0_1]] rfl (by (try simp only [zMa, zMc, zMn]); first |  done|  rfl|  (simp only [zLd, zLt]; rfl)) ?_; (with_reducible refine (r4_Right.calls k a0_0 _ _ l0_1 t554 _ ?side1 ?side2 A4.out).mono ?_); (case side1 => repeat (first |  exact (Kd.C_below HR0_1.out HB.out)|(with_reducible refine zCa ?_ _)|(with_reducible refine zCn ?_ _)|(with_reducible refine zCd ?_))); (case side2 => exact HC0_1.out); rintro e w62 ⟨rfl, hb⟩; refine ⟨_, rfl, ?_⟩; replace BK551 := zMk (zKb (g:=gb551) (o:=.cells #[.int .i64 a0_0, .slice A0_1 l0_1.length c0_1] 24 (0, 0)) (by (with_reducible repeat (first |  refine zKn ?_ _|  refine zKd ?_|  refine zKa ?_ _)); exact BK551.out) hb); replace HB := zMk (zBt (by exact uT HB.out) hb)))
    replace BK551 := zMk (zKd BK551.out)
    replace HB := zMk (zBd HB.out)
    refine start_ (n:=12) (S:=fun w' => w'.cell? ⟨gb551, 0, none⟩ = some (.int .i64 a0_0) ∧ w'.cell? ⟨gb551, 1, none⟩ = some (.slice A0_1 l0_1.length c0_1)) (ds:=[]) #[false,false,false,false,false,false,false,false,false,false,false,false] (by kernel_rfl) rfl rfl ⟨(zKc BK551.out 0).trans rfl, (zKc BK551.out 1).trans rfl⟩ (fun hHeld => ?_); refine with_tabW w6_PartsCuts.tab4 w6_PartsCuts.bits4 (fun HT_ HW_ => ?_)
    generalize w62.drew = w63 at BK551 HB hHeld ⊢
    refine take_ (i:=0) (N:=some 10) (v:=?_) (a' := ?_) #[true,false,false,false,false,false,false,false,false,false,false,false] rfl rfl (take_ofW HT_.out HW_.out (by kernel_rfl)) (fun _ _ _ h => h) (Or.inl ⟨by rfl, ?_⟩) hHeld ?_ ?_
    rotate_left
    ·rintro w' ⟨s0, s1⟩
     go_simp
     with_reducible rfl
    rotate_left
    ·simp only [Act.put, zSa, zSb, zSc, i64_w, i32_w]
     rfl
    refine take_ (i:=3) (N:=some 13) (v:=?_) (a' := ?_) #[true,false,false,true,false,false,false,false,false,false,false,false] rfl rfl (take_ofW HT_.out HW_.out (by kernel_rfl)) (fun _ _ _ h => h) (Or.inl ⟨by rfl, ?_⟩) hHeld ?_ ?_
    rotate_left
    ·rintro w' ⟨s0, s1⟩
     go_simp
     with_reducible rfl
    rotate_left
    ·simp only [Act.put, zSa, zSb, zSc, i64_w, i32_w]
     rfl
    refine one_ (i:=1) (N:=some 11) #[true,true,false,true,false,false,false,false,false,false,false,false] rfl rfl (one_of HT_.out (by kernel_rfl)) (by decide) (fun K hK => ?_)
    refine goes_ Try.func14 (by kernel_rfl) rfl #[.agg #[.int .i64 a0_0, .slice A0_1 l0_1.length c0_1]] (by rfl) rfl rfl (by (try simp only [zMa, zMc, zMn]); first | done | rfl | (simp only [zLd, zLt]; rfl)) ?_
    with_reducible refine (parts_Cuts.calls k a0_0 _ _ l0_1 t555 _ ?side1 ?side2 A54.out).mono ?_
    (case side1 => repeat (first | exact (Kd.C_below HR0_1.out HB.out) | (with_reducible refine zCa ?_ _) | (with_reducible refine zCn ?_ _) | (with_reducible refine zCd ?_)))
    (case side2 => exact HC0_1.out)
    rintro e w64 ⟨v556, rfl, ho0, hb⟩
    refine ⟨_, rfl, ?_⟩
    have HO557 := zMk (zRl ho0 (zBs (by exact uT HB.out)))
    replace BK551 := zMk (zKb (g:=gb551) (o:=.cells #[.int .i64 a0_0, .slice A0_1 l0_1.length c0_1] 24 (0, 0)) (by (with_reducible repeat (first | refine zKn ?_ _ | refine zKd ?_ | refine zKa ?_ _)); exact BK551.out) hb)
    replace HB := zMk (zBt (by exact uT HB.out) hb)
    obtain ⟨Ao65, co65, eo65⟩ := zRs HO557.out
    (first |  subst eo65|  (injection eo65 with f1_ f2_ f3_; have f4_ := f1_.symm; have f5_ := f3_.symm; clear f1_ f2_ f3_; subst f4_; subst f5_))
    refine hK.out _ _ ⟨(zKc BK551.out 0).trans rfl, (zKc BK551.out 1).trans rfl⟩ (fun hHeld => ?_)
    clear hK K
    refine norm_ (a' := ?_) ?_ ?_
    rotate_left
    ·show Act.put _ (some 11) _ = _
     simp only [Act.put, zSa, zSb, zSc, i64_w, i32_w]
     rfl
    refine pure_ (i:=2) (N:=some 12) (v:=?_) (a' := ?_) #[true,true,true,true,false,false,false,false,false,false,false,false] rfl rfl (any_of HT_.out (by kernel_rfl)) (fun _ _ _ h => h) (Or.inl ⟨by rfl, ?_⟩) ?_ ?_
    rotate_left
    ·intro w'
     go_simp
     with_reducible rfl
    rotate_left
    ·simp only [Act.put, zSa, zSb, zSc, i64_w, i32_w]
     rfl
    refine one_ (i:=4) (N:=some 14) #[true,true,true,true,true,false,false,false,false,false,false,false] rfl rfl (one_of HT_.out (by kernel_rfl)) (by decide) (fun K hK => ?_)
    refine goes_ Try.func15 (by kernel_rfl) rfl #[.agg #[.int .i64 a0_0, .slice A0_1 l0_1.length c0_1]] (by rfl) rfl rfl (by (try simp only [zMa, zMc, zMn]); first | done | rfl | (simp only [zLd, zLt]; rfl)) ?_
    with_reducible refine (parts_Bridges.calls k a0_0 _ _ l0_1 t558 _ ?side1 ?side2 A55.out).mono ?_
    (case side1 => repeat (first | exact (Kd.C_below HR0_1.out HB.out) | (with_reducible refine zCa ?_ _) | (with_reducible refine zCn ?_ _) | (with_reducible refine zCd ?_)))
    (case side2 => exact HC0_1.out)
    rintro e w66 ⟨v559, rfl, ho0, hb⟩
    refine ⟨_, rfl, ?_⟩
    have HO560 := zMk (zRl (zRw ho0 (zRt (by exact uR HO557.out))) (zBs (by exact uT HB.out)))
    replace HO557 := zMk (zRe (by exact uR HO557.out) (zRz ho0) hb)
    replace BK551 := zMk (zKb (g:=gb551) (o:=.cells #[.int .i64 a0_0, .slice A0_1 l0_1.length c0_1] 24 (0, 0)) (by (with_reducible repeat (first | refine zKn ?_ _ | refine zKd ?_ | refine zKa ?_ _)); exact BK551.out) hb)
    replace HB := zMk (zBt (by exact uT HB.out) hb)
    obtain ⟨Ao67, co67, eo67⟩ := zRs HO560.out
    (first |  subst eo67|  (injection eo67 with f1_ f2_ f3_; have f4_ := f1_.symm; have f5_ := f3_.symm; clear f1_ f2_ f3_; subst f4_; subst f5_))
    refine hK.out _ _ ⟨(zKc BK551.out 0).trans rfl, (zKc BK551.out 1).trans rfl⟩ (fun hHeld => ?_)
    clear hK K
    refine norm_ (a' := ?_) ?_ ?_
    rotate_left
    ·show Act.put _ (some 14) _ = _
     simp only [Act.put, zSa, zSb, zSc, i64_w, i32_w]
     rfl
    refine pure_ (i:=5) (N:=some 15) (v:=?_) (a' := ?_) #[true,true,true,true,true,true,false,false,false,false,false,false] rfl rfl (any_of HT_.out (by kernel_rfl)) (fun _ _ _ h => h) (Or.inl ⟨by rfl, ?_⟩) ?_ ?_
    rotate_left
    ·intro w'
     go_simp
     with_reducible rfl
    rotate_left
    ·simp only [Act.put, zSa, zSb, zSc, i64_w, i32_w]
     rfl
    refine pure_ (i:=6) (N:=some 16) (v:=?_) (a' := ?_) #[true,true,true,true,true,true,true,false,false,false,false,false] rfl rfl (any_of HT_.out (by kernel_rfl)) (fun _ _ _ h => h) (Or.inl ⟨by rfl, ?_⟩) ?_ ?_
    rotate_left
    ·intro w'
     go_simp
     with_reducible rfl
    rotate_left
    ·simp only [Act.put, zSa, zSb, zSc, i64_w, i32_w]
     rfl
    refine pure_ (i:=7) (N:=some 17) (v:=?_) (a' := ?_) #[true,true,true,true,true,true,true,true,false,false,false,false] rfl rfl (any_of HT_.out (by kernel_rfl)) (fun _ _ _ h => h) (Or.inl ⟨by rfl, ?_⟩) ?_ ?_
    rotate_left
    ·intro w'
     go_simp
     with_reducible rfl
    rotate_left
    ·simp only [Act.put, zSa, zSb, zSc, i64_w, i32_w]
     rfl
    refine pure_ (i:=8) (N:=some 18) (v:=?_) (a' := ?_) #[true,true,true,true,true,true,true,true,true,false,false,false] rfl rfl (any_of HT_.out (by kernel_rfl)) (fun _ _ _ h => h) (Or.inl ⟨by rfl, ?_⟩) ?_ ?_
    rotate_left
    ·intro w'
     go_simp
     with_reducible rfl
    rotate_left
    ·simp only [Act.put, zSa, zSb, zSc, i64_w, i32_w]
     rfl
    refine one_ (i:=9) (N:=some 19) #[true,true,true,true,true,true,true,true,true,true,false,false] rfl rfl (one_of HT_.out (by kernel_rfl)) (by decide) (fun K hK => ?_)
    refine goes_ Try.func9 (by kernel_rfl) rfl #[] (by rfl) rfl rfl (by (try simp only [zMa, zMc, zMn]); first | done | rfl | (simp only [zLd, zLt]; rfl)) ?_
    with_reducible refine (w6_alive.calls k  t561 _ A57.out).mono ?_
    rintro e w68 ⟨rfl, hb⟩
    refine ⟨_, rfl, ?_⟩
    replace HO557 := zMk (zRb (by exact uR HO557.out) hb)
    replace HO560 := zMk (zRb (by exact uR HO560.out) hb)
    replace BK551 := zMk (zKb (g:=gb551) (o:=.cells #[.int .i64 a0_0, .slice A0_1 l0_1.length c0_1] 24 (0, 0)) (by (with_reducible repeat (first | refine zKn ?_ _ | refine zKd ?_ | refine zKa ?_ _)); exact BK551.out) hb)
    replace HB := zMk (zBt (by exact uT HB.out) hb)
    refine hK.out _ _ ⟨(zKc BK551.out 0).trans rfl, (zKc BK551.out 1).trans rfl⟩ (fun hHeld => ?_)
    clear hK K
    refine norm_ (a' := ?_) ?_ ?_
    rotate_left
    ·show Act.put _ (some 19) _ = _
     simp only [Act.put, zSa, zSb, zSc, i64_w, i32_w]
     rfl
    refine pure_ (i:=10) (N:=some 20) (v:=?_) (a' := ?_) #[true,true,true,true,true,true,true,true,true,true,true,false] rfl rfl (any_of HT_.out (by kernel_rfl)) (fun _ _ _ h => h) (Or.inl ⟨by rfl, ?_⟩) ?_ ?_
    rotate_left
    ·intro w'
     go_simp
     with_reducible rfl
    rotate_left
    ·simp only [Act.put, zSa, zSb, zSc, i64_w, i32_w]
     rfl
    refine pure_ (i:=11) (N:=some 2) (v:=?_) (a' := ?_) #[true,true,true,true,true,true,true,true,true,true,true,true] rfl rfl (any_of HT_.out (by kernel_rfl)) (fun _ _ _ h => h) (Or.inl ⟨by rfl, ?_⟩) ?_ ?_
    rotate_left
    ·intro w'
     go_simp
     with_reducible rfl
    rotate_left
    ·simp only [Act.put, zSa, zSb, zSc, i64_w, i32_w]
     rfl
    refine done_ (done_of HT_.out (by kernel_rfl)) ?_
    try go_wp2
    go_ret
    exact ⟨by first | rfl | (simp [errW_none, errW_some] <;> rfl) | (simp [*, errW_none, errW_some] <;> rfl), by exact uT HB.out⟩
   ·rw [if_neg c56] at H
    have c56b0 : ((wrap64 ((t555.length : Int) + (t558.length : Int))) == 0) = false := beq_eq_false_iff_ne.mpr c56
    have c56b1 : ((wrap64 ((t555.length : Int) + (t558.length : Int))) != 0) = true := bne_iff_ne.mpr c56
    obtain rfl := zOi H
    go_enter Try.func4, Try.ntmps4
    try go_wp2_with (first | ((with_reducible refine gate_dst (N:=1) rfl ?_); refine box_event ?hg (N:=1) ?hd (cs:=#[.int .i64 a0_0, .slice A0_1 l0_1.length c0_1]) (t:=24) ?hr ?_; (case hd => rfl); (case hg => rfl); (case hr => first | (go_simp; done)|(go_simp; rfl)|(go_simp; rw [show ∀ x : Int, IntKind.u32.wrap (IntKind.u8.wrap x) = x % 256 from fun x => (by show (x % 256) % 4294967296 = x % 256; omega)])); intro gb551 hg w69 hbox hb; have BK551 := zMk (hbox); have GW551 := zMk ((by rw [hg]; exact (zBs (by exact uT HB.out)) : w.heap.size ≤ gb551)); have GE551 := zMk ((by rw [hg]; exact (zBs (by exact uT HB.out)) : w.heap.size ≤ gb551)); have IGE551 := ownGe GE551.out; replace HB := zMk (zBt (by exact uT HB.out) hb); clear hb hbox hg; have hcz70_0 : w69.cell? ⟨gb551, 0, none⟩ = some (.int .i64 a0_0) := (zKc BK551.out 0).trans rfl; have hcz70_1 : w69.cell? ⟨gb551, 1, none⟩ = some (.slice A0_1 l0_1.length c0_1) := (zKc BK551.out 1).trans rfl; have hfz70_0 := zKf BK551.out 0; have hfz70_1 := zKf BK551.out 1)|((with_reducible refine gate_callee (f:=8) rfl ?_); refine goesL_ (some 4) rfl rfl Try.func8 (by kernel_rfl) rfl #[.agg #[.int .i64 a0_0, .slice A0_1 l0_1.length c0_1], .int .i64 25] rfl (by (try simp only [zMa, zMc, zMn]); first |  done|  rfl|  (simp only [zLd, zLt]; rfl)) ?_; (with_reducible refine (w4_Light.calls a0_0 _ _ l0_1 25 true _ ?side1 ?side2 A2.out).mono ?_); (case side1 => repeat (first |  exact (Kd.C_below HR0_1.out HB.out)|(with_reducible refine zCa ?_ _)|(with_reducible refine zCn ?_ _)|(with_reducible refine zCd ?_))); (case side2 => exact HC0_1.out); rintro e w71 ⟨rfl, hb⟩; refine ⟨_, rfl, ?_⟩; replace BK551 := zMk (zKb (g:=gb551) (o:=.cells #[.int .i64 a0_0, .slice A0_1 l0_1.length c0_1] 24 (0, 0)) (by (with_reducible repeat (first |  refine zKn ?_ _|  refine zKd ?_|  refine zKa ?_ _)); exact BK551.out) hb); replace HB := zMk (zBt (by exact uT HB.out) hb); have hcz72_0 : w71.cell? ⟨gb551, 0, none⟩ = some (.int .i64 a0_0) := (zKc BK551.out 0).trans rfl; have hcz72_1 : w71.cell? ⟨gb551, 1, none⟩ = some (.slice A0_1 l0_1.length c0_1) := (zKc BK551.out 1).trans rfl; have hfz72_0 := zKf BK551.out 0; have hfz72_1 := zKf BK551.out 1)|((with_reducible refine gate_callee (f:=10) rfl ?_); refine goesL_ (some 8) rfl rfl Try.func10 (by kernel_rfl) rfl #[.agg #[.int .i64 a0_0, .slice A0_1 l0_1.length c0_1]] rfl (by (try simp only [zMa, zMc, zMn]); first |  done|  rfl|  (simp only [zLd, zLt]; rfl)) ?_; (with_reducible refine (r4_Right.calls k a0_0 _ _ l0_1 t554 _ ?side1 ?side2 A4.out).mono ?_); (case side1 => repeat (first |  exact (Kd.C_below HR0_1.out HB.out)|(with_reducible refine zCa ?_ _)|(with_reducible refine zCn ?_ _)|(with_reducible refine zCd ?_))); (case side2 => exact HC0_1.out); rintro e w73 ⟨rfl, hb⟩; refine ⟨_, rfl, ?_⟩; replace BK551 := zMk (zKb (g:=gb551) (o:=.cells #[.int .i64 a0_0, .slice A0_1 l0_1.length c0_1] 24 (0, 0)) (by (with_reducible repeat (first |  refine zKn ?_ _|  refine zKd ?_|  refine zKa ?_ _)); exact BK551.out) hb); replace HB := zMk (zBt (by exact uT HB.out) hb)))
    replace BK551 := zMk (zKd BK551.out)
    replace HB := zMk (zBd HB.out)
    refine start_ (n:=12) (S:=fun w' => w'.cell? ⟨gb551, 0, none⟩ = some (.int .i64 a0_0) ∧ w'.cell? ⟨gb551, 1, none⟩ = some (.slice A0_1 l0_1.length c0_1)) (ds:=[]) #[false,false,false,false,false,false,false,false,false,false,false,false] (by kernel_rfl) rfl rfl ⟨(zKc BK551.out 0).trans rfl, (zKc BK551.out 1).trans rfl⟩ (fun hHeld => ?_); refine with_tabW w6_PartsCuts.tab4 w6_PartsCuts.bits4 (fun HT_ HW_ => ?_)
    generalize w73.drew = w74 at BK551 HB hHeld ⊢
    refine take_ (i:=0) (N:=some 10) (v:=?_) (a' := ?_) #[true,false,false,false,false,false,false,false,false,false,false,false] rfl rfl (take_ofW HT_.out HW_.out (by kernel_rfl)) (fun _ _ _ h => h) (Or.inl ⟨by rfl, ?_⟩) hHeld ?_ ?_
    rotate_left
    ·rintro w' ⟨s0, s1⟩
     go_simp
     with_reducible rfl
    rotate_left
    ·simp only [Act.put, zSa, zSb, zSc, i64_w, i32_w]
     rfl
    refine take_ (i:=3) (N:=some 13) (v:=?_) (a' := ?_) #[true,false,false,true,false,false,false,false,false,false,false,false] rfl rfl (take_ofW HT_.out HW_.out (by kernel_rfl)) (fun _ _ _ h => h) (Or.inl ⟨by rfl, ?_⟩) hHeld ?_ ?_
    rotate_left
    ·rintro w' ⟨s0, s1⟩
     go_simp
     with_reducible rfl
    rotate_left
    ·simp only [Act.put, zSa, zSb, zSc, i64_w, i32_w]
     rfl
    refine one_ (i:=1) (N:=some 11) #[true,true,false,true,false,false,false,false,false,false,false,false] rfl rfl (one_of HT_.out (by kernel_rfl)) (by decide) (fun K hK => ?_)
    refine goes_ Try.func14 (by kernel_rfl) rfl #[.agg #[.int .i64 a0_0, .slice A0_1 l0_1.length c0_1]] (by rfl) rfl rfl (by (try simp only [zMa, zMc, zMn]); first | done | rfl | (simp only [zLd, zLt]; rfl)) ?_
    with_reducible refine (parts_Cuts.calls k a0_0 _ _ l0_1 t555 _ ?side1 ?side2 A54.out).mono ?_
    (case side1 => repeat (first | exact (Kd.C_below HR0_1.out HB.out) | (with_reducible refine zCa ?_ _) | (with_reducible refine zCn ?_ _) | (with_reducible refine zCd ?_)))
    (case side2 => exact HC0_1.out)
    rintro e w75 ⟨v556, rfl, ho0, hb⟩
    refine ⟨_, rfl, ?_⟩
    have HO557 := zMk (zRl ho0 (zBs (by exact uT HB.out)))
    replace BK551 := zMk (zKb (g:=gb551) (o:=.cells #[.int .i64 a0_0, .slice A0_1 l0_1.length c0_1] 24 (0, 0)) (by (with_reducible repeat (first | refine zKn ?_ _ | refine zKd ?_ | refine zKa ?_ _)); exact BK551.out) hb)
    replace HB := zMk (zBt (by exact uT HB.out) hb)
    obtain ⟨Ao76, co76, eo76⟩ := zRs HO557.out
    (first |  subst eo76|  (injection eo76 with f1_ f2_ f3_; have f4_ := f1_.symm; have f5_ := f3_.symm; clear f1_ f2_ f3_; subst f4_; subst f5_))
    refine hK.out _ _ ⟨(zKc BK551.out 0).trans rfl, (zKc BK551.out 1).trans rfl⟩ (fun hHeld => ?_)
    clear hK K
    refine norm_ (a' := ?_) ?_ ?_
    rotate_left
    ·show Act.put _ (some 11) _ = _
     simp only [Act.put, zSa, zSb, zSc, i64_w, i32_w]
     rfl
    refine pure_ (i:=2) (N:=some 12) (v:=?_) (a' := ?_) #[true,true,true,true,false,false,false,false,false,false,false,false] rfl rfl (any_of HT_.out (by kernel_rfl)) (fun _ _ _ h => h) (Or.inl ⟨by rfl, ?_⟩) ?_ ?_
    rotate_left
    ·intro w'
     go_simp
     with_reducible rfl
    rotate_left
    ·simp only [Act.put, zSa, zSb, zSc, i64_w, i32_w]
     rfl
    refine one_ (i:=4) (N:=some 14) #[true,true,true,true,true,false,false,false,false,false,false,false] rfl rfl (one_of HT_.out (by kernel_rfl)) (by decide) (fun K hK => ?_)
    refine goes_ Try.func15 (by kernel_rfl) rfl #[.agg #[.int .i64 a0_0, .slice A0_1 l0_1.length c0_1]] (by rfl) rfl rfl (by (try simp only [zMa, zMc, zMn]); first | done | rfl | (simp only [zLd, zLt]; rfl)) ?_
    with_reducible refine (parts_Bridges.calls k a0_0 _ _ l0_1 t558 _ ?side1 ?side2 A55.out).mono ?_
    (case side1 => repeat (first | exact (Kd.C_below HR0_1.out HB.out) | (with_reducible refine zCa ?_ _) | (with_reducible refine zCn ?_ _) | (with_reducible refine zCd ?_)))
    (case side2 => exact HC0_1.out)
    rintro e w77 ⟨v559, rfl, ho0, hb⟩
    refine ⟨_, rfl, ?_⟩
    have HO560 := zMk (zRl (zRw ho0 (zRt (by exact uR HO557.out))) (zBs (by exact uT HB.out)))
    replace HO557 := zMk (zRe (by exact uR HO557.out) (zRz ho0) hb)
    replace BK551 := zMk (zKb (g:=gb551) (o:=.cells #[.int .i64 a0_0, .slice A0_1 l0_1.length c0_1] 24 (0, 0)) (by (with_reducible repeat (first | refine zKn ?_ _ | refine zKd ?_ | refine zKa ?_ _)); exact BK551.out) hb)
    replace HB := zMk (zBt (by exact uT HB.out) hb)
    obtain ⟨Ao78, co78, eo78⟩ := zRs HO560.out
    (first |  subst eo78|  (injection eo78 with f1_ f2_ f3_; have f4_ := f1_.symm; have f5_ := f3_.symm; clear f1_ f2_ f3_; subst f4_; subst f5_))
    refine hK.out _ _ ⟨(zKc BK551.out 0).trans rfl, (zKc BK551.out 1).trans rfl⟩ (fun hHeld => ?_)
    clear hK K
    refine norm_ (a' := ?_) ?_ ?_
    rotate_left
    ·show Act.put _ (some 14) _ = _
     simp only [Act.put, zSa, zSb, zSc, i64_w, i32_w]
     rfl
    refine pure_ (i:=5) (N:=some 15) (v:=?_) (a' := ?_) #[true,true,true,true,true,true,false,false,false,false,false,false] rfl rfl (any_of HT_.out (by kernel_rfl)) (fun _ _ _ h => h) (Or.inl ⟨by rfl, ?_⟩) ?_ ?_
    rotate_left
    ·intro w'
     go_simp
     with_reducible rfl
    rotate_left
    ·simp only [Act.put, zSa, zSb, zSc, i64_w, i32_w]
     rfl
    refine pure_ (i:=6) (N:=some 16) (v:=?_) (a' := ?_) #[true,true,true,true,true,true,true,false,false,false,false,false] rfl rfl (any_of HT_.out (by kernel_rfl)) (fun _ _ _ h => h) (Or.inl ⟨by rfl, ?_⟩) ?_ ?_
    rotate_left
    ·intro w'
     go_simp
     with_reducible rfl
    rotate_left
    ·simp only [Act.put, zSa, zSb, zSc, i64_w, i32_w]
     rfl
    refine pure_ (i:=7) (N:=some 17) (v:=?_) (a' := ?_) #[true,true,true,true,true,true,true,true,false,false,false,false] rfl rfl (any_of HT_.out (by kernel_rfl)) (fun _ _ _ h => h) (Or.inl ⟨by rfl, ?_⟩) ?_ ?_
    rotate_left
    ·intro w'
     go_simp
     with_reducible rfl
    rotate_left
    ·simp only [Act.put, zSa, zSb, zSc, i64_w, i32_w]
     rfl
    refine pure_ (i:=8) (N:=some 18) (v:=?_) (a' := ?_) #[true,true,true,true,true,true,true,true,true,false,false,false] rfl rfl (any_of HT_.out (by kernel_rfl)) (fun _ _ _ h => h) (Or.inl ⟨by rfl, ?_⟩) ?_ ?_
    rotate_left
    ·intro w'
     go_simp
     with_reducible rfl
    rotate_left
    ·simp only [Act.put, zSa, zSb, zSc, i64_w, i32_w]
     rfl
    refine pure_ (i:=9) (N:=some 19) (v:=undef) (a' := ?_) #[true,true,true,true,true,true,true,true,true,true,false,false] rfl rfl (any_of HT_.out (by kernel_rfl)) (fun _ _ _ h => h) (Or.inr ⟨by rfl, rfl⟩) ?_ ?_
    rotate_left
    ·simp only [Act.put, zSa, zSb, zSc, i64_w, i32_w]
     rfl
    refine pure_ (i:=10) (N:=some 20) (v:=?_) (a' := ?_) #[true,true,true,true,true,true,true,true,true,true,true,false] rfl rfl (any_of HT_.out (by kernel_rfl)) (fun _ _ _ h => h) (Or.inl ⟨by rfl, ?_⟩) ?_ ?_
    rotate_left
    ·intro w'
     go_simp
     with_reducible rfl
    rotate_left
    ·simp only [Act.put, zSa, zSb, zSc, i64_w, i32_w]
     rfl
    refine pure_ (i:=11) (N:=some 2) (v:=?_) (a' := ?_) #[true,true,true,true,true,true,true,true,true,true,true,true] rfl rfl (any_of HT_.out (by kernel_rfl)) (fun _ _ _ h => h) (Or.inl ⟨by rfl, ?_⟩) ?_ ?_
    rotate_left
    ·intro w'
     go_simp
     with_reducible rfl
    rotate_left
    ·simp only [Act.put, zSa, zSb, zSc, i64_w, i32_w]
     rfl
    refine done_ (done_of HT_.out (by kernel_rfl)) ?_
    try go_wp2
    go_ret
    exact ⟨by first | rfl | (simp [errW_none, errW_some] <;> rfl) | (simp [*, errW_none, errW_some] <;> rfl), by exact uT HB.out⟩
 ·replace c3 := Bool.eq_false_iff.mpr c3
  subst c3
  replace H : ((w6_alive.f k).bind fun t553 => (some t553)) = some r := by rw [if_neg (show ¬ (false = true) by decide)] at H; exact H
  replace H := bnd H
  obtain ⟨t553, A790, H⟩ := H
  have A79 := zMk A790
  clear A790
  obtain rfl := zOi H
  go_enter Try.func4, Try.ntmps4
  go_wp2_with (first | ((with_reducible refine gate_dst (N:=1) rfl ?_); refine box_event ?hg (N:=1) ?hd (cs:=#[.int .i64 a0_0, .slice A0_1 l0_1.length c0_1]) (t:=24) ?hr ?_; (case hd => rfl); (case hg => rfl); (case hr => first | (go_simp; done)|(go_simp; rfl)|(go_simp; rw [show ∀ x : Int, IntKind.u32.wrap (IntKind.u8.wrap x) = x % 256 from fun x => (by show (x % 256) % 4294967296 = x % 256; omega)])); intro gb551 hg w80 hbox hb; have BK551 := zMk (hbox); have GW551 := zMk ((by rw [hg]; exact (zBs (by exact uT HB.out)) : w.heap.size ≤ gb551)); have GE551 := zMk ((by rw [hg]; exact (zBs (by exact uT HB.out)) : w.heap.size ≤ gb551)); have IGE551 := ownGe GE551.out; replace HB := zMk (zBt (by exact uT HB.out) hb); clear hb hbox hg; have hcz81_0 : w80.cell? ⟨gb551, 0, none⟩ = some (.int .i64 a0_0) := (zKc BK551.out 0).trans rfl; have hcz81_1 : w80.cell? ⟨gb551, 1, none⟩ = some (.slice A0_1 l0_1.length c0_1) := (zKc BK551.out 1).trans rfl; have hfz81_0 := zKf BK551.out 0; have hfz81_1 := zKf BK551.out 1)|((with_reducible refine gate_callee (f:=8) rfl ?_); refine goesL_ (some 4) rfl rfl Try.func8 (by kernel_rfl) rfl #[.agg #[.int .i64 a0_0, .slice A0_1 l0_1.length c0_1], .int .i64 25] rfl (by (try simp only [zMa, zMc, zMn]); first |  done|  rfl|  (simp only [zLd, zLt]; rfl)) ?_; (with_reducible refine (w4_Light.calls a0_0 _ _ l0_1 25 false _ ?side1 ?side2 A2.out).mono ?_); (case side1 => repeat (first |  exact (Kd.C_below HR0_1.out HB.out)|(with_reducible refine zCa ?_ _)|(with_reducible refine zCn ?_ _)|(with_reducible refine zCd ?_))); (case side2 => exact HC0_1.out); rintro e w82 ⟨rfl, hb⟩; refine ⟨_, rfl, ?_⟩; replace BK551 := zMk (zKb (g:=gb551) (o:=.cells #[.int .i64 a0_0, .slice A0_1 l0_1.length c0_1] 24 (0, 0)) (by (with_reducible repeat (first |  refine zKn ?_ _|  refine zKd ?_|  refine zKa ?_ _)); exact BK551.out) hb); replace HB := zMk (zBt (by exact uT HB.out) hb))|((with_reducible refine gate_callee (f:=9) rfl ?_); refine goesL_ (some 6) rfl rfl Try.func9 (by kernel_rfl) rfl #[] rfl (by (try simp only [zMa, zMc, zMn]); first |  done|  rfl|  (simp only [zLd, zLt]; rfl)) ?_; (with_reducible refine (w6_alive.calls k  t553 _ A79.out).mono ?_); rintro e w83 ⟨rfl, hb⟩; refine ⟨_, rfl, ?_⟩; replace BK551 := zMk (zKb (g:=gb551) (o:=.cells #[.int .i64 a0_0, .slice A0_1 l0_1.length c0_1] 24 (0, 0)) (by (with_reducible repeat (first |  refine zKn ?_ _|  refine zKd ?_|  refine zKa ?_ _)); exact BK551.out) hb); replace HB := zMk (zBt (by exact uT HB.out) hb)))
  go_ret
  exact ⟨by first | rfl | (simp [errW_none, errW_some] <;> rfl) | (simp [*, errW_none, errW_some] <;> rfl), by exact uT HB.out⟩

def w6_PartsCuts.Pure : Prop := ∀ (a0_0 : Int) (l0_1 : List A.S43), (Lit.int .i64 a0_0).wf = true → l0_1.length ≤ maxLen → (∀ x ∈ l0_1, (Lit.int .i64 x.f0).wf = true ∧ (Lit.int .i64 x.f1).wf = true ∧ (Lit.int .i64 x.f2).wf = true) → ∃ k, w6_PartsCuts.f k a0_0 l0_1 = some true
theorem flat_len : ∀ bs : List (List Int), (∀ b ∈ bs, b ≠ []) → bs.length ≤ bs.flatten.length
 | [], _ => Nat.le_refl _
 | b :: bs, h => by
  have h3 := flat_len bs (fun b hb => h b (List.mem_cons_of_mem _ hb))
  have h4 : 0 < b.length := List.length_pos_iff.2 (h b (List.mem_cons_self ..))
  rw [List.flatten_cons, List.length_append, zLc]
  omega
theorem pure_PartsCuts : w6_PartsCuts.Pure := by
 intro n E _ _ _
 refine Ev.rounds (r:=true) ?_
 have hal : Ev (fun k => (w6_alive.f k).bind fun t => some t) true := Ev.bind alive_ev (f:=fun _ t => some t) (Ev.now _)
 have hl := light_eq n E 25 (by omega) (by omega)
 by_cases h1 : n ≤ 25 ∧ (E.length : Int) ≤ 4 * 25
 rotate_left
 ·rw [decide_eq_false h1] at hl
  refine Ev.congr (fun k => ?_) hal
  unfold w6_PartsCuts.f
  rw [hl, zOb, if_neg (by simp)]
 rw [decide_eq_true h1] at hl
 have hg : ∀ q, Ev (fun k => r4_Right.f k n E) q → Ev (fun k => if q = 0 then ((parts_Cuts.f k n E).bind fun t562 => (r6_Cuts.f k n E).bind fun t565 => (r4_Ints.f k t562 t565).bind fun t568 => if t568 = true then (parts_Bridges.f k n E).bind fun t569 => (r6_Bridges.f k n E).bind fun t572 => (r4_Ints.f k t569 t572).bind fun t575 => if t575 = true then (w6_alive.f k).bind fun t576 => some t576 else some false else some false) else ((parts_Cuts.f k n E).bind fun t555 => (parts_Bridges.f k n E).bind fun t558 => if (wrap64 ((t555.length : Int) + (t558.length : Int))) = 0 then (w6_alive.f k).bind fun t561 => some t561 else some false)) true → Ev (fun k => w6_PartsCuts.f k n E) true := fun q hq hx => by
  have key := Ev.bind hq (f:=fun k q => if q = 0 then ((parts_Cuts.f k n E).bind fun t562 => (r6_Cuts.f k n E).bind fun t565 => (r4_Ints.f k t562 t565).bind fun t568 => if t568 = true then (parts_Bridges.f k n E).bind fun t569 => (r6_Bridges.f k n E).bind fun t572 => (r4_Ints.f k t569 t572).bind fun t575 => if t575 = true then (w6_alive.f k).bind fun t576 => some t576 else some false else some false) else ((parts_Cuts.f k n E).bind fun t555 => (parts_Bridges.f k n E).bind fun t558 => if (wrap64 ((t555.length : Int) + (t558.length : Int))) = 0 then (w6_alive.f k).bind fun t561 => some t561 else some false)) hx
  refine Ev.congr (fun k => ?_) key
  unfold w6_PartsCuts.f
  rw [hl, zOb, if_pos rfl]
 refine hg (rightI n E) (refRight_ev n E) ?_
 by_cases hr : rightI n E = 0
 ·obtain ⟨N, rfl, h⟩ := right_of hr
  have hN1 := h.N1
  have hE1 := h.E1
  obtain ⟨s, hF, hp⟩ := progCuts_ev h hr
  obtain ⟨s2, hF2, hp2⟩ := progBlocks_ev h hr
  have hq := refCuts_ev h
  have hce : ((ups N).filter fun u => rdOf false s.cut u) = (ups N).filter fun v => decide ((rootsE N E).length + 2 ≤ (rootsE N (dropV E v)).length) := by
   refine List.filter_congr fun v hv => ?_
   rw [mem_ups] at hv
   have := cut_iff h hF hv.1 hv.2
   cases hb : rdOf false s.cut v with
   | true => exact (decide_eq_true (this.1 hb)).symm
   | false => exact (decide_eq_false fun hc => by rw [this.2 hc] at hb; cases hb).symm
  rw [hce] at hp
  have hbe := bridges_eq h hF2
  have hbl : s2.blocks.length ≤ 1000000000 := by
   have h5 := flat_len s2.blocks (fun b hb => (hF2.bl b hb).1)
   have h6 := List.Nodup.length_le_of_subset hF2.nd (l₂:=ups E.length) (fun x hx => by
    obtain ⟨b, hb, hxb⟩ := List.mem_flatten.1 hx
    exact mem_ups.2 (hF2.rng b hb x hxb))
   rw [ups_len] at h6
   omega
  have hp3 := progBridges_ev hp2 hbl
  rw [hbe] at hp3
  have hq3 := refBridges_ev h
  have hi1 := Ints_ev ((ups N).filter fun v => decide ((rootsE N E).length + 2 ≤ (rootsE N (dropV E v)).length)) (by
   have := List.length_filter_le (fun v => decide ((rootsE N E).length + 2 ≤ (rootsE N (dropV E v)).length)) (ups N)
   rw [ups_len] at this
   omega)
  have hi2 := Ints_ev ((ups E.length).filter (brE N E)) (by
   have := List.length_filter_le (brE N E) (ups E.length)
   rw [ups_len] at this
   omega)
  refine Ev.congr (fun k => by rw [if_pos hr]) ?_
  generalize ((ups N).filter fun v => decide ((rootsE N E).length + 2 ≤ (rootsE N (dropV E v)).length)) = L at *
  generalize (ups E.length).filter (brE N E) = B at *
  exact Ev.bind hp (f:=fun k t562 => (r6_Cuts.f k N E).bind fun t565 => (r4_Ints.f k t562 t565).bind fun t568 => if t568 = true then (parts_Bridges.f k N E).bind fun t569 => (r6_Bridges.f k N E).bind fun t572 => (r4_Ints.f k t569 t572).bind fun t575 => if t575 = true then (w6_alive.f k).bind fun t576 => some t576 else some false else some false)
   (Ev.bind hq (f:=fun k t565 => (r4_Ints.f k L t565).bind fun t568 => if t568 = true then (parts_Bridges.f k N E).bind fun t569 => (r6_Bridges.f k N E).bind fun t572 => (r4_Ints.f k t569 t572).bind fun t575 => if t575 = true then (w6_alive.f k).bind fun t576 => some t576 else some false else some false)
    (Ev.bind hi1 (f:=fun k t568 => if t568 = true then (parts_Bridges.f k N E).bind fun t569 => (r6_Bridges.f k N E).bind fun t572 => (r4_Ints.f k t569 t572).bind fun t575 => if t575 = true then (w6_alive.f k).bind fun t576 => some t576 else some false else some false)
     (Ev.congr (fun k => by rw [if_pos rfl]) (Ev.bind hp3 (f:=fun k t569 => (r6_Bridges.f k N E).bind fun t572 => (r4_Ints.f k t569 t572).bind fun t575 => if t575 = true then (w6_alive.f k).bind fun t576 => some t576 else some false)
      (Ev.bind hq3 (f:=fun k t572 => (r4_Ints.f k B t572).bind fun t575 => if t575 = true then (w6_alive.f k).bind fun t576 => some t576 else some false)
       (Ev.bind hi2 (f:=fun k t575 => if t575 = true then (w6_alive.f k).bind fun t576 => some t576 else some false)
        (Ev.congr (fun k => by rw [if_pos rfl]) hal)))))))
 ·refine Ev.congr (fun k => by rw [if_neg hr]) ?_
  exact Ev.bind (progCuts_bad hr) (f:=fun k t555 => (parts_Bridges.f k n E).bind fun t558 => if (wrap64 ((t555.length : Int) + (t558.length : Int))) = 0 then (w6_alive.f k).bind fun t561 => some t561 else some false)
   (Ev.bind (progBridges_ev (progBlocks_bad hr) (Nat.zero_le _)) (f:=fun k t558 => if (wrap64 ((([] : List Int).length : Int) + (t558.length : Int))) = 0 then (w6_alive.f k).bind fun t561 => some t561 else some false)
    (Ev.congr (fun k => if_pos (show wrap64 ((([] : List Int).length : Int) + ((brL []).length : Int)) = 0 from w64 (by simp [brL]) (by simp [brL]) |>.trans (by simp [brL]))) hal))
end Go.Proofs.Ytkiemlbobcklpaa.A
