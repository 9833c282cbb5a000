/- Lemmas for the statement: the walks of the functions that it reaches, and plain laws. -/
import Derived.Test.YtnjmnicgknggfaaDoorDm1
import Derived.Test.YtnjmnicgknggfaaDoorDm4
import Derived.KernelRfl
import Derived.Test.YtnjmnicgknggfaaDoorDm3
set_option linter.unusedVariables false
set_option linter.unusedSimpArgs false
set_option maxHeartbeats 8000000
set_option maxRecDepth 100000
namespace Go.Proofs.YtnjmnicgknggfaaDoor.D
open Go Go.RowKit Go.Proofs.YtnjmnicgknggfaaDoorW.PrintWords Go.Proofs.YtnjmnicgknggfaaDoorW.PrintLast Go.Proofs.YtnjmnicgknggfaaDoorW.PrintMore
attribute [local go_sem] max2_int min2_int max_two min_two max_three min_three max_four min_four
open Go.Proofs.YtnjmnicgknggfaaDoorW.PrintWords.Kd renaming R_alloc → zRa, R_drewN → zRn, R_drew → zRd, V_alloc → zVa, V_drewN → zVn, V_drew → zVd, V_below → zVb, C_alloc → zCa, C_drewN → zCn, C_drew → zCd, R_mono → zRm, V_mono → zVm, at_int → zAi, R_elder' → zRe, R_lower → zRl, R_new' → zRw, R_lt → zRt, R_below → zRb, R_base → zRz, R_reads' → zRr, R_slice → zRs, V_elder' → zVe, V_lower → zVl, V_slice → zVs, V_reads' → zVr
open Go.Proofs.YtnjmnicgknggfaaDoorW.PrintWords renaming pw_below_drewN → zBn, below_alloc → zBa, below_drew1 → zBd, below_size → zBs, below_step → zBt, blk_drewN → zKn, blk_drew → zKd, blk_alloc → zKa, blk_below → zKb, blk_cell → zKc, blk_frozen → zKf
open List renaming setIfInBounds_toArray → zSa, set_cons_zero → zSb, set_cons_succ → zSc, length_drop → zLd, length_take → zLt, map_toArray → zMa, map_cons → zMc, map_nil → zMn, length_cons → zLc, length_nil → zLn
open Go.Proofs.YtnjmnicgknggfaaDoorW.PrintWords.Aside0 renaming mk → zMk
open Option renaming bind_eq_some_iff → zBi, bind_some → zOb
open Option.some renaming inj → zOi
open Int renaming toNat_natCast → zTn

def filigreelaw02_alive.f (k : Nat)  : Option (Bool) := (integer_Of.f (-7)).bind fun bt385 => ((integer_Of.f 2).bind fun bt389 => ((integer_DivMod.f k bt385.1 bt385.2 bt389.1 bt389.2).bind fun bt393 => ((integer_Of.f (-8)).bind fun bt404 => ((integer_Of.f 2).bind fun bt408 => ((integer_Exact.f k bt404.1 bt404.2 bt408.1 bt408.2).bind fun bt412 => (if bt393.2.2.2.2 = 0 then (if bt412.2.2 = 0 then ((integer_Text.f k bt393.1 bt393.2.1).bind fun t418 => (if t418.toList = ([45, 52] : List UInt8) then ((integer_Text.f k bt393.2.2.1 bt393.2.2.2.1).bind fun t419 => (if t419.toList = ([49] : List UInt8) then ((integer_Text.f k bt412.1 bt412.2.1).bind fun t420 => (some (t420.toList == ([45, 52] : List UInt8)))) else (some false))) else (some false))) else (some false)) else (some false)))))))
theorem filigreelaw02_alive.calls (k : Nat)  (r : Bool) (w : World) (h : filigreelaw02_alive.f k  = some r) (hr_ : r = true) :
  Calls Tryd.prog 11 #[] w fun e w' => e = .returned (.bool r) ∧ Below w.heap.size w w' := by
 have HRT := zMk hr_
 clear hr_
 have hu24 := Tryd.underlying24
 have HB := zMk (Below.refl w.heap.size w)
 have H : ((integer_Of.f (-7)).bind fun bt385 => ((integer_Of.f 2).bind fun bt389 => ((integer_DivMod.f k bt385.1 bt385.2 bt389.1 bt389.2).bind fun bt393 => ((integer_Of.f (-8)).bind fun bt404 => ((integer_Of.f 2).bind fun bt408 => ((integer_Exact.f k bt404.1 bt404.2 bt408.1 bt408.2).bind fun bt412 => (if bt393.2.2.2.2 = 0 then (if bt412.2.2 = 0 then ((integer_Text.f k bt393.1 bt393.2.1).bind fun t418 => (if t418.toList = ([45, 52] : List UInt8) then ((integer_Text.f k bt393.2.2.1 bt393.2.2.2.1).bind fun t419 => (if t419.toList = ([49] : List UInt8) then ((integer_Text.f k bt412.1 bt412.2.1).bind fun t420 => (some (t420.toList == ([45, 52] : List UInt8)))) else (some false))) else (some false))) else (some false)) else (some false)))))))) = some r := h
 clear h
 replace H := bnd H
 obtain ⟨⟨t385, t386⟩, A10, H⟩ := H
 replace H : ((integer_Of.f 2).bind fun bt389 => ((integer_DivMod.f k t385 t386 bt389.1 bt389.2).bind fun bt393 => ((integer_Of.f (-8)).bind fun bt404 => ((integer_Of.f 2).bind fun bt408 => ((integer_Exact.f k bt404.1 bt404.2 bt408.1 bt408.2).bind fun bt412 => (if bt393.2.2.2.2 = 0 then (if bt412.2.2 = 0 then ((integer_Text.f k bt393.1 bt393.2.1).bind fun t418 => (if t418.toList = ([45, 52] : List UInt8) then ((integer_Text.f k bt393.2.2.1 bt393.2.2.2.1).bind fun t419 => (if t419.toList = ([49] : List UInt8) then ((integer_Text.f k bt412.1 bt412.2.1).bind fun t420 => (some (t420.toList == ([45, 52] : List UInt8)))) else (some false))) else (some false))) else (some false)) else (some false))))))) = some r := H
 have A1 := zMk A10
 clear A10
 replace H := bnd H
 obtain ⟨⟨t389, t390⟩, A20, H⟩ := H
 replace H : ((integer_DivMod.f k t385 t386 t389 t390).bind fun bt393 => ((integer_Of.f (-8)).bind fun bt404 => ((integer_Of.f 2).bind fun bt408 => ((integer_Exact.f k bt404.1 bt404.2 bt408.1 bt408.2).bind fun bt412 => (if bt393.2.2.2.2 = 0 then (if bt412.2.2 = 0 then ((integer_Text.f k bt393.1 bt393.2.1).bind fun t418 => (if t418.toList = ([45, 52] : List UInt8) then ((integer_Text.f k bt393.2.2.1 bt393.2.2.2.1).bind fun t419 => (if t419.toList = ([49] : List UInt8) then ((integer_Text.f k bt412.1 bt412.2.1).bind fun t420 => (some (t420.toList == ([45, 52] : List UInt8)))) else (some false))) else (some false))) else (some false)) else (some false)))))) = some r := H
 have A2 := zMk A20
 clear A20
 replace H := bnd H
 obtain ⟨⟨t393, t394, t397, t398, t401⟩, A30, H⟩ := H
 replace H : ((integer_Of.f (-8)).bind fun bt404 => ((integer_Of.f 2).bind fun bt408 => ((integer_Exact.f k bt404.1 bt404.2 bt408.1 bt408.2).bind fun bt412 => (if t401 = 0 then (if bt412.2.2 = 0 then ((integer_Text.f k t393 t394).bind fun t418 => (if t418.toList = ([45, 52] : List UInt8) then ((integer_Text.f k t397 t398).bind fun t419 => (if t419.toList = ([49] : List UInt8) then ((integer_Text.f k bt412.1 bt412.2.1).bind fun t420 => (some (t420.toList == ([45, 52] : List UInt8)))) else (some false))) else (some false))) else (some false)) else (some false))))) = some r := H
 have A3 := zMk A30
 clear A30
 replace H := bnd H
 obtain ⟨⟨t404, t405⟩, A40, H⟩ := H
 replace H : ((integer_Of.f 2).bind fun bt408 => ((integer_Exact.f k t404 t405 bt408.1 bt408.2).bind fun bt412 => (if t401 = 0 then (if bt412.2.2 = 0 then ((integer_Text.f k t393 t394).bind fun t418 => (if t418.toList = ([45, 52] : List UInt8) then ((integer_Text.f k t397 t398).bind fun t419 => (if t419.toList = ([49] : List UInt8) then ((integer_Text.f k bt412.1 bt412.2.1).bind fun t420 => (some (t420.toList == ([45, 52] : List UInt8)))) else (some false))) else (some false))) else (some false)) else (some false)))) = some r := H
 have A4 := zMk A40
 clear A40
 replace H := bnd H
 obtain ⟨⟨t408, t409⟩, A50, H⟩ := H
 replace H : ((integer_Exact.f k t404 t405 t408 t409).bind fun bt412 => (if t401 = 0 then (if bt412.2.2 = 0 then ((integer_Text.f k t393 t394).bind fun t418 => (if t418.toList = ([45, 52] : List UInt8) then ((integer_Text.f k t397 t398).bind fun t419 => (if t419.toList = ([49] : List UInt8) then ((integer_Text.f k bt412.1 bt412.2.1).bind fun t420 => (some (t420.toList == ([45, 52] : List UInt8)))) else (some false))) else (some false))) else (some false)) else (some false))) = some r := H
 have A5 := zMk A50
 clear A50
 replace H := bnd H
 obtain ⟨⟨t412, t413, t416⟩, A60, H⟩ := H
 replace H : (if t401 = 0 then (if t416 = 0 then ((integer_Text.f k t393 t394).bind fun t418 => (if t418.toList = ([45, 52] : List UInt8) then ((integer_Text.f k t397 t398).bind fun t419 => (if t419.toList = ([49] : List UInt8) then ((integer_Text.f k t412 t413).bind fun t420 => (some (t420.toList == ([45, 52] : List UInt8)))) else (some false))) else (some false))) else (some false)) else (some false)) = some r := H
 have A6 := zMk A60
 clear A60
 by_cases c7 : t401 = 0
 ·rw [if_pos c7] at H
  have c7b0 : (t401 == 0) = true := beq_iff_eq.mpr c7
  have c7b1 : (t401 != 0) = false := bne_eq_false_iff_eq.mpr c7
  clear c7
  by_cases c8 : t416 = 0
  ·rw [if_pos c8] at H
   have c8b0 : (t416 == 0) = true := beq_iff_eq.mpr c8
   have c8b1 : (t416 != 0) = false := bne_eq_false_iff_eq.mpr c8
   clear c8
   replace H := bnd H
   obtain ⟨t418, A90, H⟩ := H
   have A9 := zMk A90
   clear A90
   by_cases c10 : t418.toList = ([45, 52] : List UInt8)
   ·rw [if_pos c10] at H
    have c10b0 : (t418.toList == ([45, 52] : List UInt8)) = true := beq_iff_eq.mpr c10
    have c10b1 : (t418.toList != ([45, 52] : List UInt8)) = false := bne_eq_false_iff_eq.mpr c10
    clear c10
    replace H := bnd H
    obtain ⟨t419, A110, H⟩ := H
    have A11 := zMk A110
    clear A110
    by_cases c12 : t419.toList = ([49] : List UInt8)
    ·rw [if_pos c12] at H
     have c12b0 : (t419.toList == ([49] : List UInt8)) = true := beq_iff_eq.mpr c12
     have c12b1 : (t419.toList != ([49] : List UInt8)) = false := bne_eq_false_iff_eq.mpr c12
     clear c12
     replace H := bnd H
     obtain ⟨t420, A130, H⟩ := H
     have A13 := zMk A130
     clear A130
     obtain rfl := zOi H
     go_enter Tryd.func11, Tryd.ntmps11
     go_wp2_with (first | ((with_reducible refine gate_callee (f:=31) rfl ?_); refine goesL_ (some 7) rfl rfl Tryd.func31 (by kernel_rfl) rfl #[.int .i64 (-7)] rfl (by (try simp only [zMa, zMc, zMn]); first |  done|  rfl|  (simp only [zLd, zLt]; rfl)) ?_; (with_reducible refine (integer_Of.calls (-7) t385 t386 _ A1.out).mono ?_); rintro e w14 ⟨v387, rfl, ho0, hb⟩; refine ⟨_, rfl, ?_⟩; have HO388 := zMk (zRl ho0 (zBs (uT HB.out))); replace HB := zMk (zBt (uT HB.out) hb))|((with_reducible refine gate_callee (f:=31) rfl ?_); refine goesL_ (some 8) rfl rfl Tryd.func31 (by kernel_rfl) rfl #[.int .i64 2] rfl (by (try simp only [zMa, zMc, zMn]); first |  done|  rfl|  (simp only [zLd, zLt]; rfl)) ?_; (with_reducible refine (integer_Of.calls 2 t389 t390 _ A2.out).mono ?_); rintro e w15 ⟨v391, rfl, ho0, hb⟩; refine ⟨_, rfl, ?_⟩; have HO392 := zMk (zRl (zRw ho0 (zRt (uR HO388.out))) (zBs (uT HB.out))); replace HO388 := zMk (zRe (uR HO388.out) (zRz ho0) hb); replace HB := zMk (zBt (uT HB.out) hb); obtain ⟨Ao16, co16, eo16⟩ := zRs HO388.out; subst eo16; obtain ⟨Ao17, co17, eo17⟩ := zRs HO392.out; subst eo17)|((with_reducible refine gate_callee (f:=12) rfl ?_); refine goesL_ (some 9) rfl rfl Tryd.func12 (by kernel_rfl) rfl #[.agg #[.bool t385, .slice Ao16 t386.length co16], .agg #[.bool t389, .slice Ao17 t390.length co17]] rfl (by (try simp only [zMa, zMc, zMn]); first |  done|  rfl|  (simp only [zLd, zLt]; rfl)) ?_; (with_reducible refine (integer_DivMod.calls k t385 _ _ t386 t389 _ _ t390 t393 t394 t397 t398 t401 _ ?side1 ?side2 ?side3 ?side4 A3.out).mono ?_); (case side1 => exact uC (zRr HO388.out).2.2); (case side2 => exact (zRr HO388.out).2.1); (case side3 => exact uC (zRr HO392.out).2.2); (case side4 => exact (zRr HO392.out).2.1); rintro e w18 ⟨v395, v399, rfl, ho0, ho1, hb⟩; refine ⟨_, rfl, ?_⟩; have HO396 := zMk (zRl (zRw (zRw ho0 (zRt (uR HO388.out))) (zRt (uR HO392.out))) (zBs (uT HB.out))); have HO400 := zMk (zRl (zRw (zRw ho1 (zRt (uR HO388.out))) (zRt (uR HO392.out))) (zBs (uT HB.out))); replace HO388 := zMk (zRm (Kd.R_told (Kd.R_told (Kd.R_old (uR HO388.out) hb) (zRz ho0)) (zRz ho1)) (fun _ h_ => h_.1)); replace HO392 := zMk (zRm (Kd.R_told (Kd.R_told (Kd.R_old (uR HO392.out) hb) (zRz ho0)) (zRz ho1)) (fun _ h_ => h_.1)); replace HB := zMk (zBt (uT HB.out) hb))|((with_reducible refine gate_dst (N:=1) rfl ?_); refine box_event ?hg (N:=1) ?hd (cs:=#[.bool false, .slice none 0 0]) (t:=24) ?hr ?_; (case hd => rfl); (case hg => rfl); (case hr => first | (go_simp; done)|(go_simp; rfl)|(go_simp; rw [show ∀ x : Int, IntKind.u32.wrap (IntKind.u8.wrap x) = x % 256 from fun x => (by show (x % 256) % 4294967296 = x % 256; omega)])); intro gb402 hg w19 hbox hb; replace HO388 := zMk (zRb (uR HO388.out) hb); replace HO392 := zMk (zRb (uR HO392.out) hb); replace HO396 := zMk (zRb (uR HO396.out) hb); replace HO400 := zMk (zRb (uR HO400.out) hb); have BK402 := zMk (hbox); have GW402 := zMk ((by rw [hg]; exact (zBs (uT HB.out)) : w.heap.size ≤ gb402)); have GE402 := zMk ((by rw [hg]; exact (zBs (uT HB.out)) : w.heap.size ≤ gb402)); have IGE402 := ownGe GE402.out; replace HB := zMk (zBt (uT HB.out) hb); clear hb hbox hg)|((with_reducible refine gate_dst (N:=2) rfl ?_); refine box_event ?hg (N:=2) ?hd (cs:=#[.bool false, .slice none 0 0]) (t:=24) ?hr ?_; (case hd => rfl); (case hg => rfl); (case hr => first | (go_simp; done)|(go_simp; rfl)|(go_simp; rw [show ∀ x : Int, IntKind.u32.wrap (IntKind.u8.wrap x) = x % 256 from fun x => (by show (x % 256) % 4294967296 = x % 256; omega)])); intro gb403 hg w20 hbox hb; replace HO388 := zMk (zRb (uR HO388.out) hb); replace HO392 := zMk (zRb (uR HO392.out) hb); replace HO396 := zMk (zRb (uR HO396.out) hb); replace HO400 := zMk (zRb (uR HO400.out) hb); have BK403 := zMk (hbox); have GW403 := zMk ((by rw [hg]; exact (zBs (uT HB.out)) : w.heap.size ≤ gb403)); have GE403 := zMk ((by rw [hg]; exact (zBs (uT HB.out)) : w.heap.size ≤ gb403)); have IGE403 := ownGe GE403.out; replace HB := zMk (zBt (uT HB.out) hb); have NB402_403 := zMk ((by rw [hg]; exact Nat.ne_of_lt (blk_lt BK402.out) : gb402 ≠ gb403)); have NB403_402 := zMk ((by rw [hg]; exact Nat.ne_of_gt (blk_lt BK402.out) : gb403 ≠ gb402)); replace BK402 := zMk (zKb BK402.out hb); clear hb hbox hg; have hnb21 := NB402_403.out; have hnc21 := NB403_402.out; have hcz22_0 : w20.cell? ⟨gb402, 0, none⟩ = some (.bool false) := (zKc BK402.out 0).trans rfl; have hcz22_1 : w20.cell? ⟨gb402, 1, none⟩ = some (.slice none 0 0) := (zKc BK402.out 1).trans rfl; have hfz22_0 := zKf BK402.out 0; have hfz22_1 := zKf BK402.out 1; obtain ⟨Ao23, co23, eo23⟩ := zRs HO396.out; subst eo23; have hcz24_0 : w20.cell? ⟨gb403, 0, none⟩ = some (.bool false) := (zKc BK403.out 0).trans rfl; have hcz24_1 : w20.cell? ⟨gb403, 1, none⟩ = some (.slice none 0 0) := (zKc BK403.out 1).trans rfl; have hfz24_0 := zKf BK403.out 0; have hfz24_1 := zKf BK403.out 1; obtain ⟨Ao25, co25, eo25⟩ := zRs HO400.out; subst eo25)|((with_reducible refine gate_callee (f:=31) rfl ?_); refine goesL_ (some 14) rfl rfl Tryd.func31 (by kernel_rfl) rfl #[.int .i64 (-8)] rfl (by (try simp only [zMa, zMc, zMn]); first |  done|  rfl|  (simp only [zLd, zLt]; rfl)) ?_; (with_reducible refine (integer_Of.calls (-8) t404 t405 _ A4.out).mono ?_); rintro e w26 ⟨v406, rfl, ho0, hb⟩; refine ⟨_, rfl, ?_⟩; have HO407 := zMk (zRl (zRw (zRw (zRw (zRw ho0 (zRt (zRm (zRm (Kd.R_far (p:=⟨gb403, 1, none⟩) (Kd.R_far (p:=⟨gb403, 0, none⟩) (Kd.R_far (p:=⟨gb402, 1, none⟩) (Kd.R_far (p:=⟨gb402, 0, none⟩) (Kd.R_types (Kd.R_types HO388.out BK402.out (by decide)) BK403.out (by decide)) (fun _ hk => hk.1.2) (.bool t393)) (fun _ hk => hk.1.2) (.slice Ao23 t394.length co23)) (fun _ hk => hk.2) (.bool t397)) (fun _ hk => hk.2) (.slice Ao25 t398.length co25)) (fun _ h_ => h_.1)) (fun _ h_ => h_.1)))) (zRt (zRm (zRm (Kd.R_far (p:=⟨gb403, 1, none⟩) (Kd.R_far (p:=⟨gb403, 0, none⟩) (Kd.R_far (p:=⟨gb402, 1, none⟩) (Kd.R_far (p:=⟨gb402, 0, none⟩) (Kd.R_types (Kd.R_types HO392.out BK402.out (by decide)) BK403.out (by decide)) (fun _ hk => hk.1.2) (.bool t393)) (fun _ hk => hk.1.2) (.slice Ao23 t394.length co23)) (fun _ hk => hk.2) (.bool t397)) (fun _ hk => hk.2) (.slice Ao25 t398.length co25)) (fun _ h_ => h_.1)) (fun _ h_ => h_.1)))) (zRt (zRm (zRm (Kd.R_far (p:=⟨gb403, 1, none⟩) (Kd.R_far (p:=⟨gb403, 0, none⟩) (Kd.R_far (p:=⟨gb402, 1, none⟩) (Kd.R_far (p:=⟨gb402, 0, none⟩) (Kd.R_types (Kd.R_types HO396.out BK402.out (by decide)) BK403.out (by decide)) (fun _ hk => hk.1.2) (.bool t393)) (fun _ hk => hk.1.2) (.slice Ao23 t394.length co23)) (fun _ hk => hk.2) (.bool t397)) (fun _ hk => hk.2) (.slice Ao25 t398.length co25)) (fun _ h_ => h_.1)) (fun _ h_ => h_.1)))) (zRt (zRm (zRm (Kd.R_far (p:=⟨gb403, 1, none⟩) (Kd.R_far (p:=⟨gb403, 0, none⟩) (Kd.R_far (p:=⟨gb402, 1, none⟩) (Kd.R_far (p:=⟨gb402, 0, none⟩) (Kd.R_types (Kd.R_types HO400.out BK402.out (by decide)) BK403.out (by decide)) (fun _ hk => hk.1.2) (.bool t393)) (fun _ hk => hk.1.2) (.slice Ao23 t394.length co23)) (fun _ hk => hk.2) (.bool t397)) (fun _ hk => hk.2) (.slice Ao25 t398.length co25)) (fun _ h_ => h_.1)) (fun _ h_ => h_.1)))) (zBs (uT HB.out))); replace HO388 := zMk (zRe (zRm (zRm (Kd.R_far (p:=⟨gb403, 1, none⟩) (Kd.R_far (p:=⟨gb403, 0, none⟩) (Kd.R_far (p:=⟨gb402, 1, none⟩) (Kd.R_far (p:=⟨gb402, 0, none⟩) (Kd.R_types (Kd.R_types HO388.out BK402.out (by decide)) BK403.out (by decide)) (fun _ hk => hk.1.2) (.bool t393)) (fun _ hk => hk.1.2) (.slice Ao23 t394.length co23)) (fun _ hk => hk.2) (.bool t397)) (fun _ hk => hk.2) (.slice Ao25 t398.length co25)) (fun _ h_ => h_.1)) (fun _ h_ => h_.1)) (zRz ho0) hb); replace HO392 := zMk (zRe (zRm (zRm (Kd.R_far (p:=⟨gb403, 1, none⟩) (Kd.R_far (p:=⟨gb403, 0, none⟩) (Kd.R_far (p:=⟨gb402, 1, none⟩) (Kd.R_far (p:=⟨gb402, 0, none⟩) (Kd.R_types (Kd.R_types HO392.out BK402.out (by decide)) BK403.out (by decide)) (fun _ hk => hk.1.2) (.bool t393)) (fun _ hk => hk.1.2) (.slice Ao23 t394.length co23)) (fun _ hk => hk.2) (.bool t397)) (fun _ hk => hk.2) (.slice Ao25 t398.length co25)) (fun _ h_ => h_.1)) (fun _ h_ => h_.1)) (zRz ho0) hb); replace HO396 := zMk (zRe (zRm (zRm (Kd.R_far (p:=⟨gb403, 1, none⟩) (Kd.R_far (p:=⟨gb403, 0, none⟩) (Kd.R_far (p:=⟨gb402, 1, none⟩) (Kd.R_far (p:=⟨gb402, 0, none⟩) (Kd.R_types (Kd.R_types HO396.out BK402.out (by decide)) BK403.out (by decide)) (fun _ hk => hk.1.2) (.bool t393)) (fun _ hk => hk.1.2) (.slice Ao23 t394.length co23)) (fun _ hk => hk.2) (.bool t397)) (fun _ hk => hk.2) (.slice Ao25 t398.length co25)) (fun _ h_ => h_.1)) (fun _ h_ => h_.1)) (zRz ho0) hb); replace HO400 := zMk (zRe (zRm (zRm (Kd.R_far (p:=⟨gb403, 1, none⟩) (Kd.R_far (p:=⟨gb403, 0, none⟩) (Kd.R_far (p:=⟨gb402, 1, none⟩) (Kd.R_far (p:=⟨gb402, 0, none⟩) (Kd.R_types (Kd.R_types HO400.out BK402.out (by decide)) BK403.out (by decide)) (fun _ hk => hk.1.2) (.bool t393)) (fun _ hk => hk.1.2) (.slice Ao23 t394.length co23)) (fun _ hk => hk.2) (.bool t397)) (fun _ hk => hk.2) (.slice Ao25 t398.length co25)) (fun _ h_ => h_.1)) (fun _ h_ => h_.1)) (zRz ho0) hb); replace BK402 := zMk (zKb (g:=gb402) (o:=.cells #[.bool t393, .slice Ao23 t394.length co23] 24 (0, 0)) (by (with_reducible repeat (first |  refine zKn ?_ _|  refine zKd ?_|  refine zKa ?_ _)); refine blk_far ?_ NB402_403.out _; (with_reducible repeat (first |  refine zKn ?_ _|  refine zKd ?_|  refine zKa ?_ _)); refine blk_far ?_ NB402_403.out _; (with_reducible repeat (first |  refine zKn ?_ _|  refine zKd ?_|  refine zKa ?_ _)); refine blk_put (cs:=#[.bool t393, .slice none 0 0]) ?_ 1 _ rfl; (with_reducible repeat (first |  refine zKn ?_ _|  refine zKd ?_|  refine zKa ?_ _)); refine blk_put (cs:=#[.bool false, .slice none 0 0]) ?_ 0 _ rfl; (with_reducible repeat (first |  refine zKn ?_ _|  refine zKd ?_|  refine zKa ?_ _)); exact BK402.out) hb); replace BK403 := zMk (zKb (g:=gb403) (o:=.cells #[.bool t397, .slice Ao25 t398.length co25] 24 (0, 0)) (by (with_reducible repeat (first |  refine zKn ?_ _|  refine zKd ?_|  refine zKa ?_ _)); refine blk_put (cs:=#[.bool t397, .slice none 0 0]) ?_ 1 _ rfl; (with_reducible repeat (first |  refine zKn ?_ _|  refine zKd ?_|  refine zKa ?_ _)); refine blk_put (cs:=#[.bool false, .slice none 0 0]) ?_ 0 _ rfl; (with_reducible repeat (first |  refine zKn ?_ _|  refine zKd ?_|  refine zKa ?_ _)); refine blk_far ?_ NB403_402.out _; (with_reducible repeat (first |  refine zKn ?_ _|  refine zKd ?_|  refine zKa ?_ _)); refine blk_far ?_ NB403_402.out _; (with_reducible repeat (first |  refine zKn ?_ _|  refine zKd ?_|  refine zKa ?_ _)); exact BK403.out) hb); replace HB := zMk (zBt (uT HB.out) hb))|((with_reducible refine gate_callee (f:=31) rfl ?_); refine goesL_ (some 15) rfl rfl Tryd.func31 (by kernel_rfl) rfl #[.int .i64 2] rfl (by (try simp only [zMa, zMc, zMn]); first |  done|  rfl|  (simp only [zLd, zLt]; rfl)) ?_; (with_reducible refine (integer_Of.calls 2 t408 t409 _ A5.out).mono ?_); rintro e w27 ⟨v410, rfl, ho0, hb⟩; refine ⟨_, rfl, ?_⟩; have HO411 := zMk (zRl (zRw (zRw (zRw (zRw (zRw ho0 (zRt (uR HO388.out))) (zRt (uR HO392.out))) (zRt (uR HO396.out))) (zRt (uR HO400.out))) (zRt (uR HO407.out))) (zBs (uT HB.out))); replace HO388 := zMk (zRe (uR HO388.out) (zRz ho0) hb); replace HO392 := zMk (zRe (uR HO392.out) (zRz ho0) hb); replace HO396 := zMk (zRe (uR HO396.out) (zRz ho0) hb); replace HO400 := zMk (zRe (uR HO400.out) (zRz ho0) hb); replace HO407 := zMk (zRe (uR HO407.out) (zRz ho0) hb); replace BK402 := zMk (zKb BK402.out hb); replace BK403 := zMk (zKb BK403.out hb); replace HB := zMk (zBt (uT HB.out) hb); obtain ⟨Ao28, co28, eo28⟩ := zRs HO407.out; subst eo28; obtain ⟨Ao29, co29, eo29⟩ := zRs HO411.out; subst eo29)|((with_reducible refine gate_callee (f:=14) rfl ?_); refine goesL_ (some 16) rfl rfl Tryd.func14 (by kernel_rfl) rfl #[.agg #[.bool t404, .slice Ao28 t405.length co28], .agg #[.bool t408, .slice Ao29 t409.length co29]] rfl (by (try simp only [zMa, zMc, zMn]); first |  done|  rfl|  (simp only [zLd, zLt]; rfl)) ?_; (with_reducible refine (integer_Exact.calls k t404 _ _ t405 t408 _ _ t409 t412 t413 t416 _ ?side1 ?side2 ?side3 ?side4 A6.out).mono ?_); (case side1 => exact uC (zRr HO407.out).2.2); (case side2 => exact (zRr HO407.out).2.1); (case side3 => exact uC (zRr HO411.out).2.2); (case side4 => exact (zRr HO411.out).2.1); rintro e w30 ⟨v414, rfl, ho0, hb⟩; refine ⟨_, rfl, ?_⟩; have HO415 := zMk (zRl (zRw (zRw (zRw (zRw (zRw (zRw ho0 (zRt (uR HO388.out))) (zRt (uR HO392.out))) (zRt (uR HO396.out))) (zRt (uR HO400.out))) (zRt (uR HO407.out))) (zRt (uR HO411.out))) (zBs (uT HB.out))); replace HO388 := zMk (zRe (uR HO388.out) (zRz ho0) hb); replace HO392 := zMk (zRe (uR HO392.out) (zRz ho0) hb); replace HO396 := zMk (zRe (uR HO396.out) (zRz ho0) hb); replace HO400 := zMk (zRe (uR HO400.out) (zRz ho0) hb); replace HO407 := zMk (zRe (uR HO407.out) (zRz ho0) hb); replace HO411 := zMk (zRe (uR HO411.out) (zRz ho0) hb); replace BK402 := zMk (zKb BK402.out hb); replace BK403 := zMk (zKb BK403.out hb); replace HB := zMk (zBt (uT HB.out) hb))|((with_reducible refine gate_dst (N:=4) rfl ?_); refine box_event ?hg (N:=4) ?hd (cs:=#[.bool false, .slice none 0 0]) (t:=24) ?hr ?_; (case hd => rfl); (case hg => rfl); (case hr => first | (go_simp; done)|(go_simp; rfl)|(go_simp; rw [show ∀ x : Int, IntKind.u32.wrap (IntKind.u8.wrap x) = x % 256 from fun x => (by show (x % 256) % 4294967296 = x % 256; omega)])); intro gb417 hg w31 hbox hb; replace HO388 := zMk (zRb (uR HO388.out) hb); replace HO392 := zMk (zRb (uR HO392.out) hb); replace HO396 := zMk (zRb (uR HO396.out) hb); replace HO400 := zMk (zRb (uR HO400.out) hb); replace HO407 := zMk (zRb (uR HO407.out) hb); replace HO411 := zMk (zRb (uR HO411.out) hb); replace HO415 := zMk (zRb (uR HO415.out) hb); have BK417 := zMk (hbox); have GW417 := zMk ((by rw [hg]; exact (zBs (uT HB.out)) : w.heap.size ≤ gb417)); have GE417 := zMk ((by rw [hg]; exact (zBs (uT HB.out)) : w.heap.size ≤ gb417)); have IGE417 := ownGe GE417.out; replace HB := zMk (zBt (uT HB.out) hb); have NB402_417 := zMk ((by rw [hg]; exact Nat.ne_of_lt (blk_lt BK402.out) : gb402 ≠ gb417)); have NB417_402 := zMk ((by rw [hg]; exact Nat.ne_of_gt (blk_lt BK402.out) : gb417 ≠ gb402)); replace BK402 := zMk (zKb BK402.out hb); have NB403_417 := zMk ((by rw [hg]; exact Nat.ne_of_lt (blk_lt BK403.out) : gb403 ≠ gb417)); have NB417_403 := zMk ((by rw [hg]; exact Nat.ne_of_gt (blk_lt BK403.out) : gb417 ≠ gb403)); replace BK403 := zMk (zKb BK403.out hb); clear hb hbox hg; have hnb32 := NB417_402.out; have hnc32 := NB402_417.out; have hnb33 := NB417_403.out; have hnc33 := NB403_417.out; have hcz34_0 : w31.cell? ⟨gb417, 0, none⟩ = some (.bool false) := (zKc BK417.out 0).trans rfl; have hcz34_1 : w31.cell? ⟨gb417, 1, none⟩ = some (.slice none 0 0) := (zKc BK417.out 1).trans rfl; have hfz34_0 := zKf BK417.out 0; have hfz34_1 := zKf BK417.out 1; obtain ⟨Ao35, co35, eo35⟩ := zRs HO415.out; subst eo35; have hcz36_0 : w31.cell? ⟨gb402, 0, none⟩ = some (.bool t393) := (zKc BK402.out 0).trans rfl; have hcz36_1 : w31.cell? ⟨gb402, 1, none⟩ = some (.slice Ao23 t394.length co23) := (zKc BK402.out 1).trans rfl; have hfz36_0 := zKf BK402.out 0; have hfz36_1 := zKf BK402.out 1)|(go_at_call 29; (with_reducible refine (integer_Text.calls k t393 _ _ t394 t418 _ ?side1 ?side2 A9.out).mono ?_); (case side1 => refine (zRr (e:=58) (base:=w.heap.size) (ok:=fun k_ => (((((some k_ ≠ (.slice Ao25 t398.length co25 : Value).ownBlock ∧ some k_ ≠ (.slice Ao16 t386.length co16 : Value).ownBlock) ∧ some k_ ≠ (.slice Ao17 t390.length co17 : Value).ownBlock) ∧ some k_ ≠ (.slice Ao28 t405.length co28 : Value).ownBlock) ∧ some k_ ≠ (.slice Ao29 t409.length co29 : Value).ownBlock) ∧ some k_ ≠ (.slice Ao35 t413.length co35 : Value).ownBlock)) (n:=t394.length) (c:=co23) ?_).2.2; exact (zRm (Kd.R_far (p:=⟨gb417, 1, none⟩) (Kd.R_far (p:=⟨gb417, 0, none⟩) (Kd.R_types HO396.out BK417.out (by decide)) (fun _ hk => hk.2) (.bool t412)) (fun _ hk => hk.2) (.slice Ao35 t413.length co35)) (fun _ h_ => h_.1))); (case side2 => exact (zRr HO396.out).2.1); rintro e w37 ⟨rfl, hb⟩; replace HO388 := zMk (zRb (zRm (Kd.R_far (p:=⟨gb417, 1, none⟩) (Kd.R_far (p:=⟨gb417, 0, none⟩) (Kd.R_types HO388.out BK417.out (by decide)) (fun _ hk => hk.2) (.bool t412)) (fun _ hk => hk.2) (.slice Ao35 t413.length co35)) (fun _ h_ => h_.1)) hb); replace HO392 := zMk (zRb (zRm (Kd.R_far (p:=⟨gb417, 1, none⟩) (Kd.R_far (p:=⟨gb417, 0, none⟩) (Kd.R_types HO392.out BK417.out (by decide)) (fun _ hk => hk.2) (.bool t412)) (fun _ hk => hk.2) (.slice Ao35 t413.length co35)) (fun _ h_ => h_.1)) hb); replace HO396 := zMk (zRb (zRm (Kd.R_far (p:=⟨gb417, 1, none⟩) (Kd.R_far (p:=⟨gb417, 0, none⟩) (Kd.R_types HO396.out BK417.out (by decide)) (fun _ hk => hk.2) (.bool t412)) (fun _ hk => hk.2) (.slice Ao35 t413.length co35)) (fun _ h_ => h_.1)) hb); replace HO400 := zMk (zRb (zRm (Kd.R_far (p:=⟨gb417, 1, none⟩) (Kd.R_far (p:=⟨gb417, 0, none⟩) (Kd.R_types HO400.out BK417.out (by decide)) (fun _ hk => hk.2) (.bool t412)) (fun _ hk => hk.2) (.slice Ao35 t413.length co35)) (fun _ h_ => h_.1)) hb); replace HO407 := zMk (zRb (zRm (Kd.R_far (p:=⟨gb417, 1, none⟩) (Kd.R_far (p:=⟨gb417, 0, none⟩) (Kd.R_types HO407.out BK417.out (by decide)) (fun _ hk => hk.2) (.bool t412)) (fun _ hk => hk.2) (.slice Ao35 t413.length co35)) (fun _ h_ => h_.1)) hb); replace HO411 := zMk (zRb (zRm (Kd.R_far (p:=⟨gb417, 1, none⟩) (Kd.R_far (p:=⟨gb417, 0, none⟩) (Kd.R_types HO411.out BK417.out (by decide)) (fun _ hk => hk.2) (.bool t412)) (fun _ hk => hk.2) (.slice Ao35 t413.length co35)) (fun _ h_ => h_.1)) hb); replace HO415 := zMk (zRb (zRm (Kd.R_far (p:=⟨gb417, 1, none⟩) (Kd.R_far (p:=⟨gb417, 0, none⟩) (Kd.R_types HO415.out BK417.out (by decide)) (fun _ hk => hk.2) (.bool t412)) (fun _ hk => hk.2) (.slice Ao35 t413.length co35)) (fun _ h_ => h_.1)) hb); replace BK402 := zMk (zKb (g:=gb402) (o:=.cells #[.bool t393, .slice Ao23 t394.length co23] 24 (0, 0)) (by (with_reducible repeat (first |  refine zKn ?_ _|  refine zKd ?_|  refine zKa ?_ _)); refine blk_far ?_ NB402_417.out _; (with_reducible repeat (first |  refine zKn ?_ _|  refine zKd ?_|  refine zKa ?_ _)); refine blk_far ?_ NB402_417.out _; (with_reducible repeat (first |  refine zKn ?_ _|  refine zKd ?_|  refine zKa ?_ _)); exact BK402.out) hb); replace BK403 := zMk (zKb (g:=gb403) (o:=.cells #[.bool t397, .slice Ao25 t398.length co25] 24 (0, 0)) (by (with_reducible repeat (first |  refine zKn ?_ _|  refine zKd ?_|  refine zKa ?_ _)); refine blk_far ?_ NB403_417.out _; (with_reducible repeat (first |  refine zKn ?_ _|  refine zKd ?_|  refine zKa ?_ _)); refine blk_far ?_ NB403_417.out _; (with_reducible repeat (first |  refine zKn ?_ _|  refine zKd ?_|  refine zKa ?_ _)); exact BK403.out) hb); replace BK417 := zMk (zKb (g:=gb417) (o:=.cells #[.bool t412, .slice Ao35 t413.length co35] 24 (0, 0)) (by (with_reducible repeat (first |  refine zKn ?_ _|  refine zKd ?_|  refine zKa ?_ _)); refine blk_put (cs:=#[.bool t412, .slice none 0 0]) ?_ 1 _ rfl; (with_reducible repeat (first |  refine zKn ?_ _|  refine zKd ?_|  refine zKa ?_ _)); refine blk_put (cs:=#[.bool false, .slice none 0 0]) ?_ 0 _ rfl; (with_reducible repeat (first |  refine zKn ?_ _|  refine zKd ?_|  refine zKa ?_ _)); exact BK417.out) hb); replace HB := zMk (zBt (uT HB.out) hb); have hcz38_0 : w37.cell? ⟨gb403, 0, none⟩ = some (.bool t397) := (zKc BK403.out 0).trans rfl; have hcz38_1 : w37.cell? ⟨gb403, 1, none⟩ = some (.slice Ao25 t398.length co25) := (zKc BK403.out 1).trans rfl; have hfz38_0 := zKf BK403.out 0; have hfz38_1 := zKf BK403.out 1)|(go_at_call 29; (with_reducible refine (integer_Text.calls k t397 _ _ t398 t419 _ ?side1 ?side2 A11.out).mono ?_); (case side1 => exact uC (zRr HO400.out).2.2); (case side2 => exact (zRr HO400.out).2.1); rintro e w39 ⟨rfl, hb⟩; replace HO388 := zMk (zRb (uR HO388.out) hb); replace HO392 := zMk (zRb (uR HO392.out) hb); replace HO396 := zMk (zRb (uR HO396.out) hb); replace HO400 := zMk (zRb (uR HO400.out) hb); replace HO407 := zMk (zRb (uR HO407.out) hb); replace HO411 := zMk (zRb (uR HO411.out) hb); replace HO415 := zMk (zRb (uR HO415.out) hb); replace BK402 := zMk (zKb BK402.out hb); replace BK403 := zMk (zKb BK403.out hb); replace BK417 := zMk (zKb BK417.out hb); replace HB := zMk (zBt (uT HB.out) hb); have hcz40_0 : w39.cell? ⟨gb417, 0, none⟩ = some (.bool t412) := (zKc BK417.out 0).trans rfl; have hcz40_1 : w39.cell? ⟨gb417, 1, none⟩ = some (.slice Ao35 t413.length co35) := (zKc BK417.out 1).trans rfl; have hfz40_0 := zKf BK417.out 0; have hfz40_1 := zKf BK417.out 1)|(go_at_call 29; (with_reducible refine (integer_Text.calls k t412 _ _ t413 t420 _ ?side1 ?side2 A13.out).mono ?_); (case side1 => exact uC (zRr HO415.out).2.2); (case side2 => exact (zRr HO415.out).2.1); rintro e w41 ⟨rfl, hb⟩; replace HO388 := zMk (zRb (uR HO388.out) hb); replace HO392 := zMk (zRb (uR HO392.out) hb); replace HO396 := zMk (zRb (uR HO396.out) hb); replace HO400 := zMk (zRb (uR HO400.out) hb); replace HO407 := zMk (zRb (uR HO407.out) hb); replace HO411 := zMk (zRb (uR HO411.out) hb); replace HO415 := zMk (zRb (uR HO415.out) hb); replace BK402 := zMk (zKb BK402.out hb); replace BK403 := zMk (zKb BK403.out hb); replace BK417 := zMk (zKb BK417.out hb); replace HB := zMk (zBt (uT HB.out) hb)))
     go_ret
     exact ⟨by first | rfl | (simp [errW_none, errW_some] <;> rfl) | (simp [*, errW_none, errW_some] <;> rfl), by exact uT HB.out⟩
    ·rw [if_neg c12] at H
     have c12b0 : (t419.toList == ([49] : List UInt8)) = false := beq_eq_false_iff_ne.mpr c12
     have c12b1 : (t419.toList != ([49] : List UInt8)) = true := bne_iff_ne.mpr c12
     obtain rfl := zOi H
     go_enter Tryd.func11, Tryd.ntmps11
     go_wp2_with (first | ((with_reducible refine gate_callee (f:=31) rfl ?_); refine goesL_ (some 7) rfl rfl Tryd.func31 (by kernel_rfl) rfl #[.int .i64 (-7)] rfl (by (try simp only [zMa, zMc, zMn]); first |  done|  rfl|  (simp only [zLd, zLt]; rfl)) ?_; (with_reducible refine (integer_Of.calls (-7) t385 t386 _ A1.out).mono ?_); rintro e w42 ⟨v387, rfl, ho0, hb⟩; refine ⟨_, rfl, ?_⟩; have HO388 := zMk (zRl ho0 (zBs (uT HB.out))); replace HB := zMk (zBt (uT HB.out) hb))|((with_reducible refine gate_callee (f:=31) rfl ?_); refine goesL_ (some 8) rfl rfl Tryd.func31 (by kernel_rfl) rfl #[.int .i64 2] rfl (by (try simp only [zMa, zMc, zMn]); first |  done|  rfl|  (simp only [zLd, zLt]; rfl)) ?_; (with_reducible refine (integer_Of.calls 2 t389 t390 _ A2.out).mono ?_); rintro e w43 ⟨v391, rfl, ho0, hb⟩; refine ⟨_, rfl, ?_⟩; have HO392 := zMk (zRl (zRw ho0 (zRt (uR HO388.out))) (zBs (uT HB.out))); replace HO388 := zMk (zRe (uR HO388.out) (zRz ho0) hb); replace HB := zMk (zBt (uT HB.out) hb); obtain ⟨Ao44, co44, eo44⟩ := zRs HO388.out; subst eo44; obtain ⟨Ao45, co45, eo45⟩ := zRs HO392.out; subst eo45)|((with_reducible refine gate_callee (f:=12) rfl ?_); refine goesL_ (some 9) rfl rfl Tryd.func12 (by kernel_rfl) rfl #[.agg #[.bool t385, .slice Ao44 t386.length co44], .agg #[.bool t389, .slice Ao45 t390.length co45]] rfl (by (try simp only [zMa, zMc, zMn]); first |  done|  rfl|  (simp only [zLd, zLt]; rfl)) ?_; (with_reducible refine (integer_DivMod.calls k t385 _ _ t386 t389 _ _ t390 t393 t394 t397 t398 t401 _ ?side1 ?side2 ?side3 ?side4 A3.out).mono ?_); (case side1 => exact uC (zRr HO388.out).2.2); (case side2 => exact (zRr HO388.out).2.1); (case side3 => exact uC (zRr HO392.out).2.2); (case side4 => exact (zRr HO392.out).2.1); rintro e w46 ⟨v395, v399, rfl, ho0, ho1, hb⟩; refine ⟨_, rfl, ?_⟩; have HO396 := zMk (zRl (zRw (zRw ho0 (zRt (uR HO388.out))) (zRt (uR HO392.out))) (zBs (uT HB.out))); have HO400 := zMk (zRl (zRw (zRw ho1 (zRt (uR HO388.out))) (zRt (uR HO392.out))) (zBs (uT HB.out))); replace HO388 := zMk (zRm (Kd.R_told (Kd.R_told (Kd.R_old (uR HO388.out) hb) (zRz ho0)) (zRz ho1)) (fun _ h_ => h_.1)); replace HO392 := zMk (zRm (Kd.R_told (Kd.R_told (Kd.R_old (uR HO392.out) hb) (zRz ho0)) (zRz ho1)) (fun _ h_ => h_.1)); replace HB := zMk (zBt (uT HB.out) hb))|((with_reducible refine gate_dst (N:=1) rfl ?_); refine box_event ?hg (N:=1) ?hd (cs:=#[.bool false, .slice none 0 0]) (t:=24) ?hr ?_; (case hd => rfl); (case hg => rfl); (case hr => first | (go_simp; done)|(go_simp; rfl)|(go_simp; rw [show ∀ x : Int, IntKind.u32.wrap (IntKind.u8.wrap x) = x % 256 from fun x => (by show (x % 256) % 4294967296 = x % 256; omega)])); intro gb402 hg w47 hbox hb; replace HO388 := zMk (zRb (uR HO388.out) hb); replace HO392 := zMk (zRb (uR HO392.out) hb); replace HO396 := zMk (zRb (uR HO396.out) hb); replace HO400 := zMk (zRb (uR HO400.out) hb); have BK402 := zMk (hbox); have GW402 := zMk ((by rw [hg]; exact (zBs (uT HB.out)) : w.heap.size ≤ gb402)); have GE402 := zMk ((by rw [hg]; exact (zBs (uT HB.out)) : w.heap.size ≤ gb402)); have IGE402 := ownGe GE402.out; replace HB := zMk (zBt (uT HB.out) hb); clear hb hbox hg)|((with_reducible refine gate_dst (N:=2) rfl ?_); refine box_event ?hg (N:=2) ?hd (cs:=#[.bool false, .slice none 0 0]) (t:=24) ?hr ?_; (case hd => rfl); (case hg => rfl); (case hr => first | (go_simp; done)|(go_simp; rfl)|(go_simp; rw [show ∀ x : Int, IntKind.u32.wrap (IntKind.u8.wrap x) = x % 256 from fun x => (by show (x % 256) % 4294967296 = x % 256; omega)])); intro gb403 hg w48 hbox hb; replace HO388 := zMk (zRb (uR HO388.out) hb); replace HO392 := zMk (zRb (uR HO392.out) hb); replace HO396 := zMk (zRb (uR HO396.out) hb); replace HO400 := zMk (zRb (uR HO400.out) hb); have BK403 := zMk (hbox); have GW403 := zMk ((by rw [hg]; exact (zBs (uT HB.out)) : w.heap.size ≤ gb403)); have GE403 := zMk ((by rw [hg]; exact (zBs (uT HB.out)) : w.heap.size ≤ gb403)); have IGE403 := ownGe GE403.out; replace HB := zMk (zBt (uT HB.out) hb); have NB402_403 := zMk ((by rw [hg]; exact Nat.ne_of_lt (blk_lt BK402.out) : gb402 ≠ gb403)); have NB403_402 := zMk ((by rw [hg]; exact Nat.ne_of_gt (blk_lt BK402.out) : gb403 ≠ gb402)); replace BK402 := zMk (zKb BK402.out hb); clear hb hbox hg; have hnb49 := NB402_403.out; have hnc49 := NB403_402.out; have hcz50_0 : w48.cell? ⟨gb402, 0, none⟩ = some (.bool false) := (zKc BK402.out 0).trans rfl; have hcz50_1 : w48.cell? ⟨gb402, 1, none⟩ = some (.slice none 0 0) := (zKc BK402.out 1).trans rfl; have hfz50_0 := zKf BK402.out 0; have hfz50_1 := zKf BK402.out 1; obtain ⟨Ao51, co51, eo51⟩ := zRs HO396.out; subst eo51; have hcz52_0 : w48.cell? ⟨gb403, 0, none⟩ = some (.bool false) := (zKc BK403.out 0).trans rfl; have hcz52_1 : w48.cell? ⟨gb403, 1, none⟩ = some (.slice none 0 0) := (zKc BK403.out 1).trans rfl; have hfz52_0 := zKf BK403.out 0; have hfz52_1 := zKf BK403.out 1; obtain ⟨Ao53, co53, eo53⟩ := zRs HO400.out; subst eo53)|((with_reducible refine gate_callee (f:=31) rfl ?_); refine goesL_ (some 14) rfl rfl Tryd.func31 (by kernel_rfl) rfl #[.int .i64 (-8)] rfl (by (try simp only [zMa, zMc, zMn]); first |  done|  rfl|  (simp only [zLd, zLt]; rfl)) ?_; (with_reducible refine (integer_Of.calls (-8) t404 t405 _ A4.out).mono ?_); rintro e w54 ⟨v406, rfl, ho0, hb⟩; refine ⟨_, rfl, ?_⟩; have HO407 := zMk (zRl (zRw (zRw (zRw (zRw ho0 (zRt (zRm (zRm (Kd.R_far (p:=⟨gb403, 1, none⟩) (Kd.R_far (p:=⟨gb403, 0, none⟩) (Kd.R_far (p:=⟨gb402, 1, none⟩) (Kd.R_far (p:=⟨gb402, 0, none⟩) (Kd.R_types (Kd.R_types HO388.out BK402.out (by decide)) BK403.out (by decide)) (fun _ hk => hk.1.2) (.bool t393)) (fun _ hk => hk.1.2) (.slice Ao51 t394.length co51)) (fun _ hk => hk.2) (.bool t397)) (fun _ hk => hk.2) (.slice Ao53 t398.length co53)) (fun _ h_ => h_.1)) (fun _ h_ => h_.1)))) (zRt (zRm (zRm (Kd.R_far (p:=⟨gb403, 1, none⟩) (Kd.R_far (p:=⟨gb403, 0, none⟩) (Kd.R_far (p:=⟨gb402, 1, none⟩) (Kd.R_far (p:=⟨gb402, 0, none⟩) (Kd.R_types (Kd.R_types HO392.out BK402.out (by decide)) BK403.out (by decide)) (fun _ hk => hk.1.2) (.bool t393)) (fun _ hk => hk.1.2) (.slice Ao51 t394.length co51)) (fun _ hk => hk.2) (.bool t397)) (fun _ hk => hk.2) (.slice Ao53 t398.length co53)) (fun _ h_ => h_.1)) (fun _ h_ => h_.1)))) (zRt (zRm (zRm (Kd.R_far (p:=⟨gb403, 1, none⟩) (Kd.R_far (p:=⟨gb403, 0, none⟩) (Kd.R_far (p:=⟨gb402, 1, none⟩) (Kd.R_far (p:=⟨gb402, 0, none⟩) (Kd.R_types (Kd.R_types HO396.out BK402.out (by decide)) BK403.out (by decide)) (fun _ hk => hk.1.2) (.bool t393)) (fun _ hk => hk.1.2) (.slice Ao51 t394.length co51)) (fun _ hk => hk.2) (.bool t397)) (fun _ hk => hk.2) (.slice Ao53 t398.length co53)) (fun _ h_ => h_.1)) (fun _ h_ => h_.1)))) (zRt (zRm (zRm (Kd.R_far (p:=⟨gb403, 1, none⟩) (Kd.R_far (p:=⟨gb403, 0, none⟩) (Kd.R_far (p:=⟨gb402, 1, none⟩) (Kd.R_far (p:=⟨gb402, 0, none⟩) (Kd.R_types (Kd.R_types HO400.out BK402.out (by decide)) BK403.out (by decide)) (fun _ hk => hk.1.2) (.bool t393)) (fun _ hk => hk.1.2) (.slice Ao51 t394.length co51)) (fun _ hk => hk.2) (.bool t397)) (fun _ hk => hk.2) (.slice Ao53 t398.length co53)) (fun _ h_ => h_.1)) (fun _ h_ => h_.1)))) (zBs (uT HB.out))); replace HO388 := zMk (zRe (zRm (zRm (Kd.R_far (p:=⟨gb403, 1, none⟩) (Kd.R_far (p:=⟨gb403, 0, none⟩) (Kd.R_far (p:=⟨gb402, 1, none⟩) (Kd.R_far (p:=⟨gb402, 0, none⟩) (Kd.R_types (Kd.R_types HO388.out BK402.out (by decide)) BK403.out (by decide)) (fun _ hk => hk.1.2) (.bool t393)) (fun _ hk => hk.1.2) (.slice Ao51 t394.length co51)) (fun _ hk => hk.2) (.bool t397)) (fun _ hk => hk.2) (.slice Ao53 t398.length co53)) (fun _ h_ => h_.1)) (fun _ h_ => h_.1)) (zRz ho0) hb); replace HO392 := zMk (zRe (zRm (zRm (Kd.R_far (p:=⟨gb403, 1, none⟩) (Kd.R_far (p:=⟨gb403, 0, none⟩) (Kd.R_far (p:=⟨gb402, 1, none⟩) (Kd.R_far (p:=⟨gb402, 0, none⟩) (Kd.R_types (Kd.R_types HO392.out BK402.out (by decide)) BK403.out (by decide)) (fun _ hk => hk.1.2) (.bool t393)) (fun _ hk => hk.1.2) (.slice Ao51 t394.length co51)) (fun _ hk => hk.2) (.bool t397)) (fun _ hk => hk.2) (.slice Ao53 t398.length co53)) (fun _ h_ => h_.1)) (fun _ h_ => h_.1)) (zRz ho0) hb); replace HO396 := zMk (zRe (zRm (zRm (Kd.R_far (p:=⟨gb403, 1, none⟩) (Kd.R_far (p:=⟨gb403, 0, none⟩) (Kd.R_far (p:=⟨gb402, 1, none⟩) (Kd.R_far (p:=⟨gb402, 0, none⟩) (Kd.R_types (Kd.R_types HO396.out BK402.out (by decide)) BK403.out (by decide)) (fun _ hk => hk.1.2) (.bool t393)) (fun _ hk => hk.1.2) (.slice Ao51 t394.length co51)) (fun _ hk => hk.2) (.bool t397)) (fun _ hk => hk.2) (.slice Ao53 t398.length co53)) (fun _ h_ => h_.1)) (fun _ h_ => h_.1)) (zRz ho0) hb); replace HO400 := zMk (zRe (zRm (zRm (Kd.R_far (p:=⟨gb403, 1, none⟩) (Kd.R_far (p:=⟨gb403, 0, none⟩) (Kd.R_far (p:=⟨gb402, 1, none⟩) (Kd.R_far (p:=⟨gb402, 0, none⟩) (Kd.R_types (Kd.R_types HO400.out BK402.out (by decide)) BK403.out (by decide)) (fun _ hk => hk.1.2) (.bool t393)) (fun _ hk => hk.1.2) (.slice Ao51 t394.length co51)) (fun _ hk => hk.2) (.bool t397)) (fun _ hk => hk.2) (.slice Ao53 t398.length co53)) (fun _ h_ => h_.1)) (fun _ h_ => h_.1)) (zRz ho0) hb); replace BK402 := zMk (zKb (g:=gb402) (o:=.cells #[.bool t393, .slice Ao51 t394.length co51] 24 (0, 0)) (by (with_reducible repeat (first |  refine zKn ?_ _|  refine zKd ?_|  refine zKa ?_ _)); refine blk_far ?_ NB402_403.out _; (with_reducible repeat (first |  refine zKn ?_ _|  refine zKd ?_|  refine zKa ?_ _)); refine blk_far ?_ NB402_403.out _; (with_reducible repeat (first |  refine zKn ?_ _|  refine zKd ?_|  refine zKa ?_ _)); refine blk_put (cs:=#[.bool t393, .slice none 0 0]) ?_ 1 _ rfl; (with_reducible repeat (first |  refine zKn ?_ _|  refine zKd ?_|  refine zKa ?_ _)); refine blk_put (cs:=#[.bool false, .slice none 0 0]) ?_ 0 _ rfl; (with_reducible repeat (first |  refine zKn ?_ _|  refine zKd ?_|  refine zKa ?_ _)); exact BK402.out) hb); replace BK403 := zMk (zKb (g:=gb403) (o:=.cells #[.bool t397, .slice Ao53 t398.length co53] 24 (0, 0)) (by (with_reducible repeat (first |  refine zKn ?_ _|  refine zKd ?_|  refine zKa ?_ _)); refine blk_put (cs:=#[.bool t397, .slice none 0 0]) ?_ 1 _ rfl; (with_reducible repeat (first |  refine zKn ?_ _|  refine zKd ?_|  refine zKa ?_ _)); refine blk_put (cs:=#[.bool false, .slice none 0 0]) ?_ 0 _ rfl; (with_reducible repeat (first |  refine zKn ?_ _|  refine zKd ?_|  refine zKa ?_ _)); refine blk_far ?_ NB403_402.out _; (with_reducible repeat (first |  refine zKn ?_ _|  refine zKd ?_|  refine zKa ?_ _)); refine blk_far ?_ NB403_402.out _; (with_reducible repeat (first |  refine zKn ?_ _|  refine zKd ?_|  refine zKa ?_ _)); exact BK403.out) hb); replace HB := zMk (zBt (uT HB.out) hb))|((with_reducible refine gate_callee (f:=31) rfl ?_); refine goesL_ (some 15) rfl rfl Tryd.func31 (by kernel_rfl) rfl #[.int .i64 2] rfl (by (try simp only [zMa, zMc, zMn]); first |  done|  rfl|  (simp only [zLd, zLt]; rfl)) ?_; (with_reducible refine (integer_Of.calls 2 t408 t409 _ A5.out).mono ?_); rintro e w55 ⟨v410, rfl, ho0, hb⟩; refine ⟨_, rfl, ?_⟩; have HO411 := zMk (zRl (zRw (zRw (zRw (zRw (zRw ho0 (zRt (uR HO388.out))) (zRt (uR HO392.out))) (zRt (uR HO396.out))) (zRt (uR HO400.out))) (zRt (uR HO407.out))) (zBs (uT HB.out))); replace HO388 := zMk (zRe (uR HO388.out) (zRz ho0) hb); replace HO392 := zMk (zRe (uR HO392.out) (zRz ho0) hb); replace HO396 := zMk (zRe (uR HO396.out) (zRz ho0) hb); replace HO400 := zMk (zRe (uR HO400.out) (zRz ho0) hb); replace HO407 := zMk (zRe (uR HO407.out) (zRz ho0) hb); replace BK402 := zMk (zKb BK402.out hb); replace BK403 := zMk (zKb BK403.out hb); replace HB := zMk (zBt (uT HB.out) hb); obtain ⟨Ao56, co56, eo56⟩ := zRs HO407.out; subst eo56; obtain ⟨Ao57, co57, eo57⟩ := zRs HO411.out; subst eo57)|((with_reducible refine gate_callee (f:=14) rfl ?_); refine goesL_ (some 16) rfl rfl Tryd.func14 (by kernel_rfl) rfl #[.agg #[.bool t404, .slice Ao56 t405.length co56], .agg #[.bool t408, .slice Ao57 t409.length co57]] rfl (by (try simp only [zMa, zMc, zMn]); first |  done|  rfl|  (simp only [zLd, zLt]; rfl)) ?_; (with_reducible refine (integer_Exact.calls k t404 _ _ t405 t408 _ _ t409 t412 t413 t416 _ ?side1 ?side2 ?side3 ?side4 A6.out).mono ?_); (case side1 => exact uC (zRr HO407.out).2.2); (case side2 => exact (zRr HO407.out).2.1); (case side3 => exact uC (zRr HO411.out).2.2); (case side4 => exact (zRr HO411.out).2.1); rintro e w58 ⟨v414, rfl, ho0, hb⟩; refine ⟨_, rfl, ?_⟩; have HO415 := zMk (zRl (zRw (zRw (zRw (zRw (zRw (zRw ho0 (zRt (uR HO388.out))) (zRt (uR HO392.out))) (zRt (uR HO396.out))) (zRt (uR HO400.out))) (zRt (uR HO407.out))) (zRt (uR HO411.out))) (zBs (uT HB.out))); replace HO388 := zMk (zRe (uR HO388.out) (zRz ho0) hb); replace HO392 := zMk (zRe (uR HO392.out) (zRz ho0) hb); replace HO396 := zMk (zRe (uR HO396.out) (zRz ho0) hb); replace HO400 := zMk (zRe (uR HO400.out) (zRz ho0) hb); replace HO407 := zMk (zRe (uR HO407.out) (zRz ho0) hb); replace HO411 := zMk (zRe (uR HO411.out) (zRz ho0) hb); replace BK402 := zMk (zKb BK402.out hb); replace BK403 := zMk (zKb BK403.out hb); replace HB := zMk (zBt (uT HB.out) hb))|((with_reducible refine gate_dst (N:=4) rfl ?_); refine box_event ?hg (N:=4) ?hd (cs:=#[.bool false, .slice none 0 0]) (t:=24) ?hr ?_; (case hd => rfl); (case hg => rfl); (case hr => first | (go_simp; done)|(go_simp; rfl)|(go_simp; rw [show ∀ x : Int, IntKind.u32.wrap (IntKind.u8.wrap x) = x % 256 from fun x => (by show (x % 256) % 4294967296 = x % 256; omega)])); intro gb417 hg w59 hbox hb; replace HO388 := zMk (zRb (uR HO388.out) hb); replace HO392 := zMk (zRb (uR HO392.out) hb); replace HO396 := zMk (zRb (uR HO396.out) hb); replace HO400 := zMk (zRb (uR HO400.out) hb); replace HO407 := zMk (zRb (uR HO407.out) hb); replace HO411 := zMk (zRb (uR HO411.out) hb); replace HO415 := zMk (zRb (uR HO415.out) hb); have BK417 := zMk (hbox); have GW417 := zMk ((by rw [hg]; exact (zBs (uT HB.out)) : w.heap.size ≤ gb417)); have GE417 := zMk ((by rw [hg]; exact (zBs (uT HB.out)) : w.heap.size ≤ gb417)); have IGE417 := ownGe GE417.out; replace HB := zMk (zBt (uT HB.out) hb); have NB402_417 := zMk ((by rw [hg]; exact Nat.ne_of_lt (blk_lt BK402.out) : gb402 ≠ gb417)); have NB417_402 := zMk ((by rw [hg]; exact Nat.ne_of_gt (blk_lt BK402.out) : gb417 ≠ gb402)); replace BK402 := zMk (zKb BK402.out hb); have NB403_417 := zMk ((by rw [hg]; exact Nat.ne_of_lt (blk_lt BK403.out) : gb403 ≠ gb417)); have NB417_403 := zMk ((by rw [hg]; exact Nat.ne_of_gt (blk_lt BK403.out) : gb417 ≠ gb403)); replace BK403 := zMk (zKb BK403.out hb); clear hb hbox hg; have hnb60 := NB417_402.out; have hnc60 := NB402_417.out; have hnb61 := NB417_403.out; have hnc61 := NB403_417.out; have hcz62_0 : w59.cell? ⟨gb417, 0, none⟩ = some (.bool false) := (zKc BK417.out 0).trans rfl; have hcz62_1 : w59.cell? ⟨gb417, 1, none⟩ = some (.slice none 0 0) := (zKc BK417.out 1).trans rfl; have hfz62_0 := zKf BK417.out 0; have hfz62_1 := zKf BK417.out 1; obtain ⟨Ao63, co63, eo63⟩ := zRs HO415.out; subst eo63; have hcz64_0 : w59.cell? ⟨gb402, 0, none⟩ = some (.bool t393) := (zKc BK402.out 0).trans rfl; have hcz64_1 : w59.cell? ⟨gb402, 1, none⟩ = some (.slice Ao51 t394.length co51) := (zKc BK402.out 1).trans rfl; have hfz64_0 := zKf BK402.out 0; have hfz64_1 := zKf BK402.out 1)|(go_at_call 29; (with_reducible refine (integer_Text.calls k t393 _ _ t394 t418 _ ?side1 ?side2 A9.out).mono ?_); (case side1 => refine (zRr (e:=58) (base:=w.heap.size) (ok:=fun k_ => (((((some k_ ≠ (.slice Ao53 t398.length co53 : Value).ownBlock ∧ some k_ ≠ (.slice Ao44 t386.length co44 : Value).ownBlock) ∧ some k_ ≠ (.slice Ao45 t390.length co45 : Value).ownBlock) ∧ some k_ ≠ (.slice Ao56 t405.length co56 : Value).ownBlock) ∧ some k_ ≠ (.slice Ao57 t409.length co57 : Value).ownBlock) ∧ some k_ ≠ (.slice Ao63 t413.length co63 : Value).ownBlock)) (n:=t394.length) (c:=co51) ?_).2.2; exact (zRm (Kd.R_far (p:=⟨gb417, 1, none⟩) (Kd.R_far (p:=⟨gb417, 0, none⟩) (Kd.R_types HO396.out BK417.out (by decide)) (fun _ hk => hk.2) (.bool t412)) (fun _ hk => hk.2) (.slice Ao63 t413.length co63)) (fun _ h_ => h_.1))); (case side2 => exact (zRr HO396.out).2.1); rintro e w65 ⟨rfl, hb⟩; replace HO388 := zMk (zRb (zRm (Kd.R_far (p:=⟨gb417, 1, none⟩) (Kd.R_far (p:=⟨gb417, 0, none⟩) (Kd.R_types HO388.out BK417.out (by decide)) (fun _ hk => hk.2) (.bool t412)) (fun _ hk => hk.2) (.slice Ao63 t413.length co63)) (fun _ h_ => h_.1)) hb); replace HO392 := zMk (zRb (zRm (Kd.R_far (p:=⟨gb417, 1, none⟩) (Kd.R_far (p:=⟨gb417, 0, none⟩) (Kd.R_types HO392.out BK417.out (by decide)) (fun _ hk => hk.2) (.bool t412)) (fun _ hk => hk.2) (.slice Ao63 t413.length co63)) (fun _ h_ => h_.1)) hb); replace HO396 := zMk (zRb (zRm (Kd.R_far (p:=⟨gb417, 1, none⟩) (Kd.R_far (p:=⟨gb417, 0, none⟩) (Kd.R_types HO396.out BK417.out (by decide)) (fun _ hk => hk.2) (.bool t412)) (fun _ hk => hk.2) (.slice Ao63 t413.length co63)) (fun _ h_ => h_.1)) hb); replace HO400 := zMk (zRb (zRm (Kd.R_far (p:=⟨gb417, 1, none⟩) (Kd.R_far (p:=⟨gb417, 0, none⟩) (Kd.R_types HO400.out BK417.out (by decide)) (fun _ hk => hk.2) (.bool t412)) (fun _ hk => hk.2) (.slice Ao63 t413.length co63)) (fun _ h_ => h_.1)) hb); replace HO407 := zMk (zRb (zRm (Kd.R_far (p:=⟨gb417, 1, none⟩) (Kd.R_far (p:=⟨gb417, 0, none⟩) (Kd.R_types HO407.out BK417.out (by decide)) (fun _ hk => hk.2) (.bool t412)) (fun _ hk => hk.2) (.slice Ao63 t413.length co63)) (fun _ h_ => h_.1)) hb); replace HO411 := zMk (zRb (zRm (Kd.R_far (p:=⟨gb417, 1, none⟩) (Kd.R_far (p:=⟨gb417, 0, none⟩) (Kd.R_types HO411.out BK417.out (by decide)) (fun _ hk => hk.2) (.bool t412)) (fun _ hk => hk.2) (.slice Ao63 t413.length co63)) (fun _ h_ => h_.1)) hb); replace HO415 := zMk (zRb (zRm (Kd.R_far (p:=⟨gb417, 1, none⟩) (Kd.R_far (p:=⟨gb417, 0, none⟩) (Kd.R_types HO415.out BK417.out (by decide)) (fun _ hk => hk.2) (.bool t412)) (fun _ hk => hk.2) (.slice Ao63 t413.length co63)) (fun _ h_ => h_.1)) hb); replace BK402 := zMk (zKb (g:=gb402) (o:=.cells #[.bool t393, .slice Ao51 t394.length co51] 24 (0, 0)) (by (with_reducible repeat (first |  refine zKn ?_ _|  refine zKd ?_|  refine zKa ?_ _)); refine blk_far ?_ NB402_417.out _; (with_reducible repeat (first |  refine zKn ?_ _|  refine zKd ?_|  refine zKa ?_ _)); refine blk_far ?_ NB402_417.out _; (with_reducible repeat (first |  refine zKn ?_ _|  refine zKd ?_|  refine zKa ?_ _)); exact BK402.out) hb); replace BK403 := zMk (zKb (g:=gb403) (o:=.cells #[.bool t397, .slice Ao53 t398.length co53] 24 (0, 0)) (by (with_reducible repeat (first |  refine zKn ?_ _|  refine zKd ?_|  refine zKa ?_ _)); refine blk_far ?_ NB403_417.out _; (with_reducible repeat (first |  refine zKn ?_ _|  refine zKd ?_|  refine zKa ?_ _)); refine blk_far ?_ NB403_417.out _; (with_reducible repeat (first |  refine zKn ?_ _|  refine zKd ?_|  refine zKa ?_ _)); exact BK403.out) hb); replace BK417 := zMk (zKb (g:=gb417) (o:=.cells #[.bool t412, .slice Ao63 t413.length co63] 24 (0, 0)) (by (with_reducible repeat (first |  refine zKn ?_ _|  refine zKd ?_|  refine zKa ?_ _)); refine blk_put (cs:=#[.bool t412, .slice none 0 0]) ?_ 1 _ rfl; (with_reducible repeat (first |  refine zKn ?_ _|  refine zKd ?_|  refine zKa ?_ _)); refine blk_put (cs:=#[.bool false, .slice none 0 0]) ?_ 0 _ rfl; (with_reducible repeat (first |  refine zKn ?_ _|  refine zKd ?_|  refine zKa ?_ _)); exact BK417.out) hb); replace HB := zMk (zBt (uT HB.out) hb); have hcz66_0 : w65.cell? ⟨gb403, 0, none⟩ = some (.bool t397) := (zKc BK403.out 0).trans rfl; have hcz66_1 : w65.cell? ⟨gb403, 1, none⟩ = some (.slice Ao53 t398.length co53) := (zKc BK403.out 1).trans rfl; have hfz66_0 := zKf BK403.out 0; have hfz66_1 := zKf BK403.out 1)|(go_at_call 29; (with_reducible refine (integer_Text.calls k t397 _ _ t398 t419 _ ?side1 ?side2 A11.out).mono ?_); (case side1 => exact uC (zRr HO400.out).2.2); (case side2 => exact (zRr HO400.out).2.1); rintro e w67 ⟨rfl, hb⟩; replace HO388 := zMk (zRb (uR HO388.out) hb); replace HO392 := zMk (zRb (uR HO392.out) hb); replace HO396 := zMk (zRb (uR HO396.out) hb); replace HO400 := zMk (zRb (uR HO400.out) hb); replace HO407 := zMk (zRb (uR HO407.out) hb); replace HO411 := zMk (zRb (uR HO411.out) hb); replace HO415 := zMk (zRb (uR HO415.out) hb); replace BK402 := zMk (zKb BK402.out hb); replace BK403 := zMk (zKb BK403.out hb); replace BK417 := zMk (zKb BK417.out hb); replace HB := zMk (zBt (uT HB.out) hb)))
     go_ret
     exact ⟨by first | rfl | (simp [errW_none, errW_some] <;> rfl) | (simp [*, errW_none, errW_some] <;> rfl), by exact uT HB.out⟩
   ·rw [if_neg c10] at H
    have c10b0 : (t418.toList == ([45, 52] : List UInt8)) = false := beq_eq_false_iff_ne.mpr c10
    have c10b1 : (t418.toList != ([45, 52] : List UInt8)) = true := bne_iff_ne.mpr c10
    obtain rfl := zOi H
    go_enter Tryd.func11, Tryd.ntmps11
    go_wp2_with (first | ((with_reducible refine gate_callee (f:=31) rfl ?_); refine goesL_ (some 7) rfl rfl Tryd.func31 (by kernel_rfl) rfl #[.int .i64 (-7)] rfl (by (try simp only [zMa, zMc, zMn]); first |  done|  rfl|  (simp only [zLd, zLt]; rfl)) ?_; (with_reducible refine (integer_Of.calls (-7) t385 t386 _ A1.out).mono ?_); rintro e w68 ⟨v387, rfl, ho0, hb⟩; refine ⟨_, rfl, ?_⟩; have HO388 := zMk (zRl ho0 (zBs (uT HB.out))); replace HB := zMk (zBt (uT HB.out) hb))|((with_reducible refine gate_callee (f:=31) rfl ?_); refine goesL_ (some 8) rfl rfl Tryd.func31 (by kernel_rfl) rfl #[.int .i64 2] rfl (by (try simp only [zMa, zMc, zMn]); first |  done|  rfl|  (simp only [zLd, zLt]; rfl)) ?_; (with_reducible refine (integer_Of.calls 2 t389 t390 _ A2.out).mono ?_); rintro e w69 ⟨v391, rfl, ho0, hb⟩; refine ⟨_, rfl, ?_⟩; have HO392 := zMk (zRl (zRw ho0 (zRt (uR HO388.out))) (zBs (uT HB.out))); replace HO388 := zMk (zRe (uR HO388.out) (zRz ho0) hb); replace HB := zMk (zBt (uT HB.out) hb); obtain ⟨Ao70, co70, eo70⟩ := zRs HO388.out; subst eo70; obtain ⟨Ao71, co71, eo71⟩ := zRs HO392.out; subst eo71)|((with_reducible refine gate_callee (f:=12) rfl ?_); refine goesL_ (some 9) rfl rfl Tryd.func12 (by kernel_rfl) rfl #[.agg #[.bool t385, .slice Ao70 t386.length co70], .agg #[.bool t389, .slice Ao71 t390.length co71]] rfl (by (try simp only [zMa, zMc, zMn]); first |  done|  rfl|  (simp only [zLd, zLt]; rfl)) ?_; (with_reducible refine (integer_DivMod.calls k t385 _ _ t386 t389 _ _ t390 t393 t394 t397 t398 t401 _ ?side1 ?side2 ?side3 ?side4 A3.out).mono ?_); (case side1 => exact uC (zRr HO388.out).2.2); (case side2 => exact (zRr HO388.out).2.1); (case side3 => exact uC (zRr HO392.out).2.2); (case side4 => exact (zRr HO392.out).2.1); rintro e w72 ⟨v395, v399, rfl, ho0, ho1, hb⟩; refine ⟨_, rfl, ?_⟩; have HO396 := zMk (zRl (zRw (zRw ho0 (zRt (uR HO388.out))) (zRt (uR HO392.out))) (zBs (uT HB.out))); have HO400 := zMk (zRl (zRw (zRw ho1 (zRt (uR HO388.out))) (zRt (uR HO392.out))) (zBs (uT HB.out))); replace HO388 := zMk (zRm (Kd.R_told (Kd.R_told (Kd.R_old (uR HO388.out) hb) (zRz ho0)) (zRz ho1)) (fun _ h_ => h_.1)); replace HO392 := zMk (zRm (Kd.R_told (Kd.R_told (Kd.R_old (uR HO392.out) hb) (zRz ho0)) (zRz ho1)) (fun _ h_ => h_.1)); replace HB := zMk (zBt (uT HB.out) hb))|((with_reducible refine gate_dst (N:=1) rfl ?_); refine box_event ?hg (N:=1) ?hd (cs:=#[.bool false, .slice none 0 0]) (t:=24) ?hr ?_; (case hd => rfl); (case hg => rfl); (case hr => first | (go_simp; done)|(go_simp; rfl)|(go_simp; rw [show ∀ x : Int, IntKind.u32.wrap (IntKind.u8.wrap x) = x % 256 from fun x => (by show (x % 256) % 4294967296 = x % 256; omega)])); intro gb402 hg w73 hbox hb; replace HO388 := zMk (zRb (uR HO388.out) hb); replace HO392 := zMk (zRb (uR HO392.out) hb); replace HO396 := zMk (zRb (uR HO396.out) hb); replace HO400 := zMk (zRb (uR HO400.out) hb); have BK402 := zMk (hbox); have GW402 := zMk ((by rw [hg]; exact (zBs (uT HB.out)) : w.heap.size ≤ gb402)); have GE402 := zMk ((by rw [hg]; exact (zBs (uT HB.out)) : w.heap.size ≤ gb402)); have IGE402 := ownGe GE402.out; replace HB := zMk (zBt (uT HB.out) hb); clear hb hbox hg)|((with_reducible refine gate_dst (N:=2) rfl ?_); refine box_event ?hg (N:=2) ?hd (cs:=#[.bool false, .slice none 0 0]) (t:=24) ?hr ?_; (case hd => rfl); (case hg => rfl); (case hr => first | (go_simp; done)|(go_simp; rfl)|(go_simp; rw [show ∀ x : Int, IntKind.u32.wrap (IntKind.u8.wrap x) = x % 256 from fun x => (by show (x % 256) % 4294967296 = x % 256; omega)])); intro gb403 hg w74 hbox hb; replace HO388 := zMk (zRb (uR HO388.out) hb); replace HO392 := zMk (zRb (uR HO392.out) hb); replace HO396 := zMk (zRb (uR HO396.out) hb); replace HO400 := zMk (zRb (uR HO400.out) hb); have BK403 := zMk (hbox); have GW403 := zMk ((by rw [hg]; exact (zBs (uT HB.out)) : w.heap.size ≤ gb403)); have GE403 := zMk ((by rw [hg]; exact (zBs (uT HB.out)) : w.heap.size ≤ gb403)); have IGE403 := ownGe GE403.out; replace HB := zMk (zBt (uT HB.out) hb); have NB402_403 := zMk ((by rw [hg]; exact Nat.ne_of_lt (blk_lt BK402.out) : gb402 ≠ gb403)); have NB403_402 := zMk ((by rw [hg]; exact Nat.ne_of_gt (blk_lt BK402.out) : gb403 ≠ gb402)); replace BK402 := zMk (zKb BK402.out hb); clear hb hbox hg; have hnb75 := NB402_403.out; have hnc75 := NB403_402.out; have hcz76_0 : w74.cell? ⟨gb402, 0, none⟩ = some (.bool false) := (zKc BK402.out 0).trans rfl; have hcz76_1 : w74.cell? ⟨gb402, 1, none⟩ = some (.slice none 0 0) := (zKc BK402.out 1).trans rfl; have hfz76_0 := zKf BK402.out 0; have hfz76_1 := zKf BK402.out 1; obtain ⟨Ao77, co77, eo77⟩ := zRs HO396.out; subst eo77; have hcz78_0 : w74.cell? ⟨gb403, 0, none⟩ = some (.bool false) := (zKc BK403.out 0).trans rfl; have hcz78_1 : w74.cell? ⟨gb403, 1, none⟩ = some (.slice none 0 0) := (zKc BK403.out 1).trans rfl; have hfz78_0 := zKf BK403.out 0; have hfz78_1 := zKf BK403.out 1; obtain ⟨Ao79, co79, eo79⟩ := zRs HO400.out; subst eo79)|((with_reducible refine gate_callee (f:=31) rfl ?_); refine goesL_ (some 14) rfl rfl Tryd.func31 (by kernel_rfl) rfl #[.int .i64 (-8)] rfl (by (try simp only [zMa, zMc, zMn]); first |  done|  rfl|  (simp only [zLd, zLt]; rfl)) ?_; (with_reducible refine (integer_Of.calls (-8) t404 t405 _ A4.out).mono ?_); rintro e w80 ⟨v406, rfl, ho0, hb⟩; refine ⟨_, rfl, ?_⟩; have HO407 := zMk (zRl (zRw (zRw (zRw (zRw ho0 (zRt (zRm (zRm (Kd.R_far (p:=⟨gb403, 1, none⟩) (Kd.R_far (p:=⟨gb403, 0, none⟩) (Kd.R_far (p:=⟨gb402, 1, none⟩) (Kd.R_far (p:=⟨gb402, 0, none⟩) (Kd.R_types (Kd.R_types HO388.out BK402.out (by decide)) BK403.out (by decide)) (fun _ hk => hk.1.2) (.bool t393)) (fun _ hk => hk.1.2) (.slice Ao77 t394.length co77)) (fun _ hk => hk.2) (.bool t397)) (fun _ hk => hk.2) (.slice Ao79 t398.length co79)) (fun _ h_ => h_.1)) (fun _ h_ => h_.1)))) (zRt (zRm (zRm (Kd.R_far (p:=⟨gb403, 1, none⟩) (Kd.R_far (p:=⟨gb403, 0, none⟩) (Kd.R_far (p:=⟨gb402, 1, none⟩) (Kd.R_far (p:=⟨gb402, 0, none⟩) (Kd.R_types (Kd.R_types HO392.out BK402.out (by decide)) BK403.out (by decide)) (fun _ hk => hk.1.2) (.bool t393)) (fun _ hk => hk.1.2) (.slice Ao77 t394.length co77)) (fun _ hk => hk.2) (.bool t397)) (fun _ hk => hk.2) (.slice Ao79 t398.length co79)) (fun _ h_ => h_.1)) (fun _ h_ => h_.1)))) (zRt (zRm (zRm (Kd.R_far (p:=⟨gb403, 1, none⟩) (Kd.R_far (p:=⟨gb403, 0, none⟩) (Kd.R_far (p:=⟨gb402, 1, none⟩) (Kd.R_far (p:=⟨gb402, 0, none⟩) (Kd.R_types (Kd.R_types HO396.out BK402.out (by decide)) BK403.out (by decide)) (fun _ hk => hk.1.2) (.bool t393)) (fun _ hk => hk.1.2) (.slice Ao77 t394.length co77)) (fun _ hk => hk.2) (.bool t397)) (fun _ hk => hk.2) (.slice Ao79 t398.length co79)) (fun _ h_ => h_.1)) (fun _ h_ => h_.1)))) (zRt (zRm (zRm (Kd.R_far (p:=⟨gb403, 1, none⟩) (Kd.R_far (p:=⟨gb403, 0, none⟩) (Kd.R_far (p:=⟨gb402, 1, none⟩) (Kd.R_far (p:=⟨gb402, 0, none⟩) (Kd.R_types (Kd.R_types HO400.out BK402.out (by decide)) BK403.out (by decide)) (fun _ hk => hk.1.2) (.bool t393)) (fun _ hk => hk.1.2) (.slice Ao77 t394.length co77)) (fun _ hk => hk.2) (.bool t397)) (fun _ hk => hk.2) (.slice Ao79 t398.length co79)) (fun _ h_ => h_.1)) (fun _ h_ => h_.1)))) (zBs (uT HB.out))); replace HO388 := zMk (zRe (zRm (zRm (Kd.R_far (p:=⟨gb403, 1, none⟩) (Kd.R_far (p:=⟨gb403, 0, none⟩) (Kd.R_far (p:=⟨gb402, 1, none⟩) (Kd.R_far (p:=⟨gb402, 0, none⟩) (Kd.R_types (Kd.R_types HO388.out BK402.out (by decide)) BK403.out (by decide)) (fun _ hk => hk.1.2) (.bool t393)) (fun _ hk => hk.1.2) (.slice Ao77 t394.length co77)) (fun _ hk => hk.2) (.bool t397)) (fun _ hk => hk.2) (.slice Ao79 t398.length co79)) (fun _ h_ => h_.1)) (fun _ h_ => h_.1)) (zRz ho0) hb); replace HO392 := zMk (zRe (zRm (zRm (Kd.R_far (p:=⟨gb403, 1, none⟩) (Kd.R_far (p:=⟨gb403, 0, none⟩) (Kd.R_far (p:=⟨gb402, 1, none⟩) (Kd.R_far (p:=⟨gb402, 0, none⟩) (Kd.R_types (Kd.R_types HO392.out BK402.out (by decide)) BK403.out (by decide)) (fun _ hk => hk.1.2) (.bool t393)) (fun _ hk => hk.1.2) (.slice Ao77 t394.length co77)) (fun _ hk => hk.2) (.bool t397)) (fun _ hk => hk.2) (.slice Ao79 t398.length co79)) (fun _ h_ => h_.1)) (fun _ h_ => h_.1)) (zRz ho0) hb); replace HO396 := zMk (zRe (zRm (zRm (Kd.R_far (p:=⟨gb403, 1, none⟩) (Kd.R_far (p:=⟨gb403, 0, none⟩) (Kd.R_far (p:=⟨gb402, 1, none⟩) (Kd.R_far (p:=⟨gb402, 0, none⟩) (Kd.R_types (Kd.R_types HO396.out BK402.out (by decide)) BK403.out (by decide)) (fun _ hk => hk.1.2) (.bool t393)) (fun _ hk => hk.1.2) (.slice Ao77 t394.length co77)) (fun _ hk => hk.2) (.bool t397)) (fun _ hk => hk.2) (.slice Ao79 t398.length co79)) (fun _ h_ => h_.1)) (fun _ h_ => h_.1)) (zRz ho0) hb); replace HO400 := zMk (zRe (zRm (zRm (Kd.R_far (p:=⟨gb403, 1, none⟩) (Kd.R_far (p:=⟨gb403, 0, none⟩) (Kd.R_far (p:=⟨gb402, 1, none⟩) (Kd.R_far (p:=⟨gb402, 0, none⟩) (Kd.R_types (Kd.R_types HO400.out BK402.out (by decide)) BK403.out (by decide)) (fun _ hk => hk.1.2) (.bool t393)) (fun _ hk => hk.1.2) (.slice Ao77 t394.length co77)) (fun _ hk => hk.2) (.bool t397)) (fun _ hk => hk.2) (.slice Ao79 t398.length co79)) (fun _ h_ => h_.1)) (fun _ h_ => h_.1)) (zRz ho0) hb); replace BK402 := zMk (zKb (g:=gb402) (o:=.cells #[.bool t393, .slice Ao77 t394.length co77] 24 (0, 0)) (by (with_reducible repeat (first |  refine zKn ?_ _|  refine zKd ?_|  refine zKa ?_ _)); refine blk_far ?_ NB402_403.out _; (with_reducible repeat (first |  refine zKn ?_ _|  refine zKd ?_|  refine zKa ?_ _)); refine blk_far ?_ NB402_403.out _; (with_reducible repeat (first |  refine zKn ?_ _|  refine zKd ?_|  refine zKa ?_ _)); refine blk_put (cs:=#[.bool t393, .slice none 0 0]) ?_ 1 _ rfl; (with_reducible repeat (first |  refine zKn ?_ _|  refine zKd ?_|  refine zKa ?_ _)); refine blk_put (cs:=#[.bool false, .slice none 0 0]) ?_ 0 _ rfl; (with_reducible repeat (first |  refine zKn ?_ _|  refine zKd ?_|  refine zKa ?_ _)); exact BK402.out) hb); replace BK403 := zMk (zKb (g:=gb403) (o:=.cells #[.bool t397, .slice Ao79 t398.length co79] 24 (0, 0)) (by (with_reducible repeat (first |  refine zKn ?_ _|  refine zKd ?_|  refine zKa ?_ _)); refine blk_put (cs:=#[.bool t397, .slice none 0 0]) ?_ 1 _ rfl; (with_reducible repeat (first |  refine zKn ?_ _|  refine zKd ?_|  refine zKa ?_ _)); refine blk_put (cs:=#[.bool false, .slice none 0 0]) ?_ 0 _ rfl; (with_reducible repeat (first |  refine zKn ?_ _|  refine zKd ?_|  refine zKa ?_ _)); refine blk_far ?_ NB403_402.out _; (with_reducible repeat (first |  refine zKn ?_ _|  refine zKd ?_|  refine zKa ?_ _)); refine blk_far ?_ NB403_402.out _; (with_reducible repeat (first |  refine zKn ?_ _|  refine zKd ?_|  refine zKa ?_ _)); exact BK403.out) hb); replace HB := zMk (zBt (uT HB.out) hb))|((with_reducible refine gate_callee (f:=31) rfl ?_); refine goesL_ (some 15) rfl rfl Tryd.func31 (by kernel_rfl) rfl #[.int .i64 2] rfl (by (try simp only [zMa, zMc, zMn]); first |  done|  rfl|  (simp only [zLd, zLt]; rfl)) ?_; (with_reducible refine (integer_Of.calls 2 t408 t409 _ A5.out).mono ?_); rintro e w81 ⟨v410, rfl, ho0, hb⟩; refine ⟨_, rfl, ?_⟩; have HO411 := zMk (zRl (zRw (zRw (zRw (zRw (zRw ho0 (zRt (uR HO388.out))) (zRt (uR HO392.out))) (zRt (uR HO396.out))) (zRt (uR HO400.out))) (zRt (uR HO407.out))) (zBs (uT HB.out))); replace HO388 := zMk (zRe (uR HO388.out) (zRz ho0) hb); replace HO392 := zMk (zRe (uR HO392.out) (zRz ho0) hb); replace HO396 := zMk (zRe (uR HO396.out) (zRz ho0) hb); replace HO400 := zMk (zRe (uR HO400.out) (zRz ho0) hb); replace HO407 := zMk (zRe (uR HO407.out) (zRz ho0) hb); replace BK402 := zMk (zKb BK402.out hb); replace BK403 := zMk (zKb BK403.out hb); replace HB := zMk (zBt (uT HB.out) hb); obtain ⟨Ao82, co82, eo82⟩ := zRs HO407.out; subst eo82; obtain ⟨Ao83, co83, eo83⟩ := zRs HO411.out; subst eo83)|((with_reducible refine gate_callee (f:=14) rfl ?_); refine goesL_ (some 16) rfl rfl Tryd.func14 (by kernel_rfl) rfl #[.agg #[.bool t404, .slice Ao82 t405.length co82], .agg #[.bool t408, .slice Ao83 t409.length co83]] rfl (by (try simp only [zMa, zMc, zMn]); first |  done|  rfl|  (simp only [zLd, zLt]; rfl)) ?_; (with_reducible refine (integer_Exact.calls k t404 _ _ t405 t408 _ _ t409 t412 t413 t416 _ ?side1 ?side2 ?side3 ?side4 A6.out).mono ?_); (case side1 => exact uC (zRr HO407.out).2.2); (case side2 => exact (zRr HO407.out).2.1); (case side3 => exact uC (zRr HO411.out).2.2); (case side4 => exact (zRr HO411.out).2.1); rintro e w84 ⟨v414, rfl, ho0, hb⟩; refine ⟨_, rfl, ?_⟩; have HO415 := zMk (zRl (zRw (zRw (zRw (zRw (zRw (zRw ho0 (zRt (uR HO388.out))) (zRt (uR HO392.out))) (zRt (uR HO396.out))) (zRt (uR HO400.out))) (zRt (uR HO407.out))) (zRt (uR HO411.out))) (zBs (uT HB.out))); replace HO388 := zMk (zRe (uR HO388.out) (zRz ho0) hb); replace HO392 := zMk (zRe (uR HO392.out) (zRz ho0) hb); replace HO396 := zMk (zRe (uR HO396.out) (zRz ho0) hb); replace HO400 := zMk (zRe (uR HO400.out) (zRz ho0) hb); replace HO407 := zMk (zRe (uR HO407.out) (zRz ho0) hb); replace HO411 := zMk (zRe (uR HO411.out) (zRz ho0) hb); replace BK402 := zMk (zKb BK402.out hb); replace BK403 := zMk (zKb BK403.out hb); replace HB := zMk (zBt (uT HB.out) hb))|((with_reducible refine gate_dst (N:=4) rfl ?_); refine box_event ?hg (N:=4) ?hd (cs:=#[.bool false, .slice none 0 0]) (t:=24) ?hr ?_; (case hd => rfl); (case hg => rfl); (case hr => first | (go_simp; done)|(go_simp; rfl)|(go_simp; rw [show ∀ x : Int, IntKind.u32.wrap (IntKind.u8.wrap x) = x % 256 from fun x => (by show (x % 256) % 4294967296 = x % 256; omega)])); intro gb417 hg w85 hbox hb; replace HO388 := zMk (zRb (uR HO388.out) hb); replace HO392 := zMk (zRb (uR HO392.out) hb); replace HO396 := zMk (zRb (uR HO396.out) hb); replace HO400 := zMk (zRb (uR HO400.out) hb); replace HO407 := zMk (zRb (uR HO407.out) hb); replace HO411 := zMk (zRb (uR HO411.out) hb); replace HO415 := zMk (zRb (uR HO415.out) hb); have BK417 := zMk (hbox); have GW417 := zMk ((by rw [hg]; exact (zBs (uT HB.out)) : w.heap.size ≤ gb417)); have GE417 := zMk ((by rw [hg]; exact (zBs (uT HB.out)) : w.heap.size ≤ gb417)); have IGE417 := ownGe GE417.out; replace HB := zMk (zBt (uT HB.out) hb); have NB402_417 := zMk ((by rw [hg]; exact Nat.ne_of_lt (blk_lt BK402.out) : gb402 ≠ gb417)); have NB417_402 := zMk ((by rw [hg]; exact Nat.ne_of_gt (blk_lt BK402.out) : gb417 ≠ gb402)); replace BK402 := zMk (zKb BK402.out hb); have NB403_417 := zMk ((by rw [hg]; exact Nat.ne_of_lt (blk_lt BK403.out) : gb403 ≠ gb417)); have NB417_403 := zMk ((by rw [hg]; exact Nat.ne_of_gt (blk_lt BK403.out) : gb417 ≠ gb403)); replace BK403 := zMk (zKb BK403.out hb); clear hb hbox hg; have hnb86 := NB417_402.out; have hnc86 := NB402_417.out; have hnb87 := NB417_403.out; have hnc87 := NB403_417.out; have hcz88_0 : w85.cell? ⟨gb417, 0, none⟩ = some (.bool false) := (zKc BK417.out 0).trans rfl; have hcz88_1 : w85.cell? ⟨gb417, 1, none⟩ = some (.slice none 0 0) := (zKc BK417.out 1).trans rfl; have hfz88_0 := zKf BK417.out 0; have hfz88_1 := zKf BK417.out 1; obtain ⟨Ao89, co89, eo89⟩ := zRs HO415.out; subst eo89; have hcz90_0 : w85.cell? ⟨gb402, 0, none⟩ = some (.bool t393) := (zKc BK402.out 0).trans rfl; have hcz90_1 : w85.cell? ⟨gb402, 1, none⟩ = some (.slice Ao77 t394.length co77) := (zKc BK402.out 1).trans rfl; have hfz90_0 := zKf BK402.out 0; have hfz90_1 := zKf BK402.out 1)|(go_at_call 29; (with_reducible refine (integer_Text.calls k t393 _ _ t394 t418 _ ?side1 ?side2 A9.out).mono ?_); (case side1 => refine (zRr (e:=58) (base:=w.heap.size) (ok:=fun k_ => (((((some k_ ≠ (.slice Ao79 t398.length co79 : Value).ownBlock ∧ some k_ ≠ (.slice Ao70 t386.length co70 : Value).ownBlock) ∧ some k_ ≠ (.slice Ao71 t390.length co71 : Value).ownBlock) ∧ some k_ ≠ (.slice Ao82 t405.length co82 : Value).ownBlock) ∧ some k_ ≠ (.slice Ao83 t409.length co83 : Value).ownBlock) ∧ some k_ ≠ (.slice Ao89 t413.length co89 : Value).ownBlock)) (n:=t394.length) (c:=co77) ?_).2.2; exact (zRm (Kd.R_far (p:=⟨gb417, 1, none⟩) (Kd.R_far (p:=⟨gb417, 0, none⟩) (Kd.R_types HO396.out BK417.out (by decide)) (fun _ hk => hk.2) (.bool t412)) (fun _ hk => hk.2) (.slice Ao89 t413.length co89)) (fun _ h_ => h_.1))); (case side2 => exact (zRr HO396.out).2.1); rintro e w91 ⟨rfl, hb⟩; replace HO388 := zMk (zRb (zRm (Kd.R_far (p:=⟨gb417, 1, none⟩) (Kd.R_far (p:=⟨gb417, 0, none⟩) (Kd.R_types HO388.out BK417.out (by decide)) (fun _ hk => hk.2) (.bool t412)) (fun _ hk => hk.2) (.slice Ao89 t413.length co89)) (fun _ h_ => h_.1)) hb); replace HO392 := zMk (zRb (zRm (Kd.R_far (p:=⟨gb417, 1, none⟩) (Kd.R_far (p:=⟨gb417, 0, none⟩) (Kd.R_types HO392.out BK417.out (by decide)) (fun _ hk => hk.2) (.bool t412)) (fun _ hk => hk.2) (.slice Ao89 t413.length co89)) (fun _ h_ => h_.1)) hb); replace HO396 := zMk (zRb (zRm (Kd.R_far (p:=⟨gb417, 1, none⟩) (Kd.R_far (p:=⟨gb417, 0, none⟩) (Kd.R_types HO396.out BK417.out (by decide)) (fun _ hk => hk.2) (.bool t412)) (fun _ hk => hk.2) (.slice Ao89 t413.length co89)) (fun _ h_ => h_.1)) hb); replace HO400 := zMk (zRb (zRm (Kd.R_far (p:=⟨gb417, 1, none⟩) (Kd.R_far (p:=⟨gb417, 0, none⟩) (Kd.R_types HO400.out BK417.out (by decide)) (fun _ hk => hk.2) (.bool t412)) (fun _ hk => hk.2) (.slice Ao89 t413.length co89)) (fun _ h_ => h_.1)) hb); replace HO407 := zMk (zRb (zRm (Kd.R_far (p:=⟨gb417, 1, none⟩) (Kd.R_far (p:=⟨gb417, 0, none⟩) (Kd.R_types HO407.out BK417.out (by decide)) (fun _ hk => hk.2) (.bool t412)) (fun _ hk => hk.2) (.slice Ao89 t413.length co89)) (fun _ h_ => h_.1)) hb); replace HO411 := zMk (zRb (zRm (Kd.R_far (p:=⟨gb417, 1, none⟩) (Kd.R_far (p:=⟨gb417, 0, none⟩) (Kd.R_types HO411.out BK417.out (by decide)) (fun _ hk => hk.2) (.bool t412)) (fun _ hk => hk.2) (.slice Ao89 t413.length co89)) (fun _ h_ => h_.1)) hb); replace HO415 := zMk (zRb (zRm (Kd.R_far (p:=⟨gb417, 1, none⟩) (Kd.R_far (p:=⟨gb417, 0, none⟩) (Kd.R_types HO415.out BK417.out (by decide)) (fun _ hk => hk.2) (.bool t412)) (fun _ hk => hk.2) (.slice Ao89 t413.length co89)) (fun _ h_ => h_.1)) hb); replace BK402 := zMk (zKb (g:=gb402) (o:=.cells #[.bool t393, .slice Ao77 t394.length co77] 24 (0, 0)) (by (with_reducible repeat (first |  refine zKn ?_ _|  refine zKd ?_|  refine zKa ?_ _)); refine blk_far ?_ NB402_417.out _; (with_reducible repeat (first |  refine zKn ?_ _|  refine zKd ?_|  refine zKa ?_ _)); refine blk_far ?_ NB402_417.out _; (with_reducible repeat (first |  refine zKn ?_ _|  refine zKd ?_|  refine zKa ?_ _)); exact BK402.out) hb); replace BK403 := zMk (zKb (g:=gb403) (o:=.cells #[.bool t397, .slice Ao79 t398.length co79] 24 (0, 0)) (by (with_reducible repeat (first |  refine zKn ?_ _|  refine zKd ?_|  refine zKa ?_ _)); refine blk_far ?_ NB403_417.out _; (with_reducible repeat (first |  refine zKn ?_ _|  refine zKd ?_|  refine zKa ?_ _)); refine blk_far ?_ NB403_417.out _; (with_reducible repeat (first |  refine zKn ?_ _|  refine zKd ?_|  refine zKa ?_ _)); exact BK403.out) hb); replace BK417 := zMk (zKb (g:=gb417) (o:=.cells #[.bool t412, .slice Ao89 t413.length co89] 24 (0, 0)) (by (with_reducible repeat (first |  refine zKn ?_ _|  refine zKd ?_|  refine zKa ?_ _)); refine blk_put (cs:=#[.bool t412, .slice none 0 0]) ?_ 1 _ rfl; (with_reducible repeat (first |  refine zKn ?_ _|  refine zKd ?_|  refine zKa ?_ _)); refine blk_put (cs:=#[.bool false, .slice none 0 0]) ?_ 0 _ rfl; (with_reducible repeat (first |  refine zKn ?_ _|  refine zKd ?_|  refine zKa ?_ _)); exact BK417.out) hb); replace HB := zMk (zBt (uT HB.out) hb)))
    go_ret
    exact ⟨by first | rfl | (simp [errW_none, errW_some] <;> rfl) | (simp [*, errW_none, errW_some] <;> rfl), by exact uT HB.out⟩
  ·rw [if_neg c8] at H
   have c8b0 : (t416 == 0) = false := beq_eq_false_iff_ne.mpr c8
   have c8b1 : (t416 != 0) = true := bne_iff_ne.mpr c8
   obtain rfl := zOi H
   go_enter Tryd.func11, Tryd.ntmps11
   go_wp2_with (first | ((with_reducible refine gate_callee (f:=31) rfl ?_); refine goesL_ (some 7) rfl rfl Tryd.func31 (by kernel_rfl) rfl #[.int .i64 (-7)] rfl (by (try simp only [zMa, zMc, zMn]); first |  done|  rfl|  (simp only [zLd, zLt]; rfl)) ?_; (with_reducible refine (integer_Of.calls (-7) t385 t386 _ A1.out).mono ?_); rintro e w92 ⟨v387, rfl, ho0, hb⟩; refine ⟨_, rfl, ?_⟩; have HO388 := zMk (zRl ho0 (zBs (uT HB.out))); replace HB := zMk (zBt (uT HB.out) hb))|((with_reducible refine gate_callee (f:=31) rfl ?_); refine goesL_ (some 8) rfl rfl Tryd.func31 (by kernel_rfl) rfl #[.int .i64 2] rfl (by (try simp only [zMa, zMc, zMn]); first |  done|  rfl|  (simp only [zLd, zLt]; rfl)) ?_; (with_reducible refine (integer_Of.calls 2 t389 t390 _ A2.out).mono ?_); rintro e w93 ⟨v391, rfl, ho0, hb⟩; refine ⟨_, rfl, ?_⟩; have HO392 := zMk (zRl (zRw ho0 (zRt (uR HO388.out))) (zBs (uT HB.out))); replace HO388 := zMk (zRe (uR HO388.out) (zRz ho0) hb); replace HB := zMk (zBt (uT HB.out) hb); obtain ⟨Ao94, co94, eo94⟩ := zRs HO388.out; subst eo94; obtain ⟨Ao95, co95, eo95⟩ := zRs HO392.out; subst eo95)|((with_reducible refine gate_callee (f:=12) rfl ?_); refine goesL_ (some 9) rfl rfl Tryd.func12 (by kernel_rfl) rfl #[.agg #[.bool t385, .slice Ao94 t386.length co94], .agg #[.bool t389, .slice Ao95 t390.length co95]] rfl (by (try simp only [zMa, zMc, zMn]); first |  done|  rfl|  (simp only [zLd, zLt]; rfl)) ?_; (with_reducible refine (integer_DivMod.calls k t385 _ _ t386 t389 _ _ t390 t393 t394 t397 t398 t401 _ ?side1 ?side2 ?side3 ?side4 A3.out).mono ?_); (case side1 => exact uC (zRr HO388.out).2.2); (case side2 => exact (zRr HO388.out).2.1); (case side3 => exact uC (zRr HO392.out).2.2); (case side4 => exact (zRr HO392.out).2.1); rintro e w96 ⟨v395, v399, rfl, ho0, ho1, hb⟩; refine ⟨_, rfl, ?_⟩; have HO396 := zMk (zRl (zRw (zRw ho0 (zRt (uR HO388.out))) (zRt (uR HO392.out))) (zBs (uT HB.out))); have HO400 := zMk (zRl (zRw (zRw ho1 (zRt (uR HO388.out))) (zRt (uR HO392.out))) (zBs (uT HB.out))); replace HO388 := zMk (zRm (Kd.R_told (Kd.R_told (Kd.R_old (uR HO388.out) hb) (zRz ho0)) (zRz ho1)) (fun _ h_ => h_.1)); replace HO392 := zMk (zRm (Kd.R_told (Kd.R_told (Kd.R_old (uR HO392.out) hb) (zRz ho0)) (zRz ho1)) (fun _ h_ => h_.1)); replace HB := zMk (zBt (uT HB.out) hb))|((with_reducible refine gate_dst (N:=1) rfl ?_); refine box_event ?hg (N:=1) ?hd (cs:=#[.bool false, .slice none 0 0]) (t:=24) ?hr ?_; (case hd => rfl); (case hg => rfl); (case hr => first | (go_simp; done)|(go_simp; rfl)|(go_simp; rw [show ∀ x : Int, IntKind.u32.wrap (IntKind.u8.wrap x) = x % 256 from fun x => (by show (x % 256) % 4294967296 = x % 256; omega)])); intro gb402 hg w97 hbox hb; replace HO388 := zMk (zRb (uR HO388.out) hb); replace HO392 := zMk (zRb (uR HO392.out) hb); replace HO396 := zMk (zRb (uR HO396.out) hb); replace HO400 := zMk (zRb (uR HO400.out) hb); have BK402 := zMk (hbox); have GW402 := zMk ((by rw [hg]; exact (zBs (uT HB.out)) : w.heap.size ≤ gb402)); have GE402 := zMk ((by rw [hg]; exact (zBs (uT HB.out)) : w.heap.size ≤ gb402)); have IGE402 := ownGe GE402.out; replace HB := zMk (zBt (uT HB.out) hb); clear hb hbox hg)|((with_reducible refine gate_dst (N:=2) rfl ?_); refine box_event ?hg (N:=2) ?hd (cs:=#[.bool false, .slice none 0 0]) (t:=24) ?hr ?_; (case hd => rfl); (case hg => rfl); (case hr => first | (go_simp; done)|(go_simp; rfl)|(go_simp; rw [show ∀ x : Int, IntKind.u32.wrap (IntKind.u8.wrap x) = x % 256 from fun x => (by show (x % 256) % 4294967296 = x % 256; omega)])); intro gb403 hg w98 hbox hb; replace HO388 := zMk (zRb (uR HO388.out) hb); replace HO392 := zMk (zRb (uR HO392.out) hb); replace HO396 := zMk (zRb (uR HO396.out) hb); replace HO400 := zMk (zRb (uR HO400.out) hb); have BK403 := zMk (hbox); have GW403 := zMk ((by rw [hg]; exact (zBs (uT HB.out)) : w.heap.size ≤ gb403)); have GE403 := zMk ((by rw [hg]; exact (zBs (uT HB.out)) : w.heap.size ≤ gb403)); have IGE403 := ownGe GE403.out; replace HB := zMk (zBt (uT HB.out) hb); have NB402_403 := zMk ((by rw [hg]; exact Nat.ne_of_lt (blk_lt BK402.out) : gb402 ≠ gb403)); have NB403_402 := zMk ((by rw [hg]; exact Nat.ne_of_gt (blk_lt BK402.out) : gb403 ≠ gb402)); replace BK402 := zMk (zKb BK402.out hb); clear hb hbox hg; have hnb99 := NB402_403.out; have hnc99 := NB403_402.out; have hcz100_0 : w98.cell? ⟨gb402, 0, none⟩ = some (.bool false) := (zKc BK402.out 0).trans rfl; have hcz100_1 : w98.cell? ⟨gb402, 1, none⟩ = some (.slice none 0 0) := (zKc BK402.out 1).trans rfl; have hfz100_0 := zKf BK402.out 0; have hfz100_1 := zKf BK402.out 1; obtain ⟨Ao101, co101, eo101⟩ := zRs HO396.out; subst eo101; have hcz102_0 : w98.cell? ⟨gb403, 0, none⟩ = some (.bool false) := (zKc BK403.out 0).trans rfl; have hcz102_1 : w98.cell? ⟨gb403, 1, none⟩ = some (.slice none 0 0) := (zKc BK403.out 1).trans rfl; have hfz102_0 := zKf BK403.out 0; have hfz102_1 := zKf BK403.out 1; obtain ⟨Ao103, co103, eo103⟩ := zRs HO400.out; subst eo103)|((with_reducible refine gate_callee (f:=31) rfl ?_); refine goesL_ (some 14) rfl rfl Tryd.func31 (by kernel_rfl) rfl #[.int .i64 (-8)] rfl (by (try simp only [zMa, zMc, zMn]); first |  done|  rfl|  (simp only [zLd, zLt]; rfl)) ?_; (with_reducible refine (integer_Of.calls (-8) t404 t405 _ A4.out).mono ?_); rintro e w104 ⟨v406, rfl, ho0, hb⟩; refine ⟨_, rfl, ?_⟩; have HO407 := zMk (zRl (zRw (zRw (zRw (zRw ho0 (zRt (zRm (zRm (Kd.R_far (p:=⟨gb403, 1, none⟩) (Kd.R_far (p:=⟨gb403, 0, none⟩) (Kd.R_far (p:=⟨gb402, 1, none⟩) (Kd.R_far (p:=⟨gb402, 0, none⟩) (Kd.R_types (Kd.R_types HO388.out BK402.out (by decide)) BK403.out (by decide)) (fun _ hk => hk.1.2) (.bool t393)) (fun _ hk => hk.1.2) (.slice Ao101 t394.length co101)) (fun _ hk => hk.2) (.bool t397)) (fun _ hk => hk.2) (.slice Ao103 t398.length co103)) (fun _ h_ => h_.1)) (fun _ h_ => h_.1)))) (zRt (zRm (zRm (Kd.R_far (p:=⟨gb403, 1, none⟩) (Kd.R_far (p:=⟨gb403, 0, none⟩) (Kd.R_far (p:=⟨gb402, 1, none⟩) (Kd.R_far (p:=⟨gb402, 0, none⟩) (Kd.R_types (Kd.R_types HO392.out BK402.out (by decide)) BK403.out (by decide)) (fun _ hk => hk.1.2) (.bool t393)) (fun _ hk => hk.1.2) (.slice Ao101 t394.length co101)) (fun _ hk => hk.2) (.bool t397)) (fun _ hk => hk.2) (.slice Ao103 t398.length co103)) (fun _ h_ => h_.1)) (fun _ h_ => h_.1)))) (zRt (zRm (zRm (Kd.R_far (p:=⟨gb403, 1, none⟩) (Kd.R_far (p:=⟨gb403, 0, none⟩) (Kd.R_far (p:=⟨gb402, 1, none⟩) (Kd.R_far (p:=⟨gb402, 0, none⟩) (Kd.R_types (Kd.R_types HO396.out BK402.out (by decide)) BK403.out (by decide)) (fun _ hk => hk.1.2) (.bool t393)) (fun _ hk => hk.1.2) (.slice Ao101 t394.length co101)) (fun _ hk => hk.2) (.bool t397)) (fun _ hk => hk.2) (.slice Ao103 t398.length co103)) (fun _ h_ => h_.1)) (fun _ h_ => h_.1)))) (zRt (zRm (zRm (Kd.R_far (p:=⟨gb403, 1, none⟩) (Kd.R_far (p:=⟨gb403, 0, none⟩) (Kd.R_far (p:=⟨gb402, 1, none⟩) (Kd.R_far (p:=⟨gb402, 0, none⟩) (Kd.R_types (Kd.R_types HO400.out BK402.out (by decide)) BK403.out (by decide)) (fun _ hk => hk.1.2) (.bool t393)) (fun _ hk => hk.1.2) (.slice Ao101 t394.length co101)) (fun _ hk => hk.2) (.bool t397)) (fun _ hk => hk.2) (.slice Ao103 t398.length co103)) (fun _ h_ => h_.1)) (fun _ h_ => h_.1)))) (zBs (uT HB.out))); replace HO388 := zMk (zRe (zRm (zRm (Kd.R_far (p:=⟨gb403, 1, none⟩) (Kd.R_far (p:=⟨gb403, 0, none⟩) (Kd.R_far (p:=⟨gb402, 1, none⟩) (Kd.R_far (p:=⟨gb402, 0, none⟩) (Kd.R_types (Kd.R_types HO388.out BK402.out (by decide)) BK403.out (by decide)) (fun _ hk => hk.1.2) (.bool t393)) (fun _ hk => hk.1.2) (.slice Ao101 t394.length co101)) (fun _ hk => hk.2) (.bool t397)) (fun _ hk => hk.2) (.slice Ao103 t398.length co103)) (fun _ h_ => h_.1)) (fun _ h_ => h_.1)) (zRz ho0) hb); replace HO392 := zMk (zRe (zRm (zRm (Kd.R_far (p:=⟨gb403, 1, none⟩) (Kd.R_far (p:=⟨gb403, 0, none⟩) (Kd.R_far (p:=⟨gb402, 1, none⟩) (Kd.R_far (p:=⟨gb402, 0, none⟩) (Kd.R_types (Kd.R_types HO392.out BK402.out (by decide)) BK403.out (by decide)) (fun _ hk => hk.1.2) (.bool t393)) (fun _ hk => hk.1.2) (.slice Ao101 t394.length co101)) (fun _ hk => hk.2) (.bool t397)) (fun _ hk => hk.2) (.slice Ao103 t398.length co103)) (fun _ h_ => h_.1)) (fun _ h_ => h_.1)) (zRz ho0) hb); replace HO396 := zMk (zRe (zRm (zRm (Kd.R_far (p:=⟨gb403, 1, none⟩) (Kd.R_far (p:=⟨gb403, 0, none⟩) (Kd.R_far (p:=⟨gb402, 1, none⟩) (Kd.R_far (p:=⟨gb402, 0, none⟩) (Kd.R_types (Kd.R_types HO396.out BK402.out (by decide)) BK403.out (by decide)) (fun _ hk => hk.1.2) (.bool t393)) (fun _ hk => hk.1.2) (.slice Ao101 t394.length co101)) (fun _ hk => hk.2) (.bool t397)) (fun _ hk => hk.2) (.slice Ao103 t398.length co103)) (fun _ h_ => h_.1)) (fun _ h_ => h_.1)) (zRz ho0) hb); replace HO400 := zMk (zRe (zRm (zRm (Kd.R_far (p:=⟨gb403, 1, none⟩) (Kd.R_far (p:=⟨gb403, 0, none⟩) (Kd.R_far (p:=⟨gb402, 1, none⟩) (Kd.R_far (p:=⟨gb402, 0, none⟩) (Kd.R_types (Kd.R_types HO400.out BK402.out (by decide)) BK403.out (by decide)) (fun _ hk => hk.1.2) (.bool t393)) (fun _ hk => hk.1.2) (.slice Ao101 t394.length co101)) (fun _ hk => hk.2) (.bool t397)) (fun _ hk => hk.2) (.slice Ao103 t398.length co103)) (fun _ h_ => h_.1)) (fun _ h_ => h_.1)) (zRz ho0) hb); replace BK402 := zMk (zKb (g:=gb402) (o:=.cells #[.bool t393, .slice Ao101 t394.length co101] 24 (0, 0)) (by (with_reducible repeat (first |  refine zKn ?_ _|  refine zKd ?_|  refine zKa ?_ _)); refine blk_far ?_ NB402_403.out _; (with_reducible repeat (first |  refine zKn ?_ _|  refine zKd ?_|  refine zKa ?_ _)); refine blk_far ?_ NB402_403.out _; (with_reducible repeat (first |  refine zKn ?_ _|  refine zKd ?_|  refine zKa ?_ _)); refine blk_put (cs:=#[.bool t393, .slice none 0 0]) ?_ 1 _ rfl; (with_reducible repeat (first |  refine zKn ?_ _|  refine zKd ?_|  refine zKa ?_ _)); refine blk_put (cs:=#[.bool false, .slice none 0 0]) ?_ 0 _ rfl; (with_reducible repeat (first |  refine zKn ?_ _|  refine zKd ?_|  refine zKa ?_ _)); exact BK402.out) hb); replace BK403 := zMk (zKb (g:=gb403) (o:=.cells #[.bool t397, .slice Ao103 t398.length co103] 24 (0, 0)) (by (with_reducible repeat (first |  refine zKn ?_ _|  refine zKd ?_|  refine zKa ?_ _)); refine blk_put (cs:=#[.bool t397, .slice none 0 0]) ?_ 1 _ rfl; (with_reducible repeat (first |  refine zKn ?_ _|  refine zKd ?_|  refine zKa ?_ _)); refine blk_put (cs:=#[.bool false, .slice none 0 0]) ?_ 0 _ rfl; (with_reducible repeat (first |  refine zKn ?_ _|  refine zKd ?_|  refine zKa ?_ _)); refine blk_far ?_ NB403_402.out _; (with_reducible repeat (first |  refine zKn ?_ _|  refine zKd ?_|  refine zKa ?_ _)); refine blk_far ?_ NB403_402.out _; (with_reducible repeat (first |  refine zKn ?_ _|  refine zKd ?_|  refine zKa ?_ _)); exact BK403.out) hb); replace HB := zMk (zBt (uT HB.out) hb))|((with_reducible refine gate_callee (f:=31) rfl ?_); refine goesL_ (some 15) rfl rfl Tryd.func31 (by kernel_rfl) rfl #[.int .i64 2] rfl (by (try simp only [zMa, zMc, zMn]); first |  done|  rfl|  (simp only [zLd, zLt]; rfl)) ?_; (with_reducible refine (integer_Of.calls 2 t408 t409 _ A5.out).mono ?_); rintro e w105 ⟨v410, rfl, ho0, hb⟩; refine ⟨_, rfl, ?_⟩; have HO411 := zMk (zRl (zRw (zRw (zRw (zRw (zRw ho0 (zRt (uR HO388.out))) (zRt (uR HO392.out))) (zRt (uR HO396.out))) (zRt (uR HO400.out))) (zRt (uR HO407.out))) (zBs (uT HB.out))); replace HO388 := zMk (zRe (uR HO388.out) (zRz ho0) hb); replace HO392 := zMk (zRe (uR HO392.out) (zRz ho0) hb); replace HO396 := zMk (zRe (uR HO396.out) (zRz ho0) hb); replace HO400 := zMk (zRe (uR HO400.out) (zRz ho0) hb); replace HO407 := zMk (zRe (uR HO407.out) (zRz ho0) hb); replace BK402 := zMk (zKb BK402.out hb); replace BK403 := zMk (zKb BK403.out hb); replace HB := zMk (zBt (uT HB.out) hb); obtain ⟨Ao106, co106, eo106⟩ := zRs HO407.out; subst eo106; obtain ⟨Ao107, co107, eo107⟩ := zRs HO411.out; subst eo107)|((with_reducible refine gate_callee (f:=14) rfl ?_); refine goesL_ (some 16) rfl rfl Tryd.func14 (by kernel_rfl) rfl #[.agg #[.bool t404, .slice Ao106 t405.length co106], .agg #[.bool t408, .slice Ao107 t409.length co107]] rfl (by (try simp only [zMa, zMc, zMn]); first |  done|  rfl|  (simp only [zLd, zLt]; rfl)) ?_; (with_reducible refine (integer_Exact.calls k t404 _ _ t405 t408 _ _ t409 t412 t413 t416 _ ?side1 ?side2 ?side3 ?side4 A6.out).mono ?_); (case side1 => exact uC (zRr HO407.out).2.2); (case side2 => exact (zRr HO407.out).2.1); (case side3 => exact uC (zRr HO411.out).2.2); (case side4 => exact (zRr HO411.out).2.1); rintro e w108 ⟨v414, rfl, ho0, hb⟩; refine ⟨_, rfl, ?_⟩; have HO415 := zMk (zRl (zRw (zRw (zRw (zRw (zRw (zRw ho0 (zRt (uR HO388.out))) (zRt (uR HO392.out))) (zRt (uR HO396.out))) (zRt (uR HO400.out))) (zRt (uR HO407.out))) (zRt (uR HO411.out))) (zBs (uT HB.out))); replace HO388 := zMk (zRe (uR HO388.out) (zRz ho0) hb); replace HO392 := zMk (zRe (uR HO392.out) (zRz ho0) hb); replace HO396 := zMk (zRe (uR HO396.out) (zRz ho0) hb); replace HO400 := zMk (zRe (uR HO400.out) (zRz ho0) hb); replace HO407 := zMk (zRe (uR HO407.out) (zRz ho0) hb); replace HO411 := zMk (zRe (uR HO411.out) (zRz ho0) hb); replace BK402 := zMk (zKb BK402.out hb); replace BK403 := zMk (zKb BK403.out hb); replace HB := zMk (zBt (uT HB.out) hb))|((with_reducible refine gate_dst (N:=4) rfl ?_); refine box_event ?hg (N:=4) ?hd (cs:=#[.bool false, .slice none 0 0]) (t:=24) ?hr ?_; (case hd => rfl); (case hg => rfl); (case hr => first | (go_simp; done)|(go_simp; rfl)|(go_simp; rw [show ∀ x : Int, IntKind.u32.wrap (IntKind.u8.wrap x) = x % 256 from fun x => (by show (x % 256) % 4294967296 = x % 256; omega)])); intro gb417 hg w109 hbox hb; replace HO388 := zMk (zRb (uR HO388.out) hb); replace HO392 := zMk (zRb (uR HO392.out) hb); replace HO396 := zMk (zRb (uR HO396.out) hb); replace HO400 := zMk (zRb (uR HO400.out) hb); replace HO407 := zMk (zRb (uR HO407.out) hb); replace HO411 := zMk (zRb (uR HO411.out) hb); replace HO415 := zMk (zRb (uR HO415.out) hb); have BK417 := zMk (hbox); have GW417 := zMk ((by rw [hg]; exact (zBs (uT HB.out)) : w.heap.size ≤ gb417)); have GE417 := zMk ((by rw [hg]; exact (zBs (uT HB.out)) : w.heap.size ≤ gb417)); have IGE417 := ownGe GE417.out; replace HB := zMk (zBt (uT HB.out) hb); have NB402_417 := zMk ((by rw [hg]; exact Nat.ne_of_lt (blk_lt BK402.out) : gb402 ≠ gb417)); have NB417_402 := zMk ((by rw [hg]; exact Nat.ne_of_gt (blk_lt BK402.out) : gb417 ≠ gb402)); replace BK402 := zMk (zKb BK402.out hb); have NB403_417 := zMk ((by rw [hg]; exact Nat.ne_of_lt (blk_lt BK403.out) : gb403 ≠ gb417)); have NB417_403 := zMk ((by rw [hg]; exact Nat.ne_of_gt (blk_lt BK403.out) : gb417 ≠ gb403)); replace BK403 := zMk (zKb BK403.out hb); clear hb hbox hg; have hnb110 := NB417_402.out; have hnc110 := NB402_417.out; have hnb111 := NB417_403.out; have hnc111 := NB403_417.out; have hcz112_0 : w109.cell? ⟨gb417, 0, none⟩ = some (.bool false) := (zKc BK417.out 0).trans rfl; have hcz112_1 : w109.cell? ⟨gb417, 1, none⟩ = some (.slice none 0 0) := (zKc BK417.out 1).trans rfl; have hfz112_0 := zKf BK417.out 0; have hfz112_1 := zKf BK417.out 1; obtain ⟨Ao113, co113, eo113⟩ := zRs HO415.out; subst eo113))
   go_ret
   exact ⟨by first | rfl | (simp [errW_none, errW_some] <;> rfl) | (simp [*, errW_none, errW_some] <;> rfl), by exact uT HB.out⟩
 ·rw [if_neg c7] at H
  have c7b0 : (t401 == 0) = false := beq_eq_false_iff_ne.mpr c7
  have c7b1 : (t401 != 0) = true := bne_iff_ne.mpr c7
  obtain rfl := zOi H
  go_enter Tryd.func11, Tryd.ntmps11
  go_wp2_with (first | ((with_reducible refine gate_callee (f:=31) rfl ?_); refine goesL_ (some 7) rfl rfl Tryd.func31 (by kernel_rfl) rfl #[.int .i64 (-7)] rfl (by (try simp only [zMa, zMc, zMn]); first |  done|  rfl|  (simp only [zLd, zLt]; rfl)) ?_; (with_reducible refine (integer_Of.calls (-7) t385 t386 _ A1.out).mono ?_); rintro e w114 ⟨v387, rfl, ho0, hb⟩; refine ⟨_, rfl, ?_⟩; have HO388 := zMk (zRl ho0 (zBs (uT HB.out))); replace HB := zMk (zBt (uT HB.out) hb))|((with_reducible refine gate_callee (f:=31) rfl ?_); refine goesL_ (some 8) rfl rfl Tryd.func31 (by kernel_rfl) rfl #[.int .i64 2] rfl (by (try simp only [zMa, zMc, zMn]); first |  done|  rfl|  (simp only [zLd, zLt]; rfl)) ?_; (with_reducible refine (integer_Of.calls 2 t389 t390 _ A2.out).mono ?_); rintro e w115 ⟨v391, rfl, ho0, hb⟩; refine ⟨_, rfl, ?_⟩; have HO392 := zMk (zRl (zRw ho0 (zRt (uR HO388.out))) (zBs (uT HB.out))); replace HO388 := zMk (zRe (uR HO388.out) (zRz ho0) hb); replace HB := zMk (zBt (uT HB.out) hb); obtain ⟨Ao116, co116, eo116⟩ := zRs HO388.out; subst eo116; obtain ⟨Ao117, co117, eo117⟩ := zRs HO392.out; subst eo117)|((with_reducible refine gate_callee (f:=12) rfl ?_); refine goesL_ (some 9) rfl rfl Tryd.func12 (by kernel_rfl) rfl #[.agg #[.bool t385, .slice Ao116 t386.length co116], .agg #[.bool t389, .slice Ao117 t390.length co117]] rfl (by (try simp only [zMa, zMc, zMn]); first |  done|  rfl|  (simp only [zLd, zLt]; rfl)) ?_; (with_reducible refine (integer_DivMod.calls k t385 _ _ t386 t389 _ _ t390 t393 t394 t397 t398 t401 _ ?side1 ?side2 ?side3 ?side4 A3.out).mono ?_); (case side1 => exact uC (zRr HO388.out).2.2); (case side2 => exact (zRr HO388.out).2.1); (case side3 => exact uC (zRr HO392.out).2.2); (case side4 => exact (zRr HO392.out).2.1); rintro e w118 ⟨v395, v399, rfl, ho0, ho1, hb⟩; refine ⟨_, rfl, ?_⟩; have HO396 := zMk (zRl (zRw (zRw ho0 (zRt (uR HO388.out))) (zRt (uR HO392.out))) (zBs (uT HB.out))); have HO400 := zMk (zRl (zRw (zRw ho1 (zRt (uR HO388.out))) (zRt (uR HO392.out))) (zBs (uT HB.out))); replace HO388 := zMk (zRm (Kd.R_told (Kd.R_told (Kd.R_old (uR HO388.out) hb) (zRz ho0)) (zRz ho1)) (fun _ h_ => h_.1)); replace HO392 := zMk (zRm (Kd.R_told (Kd.R_told (Kd.R_old (uR HO392.out) hb) (zRz ho0)) (zRz ho1)) (fun _ h_ => h_.1)); replace HB := zMk (zBt (uT HB.out) hb))|((with_reducible refine gate_dst (N:=1) rfl ?_); refine box_event ?hg (N:=1) ?hd (cs:=#[.bool false, .slice none 0 0]) (t:=24) ?hr ?_; (case hd => rfl); (case hg => rfl); (case hr => first | (go_simp; done)|(go_simp; rfl)|(go_simp; rw [show ∀ x : Int, IntKind.u32.wrap (IntKind.u8.wrap x) = x % 256 from fun x => (by show (x % 256) % 4294967296 = x % 256; omega)])); intro gb402 hg w119 hbox hb; replace HO388 := zMk (zRb (uR HO388.out) hb); replace HO392 := zMk (zRb (uR HO392.out) hb); replace HO396 := zMk (zRb (uR HO396.out) hb); replace HO400 := zMk (zRb (uR HO400.out) hb); have BK402 := zMk (hbox); have GW402 := zMk ((by rw [hg]; exact (zBs (uT HB.out)) : w.heap.size ≤ gb402)); have GE402 := zMk ((by rw [hg]; exact (zBs (uT HB.out)) : w.heap.size ≤ gb402)); have IGE402 := ownGe GE402.out; replace HB := zMk (zBt (uT HB.out) hb); clear hb hbox hg)|((with_reducible refine gate_dst (N:=2) rfl ?_); refine box_event ?hg (N:=2) ?hd (cs:=#[.bool false, .slice none 0 0]) (t:=24) ?hr ?_; (case hd => rfl); (case hg => rfl); (case hr => first | (go_simp; done)|(go_simp; rfl)|(go_simp; rw [show ∀ x : Int, IntKind.u32.wrap (IntKind.u8.wrap x) = x % 256 from fun x => (by show (x % 256) % 4294967296 = x % 256; omega)])); intro gb403 hg w120 hbox hb; replace HO388 := zMk (zRb (uR HO388.out) hb); replace HO392 := zMk (zRb (uR HO392.out) hb); replace HO396 := zMk (zRb (uR HO396.out) hb); replace HO400 := zMk (zRb (uR HO400.out) hb); have BK403 := zMk (hbox); have GW403 := zMk ((by rw [hg]; exact (zBs (uT HB.out)) : w.heap.size ≤ gb403)); have GE403 := zMk ((by rw [hg]; exact (zBs (uT HB.out)) : w.heap.size ≤ gb403)); have IGE403 := ownGe GE403.out; replace HB := zMk (zBt (uT HB.out) hb); have NB402_403 := zMk ((by rw [hg]; exact Nat.ne_of_lt (blk_lt BK402.out) : gb402 ≠ gb403)); have NB403_402 := zMk ((by rw [hg]; exact Nat.ne_of_gt (blk_lt BK402.out) : gb403 ≠ gb402)); replace BK402 := zMk (zKb BK402.out hb); clear hb hbox hg; have hnb121 := NB402_403.out; have hnc121 := NB403_402.out; have hcz122_0 : w120.cell? ⟨gb402, 0, none⟩ = some (.bool false) := (zKc BK402.out 0).trans rfl; have hcz122_1 : w120.cell? ⟨gb402, 1, none⟩ = some (.slice none 0 0) := (zKc BK402.out 1).trans rfl; have hfz122_0 := zKf BK402.out 0; have hfz122_1 := zKf BK402.out 1; obtain ⟨Ao123, co123, eo123⟩ := zRs HO396.out; subst eo123; have hcz124_0 : w120.cell? ⟨gb403, 0, none⟩ = some (.bool false) := (zKc BK403.out 0).trans rfl; have hcz124_1 : w120.cell? ⟨gb403, 1, none⟩ = some (.slice none 0 0) := (zKc BK403.out 1).trans rfl; have hfz124_0 := zKf BK403.out 0; have hfz124_1 := zKf BK403.out 1; obtain ⟨Ao125, co125, eo125⟩ := zRs HO400.out; subst eo125)|((with_reducible refine gate_callee (f:=31) rfl ?_); refine goesL_ (some 14) rfl rfl Tryd.func31 (by kernel_rfl) rfl #[.int .i64 (-8)] rfl (by (try simp only [zMa, zMc, zMn]); first |  done|  rfl|  (simp only [zLd, zLt]; rfl)) ?_; (with_reducible refine (integer_Of.calls (-8) t404 t405 _ A4.out).mono ?_); rintro e w126 ⟨v406, rfl, ho0, hb⟩; refine ⟨_, rfl, ?_⟩; have HO407 := zMk (zRl (zRw (zRw (zRw (zRw ho0 (zRt (zRm (zRm (Kd.R_far (p:=⟨gb403, 1, none⟩) (Kd.R_far (p:=⟨gb403, 0, none⟩) (Kd.R_far (p:=⟨gb402, 1, none⟩) (Kd.R_far (p:=⟨gb402, 0, none⟩) (Kd.R_types (Kd.R_types HO388.out BK402.out (by decide)) BK403.out (by decide)) (fun _ hk => hk.1.2) (.bool t393)) (fun _ hk => hk.1.2) (.slice Ao123 t394.length co123)) (fun _ hk => hk.2) (.bool t397)) (fun _ hk => hk.2) (.slice Ao125 t398.length co125)) (fun _ h_ => h_.1)) (fun _ h_ => h_.1)))) (zRt (zRm (zRm (Kd.R_far (p:=⟨gb403, 1, none⟩) (Kd.R_far (p:=⟨gb403, 0, none⟩) (Kd.R_far (p:=⟨gb402, 1, none⟩) (Kd.R_far (p:=⟨gb402, 0, none⟩) (Kd.R_types (Kd.R_types HO392.out BK402.out (by decide)) BK403.out (by decide)) (fun _ hk => hk.1.2) (.bool t393)) (fun _ hk => hk.1.2) (.slice Ao123 t394.length co123)) (fun _ hk => hk.2) (.bool t397)) (fun _ hk => hk.2) (.slice Ao125 t398.length co125)) (fun _ h_ => h_.1)) (fun _ h_ => h_.1)))) (zRt (zRm (zRm (Kd.R_far (p:=⟨gb403, 1, none⟩) (Kd.R_far (p:=⟨gb403, 0, none⟩) (Kd.R_far (p:=⟨gb402, 1, none⟩) (Kd.R_far (p:=⟨gb402, 0, none⟩) (Kd.R_types (Kd.R_types HO396.out BK402.out (by decide)) BK403.out (by decide)) (fun _ hk => hk.1.2) (.bool t393)) (fun _ hk => hk.1.2) (.slice Ao123 t394.length co123)) (fun _ hk => hk.2) (.bool t397)) (fun _ hk => hk.2) (.slice Ao125 t398.length co125)) (fun _ h_ => h_.1)) (fun _ h_ => h_.1)))) (zRt (zRm (zRm (Kd.R_far (p:=⟨gb403, 1, none⟩) (Kd.R_far (p:=⟨gb403, 0, none⟩) (Kd.R_far (p:=⟨gb402, 1, none⟩) (Kd.R_far (p:=⟨gb402, 0, none⟩) (Kd.R_types (Kd.R_types HO400.out BK402.out (by decide)) BK403.out (by decide)) (fun _ hk => hk.1.2) (.bool t393)) (fun _ hk => hk.1.2) (.slice Ao123 t394.length co123)) (fun _ hk => hk.2) (.bool t397)) (fun _ hk => hk.2) (.slice Ao125 t398.length co125)) (fun _ h_ => h_.1)) (fun _ h_ => h_.1)))) (zBs (uT HB.out))); replace HO388 := zMk (zRe (zRm (zRm (Kd.R_far (p:=⟨gb403, 1, none⟩) (Kd.R_far (p:=⟨gb403, 0, none⟩) (Kd.R_far (p:=⟨gb402, 1, none⟩) (Kd.R_far (p:=⟨gb402, 0, none⟩) (Kd.R_types (Kd.R_types HO388.out BK402.out (by decide)) BK403.out (by decide)) (fun _ hk => hk.1.2) (.bool t393)) (fun _ hk => hk.1.2) (.slice Ao123 t394.length co123)) (fun _ hk => hk.2) (.bool t397)) (fun _ hk => hk.2) (.slice Ao125 t398.length co125)) (fun _ h_ => h_.1)) (fun _ h_ => h_.1)) (zRz ho0) hb); replace HO392 := zMk (zRe (zRm (zRm (Kd.R_far (p:=⟨gb403, 1, none⟩) (Kd.R_far (p:=⟨gb403, 0, none⟩) (Kd.R_far (p:=⟨gb402, 1, none⟩) (Kd.R_far (p:=⟨gb402, 0, none⟩) (Kd.R_types (Kd.R_types HO392.out BK402.out (by decide)) BK403.out (by decide)) (fun _ hk => hk.1.2) (.bool t393)) (fun _ hk => hk.1.2) (.slice Ao123 t394.length co123)) (fun _ hk => hk.2) (.bool t397)) (fun _ hk => hk.2) (.slice Ao125 t398.length co125)) (fun _ h_ => h_.1)) (fun _ h_ => h_.1)) (zRz ho0) hb); replace HO396 := zMk (zRe (zRm (zRm (Kd.R_far (p:=⟨gb403, 1, none⟩) (Kd.R_far (p:=⟨gb403, 0, none⟩) (Kd.R_far (p:=⟨gb402, 1, none⟩) (Kd.R_far (p:=⟨gb402, 0, none⟩) (Kd.R_types (Kd.R_types HO396.out BK402.out (by decide)) BK403.out (by decide)) (fun _ hk => hk.1.2) (.bool t393)) (fun _ hk => hk.1.2) (.slice Ao123 t394.length co123)) (fun _ hk => hk.2) (.bool t397)) (fun _ hk => hk.2) (.slice Ao125 t398.length co125)) (fun _ h_ => h_.1)) (fun _ h_ => h_.1)) (zRz ho0) hb); replace HO400 := zMk (zRe (zRm (zRm (Kd.R_far (p:=⟨gb403, 1, none⟩) (Kd.R_far (p:=⟨gb403, 0, none⟩) (Kd.R_far (p:=⟨gb402, 1, none⟩) (Kd.R_far (p:=⟨gb402, 0, none⟩) (Kd.R_types (Kd.R_types HO400.out BK402.out (by decide)) BK403.out (by decide)) (fun _ hk => hk.1.2) (.bool t393)) (fun _ hk => hk.1.2) (.slice Ao123 t394.length co123)) (fun _ hk => hk.2) (.bool t397)) (fun _ hk => hk.2) (.slice Ao125 t398.length co125)) (fun _ h_ => h_.1)) (fun _ h_ => h_.1)) (zRz ho0) hb); replace BK402 := zMk (zKb (g:=gb402) (o:=.cells #[.bool t393, .slice Ao123 t394.length co123] 24 (0, 0)) (by (with_reducible repeat (first |  refine zKn ?_ _|  refine zKd ?_|  refine zKa ?_ _)); refine blk_far ?_ NB402_403.out _; (with_reducible repeat (first |  refine zKn ?_ _|  refine zKd ?_|  refine zKa ?_ _)); refine blk_far ?_ NB402_403.out _; (with_reducible repeat (first |  refine zKn ?_ _|  refine zKd ?_|  refine zKa ?_ _)); refine blk_put (cs:=#[.bool t393, .slice none 0 0]) ?_ 1 _ rfl; (with_reducible repeat (first |  refine zKn ?_ _|  refine zKd ?_|  refine zKa ?_ _)); refine blk_put (cs:=#[.bool false, .slice none 0 0]) ?_ 0 _ rfl; (with_reducible repeat (first |  refine zKn ?_ _|  refine zKd ?_|  refine zKa ?_ _)); exact BK402.out) hb); replace BK403 := zMk (zKb (g:=gb403) (o:=.cells #[.bool t397, .slice Ao125 t398.length co125] 24 (0, 0)) (by (with_reducible repeat (first |  refine zKn ?_ _|  refine zKd ?_|  refine zKa ?_ _)); refine blk_put (cs:=#[.bool t397, .slice none 0 0]) ?_ 1 _ rfl; (with_reducible repeat (first |  refine zKn ?_ _|  refine zKd ?_|  refine zKa ?_ _)); refine blk_put (cs:=#[.bool false, .slice none 0 0]) ?_ 0 _ rfl; (with_reducible repeat (first |  refine zKn ?_ _|  refine zKd ?_|  refine zKa ?_ _)); refine blk_far ?_ NB403_402.out _; (with_reducible repeat (first |  refine zKn ?_ _|  refine zKd ?_|  refine zKa ?_ _)); refine blk_far ?_ NB403_402.out _; (with_reducible repeat (first |  refine zKn ?_ _|  refine zKd ?_|  refine zKa ?_ _)); exact BK403.out) hb); replace HB := zMk (zBt (uT HB.out) hb))|((with_reducible refine gate_callee (f:=31) rfl ?_); refine goesL_ (some 15) rfl rfl Tryd.func31 (by kernel_rfl) rfl #[.int .i64 2] rfl (by (try simp only [zMa, zMc, zMn]); first |  done|  rfl|  (simp only [zLd, zLt]; rfl)) ?_; (with_reducible refine (integer_Of.calls 2 t408 t409 _ A5.out).mono ?_); rintro e w127 ⟨v410, rfl, ho0, hb⟩; refine ⟨_, rfl, ?_⟩; have HO411 := zMk (zRl (zRw (zRw (zRw (zRw (zRw ho0 (zRt (uR HO388.out))) (zRt (uR HO392.out))) (zRt (uR HO396.out))) (zRt (uR HO400.out))) (zRt (uR HO407.out))) (zBs (uT HB.out))); replace HO388 := zMk (zRe (uR HO388.out) (zRz ho0) hb); replace HO392 := zMk (zRe (uR HO392.out) (zRz ho0) hb); replace HO396 := zMk (zRe (uR HO396.out) (zRz ho0) hb); replace HO400 := zMk (zRe (uR HO400.out) (zRz ho0) hb); replace HO407 := zMk (zRe (uR HO407.out) (zRz ho0) hb); replace BK402 := zMk (zKb BK402.out hb); replace BK403 := zMk (zKb BK403.out hb); replace HB := zMk (zBt (uT HB.out) hb); obtain ⟨Ao128, co128, eo128⟩ := zRs HO407.out; subst eo128; obtain ⟨Ao129, co129, eo129⟩ := zRs HO411.out; subst eo129)|((with_reducible refine gate_callee (f:=14) rfl ?_); refine goesL_ (some 16) rfl rfl Tryd.func14 (by kernel_rfl) rfl #[.agg #[.bool t404, .slice Ao128 t405.length co128], .agg #[.bool t408, .slice Ao129 t409.length co129]] rfl (by (try simp only [zMa, zMc, zMn]); first |  done|  rfl|  (simp only [zLd, zLt]; rfl)) ?_; (with_reducible refine (integer_Exact.calls k t404 _ _ t405 t408 _ _ t409 t412 t413 t416 _ ?side1 ?side2 ?side3 ?side4 A6.out).mono ?_); (case side1 => exact uC (zRr HO407.out).2.2); (case side2 => exact (zRr HO407.out).2.1); (case side3 => exact uC (zRr HO411.out).2.2); (case side4 => exact (zRr HO411.out).2.1); rintro e w130 ⟨v414, rfl, ho0, hb⟩; refine ⟨_, rfl, ?_⟩; have HO415 := zMk (zRl (zRw (zRw (zRw (zRw (zRw (zRw ho0 (zRt (uR HO388.out))) (zRt (uR HO392.out))) (zRt (uR HO396.out))) (zRt (uR HO400.out))) (zRt (uR HO407.out))) (zRt (uR HO411.out))) (zBs (uT HB.out))); replace HO388 := zMk (zRe (uR HO388.out) (zRz ho0) hb); replace HO392 := zMk (zRe (uR HO392.out) (zRz ho0) hb); replace HO396 := zMk (zRe (uR HO396.out) (zRz ho0) hb); replace HO400 := zMk (zRe (uR HO400.out) (zRz ho0) hb); replace HO407 := zMk (zRe (uR HO407.out) (zRz ho0) hb); replace HO411 := zMk (zRe (uR HO411.out) (zRz ho0) hb); replace BK402 := zMk (zKb BK402.out hb); replace BK403 := zMk (zKb BK403.out hb); replace HB := zMk (zBt (uT HB.out) hb))|((with_reducible refine gate_dst (N:=4) rfl ?_); refine box_event ?hg (N:=4) ?hd (cs:=#[.bool false, .slice none 0 0]) (t:=24) ?hr ?_; (case hd => rfl); (case hg => rfl); (case hr => first | (go_simp; done)|(go_simp; rfl)|(go_simp; rw [show ∀ x : Int, IntKind.u32.wrap (IntKind.u8.wrap x) = x % 256 from fun x => (by show (x % 256) % 4294967296 = x % 256; omega)])); intro gb417 hg w131 hbox hb; replace HO388 := zMk (zRb (uR HO388.out) hb); replace HO392 := zMk (zRb (uR HO392.out) hb); replace HO396 := zMk (zRb (uR HO396.out) hb); replace HO400 := zMk (zRb (uR HO400.out) hb); replace HO407 := zMk (zRb (uR HO407.out) hb); replace HO411 := zMk (zRb (uR HO411.out) hb); replace HO415 := zMk (zRb (uR HO415.out) hb); have BK417 := zMk (hbox); have GW417 := zMk ((by rw [hg]; exact (zBs (uT HB.out)) : w.heap.size ≤ gb417)); have GE417 := zMk ((by rw [hg]; exact (zBs (uT HB.out)) : w.heap.size ≤ gb417)); have IGE417 := ownGe GE417.out; replace HB := zMk (zBt (uT HB.out) hb); have NB402_417 := zMk ((by rw [hg]; exact Nat.ne_of_lt (blk_lt BK402.out) : gb402 ≠ gb417)); have NB417_402 := zMk ((by rw [hg]; exact Nat.ne_of_gt (blk_lt BK402.out) : gb417 ≠ gb402)); replace BK402 := zMk (zKb BK402.out hb); have NB403_417 := zMk ((by rw [hg]; exact Nat.ne_of_lt (blk_lt BK403.out) : gb403 ≠ gb417)); have NB417_403 := zMk ((by rw [hg]; exact Nat.ne_of_gt (blk_lt BK403.out) : gb417 ≠ gb403)); replace BK403 := zMk (zKb BK403.out hb); clear hb hbox hg; have hnb132 := NB417_402.out; have hnc132 := NB402_417.out; have hnb133 := NB417_403.out; have hnc133 := NB403_417.out; have hcz134_0 : w131.cell? ⟨gb417, 0, none⟩ = some (.bool false) := (zKc BK417.out 0).trans rfl; have hcz134_1 : w131.cell? ⟨gb417, 1, none⟩ = some (.slice none 0 0) := (zKc BK417.out 1).trans rfl; have hfz134_0 := zKf BK417.out 0; have hfz134_1 := zKf BK417.out 1; obtain ⟨Ao135, co135, eo135⟩ := zRs HO415.out; subst eo135))
  go_ret
  exact ⟨by first | rfl | (simp [errW_none, errW_some] <;> rfl) | (simp [*, errW_none, errW_some] <;> rfl), by exact uT HB.out⟩

theorem alive_at0 : filigreelaw02_alive.f 1000000 = some true := by kernel_rfl
theorem alive_at1 : filigreelaw02_alive.f 999999 = some true := by kernel_rfl
theorem alive_f (k : Nat) (hk : k = 1000000 ∨ k = 999999) : filigreelaw02_alive.f k = some true := by
  rcases hk with rfl | rfl
  · exact alive_at0
  · exact alive_at1

def filigreeref02_Of.f (k : Nat) (a0 : Int) : Option (Bool × List Int) := if a0 < 0 then ((r1_Of.f k (IntKind.u64.wrap ((IntKind.u64.wrap (wrap64 (-(wrap64 (a0 + 1))))) + 1))).bind fun t732 => ((filigreeref02_make2.f k true t732).bind fun bt735 => (some (bt735.1, bt735.2)))) else ((r1_Of.f k (IntKind.u64.wrap (a0))).bind fun t739 => ((filigreeref02_make2.f k false t739).bind fun bt742 => (some (bt742.1, bt742.2))))
theorem filigreeref02_Of.calls (k : Nat) (a0 : Int) (r1 : Bool) (r2 : List Int) (w : World) (h : filigreeref02_Of.f k a0 = some (r1, r2)) :
  Calls Tryd.prog 39 #[.int .i64 a0] w fun e w' => ∃ v1_ : Value, e = .returned (.agg #[.bool r1, v1_]) ∧ Kd.R (Kd.int .u32) 58 w' w.heap.size (fun _ => True) v1_ r2 ∧ Below w.heap.size w w' := by
 have hu24 := Tryd.underlying24
 have HB := zMk (Below.refl w.heap.size w)
 have H : (if a0 < 0 then ((r1_Of.f k (IntKind.u64.wrap ((IntKind.u64.wrap (wrap64 (-(wrap64 (a0 + 1))))) + 1))).bind fun t732 => ((filigreeref02_make2.f k true t732).bind fun bt735 => (some (bt735.1, bt735.2)))) else ((r1_Of.f k (IntKind.u64.wrap (a0))).bind fun t739 => ((filigreeref02_make2.f k false t739).bind fun bt742 => (some (bt742.1, bt742.2))))) = some (r1, r2) := h
 clear h
 by_cases c2 : a0 < 0
 ·rw [if_pos c2] at H
  have c2b0 : decide (a0 < 0) = true := decide_eq_true c2
  clear c2
  replace H := bnd H
  obtain ⟨t732, A30, H⟩ := H
  have A3 := zMk A30
  clear A30
  replace H := bnd H
  obtain ⟨⟨t735, t736⟩, A40, H⟩ := H
  replace H : (some (t735, t736)) = some (r1, r2) := H
  have A4 := zMk A40
  clear A40
  simp only [Option.some.injEq, Prod.mk.injEq] at H
  obtain ⟨rfl, rfl⟩ := H
  go_enter Tryd.func39, Tryd.ntmps39
  go_wp2_with (first | ((with_reducible refine gate_dst (N:=2) rfl ?_); refine box_event ?hg (N:=2) ?hd (cs:=#[.bool false, .slice none 0 0]) (t:=24) ?hr ?_; (case hd => rfl); (case hg => rfl); (case hr => first | (go_simp; done)|(go_simp; rfl)|(go_simp; rw [show ∀ x : Int, IntKind.u32.wrap (IntKind.u8.wrap x) = x % 256 from fun x => (by show (x % 256) % 4294967296 = x % 256; omega)])); intro gb731 hg w5 hbox hb; have BK731 := zMk (hbox); have GW731 := zMk ((by rw [hg]; exact (zBs (uT HB.out)) : w.heap.size ≤ gb731)); have GE731 := zMk ((by rw [hg]; exact (zBs (uT HB.out)) : w.heap.size ≤ gb731)); have IGE731 := ownGe GE731.out; replace HB := zMk (zBt (uT HB.out) hb); clear hb hbox hg)|((with_reducible refine gate_callee (f:=66) rfl ?_); refine goesL_ (some 10) rfl rfl Tryd.func66 (by kernel_rfl) rfl #[.int .u64 (IntKind.u64.wrap ((IntKind.u64.wrap (wrap64 (-(wrap64 (a0 + 1))))) + 1))] rfl (by (try simp only [zMa, zMc, zMn]); first |  done|  rfl|  (simp only [zLd, zLt]; rfl)) ?_; (with_reducible refine (r1_Of.calls k (IntKind.u64.wrap ((IntKind.u64.wrap (wrap64 (-(wrap64 (a0 + 1))))) + 1)) t732 _ A3.out).mono ?_); rintro e w6 ⟨v733, rfl, ho0, hb⟩; refine ⟨_, rfl, ?_⟩; have HO734 := zMk (zRl ho0 (zBs (uT HB.out))); replace BK731 := zMk (zKb BK731.out hb); replace HB := zMk (zBt (uT HB.out) hb); obtain ⟨Ao7, co7, eo7⟩ := zRs HO734.out; subst eo7)|((with_reducible refine gate_callee (f:=38) rfl ?_); refine goesL_ (some 11) rfl rfl Tryd.func38 (by kernel_rfl) rfl #[.bool true, .slice Ao7 t732.length co7] rfl (by (try simp only [zMa, zMc, zMn]); first |  done|  rfl|  (simp only [zLd, zLt]; rfl)) ?_; (with_reducible refine (filigreeref02_make2.calls k true _ _ t732 t735 t736 _ ?side1 ?side2 A4.out).mono ?_); (case side1 => exact uC (zRr HO734.out).2.2); (case side2 => exact (zRr HO734.out).2.1); rintro e w8 ⟨v737, rfl, ho0, hb⟩; refine ⟨_, rfl, ?_⟩; have HO738 := zMk (zRl (zRw ho0 (zRt (uR HO734.out))) (zBs (uT HB.out))); replace HO734 := zMk (zRe (uR HO734.out) (zRz ho0) hb); replace BK731 := zMk (zKb BK731.out hb); replace HB := zMk (zBt (uT HB.out) hb); have hcz9_0 : w8.cell? ⟨gb731, 0, none⟩ = some (.bool false) := (zKc BK731.out 0).trans rfl; have hcz9_1 : w8.cell? ⟨gb731, 1, none⟩ = some (.slice none 0 0) := (zKc BK731.out 1).trans rfl; have hfz9_0 := zKf BK731.out 0; have hfz9_1 := zKf BK731.out 1; obtain ⟨Ao10, co10, eo10⟩ := zRs HO738.out; subst eo10))
  refine bodyPost_ret (results_cell_row rfl _ _ gb731 24 #[.bool t735, .slice Ao10 t736.length co10] (0, 0) _ rfl (by (with_reducible repeat (first | refine zKn ?_ _ | refine zKd ?_ | refine zKa ?_ _)); refine blk_put (cs:=#[.bool t735, .slice none 0 0]) ?_ 1 _ rfl; (with_reducible repeat (first | refine zKn ?_ _ | refine zKd ?_ | refine zKa ?_ _)); refine blk_put (cs:=#[.bool false, .slice none 0 0]) ?_ 0 _ rfl; (with_reducible repeat (first | refine zKn ?_ _ | refine zKd ?_ | refine zKa ?_ _)); exact BK731.out) Tryd.underlying24 rfl (by kernel_rfl)) rfl ?_
  exact ⟨_, by first | rfl | (simp [errW_none, errW_some] <;> rfl) | (simp [*, errW_none, errW_some] <;> rfl), by (with_reducible repeat (first | apply zRa | apply zRn | apply zRd)); exact zRm (Kd.R_far (p:=⟨gb731, 1, none⟩) (Kd.R_far (p:=⟨gb731, 0, none⟩) (Kd.R_types HO738.out BK731.out (by decide)) (fun _ hk => hk.2) (.bool t735)) (fun _ hk => hk.2) (.slice Ao10 t736.length co10)) (fun _ hk => trivial), by exact uT HB.out⟩
 ·rw [if_neg c2] at H
  have c2b0 : decide (a0 < 0) = false := decide_eq_false c2
  clear c2
  replace H := bnd H
  obtain ⟨t739, A110, H⟩ := H
  have A11 := zMk A110
  clear A110
  replace H := bnd H
  obtain ⟨⟨t742, t743⟩, A120, H⟩ := H
  replace H : (some (t742, t743)) = some (r1, r2) := H
  have A12 := zMk A120
  clear A120
  simp only [Option.some.injEq, Prod.mk.injEq] at H
  obtain ⟨rfl, rfl⟩ := H
  go_enter Tryd.func39, Tryd.ntmps39
  go_wp2_with (first | ((with_reducible refine gate_dst (N:=2) rfl ?_); refine box_event ?hg (N:=2) ?hd (cs:=#[.bool false, .slice none 0 0]) (t:=24) ?hr ?_; (case hd => rfl); (case hg => rfl); (case hr => first | (go_simp; done)|(go_simp; rfl)|(go_simp; rw [show ∀ x : Int, IntKind.u32.wrap (IntKind.u8.wrap x) = x % 256 from fun x => (by show (x % 256) % 4294967296 = x % 256; omega)])); intro gb731 hg w13 hbox hb; have BK731 := zMk (hbox); have GW731 := zMk ((by rw [hg]; exact (zBs (uT HB.out)) : w.heap.size ≤ gb731)); have GE731 := zMk ((by rw [hg]; exact (zBs (uT HB.out)) : w.heap.size ≤ gb731)); have IGE731 := ownGe GE731.out; replace HB := zMk (zBt (uT HB.out) hb); clear hb hbox hg)|((with_reducible refine gate_callee (f:=66) rfl ?_); refine goesL_ (some 14) rfl rfl Tryd.func66 (by kernel_rfl) rfl #[.int .u64 (IntKind.u64.wrap (a0))] rfl (by (try simp only [zMa, zMc, zMn]); first |  done|  rfl|  (simp only [zLd, zLt]; rfl)) ?_; (with_reducible refine (r1_Of.calls k (IntKind.u64.wrap (a0)) t739 _ A11.out).mono ?_); rintro e w14 ⟨v740, rfl, ho0, hb⟩; refine ⟨_, rfl, ?_⟩; have HO741 := zMk (zRl ho0 (zBs (uT HB.out))); replace BK731 := zMk (zKb BK731.out hb); replace HB := zMk (zBt (uT HB.out) hb); obtain ⟨Ao15, co15, eo15⟩ := zRs HO741.out; subst eo15)|((with_reducible refine gate_callee (f:=38) rfl ?_); refine goesL_ (some 15) rfl rfl Tryd.func38 (by kernel_rfl) rfl #[.bool false, .slice Ao15 t739.length co15] rfl (by (try simp only [zMa, zMc, zMn]); first |  done|  rfl|  (simp only [zLd, zLt]; rfl)) ?_; (with_reducible refine (filigreeref02_make2.calls k false _ _ t739 t742 t743 _ ?side1 ?side2 A12.out).mono ?_); (case side1 => exact uC (zRr HO741.out).2.2); (case side2 => exact (zRr HO741.out).2.1); rintro e w16 ⟨v744, rfl, ho0, hb⟩; refine ⟨_, rfl, ?_⟩; have HO745 := zMk (zRl (zRw ho0 (zRt (uR HO741.out))) (zBs (uT HB.out))); replace HO741 := zMk (zRe (uR HO741.out) (zRz ho0) hb); replace BK731 := zMk (zKb BK731.out hb); replace HB := zMk (zBt (uT HB.out) hb); have hcz17_0 : w16.cell? ⟨gb731, 0, none⟩ = some (.bool false) := (zKc BK731.out 0).trans rfl; have hcz17_1 : w16.cell? ⟨gb731, 1, none⟩ = some (.slice none 0 0) := (zKc BK731.out 1).trans rfl; have hfz17_0 := zKf BK731.out 0; have hfz17_1 := zKf BK731.out 1; obtain ⟨Ao18, co18, eo18⟩ := zRs HO745.out; subst eo18))
  refine bodyPost_ret (results_cell_row rfl _ _ gb731 24 #[.bool t742, .slice Ao18 t743.length co18] (0, 0) _ rfl (by (with_reducible repeat (first | refine zKn ?_ _ | refine zKd ?_ | refine zKa ?_ _)); refine blk_put (cs:=#[.bool t742, .slice none 0 0]) ?_ 1 _ rfl; (with_reducible repeat (first | refine zKn ?_ _ | refine zKd ?_ | refine zKa ?_ _)); refine blk_put (cs:=#[.bool false, .slice none 0 0]) ?_ 0 _ rfl; (with_reducible repeat (first | refine zKn ?_ _ | refine zKd ?_ | refine zKa ?_ _)); exact BK731.out) Tryd.underlying24 rfl (by kernel_rfl)) rfl ?_
  exact ⟨_, by first | rfl | (simp [errW_none, errW_some] <;> rfl) | (simp [*, errW_none, errW_some] <;> rfl), by (with_reducible repeat (first | apply zRa | apply zRn | apply zRd)); exact zRm (Kd.R_far (p:=⟨gb731, 1, none⟩) (Kd.R_far (p:=⟨gb731, 0, none⟩) (Kd.R_types HO745.out BK731.out (by decide)) (fun _ hk => hk.2) (.bool t742)) (fun _ hk => hk.2) (.slice Ao18 t743.length co18)) (fun _ hk => trivial), by exact uT HB.out⟩


-- beside r1_DivMod, filigreeref02_make2, filigreeref02_Add, filigreeref02_Sub, filigreeref02_Of
structure DmS (w W : World) (b2 b3 b4 b5 : Nat) (a b : Bool) (s0 s1 : Value) : Prop where
 hB : Below w.heap.size w W
 h2 : W.heap[b2]? = some (.cells #[.bool a, s0] 24 (0, 0))
 h3 : W.heap[b3]? = some (.cells #[.bool b, s1] 24 (0, 0))
 h4 : W.heap[b4]? = some (.cells #[.bool false, .slice none 0 0] 24 (0, 0))
 h5 : W.heap[b5]? = some (.cells #[.bool false, .slice none 0 0] 24 (0, 0))
 n4 : w.heap.size ≤ b4
 n5 : w.heap.size ≤ b5
 ne : b4 ≠ b5
theorem DmS.below {w W W' : World} {b2 b3 b4 b5 : Nat} {a b : Bool} {s0 s1 : Value} (h : DmS w W b2 b3 b4 b5 a b s0 s1) (hb : Below W.heap.size W W') : DmS w W' b2 b3 b4 b5 a b s0 s1 :=
 ⟨zBt h.hB hb, zKb h.h2 hb, zKb h.h3 hb, zKb h.h4 hb, zKb h.h5 hb, h.n4, h.n5, h.ne⟩
abbrev dmU : Kd Int := Kd.int .u32
structure DmN (w5 W : World) (X Y : List Int) (oX oY : Option Value) (oG oH : Option Nat) : Prop where
 hB : Below w5.heap.size w5 W
 hX : ∀ v, oX = some v → Kd.R dmU 58 W w5.heap.size (fun k => ∀ u, oY = some u → some k ≠ u.ownBlock) v X
 hY : ∀ u, oY = some u → Kd.R dmU 58 W w5.heap.size (fun k => ∀ v, oX = some v → some k ≠ v.ownBlock) u Y
 hG : ∀ g, oG = some g → w5.heap.size ≤ g ∧ W.heap[g]? = some (.cells #[.bool false, .slice none 0 0] 24 (0, 0))
 hH : ∀ g, oH = some g → w5.heap.size ≤ g ∧ W.heap[g]? = some (.cells #[.bool false, .slice none 0 0] 24 (0, 0))
 hN : ∀ g h, oG = some g → oH = some h → g ≠ h
theorem DmN.start (w5 : World) (X Y : List Int) : DmN w5 w5 X Y none none none none :=
 ⟨Below.refl _ _, (fun _ h => (by cases h)), (fun _ h => (by cases h)), (fun _ h => (by cases h)), (fun _ h => (by cases h)), (fun _ _ h => (by cases h))⟩
theorem DmN.callX {w5 W W1 : World} {X Y : List Int} {oG oH : Option Nat} (h : DmN w5 W X Y none none oG oH) {v : Value} (ho : Kd.R dmU 58 W1 W.heap.size (fun _ => True) v X) (hb : Below W.heap.size W W1) : DmN w5 W1 X Y (some v) none oG oH := by
 refine ⟨zBt h.hB hb, ?_, ?_, fun g e => ⟨(h.hG g e).1, zKb (h.hG g e).2 hb⟩, fun g e => ⟨(h.hH g e).1, zKb (h.hH g e).2 hb⟩, h.hN⟩
 ·intro v' e
  cases e
  exact zRm (zRl ho (zBs h.hB)) (fun _ _ _ e => (by cases e))
 ·intro u e
  cases e
theorem DmN.callY {w5 W W1 : World} {X Y : List Int} {oG oH : Option Nat} {v : Value} (h : DmN w5 W X Y (some v) none oG oH) {u : Value} (ho : Kd.R dmU 58 W1 W.heap.size (fun _ => True) u Y) (hb : Below W.heap.size W W1) : DmN w5 W1 X Y (some v) (some u) oG oH := by
 refine ⟨zBt h.hB hb, ?_, ?_, fun g e => ⟨(h.hG g e).1, zKb (h.hG g e).2 hb⟩, fun g e => ⟨(h.hH g e).1, zKb (h.hH g e).2 hb⟩, h.hN⟩
 ·intro v' e
  cases e
  refine zRm (zRe (h.hX v rfl) (zRz ho) hb) ?_
  intro _ hk _ e
  cases e
  exact hk.2
 ·intro v' e
  cases e
  refine zRl (zRm (zRw ho (zRt (h.hX v rfl))) ?_) (zBs h.hB)
  intro _ hk _ e
  cases e
  exact hk.2
theorem DmN.boxG {w5 W W1 : World} {X Y : List Int} {oX oY : Option Value} {oH : Option Nat} (h : DmN w5 W X Y oX oY none oH) {g : Nat} (hg : g = W.heap.size) (hx : W1.heap[g]? = some (.cells #[.bool false, .slice none 0 0] 24 (0, 0))) (hb : Below W.heap.size W W1) : DmN w5 W1 X Y oX oY (some g) oH := by
 refine ⟨zBt h.hB hb, fun v e => zRb (h.hX v e) hb, fun v e => zRb (h.hY v e) hb, ?_, fun g e => ⟨(h.hH g e).1, zKb (h.hH g e).2 hb⟩, ?_⟩
 ·intro _ e
  cases e
  exact ⟨hg ▸ zBs h.hB, hx⟩
 ·intro _ q e e2
  cases e
  rw [hg]
  exact Nat.ne_of_gt (blk_lt (h.hH q e2).2)
theorem DmN.boxH {w5 W W1 : World} {X Y : List Int} {oX oY : Option Value} {oG : Option Nat} (h : DmN w5 W X Y oX oY oG none) {g : Nat} (hg : g = W.heap.size) (hx : W1.heap[g]? = some (.cells #[.bool false, .slice none 0 0] 24 (0, 0))) (hb : Below W.heap.size W W1) : DmN w5 W1 X Y oX oY oG (some g) := by
 refine ⟨zBt h.hB hb, fun v e => zRb (h.hX v e) hb, fun v e => zRb (h.hY v e) hb, fun g e => ⟨(h.hG g e).1, zKb (h.hG g e).2 hb⟩, ?_, ?_⟩
 ·intro _ e
  cases e
  exact ⟨hg ▸ zBs h.hB, hx⟩
 ·intro q _ e e2
  cases e2
  rw [hg]
  exact Nat.ne_of_lt (blk_lt (h.hG q e).2)
theorem DmS.puts {w W : World} {b2 b3 b4 b5 : Nat} {a b : Bool} {s0 s1 : Value} (h : DmS w W b2 b3 b4 b5 a b s0 s1) (p q : Bool) (v u : Value) :
  ((((W.setCell ⟨b4, 0, none⟩ (.bool p)).setCell ⟨b4, 1, none⟩ v).setCell ⟨b5, 0, none⟩ (.bool q)).setCell ⟨b5, 1, none⟩ u).heap[b4]? = some (.cells #[.bool p, v] 24 (0, 0)) ∧
  ((((W.setCell ⟨b4, 0, none⟩ (.bool p)).setCell ⟨b4, 1, none⟩ v).setCell ⟨b5, 0, none⟩ (.bool q)).setCell ⟨b5, 1, none⟩ u).heap[b5]? = some (.cells #[.bool q, u] 24 (0, 0)) ∧
  Below w.heap.size w ((((W.setCell ⟨b4, 0, none⟩ (.bool p)).setCell ⟨b4, 1, none⟩ v).setCell ⟨b5, 0, none⟩ (.bool q)).setCell ⟨b5, 1, none⟩ u) := by
 refine ⟨?_, ?_, below_set (below_set (below_set (below_set h.hB h.n4) h.n4) h.n5) h.n5⟩
 ·refine blk_far ?_ h.ne _
  refine blk_far ?_ h.ne _
  refine blk_put (cs:=#[.bool p, .slice none 0 0]) ?_ 1 _ rfl
  exact blk_put (cs:=#[.bool false, .slice none 0 0]) h.h4 0 _ rfl
 ·refine blk_put (cs:=#[.bool q, .slice none 0 0]) ?_ 1 _ rfl
  refine blk_put (cs:=#[.bool false, .slice none 0 0]) ?_ 0 _ rfl
  refine blk_far ?_ h.ne.symm _
  exact blk_far h.h5 h.ne.symm _
theorem DmS.far {w W : World} {b2 b3 b4 b5 : Nat} {a b : Bool} {s0 s1 : Value} (h : DmS w W b2 b3 b4 b5 a b s0 s1) {base : Nat} {ok : Nat → Prop} {z : Value} {xs : List Int} (hz : Kd.R dmU 58 W base ok z xs) (p q : Bool) (v u : Value) :
  Kd.R dmU 58 ((((W.setCell ⟨b4, 0, none⟩ (.bool p)).setCell ⟨b4, 1, none⟩ v).setCell ⟨b5, 0, none⟩ (.bool q)).setCell ⟨b5, 1, none⟩ u) base ok z xs :=
 zRm (Kd.R_far (Kd.R_far (Kd.R_far (Kd.R_far (Kd.R_types (Kd.R_types hz h.h4 (by decide)) h.h5 (by decide)) (fun _ hk => hk.1.2) _) (fun _ hk => hk.1.2) _) (fun _ hk => hk.2) _) (fun _ hk => hk.2) _) (fun _ hk => hk.1.1)
structure DmT (w5 W : World) (g h : Nat) (p n : Bool) (v u : Value) (X Y : List Int) : Prop where
 hB : Below w5.heap.size w5 W
 hG : W.heap[g]? = some (.cells #[.bool p, v] 24 (0, 0))
 hH : W.heap[h]? = some (.cells #[.bool n, u] 24 (0, 0))
 hX : Kd.R dmU 58 W w5.heap.size (fun k => some k ≠ u.ownBlock) v X
 hY : Kd.R dmU 58 W w5.heap.size (fun k => some k ≠ v.ownBlock) u Y
 g1 : w5.heap.size ≤ g
 h1 : w5.heap.size ≤ h
 hn : g ≠ h
theorem DmT.below {w5 W W1 : World} {g h : Nat} {p n : Bool} {v u : Value} {X Y : List Int} (t : DmT w5 W g h p n v u X Y) (hb : Below W.heap.size W W1) : DmT w5 W1 g h p n v u X Y :=
 ⟨zBt t.hB hb, zKb t.hG hb, zKb t.hH hb, zRb t.hX hb, zRb t.hY hb, t.g1, t.h1, t.hn⟩
theorem DmN.puts {w5 W : World} {g h : Nat} {v u : Value} {X Y : List Int} (d : DmN w5 W X Y (some v) (some u) (some g) (some h)) (p n : Bool) :
  DmT w5 ((((W.setCell ⟨g, 0, none⟩ (.bool p)).setCell ⟨g, 1, none⟩ v).setCell ⟨h, 0, none⟩ (.bool n)).setCell ⟨h, 1, none⟩ u) g h p n v u X Y := by
 have hg := d.hG g rfl
 have hh := d.hH h rfl
 have ne := d.hN g h rfl rfl
 have far : ∀ {ok : Nat → Prop} {z : Value} {xs : List Int}, Kd.R dmU 58 W w5.heap.size ok z xs → Kd.R dmU 58 ((((W.setCell ⟨g, 0, none⟩ (.bool p)).setCell ⟨g, 1, none⟩ v).setCell ⟨h, 0, none⟩ (.bool n)).setCell ⟨h, 1, none⟩ u) w5.heap.size ok z xs := fun hz =>
  zRm (Kd.R_far (Kd.R_far (Kd.R_far (Kd.R_far (Kd.R_types (Kd.R_types hz hg.2 (by decide)) hh.2 (by decide)) (fun _ hk => hk.1.2) _) (fun _ hk => hk.1.2) _) (fun _ hk => hk.2) _) (fun _ hk => hk.2) _) (fun _ hk => hk.1.1)
 refine ⟨below_set (below_set (below_set (below_set d.hB hg.1) hg.1) hh.1) hh.1, ?_, ?_, far (zRm (d.hX v rfl) (fun _ hk => hk u rfl)), far (zRm (d.hY u rfl) (fun _ hk => hk v rfl)), hg.1, hh.1, ne⟩
 ·refine blk_far ?_ ne _
  refine blk_far ?_ ne _
  refine blk_put (cs:=#[.bool p, .slice none 0 0]) ?_ 1 _ rfl
  exact blk_put (cs:=#[.bool false, .slice none 0 0]) hg.2 0 _ rfl
 ·refine blk_put (cs:=#[.bool n, .slice none 0 0]) ?_ 1 _ rfl
  refine blk_put (cs:=#[.bool false, .slice none 0 0]) ?_ 0 _ rfl
  refine blk_far ?_ ne.symm _
  exact blk_far hh.2 ne.symm _
theorem DmT.putH {w5 W : World} {g h : Nat} {p n n' : Bool} {v u u' : Value} {X Y Y' : List Int} (t : DmT w5 W g h p n v u X Y) (hx : Kd.R dmU 58 W w5.heap.size (fun k => some k ≠ u'.ownBlock) v X) (hy : Kd.R dmU 58 W w5.heap.size (fun k => some k ≠ v.ownBlock) u' Y') :
  DmT w5 ((W.setCell ⟨h, 0, none⟩ (.bool n')).setCell ⟨h, 1, none⟩ u') g h p n' v u' X Y' := by
 have far : ∀ {ok : Nat → Prop} {z : Value} {xs : List Int}, Kd.R dmU 58 W w5.heap.size ok z xs → Kd.R dmU 58 ((W.setCell ⟨h, 0, none⟩ (.bool n')).setCell ⟨h, 1, none⟩ u') w5.heap.size ok z xs := fun hz =>
  zRm (Kd.R_far (Kd.R_far (Kd.R_types hz t.hH (by decide)) (fun _ hk => hk.2) _) (fun _ hk => hk.2) _) (fun _ hk => hk.1)
 refine ⟨below_set (below_set t.hB t.h1) t.h1, blk_far (blk_far t.hG t.hn _) t.hn _, ?_, far hx, far hy, t.g1, t.h1, t.hn⟩
 refine blk_put (cs:=#[.bool n', u]) ?_ 1 _ rfl
 exact blk_put (cs:=#[.bool n, u]) t.hH 0 _ rfl
theorem DmT.putG {w5 W : World} {g h : Nat} {p p' n : Bool} {v u v' : Value} {X Y X' : List Int} (t : DmT w5 W g h p n v u X Y) (hx : Kd.R dmU 58 W w5.heap.size (fun k => some k ≠ u.ownBlock) v' X') (hy : Kd.R dmU 58 W w5.heap.size (fun k => some k ≠ v'.ownBlock) u Y) :
  DmT w5 ((W.setCell ⟨g, 0, none⟩ (.bool p')).setCell ⟨g, 1, none⟩ v') g h p' n v' u X' Y := by
 have far : ∀ {ok : Nat → Prop} {z : Value} {xs : List Int}, Kd.R dmU 58 W w5.heap.size ok z xs → Kd.R dmU 58 ((W.setCell ⟨g, 0, none⟩ (.bool p')).setCell ⟨g, 1, none⟩ v') w5.heap.size ok z xs := fun hz =>
  zRm (Kd.R_far (Kd.R_far (Kd.R_types hz t.hG (by decide)) (fun _ hk => hk.2) _) (fun _ hk => hk.2) _) (fun _ hk => hk.1)
 refine ⟨below_set (below_set t.hB t.g1) t.g1, ?_, blk_far (blk_far t.hH t.hn.symm _) t.hn.symm _, far hx, far hy, t.g1, t.h1, t.hn⟩
 refine blk_put (cs:=#[.bool p', v]) ?_ 1 _ rfl
 exact blk_put (cs:=#[.bool p, v]) t.hG 0 _ rfl
def filigreeref02_DivMod.f (k : Nat) (a0_0 : Bool) (l0_1 : List Int) (a1_0 : Bool) (l1_1 : List Int) : Option (Bool × List Int × Bool × List Int × Int) := (r1_DivMod.f k l0_1 l1_1).bind fun bt279 => (if bt279.2.2 = 0 then ((filigreeref02_make2.f k (a0_0 != a1_0) bt279.1).bind fun bt286 => ((filigreeref02_make2.f k a0_0 bt279.2.1).bind fun bt290 => (if bt290.1 = true then ((filigreeref02_make2.f k false l1_1).bind fun bt296 => ((filigreeref02_Add.f k bt290.1 bt290.2 bt296.1 bt296.2).bind fun bt300 => (if a1_0 = true then ((filigreeref02_Of.f k 1).bind fun bt304 => ((filigreeref02_Add.f k bt286.1 bt286.2 bt304.1 bt304.2).bind fun bt308 => (some (bt308.1, bt308.2, bt300.1, bt300.2, 0)))) else ((filigreeref02_Of.f k 1).bind fun bt312 => ((filigreeref02_Sub.f k bt286.1 bt286.2 bt312.1 bt312.2).bind fun bt316 => (some (bt316.1, bt316.2, bt300.1, bt300.2, 0))))))) else (some (bt286.1, bt286.2, bt290.1, bt290.2, 0))))) else (some (false, ([] : List Int), false, ([] : List Int), bt279.2.2)))
theorem filigreeref02_DivMod.calls (k : Nat) (a0_0 : Bool) (A0_1 : Option Addr) (c0_1 : Nat) (l0_1 : List Int) (a1_0 : Bool) (A1_1 : Option Addr) (c1_1 : Nat) (l1_1 : List Int) (r1 : Bool) (r2 : List Int) (r3 : Bool) (r4 : List Int) (r5 : Int) (w : World) (hr0_1 : Kd.C (Kd.int .u32) w A0_1 l0_1.length l0_1) (hc0_1 : l0_1.length ≤ c0_1) (hr1_1 : Kd.C (Kd.int .u32) w A1_1 l1_1.length l1_1) (hc1_1 : l1_1.length ≤ c1_1) (h : filigreeref02_DivMod.f k a0_0 l0_1 a1_0 l1_1 = some (r1, r2, r3, r4, r5)) :
  Calls Tryd.prog 13 #[.agg #[.bool a0_0, .slice A0_1 l0_1.length c0_1], .agg #[.bool a1_0, .slice A1_1 l1_1.length c1_1]] w fun e w' => ∃ v1_ v3_ : Value, e = .returned (.tuple #[.agg #[.bool r1, v1_], .agg #[.bool r3, v3_], .int .i64 r5]) ∧ Kd.R (Kd.int .u32) 58 w' w.heap.size (fun k_ => some k_ ≠ (v3_ : Value).ownBlock) v1_ r2 ∧ Kd.R (Kd.int .u32) 58 w' w.heap.size (fun k_ => some k_ ≠ (v1_ : Value).ownBlock) v3_ r4 ∧ Below w.heap.size w w' := by
 have hu24 := Tryd.underlying24
 have HR0 := zMk hr0_1
 have HC0 := zMk hc0_1
 have HR1 := zMk hr1_1
 have HC1 := zMk hc1_1
 clear hr0_1 hc0_1 hr1_1 hc1_1
 unfold filigreeref02_DivMod.f at h
 obtain ⟨⟨q, r, e⟩, hq, h⟩ := Option.bind_eq_some_iff.1 h
 have HQ := zMk hq
 have HH := zMk h
 clear hq h
 go_enter Tryd.func13, Tryd.ntmps13
 go_upto_region 1 with (fail)
 have MS0 : DmS w ((((w.alloc (Obj.cells #[Value.bool a0_0, Value.slice A0_1 l0_1.length c0_1] 24)).alloc (Obj.cells #[Value.bool a1_0, Value.slice A1_1 l1_1.length c1_1] 24)).alloc (Obj.cells #[Value.bool false, Value.slice none 0 0] 24)).alloc (Obj.cells #[Value.bool false, Value.slice none 0 0] 24)) w.heap.size (w.heap.size + 1) (w.heap.size + 1 + 1) (w.heap.size + 1 + 1 + 1) a0_0 a1_0 (Value.slice A0_1 l0_1.length c0_1) (Value.slice A1_1 l1_1.length c1_1) := by
  have z : ∀ (W : World) (o : Obj), (W.alloc o).heap.size = W.heap.size + 1 := fun W o => by show (W.heap.push _).size = _; simp
  have y : ∀ (W : World) (o : Obj) (n : Nat), W.heap.size = n → (W.alloc o).heap[n]? = some o := fun W o n h => h ▸ heap_alloc_new W o
  exact ⟨zBa (zBa (zBa (zBa (Below.refl _ _) _) _) _) _, zKa (zKa (zKa (y _ _ _ rfl) _) _) _, zKa (zKa (y _ _ _ (z _ _)) _) _, zKa (y _ _ _ (by rw [z, z])) _, y _ _ _ (by rw [z, z, z]), by omega, by omega, by omega⟩
 generalize w.heap.size + 1 + 1 + 1 = b5 at MS0 ⊢
 generalize w.heap.size + 1 + 1 = b4 at MS0 ⊢
 generalize w.heap.size + 1 = b3 at MS0 ⊢
 generalize ((((w.alloc (Obj.cells #[Value.bool a0_0, Value.slice A0_1 l0_1.length c0_1] 24)).alloc (Obj.cells #[Value.bool a1_0, Value.slice A1_1 l1_1.length c1_1] 24)).alloc (Obj.cells #[Value.bool false, Value.slice none 0 0] 24)).alloc (Obj.cells #[Value.bool false, Value.slice none 0 0] 24)) = w0 at MS0 ⊢
 have M0 := zMk MS0
 clear MS0
 have hz2 := zKc M0.out.h2 1
 have hz3 := zKc M0.out.h3 1
 simp only [List.getElem?_toArray, List.getElem?_cons_succ, List.getElem?_cons_zero] at hz2 hz3
 go_upto_region 2 with (go_at_call 37; refine (r1_DivMod.calls k A0_1 c0_1 l0_1 A1_1 c1_1 l1_1 q r e _ (Kd.C_below HR0.out M0.out.hB) HC0.out (Kd.C_below HR1.out M0.out.hB) HC1.out HQ.out).mono ?_; rintro e' w1 ⟨v7, v8, rfl, hq, hr, hb⟩; have M1 := zMk (M0.out.below hb); have R7 := zMk hq; have R8 := zMk hr; clear hq hr hb)
 clear hz2 hz3 M0 HQ
 have h := HH.out
 clear HH
 by_cases he : e = 0
 rotate_left
 ·rw [if_neg he] at h
  have eb : (e != 0) = true := bne_iff_ne.mpr he
  obtain ⟨rfl, rfl, rfl, rfl, rfl⟩ : false = r1 ∧ [] = r2 ∧ false = r3 ∧ [] = r4 ∧ e = r5 := by simpa using h
  clear h
  have hz40 : w1.cell? ⟨b4, 0, none⟩ = some (.bool false) := (zKc M1.out.h4 0).trans rfl
  have hz41 : w1.cell? ⟨b4, 1, none⟩ = some (.slice none 0 0) := (zKc M1.out.h4 1).trans rfl
  have hz50 : w1.cell? ⟨b5, 0, none⟩ = some (.bool false) := (zKc M1.out.h5 0).trans rfl
  have hz51 : w1.cell? ⟨b5, 1, none⟩ = some (.slice none 0 0) := (zKc M1.out.h5 1).trans rfl
  have hf40 := zKf M1.out.h4 0
  have hf41 := zKf M1.out.h4 1
  have hf50 := zKf M1.out.h5 0
  have hf51 := zKf M1.out.h5 1
  have hn1 := M1.out.ne
  have hn2 := M1.out.ne.symm
  go_wp2
  obtain ⟨k4, k5, kB⟩ := M1.out.puts false false (.slice none 0 0) (.slice none 0 0)
  refine bodyPost_ret (results_list (rs:=[.cell 4 24, .cell 5 24, .tmp 6]) rfl (by simp) (.cell b4 24 #[.bool false, .slice none 0 0] (0, 0) _ rfl k4 Tryd.underlying24 rfl (by kernel_rfl) (.cell b5 24 #[.bool false, .slice none 0 0] (0, 0) _ rfl k5 Tryd.underlying24 rfl (by kernel_rfl) (.tmp .nil)))) rfl ?_
  exact ⟨_, _, rfl, Kd.R_nil dmU 58 _ _ _, Kd.R_nil dmU 58 _ _ _, kB⟩
 subst he
 rw [if_pos rfl] at h
 have eb : ((0 : Int) != 0) = false := rfl
 obtain ⟨⟨p, X⟩, hX, h⟩ := Option.bind_eq_some_iff.1 h
 obtain ⟨⟨n, Y⟩, hY, h⟩ := Option.bind_eq_some_iff.1 h
 have HX := zMk hX
 have HY := zMk hY
 have HH := zMk h
 clear hX hY h
 obtain ⟨A7, c7, e7⟩ := zRs R7.out
 subst e7
 obtain ⟨A8, c8, e8⟩ := zRs R8.out
 subst e8
 go_upto_region 4 with (fail)
 have M5 := zMk (M1.out.below (zBd (Below.refl w1.heap.size w1)))
 have R75 := zMk (zRd R7.out)
 have R85 := zMk (zRd R8.out)
 clear M1 R7 R8
 refine start_ (n:=15) (S:=fun w' => w'.cell? ⟨w.heap.size, 0, none⟩ = some (.bool a0_0) ∧ w'.cell? ⟨b3, 0, none⟩ = some (.bool a1_0)) (ds:=[]) #[false,false,false,false,false,false,false,false,false,false,false,false,false,false,false] (by kernel_rfl) rfl rfl ⟨(zKc M5.out.h2 0).trans rfl, (zKc M5.out.h3 0).trans rfl⟩ (fun hHeld => ?_)
 generalize w1.drew = w5 at M5 R75 R85 hHeld ⊢
 have HN := zMk (DmN.start w5 X Y)
 refine pure_ (i:=0) (N:=some 26) (v:=?_) (a' := ?_) #[true,false,false,false,false,false,false,false,false,false,false,false,false,false,false] rfl rfl (by kernel_rfl) (fun _ _ _ h => h) (Or.inl ⟨by rfl, ?_⟩) ?_ ?_
 rotate_left
 ·intro w'
  go_simp
  with_reducible rfl
 rotate_left
 ·simp only [Act.put, zSa, zSb, zSc, i64_w, i32_w]
  rfl
 refine pure_ (i:=2) (N:=some 28) (v:=?_) (a' := ?_) #[true,false,true,false,false,false,false,false,false,false,false,false,false,false,false] rfl rfl (by kernel_rfl) (fun _ _ _ h => h) (Or.inl ⟨by rfl, ?_⟩) ?_ ?_
 rotate_left
 ·intro w'
  go_simp
  with_reducible rfl
 rotate_left
 ·simp only [Act.put, zSa, zSb, zSc, i64_w, i32_w]
  rfl
 refine pure_ (i:=5) (N:=some 31) (v:=?_) (a' := ?_) #[true,false,true,false,false,true,false,false,false,false,false,false,false,false,false] rfl rfl (by kernel_rfl) (fun _ _ _ h => h) (Or.inl ⟨by rfl, ?_⟩) ?_ ?_
 rotate_left
 ·intro w'
  go_simp
  with_reducible rfl
 rotate_left
 ·simp only [Act.put, zSa, zSb, zSc, i64_w, i32_w]
  rfl
 refine pure_ (i:=7) (N:=some 33) (v:=?_) (a' := ?_) #[true,false,true,false,false,true,false,true,false,false,false,false,false,false,false] rfl rfl (by kernel_rfl) (fun _ _ _ h => h) (Or.inl ⟨by rfl, ?_⟩) ?_ ?_
 rotate_left
 ·intro w'
  go_simp
  with_reducible rfl
 rotate_left
 ·simp only [Act.put, zSa, zSb, zSc, i64_w, i32_w]
  rfl
 refine pure_ (i:=9) (N:=some 35) (v:=?_) (a' := ?_) #[true,false,true,false,false,true,false,true,false,true,false,false,false,false,false] rfl rfl (by kernel_rfl) (fun _ _ _ h => h) (Or.inl ⟨by rfl, ?_⟩) ?_ ?_
 rotate_left
 ·intro w'
  go_simp
  with_reducible rfl
 rotate_left
 ·simp only [Act.put, zSa, zSb, zSc, i64_w, i32_w]
  rfl
 refine take_ (i:=1) (N:=some 27) (v:=?_) (a' := ?_) #[true,true,true,false,false,true,false,true,false,true,false,false,false,false,false] rfl rfl (by kernel_rfl) (fun _ _ _ h => h) (Or.inl ⟨by rfl, ?_⟩) hHeld ?_ ?_
 rotate_left
 ·rintro w' ⟨s0, s1⟩
  go_simp
  with_reducible rfl
 rotate_left
 ·simp only [Act.put, zSa, zSb, zSc, i64_w, i32_w]
  rfl
 refine take_ (i:=3) (N:=some 29) (v:=?_) (a' := ?_) #[true,true,true,true,false,true,false,true,false,true,false,false,false,false,false] rfl rfl (by kernel_rfl) (fun _ _ _ h => h) (Or.inl ⟨by rfl, ?_⟩) hHeld ?_ ?_
 rotate_left
 ·rintro w' ⟨s0, s1⟩
  go_simp
  with_reducible rfl
 rotate_left
 ·simp only [Act.put, zSa, zSb, zSc, i64_w, i32_w]
  rfl
 refine pure_ (i:=4) (N:=some 30) (v:=?_) (a' := ?_) #[true,true,true,true,true,true,false,true,false,true,false,false,false,false,false] rfl rfl (by kernel_rfl) (fun _ _ _ h => h) (Or.inl ⟨by rfl, ?_⟩) ?_ ?_
 rotate_left
 ·intro w'
  go_simp
  with_reducible rfl
 rotate_left
 ·simp only [Act.put, zSa, zSb, zSc, i64_w, i32_w]
  rfl
 refine take_ (i:=8) (N:=some 34) (v:=?_) (a' := ?_) #[true,true,true,true,true,true,false,true,true,true,false,false,false,false,false] rfl rfl (by kernel_rfl) (fun _ _ _ h => h) (Or.inl ⟨by rfl, ?_⟩) hHeld ?_ ?_
 rotate_left
 ·rintro w' ⟨s0, s1⟩
  go_simp
  with_reducible rfl
 rotate_left
 ·simp only [Act.put, zSa, zSb, zSc, i64_w, i32_w]
  rfl
 refine join_ (σ:=Value × Value × Nat × Nat) 2 #[true,true,true,true,true,true,true,true,true,true,true,true,true,false,false] (fun s_ => [(32, .agg #[.bool p, s_.1]), (36, .agg #[.bool n, s_.2.1]), (10, .pointer (some ⟨s_.2.2.1, 0, none⟩)), (11, .pointer (some ⟨s_.2.2.2, 0, none⟩))]) (fun s_ w' => (w'.cell? ⟨w.heap.size, 0, none⟩ = some (.bool a0_0) ∧ w'.cell? ⟨b3, 0, none⟩ = some (.bool a1_0)) ∧ DmN w5 w' X Y (some s_.1) (some s_.2.1) (some s_.2.2.1) (some s_.2.2.2)) ?_ ?_
 rotate_left
 ·intro hJ6_10_11_12
  refine join_ (σ:=Value × Value × Nat) 3 #[true,true,true,true,true,true,true,true,true,true,true,true,false,false,false] (fun s_ => [(32, .agg #[.bool p, s_.1]), (36, .agg #[.bool n, s_.2.1]), (10, .pointer (some ⟨s_.2.2, 0, none⟩))]) (fun s_ w' => (w'.cell? ⟨w.heap.size, 0, none⟩ = some (.bool a0_0) ∧ w'.cell? ⟨b3, 0, none⟩ = some (.bool a1_0)) ∧ DmN w5 w' X Y (some s_.1) (some s_.2.1) (some s_.2.2) none) ?_ ?_
  rotate_left
  ·intro hJ6_10_11
   refine join_ (σ:=Value × Value × Nat) 3 #[true,true,true,true,true,true,true,true,true,true,true,false,true,false,false] (fun s_ => [(32, .agg #[.bool p, s_.1]), (36, .agg #[.bool n, s_.2.1]), (11, .pointer (some ⟨s_.2.2, 0, none⟩))]) (fun s_ w' => (w'.cell? ⟨w.heap.size, 0, none⟩ = some (.bool a0_0) ∧ w'.cell? ⟨b3, 0, none⟩ = some (.bool a1_0)) ∧ DmN w5 w' X Y (some s_.1) (some s_.2.1) none (some s_.2.2)) ?_ ?_
   rotate_left
   ·intro hJ6_10_12
    refine join_ (σ:=Value × Nat × Nat) 3 #[true,true,true,true,true,true,true,true,true,true,false,true,true,false,false] (fun s_ => [(32, .agg #[.bool p, s_.1]), (10, .pointer (some ⟨s_.2.1, 0, none⟩)), (11, .pointer (some ⟨s_.2.2, 0, none⟩))]) (fun s_ w' => (w'.cell? ⟨w.heap.size, 0, none⟩ = some (.bool a0_0) ∧ w'.cell? ⟨b3, 0, none⟩ = some (.bool a1_0)) ∧ DmN w5 w' X Y (some s_.1) none (some s_.2.1) (some s_.2.2)) ?_ ?_
    rotate_left
    ·intro hJ6_11_12
     refine join_ (σ:=Value × Value) 4 #[true,true,true,true,true,true,true,true,true,true,true,false,false,false,false] (fun s_ => [(32, .agg #[.bool p, s_.1]), (36, .agg #[.bool n, s_.2])]) (fun s_ w' => (w'.cell? ⟨w.heap.size, 0, none⟩ = some (.bool a0_0) ∧ w'.cell? ⟨b3, 0, none⟩ = some (.bool a1_0)) ∧ DmN w5 w' X Y (some s_.1) (some s_.2) none none) ?_ ?_
     rotate_left
     ·intro hJ6_10
      refine join_ (σ:=Value × Nat) 4 #[true,true,true,true,true,true,true,true,true,true,false,true,false,false,false] (fun s_ => [(32, .agg #[.bool p, s_.1]), (10, .pointer (some ⟨s_.2, 0, none⟩))]) (fun s_ w' => (w'.cell? ⟨w.heap.size, 0, none⟩ = some (.bool a0_0) ∧ w'.cell? ⟨b3, 0, none⟩ = some (.bool a1_0)) ∧ DmN w5 w' X Y (some s_.1) none (some s_.2) none) ?_ ?_
      rotate_left
      ·intro hJ6_11
       refine join_ (σ:=Value × Nat) 4 #[true,true,true,true,true,true,true,true,true,true,false,false,true,false,false] (fun s_ => [(32, .agg #[.bool p, s_.1]), (11, .pointer (some ⟨s_.2, 0, none⟩))]) (fun s_ w' => (w'.cell? ⟨w.heap.size, 0, none⟩ = some (.bool a0_0) ∧ w'.cell? ⟨b3, 0, none⟩ = some (.bool a1_0)) ∧ DmN w5 w' X Y (some s_.1) none none (some s_.2)) ?_ ?_
       rotate_left
       ·intro hJ6_12
        refine join_ (σ:=Nat × Nat) 4 #[true,true,true,true,true,true,false,true,true,true,false,true,true,false,false] (fun s_ => [(10, .pointer (some ⟨s_.1, 0, none⟩)), (11, .pointer (some ⟨s_.2, 0, none⟩))]) (fun s_ w' => (w'.cell? ⟨w.heap.size, 0, none⟩ = some (.bool a0_0) ∧ w'.cell? ⟨b3, 0, none⟩ = some (.bool a1_0)) ∧ DmN w5 w' X Y none none (some s_.1) (some s_.2)) ?_ ?_
        rotate_left
        ·intro hJ11_12
         refine join_ (σ:=Value) 5 #[true,true,true,true,true,true,true,true,true,true,false,false,false,false,false] (fun s_ => [(32, .agg #[.bool p, s_])]) (fun s_ w' => (w'.cell? ⟨w.heap.size, 0, none⟩ = some (.bool a0_0) ∧ w'.cell? ⟨b3, 0, none⟩ = some (.bool a1_0)) ∧ DmN w5 w' X Y (some s_) none none none) ?_ ?_
         rotate_left
         ·intro hJ6
          refine join_ (σ:=Nat) 5 #[true,true,true,true,true,true,false,true,true,true,false,true,false,false,false] (fun s_ => [(10, .pointer (some ⟨s_, 0, none⟩))]) (fun s_ w' => (w'.cell? ⟨w.heap.size, 0, none⟩ = some (.bool a0_0) ∧ w'.cell? ⟨b3, 0, none⟩ = some (.bool a1_0)) ∧ DmN w5 w' X Y none none (some s_) none) ?_ ?_
          rotate_left
          ·intro hJ11
           refine join_ (σ:=Nat) 5 #[true,true,true,true,true,true,false,true,true,true,false,false,true,false,false] (fun s_ => [(11, .pointer (some ⟨s_, 0, none⟩))]) (fun s_ w' => (w'.cell? ⟨w.heap.size, 0, none⟩ = some (.bool a0_0) ∧ w'.cell? ⟨b3, 0, none⟩ = some (.bool a1_0)) ∧ DmN w5 w' X Y none none none (some s_)) ?_ ?_
           rotate_left
           ·intro hJ12
            refine three_ (i:=6) (j:=11) (k:=12) (Ni:=some 32) (Nj:=some 10) (Nk:=some 11) #[true,true,true,true,true,true,true,true,true,true,false,false,false,false,false] #[true,true,true,true,true,true,false,true,true,true,false,true,false,false,false] #[true,true,true,true,true,true,false,true,true,true,false,false,true,false,false] rfl rfl rfl rfl rfl rfl (by kernel_rfl) (by decide) (by decide) (by decide) (fun K hK => ?_) (fun K hK => ?_) (fun K hK => ?_)
            ·skip
             refine goes_ Tryd.func38 (by kernel_rfl) rfl #[.bool (a0_0 != a1_0), .slice A7 q.length c7] (by rfl) rfl rfl (by (try simp only [zMa, zMc, zMn]); first | done | rfl) ?_
             with_reducible refine (filigreeref02_make2.calls k (a0_0 != a1_0) _ _ q p X _ (uC (zRr (zRb R75.out HN.out.hB)).2.2) (zRr R75.out).2.1 HX.out).mono ?_
             rintro e wN ⟨vX, rfl, ho, hb⟩
             refine ⟨_, rfl, ?_⟩
             replace HN := zMk (HN.out.callX ho hb)
             clear ho hb
             refine hK.out _ _ ⟨(zKc (M5.out.below HN.out.hB).h2 0).trans rfl, (zKc (M5.out.below HN.out.hB).h3 0).trans rfl⟩ (fun hHeld => ?_)
             clear hK K
             refine norm_ (a' := ?_) ?_ ?_
             rotate_left
             ·show Act.put _ (some 32) _ = _
              simp only [Act.put, zSa, zSb, zSc, i64_w, i32_w]
              rfl
             exact norm_ (by first | (simp only [putAll, Act.put, zSa, zSb, zSc]; done) | (simp only [putAll, Act.put, zSa, zSb, zSc]; rfl)) (hJ6 vX _ ⟨hHeld, HN.out⟩)
            ·skip
             refine box_step ?hg (N:=10) ?hd (cs:=#[.bool false, .slice none 0 0]) (t:=24) ?hr ?_; (case hd => rfl); (case hg => rfl); (case hr => first | (go_simp; done) | (go_simp; rfl))
             intro g hg wN hbox hb
             replace HN := zMk (HN.out.boxG hg hbox hb)
             clear hg hbox hb
             refine hK.out _ _ ⟨(zKc (M5.out.below HN.out.hB).h2 0).trans rfl, (zKc (M5.out.below HN.out.hB).h3 0).trans rfl⟩ (fun hHeld => ?_)
             clear hK K
             refine norm_ (a' := ?_) ?_ ?_
             rotate_left
             ·show Act.put _ (some 10) _ = _
              simp only [Act.put, zSa, zSb, zSc, i64_w, i32_w]
              rfl
             exact norm_ (by first | (simp only [putAll, Act.put, zSa, zSb, zSc]; done) | (simp only [putAll, Act.put, zSa, zSb, zSc]; rfl)) (hJ11 g _ ⟨hHeld, HN.out⟩)
            ·skip
             refine box_step ?hg (N:=11) ?hd (cs:=#[.bool false, .slice none 0 0]) (t:=24) ?hr ?_; (case hd => rfl); (case hg => rfl); (case hr => first | (go_simp; done) | (go_simp; rfl))
             intro gh hg wN hbox hb
             replace HN := zMk (HN.out.boxH hg hbox hb)
             clear hg hbox hb
             refine hK.out _ _ ⟨(zKc (M5.out.below HN.out.hB).h2 0).trans rfl, (zKc (M5.out.below HN.out.hB).h3 0).trans rfl⟩ (fun hHeld => ?_)
             clear hK K
             refine norm_ (a' := ?_) ?_ ?_
             rotate_left
             ·show Act.put _ (some 11) _ = _
              simp only [Act.put, zSa, zSb, zSc, i64_w, i32_w]
              rfl
             exact norm_ (by first | (simp only [putAll, Act.put, zSa, zSb, zSc]; done) | (simp only [putAll, Act.put, zSa, zSb, zSc]; rfl)) (hJ12 gh _ ⟨hHeld, HN.out⟩)
           ·skip
            rintro gh wN ⟨hHeld, hN_⟩
            replace HN : Aside0 (DmN w5 wN X Y none none none (some gh)) := ⟨hN_⟩
            clear hN_
            refine norm_ (a' := ?_) ?_ ?_
            rotate_left
            ·simp only [putAll, Act.put, zSa, zSb, zSc]
             rfl
            refine two_ (i:=6) (j:=11) (Ni:=some 32) (Nj:=some 10) #[true,true,true,true,true,true,true,true,true,true,false,false,true,false,false] #[true,true,true,true,true,true,false,true,true,true,false,true,true,false,false] rfl rfl rfl rfl (by kernel_rfl) (by decide) (by decide) (fun K hK => ?_) (fun K hK => ?_)
            ·skip
             refine goes_ Tryd.func38 (by kernel_rfl) rfl #[.bool (a0_0 != a1_0), .slice A7 q.length c7] (by rfl) rfl rfl (by (try simp only [zMa, zMc, zMn]); first | done | rfl) ?_
             with_reducible refine (filigreeref02_make2.calls k (a0_0 != a1_0) _ _ q p X _ (uC (zRr (zRb R75.out HN.out.hB)).2.2) (zRr R75.out).2.1 HX.out).mono ?_
             rintro e wN ⟨vX, rfl, ho, hb⟩
             refine ⟨_, rfl, ?_⟩
             replace HN := zMk (HN.out.callX ho hb)
             clear ho hb
             refine hK.out _ _ ⟨(zKc (M5.out.below HN.out.hB).h2 0).trans rfl, (zKc (M5.out.below HN.out.hB).h3 0).trans rfl⟩ (fun hHeld => ?_)
             clear hK K
             refine norm_ (a' := ?_) ?_ ?_
             rotate_left
             ·show Act.put _ (some 32) _ = _
              simp only [Act.put, zSa, zSb, zSc, i64_w, i32_w]
              rfl
             exact norm_ (by first | (simp only [putAll, Act.put, zSa, zSb, zSc]; done) | (simp only [putAll, Act.put, zSa, zSb, zSc]; rfl)) (hJ6_12 (vX, gh) _ ⟨hHeld, HN.out⟩)
            ·skip
             refine box_step ?hg (N:=10) ?hd (cs:=#[.bool false, .slice none 0 0]) (t:=24) ?hr ?_; (case hd => rfl); (case hg => rfl); (case hr => first | (go_simp; done) | (go_simp; rfl))
             intro g hg wN hbox hb
             replace HN := zMk (HN.out.boxG hg hbox hb)
             clear hg hbox hb
             refine hK.out _ _ ⟨(zKc (M5.out.below HN.out.hB).h2 0).trans rfl, (zKc (M5.out.below HN.out.hB).h3 0).trans rfl⟩ (fun hHeld => ?_)
             clear hK K
             refine norm_ (a' := ?_) ?_ ?_
             rotate_left
             ·show Act.put _ (some 10) _ = _
              simp only [Act.put, zSa, zSb, zSc, i64_w, i32_w]
              rfl
             exact norm_ (by first | (simp only [putAll, Act.put, zSa, zSb, zSc]; done) | (simp only [putAll, Act.put, zSa, zSb, zSc]; rfl)) (hJ11_12 (g, gh) _ ⟨hHeld, HN.out⟩)
          ·skip
           rintro g wN ⟨hHeld, hN_⟩
           replace HN : Aside0 (DmN w5 wN X Y none none (some g) none) := ⟨hN_⟩
           clear hN_
           refine norm_ (a' := ?_) ?_ ?_
           rotate_left
           ·simp only [putAll, Act.put, zSa, zSb, zSc]
            rfl
           refine two_ (i:=6) (j:=12) (Ni:=some 32) (Nj:=some 11) #[true,true,true,true,true,true,true,true,true,true,false,true,false,false,false] #[true,true,true,true,true,true,false,true,true,true,false,true,true,false,false] rfl rfl rfl rfl (by kernel_rfl) (by decide) (by decide) (fun K hK => ?_) (fun K hK => ?_)
           ·skip
            refine goes_ Tryd.func38 (by kernel_rfl) rfl #[.bool (a0_0 != a1_0), .slice A7 q.length c7] (by rfl) rfl rfl (by (try simp only [zMa, zMc, zMn]); first | done | rfl) ?_
            with_reducible refine (filigreeref02_make2.calls k (a0_0 != a1_0) _ _ q p X _ (uC (zRr (zRb R75.out HN.out.hB)).2.2) (zRr R75.out).2.1 HX.out).mono ?_
            rintro e wN ⟨vX, rfl, ho, hb⟩
            refine ⟨_, rfl, ?_⟩
            replace HN := zMk (HN.out.callX ho hb)
            clear ho hb
            refine hK.out _ _ ⟨(zKc (M5.out.below HN.out.hB).h2 0).trans rfl, (zKc (M5.out.below HN.out.hB).h3 0).trans rfl⟩ (fun hHeld => ?_)
            clear hK K
            refine norm_ (a' := ?_) ?_ ?_
            rotate_left
            ·show Act.put _ (some 32) _ = _
             simp only [Act.put, zSa, zSb, zSc, i64_w, i32_w]
             rfl
            exact norm_ (by first | (simp only [putAll, Act.put, zSa, zSb, zSc]; done) | (simp only [putAll, Act.put, zSa, zSb, zSc]; rfl)) (hJ6_11 (vX, g) _ ⟨hHeld, HN.out⟩)
           ·skip
            refine box_step ?hg (N:=11) ?hd (cs:=#[.bool false, .slice none 0 0]) (t:=24) ?hr ?_; (case hd => rfl); (case hg => rfl); (case hr => first | (go_simp; done) | (go_simp; rfl))
            intro gh hg wN hbox hb
            replace HN := zMk (HN.out.boxH hg hbox hb)
            clear hg hbox hb
            refine hK.out _ _ ⟨(zKc (M5.out.below HN.out.hB).h2 0).trans rfl, (zKc (M5.out.below HN.out.hB).h3 0).trans rfl⟩ (fun hHeld => ?_)
            clear hK K
            refine norm_ (a' := ?_) ?_ ?_
            rotate_left
            ·show Act.put _ (some 11) _ = _
             simp only [Act.put, zSa, zSb, zSc, i64_w, i32_w]
             rfl
            exact norm_ (by first | (simp only [putAll, Act.put, zSa, zSb, zSc]; done) | (simp only [putAll, Act.put, zSa, zSb, zSc]; rfl)) (hJ11_12 (g, gh) _ ⟨hHeld, HN.out⟩)
         ·skip
          rintro vX wN ⟨hHeld, hN_⟩
          replace HN : Aside0 (DmN w5 wN X Y (some vX) none none none) := ⟨hN_⟩
          clear hN_
          refine norm_ (a' := ?_) ?_ ?_
          rotate_left
          ·simp only [putAll, Act.put, zSa, zSb, zSc]
           rfl
          refine three_ (i:=10) (j:=11) (k:=12) (Ni:=some 36) (Nj:=some 10) (Nk:=some 11) #[true,true,true,true,true,true,true,true,true,true,true,false,false,false,false] #[true,true,true,true,true,true,true,true,true,true,false,true,false,false,false] #[true,true,true,true,true,true,true,true,true,true,false,false,true,false,false] rfl rfl rfl rfl rfl rfl (by kernel_rfl) (by decide) (by decide) (by decide) (fun K hK => ?_) (fun K hK => ?_) (fun K hK => ?_)
          ·skip
           refine goes_ Tryd.func38 (by kernel_rfl) rfl #[.bool a0_0, .slice A8 r.length c8] (by rfl) rfl rfl (by (try simp only [zMa, zMc, zMn]); first | done | rfl) ?_
           with_reducible refine (filigreeref02_make2.calls k a0_0 _ _ r n Y _ (uC (zRr (zRb R85.out HN.out.hB)).2.2) (zRr R85.out).2.1 HY.out).mono ?_
           rintro e wN ⟨vY, rfl, ho, hb⟩
           refine ⟨_, rfl, ?_⟩
           replace HN := zMk (HN.out.callY ho hb)
           clear ho hb
           refine hK.out _ _ ⟨(zKc (M5.out.below HN.out.hB).h2 0).trans rfl, (zKc (M5.out.below HN.out.hB).h3 0).trans rfl⟩ (fun hHeld => ?_)
           clear hK K
           refine norm_ (a' := ?_) ?_ ?_
           rotate_left
           ·show Act.put _ (some 36) _ = _
            simp only [Act.put, zSa, zSb, zSc, i64_w, i32_w]
            rfl
           exact norm_ (by first | (simp only [putAll, Act.put, zSa, zSb, zSc]; done) | (simp only [putAll, Act.put, zSa, zSb, zSc]; rfl)) (hJ6_10 (vX, vY) _ ⟨hHeld, HN.out⟩)
          ·skip
           refine box_step ?hg (N:=10) ?hd (cs:=#[.bool false, .slice none 0 0]) (t:=24) ?hr ?_; (case hd => rfl); (case hg => rfl); (case hr => first | (go_simp; done) | (go_simp; rfl))
           intro g hg wN hbox hb
           replace HN := zMk (HN.out.boxG hg hbox hb)
           clear hg hbox hb
           refine hK.out _ _ ⟨(zKc (M5.out.below HN.out.hB).h2 0).trans rfl, (zKc (M5.out.below HN.out.hB).h3 0).trans rfl⟩ (fun hHeld => ?_)
           clear hK K
           refine norm_ (a' := ?_) ?_ ?_
           rotate_left
           ·show Act.put _ (some 10) _ = _
            simp only [Act.put, zSa, zSb, zSc, i64_w, i32_w]
            rfl
           exact norm_ (by first | (simp only [putAll, Act.put, zSa, zSb, zSc]; done) | (simp only [putAll, Act.put, zSa, zSb, zSc]; rfl)) (hJ6_11 (vX, g) _ ⟨hHeld, HN.out⟩)
          ·skip
           refine box_step ?hg (N:=11) ?hd (cs:=#[.bool false, .slice none 0 0]) (t:=24) ?hr ?_; (case hd => rfl); (case hg => rfl); (case hr => first | (go_simp; done) | (go_simp; rfl))
           intro gh hg wN hbox hb
           replace HN := zMk (HN.out.boxH hg hbox hb)
           clear hg hbox hb
           refine hK.out _ _ ⟨(zKc (M5.out.below HN.out.hB).h2 0).trans rfl, (zKc (M5.out.below HN.out.hB).h3 0).trans rfl⟩ (fun hHeld => ?_)
           clear hK K
           refine norm_ (a' := ?_) ?_ ?_
           rotate_left
           ·show Act.put _ (some 11) _ = _
            simp only [Act.put, zSa, zSb, zSc, i64_w, i32_w]
            rfl
           exact norm_ (by first | (simp only [putAll, Act.put, zSa, zSb, zSc]; done) | (simp only [putAll, Act.put, zSa, zSb, zSc]; rfl)) (hJ6_12 (vX, gh) _ ⟨hHeld, HN.out⟩)
        ·skip
         rintro ⟨g, gh⟩ wN ⟨hHeld, hN_⟩
         replace HN : Aside0 (DmN w5 wN X Y none none (some g) (some gh)) := ⟨hN_⟩
         clear hN_
         refine norm_ (a' := ?_) ?_ ?_
         rotate_left
         ·simp only [putAll, Act.put, zSa, zSb, zSc]
          rfl
         refine one_ (i:=6) (N:=some 32) #[true,true,true,true,true,true,true,true,true,true,false,true,true,false,false] rfl rfl (by kernel_rfl) (by decide) (fun K hK => ?_)
         refine goes_ Tryd.func38 (by kernel_rfl) rfl #[.bool (a0_0 != a1_0), .slice A7 q.length c7] (by rfl) rfl rfl (by (try simp only [zMa, zMc, zMn]); first | done | rfl) ?_
         with_reducible refine (filigreeref02_make2.calls k (a0_0 != a1_0) _ _ q p X _ (uC (zRr (zRb R75.out HN.out.hB)).2.2) (zRr R75.out).2.1 HX.out).mono ?_
         rintro e wN ⟨vX, rfl, ho, hb⟩
         refine ⟨_, rfl, ?_⟩
         replace HN := zMk (HN.out.callX ho hb)
         clear ho hb
         refine hK.out _ _ ⟨(zKc (M5.out.below HN.out.hB).h2 0).trans rfl, (zKc (M5.out.below HN.out.hB).h3 0).trans rfl⟩ (fun hHeld => ?_)
         clear hK K
         refine norm_ (a' := ?_) ?_ ?_
         rotate_left
         ·show Act.put _ (some 32) _ = _
          simp only [Act.put, zSa, zSb, zSc, i64_w, i32_w]
          rfl
         exact norm_ (by first | (simp only [putAll, Act.put, zSa, zSb, zSc]; done) | (simp only [putAll, Act.put, zSa, zSb, zSc]; rfl)) (hJ6_11_12 (vX, g, gh) _ ⟨hHeld, HN.out⟩)
       ·skip
        rintro ⟨vX, gh⟩ wN ⟨hHeld, hN_⟩
        replace HN : Aside0 (DmN w5 wN X Y (some vX) none none (some gh)) := ⟨hN_⟩
        clear hN_
        refine norm_ (a' := ?_) ?_ ?_
        rotate_left
        ·simp only [putAll, Act.put, zSa, zSb, zSc]
         rfl
        refine two_ (i:=10) (j:=11) (Ni:=some 36) (Nj:=some 10) #[true,true,true,true,true,true,true,true,true,true,true,false,true,false,false] #[true,true,true,true,true,true,true,true,true,true,false,true,true,false,false] rfl rfl rfl rfl (by kernel_rfl) (by decide) (by decide) (fun K hK => ?_) (fun K hK => ?_)
        ·skip
         refine goes_ Tryd.func38 (by kernel_rfl) rfl #[.bool a0_0, .slice A8 r.length c8] (by rfl) rfl rfl (by (try simp only [zMa, zMc, zMn]); first | done | rfl) ?_
         with_reducible refine (filigreeref02_make2.calls k a0_0 _ _ r n Y _ (uC (zRr (zRb R85.out HN.out.hB)).2.2) (zRr R85.out).2.1 HY.out).mono ?_
         rintro e wN ⟨vY, rfl, ho, hb⟩
         refine ⟨_, rfl, ?_⟩
         replace HN := zMk (HN.out.callY ho hb)
         clear ho hb
         refine hK.out _ _ ⟨(zKc (M5.out.below HN.out.hB).h2 0).trans rfl, (zKc (M5.out.below HN.out.hB).h3 0).trans rfl⟩ (fun hHeld => ?_)
         clear hK K
         refine norm_ (a' := ?_) ?_ ?_
         rotate_left
         ·show Act.put _ (some 36) _ = _
          simp only [Act.put, zSa, zSb, zSc, i64_w, i32_w]
          rfl
         exact norm_ (by first | (simp only [putAll, Act.put, zSa, zSb, zSc]; done) | (simp only [putAll, Act.put, zSa, zSb, zSc]; rfl)) (hJ6_10_12 (vX, vY, gh) _ ⟨hHeld, HN.out⟩)
        ·skip
         refine box_step ?hg (N:=10) ?hd (cs:=#[.bool false, .slice none 0 0]) (t:=24) ?hr ?_; (case hd => rfl); (case hg => rfl); (case hr => first | (go_simp; done) | (go_simp; rfl))
         intro g hg wN hbox hb
         replace HN := zMk (HN.out.boxG hg hbox hb)
         clear hg hbox hb
         refine hK.out _ _ ⟨(zKc (M5.out.below HN.out.hB).h2 0).trans rfl, (zKc (M5.out.below HN.out.hB).h3 0).trans rfl⟩ (fun hHeld => ?_)
         clear hK K
         refine norm_ (a' := ?_) ?_ ?_
         rotate_left
         ·show Act.put _ (some 10) _ = _
          simp only [Act.put, zSa, zSb, zSc, i64_w, i32_w]
          rfl
         exact norm_ (by first | (simp only [putAll, Act.put, zSa, zSb, zSc]; done) | (simp only [putAll, Act.put, zSa, zSb, zSc]; rfl)) (hJ6_11_12 (vX, g, gh) _ ⟨hHeld, HN.out⟩)
      ·skip
       rintro ⟨vX, g⟩ wN ⟨hHeld, hN_⟩
       replace HN : Aside0 (DmN w5 wN X Y (some vX) none (some g) none) := ⟨hN_⟩
       clear hN_
       refine norm_ (a' := ?_) ?_ ?_
       rotate_left
       ·simp only [putAll, Act.put, zSa, zSb, zSc]
        rfl
       refine two_ (i:=10) (j:=12) (Ni:=some 36) (Nj:=some 11) #[true,true,true,true,true,true,true,true,true,true,true,true,false,false,false] #[true,true,true,true,true,true,true,true,true,true,false,true,true,false,false] rfl rfl rfl rfl (by kernel_rfl) (by decide) (by decide) (fun K hK => ?_) (fun K hK => ?_)
       ·skip
        refine goes_ Tryd.func38 (by kernel_rfl) rfl #[.bool a0_0, .slice A8 r.length c8] (by rfl) rfl rfl (by (try simp only [zMa, zMc, zMn]); first | done | rfl) ?_
        with_reducible refine (filigreeref02_make2.calls k a0_0 _ _ r n Y _ (uC (zRr (zRb R85.out HN.out.hB)).2.2) (zRr R85.out).2.1 HY.out).mono ?_
        rintro e wN ⟨vY, rfl, ho, hb⟩
        refine ⟨_, rfl, ?_⟩
        replace HN := zMk (HN.out.callY ho hb)
        clear ho hb
        refine hK.out _ _ ⟨(zKc (M5.out.below HN.out.hB).h2 0).trans rfl, (zKc (M5.out.below HN.out.hB).h3 0).trans rfl⟩ (fun hHeld => ?_)
        clear hK K
        refine norm_ (a' := ?_) ?_ ?_
        rotate_left
        ·show Act.put _ (some 36) _ = _
         simp only [Act.put, zSa, zSb, zSc, i64_w, i32_w]
         rfl
        exact norm_ (by first | (simp only [putAll, Act.put, zSa, zSb, zSc]; done) | (simp only [putAll, Act.put, zSa, zSb, zSc]; rfl)) (hJ6_10_11 (vX, vY, g) _ ⟨hHeld, HN.out⟩)
       ·skip
        refine box_step ?hg (N:=11) ?hd (cs:=#[.bool false, .slice none 0 0]) (t:=24) ?hr ?_; (case hd => rfl); (case hg => rfl); (case hr => first | (go_simp; done) | (go_simp; rfl))
        intro gh hg wN hbox hb
        replace HN := zMk (HN.out.boxH hg hbox hb)
        clear hg hbox hb
        refine hK.out _ _ ⟨(zKc (M5.out.below HN.out.hB).h2 0).trans rfl, (zKc (M5.out.below HN.out.hB).h3 0).trans rfl⟩ (fun hHeld => ?_)
        clear hK K
        refine norm_ (a' := ?_) ?_ ?_
        rotate_left
        ·show Act.put _ (some 11) _ = _
         simp only [Act.put, zSa, zSb, zSc, i64_w, i32_w]
         rfl
        exact norm_ (by first | (simp only [putAll, Act.put, zSa, zSb, zSc]; done) | (simp only [putAll, Act.put, zSa, zSb, zSc]; rfl)) (hJ6_11_12 (vX, g, gh) _ ⟨hHeld, HN.out⟩)
     ·skip
      rintro ⟨vX, vY⟩ wN ⟨hHeld, hN_⟩
      replace HN : Aside0 (DmN w5 wN X Y (some vX) (some vY) none none) := ⟨hN_⟩
      clear hN_
      refine norm_ (a' := ?_) ?_ ?_
      rotate_left
      ·simp only [putAll, Act.put, zSa, zSb, zSc]
       rfl
      refine two_ (i:=11) (j:=12) (Ni:=some 10) (Nj:=some 11) #[true,true,true,true,true,true,true,true,true,true,true,true,false,false,false] #[true,true,true,true,true,true,true,true,true,true,true,false,true,false,false] rfl rfl rfl rfl (by kernel_rfl) (by decide) (by decide) (fun K hK => ?_) (fun K hK => ?_)
      ·skip
       refine box_step ?hg (N:=10) ?hd (cs:=#[.bool false, .slice none 0 0]) (t:=24) ?hr ?_; (case hd => rfl); (case hg => rfl); (case hr => first | (go_simp; done) | (go_simp; rfl))
       intro g hg wN hbox hb
       replace HN := zMk (HN.out.boxG hg hbox hb)
       clear hg hbox hb
       refine hK.out _ _ ⟨(zKc (M5.out.below HN.out.hB).h2 0).trans rfl, (zKc (M5.out.below HN.out.hB).h3 0).trans rfl⟩ (fun hHeld => ?_)
       clear hK K
       refine norm_ (a' := ?_) ?_ ?_
       rotate_left
       ·show Act.put _ (some 10) _ = _
        simp only [Act.put, zSa, zSb, zSc, i64_w, i32_w]
        rfl
       exact norm_ (by first | (simp only [putAll, Act.put, zSa, zSb, zSc]; done) | (simp only [putAll, Act.put, zSa, zSb, zSc]; rfl)) (hJ6_10_11 (vX, vY, g) _ ⟨hHeld, HN.out⟩)
      ·skip
       refine box_step ?hg (N:=11) ?hd (cs:=#[.bool false, .slice none 0 0]) (t:=24) ?hr ?_; (case hd => rfl); (case hg => rfl); (case hr => first | (go_simp; done) | (go_simp; rfl))
       intro gh hg wN hbox hb
       replace HN := zMk (HN.out.boxH hg hbox hb)
       clear hg hbox hb
       refine hK.out _ _ ⟨(zKc (M5.out.below HN.out.hB).h2 0).trans rfl, (zKc (M5.out.below HN.out.hB).h3 0).trans rfl⟩ (fun hHeld => ?_)
       clear hK K
       refine norm_ (a' := ?_) ?_ ?_
       rotate_left
       ·show Act.put _ (some 11) _ = _
        simp only [Act.put, zSa, zSb, zSc, i64_w, i32_w]
        rfl
       exact norm_ (by first | (simp only [putAll, Act.put, zSa, zSb, zSc]; done) | (simp only [putAll, Act.put, zSa, zSb, zSc]; rfl)) (hJ6_10_12 (vX, vY, gh) _ ⟨hHeld, HN.out⟩)
    ·skip
     rintro ⟨vX, g, gh⟩ wN ⟨hHeld, hN_⟩
     replace HN : Aside0 (DmN w5 wN X Y (some vX) none (some g) (some gh)) := ⟨hN_⟩
     clear hN_
     refine norm_ (a' := ?_) ?_ ?_
     rotate_left
     ·simp only [putAll, Act.put, zSa, zSb, zSc]
      rfl
     refine one_ (i:=10) (N:=some 36) #[true,true,true,true,true,true,true,true,true,true,true,true,true,false,false] rfl rfl (by kernel_rfl) (by decide) (fun K hK => ?_)
     refine goes_ Tryd.func38 (by kernel_rfl) rfl #[.bool a0_0, .slice A8 r.length c8] (by rfl) rfl rfl (by (try simp only [zMa, zMc, zMn]); first | done | rfl) ?_
     with_reducible refine (filigreeref02_make2.calls k a0_0 _ _ r n Y _ (uC (zRr (zRb R85.out HN.out.hB)).2.2) (zRr R85.out).2.1 HY.out).mono ?_
     rintro e wN ⟨vY, rfl, ho, hb⟩
     refine ⟨_, rfl, ?_⟩
     replace HN := zMk (HN.out.callY ho hb)
     clear ho hb
     refine hK.out _ _ ⟨(zKc (M5.out.below HN.out.hB).h2 0).trans rfl, (zKc (M5.out.below HN.out.hB).h3 0).trans rfl⟩ (fun hHeld => ?_)
     clear hK K
     refine norm_ (a' := ?_) ?_ ?_
     rotate_left
     ·show Act.put _ (some 36) _ = _
      simp only [Act.put, zSa, zSb, zSc, i64_w, i32_w]
      rfl
     exact norm_ (by first | (simp only [putAll, Act.put, zSa, zSb, zSc]; done) | (simp only [putAll, Act.put, zSa, zSb, zSc]; rfl)) (hJ6_10_11_12 (vX, vY, g, gh) _ ⟨hHeld, HN.out⟩)
   ·skip
    rintro ⟨vX, vY, gh⟩ wN ⟨hHeld, hN_⟩
    replace HN : Aside0 (DmN w5 wN X Y (some vX) (some vY) none (some gh)) := ⟨hN_⟩
    clear hN_
    refine norm_ (a' := ?_) ?_ ?_
    rotate_left
    ·simp only [putAll, Act.put, zSa, zSb, zSc]
     rfl
    refine one_ (i:=11) (N:=some 10) #[true,true,true,true,true,true,true,true,true,true,true,true,true,false,false] rfl rfl (by kernel_rfl) (by decide) (fun K hK => ?_)
    refine box_step ?hg (N:=10) ?hd (cs:=#[.bool false, .slice none 0 0]) (t:=24) ?hr ?_; (case hd => rfl); (case hg => rfl); (case hr => first | (go_simp; done) | (go_simp; rfl))
    intro g hg wN hbox hb
    replace HN := zMk (HN.out.boxG hg hbox hb)
    clear hg hbox hb
    refine hK.out _ _ ⟨(zKc (M5.out.below HN.out.hB).h2 0).trans rfl, (zKc (M5.out.below HN.out.hB).h3 0).trans rfl⟩ (fun hHeld => ?_)
    clear hK K
    refine norm_ (a' := ?_) ?_ ?_
    rotate_left
    ·show Act.put _ (some 10) _ = _
     simp only [Act.put, zSa, zSb, zSc, i64_w, i32_w]
     rfl
    exact norm_ (by first | (simp only [putAll, Act.put, zSa, zSb, zSc]; done) | (simp only [putAll, Act.put, zSa, zSb, zSc]; rfl)) (hJ6_10_11_12 (vX, vY, g, gh) _ ⟨hHeld, HN.out⟩)
  ·skip
   rintro ⟨vX, vY, g⟩ wN ⟨hHeld, hN_⟩
   replace HN : Aside0 (DmN w5 wN X Y (some vX) (some vY) (some g) none) := ⟨hN_⟩
   clear hN_
   refine norm_ (a' := ?_) ?_ ?_
   rotate_left
   ·simp only [putAll, Act.put, zSa, zSb, zSc]
    rfl
   refine one_ (i:=12) (N:=some 11) #[true,true,true,true,true,true,true,true,true,true,true,true,true,false,false] rfl rfl (by kernel_rfl) (by decide) (fun K hK => ?_)
   refine box_step ?hg (N:=11) ?hd (cs:=#[.bool false, .slice none 0 0]) (t:=24) ?hr ?_; (case hd => rfl); (case hg => rfl); (case hr => first | (go_simp; done) | (go_simp; rfl))
   intro gh hg wN hbox hb
   replace HN := zMk (HN.out.boxH hg hbox hb)
   clear hg hbox hb
   refine hK.out _ _ ⟨(zKc (M5.out.below HN.out.hB).h2 0).trans rfl, (zKc (M5.out.below HN.out.hB).h3 0).trans rfl⟩ (fun hHeld => ?_)
   clear hK K
   refine norm_ (a' := ?_) ?_ ?_
   rotate_left
   ·show Act.put _ (some 11) _ = _
    simp only [Act.put, zSa, zSb, zSc, i64_w, i32_w]
    rfl
   exact norm_ (by first | (simp only [putAll, Act.put, zSa, zSb, zSc]; done) | (simp only [putAll, Act.put, zSa, zSb, zSc]; rfl)) (hJ6_10_11_12 (vX, vY, g, gh) _ ⟨hHeld, HN.out⟩)
 rintro ⟨vX, vY, g, gh⟩ wN ⟨hHeld, hN_⟩
 replace HN : Aside0 (DmN w5 wN X Y (some vX) (some vY) (some g) (some gh)) := ⟨hN_⟩
 clear hN_
 obtain ⟨AX, cX, eX⟩ := zRs (HN.out.hX vX rfl)
 subst eX
 obtain ⟨AY, cY, eY⟩ := zRs (HN.out.hY vY rfl)
 subst eY
 refine norm_ (a' := ?_) ?_ ?_
 rotate_left
 ·simp only [putAll, Act.put, zSa, zSb, zSc]
  rfl
 refine one_ (i:=13) (N:=none) #[true,true,true,true,true,true,true,true,true,true,true,true,true,true,false] rfl rfl (by kernel_rfl) (by decide) (fun K hK => ?_)
 have hcg0 : wN.cell? ⟨g, 0, none⟩ = some (.bool false) := (zKc (HN.out.hG g rfl).2 0).trans rfl
 have hcg1 : wN.cell? ⟨g, 1, none⟩ = some (.slice none 0 0) := (zKc (HN.out.hG g rfl).2 1).trans rfl
 have hfg0 := zKf (HN.out.hG g rfl).2 0
 have hfg1 := zKf (HN.out.hG g rfl).2 1
 have hch0 : wN.cell? ⟨gh, 0, none⟩ = some (.bool false) := (zKc (HN.out.hH gh rfl).2 0).trans rfl
 have hch1 : wN.cell? ⟨gh, 1, none⟩ = some (.slice none 0 0) := (zKc (HN.out.hH gh rfl).2 1).trans rfl
 have hfh0 := zKf (HN.out.hH gh rfl).2 0
 have hfh1 := zKf (HN.out.hH gh rfl).2 1
 have hne1 := HN.out.hN g gh rfl rfl
 have hne2 := (HN.out.hN g gh rfl rfl).symm
 refine skip_ (w1:=?_) (by rfl) rfl ?_ ?_
 rotate_left
 ·go_simp
  rfl
 have HB2 := zMk (below_set (below_set HN.out.hB (HN.out.hG g rfl).1 (j:=0) (v:=.bool p)) (HN.out.hG g rfl).1 (j:=1) (v:=.slice AX X.length cX))
 refine hK.out _ _ ⟨(zKc (M5.out.below HB2.out).h2 0).trans rfl, (zKc (M5.out.below HB2.out).h3 0).trans rfl⟩ (fun hHeld => ?_)
 clear hK K
 refine one_ (i:=14) (N:=none) #[true,true,true,true,true,true,true,true,true,true,true,true,true,true,true] rfl rfl (by kernel_rfl) (by decide) (fun K hK => ?_)
 refine skip_ (w1:=?_) (by rfl) rfl ?_ ?_
 rotate_left
 ·go_simp
  rfl
 have HT := zMk (HN.out.puts p n)
 refine hK.out _ _ ⟨(zKc (M5.out.below HT.out.hB).h2 0).trans rfl, (zKc (M5.out.below HT.out.hB).h3 0).trans rfl⟩ (fun hHeld => ?_)
 clear hK K
 refine done_ (by kernel_rfl) ?_
 have M6 := zMk (M5.out.below HT.out.hB)
 have HBW := zMk (zBt M5.out.hB HT.out.hB)
 clear HN HB2 hcg0 hcg1 hfg0 hfg1 hch0 hch1 hfh0 hfh1 hne1 hne2 R75 R85 HX HY
 generalize ((((wN.setCell ⟨g, 0, none⟩ (.bool p)).setCell ⟨g, 1, none⟩ (.slice AX X.length cX)).setCell ⟨gh, 0, none⟩ (.bool n)).setCell ⟨gh, 1, none⟩ (.slice AY Y.length cY)) = w6 at HT M6 HBW ⊢
 have hcg0 : w6.cell? ⟨g, 0, none⟩ = some (.bool p) := (zKc HT.out.hG 0).trans rfl
 have hcg1 : w6.cell? ⟨g, 1, none⟩ = some (.slice AX X.length cX) := (zKc HT.out.hG 1).trans rfl
 have hch0 : w6.cell? ⟨gh, 0, none⟩ = some (.bool n) := (zKc HT.out.hH 0).trans rfl
 have hch1 : w6.cell? ⟨gh, 1, none⟩ = some (.slice AY Y.length cY) := (zKc HT.out.hH 1).trans rfl
 have hh := HH.out
 clear HH
 cases n with
 | false =>
  rw [if_neg (show ¬ ((false, Y).1 = true) from Bool.false_ne_true)] at hh
  obtain ⟨rfl, rfl, rfl, rfl, rfl⟩ : p = r1 ∧ X = r2 ∧ false = r3 ∧ Y = r4 ∧ 0 = r5 := by simpa using hh
  clear hh
  go_upto_region 10 with (fail)
  have M10 := zMk (M6.out.below (zBd (Below.refl w6.heap.size w6)))
  have T10 := zMk (HT.out.below (zBd (Below.refl w6.heap.size w6)))
  refine start_ (n:=5) (S:=fun w' => w'.cell? ⟨g, 0, none⟩ = some (.bool p) ∧ w'.cell? ⟨g, 1, none⟩ = some (.slice AX X.length cX) ∧ w'.cell? ⟨gh, 0, none⟩ = some (.bool false) ∧ w'.cell? ⟨gh, 1, none⟩ = some (.slice AY Y.length cY)) (ds:=[3]) #[false,false,false,false,false] (by kernel_rfl) rfl rfl ⟨(zKc T10.out.hG 0).trans rfl, (zKc T10.out.hG 1).trans rfl, (zKc T10.out.hH 0).trans rfl, (zKc T10.out.hH 1).trans rfl⟩ (fun hHeld => ?_)
  generalize w6.drew = wd at M10 T10 hHeld ⊢
  have hz40 : wd.cell? ⟨b4, 0, none⟩ = some (.bool false) := (zKc M10.out.h4 0).trans rfl
  have hf40 := zKf M10.out.h4 0
  have hz41 : wd.cell? ⟨b4, 1, none⟩ = some (.slice none 0 0) := (zKc M10.out.h4 1).trans rfl
  have hf41 := zKf M10.out.h4 1
  have hz50 : wd.cell? ⟨b5, 0, none⟩ = some (.bool false) := (zKc M10.out.h5 0).trans rfl
  have hf50 := zKf M10.out.h5 0
  have hz51 : wd.cell? ⟨b5, 1, none⟩ = some (.slice none 0 0) := (zKc M10.out.h5 1).trans rfl
  have hf51 := zKf M10.out.h5 1
  have hn1 := M10.out.ne
  have hn2 := M10.out.ne.symm
  have nG : g ≠ b4 := by have := blk_lt M5.out.h4; have := T10.out.g1; omega
  have nH : gh ≠ b4 := by have := blk_lt M5.out.h4; have := T10.out.h1; omega
  refine take_ (i:=0) (N:=some 52) (v:=?_) (a' := ?_) #[true,false,false,false,false] rfl rfl (by kernel_rfl) (fun _ _ _ h => h) (Or.inl ⟨by rfl, ?_⟩) hHeld ?_ ?_
  rotate_left
  ·rintro w' ⟨s0, s1, s2, s3⟩
   go_simp
   with_reducible rfl
  rotate_left
  ·simp only [Act.put, zSa, zSb, zSc, i64_w, i32_w]
   rfl
  refine take_ (i:=1) (N:=some 53) (v:=?_) (a' := ?_) #[true,true,false,false,false] rfl rfl (by kernel_rfl) (fun _ _ _ h => h) (Or.inl ⟨by rfl, ?_⟩) hHeld ?_ ?_
  rotate_left
  ·rintro w' ⟨s0, s1, s2, s3⟩
   go_simp
   with_reducible rfl
  rotate_left
  ·simp only [Act.put, zSa, zSb, zSc, i64_w, i32_w]
   rfl
  refine one_ (i:=2) (N:=none) #[true,true,true,false,false] rfl rfl (by kernel_rfl) (by decide) (fun K hK => ?_)
  refine skip_ (w1:=?_) (by rfl) rfl ?_ ?_
  rotate_left
  ·go_simp
   rfl
  refine hK.out _ _ ⟨(zKc (blk_far (blk_far T10.out.hG nG _) nG _) 0).trans rfl, (zKc (blk_far (blk_far T10.out.hG nG _) nG _) 1).trans rfl, (zKc (blk_far (blk_far T10.out.hH nH _) nH _) 0).trans rfl, (zKc (blk_far (blk_far T10.out.hH nH _) nH _) 1).trans rfl⟩ (fun hHeld => ?_)
  clear hK K
  refine last_ (i:=3) (N:=none) #[true,true,true,true,false] rfl rfl (by kernel_rfl) (by decide) (fun K hK => ?_)
  refine skip_ (w1:=?_) (by rfl) rfl ?_ ?_
  rotate_left
  ·go_simp
   rfl
  refine hK.out _ _ ?_
  clear hK K
  refine pure_ (i:=4) (N:=some 6) (v:=?_) (a' := ?_) #[true,true,true,true,true] rfl rfl (by kernel_rfl) (fun _ _ _ h => h) (Or.inl ⟨by rfl, ?_⟩) ?_ ?_
  rotate_left
  ·intro w'
   go_simp
   with_reducible rfl
  rotate_left
  ·simp only [Act.put, zSa, zSb, zSc, i64_w, i32_w]
   rfl
  refine done_ (by kernel_rfl) ?_
  try go_wp2
  obtain ⟨k4, k5, kB⟩ := M10.out.puts p false (.slice AX X.length cX) (.slice AY Y.length cY)
  refine bodyPost_ret (results_list (rs:=[.cell 4 24, .cell 5 24, .tmp 6]) rfl (by simp) (.cell b4 24 #[.bool p, .slice AX X.length cX] (0, 0) _ rfl k4 Tryd.underlying24 rfl (by kernel_rfl) (.cell b5 24 #[.bool false, .slice AY Y.length cY] (0, 0) _ rfl k5 Tryd.underlying24 rfl (by kernel_rfl) (.tmp .nil)))) rfl ?_
  exact ⟨_, _, rfl, zRl (M10.out.far T10.out.hX _ _ _ _) (zBs M5.out.hB), zRl (M10.out.far T10.out.hY _ _ _ _) (zBs M5.out.hB), kB⟩
 | true =>
  rw [if_pos (show (true, Y).1 = true from rfl)] at hh
  obtain ⟨⟨m1, m2⟩, hM, hh⟩ := Option.bind_eq_some_iff.1 hh
  obtain ⟨⟨z1, z2⟩, hZ, hh⟩ := Option.bind_eq_some_iff.1 hh
  have HM := zMk hM
  have HZ := zMk hZ
  have HH := zMk hh
  clear hM hZ hh
  have hc31 : w6.cell? ⟨b3, 0, none⟩ = some (.bool a1_0) := (zKc M6.out.h3 0).trans rfl
  go_upto_region 6 with (fail)
  clear hcg0 hcg1 hch0 hch1 hc31
  have T7 := zMk (HT.out.below (zBd (Below.refl w6.heap.size w6)))
  have M7 := zMk (M6.out.below (zBd (Below.refl w6.heap.size w6)))
  refine start_ (n:=6) (S:=fun w' => w'.cell? ⟨gh, 0, none⟩ = some (.bool true) ∧ w'.cell? ⟨gh, 1, none⟩ = some (.slice AY Y.length cY) ∧ w'.cell? ⟨b3, 1, none⟩ = some (.slice A1_1 l1_1.length c1_1)) (ds:=[5]) #[false,false,false,false,false,false] (by kernel_rfl) rfl rfl ⟨(zKc T7.out.hH 0).trans rfl, (zKc T7.out.hH 1).trans rfl, (zKc M7.out.h3 1).trans rfl⟩ (fun hHeld => ?_)
  generalize w6.drew = w7 at T7 M7 hHeld ⊢
  refine pure_ (i:=1) (N:=some 40) (v:=?_) (a' := ?_) #[false,true,false,false,false,false] rfl rfl (by kernel_rfl) (fun _ _ _ h => h) (Or.inl ⟨by rfl, ?_⟩) ?_ ?_
  rotate_left
  ·intro w'
   go_simp
   with_reducible rfl
  rotate_left
  ·simp only [Act.put, zSa, zSb, zSc, i64_w, i32_w]
   rfl
  refine take_ (i:=0) (N:=some 39) (v:=?_) (a' := ?_) #[true,true,false,false,false,false] rfl rfl (by kernel_rfl) (fun _ _ _ h => h) (Or.inl ⟨by rfl, ?_⟩) hHeld ?_ ?_
  rotate_left
  ·rintro w' ⟨s0, s1, s2⟩
   go_simp
   with_reducible rfl
  rotate_left
  ·simp only [Act.put, zSa, zSb, zSc, i64_w, i32_w]
   rfl
  refine take_ (i:=2) (N:=some 41) (v:=?_) (a' := ?_) #[true,true,true,false,false,false] rfl rfl (by kernel_rfl) (fun _ _ _ h => h) (Or.inl ⟨by rfl, ?_⟩) hHeld ?_ ?_
  rotate_left
  ·rintro w' ⟨s0, s1, s2⟩
   go_simp
   with_reducible rfl
  rotate_left
  ·simp only [Act.put, zSa, zSb, zSc, i64_w, i32_w]
   rfl
  refine one_ (i:=3) (N:=some 42) #[true,true,true,true,false,false] rfl rfl (by kernel_rfl) (by decide) (fun K hK => ?_)
  refine goes_ Tryd.func38 (by kernel_rfl) rfl #[.bool false, .slice A1_1 l1_1.length c1_1] (by rfl) rfl rfl (by (try simp only [zMa, zMc, zMn]); first | done | rfl) ?_
  with_reducible refine (filigreeref02_make2.calls k false _ _ l1_1 m1 m2 _ (Kd.C_below HR1.out M7.out.hB) HC1.out HM.out).mono ?_
  rintro e w8 ⟨v9, rfl, ho, hb⟩
  refine ⟨_, rfl, ?_⟩
  replace T7 := zMk (T7.out.below hb)
  replace M7 := zMk (M7.out.below hb)
  obtain ⟨A9, c9, e9⟩ := zRs ho
  subst e9
  have RM := zMk ho
  clear ho hb
  refine hK.out _ _ ⟨(zKc T7.out.hH 0).trans rfl, (zKc T7.out.hH 1).trans rfl, (zKc M7.out.h3 1).trans rfl⟩ (fun hHeld => ?_)
  clear hK K
  refine norm_ (a' := ?_) ?_ ?_
  rotate_left
  ·show Act.put _ (some 42) _ = _
   simp only [Act.put, zSa, zSb, zSc, i64_w, i32_w]
   rfl
  refine one_ (i:=4) (N:=some 43) #[true,true,true,true,true,false] rfl rfl (by kernel_rfl) (by decide) (fun K hK => ?_)
  refine goes_ Tryd.func18 (by kernel_rfl) rfl #[.agg #[.bool true, .slice AY Y.length cY], .agg #[.bool m1, .slice A9 m2.length c9]] (by rfl) rfl rfl (by (try simp only [zMa, zMc, zMn]); first | done | rfl) ?_
  with_reducible refine (filigreeref02_Add.calls k true _ _ Y m1 _ _ m2 z1 z2 _ (uC (zRr T7.out.hY).2.2) (zRr T7.out.hY).2.1 (uC (zRr RM.out).2.2) (zRr RM.out).2.1 HZ.out).mono ?_
  rintro e w9 ⟨v10, rfl, ho, hb⟩
  refine ⟨_, rfl, ?_⟩
  have RX := zMk (zRm (zRe T7.out.hX (zRz ho) hb) (fun _ hk => hk.2))
  have RZ := zMk (zRl (zRm (zRw ho (zRt T7.out.hX)) (fun _ hk => hk.2)) (zBs T7.out.hB))
  replace T7 := zMk (T7.out.below hb)
  replace M7 := zMk (M7.out.below hb)
  obtain ⟨AZ, cZ, eZ⟩ := zRs ho
  subst eZ
  clear ho hb
  refine hK.out _ _ ⟨(zKc T7.out.hH 0).trans rfl, (zKc T7.out.hH 1).trans rfl, (zKc M7.out.h3 1).trans rfl⟩ (fun hHeld => ?_)
  clear hK K
  refine norm_ (a' := ?_) ?_ ?_
  rotate_left
  ·show Act.put _ (some 43) _ = _
   simp only [Act.put, zSa, zSb, zSc, i64_w, i32_w]
   rfl
  refine last_ (i:=5) (N:=none) #[true,true,true,true,true,true] rfl rfl (by kernel_rfl) (by decide) (fun K hK => ?_)
  have hc0 : w9.cell? ⟨gh, 0, none⟩ = some (.bool true) := (zKc T7.out.hH 0).trans rfl
  have hc1 : w9.cell? ⟨gh, 1, none⟩ = some (.slice AY Y.length cY) := (zKc T7.out.hH 1).trans rfl
  have hf0 := zKf T7.out.hH 0
  have hf1 := zKf T7.out.hH 1
  refine skip_ (w1:=?_) (by rfl) rfl ?_ ?_
  rotate_left
  ·go_simp
   rfl
  refine hK.out _ _ ?_
  clear hK K
  refine done_ (by kernel_rfl) ?_
  have T8 := zMk (T7.out.putH (n' := z1) RX.out RZ.out)
  have M8 := zMk (M5.out.below T8.out.hB)
  clear hc0 hc1 hf0 hf1 T7 M7 RX RZ RM HT M6 HBW
  generalize ((w9.setCell ⟨gh, 0, none⟩ (.bool z1)).setCell ⟨gh, 1, none⟩ (.slice AZ z2.length cZ)) = w10 at T8 M8 ⊢
  have hcb : w10.cell? ⟨b3, 0, none⟩ = some (.bool a1_0) := (zKc M8.out.h3 0).trans rfl
  have hh := HH.out
  clear HH
  cases a1_0 with
  | true =>
   rw [if_pos rfl] at hh
   obtain ⟨⟨o1, o2⟩, hO, hh⟩ := Option.bind_eq_some_iff.1 hh
   obtain ⟨⟨y1, y2⟩, hV, hh⟩ := Option.bind_eq_some_iff.1 hh
   obtain ⟨rfl, rfl, rfl, rfl, rfl⟩ : y1 = r1 ∧ y2 = r2 ∧ z1 = r3 ∧ z2 = r4 ∧ 0 = r5 := by simpa using hh
   have HO := zMk hO
   have HV := zMk hV
   clear hO hV hh
   go_upto_region 8 with (fail)
   clear hcb
   have T9 := zMk (T8.out.below (zBd (Below.refl w10.heap.size w10)))
   refine start_ (n:=4) (S:=fun w' => w'.cell? ⟨g, 0, none⟩ = some (.bool p) ∧ w'.cell? ⟨g, 1, none⟩ = some (.slice AX X.length cX)) (ds:=[3]) #[false,false,false,false] (by kernel_rfl) rfl rfl ⟨(zKc T9.out.hG 0).trans rfl, (zKc T9.out.hG 1).trans rfl⟩ (fun hHeld => ?_)
   generalize w10.drew = w11 at T9 hHeld ⊢
   refine take_ (i:=0) (N:=some 46) (v:=?_) (a' := ?_) #[true,false,false,false] rfl rfl (by kernel_rfl) (fun _ _ _ h => h) (Or.inl ⟨by rfl, ?_⟩) hHeld ?_ ?_
   rotate_left
   ·rintro w' ⟨s0, s1⟩
    go_simp
    with_reducible rfl
   rotate_left
   ·simp only [Act.put, zSa, zSb, zSc, i64_w, i32_w]
    rfl
   refine one_ (i:=1) (N:=some 47) #[true,true,false,false] rfl rfl (by kernel_rfl) (by decide) (fun K hK => ?_)
   refine goes_ Tryd.func39 (by kernel_rfl) rfl #[.int .i64 1] (by rfl) rfl rfl (by (try simp only [zMa, zMc, zMn]); first | done | rfl) ?_
   with_reducible refine (filigreeref02_Of.calls k 1 o1 o2 _ HO.out).mono ?_
   rintro e w12 ⟨v11, rfl, ho, hb⟩
   refine ⟨_, rfl, ?_⟩
   replace T9 := zMk (T9.out.below hb)
   obtain ⟨AO, cO, eO⟩ := zRs ho
   subst eO
   have RO := zMk ho
   clear ho hb
   refine hK.out _ _ ⟨(zKc T9.out.hG 0).trans rfl, (zKc T9.out.hG 1).trans rfl⟩ (fun hHeld => ?_)
   clear hK K
   refine norm_ (a' := ?_) ?_ ?_
   rotate_left
   ·show Act.put _ (some 47) _ = _
    simp only [Act.put, zSa, zSb, zSc, i64_w, i32_w]
    rfl
   refine one_ (i:=2) (N:=some 48) #[true,true,true,false] rfl rfl (by kernel_rfl) (by decide) (fun K hK => ?_)
   refine goes_ Tryd.func18 (by kernel_rfl) rfl #[.agg #[.bool p, .slice AX X.length cX], .agg #[.bool o1, .slice AO o2.length cO]] (by rfl) rfl rfl (by (try simp only [zMa, zMc, zMn]); first | done | rfl) ?_
   with_reducible refine (filigreeref02_Add.calls k p _ _ X o1 _ _ o2 y1 y2 _ (uC (zRr T9.out.hX).2.2) (zRr T9.out.hX).2.1 (uC (zRr RO.out).2.2) (zRr RO.out).2.1 HV.out).mono ?_
   rintro e w13 ⟨v12, rfl, ho, hb⟩
   refine ⟨_, rfl, ?_⟩
   have RZ := zMk (zRm (zRe T9.out.hY (zRz ho) hb) (fun _ hk => hk.2))
   have RV := zMk (zRl (zRm (zRw ho (zRt T9.out.hY)) (fun _ hk => hk.2)) (zBs T9.out.hB))
   replace T9 := zMk (T9.out.below hb)
   obtain ⟨AV, cV, eV⟩ := zRs ho
   subst eV
   clear ho hb
   refine hK.out _ _ ⟨(zKc T9.out.hG 0).trans rfl, (zKc T9.out.hG 1).trans rfl⟩ (fun hHeld => ?_)
   clear hK K
   refine norm_ (a' := ?_) ?_ ?_
   rotate_left
   ·show Act.put _ (some 48) _ = _
    simp only [Act.put, zSa, zSb, zSc, i64_w, i32_w]
    rfl
   refine last_ (i:=3) (N:=none) #[true,true,true,true] rfl rfl (by kernel_rfl) (by decide) (fun K hK => ?_)
   have hc0 : w13.cell? ⟨g, 0, none⟩ = some (.bool p) := (zKc T9.out.hG 0).trans rfl
   have hc1 : w13.cell? ⟨g, 1, none⟩ = some (.slice AX X.length cX) := (zKc T9.out.hG 1).trans rfl
   have hf0 := zKf T9.out.hG 0
   have hf1 := zKf T9.out.hG 1
   refine skip_ (w1:=?_) (by rfl) rfl ?_ ?_
   rotate_left
   ·go_simp
    rfl
   refine hK.out _ _ ?_
   clear hK K
   refine done_ (by kernel_rfl) ?_
   have T11 := zMk (T9.out.putG (p' := y1) RV.out RZ.out)
   have M11 := zMk (M5.out.below T11.out.hB)
   clear hc0 hc1 hf0 hf1 T9 RZ RV RO T8 M8
   generalize ((w13.setCell ⟨g, 0, none⟩ (.bool y1)).setCell ⟨g, 1, none⟩ (.slice AV y2.length cV)) = w14 at T11 M11 ⊢
   go_upto_region 10 with (fail)
   have M10 := zMk (M11.out.below (zBd (Below.refl w14.heap.size w14)))
   have T10 := zMk (T11.out.below (zBd (Below.refl w14.heap.size w14)))
   refine start_ (n:=5) (S:=fun w' => w'.cell? ⟨g, 0, none⟩ = some (.bool y1) ∧ w'.cell? ⟨g, 1, none⟩ = some (.slice AV y2.length cV) ∧ w'.cell? ⟨gh, 0, none⟩ = some (.bool z1) ∧ w'.cell? ⟨gh, 1, none⟩ = some (.slice AZ z2.length cZ)) (ds:=[3]) #[false,false,false,false,false] (by kernel_rfl) rfl rfl ⟨(zKc T10.out.hG 0).trans rfl, (zKc T10.out.hG 1).trans rfl, (zKc T10.out.hH 0).trans rfl, (zKc T10.out.hH 1).trans rfl⟩ (fun hHeld => ?_)
   generalize w14.drew = wd at M10 T10 hHeld ⊢
   have hz40 : wd.cell? ⟨b4, 0, none⟩ = some (.bool false) := (zKc M10.out.h4 0).trans rfl
   have hf40 := zKf M10.out.h4 0
   have hz41 : wd.cell? ⟨b4, 1, none⟩ = some (.slice none 0 0) := (zKc M10.out.h4 1).trans rfl
   have hf41 := zKf M10.out.h4 1
   have hz50 : wd.cell? ⟨b5, 0, none⟩ = some (.bool false) := (zKc M10.out.h5 0).trans rfl
   have hf50 := zKf M10.out.h5 0
   have hz51 : wd.cell? ⟨b5, 1, none⟩ = some (.slice none 0 0) := (zKc M10.out.h5 1).trans rfl
   have hf51 := zKf M10.out.h5 1
   have hn1 := M10.out.ne
   have hn2 := M10.out.ne.symm
   have nG : g ≠ b4 := by have := blk_lt M5.out.h4; have := T10.out.g1; omega
   have nH : gh ≠ b4 := by have := blk_lt M5.out.h4; have := T10.out.h1; omega
   refine take_ (i:=0) (N:=some 52) (v:=?_) (a' := ?_) #[true,false,false,false,false] rfl rfl (by kernel_rfl) (fun _ _ _ h => h) (Or.inl ⟨by rfl, ?_⟩) hHeld ?_ ?_
   rotate_left
   ·rintro w' ⟨s0, s1, s2, s3⟩
    go_simp
    with_reducible rfl
   rotate_left
   ·simp only [Act.put, zSa, zSb, zSc, i64_w, i32_w]
    rfl
   refine take_ (i:=1) (N:=some 53) (v:=?_) (a' := ?_) #[true,true,false,false,false] rfl rfl (by kernel_rfl) (fun _ _ _ h => h) (Or.inl ⟨by rfl, ?_⟩) hHeld ?_ ?_
   rotate_left
   ·rintro w' ⟨s0, s1, s2, s3⟩
    go_simp
    with_reducible rfl
   rotate_left
   ·simp only [Act.put, zSa, zSb, zSc, i64_w, i32_w]
    rfl
   refine one_ (i:=2) (N:=none) #[true,true,true,false,false] rfl rfl (by kernel_rfl) (by decide) (fun K hK => ?_)
   refine skip_ (w1:=?_) (by rfl) rfl ?_ ?_
   rotate_left
   ·go_simp
    rfl
   refine hK.out _ _ ⟨(zKc (blk_far (blk_far T10.out.hG nG _) nG _) 0).trans rfl, (zKc (blk_far (blk_far T10.out.hG nG _) nG _) 1).trans rfl, (zKc (blk_far (blk_far T10.out.hH nH _) nH _) 0).trans rfl, (zKc (blk_far (blk_far T10.out.hH nH _) nH _) 1).trans rfl⟩ (fun hHeld => ?_)
   clear hK K
   refine last_ (i:=3) (N:=none) #[true,true,true,true,false] rfl rfl (by kernel_rfl) (by decide) (fun K hK => ?_)
   refine skip_ (w1:=?_) (by rfl) rfl ?_ ?_
   rotate_left
   ·go_simp
    rfl
   refine hK.out _ _ ?_
   clear hK K
   refine pure_ (i:=4) (N:=some 6) (v:=?_) (a' := ?_) #[true,true,true,true,true] rfl rfl (by kernel_rfl) (fun _ _ _ h => h) (Or.inl ⟨by rfl, ?_⟩) ?_ ?_
   rotate_left
   ·intro w'
    go_simp
    with_reducible rfl
   rotate_left
   ·simp only [Act.put, zSa, zSb, zSc, i64_w, i32_w]
    rfl
   refine done_ (by kernel_rfl) ?_
   try go_wp2
   obtain ⟨k4, k5, kB⟩ := M10.out.puts y1 z1 (.slice AV y2.length cV) (.slice AZ z2.length cZ)
   refine bodyPost_ret (results_list (rs:=[.cell 4 24, .cell 5 24, .tmp 6]) rfl (by simp) (.cell b4 24 #[.bool y1, .slice AV y2.length cV] (0, 0) _ rfl k4 Tryd.underlying24 rfl (by kernel_rfl) (.cell b5 24 #[.bool z1, .slice AZ z2.length cZ] (0, 0) _ rfl k5 Tryd.underlying24 rfl (by kernel_rfl) (.tmp .nil)))) rfl ?_
   exact ⟨_, _, rfl, zRl (M10.out.far T10.out.hX _ _ _ _) (zBs M5.out.hB), zRl (M10.out.far T10.out.hY _ _ _ _) (zBs M5.out.hB), kB⟩
  | false =>
   rw [if_neg Bool.false_ne_true] at hh
   obtain ⟨⟨o1, o2⟩, hO, hh⟩ := Option.bind_eq_some_iff.1 hh
   obtain ⟨⟨y1, y2⟩, hV, hh⟩ := Option.bind_eq_some_iff.1 hh
   obtain ⟨rfl, rfl, rfl, rfl, rfl⟩ : y1 = r1 ∧ y2 = r2 ∧ z1 = r3 ∧ z2 = r4 ∧ 0 = r5 := by simpa using hh
   have HO := zMk hO
   have HV := zMk hV
   clear hO hV hh
   go_upto_region 9 with (fail)
   clear hcb
   have T9 := zMk (T8.out.below (zBd (Below.refl w10.heap.size w10)))
   refine start_ (n:=4) (S:=fun w' => w'.cell? ⟨g, 0, none⟩ = some (.bool p) ∧ w'.cell? ⟨g, 1, none⟩ = some (.slice AX X.length cX)) (ds:=[3]) #[false,false,false,false] (by kernel_rfl) rfl rfl ⟨(zKc T9.out.hG 0).trans rfl, (zKc T9.out.hG 1).trans rfl⟩ (fun hHeld => ?_)
   generalize w10.drew = w11 at T9 hHeld ⊢
   refine take_ (i:=0) (N:=some 49) (v:=?_) (a' := ?_) #[true,false,false,false] rfl rfl (by kernel_rfl) (fun _ _ _ h => h) (Or.inl ⟨by rfl, ?_⟩) hHeld ?_ ?_
   rotate_left
   ·rintro w' ⟨s0, s1⟩
    go_simp
    with_reducible rfl
   rotate_left
   ·simp only [Act.put, zSa, zSb, zSc, i64_w, i32_w]
    rfl
   refine one_ (i:=1) (N:=some 50) #[true,true,false,false] rfl rfl (by kernel_rfl) (by decide) (fun K hK => ?_)
   refine goes_ Tryd.func39 (by kernel_rfl) rfl #[.int .i64 1] (by rfl) rfl rfl (by (try simp only [zMa, zMc, zMn]); first | done | rfl) ?_
   with_reducible refine (filigreeref02_Of.calls k 1 o1 o2 _ HO.out).mono ?_
   rintro e w12 ⟨v11, rfl, ho, hb⟩
   refine ⟨_, rfl, ?_⟩
   replace T9 := zMk (T9.out.below hb)
   obtain ⟨AO, cO, eO⟩ := zRs ho
   subst eO
   have RO := zMk ho
   clear ho hb
   refine hK.out _ _ ⟨(zKc T9.out.hG 0).trans rfl, (zKc T9.out.hG 1).trans rfl⟩ (fun hHeld => ?_)
   clear hK K
   refine norm_ (a' := ?_) ?_ ?_
   rotate_left
   ·show Act.put _ (some 50) _ = _
    simp only [Act.put, zSa, zSb, zSc, i64_w, i32_w]
    rfl
   refine one_ (i:=2) (N:=some 51) #[true,true,true,false] rfl rfl (by kernel_rfl) (by decide) (fun K hK => ?_)
   refine goes_ Tryd.func20 (by kernel_rfl) rfl #[.agg #[.bool p, .slice AX X.length cX], .agg #[.bool o1, .slice AO o2.length cO]] (by rfl) rfl rfl (by (try simp only [zMa, zMc, zMn]); first | done | rfl) ?_
   with_reducible refine (filigreeref02_Sub.calls k p _ _ X o1 _ _ o2 y1 y2 _ (uC (zRr T9.out.hX).2.2) (zRr T9.out.hX).2.1 (uC (zRr RO.out).2.2) (zRr RO.out).2.1 HV.out).mono ?_
   rintro e w13 ⟨v12, rfl, ho, hb⟩
   refine ⟨_, rfl, ?_⟩
   have RZ := zMk (zRm (zRe T9.out.hY (zRz ho) hb) (fun _ hk => hk.2))
   have RV := zMk (zRl (zRm (zRw ho (zRt T9.out.hY)) (fun _ hk => hk.2)) (zBs T9.out.hB))
   replace T9 := zMk (T9.out.below hb)
   obtain ⟨AV, cV, eV⟩ := zRs ho
   subst eV
   clear ho hb
   refine hK.out _ _ ⟨(zKc T9.out.hG 0).trans rfl, (zKc T9.out.hG 1).trans rfl⟩ (fun hHeld => ?_)
   clear hK K
   refine norm_ (a' := ?_) ?_ ?_
   rotate_left
   ·show Act.put _ (some 51) _ = _
    simp only [Act.put, zSa, zSb, zSc, i64_w, i32_w]
    rfl
   refine last_ (i:=3) (N:=none) #[true,true,true,true] rfl rfl (by kernel_rfl) (by decide) (fun K hK => ?_)
   have hc0 : w13.cell? ⟨g, 0, none⟩ = some (.bool p) := (zKc T9.out.hG 0).trans rfl
   have hc1 : w13.cell? ⟨g, 1, none⟩ = some (.slice AX X.length cX) := (zKc T9.out.hG 1).trans rfl
   have hf0 := zKf T9.out.hG 0
   have hf1 := zKf T9.out.hG 1
   refine skip_ (w1:=?_) (by rfl) rfl ?_ ?_
   rotate_left
   ·go_simp
    rfl
   refine hK.out _ _ ?_
   clear hK K
   refine done_ (by kernel_rfl) ?_
   have T11 := zMk (T9.out.putG (p' := y1) RV.out RZ.out)
   have M11 := zMk (M5.out.below T11.out.hB)
   clear hc0 hc1 hf0 hf1 T9 RZ RV RO T8 M8
   generalize ((w13.setCell ⟨g, 0, none⟩ (.bool y1)).setCell ⟨g, 1, none⟩ (.slice AV y2.length cV)) = w14 at T11 M11 ⊢
   go_upto_region 10 with (fail)
   have M10 := zMk (M11.out.below (zBd (Below.refl w14.heap.size w14)))
   have T10 := zMk (T11.out.below (zBd (Below.refl w14.heap.size w14)))
   refine start_ (n:=5) (S:=fun w' => w'.cell? ⟨g, 0, none⟩ = some (.bool y1) ∧ w'.cell? ⟨g, 1, none⟩ = some (.slice AV y2.length cV) ∧ w'.cell? ⟨gh, 0, none⟩ = some (.bool z1) ∧ w'.cell? ⟨gh, 1, none⟩ = some (.slice AZ z2.length cZ)) (ds:=[3]) #[false,false,false,false,false] (by kernel_rfl) rfl rfl ⟨(zKc T10.out.hG 0).trans rfl, (zKc T10.out.hG 1).trans rfl, (zKc T10.out.hH 0).trans rfl, (zKc T10.out.hH 1).trans rfl⟩ (fun hHeld => ?_)
   generalize w14.drew = wd at M10 T10 hHeld ⊢
   have hz40 : wd.cell? ⟨b4, 0, none⟩ = some (.bool false) := (zKc M10.out.h4 0).trans rfl
   have hf40 := zKf M10.out.h4 0
   have hz41 : wd.cell? ⟨b4, 1, none⟩ = some (.slice none 0 0) := (zKc M10.out.h4 1).trans rfl
   have hf41 := zKf M10.out.h4 1
   have hz50 : wd.cell? ⟨b5, 0, none⟩ = some (.bool false) := (zKc M10.out.h5 0).trans rfl
   have hf50 := zKf M10.out.h5 0
   have hz51 : wd.cell? ⟨b5, 1, none⟩ = some (.slice none 0 0) := (zKc M10.out.h5 1).trans rfl
   have hf51 := zKf M10.out.h5 1
   have hn1 := M10.out.ne
   have hn2 := M10.out.ne.symm
   have nG : g ≠ b4 := by have := blk_lt M5.out.h4; have := T10.out.g1; omega
   have nH : gh ≠ b4 := by have := blk_lt M5.out.h4; have := T10.out.h1; omega
   refine take_ (i:=0) (N:=some 52) (v:=?_) (a' := ?_) #[true,false,false,false,false] rfl rfl (by kernel_rfl) (fun _ _ _ h => h) (Or.inl ⟨by rfl, ?_⟩) hHeld ?_ ?_
   rotate_left
   ·rintro w' ⟨s0, s1, s2, s3⟩
    go_simp
    with_reducible rfl
   rotate_left
   ·simp only [Act.put, zSa, zSb, zSc, i64_w, i32_w]
    rfl
   refine take_ (i:=1) (N:=some 53) (v:=?_) (a' := ?_) #[true,true,false,false,false] rfl rfl (by kernel_rfl) (fun _ _ _ h => h) (Or.inl ⟨by rfl, ?_⟩) hHeld ?_ ?_
   rotate_left
   ·rintro w' ⟨s0, s1, s2, s3⟩
    go_simp
    with_reducible rfl
   rotate_left
   ·simp only [Act.put, zSa, zSb, zSc, i64_w, i32_w]
    rfl
   refine one_ (i:=2) (N:=none) #[true,true,true,false,false] rfl rfl (by kernel_rfl) (by decide) (fun K hK => ?_)
   refine skip_ (w1:=?_) (by rfl) rfl ?_ ?_
   rotate_left
   ·go_simp
    rfl
   refine hK.out _ _ ⟨(zKc (blk_far (blk_far T10.out.hG nG _) nG _) 0).trans rfl, (zKc (blk_far (blk_far T10.out.hG nG _) nG _) 1).trans rfl, (zKc (blk_far (blk_far T10.out.hH nH _) nH _) 0).trans rfl, (zKc (blk_far (blk_far T10.out.hH nH _) nH _) 1).trans rfl⟩ (fun hHeld => ?_)
   clear hK K
   refine last_ (i:=3) (N:=none) #[true,true,true,true,false] rfl rfl (by kernel_rfl) (by decide) (fun K hK => ?_)
   refine skip_ (w1:=?_) (by rfl) rfl ?_ ?_
   rotate_left
   ·go_simp
    rfl
   refine hK.out _ _ ?_
   clear hK K
   refine pure_ (i:=4) (N:=some 6) (v:=?_) (a' := ?_) #[true,true,true,true,true] rfl rfl (by kernel_rfl) (fun _ _ _ h => h) (Or.inl ⟨by rfl, ?_⟩) ?_ ?_
   rotate_left
   ·intro w'
    go_simp
    with_reducible rfl
   rotate_left
   ·simp only [Act.put, zSa, zSb, zSc, i64_w, i32_w]
    rfl
   refine done_ (by kernel_rfl) ?_
   try go_wp2
   obtain ⟨k4, k5, kB⟩ := M10.out.puts y1 z1 (.slice AV y2.length cV) (.slice AZ z2.length cZ)
   refine bodyPost_ret (results_list (rs:=[.cell 4 24, .cell 5 24, .tmp 6]) rfl (by simp) (.cell b4 24 #[.bool y1, .slice AV y2.length cV] (0, 0) _ rfl k4 Tryd.underlying24 rfl (by kernel_rfl) (.cell b5 24 #[.bool z1, .slice AZ z2.length cZ] (0, 0) _ rfl k5 Tryd.underlying24 rfl (by kernel_rfl) (.tmp .nil)))) rfl ?_
   exact ⟨_, _, rfl, zRl (M10.out.far T10.out.hX _ _ _ _) (zBs M5.out.hB), zRl (M10.out.far T10.out.hY _ _ _ _) (zBs M5.out.hB), kB⟩


def filigreeref02_Exact.j0 : Nat → Int → Bool → Bool → List Int → Option (Bool × List Int × Int)
 | 0, _, _, _, _ => none
 | k + 1, x8, x23, x759000, x759001 => if x23 = true then (if 16 = 0 then (some (x759000, x759001, 0)) else (some (false, ([] : List Int), 16))) else (if x8 = 0 then (some (x759000, x759001, 0)) else (some (false, ([] : List Int), x8)))
def filigreeref02_Exact.f (k : Nat) (a0_0 : Bool) (l0_1 : List Int) (a1_0 : Bool) (l1_1 : List Int) : Option (Bool × List Int × Int) := (filigreeref02_DivMod.f k a0_0 l0_1 a1_0 l1_1).bind fun bt749 => (if bt749.2.2.2.2 = 0 then (filigreeref02_Exact.j0 k bt749.2.2.2.2 (decide ((bt749.2.2.2.1.length : Int) > 0)) bt749.1 bt749.2.1) else (filigreeref02_Exact.j0 k bt749.2.2.2.2 false bt749.1 bt749.2.1))
theorem filigreeref02_Exact.calls (k : Nat) (a0_0 : Bool) (A0_1 : Option Addr) (c0_1 : Nat) (l0_1 : List Int) (a1_0 : Bool) (A1_1 : Option Addr) (c1_1 : Nat) (l1_1 : List Int) (r1 : Bool) (r2 : List Int) (r3 : Int) (w : World) (hr0_1 : Kd.C (Kd.int .u32) w A0_1 l0_1.length l0_1) (hc0_1 : l0_1.length ≤ c0_1) (hr1_1 : Kd.C (Kd.int .u32) w A1_1 l1_1.length l1_1) (hc1_1 : l1_1.length ≤ c1_1) (h : filigreeref02_Exact.f k a0_0 l0_1 a1_0 l1_1 = some (r1, r2, r3)) :
  Calls Tryd.prog 15 #[.agg #[.bool a0_0, .slice A0_1 l0_1.length c0_1], .agg #[.bool a1_0, .slice A1_1 l1_1.length c1_1]] w fun e w' => ∃ v1_ : Value, e = .returned (.tuple #[.agg #[.bool r1, v1_], .int .i64 r3]) ∧ Kd.R (Kd.int .u32) 58 w' w.heap.size (fun _ => True) v1_ r2 ∧ Below w.heap.size w w' := by
 have hu24 := Tryd.underlying24
 have HR0_1 := zMk hr0_1
 have HC0_1 := zMk hc0_1
 clear hr0_1 hc0_1
 have HR1_1 := zMk hr1_1
 have HC1_1 := zMk hc1_1
 clear hr1_1 hc1_1
 have HB := zMk (Below.refl w.heap.size w)
 have H : ((filigreeref02_DivMod.f k a0_0 l0_1 a1_0 l1_1).bind fun bt749 => (if bt749.2.2.2.2 = 0 then (filigreeref02_Exact.j0 k bt749.2.2.2.2 (decide ((bt749.2.2.2.1.length : Int) > 0)) bt749.1 bt749.2.1) else (filigreeref02_Exact.j0 k bt749.2.2.2.2 false bt749.1 bt749.2.1))) = some (r1, r2, r3) := h
 clear h
 replace H := bnd H
 obtain ⟨⟨t749, t750, t753, t754, t757⟩, A30, H⟩ := H
 replace H : (if t757 = 0 then (filigreeref02_Exact.j0 k t757 (decide ((t754.length : Int) > 0)) t749 t750) else (filigreeref02_Exact.j0 k t757 false t749 t750)) = some (r1, r2, r3) := H
 have A3 := zMk A30
 clear A30
 have HC4 := zMk H
 clear H
 go_enter Tryd.func15, Tryd.ntmps15
 go_upto_region 2 with (first | ((with_reducible refine gate_dst (N:=2) rfl ?_); (try (refine gate_guard (by rfl) ?_; dsimp only)); refine box_event ?hg (N:=2) ?hd (cs:=#[.bool a0_0, .slice A0_1 l0_1.length c0_1]) (t:=24) ?hr ?_; (case hd => rfl); (case hg => rfl); (case hr => first | (go_simp; done)|(go_simp; rfl)|(go_simp; rw [show ∀ x : Int, IntKind.u32.wrap (IntKind.u8.wrap x) = x % 256 from fun x => (by show (x % 256) % 4294967296 = x % 256; omega)])); intro gb746 hg w5 hbox hb; have BK746 := zMk (hbox); have GW746 := zMk ((by rw [hg]; exact (zBs (uT HB.out)) : w.heap.size ≤ gb746)); have GE746 := zMk ((by rw [hg]; exact (zBs (uT HB.out)) : w.heap.size ≤ gb746)); have IGE746 := ownGe GE746.out; replace HB := zMk (zBt (uT HB.out) hb); clear hb hbox hg)|((with_reducible refine gate_dst (N:=3) rfl ?_); (try (refine gate_guard (by rfl) ?_; dsimp only)); refine box_event ?hg (N:=3) ?hd (cs:=#[.bool a1_0, .slice A1_1 l1_1.length c1_1]) (t:=24) ?hr ?_; (case hd => rfl); (case hg => rfl); (case hr => first | (go_simp; done)|(go_simp; rfl)|(go_simp; rw [show ∀ x : Int, IntKind.u32.wrap (IntKind.u8.wrap x) = x % 256 from fun x => (by show (x % 256) % 4294967296 = x % 256; omega)])); intro gb747 hg w6 hbox hb; have BK747 := zMk (hbox); have GW747 := zMk ((by rw [hg]; exact (zBs (uT HB.out)) : w.heap.size ≤ gb747)); have GE747 := zMk ((by rw [hg]; exact (zBs (uT HB.out)) : w.heap.size ≤ gb747)); have IGE747 := ownGe GE747.out; replace HB := zMk (zBt (uT HB.out) hb); have NB746_747 := zMk ((by rw [hg]; exact Nat.ne_of_lt (blk_lt BK746.out) : gb746 ≠ gb747)); have NB747_746 := zMk ((by rw [hg]; exact Nat.ne_of_gt (blk_lt BK746.out) : gb747 ≠ gb746)); replace BK746 := zMk (zKb BK746.out hb); clear hb hbox hg)|((with_reducible refine gate_dst (N:=4) rfl ?_); (try (refine gate_guard (by rfl) ?_; dsimp only)); refine box_event ?hg (N:=4) ?hd (cs:=#[.bool false, .slice none 0 0]) (t:=24) ?hr ?_; (case hd => rfl); (case hg => rfl); (case hr => first | (go_simp; done)|(go_simp; rfl)|(go_simp; rw [show ∀ x : Int, IntKind.u32.wrap (IntKind.u8.wrap x) = x % 256 from fun x => (by show (x % 256) % 4294967296 = x % 256; omega)])); intro gb748 hg w7 hbox hb; have BK748 := zMk (hbox); have GW748 := zMk ((by rw [hg]; exact (zBs (uT HB.out)) : w.heap.size ≤ gb748)); have GE748 := zMk ((by rw [hg]; exact (zBs (uT HB.out)) : w.heap.size ≤ gb748)); have IGE748 := ownGe GE748.out; replace HB := zMk (zBt (uT HB.out) hb); have NB746_748 := zMk ((by rw [hg]; exact Nat.ne_of_lt (blk_lt BK746.out) : gb746 ≠ gb748)); have NB748_746 := zMk ((by rw [hg]; exact Nat.ne_of_gt (blk_lt BK746.out) : gb748 ≠ gb746)); replace BK746 := zMk (zKb BK746.out hb); have NB747_748 := zMk ((by rw [hg]; exact Nat.ne_of_lt (blk_lt BK747.out) : gb747 ≠ gb748)); have NB748_747 := zMk ((by rw [hg]; exact Nat.ne_of_gt (blk_lt BK747.out) : gb748 ≠ gb747)); replace BK747 := zMk (zKb BK747.out hb); clear hb hbox hg; have hnb8 := NB746_747.out; have hnc8 := NB747_746.out; have hnb9 := NB746_748.out; have hnc9 := NB748_746.out; have hcz10_0 : w7.cell? ⟨gb746, 0, none⟩ = some (.bool a0_0) := (zKc BK746.out 0).trans rfl; have hcz10_1 : w7.cell? ⟨gb746, 1, none⟩ = some (.slice A0_1 l0_1.length c0_1) := (zKc BK746.out 1).trans rfl; have hfz10_0 := zKf BK746.out 0; have hfz10_1 := zKf BK746.out 1; have hnb11 := NB747_748.out; have hnc11 := NB748_747.out; have hcz12_0 : w7.cell? ⟨gb747, 0, none⟩ = some (.bool a1_0) := (zKc BK747.out 0).trans rfl; have hcz12_1 : w7.cell? ⟨gb747, 1, none⟩ = some (.slice A1_1 l1_1.length c1_1) := (zKc BK747.out 1).trans rfl; have hfz12_0 := zKf BK747.out 0; have hfz12_1 := zKf BK747.out 1)|((with_reducible refine gate_callee (f:=13) rfl ?_); refine goesL_ (some 12) rfl rfl Tryd.func13 (by kernel_rfl) rfl #[.agg #[.bool a0_0, .slice A0_1 l0_1.length c0_1], .agg #[.bool a1_0, .slice A1_1 l1_1.length c1_1]] rfl (by (try simp only [zMa, zMc, zMn]); first |  done|  rfl|  (simp only [zLd, zLt]; rfl)) ?_; (with_reducible refine (filigreeref02_DivMod.calls k a0_0 _ _ l0_1 a1_0 _ _ l1_1 t749 t750 t753 t754 t757 _ ?side1 ?side2 ?side3 ?side4 A3.out).mono ?_); (case side1 => repeat (first |  exact (Kd.C_below HR0_1.out HB.out)|(with_reducible refine zCa ?_ _)|(with_reducible refine zCn ?_ _)|(with_reducible refine zCd ?_))); (case side2 => exact HC0_1.out); (case side3 => repeat (first |  exact (Kd.C_below HR1_1.out HB.out)|(with_reducible refine zCa ?_ _)|(with_reducible refine zCn ?_ _)|(with_reducible refine zCd ?_))); (case side4 => exact HC1_1.out); rintro e w13 ⟨v751, v755, rfl, ho0, ho1, hb⟩; refine ⟨_, rfl, ?_⟩; have HO752 := zMk (zRl ho0 (zBs (uT HB.out))); have HO756 := zMk (zRl ho1 (zBs (uT HB.out))); replace BK746 := zMk (zKb BK746.out hb); replace BK747 := zMk (zKb BK747.out hb); replace BK748 := zMk (zKb BK748.out hb); replace HB := zMk (zBt (uT HB.out) hb))|((with_reducible refine gate_dst (N:=6) rfl ?_); (try (refine gate_guard (by rfl) ?_; dsimp only)); refine box_event ?hg (N:=6) ?hd (cs:=#[.bool false, .slice none 0 0]) (t:=24) ?hr ?_; (case hd => rfl); (case hg => rfl); (case hr => first | (go_simp; done)|(go_simp; rfl)|(go_simp; rw [show ∀ x : Int, IntKind.u32.wrap (IntKind.u8.wrap x) = x % 256 from fun x => (by show (x % 256) % 4294967296 = x % 256; omega)])); intro gb758 hg w14 hbox hb; replace HO752 := zMk (zRb (uR HO752.out) hb); replace HO756 := zMk (zRb (uR HO756.out) hb); have BK758 := zMk (hbox); have GW758 := zMk ((by rw [hg]; exact (zBs (uT HB.out)) : w.heap.size ≤ gb758)); have GE758 := zMk ((by rw [hg]; exact (zBs (uT HB.out)) : w.heap.size ≤ gb758)); have IGE758 := ownGe GE758.out; replace HB := zMk (zBt (uT HB.out) hb); have NB746_758 := zMk ((by rw [hg]; exact Nat.ne_of_lt (blk_lt BK746.out) : gb746 ≠ gb758)); have NB758_746 := zMk ((by rw [hg]; exact Nat.ne_of_gt (blk_lt BK746.out) : gb758 ≠ gb746)); replace BK746 := zMk (zKb BK746.out hb); have NB747_758 := zMk ((by rw [hg]; exact Nat.ne_of_lt (blk_lt BK747.out) : gb747 ≠ gb758)); have NB758_747 := zMk ((by rw [hg]; exact Nat.ne_of_gt (blk_lt BK747.out) : gb758 ≠ gb747)); replace BK747 := zMk (zKb BK747.out hb); have NB748_758 := zMk ((by rw [hg]; exact Nat.ne_of_lt (blk_lt BK748.out) : gb748 ≠ gb758)); have NB758_748 := zMk ((by rw [hg]; exact Nat.ne_of_gt (blk_lt BK748.out) : gb758 ≠ gb748)); replace BK748 := zMk (zKb BK748.out hb); clear hb hbox hg)|((with_reducible refine gate_dst (N:=7) rfl ?_); (try (refine gate_guard (by rfl) ?_; dsimp only)); refine box_event ?hg (N:=7) ?hd (cs:=#[.bool false, .slice none 0 0]) (t:=24) ?hr ?_; (case hd => rfl); (case hg => rfl); (case hr => first | (go_simp; done)|(go_simp; rfl)|(go_simp; rw [show ∀ x : Int, IntKind.u32.wrap (IntKind.u8.wrap x) = x % 256 from fun x => (by show (x % 256) % 4294967296 = x % 256; omega)])); intro gb759 hg w15 hbox hb; replace HO752 := zMk (zRb (uR HO752.out) hb); replace HO756 := zMk (zRb (uR HO756.out) hb); have BK759 := zMk (hbox); have GW759 := zMk ((by rw [hg]; exact (zBs (uT HB.out)) : w.heap.size ≤ gb759)); have GE759 := zMk ((by rw [hg]; exact (zBs (uT HB.out)) : w.heap.size ≤ gb759)); have IGE759 := ownGe GE759.out; replace HB := zMk (zBt (uT HB.out) hb); have NB746_759 := zMk ((by rw [hg]; exact Nat.ne_of_lt (blk_lt BK746.out) : gb746 ≠ gb759)); have NB759_746 := zMk ((by rw [hg]; exact Nat.ne_of_gt (blk_lt BK746.out) : gb759 ≠ gb746)); replace BK746 := zMk (zKb BK746.out hb); have NB747_759 := zMk ((by rw [hg]; exact Nat.ne_of_lt (blk_lt BK747.out) : gb747 ≠ gb759)); have NB759_747 := zMk ((by rw [hg]; exact Nat.ne_of_gt (blk_lt BK747.out) : gb759 ≠ gb747)); replace BK747 := zMk (zKb BK747.out hb); have NB748_759 := zMk ((by rw [hg]; exact Nat.ne_of_lt (blk_lt BK748.out) : gb748 ≠ gb759)); have NB759_748 := zMk ((by rw [hg]; exact Nat.ne_of_gt (blk_lt BK748.out) : gb759 ≠ gb748)); replace BK748 := zMk (zKb BK748.out hb); have NB758_759 := zMk ((by rw [hg]; exact Nat.ne_of_lt (blk_lt BK758.out) : gb758 ≠ gb759)); have NB759_758 := zMk ((by rw [hg]; exact Nat.ne_of_gt (blk_lt BK758.out) : gb759 ≠ gb758)); replace BK758 := zMk (zKb BK758.out hb); clear hb hbox hg; have hnb16 := NB758_746.out; have hnc16 := NB746_758.out; have hnb17 := NB758_747.out; have hnc17 := NB747_758.out; have hnb18 := NB758_748.out; have hnc18 := NB748_758.out; have hnb19 := NB758_759.out; have hnc19 := NB759_758.out; have hcz20_0 : w15.cell? ⟨gb758, 0, none⟩ = some (.bool false) := (zKc BK758.out 0).trans rfl; have hcz20_1 : w15.cell? ⟨gb758, 1, none⟩ = some (.slice none 0 0) := (zKc BK758.out 1).trans rfl; have hfz20_0 := zKf BK758.out 0; have hfz20_1 := zKf BK758.out 1; obtain ⟨Ao21, co21, eo21⟩ := zRs HO752.out; subst eo21; have hnb22 := NB759_746.out; have hnc22 := NB746_759.out; have hnb23 := NB759_747.out; have hnc23 := NB747_759.out; have hnb24 := NB759_748.out; have hnc24 := NB748_759.out; have hcz25_0 : w15.cell? ⟨gb759, 0, none⟩ = some (.bool false) := (zKc BK759.out 0).trans rfl; have hcz25_1 : w15.cell? ⟨gb759, 1, none⟩ = some (.slice none 0 0) := (zKc BK759.out 1).trans rfl; have hfz25_0 := zKf BK759.out 0; have hfz25_1 := zKf BK759.out 1; obtain ⟨Ao26, co26, eo26⟩ := zRs HO756.out; subst eo26))
 (try simp only [Act.put, zSa, zSb, zSc])
 go_cut [23] (fun v23 wc => ∃ (kq : Nat) (x23_3 : Bool), v23 = .bool x23_3 ∧ Aside0 (filigreeref02_Exact.j0 kq t757 x23_3 t749 t750 = some (r1, r2, r3)) ∧ Aside0 (kq ≤ k) ∧ Aside0 (Kd.R (Kd.int .u32) 58 wc w.heap.size (fun k_ => some k_ ≠ ((.slice Ao26 t754.length co26) : Value).ownBlock) (.slice Ao21 t750.length co21) t750) ∧ Aside0 (Kd.R (Kd.int .u32) 58 wc w.heap.size (fun k_ => some k_ ≠ ((.slice Ao21 t750.length co21) : Value).ownBlock) (.slice Ao26 t754.length co26) t754) ∧ Aside0 (wc.heap[gb746]? = some (.cells #[.bool a0_0, (.slice A0_1 l0_1.length c0_1)] 24 (0, 0))) ∧ Aside0 (wc.heap[gb747]? = some (.cells #[.bool a1_0, (.slice A1_1 l1_1.length c1_1)] 24 (0, 0))) ∧ Aside0 (wc.heap[gb748]? = some (.cells #[.bool false, (.slice none 0 0)] 24 (0, 0))) ∧ Aside0 (wc.heap[gb758]? = some (.cells #[.bool t749, (.slice Ao21 t750.length co21)] 24 (0, 0))) ∧ Aside0 (wc.heap[gb759]? = some (.cells #[.bool t753, (.slice Ao26 t754.length co26)] 24 (0, 0))) ∧ Aside0 (Below w.heap.size w wc))
 case first =>
  have H := HC4.out
  clear HC4
  by_cases c27 : t757 = 0
  ·rw [if_pos c27] at H
   have c27b0 : (t757 == 0) = true := beq_iff_eq.mpr c27
   have c27b1 : (t757 != 0) = false := bne_eq_false_iff_eq.mpr c27
   clear c27
   (first | rw [c27b0] | (simp only [i64_w, i32_w]; rw [c27b0]) | rw [c27b1] | skip)
   have H' := zMk H
   clear H
   have hnb28 := NB759_746.out
   have hnc28 := NB746_759.out
   have hnb29 := NB759_747.out
   have hnc29 := NB747_759.out
   have hnb30 := NB759_748.out
   have hnc30 := NB748_759.out
   have hnb31 := NB759_758.out
   have hnc31 := NB758_759.out
   have hcz32_0 : w15.cell? ⟨gb759, 0, none⟩ = some (.bool false) := (zKc BK759.out 0).trans rfl
   have hcz32_1 : w15.cell? ⟨gb759, 1, none⟩ = some (.slice none 0 0) := (zKc BK759.out 1).trans rfl
   have hfz32_0 := zKf BK759.out 0
   have hfz32_1 := zKf BK759.out 1
   go_wp2
   go_meet
   case rel => exact ⟨_, (decide ((t754.length : Int) > 0)), (by first | rfl | (simp; done) | (simp [*]; done)), H', ⟨by first | omega | exact Nat.le_refl _⟩, ⟨by (with_reducible repeat (first | apply zRa | apply zRn | apply zRd)); exact zRm (Kd.R_far (p:=⟨gb759, 1, none⟩) (Kd.R_far (p:=⟨gb759, 0, none⟩) (Kd.R_far (p:=⟨gb758, 1, none⟩) (Kd.R_far (p:=⟨gb758, 0, none⟩) (Kd.R_types (Kd.R_types HO752.out BK758.out (by decide)) BK759.out (by decide)) (fun _ hk => hk.1.2) (.bool t749)) (fun _ hk => hk.1.2) (.slice Ao21 t750.length co21)) (fun _ hk => hk.2) (.bool t753)) (fun _ hk => hk.2) (.slice Ao26 t754.length co26)) (fun _ hk => hk.1.1)⟩, ⟨by (with_reducible repeat (first | apply zRa | apply zRn | apply zRd)); exact zRm (Kd.R_far (p:=⟨gb759, 1, none⟩) (Kd.R_far (p:=⟨gb759, 0, none⟩) (Kd.R_far (p:=⟨gb758, 1, none⟩) (Kd.R_far (p:=⟨gb758, 0, none⟩) (Kd.R_types (Kd.R_types HO756.out BK758.out (by decide)) BK759.out (by decide)) (fun _ hk => hk.1.2) (.bool t749)) (fun _ hk => hk.1.2) (.slice Ao21 t750.length co21)) (fun _ hk => hk.2) (.bool t753)) (fun _ hk => hk.2) (.slice Ao26 t754.length co26)) (fun _ hk => hk.1.1)⟩, ⟨by (with_reducible repeat (first | refine zKn ?_ _ | refine zKd ?_ | refine zKa ?_ _)); refine blk_far ?_ NB746_759.out _; (with_reducible repeat (first | refine zKn ?_ _ | refine zKd ?_ | refine zKa ?_ _)); refine blk_far ?_ NB746_759.out _; (with_reducible repeat (first | refine zKn ?_ _ | refine zKd ?_ | refine zKa ?_ _)); refine blk_far ?_ NB746_758.out _; (with_reducible repeat (first | refine zKn ?_ _ | refine zKd ?_ | refine zKa ?_ _)); refine blk_far ?_ NB746_758.out _; (with_reducible repeat (first | refine zKn ?_ _ | refine zKd ?_ | refine zKa ?_ _)); exact BK746.out⟩, ⟨by (with_reducible repeat (first | refine zKn ?_ _ | refine zKd ?_ | refine zKa ?_ _)); refine blk_far ?_ NB747_759.out _; (with_reducible repeat (first | refine zKn ?_ _ | refine zKd ?_ | refine zKa ?_ _)); refine blk_far ?_ NB747_759.out _; (with_reducible repeat (first | refine zKn ?_ _ | refine zKd ?_ | refine zKa ?_ _)); refine blk_far ?_ NB747_758.out _; (with_reducible repeat (first | refine zKn ?_ _ | refine zKd ?_ | refine zKa ?_ _)); refine blk_far ?_ NB747_758.out _; (with_reducible repeat (first | refine zKn ?_ _ | refine zKd ?_ | refine zKa ?_ _)); exact BK747.out⟩, ⟨by (with_reducible repeat (first | refine zKn ?_ _ | refine zKd ?_ | refine zKa ?_ _)); refine blk_far ?_ NB748_759.out _; (with_reducible repeat (first | refine zKn ?_ _ | refine zKd ?_ | refine zKa ?_ _)); refine blk_far ?_ NB748_759.out _; (with_reducible repeat (first | refine zKn ?_ _ | refine zKd ?_ | refine zKa ?_ _)); refine blk_far ?_ NB748_758.out _; (with_reducible repeat (first | refine zKn ?_ _ | refine zKd ?_ | refine zKa ?_ _)); refine blk_far ?_ NB748_758.out _; (with_reducible repeat (first | refine zKn ?_ _ | refine zKd ?_ | refine zKa ?_ _)); exact BK748.out⟩, ⟨by (with_reducible repeat (first | refine zKn ?_ _ | refine zKd ?_ | refine zKa ?_ _)); refine blk_far ?_ NB758_759.out _; (with_reducible repeat (first | refine zKn ?_ _ | refine zKd ?_ | refine zKa ?_ _)); refine blk_far ?_ NB758_759.out _; (with_reducible repeat (first | refine zKn ?_ _ | refine zKd ?_ | refine zKa ?_ _)); refine blk_put (cs:=#[.bool t749, .slice none 0 0]) ?_ 1 _ rfl; (with_reducible repeat (first | refine zKn ?_ _ | refine zKd ?_ | refine zKa ?_ _)); refine blk_put (cs:=#[.bool false, .slice none 0 0]) ?_ 0 _ rfl; (with_reducible repeat (first | refine zKn ?_ _ | refine zKd ?_ | refine zKa ?_ _)); exact BK758.out⟩, ⟨by (with_reducible repeat (first | refine zKn ?_ _ | refine zKd ?_ | refine zKa ?_ _)); refine blk_put (cs:=#[.bool t753, .slice none 0 0]) ?_ 1 _ rfl; (with_reducible repeat (first | refine zKn ?_ _ | refine zKd ?_ | refine zKa ?_ _)); refine blk_put (cs:=#[.bool false, .slice none 0 0]) ?_ 0 _ rfl; (with_reducible repeat (first | refine zKn ?_ _ | refine zKd ?_ | refine zKa ?_ _)); refine blk_far ?_ NB759_758.out _; (with_reducible repeat (first | refine zKn ?_ _ | refine zKd ?_ | refine zKa ?_ _)); refine blk_far ?_ NB759_758.out _; (with_reducible repeat (first | refine zKn ?_ _ | refine zKd ?_ | refine zKa ?_ _)); exact BK759.out⟩, ⟨by exact uT HB.out⟩⟩
  ·rw [if_neg c27] at H
   have c27b0 : (t757 == 0) = false := beq_eq_false_iff_ne.mpr c27
   have c27b1 : (t757 != 0) = true := bne_iff_ne.mpr c27
   (first | rw [c27b0] | (simp only [i64_w, i32_w]; rw [c27b0]) | rw [c27b1] | skip)
   have H' := zMk H
   clear H
   go_wp2
   go_meet
   case rel => exact ⟨_, (false), (by first | rfl | (simp; done) | (simp [*]; done)), H', ⟨by first | omega | exact Nat.le_refl _⟩, ⟨by (with_reducible repeat (first | apply zRa | apply zRn | apply zRd)); exact zRm (Kd.R_far (p:=⟨gb759, 1, none⟩) (Kd.R_far (p:=⟨gb759, 0, none⟩) (Kd.R_far (p:=⟨gb758, 1, none⟩) (Kd.R_far (p:=⟨gb758, 0, none⟩) (Kd.R_types (Kd.R_types HO752.out BK758.out (by decide)) BK759.out (by decide)) (fun _ hk => hk.1.2) (.bool t749)) (fun _ hk => hk.1.2) (.slice Ao21 t750.length co21)) (fun _ hk => hk.2) (.bool t753)) (fun _ hk => hk.2) (.slice Ao26 t754.length co26)) (fun _ hk => hk.1.1)⟩, ⟨by (with_reducible repeat (first | apply zRa | apply zRn | apply zRd)); exact zRm (Kd.R_far (p:=⟨gb759, 1, none⟩) (Kd.R_far (p:=⟨gb759, 0, none⟩) (Kd.R_far (p:=⟨gb758, 1, none⟩) (Kd.R_far (p:=⟨gb758, 0, none⟩) (Kd.R_types (Kd.R_types HO756.out BK758.out (by decide)) BK759.out (by decide)) (fun _ hk => hk.1.2) (.bool t749)) (fun _ hk => hk.1.2) (.slice Ao21 t750.length co21)) (fun _ hk => hk.2) (.bool t753)) (fun _ hk => hk.2) (.slice Ao26 t754.length co26)) (fun _ hk => hk.1.1)⟩, ⟨by (with_reducible repeat (first | refine zKn ?_ _ | refine zKd ?_ | refine zKa ?_ _)); refine blk_far ?_ NB746_759.out _; (with_reducible repeat (first | refine zKn ?_ _ | refine zKd ?_ | refine zKa ?_ _)); refine blk_far ?_ NB746_759.out _; (with_reducible repeat (first | refine zKn ?_ _ | refine zKd ?_ | refine zKa ?_ _)); refine blk_far ?_ NB746_758.out _; (with_reducible repeat (first | refine zKn ?_ _ | refine zKd ?_ | refine zKa ?_ _)); refine blk_far ?_ NB746_758.out _; (with_reducible repeat (first | refine zKn ?_ _ | refine zKd ?_ | refine zKa ?_ _)); exact BK746.out⟩, ⟨by (with_reducible repeat (first | refine zKn ?_ _ | refine zKd ?_ | refine zKa ?_ _)); refine blk_far ?_ NB747_759.out _; (with_reducible repeat (first | refine zKn ?_ _ | refine zKd ?_ | refine zKa ?_ _)); refine blk_far ?_ NB747_759.out _; (with_reducible repeat (first | refine zKn ?_ _ | refine zKd ?_ | refine zKa ?_ _)); refine blk_far ?_ NB747_758.out _; (with_reducible repeat (first | refine zKn ?_ _ | refine zKd ?_ | refine zKa ?_ _)); refine blk_far ?_ NB747_758.out _; (with_reducible repeat (first | refine zKn ?_ _ | refine zKd ?_ | refine zKa ?_ _)); exact BK747.out⟩, ⟨by (with_reducible repeat (first | refine zKn ?_ _ | refine zKd ?_ | refine zKa ?_ _)); refine blk_far ?_ NB748_759.out _; (with_reducible repeat (first | refine zKn ?_ _ | refine zKd ?_ | refine zKa ?_ _)); refine blk_far ?_ NB748_759.out _; (with_reducible repeat (first | refine zKn ?_ _ | refine zKd ?_ | refine zKa ?_ _)); refine blk_far ?_ NB748_758.out _; (with_reducible repeat (first | refine zKn ?_ _ | refine zKd ?_ | refine zKa ?_ _)); refine blk_far ?_ NB748_758.out _; (with_reducible repeat (first | refine zKn ?_ _ | refine zKd ?_ | refine zKa ?_ _)); exact BK748.out⟩, ⟨by (with_reducible repeat (first | refine zKn ?_ _ | refine zKd ?_ | refine zKa ?_ _)); refine blk_far ?_ NB758_759.out _; (with_reducible repeat (first | refine zKn ?_ _ | refine zKd ?_ | refine zKa ?_ _)); refine blk_far ?_ NB758_759.out _; (with_reducible repeat (first | refine zKn ?_ _ | refine zKd ?_ | refine zKa ?_ _)); refine blk_put (cs:=#[.bool t749, .slice none 0 0]) ?_ 1 _ rfl; (with_reducible repeat (first | refine zKn ?_ _ | refine zKd ?_ | refine zKa ?_ _)); refine blk_put (cs:=#[.bool false, .slice none 0 0]) ?_ 0 _ rfl; (with_reducible repeat (first | refine zKn ?_ _ | refine zKd ?_ | refine zKa ?_ _)); exact BK758.out⟩, ⟨by (with_reducible repeat (first | refine zKn ?_ _ | refine zKd ?_ | refine zKa ?_ _)); refine blk_put (cs:=#[.bool t753, .slice none 0 0]) ?_ 1 _ rfl; (with_reducible repeat (first | refine zKn ?_ _ | refine zKd ?_ | refine zKa ?_ _)); refine blk_put (cs:=#[.bool false, .slice none 0 0]) ?_ 0 _ rfl; (with_reducible repeat (first | refine zKn ?_ _ | refine zKd ?_ | refine zKa ?_ _)); refine blk_far ?_ NB759_758.out _; (with_reducible repeat (first | refine zKn ?_ _ | refine zKd ?_ | refine zKa ?_ _)); refine blk_far ?_ NB759_758.out _; (with_reducible repeat (first | refine zKn ?_ _ | refine zKd ?_ | refine zKa ?_ _)); exact BK759.out⟩, ⟨by exact uT HB.out⟩⟩
 case rest =>
  clear HC4
  obtain ⟨kq, x23_3, rfl, HA, HJ3, HO_759001, HO_760001, BK746, BK747, BK748, BK758, BK759, HB⟩ := hcut
  rcases kq with _ | kj3
  ·exact absurd HA.out (by simp [filigreeref02_Exact.j0])
  have H := HA.out
  clear HA
  simp only [filigreeref02_Exact.j0] at H
  by_cases c33 : x23_3 = true
  ·subst c33
   replace H : (if 16 = 0 then (some (t749, t750, 0)) else (some (false, ([] : List Int), 16))) = some (r1, r2, r3) := by rw [if_pos rfl] at H; exact H
   by_cases c34 : 16 = 0
   ·exact absurd c34 (by decide)
   ·rw [if_neg c34] at H
    have c34b0 : (16 == 0) = false := beq_eq_false_iff_ne.mpr c34
    have c34b1 : (16 != 0) = true := bne_iff_ne.mpr c34
    simp only [Option.some.injEq, Prod.mk.injEq] at H
    obtain ⟨rfl, rfl, rfl⟩ := H
    have hnb44 := NB748_746.out
    have hnc44 := NB746_748.out
    have hnb45 := NB748_747.out
    have hnc45 := NB747_748.out
    have hnb46 := NB748_758.out
    have hnc46 := NB758_748.out
    have hnb47 := NB748_759.out
    have hnc47 := NB759_748.out
    have hcz48_0 : wc.cell? ⟨gb748, 0, none⟩ = some (.bool false) := (zKc BK748.out 0).trans rfl
    have hcz48_1 : wc.cell? ⟨gb748, 1, none⟩ = some (.slice none 0 0) := (zKc BK748.out 1).trans rfl
    have hfz48_0 := zKf BK748.out 0
    have hfz48_1 := zKf BK748.out 1
    go_wp2
    refine bodyPost_ret (results_ct rfl _ _ gb748 24 #[.bool false, .slice none 0 0] (0, 0) _ rfl (by (with_reducible repeat (first | refine zKn ?_ _ | refine zKd ?_ | refine zKa ?_ _)); refine blk_put (cs:=#[.bool false, .slice none 0 0]) ?_ 1 _ rfl; (with_reducible repeat (first | refine zKn ?_ _ | refine zKd ?_ | refine zKa ?_ _)); refine blk_put (cs:=#[.bool false, .slice none 0 0]) ?_ 0 _ rfl; (with_reducible repeat (first | refine zKn ?_ _ | refine zKd ?_ | refine zKa ?_ _)); exact BK748.out) Tryd.underlying24 rfl (by kernel_rfl)) rfl ?_
    exact ⟨_, by first | rfl | (simp [errW_none, errW_some] <;> rfl) | (simp [*, errW_none, errW_some] <;> rfl), by first | exact Kd.R_nil _ _ _ _ _ | exact Kd.N_nil _ _ _ _ _ | exact Kd.V_nil _ _ _ _ _ | exact Kd.Q_nil _ _ _ _ _ | exact Kd.S_nil _ _ _ _ _, by exact uT HB.out⟩
  ·replace c33 := Bool.eq_false_iff.mpr c33
   subst c33
   replace H : (if t757 = 0 then (some (t749, t750, 0)) else (some (false, ([] : List Int), t757))) = some (r1, r2, r3) := by rw [if_neg (show ¬ (false = true) by decide)] at H; exact H
   by_cases c49 : t757 = 0
   ·rw [if_pos c49] at H
    have c49b0 : (t757 == 0) = true := beq_iff_eq.mpr c49
    have c49b1 : (t757 != 0) = false := bne_eq_false_iff_eq.mpr c49
    clear c49
    simp only [Option.some.injEq, Prod.mk.injEq] at H
    obtain ⟨rfl, rfl, rfl⟩ := H
    have hnb50 := NB758_746.out
    have hnc50 := NB746_758.out
    have hnb51 := NB758_747.out
    have hnc51 := NB747_758.out
    have hnb52 := NB758_748.out
    have hnc52 := NB748_758.out
    have hnb53 := NB758_759.out
    have hnc53 := NB759_758.out
    have hcz54_0 : wc.cell? ⟨gb758, 0, none⟩ = some (.bool t749) := (zKc BK758.out 0).trans rfl
    have hcz54_1 : wc.cell? ⟨gb758, 1, none⟩ = some (.slice Ao21 t750.length co21) := (zKc BK758.out 1).trans rfl
    have hfz54_0 := zKf BK758.out 0
    have hfz54_1 := zKf BK758.out 1
    have hnb55 := NB748_746.out
    have hnc55 := NB746_748.out
    have hnb56 := NB748_747.out
    have hnc56 := NB747_748.out
    have hnb57 := NB748_759.out
    have hnc57 := NB759_748.out
    have hcz58_0 : wc.cell? ⟨gb748, 0, none⟩ = some (.bool false) := (zKc BK748.out 0).trans rfl
    have hcz58_1 : wc.cell? ⟨gb748, 1, none⟩ = some (.slice none 0 0) := (zKc BK748.out 1).trans rfl
    have hfz58_0 := zKf BK748.out 0
    have hfz58_1 := zKf BK748.out 1
    go_wp2
    refine bodyPost_ret (results_ct rfl _ _ gb748 24 #[.bool t749, .slice Ao21 t750.length co21] (0, 0) _ rfl (by (with_reducible repeat (first | refine zKn ?_ _ | refine zKd ?_ | refine zKa ?_ _)); refine blk_put (cs:=#[.bool t749, .slice none 0 0]) ?_ 1 _ rfl; (with_reducible repeat (first | refine zKn ?_ _ | refine zKd ?_ | refine zKa ?_ _)); refine blk_put (cs:=#[.bool false, .slice none 0 0]) ?_ 0 _ rfl; (with_reducible repeat (first | refine zKn ?_ _ | refine zKd ?_ | refine zKa ?_ _)); exact BK748.out) Tryd.underlying24 rfl (by kernel_rfl)) rfl ?_
    exact ⟨_, by first | rfl | (simp [errW_none, errW_some] <;> rfl) | (simp [*, errW_none, errW_some] <;> rfl), by (with_reducible repeat (first | apply zRa | apply zRn | apply zRd)); exact zRm (Kd.R_far (p:=⟨gb748, 1, none⟩) (Kd.R_far (p:=⟨gb748, 0, none⟩) (Kd.R_types HO_759001.out BK748.out (by decide)) (fun _ hk => hk.2) (.bool t749)) (fun _ hk => hk.2) (.slice Ao21 t750.length co21)) (fun _ hk => trivial), by exact uT HB.out⟩
   ·rw [if_neg c49] at H
    have c49b0 : (t757 == 0) = false := beq_eq_false_iff_ne.mpr c49
    have c49b1 : (t757 != 0) = true := bne_iff_ne.mpr c49
    simp only [Option.some.injEq, Prod.mk.injEq] at H
    obtain ⟨rfl, rfl, rfl⟩ := H
    have hnb59 := NB748_746.out
    have hnc59 := NB746_748.out
    have hnb60 := NB748_747.out
    have hnc60 := NB747_748.out
    have hnb61 := NB748_758.out
    have hnc61 := NB758_748.out
    have hnb62 := NB748_759.out
    have hnc62 := NB759_748.out
    have hcz63_0 : wc.cell? ⟨gb748, 0, none⟩ = some (.bool false) := (zKc BK748.out 0).trans rfl
    have hcz63_1 : wc.cell? ⟨gb748, 1, none⟩ = some (.slice none 0 0) := (zKc BK748.out 1).trans rfl
    have hfz63_0 := zKf BK748.out 0
    have hfz63_1 := zKf BK748.out 1
    go_wp2
    refine bodyPost_ret (results_ct rfl _ _ gb748 24 #[.bool false, .slice none 0 0] (0, 0) _ rfl (by (with_reducible repeat (first | refine zKn ?_ _ | refine zKd ?_ | refine zKa ?_ _)); refine blk_put (cs:=#[.bool false, .slice none 0 0]) ?_ 1 _ rfl; (with_reducible repeat (first | refine zKn ?_ _ | refine zKd ?_ | refine zKa ?_ _)); refine blk_put (cs:=#[.bool false, .slice none 0 0]) ?_ 0 _ rfl; (with_reducible repeat (first | refine zKn ?_ _ | refine zKd ?_ | refine zKa ?_ _)); exact BK748.out) Tryd.underlying24 rfl (by kernel_rfl)) rfl ?_
    exact ⟨_, by first | rfl | (simp [errW_none, errW_some] <;> rfl) | (simp [*, errW_none, errW_some] <;> rfl), by first | exact Kd.R_nil _ _ _ _ _ | exact Kd.N_nil _ _ _ _ _ | exact Kd.V_nil _ _ _ _ _ | exact Kd.Q_nil _ _ _ _ _ | exact Kd.S_nil _ _ _ _ _, by exact uT HB.out⟩

end Go.Proofs.YtnjmnicgknggfaaDoor.D
