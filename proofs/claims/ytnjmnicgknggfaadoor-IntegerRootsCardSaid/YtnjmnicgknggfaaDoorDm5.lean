/- Lemmas for the statement: the walks of the functions that it reaches, and plain laws. -/
import Derived.Test.YtnjmnicgknggfaaDoorDm1
import Derived.Test.YtnjmnicgknggfaaDoorDm2
import Derived.Test.YtnjmnicgknggfaaDoorDm4
import Derived.Test.YtnjmnicgknggfaaDoorDm3
import Derived.KernelRfl
set_option linter.unusedVariables false
set_option linter.unusedSimpArgs false
set_option maxHeartbeats 8000000
set_option maxRecDepth 100000
namespace Go.Proofs.YtnjmnicgknggfaaDoor.D
open Go Go.RowKit Go.Proofs.YtnjmnicgknggfaaDoorW.PrintWords Go.Proofs.YtnjmnicgknggfaaDoorW.PrintLast Go.Proofs.YtnjmnicgknggfaaDoorW.PrintMore
attribute [local go_sem] max2_int min2_int max_two min_two max_three min_three max_four min_four
open Go.Proofs.YtnjmnicgknggfaaDoorW.PrintWords.Kd renaming R_alloc → zRa, R_drewN → zRn, R_drew → zRd, V_alloc → zVa, V_drewN → zVn, V_drew → zVd, V_below → zVb, C_alloc → zCa, C_drewN → zCn, C_drew → zCd, R_mono → zRm, V_mono → zVm, at_int → zAi, R_elder' → zRe, R_lower → zRl, R_new' → zRw, R_lt → zRt, R_below → zRb, R_base → zRz, R_reads' → zRr, R_slice → zRs, V_elder' → zVe, V_lower → zVl, V_slice → zVs, V_reads' → zVr
open Go.Proofs.YtnjmnicgknggfaaDoorW.PrintWords renaming pw_below_drewN → zBn, below_alloc → zBa, below_drew1 → zBd, below_size → zBs, below_step → zBt, blk_drewN → zKn, blk_drew → zKd, blk_alloc → zKa, blk_below → zKb, blk_cell → zKc, blk_frozen → zKf
open List renaming setIfInBounds_toArray → zSa, set_cons_zero → zSb, set_cons_succ → zSc, length_drop → zLd, length_take → zLt, map_toArray → zMa, map_cons → zMc, map_nil → zMn, length_cons → zLc, length_nil → zLn
open Go.Proofs.YtnjmnicgknggfaaDoorW.PrintWords.Aside0 renaming mk → zMk
open Option renaming bind_eq_some_iff → zBi, bind_some → zOb
open Option.some renaming inj → zOi
open Int renaming toNat_natCast → zTn

def integer_DivMod.j0 : Nat → List Int → List Int → Bool → Bool → List Int → Bool → List Int → Option (Bool × List Int × Bool × List Int × Int)
  | 0, _, _, _, _, _, _, _ => none
  | k + 1, x7, x8, x29, x263000, x263001, x264000, x264001 => if x29 = true then ((n_Of.f 1).bind fun t273 => ((n_Add.f k x7 t273).bind fun t276 => ((n_Sub.f k x264001 x8).bind fun bt279 => ((integer_signed.f (x263000 != x264000) t276).bind fun bt283 => ((integer_signed.f false bt279.1).bind fun bt287 => (some (bt283.1, bt283.2, bt287.1, bt287.2, 0))))))) else ((integer_signed.f (x263000 != x264000) x7).bind fun bt291 => ((integer_signed.f false x8).bind fun bt295 => (some (bt291.1, bt291.2, bt295.1, bt295.2, 0))))
def integer_DivMod.f (k : Nat) (a0_0 : Bool) (l0_1 : List Int) (a1_0 : Bool) (l1_1 : List Int) : Option (Bool × List Int × Bool × List Int × Int) := (n_DivMod.f k l0_1 l1_1).bind fun bt266 => (if bt266.2.2 = 0 then (if a0_0 = true then (integer_DivMod.j0 k bt266.1 bt266.2.1 (decide ((bt266.2.1.length : Int) > 0)) a0_0 l0_1 a1_0 l1_1) else (integer_DivMod.j0 k bt266.1 bt266.2.1 false a0_0 l0_1 a1_0 l1_1)) else (some (false, ([] : List Int), false, ([] : List Int), bt266.2.2)))
theorem integer_DivMod.calls (k : Nat) (a0_0 : Bool) (A0_1 : Option Addr) (c0_1 : Nat) (l0_1 : List Int) (a1_0 : Bool) (A1_1 : Option Addr) (c1_1 : Nat) (l1_1 : List Int) (r1 : Bool) (r2 : List Int) (r3 : Bool) (r4 : List Int) (r5 : Int) (w : World) (hr0_1 : Kd.C (Kd.int .u32) w A0_1 l0_1.length l0_1) (hc0_1 : l0_1.length ≤ c0_1) (hr1_1 : Kd.C (Kd.int .u32) w A1_1 l1_1.length l1_1) (hc1_1 : l1_1.length ≤ c1_1) (h : integer_DivMod.f k a0_0 l0_1 a1_0 l1_1 = some (r1, r2, r3, r4, r5)) :
    Calls Tryd.prog 12 #[.agg #[.bool a0_0, .slice A0_1 l0_1.length c0_1], .agg #[.bool a1_0, .slice A1_1 l1_1.length c1_1]] w fun e w' => ∃ v1_ v3_ : Value, e = .returned (.tuple #[.agg #[.bool r1, v1_], .agg #[.bool r3, v3_], .int .i64 r5]) ∧ Kd.R (Kd.int .u32) 58 w' w.heap.size (fun k_ => some k_ ≠ (v3_ : Value).ownBlock) v1_ r2 ∧ Kd.R (Kd.int .u32) 58 w' w.heap.size (fun k_ => some k_ ≠ (v1_ : Value).ownBlock) v3_ r4 ∧ Below w.heap.size w w' := by
  have hu24 := Tryd.underlying24
  have HR0_1 := zMk hr0_1
  have HC0_1 := zMk hc0_1
  clear hr0_1 hc0_1
  have HR1_1 := zMk hr1_1
  have HC1_1 := zMk hc1_1
  clear hr1_1 hc1_1
  have HB := zMk (Below.refl w.heap.size w)
  have H : ((n_DivMod.f k l0_1 l1_1).bind fun bt266 => (if bt266.2.2 = 0 then (if a0_0 = true then (integer_DivMod.j0 k bt266.1 bt266.2.1 (decide ((bt266.2.1.length : Int) > 0)) a0_0 l0_1 a1_0 l1_1) else (integer_DivMod.j0 k bt266.1 bt266.2.1 false a0_0 l0_1 a1_0 l1_1)) else (some (false, ([] : List Int), false, ([] : List Int), bt266.2.2)))) = some (r1, r2, r3, r4, r5) := h
  clear h
  replace H := bnd H
  obtain ⟨⟨t266, t269, t272⟩, A30, H⟩ := H
  replace H : (if t272 = 0 then (if a0_0 = true then (integer_DivMod.j0 k t266 t269 (decide ((t269.length : Int) > 0)) a0_0 l0_1 a1_0 l1_1) else (integer_DivMod.j0 k t266 t269 false a0_0 l0_1 a1_0 l1_1)) else (some (false, ([] : List Int), false, ([] : List Int), t272))) = some (r1, r2, r3, r4, r5) := H
  have A3 := zMk A30
  clear A30
  by_cases c4 : t272 = 0
  · rw [if_pos c4] at H
    have c4b0 : (t272 == 0) = true := beq_iff_eq.mpr c4
    have c4b1 : (t272 != 0) = false := bne_eq_false_iff_eq.mpr c4
    clear c4
    have HC5 := zMk H
    clear H
    go_enter Tryd.func12, Tryd.ntmps12
    go_upto_region 4 with (first | ((with_reducible refine gate_dst (N := 2) rfl ?_); (try (refine gate_guard (by rfl) ?_; dsimp only)); refine box_event ?hg (N := 2) ?hd (cs := #[.bool a0_0, .slice A0_1 l0_1.length c0_1]) (t := 24) ?hr ?_; (case hd => rfl); (case hg => rfl); (case hr => first | (go_simp; done)|(go_simp; rfl)|(go_simp; rw [show ∀ x : Int, IntKind.u32.wrap (IntKind.u8.wrap x) = x % 256 from fun x => (by show (x % 256) % 4294967296 = x % 256; omega)])); intro gb262 hg w6 hbox hb; have BK262 := zMk (hbox); have GW262 := zMk ((by rw [hg]; exact (zBs (by exact uT HB.out)) : w.heap.size ≤ gb262)); have GE262 := zMk ((by rw [hg]; exact (zBs (by exact uT HB.out)) : w.heap.size ≤ gb262)); have IGE262 := ownGe GE262.out; replace HB := zMk (zBt (by exact uT HB.out) hb); clear hb hbox hg)|((with_reducible refine gate_dst (N := 3) rfl ?_); (try (refine gate_guard (by rfl) ?_; dsimp only)); refine box_event ?hg (N := 3) ?hd (cs := #[.bool a1_0, .slice A1_1 l1_1.length c1_1]) (t := 24) ?hr ?_; (case hd => rfl); (case hg => rfl); (case hr => first | (go_simp; done)|(go_simp; rfl)|(go_simp; rw [show ∀ x : Int, IntKind.u32.wrap (IntKind.u8.wrap x) = x % 256 from fun x => (by show (x % 256) % 4294967296 = x % 256; omega)])); intro gb263 hg w7 hbox hb; have BK263 := zMk (hbox); have GW263 := zMk ((by rw [hg]; exact (zBs (by exact uT HB.out)) : w.heap.size ≤ gb263)); have GE263 := zMk ((by rw [hg]; exact (zBs (by exact uT HB.out)) : w.heap.size ≤ gb263)); have IGE263 := ownGe GE263.out; replace HB := zMk (zBt (by exact uT HB.out) hb); have NB262_263 := zMk ((by rw [hg]; exact Nat.ne_of_lt (blk_lt (g := gb262) (o := .cells #[.bool a0_0, .slice A0_1 l0_1.length c0_1] 24 (0, 0)) (by (with_reducible repeat (first |  refine zKn ?_ _|  refine zKd ?_|  refine zKa ?_ _)); exact BK262.out)) : gb262 ≠ gb263)); have NB263_262 := zMk ((by rw [hg]; exact Nat.ne_of_gt (blk_lt (g := gb262) (o := .cells #[.bool a0_0, .slice A0_1 l0_1.length c0_1] 24 (0, 0)) (by (with_reducible repeat (first |  refine zKn ?_ _|  refine zKd ?_|  refine zKa ?_ _)); exact BK262.out)) : gb263 ≠ gb262)); replace BK262 := zMk (zKb (g := gb262) (o := .cells #[.bool a0_0, .slice A0_1 l0_1.length c0_1] 24 (0, 0)) (by (with_reducible repeat (first |  refine zKn ?_ _|  refine zKd ?_|  refine zKa ?_ _)); exact BK262.out) hb); clear hb hbox hg)|((with_reducible refine gate_dst (N := 4) rfl ?_); (try (refine gate_guard (by rfl) ?_; dsimp only)); refine box_event ?hg (N := 4) ?hd (cs := #[.bool false, .slice none 0 0]) (t := 24) ?hr ?_; (case hd => rfl); (case hg => rfl); (case hr => first | (go_simp; done)|(go_simp; rfl)|(go_simp; rw [show ∀ x : Int, IntKind.u32.wrap (IntKind.u8.wrap x) = x % 256 from fun x => (by show (x % 256) % 4294967296 = x % 256; omega)])); intro gb264 hg w8 hbox hb; have BK264 := zMk (hbox); have GW264 := zMk ((by rw [hg]; exact (zBs (by exact uT HB.out)) : w.heap.size ≤ gb264)); have GE264 := zMk ((by rw [hg]; exact (zBs (by exact uT HB.out)) : w.heap.size ≤ gb264)); have IGE264 := ownGe GE264.out; replace HB := zMk (zBt (by exact uT HB.out) hb); have NB262_264 := zMk ((by rw [hg]; exact Nat.ne_of_lt (blk_lt (g := gb262) (o := .cells #[.bool a0_0, .slice A0_1 l0_1.length c0_1] 24 (0, 0)) (by (with_reducible repeat (first |  refine zKn ?_ _|  refine zKd ?_|  refine zKa ?_ _)); exact BK262.out)) : gb262 ≠ gb264)); have NB264_262 := zMk ((by rw [hg]; exact Nat.ne_of_gt (blk_lt (g := gb262) (o := .cells #[.bool a0_0, .slice A0_1 l0_1.length c0_1] 24 (0, 0)) (by (with_reducible repeat (first |  refine zKn ?_ _|  refine zKd ?_|  refine zKa ?_ _)); exact BK262.out)) : gb264 ≠ gb262)); replace BK262 := zMk (zKb (g := gb262) (o := .cells #[.bool a0_0, .slice A0_1 l0_1.length c0_1] 24 (0, 0)) (by (with_reducible repeat (first |  refine zKn ?_ _|  refine zKd ?_|  refine zKa ?_ _)); exact BK262.out) hb); have NB263_264 := zMk ((by rw [hg]; exact Nat.ne_of_lt (blk_lt (g := gb263) (o := .cells #[.bool a1_0, .slice A1_1 l1_1.length c1_1] 24 (0, 0)) (by (with_reducible repeat (first |  refine zKn ?_ _|  refine zKd ?_|  refine zKa ?_ _)); exact BK263.out)) : gb263 ≠ gb264)); have NB264_263 := zMk ((by rw [hg]; exact Nat.ne_of_gt (blk_lt (g := gb263) (o := .cells #[.bool a1_0, .slice A1_1 l1_1.length c1_1] 24 (0, 0)) (by (with_reducible repeat (first |  refine zKn ?_ _|  refine zKd ?_|  refine zKa ?_ _)); exact BK263.out)) : gb264 ≠ gb263)); replace BK263 := zMk (zKb (g := gb263) (o := .cells #[.bool a1_0, .slice A1_1 l1_1.length c1_1] 24 (0, 0)) (by (with_reducible repeat (first |  refine zKn ?_ _|  refine zKd ?_|  refine zKa ?_ _)); exact BK263.out) hb); clear hb hbox hg)|((with_reducible refine gate_dst (N := 5) rfl ?_); (try (refine gate_guard (by rfl) ?_; dsimp only)); refine box_event ?hg (N := 5) ?hd (cs := #[.bool false, .slice none 0 0]) (t := 24) ?hr ?_; (case hd => rfl); (case hg => rfl); (case hr => first | (go_simp; done)|(go_simp; rfl)|(go_simp; rw [show ∀ x : Int, IntKind.u32.wrap (IntKind.u8.wrap x) = x % 256 from fun x => (by show (x % 256) % 4294967296 = x % 256; omega)])); intro gb265 hg w9 hbox hb; have BK265 := zMk (hbox); have GW265 := zMk ((by rw [hg]; exact (zBs (by exact uT HB.out)) : w.heap.size ≤ gb265)); have GE265 := zMk ((by rw [hg]; exact (zBs (by exact uT HB.out)) : w.heap.size ≤ gb265)); have IGE265 := ownGe GE265.out; replace HB := zMk (zBt (by exact uT HB.out) hb); have NB262_265 := zMk ((by rw [hg]; exact Nat.ne_of_lt (blk_lt (g := gb262) (o := .cells #[.bool a0_0, .slice A0_1 l0_1.length c0_1] 24 (0, 0)) (by (with_reducible repeat (first |  refine zKn ?_ _|  refine zKd ?_|  refine zKa ?_ _)); exact BK262.out)) : gb262 ≠ gb265)); have NB265_262 := zMk ((by rw [hg]; exact Nat.ne_of_gt (blk_lt (g := gb262) (o := .cells #[.bool a0_0, .slice A0_1 l0_1.length c0_1] 24 (0, 0)) (by (with_reducible repeat (first |  refine zKn ?_ _|  refine zKd ?_|  refine zKa ?_ _)); exact BK262.out)) : gb265 ≠ gb262)); replace BK262 := zMk (zKb (g := gb262) (o := .cells #[.bool a0_0, .slice A0_1 l0_1.length c0_1] 24 (0, 0)) (by (with_reducible repeat (first |  refine zKn ?_ _|  refine zKd ?_|  refine zKa ?_ _)); exact BK262.out) hb); have NB263_265 := zMk ((by rw [hg]; exact Nat.ne_of_lt (blk_lt (g := gb263) (o := .cells #[.bool a1_0, .slice A1_1 l1_1.length c1_1] 24 (0, 0)) (by (with_reducible repeat (first |  refine zKn ?_ _|  refine zKd ?_|  refine zKa ?_ _)); exact BK263.out)) : gb263 ≠ gb265)); have NB265_263 := zMk ((by rw [hg]; exact Nat.ne_of_gt (blk_lt (g := gb263) (o := .cells #[.bool a1_0, .slice A1_1 l1_1.length c1_1] 24 (0, 0)) (by (with_reducible repeat (first |  refine zKn ?_ _|  refine zKd ?_|  refine zKa ?_ _)); exact BK263.out)) : gb265 ≠ gb263)); replace BK263 := zMk (zKb (g := gb263) (o := .cells #[.bool a1_0, .slice A1_1 l1_1.length c1_1] 24 (0, 0)) (by (with_reducible repeat (first |  refine zKn ?_ _|  refine zKd ?_|  refine zKa ?_ _)); exact BK263.out) hb); have NB264_265 := zMk ((by rw [hg]; exact Nat.ne_of_lt (blk_lt (g := gb264) (o := .cells #[.bool false, .slice none 0 0] 24 (0, 0)) (by (with_reducible repeat (first |  refine zKn ?_ _|  refine zKd ?_|  refine zKa ?_ _)); exact BK264.out)) : gb264 ≠ gb265)); have NB265_264 := zMk ((by rw [hg]; exact Nat.ne_of_gt (blk_lt (g := gb264) (o := .cells #[.bool false, .slice none 0 0] 24 (0, 0)) (by (with_reducible repeat (first |  refine zKn ?_ _|  refine zKd ?_|  refine zKa ?_ _)); exact BK264.out)) : gb265 ≠ gb264)); replace BK264 := zMk (zKb (g := gb264) (o := .cells #[.bool false, .slice none 0 0] 24 (0, 0)) (by (with_reducible repeat (first |  refine zKn ?_ _|  refine zKd ?_|  refine zKa ?_ _)); exact BK264.out) hb); clear hb hbox hg; have hnb10 := NB262_263.out; have hnc10 := NB263_262.out; have hnb11 := NB262_264.out; have hnc11 := NB264_262.out; have hnb12 := NB262_265.out; have hnc12 := NB265_262.out; have hcz13_0 : w9.cell? ⟨gb262, 0, none⟩ = some (.bool a0_0) := (zKc BK262.out 0).trans rfl; have hcz13_1 : w9.cell? ⟨gb262, 1, none⟩ = some (.slice A0_1 l0_1.length c0_1) := (zKc BK262.out 1).trans rfl; have hfz13_0 := zKf BK262.out 0; have hfz13_1 := zKf BK262.out 1; have hnb14 := NB263_264.out; have hnc14 := NB264_263.out; have hnb15 := NB263_265.out; have hnc15 := NB265_263.out; have hcz16_0 : w9.cell? ⟨gb263, 0, none⟩ = some (.bool a1_0) := (zKc BK263.out 0).trans rfl; have hcz16_1 : w9.cell? ⟨gb263, 1, none⟩ = some (.slice A1_1 l1_1.length c1_1) := (zKc BK263.out 1).trans rfl; have hfz16_0 := zKf BK263.out 0; have hfz16_1 := zKf BK263.out 1)|((with_reducible refine gate_callee (f := 32) rfl ?_); refine goesL_ (some 14) rfl rfl Tryd.func32 (by kernel_rfl) rfl #[.slice A0_1 l0_1.length c0_1, .slice A1_1 l1_1.length c1_1] rfl (by (try simp only [zMa, zMc, zMn]); first |  done|  rfl|  (simp only [zLd, zLt]; rfl)) ?_; (with_reducible refine (n_DivMod.calls k (fun k_ => k_ < w.heap.size) _ _ l0_1 (fun k_ => k_ < w.heap.size) _ _ l1_1 t266 t269 t272 _ ?side1 ?side2 A3.out).mono ?_); (case side1 => exact Kd.V_mk HC0_1.out (Kd.F_below (Kd.C_F (Kd.heap_int .u32) HR0_1.out) (by exact uT HB.out))); (case side2 => exact Kd.V_mk HC1_1.out (Kd.F_below (Kd.C_F (Kd.heap_int .u32) HR1_1.out) (by exact uT HB.out))); rintro e w17 ⟨v267, v270, rfl, ho0, ho1, hb⟩; refine ⟨_, rfl, ?_⟩; have HO268 := zMk (zVl (zVm (ok' := fun k_ => k_ ≠ gb262 ∧ k_ ≠ gb263 ∧ k_ ≠ gb264 ∧ k_ ≠ gb265) ho0 (fun k_ hk_ => ⟨Or.elim hk_ (fun hs_ => Or.elim hs_ (fun hs_ => fun e_ => Nat.not_le.2 hs_ (by rw [e_]; exact GW262.out)) (fun hs_ => fun e_ => Nat.not_le.2 hs_ (by rw [e_]; exact GW262.out))) (fun hn_ => (Kd.freshB (g := gb262) (o := .cells #[.bool a0_0, .slice A0_1 l0_1.length c0_1] 24 (0, 0)) (by (with_reducible repeat (first |  refine zKn ?_ _|  refine zKd ?_|  refine zKa ?_ _)); exact BK262.out) k_ hn_)), Or.elim hk_ (fun hs_ => Or.elim hs_ (fun hs_ => fun e_ => Nat.not_le.2 hs_ (by rw [e_]; exact GW263.out)) (fun hs_ => fun e_ => Nat.not_le.2 hs_ (by rw [e_]; exact GW263.out))) (fun hn_ => (Kd.freshB (g := gb263) (o := .cells #[.bool a1_0, .slice A1_1 l1_1.length c1_1] 24 (0, 0)) (by (with_reducible repeat (first |  refine zKn ?_ _|  refine zKd ?_|  refine zKa ?_ _)); exact BK263.out) k_ hn_)), Or.elim hk_ (fun hs_ => Or.elim hs_ (fun hs_ => fun e_ => Nat.not_le.2 hs_ (by rw [e_]; exact GW264.out)) (fun hs_ => fun e_ => Nat.not_le.2 hs_ (by rw [e_]; exact GW264.out))) (fun hn_ => (Kd.freshB (g := gb264) (o := .cells #[.bool false, .slice none 0 0] 24 (0, 0)) (by (with_reducible repeat (first |  refine zKn ?_ _|  refine zKd ?_|  refine zKa ?_ _)); exact BK264.out) k_ hn_)), Or.elim hk_ (fun hs_ => Or.elim hs_ (fun hs_ => fun e_ => Nat.not_le.2 hs_ (by rw [e_]; exact GW265.out)) (fun hs_ => fun e_ => Nat.not_le.2 hs_ (by rw [e_]; exact GW265.out))) (fun hn_ => (Kd.freshB (g := gb265) (o := .cells #[.bool false, .slice none 0 0] 24 (0, 0)) (by (with_reducible repeat (first |  refine zKn ?_ _|  refine zKd ?_|  refine zKa ?_ _)); exact BK265.out) k_ hn_))⟩)) (zBs (by exact uT HB.out))); have HO271 := zMk (zVl (zVm (ok' := fun k_ => k_ ≠ gb262 ∧ k_ ≠ gb263 ∧ k_ ≠ gb264 ∧ k_ ≠ gb265) ho1 (fun k_ hk_ => ⟨Or.elim hk_ (fun hs_ => Or.elim hs_ (fun hs_ => fun e_ => Nat.not_le.2 hs_ (by rw [e_]; exact GW262.out)) (fun hs_ => fun e_ => Nat.not_le.2 hs_ (by rw [e_]; exact GW262.out))) (fun hn_ => (Kd.freshB (g := gb262) (o := .cells #[.bool a0_0, .slice A0_1 l0_1.length c0_1] 24 (0, 0)) (by (with_reducible repeat (first |  refine zKn ?_ _|  refine zKd ?_|  refine zKa ?_ _)); exact BK262.out) k_ hn_)), Or.elim hk_ (fun hs_ => Or.elim hs_ (fun hs_ => fun e_ => Nat.not_le.2 hs_ (by rw [e_]; exact GW263.out)) (fun hs_ => fun e_ => Nat.not_le.2 hs_ (by rw [e_]; exact GW263.out))) (fun hn_ => (Kd.freshB (g := gb263) (o := .cells #[.bool a1_0, .slice A1_1 l1_1.length c1_1] 24 (0, 0)) (by (with_reducible repeat (first |  refine zKn ?_ _|  refine zKd ?_|  refine zKa ?_ _)); exact BK263.out) k_ hn_)), Or.elim hk_ (fun hs_ => Or.elim hs_ (fun hs_ => fun e_ => Nat.not_le.2 hs_ (by rw [e_]; exact GW264.out)) (fun hs_ => fun e_ => Nat.not_le.2 hs_ (by rw [e_]; exact GW264.out))) (fun hn_ => (Kd.freshB (g := gb264) (o := .cells #[.bool false, .slice none 0 0] 24 (0, 0)) (by (with_reducible repeat (first |  refine zKn ?_ _|  refine zKd ?_|  refine zKa ?_ _)); exact BK264.out) k_ hn_)), Or.elim hk_ (fun hs_ => Or.elim hs_ (fun hs_ => fun e_ => Nat.not_le.2 hs_ (by rw [e_]; exact GW265.out)) (fun hs_ => fun e_ => Nat.not_le.2 hs_ (by rw [e_]; exact GW265.out))) (fun hn_ => (Kd.freshB (g := gb265) (o := .cells #[.bool false, .slice none 0 0] 24 (0, 0)) (by (with_reducible repeat (first |  refine zKn ?_ _|  refine zKd ?_|  refine zKa ?_ _)); exact BK265.out) k_ hn_))⟩)) (zBs (by exact uT HB.out))); replace BK262 := zMk (zKb (g := gb262) (o := .cells #[.bool a0_0, .slice A0_1 l0_1.length c0_1] 24 (0, 0)) (by (with_reducible repeat (first |  refine zKn ?_ _|  refine zKd ?_|  refine zKa ?_ _)); exact BK262.out) hb); replace BK263 := zMk (zKb (g := gb263) (o := .cells #[.bool a1_0, .slice A1_1 l1_1.length c1_1] 24 (0, 0)) (by (with_reducible repeat (first |  refine zKn ?_ _|  refine zKd ?_|  refine zKa ?_ _)); exact BK263.out) hb); replace BK264 := zMk (zKb (g := gb264) (o := .cells #[.bool false, .slice none 0 0] 24 (0, 0)) (by (with_reducible repeat (first |  refine zKn ?_ _|  refine zKd ?_|  refine zKa ?_ _)); exact BK264.out) hb); replace BK265 := zMk (zKb (g := gb265) (o := .cells #[.bool false, .slice none 0 0] 24 (0, 0)) (by (with_reducible repeat (first |  refine zKn ?_ _|  refine zKd ?_|  refine zKa ?_ _)); exact BK265.out) hb); replace HB := zMk (zBt (by exact uT HB.out) hb)))
    (try simp only [Act.put, zSa, zSb, zSc])
    go_cut [29] (fun v29 wc => ∃ (kq : Nat) (x29_4 : Bool), v29 = .bool x29_4 ∧ Aside0 (integer_DivMod.j0 kq t266 t269 x29_4 a0_0 l0_1 a1_0 l1_1 = some (r1, r2, r3, r4, r5)) ∧ Aside0 (kq ≤ k) ∧ Aside0 (Kd.V (Kd.int .u32) 58 wc w.heap.size (fun k_ => k_ ≠ gb262 ∧ k_ ≠ gb263 ∧ k_ ≠ gb264 ∧ k_ ≠ gb265) v267 t266) ∧ Aside0 (Kd.V (Kd.int .u32) 58 wc w.heap.size (fun k_ => k_ ≠ gb262 ∧ k_ ≠ gb263 ∧ k_ ≠ gb264 ∧ k_ ≠ gb265) v270 t269) ∧ Aside0 (wc.heap[gb262]? = some (.cells #[.bool a0_0, (.slice A0_1 l0_1.length c0_1)] 24 (0, 0))) ∧ Aside0 (wc.heap[gb263]? = some (.cells #[.bool a1_0, (.slice A1_1 l1_1.length c1_1)] 24 (0, 0))) ∧ Aside0 (wc.heap[gb264]? = some (.cells #[.bool false, (.slice none 0 0)] 24 (0, 0))) ∧ Aside0 (wc.heap[gb265]? = some (.cells #[.bool false, (.slice none 0 0)] 24 (0, 0))) ∧ Aside0 (Below w.heap.size w wc))
    case first =>
      have H := HC5.out
      clear HC5
      by_cases c18 : a0_0 = true
      · subst c18
        replace H : (integer_DivMod.j0 k t266 t269 (decide ((t269.length : Int) > 0)) true l0_1 a1_0 l1_1) = some (r1, r2, r3, r4, r5) := by rw [if_pos rfl] at H; exact H
        have H' := zMk H
        clear H
        have hnb19 := NB262_263.out
        have hnc19 := NB263_262.out
        have hnb20 := NB262_264.out
        have hnc20 := NB264_262.out
        have hnb21 := NB262_265.out
        have hnc21 := NB265_262.out
        have hcz22_0 : w17.cell? ⟨gb262, 0, none⟩ = some (.bool true) := (zKc BK262.out 0).trans rfl
        have hcz22_1 : w17.cell? ⟨gb262, 1, none⟩ = some (.slice A0_1 l0_1.length c0_1) := (zKc BK262.out 1).trans rfl
        have hfz22_0 := zKf BK262.out 0
        have hfz22_1 := zKf BK262.out 1
        obtain ⟨Ao23, co23, eo23⟩ := zVs HO271.out
        subst eo23
        go_wp2
        go_meet
        case rel => exact ⟨_, (decide ((t269.length : Int) > 0)), (by first | rfl | (simp; done) | (simp [*]; done)), H', ⟨by first | omega | exact Nat.le_refl _⟩, ⟨by exact uV HO268.out⟩, ⟨by exact uV HO271.out⟩, ⟨by (with_reducible repeat (first | refine zKn ?_ _ | refine zKd ?_ | refine zKa ?_ _)); exact BK262.out⟩, ⟨by (with_reducible repeat (first | refine zKn ?_ _ | refine zKd ?_ | refine zKa ?_ _)); exact BK263.out⟩, ⟨by (with_reducible repeat (first | refine zKn ?_ _ | refine zKd ?_ | refine zKa ?_ _)); exact BK264.out⟩, ⟨by (with_reducible repeat (first | refine zKn ?_ _ | refine zKd ?_ | refine zKa ?_ _)); exact BK265.out⟩, ⟨by exact uT HB.out⟩⟩
      · replace c18 := Bool.eq_false_iff.mpr c18
        subst c18
        replace H : (integer_DivMod.j0 k t266 t269 false false l0_1 a1_0 l1_1) = some (r1, r2, r3, r4, r5) := by rw [if_neg (show ¬ (false = true) by decide)] at H; exact H
        have H' := zMk H
        clear H
        have hnb24 := NB262_263.out
        have hnc24 := NB263_262.out
        have hnb25 := NB262_264.out
        have hnc25 := NB264_262.out
        have hnb26 := NB262_265.out
        have hnc26 := NB265_262.out
        have hcz27_0 : w17.cell? ⟨gb262, 0, none⟩ = some (.bool false) := (zKc BK262.out 0).trans rfl
        have hcz27_1 : w17.cell? ⟨gb262, 1, none⟩ = some (.slice A0_1 l0_1.length c0_1) := (zKc BK262.out 1).trans rfl
        have hfz27_0 := zKf BK262.out 0
        have hfz27_1 := zKf BK262.out 1
        go_wp2
        go_meet
        case rel => exact ⟨_, (false), (by first | rfl | (simp; done) | (simp [*]; done)), H', ⟨by first | omega | exact Nat.le_refl _⟩, ⟨by exact uV HO268.out⟩, ⟨by exact uV HO271.out⟩, ⟨by (with_reducible repeat (first | refine zKn ?_ _ | refine zKd ?_ | refine zKa ?_ _)); exact BK262.out⟩, ⟨by (with_reducible repeat (first | refine zKn ?_ _ | refine zKd ?_ | refine zKa ?_ _)); exact BK263.out⟩, ⟨by (with_reducible repeat (first | refine zKn ?_ _ | refine zKd ?_ | refine zKa ?_ _)); exact BK264.out⟩, ⟨by (with_reducible repeat (first | refine zKn ?_ _ | refine zKd ?_ | refine zKa ?_ _)); exact BK265.out⟩, ⟨by exact uT HB.out⟩⟩
    case rest =>
      clear HC5
      obtain ⟨kq, x29_4, rfl, HA, HJ4, HO_7, HO_8, BK262, BK263, BK264, BK265, HB⟩ := hcut
      rcases kq with _ | kj4
      · exact absurd HA.out (by simp [integer_DivMod.j0])
      have H := HA.out
      clear HA
      simp only [integer_DivMod.j0] at H
      by_cases c28 : x29_4 = true
      · subst c28
        replace H : ((n_Of.f 1).bind fun t273 => ((n_Add.f kj4 t266 t273).bind fun t276 => ((n_Sub.f kj4 l1_1 t269).bind fun bt279 => ((integer_signed.f (a0_0 != a1_0) t276).bind fun bt283 => ((integer_signed.f false bt279.1).bind fun bt287 => (some (bt283.1, bt283.2, bt287.1, bt287.2, 0))))))) = some (r1, r2, r3, r4, r5) := by rw [if_pos rfl] at H; exact H
        replace H := bnd H
        obtain ⟨t273, A290, H⟩ := H
        have A29 := zMk A290
        clear A290
        replace H := bnd H
        obtain ⟨t276, A300, H⟩ := H
        have A30 := zMk A300
        clear A300
        replace H := bnd H
        obtain ⟨⟨t279, t282⟩, A310, H⟩ := H
        replace H : ((integer_signed.f (a0_0 != a1_0) t276).bind fun bt283 => ((integer_signed.f false t279).bind fun bt287 => (some (bt283.1, bt283.2, bt287.1, bt287.2, 0)))) = some (r1, r2, r3, r4, r5) := H
        have A31 := zMk A310
        clear A310
        replace H := bnd H
        obtain ⟨⟨t283, t284⟩, A320, H⟩ := H
        replace H : ((integer_signed.f false t279).bind fun bt287 => (some (t283, t284, bt287.1, bt287.2, 0))) = some (r1, r2, r3, r4, r5) := H
        have A32 := zMk A320
        clear A320
        replace H := bnd H
        obtain ⟨⟨t287, t288⟩, A330, H⟩ := H
        replace H : (some (t283, t284, t287, t288, 0)) = some (r1, r2, r3, r4, r5) := H
        have A33 := zMk A330
        clear A330
        simp only [Option.some.injEq, Prod.mk.injEq] at H
        obtain ⟨rfl, rfl, rfl, rfl, rfl⟩ := H
        go_wp2_with (first | ((with_reducible refine gate_callee (f := 34) rfl ?_); refine goesL_ (some 31) rfl rfl Tryd.func34 (by kernel_rfl) rfl #[.int .u64 1] rfl (by (try simp only [zMa, zMc, zMn]); first |  done|  rfl|  (simp only [zLd, zLt]; rfl)) ?_; (with_reducible refine (n_Of.calls 1 t273 _ A29.out).mono ?_); rintro e w34 ⟨v274, rfl, ho0, hb⟩; refine ⟨_, rfl, ?_⟩; replace HO_7 := zMk (zVb (by exact uV HO_7.out) hb); replace HO_8 := zMk (zVb (by exact uV HO_8.out) hb); have HO275 := zMk (zVl (zVm (ok' := fun k_ => k_ ≠ gb262 ∧ k_ ≠ gb263 ∧ k_ ≠ gb264 ∧ k_ ≠ gb265) ho0 (fun k_ hk_ => ⟨(Kd.freshB (g := gb262) (o := .cells #[.bool a0_0, .slice A0_1 l0_1.length c0_1] 24 (0, 0)) (by (with_reducible repeat (first |  refine zKn ?_ _|  refine zKd ?_|  refine zKa ?_ _)); exact BK262.out) k_ hk_), (Kd.freshB (g := gb263) (o := .cells #[.bool a1_0, .slice A1_1 l1_1.length c1_1] 24 (0, 0)) (by (with_reducible repeat (first |  refine zKn ?_ _|  refine zKd ?_|  refine zKa ?_ _)); exact BK263.out) k_ hk_), (Kd.freshB (g := gb264) (o := .cells #[.bool false, .slice none 0 0] 24 (0, 0)) (by (with_reducible repeat (first |  refine zKn ?_ _|  refine zKd ?_|  refine zKa ?_ _)); exact BK264.out) k_ hk_), (Kd.freshB (g := gb265) (o := .cells #[.bool false, .slice none 0 0] 24 (0, 0)) (by (with_reducible repeat (first |  refine zKn ?_ _|  refine zKd ?_|  refine zKa ?_ _)); exact BK265.out) k_ hk_)⟩)) (zBs (by exact uT HB.out))); replace BK262 := zMk (zKb (g := gb262) (o := .cells #[.bool a0_0, .slice A0_1 l0_1.length c0_1] 24 (0, 0)) (by (with_reducible repeat (first |  refine zKn ?_ _|  refine zKd ?_|  refine zKa ?_ _)); exact BK262.out) hb); replace BK263 := zMk (zKb (g := gb263) (o := .cells #[.bool a1_0, .slice A1_1 l1_1.length c1_1] 24 (0, 0)) (by (with_reducible repeat (first |  refine zKn ?_ _|  refine zKd ?_|  refine zKa ?_ _)); exact BK263.out) hb); replace BK264 := zMk (zKb (g := gb264) (o := .cells #[.bool false, .slice none 0 0] 24 (0, 0)) (by (with_reducible repeat (first |  refine zKn ?_ _|  refine zKd ?_|  refine zKa ?_ _)); exact BK264.out) hb); replace BK265 := zMk (zKb (g := gb265) (o := .cells #[.bool false, .slice none 0 0] 24 (0, 0)) (by (with_reducible repeat (first |  refine zKn ?_ _|  refine zKd ?_|  refine zKa ?_ _)); exact BK265.out) hb); replace HB := zMk (zBt (by exact uT HB.out) hb); obtain ⟨Ao35, co35, eo35⟩ := zVs HO_7.out; subst eo35; obtain ⟨Ao36, co36, eo36⟩ := zVs HO275.out; subst eo36)|((with_reducible refine gate_callee (f := 33) rfl ?_); refine goesL_ (some 32) rfl rfl Tryd.func33 (by kernel_rfl) rfl #[.slice Ao35 t266.length co35, .slice Ao36 t273.length co36] rfl (by (try simp only [zMa, zMc, zMn]); first |  done|  rfl|  (simp only [zLd, zLt]; rfl)) ?_; (with_reducible refine (n_Add.calls kj4 (fun k_ => (k_ ≠ gb262 ∧ (k_ ≠ gb263 ∧ (k_ ≠ gb264 ∧ k_ ≠ gb265)))) _ _ t266 (fun k_ => (k_ ≠ gb262 ∧ (k_ ≠ gb263 ∧ (k_ ≠ gb264 ∧ k_ ≠ gb265)))) _ _ t273 t276 _ ?side1 ?side2 A30.out).mono ?_); (case side1 => exact HO_7.out); (case side2 => exact HO275.out); rintro e w37 ⟨v277, rfl, ho0, hb⟩; refine ⟨_, rfl, ?_⟩; replace HO_7 := zMk (zVb (by exact uV HO_7.out) hb); replace HO_8 := zMk (zVb (by exact uV HO_8.out) hb); replace HO275 := zMk (zVb (by exact uV HO275.out) hb); have HO278 := zMk (zVl (zVm (ok' := fun k_ => k_ ≠ gb262 ∧ k_ ≠ gb263 ∧ k_ ≠ gb264 ∧ k_ ≠ gb265) ho0 (fun k_ hk_ => ⟨Or.elim hk_ (fun hs_ => Or.elim hs_ (fun hs_ => hs_.1) (fun hs_ => hs_.1)) (fun hn_ => (Kd.freshB (g := gb262) (o := .cells #[.bool a0_0, .slice A0_1 l0_1.length c0_1] 24 (0, 0)) (by (with_reducible repeat (first |  refine zKn ?_ _|  refine zKd ?_|  refine zKa ?_ _)); exact BK262.out) k_ hn_)), Or.elim hk_ (fun hs_ => Or.elim hs_ (fun hs_ => hs_.2.1) (fun hs_ => hs_.2.1)) (fun hn_ => (Kd.freshB (g := gb263) (o := .cells #[.bool a1_0, .slice A1_1 l1_1.length c1_1] 24 (0, 0)) (by (with_reducible repeat (first |  refine zKn ?_ _|  refine zKd ?_|  refine zKa ?_ _)); exact BK263.out) k_ hn_)), Or.elim hk_ (fun hs_ => Or.elim hs_ (fun hs_ => hs_.2.2.1) (fun hs_ => hs_.2.2.1)) (fun hn_ => (Kd.freshB (g := gb264) (o := .cells #[.bool false, .slice none 0 0] 24 (0, 0)) (by (with_reducible repeat (first |  refine zKn ?_ _|  refine zKd ?_|  refine zKa ?_ _)); exact BK264.out) k_ hn_)), Or.elim hk_ (fun hs_ => Or.elim hs_ (fun hs_ => hs_.2.2.2) (fun hs_ => hs_.2.2.2)) (fun hn_ => (Kd.freshB (g := gb265) (o := .cells #[.bool false, .slice none 0 0] 24 (0, 0)) (by (with_reducible repeat (first |  refine zKn ?_ _|  refine zKd ?_|  refine zKa ?_ _)); exact BK265.out) k_ hn_))⟩)) (zBs (by exact uT HB.out))); replace BK262 := zMk (zKb (g := gb262) (o := .cells #[.bool a0_0, .slice A0_1 l0_1.length c0_1] 24 (0, 0)) (by (with_reducible repeat (first |  refine zKn ?_ _|  refine zKd ?_|  refine zKa ?_ _)); exact BK262.out) hb); replace BK263 := zMk (zKb (g := gb263) (o := .cells #[.bool a1_0, .slice A1_1 l1_1.length c1_1] 24 (0, 0)) (by (with_reducible repeat (first |  refine zKn ?_ _|  refine zKd ?_|  refine zKa ?_ _)); exact BK263.out) hb); replace BK264 := zMk (zKb (g := gb264) (o := .cells #[.bool false, .slice none 0 0] 24 (0, 0)) (by (with_reducible repeat (first |  refine zKn ?_ _|  refine zKd ?_|  refine zKa ?_ _)); exact BK264.out) hb); replace BK265 := zMk (zKb (g := gb265) (o := .cells #[.bool false, .slice none 0 0] 24 (0, 0)) (by (with_reducible repeat (first |  refine zKn ?_ _|  refine zKd ?_|  refine zKa ?_ _)); exact BK265.out) hb); replace HB := zMk (zBt (by exact uT HB.out) hb); have hnb38 := NB263_262.out; have hnc38 := NB262_263.out; have hnb39 := NB263_264.out; have hnc39 := NB264_263.out; have hnb40 := NB263_265.out; have hnc40 := NB265_263.out; have hcz41_0 : w37.cell? ⟨gb263, 0, none⟩ = some (.bool a1_0) := (zKc BK263.out 0).trans rfl; have hcz41_1 : w37.cell? ⟨gb263, 1, none⟩ = some (.slice A1_1 l1_1.length c1_1) := (zKc BK263.out 1).trans rfl; have hfz41_0 := zKf BK263.out 0; have hfz41_1 := zKf BK263.out 1; obtain ⟨Ao42, co42, eo42⟩ := zVs HO_8.out; subst eo42)|((with_reducible refine gate_callee (f := 35) rfl ?_); refine goesL_ (some 37) rfl rfl Tryd.func35 (by kernel_rfl) rfl #[.slice A1_1 l1_1.length c1_1, .slice Ao42 t269.length co42] rfl (by (try simp only [zMa, zMc, zMn]); first |  done|  rfl|  (simp only [zLd, zLt]; rfl)) ?_; (with_reducible refine (n_Sub.calls kj4 _ _ l1_1 (fun k_ => (k_ ≠ gb262 ∧ (k_ ≠ gb263 ∧ (k_ ≠ gb264 ∧ k_ ≠ gb265)))) _ _ t269 t279 t282 _ ?side1 ?side2 ?side3 A31.out).mono ?_); (case side1 => repeat (first |  exact (Kd.C_below HR1_1.out HB.out)|(with_reducible refine zCa ?_ _)|(with_reducible refine zCn ?_ _)|(with_reducible refine zCd ?_))); (case side2 => exact HC1_1.out); (case side3 => exact HO_8.out); rintro e w43 ⟨v280, rfl, ho0, hb⟩; refine ⟨_, rfl, ?_⟩; replace HO_7 := zMk (zVb (by exact uV HO_7.out) hb); replace HO_8 := zMk (zVb (by exact uV HO_8.out) hb); replace HO275 := zMk (zVb (by exact uV HO275.out) hb); replace HO278 := zMk (zVb (by exact uV HO278.out) hb); have HO281 := zMk (zVl (zVm (ok' := fun k_ => k_ ≠ gb262 ∧ k_ ≠ gb263 ∧ k_ ≠ gb264 ∧ k_ ≠ gb265) ho0 (fun k_ hk_ => ⟨Or.elim hk_ (fun hs_ => hs_.1) (fun hn_ => (Kd.freshB (g := gb262) (o := .cells #[.bool a0_0, .slice A0_1 l0_1.length c0_1] 24 (0, 0)) (by (with_reducible repeat (first |  refine zKn ?_ _|  refine zKd ?_|  refine zKa ?_ _)); exact BK262.out) k_ hn_)), Or.elim hk_ (fun hs_ => hs_.2.1) (fun hn_ => (Kd.freshB (g := gb263) (o := .cells #[.bool a1_0, .slice A1_1 l1_1.length c1_1] 24 (0, 0)) (by (with_reducible repeat (first |  refine zKn ?_ _|  refine zKd ?_|  refine zKa ?_ _)); exact BK263.out) k_ hn_)), Or.elim hk_ (fun hs_ => hs_.2.2.1) (fun hn_ => (Kd.freshB (g := gb264) (o := .cells #[.bool false, .slice none 0 0] 24 (0, 0)) (by (with_reducible repeat (first |  refine zKn ?_ _|  refine zKd ?_|  refine zKa ?_ _)); exact BK264.out) k_ hn_)), Or.elim hk_ (fun hs_ => hs_.2.2.2) (fun hn_ => (Kd.freshB (g := gb265) (o := .cells #[.bool false, .slice none 0 0] 24 (0, 0)) (by (with_reducible repeat (first |  refine zKn ?_ _|  refine zKd ?_|  refine zKa ?_ _)); exact BK265.out) k_ hn_))⟩)) (zBs (by exact uT HB.out))); replace BK262 := zMk (zKb (g := gb262) (o := .cells #[.bool a0_0, .slice A0_1 l0_1.length c0_1] 24 (0, 0)) (by (with_reducible repeat (first |  refine zKn ?_ _|  refine zKd ?_|  refine zKa ?_ _)); exact BK262.out) hb); replace BK263 := zMk (zKb (g := gb263) (o := .cells #[.bool a1_0, .slice A1_1 l1_1.length c1_1] 24 (0, 0)) (by (with_reducible repeat (first |  refine zKn ?_ _|  refine zKd ?_|  refine zKa ?_ _)); exact BK263.out) hb); replace BK264 := zMk (zKb (g := gb264) (o := .cells #[.bool false, .slice none 0 0] 24 (0, 0)) (by (with_reducible repeat (first |  refine zKn ?_ _|  refine zKd ?_|  refine zKa ?_ _)); exact BK264.out) hb); replace BK265 := zMk (zKb (g := gb265) (o := .cells #[.bool false, .slice none 0 0] 24 (0, 0)) (by (with_reducible repeat (first |  refine zKn ?_ _|  refine zKd ?_|  refine zKa ?_ _)); exact BK265.out) hb); replace HB := zMk (zBt (by exact uT HB.out) hb); have hnb44 := NB262_264.out; have hnc44 := NB264_262.out; have hnb45 := NB262_265.out; have hnc45 := NB265_262.out; have hcz46_0 : w43.cell? ⟨gb262, 0, none⟩ = some (.bool a0_0) := (zKc BK262.out 0).trans rfl; have hcz46_1 : w43.cell? ⟨gb262, 1, none⟩ = some (.slice A0_1 l0_1.length c0_1) := (zKc BK262.out 1).trans rfl; have hfz46_0 := zKf BK262.out 0; have hfz46_1 := zKf BK262.out 1; have hcz47_0 : w43.cell? ⟨gb263, 0, none⟩ = some (.bool a1_0) := (zKc BK263.out 0).trans rfl; have hcz47_1 : w43.cell? ⟨gb263, 1, none⟩ = some (.slice A1_1 l1_1.length c1_1) := (zKc BK263.out 1).trans rfl; have hfz47_0 := zKf BK263.out 0; have hfz47_1 := zKf BK263.out 1; obtain ⟨Ao48, co48, eo48⟩ := zVs HO278.out; subst eo48)|((with_reducible refine gate_callee (f := 36) rfl ?_); refine goesL_ (some 46) rfl rfl Tryd.func36 (by kernel_rfl) rfl #[.bool (a0_0 != a1_0), .slice Ao48 t276.length co48] rfl (by (try simp only [zMa, zMc, zMn]); first |  done|  rfl|  (simp only [zLd, zLt]; rfl)) ?_; (with_reducible refine (integer_signed.calls (a0_0 != a1_0) _ _ t276 t283 t284 _ ?side1 ?side2 A32.out).mono ?_); (case side1 => exact uC (zVr HO278.out).2.2); (case side2 => exact (zVr HO278.out).2.1); rintro e w49 ⟨v285, rfl, ho0, hb⟩; refine ⟨_, rfl, ?_⟩; replace HO_7 := zMk (zVe (by exact uV HO_7.out) (zRz ho0) hb); replace HO_8 := zMk (zVe (by exact uV HO_8.out) (zRz ho0) hb); replace HO275 := zMk (zVe (by exact uV HO275.out) (zRz ho0) hb); replace HO278 := zMk (zVe (by exact uV HO278.out) (zRz ho0) hb); replace HO281 := zMk (zVe (by exact uV HO281.out) (zRz ho0) hb); have HO286 := zMk (zRl ho0 (zBs (by exact uT HB.out))); replace BK262 := zMk (zKb (g := gb262) (o := .cells #[.bool a0_0, .slice A0_1 l0_1.length c0_1] 24 (0, 0)) (by (with_reducible repeat (first |  refine zKn ?_ _|  refine zKd ?_|  refine zKa ?_ _)); exact BK262.out) hb); replace BK263 := zMk (zKb (g := gb263) (o := .cells #[.bool a1_0, .slice A1_1 l1_1.length c1_1] 24 (0, 0)) (by (with_reducible repeat (first |  refine zKn ?_ _|  refine zKd ?_|  refine zKa ?_ _)); exact BK263.out) hb); replace BK264 := zMk (zKb (g := gb264) (o := .cells #[.bool false, .slice none 0 0] 24 (0, 0)) (by (with_reducible repeat (first |  refine zKn ?_ _|  refine zKd ?_|  refine zKa ?_ _)); exact BK264.out) hb); replace BK265 := zMk (zKb (g := gb265) (o := .cells #[.bool false, .slice none 0 0] 24 (0, 0)) (by (with_reducible repeat (first |  refine zKn ?_ _|  refine zKd ?_|  refine zKa ?_ _)); exact BK265.out) hb); replace HB := zMk (zBt (by exact uT HB.out) hb); obtain ⟨Ao50, co50, eo50⟩ := zVs HO281.out; subst eo50)|((with_reducible refine gate_callee (f := 36) rfl ?_); refine goesL_ (some 48) rfl rfl Tryd.func36 (by kernel_rfl) rfl #[.bool false, .slice Ao50 t279.length co50] rfl (by (try simp only [zMa, zMc, zMn]); first |  done|  rfl|  (simp only [zLd, zLt]; rfl)) ?_; (with_reducible refine (integer_signed.calls false _ _ t279 t287 t288 _ ?side1 ?side2 A33.out).mono ?_); (case side1 => exact uC (zVr HO281.out).2.2); (case side2 => exact (zVr HO281.out).2.1); rintro e w51 ⟨v289, rfl, ho0, hb⟩; refine ⟨_, rfl, ?_⟩; replace HO_7 := zMk (zVe (by exact uV HO_7.out) (zRz ho0) hb); replace HO_8 := zMk (zVe (by exact uV HO_8.out) (zRz ho0) hb); replace HO275 := zMk (zVe (by exact uV HO275.out) (zRz ho0) hb); replace HO278 := zMk (zVe (by exact uV HO278.out) (zRz ho0) hb); replace HO281 := zMk (zVe (by exact uV HO281.out) (zRz ho0) hb); have HO290 := zMk (zRl (zRw ho0 (zRt (by exact uR HO286.out))) (zBs (by exact uT HB.out))); replace HO286 := zMk (zRe (by exact uR HO286.out) (zRz ho0) hb); replace BK262 := zMk (zKb (g := gb262) (o := .cells #[.bool a0_0, .slice A0_1 l0_1.length c0_1] 24 (0, 0)) (by (with_reducible repeat (first |  refine zKn ?_ _|  refine zKd ?_|  refine zKa ?_ _)); exact BK262.out) hb); replace BK263 := zMk (zKb (g := gb263) (o := .cells #[.bool a1_0, .slice A1_1 l1_1.length c1_1] 24 (0, 0)) (by (with_reducible repeat (first |  refine zKn ?_ _|  refine zKd ?_|  refine zKa ?_ _)); exact BK263.out) hb); replace BK264 := zMk (zKb (g := gb264) (o := .cells #[.bool false, .slice none 0 0] 24 (0, 0)) (by (with_reducible repeat (first |  refine zKn ?_ _|  refine zKd ?_|  refine zKa ?_ _)); exact BK264.out) hb); replace BK265 := zMk (zKb (g := gb265) (o := .cells #[.bool false, .slice none 0 0] 24 (0, 0)) (by (with_reducible repeat (first |  refine zKn ?_ _|  refine zKd ?_|  refine zKa ?_ _)); exact BK265.out) hb); replace HB := zMk (zBt (by exact uT HB.out) hb); have hnb52 := NB264_265.out; have hnc52 := NB265_264.out; have hcz53_0 : w51.cell? ⟨gb264, 0, none⟩ = some (.bool false) := (zKc BK264.out 0).trans rfl; have hcz53_1 : w51.cell? ⟨gb264, 1, none⟩ = some (.slice none 0 0) := (zKc BK264.out 1).trans rfl; have hfz53_0 := zKf BK264.out 0; have hfz53_1 := zKf BK264.out 1; obtain ⟨Ao54, co54, eo54⟩ := zRs HO286.out; subst eo54; have hcz55_0 : w51.cell? ⟨gb265, 0, none⟩ = some (.bool false) := (zKc BK265.out 0).trans rfl; have hcz55_1 : w51.cell? ⟨gb265, 1, none⟩ = some (.slice none 0 0) := (zKc BK265.out 1).trans rfl; have hfz55_0 := zKf BK265.out 0; have hfz55_1 := zKf BK265.out 1; obtain ⟨Ao56, co56, eo56⟩ := zRs HO290.out; subst eo56))
        refine bodyPost_ret (results_list (rs := [.cell 4 24, .cell 5 24, .tmp 6]) rfl (by simp) (.cell gb264 24 #[.bool t283, .slice Ao54 t284.length co54] (0, 0) _ rfl (by (with_reducible repeat (first | refine zKn ?_ _ | refine zKd ?_ | refine zKa ?_ _)); refine blk_far ?_ NB264_265.out _; (with_reducible repeat (first | refine zKn ?_ _ | refine zKd ?_ | refine zKa ?_ _)); refine blk_far ?_ NB264_265.out _; (with_reducible repeat (first | refine zKn ?_ _ | refine zKd ?_ | refine zKa ?_ _)); refine blk_put (cs := #[.bool t283, .slice none 0 0]) ?_ 1 _ rfl; (with_reducible repeat (first | refine zKn ?_ _ | refine zKd ?_ | refine zKa ?_ _)); refine blk_put (cs := #[.bool false, .slice none 0 0]) ?_ 0 _ rfl; (with_reducible repeat (first | refine zKn ?_ _ | refine zKd ?_ | refine zKa ?_ _)); exact BK264.out) Tryd.underlying24 rfl (by kernel_rfl) (.cell gb265 24 #[.bool t287, .slice Ao56 t288.length co56] (0, 0) _ rfl (by (with_reducible repeat (first | refine zKn ?_ _ | refine zKd ?_ | refine zKa ?_ _)); refine blk_put (cs := #[.bool t287, .slice none 0 0]) ?_ 1 _ rfl; (with_reducible repeat (first | refine zKn ?_ _ | refine zKd ?_ | refine zKa ?_ _)); refine blk_put (cs := #[.bool false, .slice none 0 0]) ?_ 0 _ rfl; (with_reducible repeat (first | refine zKn ?_ _ | refine zKd ?_ | refine zKa ?_ _)); refine blk_far ?_ NB265_264.out _; (with_reducible repeat (first | refine zKn ?_ _ | refine zKd ?_ | refine zKa ?_ _)); refine blk_far ?_ NB265_264.out _; (with_reducible repeat (first | refine zKn ?_ _ | refine zKd ?_ | refine zKa ?_ _)); exact BK265.out) Tryd.underlying24 rfl (by kernel_rfl) (.tmp .nil)))) rfl ?_
        exact ⟨_, _, by first | rfl | (simp [errW_none, errW_some] <;> rfl) | (simp [*, errW_none, errW_some] <;> rfl), by (with_reducible repeat (first | apply zRa | apply zRn | apply zRd)); exact zRm (Kd.R_far (p := ⟨gb265, 1, none⟩) (Kd.R_far (p := ⟨gb265, 0, none⟩) (Kd.R_far (p := ⟨gb264, 1, none⟩) (Kd.R_far (p := ⟨gb264, 0, none⟩) (Kd.R_types (Kd.R_types HO286.out BK264.out (by decide)) BK265.out (by decide)) (fun _ hk => hk.1.2) (.bool t283)) (fun _ hk => hk.1.2) (.slice Ao54 t284.length co54)) (fun _ hk => hk.2) (.bool t287)) (fun _ hk => hk.2) (.slice Ao56 t288.length co56)) (fun _ hk => hk.1.1.2), by (with_reducible repeat (first | apply zRa | apply zRn | apply zRd)); exact zRm (Kd.R_far (p := ⟨gb265, 1, none⟩) (Kd.R_far (p := ⟨gb265, 0, none⟩) (Kd.R_far (p := ⟨gb264, 1, none⟩) (Kd.R_far (p := ⟨gb264, 0, none⟩) (Kd.R_types (Kd.R_types HO290.out BK264.out (by decide)) BK265.out (by decide)) (fun _ hk => hk.1.2) (.bool t283)) (fun _ hk => hk.1.2) (.slice Ao54 t284.length co54)) (fun _ hk => hk.2) (.bool t287)) (fun _ hk => hk.2) (.slice Ao56 t288.length co56)) (fun _ hk => hk.1.1.2), by exact uT HB.out⟩
      · replace c28 := Bool.eq_false_iff.mpr c28
        subst c28
        replace H : ((integer_signed.f (a0_0 != a1_0) t266).bind fun bt291 => ((integer_signed.f false t269).bind fun bt295 => (some (bt291.1, bt291.2, bt295.1, bt295.2, 0)))) = some (r1, r2, r3, r4, r5) := by rw [if_neg (show ¬ (false = true) by decide)] at H; exact H
        replace H := bnd H
        obtain ⟨⟨t291, t292⟩, A570, H⟩ := H
        replace H : ((integer_signed.f false t269).bind fun bt295 => (some (t291, t292, bt295.1, bt295.2, 0))) = some (r1, r2, r3, r4, r5) := H
        have A57 := zMk A570
        clear A570
        replace H := bnd H
        obtain ⟨⟨t295, t296⟩, A580, H⟩ := H
        replace H : (some (t291, t292, t295, t296, 0)) = some (r1, r2, r3, r4, r5) := H
        have A58 := zMk A580
        clear A580
        simp only [Option.some.injEq, Prod.mk.injEq] at H
        obtain ⟨rfl, rfl, rfl, rfl, rfl⟩ := H
        have hnb59 := NB262_263.out
        have hnc59 := NB263_262.out
        have hnb60 := NB262_264.out
        have hnc60 := NB264_262.out
        have hnb61 := NB262_265.out
        have hnc61 := NB265_262.out
        have hcz62_0 : wc.cell? ⟨gb262, 0, none⟩ = some (.bool a0_0) := (zKc BK262.out 0).trans rfl
        have hcz62_1 : wc.cell? ⟨gb262, 1, none⟩ = some (.slice A0_1 l0_1.length c0_1) := (zKc BK262.out 1).trans rfl
        have hfz62_0 := zKf BK262.out 0
        have hfz62_1 := zKf BK262.out 1
        have hnb63 := NB263_264.out
        have hnc63 := NB264_263.out
        have hnb64 := NB263_265.out
        have hnc64 := NB265_263.out
        have hcz65_0 : wc.cell? ⟨gb263, 0, none⟩ = some (.bool a1_0) := (zKc BK263.out 0).trans rfl
        have hcz65_1 : wc.cell? ⟨gb263, 1, none⟩ = some (.slice A1_1 l1_1.length c1_1) := (zKc BK263.out 1).trans rfl
        have hfz65_0 := zKf BK263.out 0
        have hfz65_1 := zKf BK263.out 1
        obtain ⟨Ao66, co66, eo66⟩ := zVs HO_7.out
        subst eo66
        go_wp2_with (first | ((with_reducible refine gate_callee (f := 36) rfl ?_); refine goesL_ (some 46) rfl rfl Tryd.func36 (by kernel_rfl) rfl #[.bool (a0_0 != a1_0), .slice Ao66 t266.length co66] rfl (by (try simp only [zMa, zMc, zMn]); first |  done|  rfl|  (simp only [zLd, zLt]; rfl)) ?_; (with_reducible refine (integer_signed.calls (a0_0 != a1_0) _ _ t266 t291 t292 _ ?side1 ?side2 A57.out).mono ?_); (case side1 => exact uC (zVr HO_7.out).2.2); (case side2 => exact (zVr HO_7.out).2.1); rintro e w67 ⟨v293, rfl, ho0, hb⟩; refine ⟨_, rfl, ?_⟩; replace HO_7 := zMk (zVe (by exact uV HO_7.out) (zRz ho0) hb); replace HO_8 := zMk (zVe (by exact uV HO_8.out) (zRz ho0) hb); have HO294 := zMk (zRl ho0 (zBs (by exact uT HB.out))); replace BK262 := zMk (zKb (g := gb262) (o := .cells #[.bool a0_0, .slice A0_1 l0_1.length c0_1] 24 (0, 0)) (by (with_reducible repeat (first |  refine zKn ?_ _|  refine zKd ?_|  refine zKa ?_ _)); exact BK262.out) hb); replace BK263 := zMk (zKb (g := gb263) (o := .cells #[.bool a1_0, .slice A1_1 l1_1.length c1_1] 24 (0, 0)) (by (with_reducible repeat (first |  refine zKn ?_ _|  refine zKd ?_|  refine zKa ?_ _)); exact BK263.out) hb); replace BK264 := zMk (zKb (g := gb264) (o := .cells #[.bool false, .slice none 0 0] 24 (0, 0)) (by (with_reducible repeat (first |  refine zKn ?_ _|  refine zKd ?_|  refine zKa ?_ _)); exact BK264.out) hb); replace BK265 := zMk (zKb (g := gb265) (o := .cells #[.bool false, .slice none 0 0] 24 (0, 0)) (by (with_reducible repeat (first |  refine zKn ?_ _|  refine zKd ?_|  refine zKa ?_ _)); exact BK265.out) hb); replace HB := zMk (zBt (by exact uT HB.out) hb); obtain ⟨Ao68, co68, eo68⟩ := zVs HO_8.out; subst eo68)|((with_reducible refine gate_callee (f := 36) rfl ?_); refine goesL_ (some 48) rfl rfl Tryd.func36 (by kernel_rfl) rfl #[.bool false, .slice Ao68 t269.length co68] rfl (by (try simp only [zMa, zMc, zMn]); first |  done|  rfl|  (simp only [zLd, zLt]; rfl)) ?_; (with_reducible refine (integer_signed.calls false _ _ t269 t295 t296 _ ?side1 ?side2 A58.out).mono ?_); (case side1 => exact uC (zVr HO_8.out).2.2); (case side2 => exact (zVr HO_8.out).2.1); rintro e w69 ⟨v297, rfl, ho0, hb⟩; refine ⟨_, rfl, ?_⟩; replace HO_7 := zMk (zVe (by exact uV HO_7.out) (zRz ho0) hb); replace HO_8 := zMk (zVe (by exact uV HO_8.out) (zRz ho0) hb); have HO298 := zMk (zRl (zRw ho0 (zRt (by exact uR HO294.out))) (zBs (by exact uT HB.out))); replace HO294 := zMk (zRe (by exact uR HO294.out) (zRz ho0) hb); replace BK262 := zMk (zKb (g := gb262) (o := .cells #[.bool a0_0, .slice A0_1 l0_1.length c0_1] 24 (0, 0)) (by (with_reducible repeat (first |  refine zKn ?_ _|  refine zKd ?_|  refine zKa ?_ _)); exact BK262.out) hb); replace BK263 := zMk (zKb (g := gb263) (o := .cells #[.bool a1_0, .slice A1_1 l1_1.length c1_1] 24 (0, 0)) (by (with_reducible repeat (first |  refine zKn ?_ _|  refine zKd ?_|  refine zKa ?_ _)); exact BK263.out) hb); replace BK264 := zMk (zKb (g := gb264) (o := .cells #[.bool false, .slice none 0 0] 24 (0, 0)) (by (with_reducible repeat (first |  refine zKn ?_ _|  refine zKd ?_|  refine zKa ?_ _)); exact BK264.out) hb); replace BK265 := zMk (zKb (g := gb265) (o := .cells #[.bool false, .slice none 0 0] 24 (0, 0)) (by (with_reducible repeat (first |  refine zKn ?_ _|  refine zKd ?_|  refine zKa ?_ _)); exact BK265.out) hb); replace HB := zMk (zBt (by exact uT HB.out) hb); have hnb70 := NB264_265.out; have hnc70 := NB265_264.out; have hcz71_0 : w69.cell? ⟨gb264, 0, none⟩ = some (.bool false) := (zKc BK264.out 0).trans rfl; have hcz71_1 : w69.cell? ⟨gb264, 1, none⟩ = some (.slice none 0 0) := (zKc BK264.out 1).trans rfl; have hfz71_0 := zKf BK264.out 0; have hfz71_1 := zKf BK264.out 1; obtain ⟨Ao72, co72, eo72⟩ := zRs HO294.out; subst eo72; have hcz73_0 : w69.cell? ⟨gb265, 0, none⟩ = some (.bool false) := (zKc BK265.out 0).trans rfl; have hcz73_1 : w69.cell? ⟨gb265, 1, none⟩ = some (.slice none 0 0) := (zKc BK265.out 1).trans rfl; have hfz73_0 := zKf BK265.out 0; have hfz73_1 := zKf BK265.out 1; obtain ⟨Ao74, co74, eo74⟩ := zRs HO298.out; subst eo74))
        refine bodyPost_ret (results_list (rs := [.cell 4 24, .cell 5 24, .tmp 6]) rfl (by simp) (.cell gb264 24 #[.bool t291, .slice Ao72 t292.length co72] (0, 0) _ rfl (by (with_reducible repeat (first | refine zKn ?_ _ | refine zKd ?_ | refine zKa ?_ _)); refine blk_far ?_ NB264_265.out _; (with_reducible repeat (first | refine zKn ?_ _ | refine zKd ?_ | refine zKa ?_ _)); refine blk_far ?_ NB264_265.out _; (with_reducible repeat (first | refine zKn ?_ _ | refine zKd ?_ | refine zKa ?_ _)); refine blk_put (cs := #[.bool t291, .slice none 0 0]) ?_ 1 _ rfl; (with_reducible repeat (first | refine zKn ?_ _ | refine zKd ?_ | refine zKa ?_ _)); refine blk_put (cs := #[.bool false, .slice none 0 0]) ?_ 0 _ rfl; (with_reducible repeat (first | refine zKn ?_ _ | refine zKd ?_ | refine zKa ?_ _)); exact BK264.out) Tryd.underlying24 rfl (by kernel_rfl) (.cell gb265 24 #[.bool t295, .slice Ao74 t296.length co74] (0, 0) _ rfl (by (with_reducible repeat (first | refine zKn ?_ _ | refine zKd ?_ | refine zKa ?_ _)); refine blk_put (cs := #[.bool t295, .slice none 0 0]) ?_ 1 _ rfl; (with_reducible repeat (first | refine zKn ?_ _ | refine zKd ?_ | refine zKa ?_ _)); refine blk_put (cs := #[.bool false, .slice none 0 0]) ?_ 0 _ rfl; (with_reducible repeat (first | refine zKn ?_ _ | refine zKd ?_ | refine zKa ?_ _)); refine blk_far ?_ NB265_264.out _; (with_reducible repeat (first | refine zKn ?_ _ | refine zKd ?_ | refine zKa ?_ _)); refine blk_far ?_ NB265_264.out _; (with_reducible repeat (first | refine zKn ?_ _ | refine zKd ?_ | refine zKa ?_ _)); exact BK265.out) Tryd.underlying24 rfl (by kernel_rfl) (.tmp .nil)))) rfl ?_
        exact ⟨_, _, by first | rfl | (simp [errW_none, errW_some] <;> rfl) | (simp [*, errW_none, errW_some] <;> rfl), by (with_reducible repeat (first | apply zRa | apply zRn | apply zRd)); exact zRm (Kd.R_far (p := ⟨gb265, 1, none⟩) (Kd.R_far (p := ⟨gb265, 0, none⟩) (Kd.R_far (p := ⟨gb264, 1, none⟩) (Kd.R_far (p := ⟨gb264, 0, none⟩) (Kd.R_types (Kd.R_types HO294.out BK264.out (by decide)) BK265.out (by decide)) (fun _ hk => hk.1.2) (.bool t291)) (fun _ hk => hk.1.2) (.slice Ao72 t292.length co72)) (fun _ hk => hk.2) (.bool t295)) (fun _ hk => hk.2) (.slice Ao74 t296.length co74)) (fun _ hk => hk.1.1.2), by (with_reducible repeat (first | apply zRa | apply zRn | apply zRd)); exact zRm (Kd.R_far (p := ⟨gb265, 1, none⟩) (Kd.R_far (p := ⟨gb265, 0, none⟩) (Kd.R_far (p := ⟨gb264, 1, none⟩) (Kd.R_far (p := ⟨gb264, 0, none⟩) (Kd.R_types (Kd.R_types HO298.out BK264.out (by decide)) BK265.out (by decide)) (fun _ hk => hk.1.2) (.bool t291)) (fun _ hk => hk.1.2) (.slice Ao72 t292.length co72)) (fun _ hk => hk.2) (.bool t295)) (fun _ hk => hk.2) (.slice Ao74 t296.length co74)) (fun _ hk => hk.1.1.2), by exact uT HB.out⟩
  · rw [if_neg c4] at H
    have c4b0 : (t272 == 0) = false := beq_eq_false_iff_ne.mpr c4
    have c4b1 : (t272 != 0) = true := bne_iff_ne.mpr c4
    simp only [Option.some.injEq, Prod.mk.injEq] at H
    obtain ⟨rfl, rfl, rfl, rfl, rfl⟩ := H
    go_enter Tryd.func12, Tryd.ntmps12
    go_wp2_with (first | ((with_reducible refine gate_dst (N := 2) rfl ?_); (try (refine gate_guard (by rfl) ?_; dsimp only)); refine box_event ?hg (N := 2) ?hd (cs := #[.bool a0_0, .slice A0_1 l0_1.length c0_1]) (t := 24) ?hr ?_; (case hd => rfl); (case hg => rfl); (case hr => first | (go_simp; done)|(go_simp; rfl)|(go_simp; rw [show ∀ x : Int, IntKind.u32.wrap (IntKind.u8.wrap x) = x % 256 from fun x => (by show (x % 256) % 4294967296 = x % 256; omega)])); intro gb262 hg w75 hbox hb; have BK262 := zMk (hbox); have GW262 := zMk ((by rw [hg]; exact (zBs (by exact uT HB.out)) : w.heap.size ≤ gb262)); have GE262 := zMk ((by rw [hg]; exact (zBs (by exact uT HB.out)) : w.heap.size ≤ gb262)); have IGE262 := ownGe GE262.out; replace HB := zMk (zBt (by exact uT HB.out) hb); clear hb hbox hg)|((with_reducible refine gate_dst (N := 3) rfl ?_); (try (refine gate_guard (by rfl) ?_; dsimp only)); refine box_event ?hg (N := 3) ?hd (cs := #[.bool a1_0, .slice A1_1 l1_1.length c1_1]) (t := 24) ?hr ?_; (case hd => rfl); (case hg => rfl); (case hr => first | (go_simp; done)|(go_simp; rfl)|(go_simp; rw [show ∀ x : Int, IntKind.u32.wrap (IntKind.u8.wrap x) = x % 256 from fun x => (by show (x % 256) % 4294967296 = x % 256; omega)])); intro gb263 hg w76 hbox hb; have BK263 := zMk (hbox); have GW263 := zMk ((by rw [hg]; exact (zBs (by exact uT HB.out)) : w.heap.size ≤ gb263)); have GE263 := zMk ((by rw [hg]; exact (zBs (by exact uT HB.out)) : w.heap.size ≤ gb263)); have IGE263 := ownGe GE263.out; replace HB := zMk (zBt (by exact uT HB.out) hb); have NB262_263 := zMk ((by rw [hg]; exact Nat.ne_of_lt (blk_lt (g := gb262) (o := .cells #[.bool a0_0, .slice A0_1 l0_1.length c0_1] 24 (0, 0)) (by (with_reducible repeat (first |  refine zKn ?_ _|  refine zKd ?_|  refine zKa ?_ _)); exact BK262.out)) : gb262 ≠ gb263)); have NB263_262 := zMk ((by rw [hg]; exact Nat.ne_of_gt (blk_lt (g := gb262) (o := .cells #[.bool a0_0, .slice A0_1 l0_1.length c0_1] 24 (0, 0)) (by (with_reducible repeat (first |  refine zKn ?_ _|  refine zKd ?_|  refine zKa ?_ _)); exact BK262.out)) : gb263 ≠ gb262)); replace BK262 := zMk (zKb (g := gb262) (o := .cells #[.bool a0_0, .slice A0_1 l0_1.length c0_1] 24 (0, 0)) (by (with_reducible repeat (first |  refine zKn ?_ _|  refine zKd ?_|  refine zKa ?_ _)); exact BK262.out) hb); clear hb hbox hg)|((with_reducible refine gate_dst (N := 4) rfl ?_); (try (refine gate_guard (by rfl) ?_; dsimp only)); refine box_event ?hg (N := 4) ?hd (cs := #[.bool false, .slice none 0 0]) (t := 24) ?hr ?_; (case hd => rfl); (case hg => rfl); (case hr => first | (go_simp; done)|(go_simp; rfl)|(go_simp; rw [show ∀ x : Int, IntKind.u32.wrap (IntKind.u8.wrap x) = x % 256 from fun x => (by show (x % 256) % 4294967296 = x % 256; omega)])); intro gb264 hg w77 hbox hb; have BK264 := zMk (hbox); have GW264 := zMk ((by rw [hg]; exact (zBs (by exact uT HB.out)) : w.heap.size ≤ gb264)); have GE264 := zMk ((by rw [hg]; exact (zBs (by exact uT HB.out)) : w.heap.size ≤ gb264)); have IGE264 := ownGe GE264.out; replace HB := zMk (zBt (by exact uT HB.out) hb); have NB262_264 := zMk ((by rw [hg]; exact Nat.ne_of_lt (blk_lt (g := gb262) (o := .cells #[.bool a0_0, .slice A0_1 l0_1.length c0_1] 24 (0, 0)) (by (with_reducible repeat (first |  refine zKn ?_ _|  refine zKd ?_|  refine zKa ?_ _)); exact BK262.out)) : gb262 ≠ gb264)); have NB264_262 := zMk ((by rw [hg]; exact Nat.ne_of_gt (blk_lt (g := gb262) (o := .cells #[.bool a0_0, .slice A0_1 l0_1.length c0_1] 24 (0, 0)) (by (with_reducible repeat (first |  refine zKn ?_ _|  refine zKd ?_|  refine zKa ?_ _)); exact BK262.out)) : gb264 ≠ gb262)); replace BK262 := zMk (zKb (g := gb262) (o := .cells #[.bool a0_0, .slice A0_1 l0_1.length c0_1] 24 (0, 0)) (by (with_reducible repeat (first |  refine zKn ?_ _|  refine zKd ?_|  refine zKa ?_ _)); exact BK262.out) hb); have NB263_264 := zMk ((by rw [hg]; exact Nat.ne_of_lt (blk_lt (g := gb263) (o := .cells #[.bool a1_0, .slice A1_1 l1_1.length c1_1] 24 (0, 0)) (by (with_reducible repeat (first |  refine zKn ?_ _|  refine zKd ?_|  refine zKa ?_ _)); exact BK263.out)) : gb263 ≠ gb264)); have NB264_263 := zMk ((by rw [hg]; exact Nat.ne_of_gt (blk_lt (g := gb263) (o := .cells #[.bool a1_0, .slice A1_1 l1_1.length c1_1] 24 (0, 0)) (by (with_reducible repeat (first |  refine zKn ?_ _|  refine zKd ?_|  refine zKa ?_ _)); exact BK263.out)) : gb264 ≠ gb263)); replace BK263 := zMk (zKb (g := gb263) (o := .cells #[.bool a1_0, .slice A1_1 l1_1.length c1_1] 24 (0, 0)) (by (with_reducible repeat (first |  refine zKn ?_ _|  refine zKd ?_|  refine zKa ?_ _)); exact BK263.out) hb); clear hb hbox hg)|((with_reducible refine gate_dst (N := 5) rfl ?_); (try (refine gate_guard (by rfl) ?_; dsimp only)); refine box_event ?hg (N := 5) ?hd (cs := #[.bool false, .slice none 0 0]) (t := 24) ?hr ?_; (case hd => rfl); (case hg => rfl); (case hr => first | (go_simp; done)|(go_simp; rfl)|(go_simp; rw [show ∀ x : Int, IntKind.u32.wrap (IntKind.u8.wrap x) = x % 256 from fun x => (by show (x % 256) % 4294967296 = x % 256; omega)])); intro gb265 hg w78 hbox hb; have BK265 := zMk (hbox); have GW265 := zMk ((by rw [hg]; exact (zBs (by exact uT HB.out)) : w.heap.size ≤ gb265)); have GE265 := zMk ((by rw [hg]; exact (zBs (by exact uT HB.out)) : w.heap.size ≤ gb265)); have IGE265 := ownGe GE265.out; replace HB := zMk (zBt (by exact uT HB.out) hb); have NB262_265 := zMk ((by rw [hg]; exact Nat.ne_of_lt (blk_lt (g := gb262) (o := .cells #[.bool a0_0, .slice A0_1 l0_1.length c0_1] 24 (0, 0)) (by (with_reducible repeat (first |  refine zKn ?_ _|  refine zKd ?_|  refine zKa ?_ _)); exact BK262.out)) : gb262 ≠ gb265)); have NB265_262 := zMk ((by rw [hg]; exact Nat.ne_of_gt (blk_lt (g := gb262) (o := .cells #[.bool a0_0, .slice A0_1 l0_1.length c0_1] 24 (0, 0)) (by (with_reducible repeat (first |  refine zKn ?_ _|  refine zKd ?_|  refine zKa ?_ _)); exact BK262.out)) : gb265 ≠ gb262)); replace BK262 := zMk (zKb (g := gb262) (o := .cells #[.bool a0_0, .slice A0_1 l0_1.length c0_1] 24 (0, 0)) (by (with_reducible repeat (first |  refine zKn ?_ _|  refine zKd ?_|  refine zKa ?_ _)); exact BK262.out) hb); have NB263_265 := zMk ((by rw [hg]; exact Nat.ne_of_lt (blk_lt (g := gb263) (o := .cells #[.bool a1_0, .slice A1_1 l1_1.length c1_1] 24 (0, 0)) (by (with_reducible repeat (first |  refine zKn ?_ _|  refine zKd ?_|  refine zKa ?_ _)); exact BK263.out)) : gb263 ≠ gb265)); have NB265_263 := zMk ((by rw [hg]; exact Nat.ne_of_gt (blk_lt (g := gb263) (o := .cells #[.bool a1_0, .slice A1_1 l1_1.length c1_1] 24 (0, 0)) (by (with_reducible repeat (first |  refine zKn ?_ _|  refine zKd ?_|  refine zKa ?_ _)); exact BK263.out)) : gb265 ≠ gb263)); replace BK263 := zMk (zKb (g := gb263) (o := .cells #[.bool a1_0, .slice A1_1 l1_1.length c1_1] 24 (0, 0)) (by (with_reducible repeat (first |  refine zKn ?_ _|  refine zKd ?_|  refine zKa ?_ _)); exact BK263.out) hb); have NB264_265 := zMk ((by rw [hg]; exact Nat.ne_of_lt (blk_lt (g := gb264) (o := .cells #[.bool false, .slice none 0 0] 24 (0, 0)) (by (with_reducible repeat (first |  refine zKn ?_ _|  refine zKd ?_|  refine zKa ?_ _)); exact BK264.out)) : gb264 ≠ gb265)); have NB265_264 := zMk ((by rw [hg]; exact Nat.ne_of_gt (blk_lt (g := gb264) (o := .cells #[.bool false, .slice none 0 0] 24 (0, 0)) (by (with_reducible repeat (first |  refine zKn ?_ _|  refine zKd ?_|  refine zKa ?_ _)); exact BK264.out)) : gb265 ≠ gb264)); replace BK264 := zMk (zKb (g := gb264) (o := .cells #[.bool false, .slice none 0 0] 24 (0, 0)) (by (with_reducible repeat (first |  refine zKn ?_ _|  refine zKd ?_|  refine zKa ?_ _)); exact BK264.out) hb); clear hb hbox hg; have hnb79 := NB262_263.out; have hnc79 := NB263_262.out; have hnb80 := NB262_264.out; have hnc80 := NB264_262.out; have hnb81 := NB262_265.out; have hnc81 := NB265_262.out; have hcz82_0 : w78.cell? ⟨gb262, 0, none⟩ = some (.bool a0_0) := (zKc BK262.out 0).trans rfl; have hcz82_1 : w78.cell? ⟨gb262, 1, none⟩ = some (.slice A0_1 l0_1.length c0_1) := (zKc BK262.out 1).trans rfl; have hfz82_0 := zKf BK262.out 0; have hfz82_1 := zKf BK262.out 1; have hnb83 := NB263_264.out; have hnc83 := NB264_263.out; have hnb84 := NB263_265.out; have hnc84 := NB265_263.out; have hcz85_0 : w78.cell? ⟨gb263, 0, none⟩ = some (.bool a1_0) := (zKc BK263.out 0).trans rfl; have hcz85_1 : w78.cell? ⟨gb263, 1, none⟩ = some (.slice A1_1 l1_1.length c1_1) := (zKc BK263.out 1).trans rfl; have hfz85_0 := zKf BK263.out 0; have hfz85_1 := zKf BK263.out 1)|((with_reducible refine gate_callee (f := 32) rfl ?_); refine goesL_ (some 14) rfl rfl Tryd.func32 (by kernel_rfl) rfl #[.slice A0_1 l0_1.length c0_1, .slice A1_1 l1_1.length c1_1] rfl (by (try simp only [zMa, zMc, zMn]); first |  done|  rfl|  (simp only [zLd, zLt]; rfl)) ?_; (with_reducible refine (n_DivMod.calls k (fun k_ => k_ < w.heap.size) _ _ l0_1 (fun k_ => k_ < w.heap.size) _ _ l1_1 t266 t269 t272 _ ?side1 ?side2 A3.out).mono ?_); (case side1 => exact Kd.V_mk HC0_1.out (Kd.F_below (Kd.C_F (Kd.heap_int .u32) HR0_1.out) (by exact uT HB.out))); (case side2 => exact Kd.V_mk HC1_1.out (Kd.F_below (Kd.C_F (Kd.heap_int .u32) HR1_1.out) (by exact uT HB.out))); rintro e w86 ⟨v267, v270, rfl, ho0, ho1, hb⟩; refine ⟨_, rfl, ?_⟩; have HO268 := zMk (zVl (zVm (ok' := fun k_ => k_ ≠ gb262 ∧ k_ ≠ gb263 ∧ k_ ≠ gb264 ∧ k_ ≠ gb265) ho0 (fun k_ hk_ => ⟨Or.elim hk_ (fun hs_ => Or.elim hs_ (fun hs_ => fun e_ => Nat.not_le.2 hs_ (by rw [e_]; exact GW262.out)) (fun hs_ => fun e_ => Nat.not_le.2 hs_ (by rw [e_]; exact GW262.out))) (fun hn_ => (Kd.freshB (g := gb262) (o := .cells #[.bool a0_0, .slice A0_1 l0_1.length c0_1] 24 (0, 0)) (by (with_reducible repeat (first |  refine zKn ?_ _|  refine zKd ?_|  refine zKa ?_ _)); exact BK262.out) k_ hn_)), Or.elim hk_ (fun hs_ => Or.elim hs_ (fun hs_ => fun e_ => Nat.not_le.2 hs_ (by rw [e_]; exact GW263.out)) (fun hs_ => fun e_ => Nat.not_le.2 hs_ (by rw [e_]; exact GW263.out))) (fun hn_ => (Kd.freshB (g := gb263) (o := .cells #[.bool a1_0, .slice A1_1 l1_1.length c1_1] 24 (0, 0)) (by (with_reducible repeat (first |  refine zKn ?_ _|  refine zKd ?_|  refine zKa ?_ _)); exact BK263.out) k_ hn_)), Or.elim hk_ (fun hs_ => Or.elim hs_ (fun hs_ => fun e_ => Nat.not_le.2 hs_ (by rw [e_]; exact GW264.out)) (fun hs_ => fun e_ => Nat.not_le.2 hs_ (by rw [e_]; exact GW264.out))) (fun hn_ => (Kd.freshB (g := gb264) (o := .cells #[.bool false, .slice none 0 0] 24 (0, 0)) (by (with_reducible repeat (first |  refine zKn ?_ _|  refine zKd ?_|  refine zKa ?_ _)); exact BK264.out) k_ hn_)), Or.elim hk_ (fun hs_ => Or.elim hs_ (fun hs_ => fun e_ => Nat.not_le.2 hs_ (by rw [e_]; exact GW265.out)) (fun hs_ => fun e_ => Nat.not_le.2 hs_ (by rw [e_]; exact GW265.out))) (fun hn_ => (Kd.freshB (g := gb265) (o := .cells #[.bool false, .slice none 0 0] 24 (0, 0)) (by (with_reducible repeat (first |  refine zKn ?_ _|  refine zKd ?_|  refine zKa ?_ _)); exact BK265.out) k_ hn_))⟩)) (zBs (by exact uT HB.out))); have HO271 := zMk (zVl (zVm (ok' := fun k_ => k_ ≠ gb262 ∧ k_ ≠ gb263 ∧ k_ ≠ gb264 ∧ k_ ≠ gb265) ho1 (fun k_ hk_ => ⟨Or.elim hk_ (fun hs_ => Or.elim hs_ (fun hs_ => fun e_ => Nat.not_le.2 hs_ (by rw [e_]; exact GW262.out)) (fun hs_ => fun e_ => Nat.not_le.2 hs_ (by rw [e_]; exact GW262.out))) (fun hn_ => (Kd.freshB (g := gb262) (o := .cells #[.bool a0_0, .slice A0_1 l0_1.length c0_1] 24 (0, 0)) (by (with_reducible repeat (first |  refine zKn ?_ _|  refine zKd ?_|  refine zKa ?_ _)); exact BK262.out) k_ hn_)), Or.elim hk_ (fun hs_ => Or.elim hs_ (fun hs_ => fun e_ => Nat.not_le.2 hs_ (by rw [e_]; exact GW263.out)) (fun hs_ => fun e_ => Nat.not_le.2 hs_ (by rw [e_]; exact GW263.out))) (fun hn_ => (Kd.freshB (g := gb263) (o := .cells #[.bool a1_0, .slice A1_1 l1_1.length c1_1] 24 (0, 0)) (by (with_reducible repeat (first |  refine zKn ?_ _|  refine zKd ?_|  refine zKa ?_ _)); exact BK263.out) k_ hn_)), Or.elim hk_ (fun hs_ => Or.elim hs_ (fun hs_ => fun e_ => Nat.not_le.2 hs_ (by rw [e_]; exact GW264.out)) (fun hs_ => fun e_ => Nat.not_le.2 hs_ (by rw [e_]; exact GW264.out))) (fun hn_ => (Kd.freshB (g := gb264) (o := .cells #[.bool false, .slice none 0 0] 24 (0, 0)) (by (with_reducible repeat (first |  refine zKn ?_ _|  refine zKd ?_|  refine zKa ?_ _)); exact BK264.out) k_ hn_)), Or.elim hk_ (fun hs_ => Or.elim hs_ (fun hs_ => fun e_ => Nat.not_le.2 hs_ (by rw [e_]; exact GW265.out)) (fun hs_ => fun e_ => Nat.not_le.2 hs_ (by rw [e_]; exact GW265.out))) (fun hn_ => (Kd.freshB (g := gb265) (o := .cells #[.bool false, .slice none 0 0] 24 (0, 0)) (by (with_reducible repeat (first |  refine zKn ?_ _|  refine zKd ?_|  refine zKa ?_ _)); exact BK265.out) k_ hn_))⟩)) (zBs (by exact uT HB.out))); replace BK262 := zMk (zKb (g := gb262) (o := .cells #[.bool a0_0, .slice A0_1 l0_1.length c0_1] 24 (0, 0)) (by (with_reducible repeat (first |  refine zKn ?_ _|  refine zKd ?_|  refine zKa ?_ _)); exact BK262.out) hb); replace BK263 := zMk (zKb (g := gb263) (o := .cells #[.bool a1_0, .slice A1_1 l1_1.length c1_1] 24 (0, 0)) (by (with_reducible repeat (first |  refine zKn ?_ _|  refine zKd ?_|  refine zKa ?_ _)); exact BK263.out) hb); replace BK264 := zMk (zKb (g := gb264) (o := .cells #[.bool false, .slice none 0 0] 24 (0, 0)) (by (with_reducible repeat (first |  refine zKn ?_ _|  refine zKd ?_|  refine zKa ?_ _)); exact BK264.out) hb); replace BK265 := zMk (zKb (g := gb265) (o := .cells #[.bool false, .slice none 0 0] 24 (0, 0)) (by (with_reducible repeat (first |  refine zKn ?_ _|  refine zKd ?_|  refine zKa ?_ _)); exact BK265.out) hb); replace HB := zMk (zBt (by exact uT HB.out) hb); have hnb87 := NB264_265.out; have hnc87 := NB265_264.out; have hcz88_0 : w86.cell? ⟨gb264, 0, none⟩ = some (.bool false) := (zKc BK264.out 0).trans rfl; have hcz88_1 : w86.cell? ⟨gb264, 1, none⟩ = some (.slice none 0 0) := (zKc BK264.out 1).trans rfl; have hfz88_0 := zKf BK264.out 0; have hfz88_1 := zKf BK264.out 1; have hcz89_0 : w86.cell? ⟨gb265, 0, none⟩ = some (.bool false) := (zKc BK265.out 0).trans rfl; have hcz89_1 : w86.cell? ⟨gb265, 1, none⟩ = some (.slice none 0 0) := (zKc BK265.out 1).trans rfl; have hfz89_0 := zKf BK265.out 0; have hfz89_1 := zKf BK265.out 1))
    refine bodyPost_ret (results_list (rs := [.cell 4 24, .cell 5 24, .tmp 6]) rfl (by simp) (.cell gb264 24 #[.bool false, .slice none 0 0] (0, 0) _ rfl (by (with_reducible repeat (first | refine zKn ?_ _ | refine zKd ?_ | refine zKa ?_ _)); refine blk_far ?_ NB264_265.out _; (with_reducible repeat (first | refine zKn ?_ _ | refine zKd ?_ | refine zKa ?_ _)); refine blk_far ?_ NB264_265.out _; (with_reducible repeat (first | refine zKn ?_ _ | refine zKd ?_ | refine zKa ?_ _)); refine blk_put (cs := #[.bool false, .slice none 0 0]) ?_ 1 _ rfl; (with_reducible repeat (first | refine zKn ?_ _ | refine zKd ?_ | refine zKa ?_ _)); refine blk_put (cs := #[.bool false, .slice none 0 0]) ?_ 0 _ rfl; (with_reducible repeat (first | refine zKn ?_ _ | refine zKd ?_ | refine zKa ?_ _)); exact BK264.out) Tryd.underlying24 rfl (by kernel_rfl) (.cell gb265 24 #[.bool false, .slice none 0 0] (0, 0) _ rfl (by (with_reducible repeat (first | refine zKn ?_ _ | refine zKd ?_ | refine zKa ?_ _)); refine blk_put (cs := #[.bool false, .slice none 0 0]) ?_ 1 _ rfl; (with_reducible repeat (first | refine zKn ?_ _ | refine zKd ?_ | refine zKa ?_ _)); refine blk_put (cs := #[.bool false, .slice none 0 0]) ?_ 0 _ rfl; (with_reducible repeat (first | refine zKn ?_ _ | refine zKd ?_ | refine zKa ?_ _)); refine blk_far ?_ NB265_264.out _; (with_reducible repeat (first | refine zKn ?_ _ | refine zKd ?_ | refine zKa ?_ _)); refine blk_far ?_ NB265_264.out _; (with_reducible repeat (first | refine zKn ?_ _ | refine zKd ?_ | refine zKa ?_ _)); exact BK265.out) Tryd.underlying24 rfl (by kernel_rfl) (.tmp .nil)))) rfl ?_
    exact ⟨_, _, by first | rfl | (simp [errW_none, errW_some] <;> rfl) | (simp [*, errW_none, errW_some] <;> rfl), by first | exact Kd.R_nil _ _ _ _ _ | exact Kd.N_nil _ _ _ _ _ | exact Kd.V_nil _ _ _ _ _ | exact Kd.Q_nil _ _ _ _ _ | exact Kd.S_nil _ _ _ _ _, by first | exact Kd.R_nil _ _ _ _ _ | exact Kd.N_nil _ _ _ _ _ | exact Kd.V_nil _ _ _ _ _ | exact Kd.Q_nil _ _ _ _ _ | exact Kd.S_nil _ _ _ _ _, by exact uT HB.out⟩


def integer_Exact.f (k : Nat) (a0_0 : Bool) (l0_1 : List Int) (a1_0 : Bool) (l1_1 : List Int) : Option (Bool × List Int × Int) := (integer_DivMod.f k a0_0 l0_1 a1_0 l1_1).bind fun bt302 => (if bt302.2.2.2.2 = 0 then (if (bt302.2.2.2.1.length : Int) > 0 then (some (false, ([] : List Int), 16)) else (some (bt302.1, bt302.2.1, 0))) else (some (false, ([] : List Int), bt302.2.2.2.2)))
theorem integer_Exact.calls (k : Nat) (a0_0 : Bool) (A0_1 : Option Addr) (c0_1 : Nat) (l0_1 : List Int) (a1_0 : Bool) (A1_1 : Option Addr) (c1_1 : Nat) (l1_1 : List Int) (r1 : Bool) (r2 : List Int) (r3 : Int) (w : World) (hr0_1 : Kd.C (Kd.int .u32) w A0_1 l0_1.length l0_1) (hc0_1 : l0_1.length ≤ c0_1) (hr1_1 : Kd.C (Kd.int .u32) w A1_1 l1_1.length l1_1) (hc1_1 : l1_1.length ≤ c1_1) (h : integer_Exact.f k a0_0 l0_1 a1_0 l1_1 = some (r1, r2, r3)) :
    Calls Tryd.prog 14 #[.agg #[.bool a0_0, .slice A0_1 l0_1.length c0_1], .agg #[.bool a1_0, .slice A1_1 l1_1.length c1_1]] w fun e w' => ∃ v1_ : Value, e = .returned (.tuple #[.agg #[.bool r1, v1_], .int .i64 r3]) ∧ Kd.R (Kd.int .u32) 58 w' w.heap.size (fun _ => True) v1_ r2 ∧ Below w.heap.size w w' := by
  have hu24 := Tryd.underlying24
  have HR0_1 := zMk hr0_1
  have HC0_1 := zMk hc0_1
  clear hr0_1 hc0_1
  have HR1_1 := zMk hr1_1
  have HC1_1 := zMk hc1_1
  clear hr1_1 hc1_1
  have HB := zMk (Below.refl w.heap.size w)
  have H : ((integer_DivMod.f k a0_0 l0_1 a1_0 l1_1).bind fun bt302 => (if bt302.2.2.2.2 = 0 then (if (bt302.2.2.2.1.length : Int) > 0 then (some (false, ([] : List Int), 16)) else (some (bt302.1, bt302.2.1, 0))) else (some (false, ([] : List Int), bt302.2.2.2.2)))) = some (r1, r2, r3) := h
  clear h
  replace H := bnd H
  obtain ⟨⟨t302, t303, t306, t307, t310⟩, A30, H⟩ := H
  replace H : (if t310 = 0 then (if (t307.length : Int) > 0 then (some (false, ([] : List Int), 16)) else (some (t302, t303, 0))) else (some (false, ([] : List Int), t310))) = some (r1, r2, r3) := H
  have A3 := zMk A30
  clear A30
  by_cases c4 : t310 = 0
  · rw [if_pos c4] at H
    have c4b0 : (t310 == 0) = true := beq_iff_eq.mpr c4
    have c4b1 : (t310 != 0) = false := bne_eq_false_iff_eq.mpr c4
    clear c4
    by_cases c5 : (t307.length : Int) > 0
    · rw [if_pos c5] at H
      have c5b0 : decide (0 < (t307.length : Int)) = true := decide_eq_true c5
      have c5b1 : decide (0 < t307.length) = true := decide_eq_true (by omega)
      clear c5
      simp only [Option.some.injEq, Prod.mk.injEq] at H
      obtain ⟨rfl, rfl, rfl⟩ := H
      go_enter Tryd.func14, Tryd.ntmps14
      go_wp2_with (first | ((with_reducible refine gate_dst (N := 2) rfl ?_); refine box_event ?hg (N := 2) ?hd (cs := #[.bool a0_0, .slice A0_1 l0_1.length c0_1]) (t := 24) ?hr ?_; (case hd => rfl); (case hg => rfl); (case hr => first | (go_simp; done)|(go_simp; rfl)|(go_simp; rw [show ∀ x : Int, IntKind.u32.wrap (IntKind.u8.wrap x) = x % 256 from fun x => (by show (x % 256) % 4294967296 = x % 256; omega)])); intro gb299 hg w6 hbox hb; have BK299 := zMk (hbox); have GW299 := zMk ((by rw [hg]; exact (zBs (by exact uT HB.out)) : w.heap.size ≤ gb299)); have GE299 := zMk ((by rw [hg]; exact (zBs (by exact uT HB.out)) : w.heap.size ≤ gb299)); have IGE299 := ownGe GE299.out; replace HB := zMk (zBt (by exact uT HB.out) hb); clear hb hbox hg)|((with_reducible refine gate_dst (N := 3) rfl ?_); refine box_event ?hg (N := 3) ?hd (cs := #[.bool a1_0, .slice A1_1 l1_1.length c1_1]) (t := 24) ?hr ?_; (case hd => rfl); (case hg => rfl); (case hr => first | (go_simp; done)|(go_simp; rfl)|(go_simp; rw [show ∀ x : Int, IntKind.u32.wrap (IntKind.u8.wrap x) = x % 256 from fun x => (by show (x % 256) % 4294967296 = x % 256; omega)])); intro gb300 hg w7 hbox hb; have BK300 := zMk (hbox); have GW300 := zMk ((by rw [hg]; exact (zBs (by exact uT HB.out)) : w.heap.size ≤ gb300)); have GE300 := zMk ((by rw [hg]; exact (zBs (by exact uT HB.out)) : w.heap.size ≤ gb300)); have IGE300 := ownGe GE300.out; replace HB := zMk (zBt (by exact uT HB.out) hb); have NB299_300 := zMk ((by rw [hg]; exact Nat.ne_of_lt (blk_lt (g := gb299) (o := .cells #[.bool a0_0, .slice A0_1 l0_1.length c0_1] 24 (0, 0)) (by (with_reducible repeat (first |  refine zKn ?_ _|  refine zKd ?_|  refine zKa ?_ _)); exact BK299.out)) : gb299 ≠ gb300)); have NB300_299 := zMk ((by rw [hg]; exact Nat.ne_of_gt (blk_lt (g := gb299) (o := .cells #[.bool a0_0, .slice A0_1 l0_1.length c0_1] 24 (0, 0)) (by (with_reducible repeat (first |  refine zKn ?_ _|  refine zKd ?_|  refine zKa ?_ _)); exact BK299.out)) : gb300 ≠ gb299)); replace BK299 := zMk (zKb (g := gb299) (o := .cells #[.bool a0_0, .slice A0_1 l0_1.length c0_1] 24 (0, 0)) (by (with_reducible repeat (first |  refine zKn ?_ _|  refine zKd ?_|  refine zKa ?_ _)); exact BK299.out) hb); clear hb hbox hg)|((with_reducible refine gate_dst (N := 4) rfl ?_); refine box_event ?hg (N := 4) ?hd (cs := #[.bool false, .slice none 0 0]) (t := 24) ?hr ?_; (case hd => rfl); (case hg => rfl); (case hr => first | (go_simp; done)|(go_simp; rfl)|(go_simp; rw [show ∀ x : Int, IntKind.u32.wrap (IntKind.u8.wrap x) = x % 256 from fun x => (by show (x % 256) % 4294967296 = x % 256; omega)])); intro gb301 hg w8 hbox hb; have BK301 := zMk (hbox); have GW301 := zMk ((by rw [hg]; exact (zBs (by exact uT HB.out)) : w.heap.size ≤ gb301)); have GE301 := zMk ((by rw [hg]; exact (zBs (by exact uT HB.out)) : w.heap.size ≤ gb301)); have IGE301 := ownGe GE301.out; replace HB := zMk (zBt (by exact uT HB.out) hb); have NB299_301 := zMk ((by rw [hg]; exact Nat.ne_of_lt (blk_lt (g := gb299) (o := .cells #[.bool a0_0, .slice A0_1 l0_1.length c0_1] 24 (0, 0)) (by (with_reducible repeat (first |  refine zKn ?_ _|  refine zKd ?_|  refine zKa ?_ _)); exact BK299.out)) : gb299 ≠ gb301)); have NB301_299 := zMk ((by rw [hg]; exact Nat.ne_of_gt (blk_lt (g := gb299) (o := .cells #[.bool a0_0, .slice A0_1 l0_1.length c0_1] 24 (0, 0)) (by (with_reducible repeat (first |  refine zKn ?_ _|  refine zKd ?_|  refine zKa ?_ _)); exact BK299.out)) : gb301 ≠ gb299)); replace BK299 := zMk (zKb (g := gb299) (o := .cells #[.bool a0_0, .slice A0_1 l0_1.length c0_1] 24 (0, 0)) (by (with_reducible repeat (first |  refine zKn ?_ _|  refine zKd ?_|  refine zKa ?_ _)); exact BK299.out) hb); have NB300_301 := zMk ((by rw [hg]; exact Nat.ne_of_lt (blk_lt (g := gb300) (o := .cells #[.bool a1_0, .slice A1_1 l1_1.length c1_1] 24 (0, 0)) (by (with_reducible repeat (first |  refine zKn ?_ _|  refine zKd ?_|  refine zKa ?_ _)); exact BK300.out)) : gb300 ≠ gb301)); have NB301_300 := zMk ((by rw [hg]; exact Nat.ne_of_gt (blk_lt (g := gb300) (o := .cells #[.bool a1_0, .slice A1_1 l1_1.length c1_1] 24 (0, 0)) (by (with_reducible repeat (first |  refine zKn ?_ _|  refine zKd ?_|  refine zKa ?_ _)); exact BK300.out)) : gb301 ≠ gb300)); replace BK300 := zMk (zKb (g := gb300) (o := .cells #[.bool a1_0, .slice A1_1 l1_1.length c1_1] 24 (0, 0)) (by (with_reducible repeat (first |  refine zKn ?_ _|  refine zKd ?_|  refine zKa ?_ _)); exact BK300.out) hb); clear hb hbox hg; have hnb9 := NB299_300.out; have hnc9 := NB300_299.out; have hnb10 := NB299_301.out; have hnc10 := NB301_299.out; have hcz11_0 : w8.cell? ⟨gb299, 0, none⟩ = some (.bool a0_0) := (zKc BK299.out 0).trans rfl; have hcz11_1 : w8.cell? ⟨gb299, 1, none⟩ = some (.slice A0_1 l0_1.length c0_1) := (zKc BK299.out 1).trans rfl; have hfz11_0 := zKf BK299.out 0; have hfz11_1 := zKf BK299.out 1; have hnb12 := NB300_301.out; have hnc12 := NB301_300.out; have hcz13_0 : w8.cell? ⟨gb300, 0, none⟩ = some (.bool a1_0) := (zKc BK300.out 0).trans rfl; have hcz13_1 : w8.cell? ⟨gb300, 1, none⟩ = some (.slice A1_1 l1_1.length c1_1) := (zKc BK300.out 1).trans rfl; have hfz13_0 := zKf BK300.out 0; have hfz13_1 := zKf BK300.out 1)|((with_reducible refine gate_callee (f := 12) rfl ?_); refine goesL_ (some 12) rfl rfl Tryd.func12 (by kernel_rfl) rfl #[.agg #[.bool a0_0, .slice A0_1 l0_1.length c0_1], .agg #[.bool a1_0, .slice A1_1 l1_1.length c1_1]] rfl (by (try simp only [zMa, zMc, zMn]); first |  done|  rfl|  (simp only [zLd, zLt]; rfl)) ?_; (with_reducible refine (integer_DivMod.calls k a0_0 _ _ l0_1 a1_0 _ _ l1_1 t302 t303 t306 t307 t310 _ ?side1 ?side2 ?side3 ?side4 A3.out).mono ?_); (case side1 => repeat (first |  exact (Kd.C_below HR0_1.out HB.out)|(with_reducible refine zCa ?_ _)|(with_reducible refine zCn ?_ _)|(with_reducible refine zCd ?_))); (case side2 => exact HC0_1.out); (case side3 => repeat (first |  exact (Kd.C_below HR1_1.out HB.out)|(with_reducible refine zCa ?_ _)|(with_reducible refine zCn ?_ _)|(with_reducible refine zCd ?_))); (case side4 => exact HC1_1.out); rintro e w14 ⟨v304, v308, rfl, ho0, ho1, hb⟩; refine ⟨_, rfl, ?_⟩; have HO305 := zMk (zRl ho0 (zBs (by exact uT HB.out))); have HO309 := zMk (zRl ho1 (zBs (by exact uT HB.out))); replace BK299 := zMk (zKb (g := gb299) (o := .cells #[.bool a0_0, .slice A0_1 l0_1.length c0_1] 24 (0, 0)) (by (with_reducible repeat (first |  refine zKn ?_ _|  refine zKd ?_|  refine zKa ?_ _)); exact BK299.out) hb); replace BK300 := zMk (zKb (g := gb300) (o := .cells #[.bool a1_0, .slice A1_1 l1_1.length c1_1] 24 (0, 0)) (by (with_reducible repeat (first |  refine zKn ?_ _|  refine zKd ?_|  refine zKa ?_ _)); exact BK300.out) hb); replace BK301 := zMk (zKb (g := gb301) (o := .cells #[.bool false, .slice none 0 0] 24 (0, 0)) (by (with_reducible repeat (first |  refine zKn ?_ _|  refine zKd ?_|  refine zKa ?_ _)); exact BK301.out) hb); replace HB := zMk (zBt (by exact uT HB.out) hb))|((with_reducible refine gate_dst (N := 6) rfl ?_); refine box_event ?hg (N := 6) ?hd (cs := #[.bool false, .slice none 0 0]) (t := 24) ?hr ?_; (case hd => rfl); (case hg => rfl); (case hr => first | (go_simp; done)|(go_simp; rfl)|(go_simp; rw [show ∀ x : Int, IntKind.u32.wrap (IntKind.u8.wrap x) = x % 256 from fun x => (by show (x % 256) % 4294967296 = x % 256; omega)])); intro gb311 hg w15 hbox hb; replace HO305 := zMk (zRb (by exact uR HO305.out) hb); replace HO309 := zMk (zRb (by exact uR HO309.out) hb); have BK311 := zMk (hbox); have GW311 := zMk ((by rw [hg]; exact (zBs (by exact uT HB.out)) : w.heap.size ≤ gb311)); have GE311 := zMk ((by rw [hg]; exact (zBs (by exact uT HB.out)) : w.heap.size ≤ gb311)); have IGE311 := ownGe GE311.out; replace HB := zMk (zBt (by exact uT HB.out) hb); have NB299_311 := zMk ((by rw [hg]; exact Nat.ne_of_lt (blk_lt (g := gb299) (o := .cells #[.bool a0_0, .slice A0_1 l0_1.length c0_1] 24 (0, 0)) (by (with_reducible repeat (first |  refine zKn ?_ _|  refine zKd ?_|  refine zKa ?_ _)); exact BK299.out)) : gb299 ≠ gb311)); have NB311_299 := zMk ((by rw [hg]; exact Nat.ne_of_gt (blk_lt (g := gb299) (o := .cells #[.bool a0_0, .slice A0_1 l0_1.length c0_1] 24 (0, 0)) (by (with_reducible repeat (first |  refine zKn ?_ _|  refine zKd ?_|  refine zKa ?_ _)); exact BK299.out)) : gb311 ≠ gb299)); replace BK299 := zMk (zKb (g := gb299) (o := .cells #[.bool a0_0, .slice A0_1 l0_1.length c0_1] 24 (0, 0)) (by (with_reducible repeat (first |  refine zKn ?_ _|  refine zKd ?_|  refine zKa ?_ _)); exact BK299.out) hb); have NB300_311 := zMk ((by rw [hg]; exact Nat.ne_of_lt (blk_lt (g := gb300) (o := .cells #[.bool a1_0, .slice A1_1 l1_1.length c1_1] 24 (0, 0)) (by (with_reducible repeat (first |  refine zKn ?_ _|  refine zKd ?_|  refine zKa ?_ _)); exact BK300.out)) : gb300 ≠ gb311)); have NB311_300 := zMk ((by rw [hg]; exact Nat.ne_of_gt (blk_lt (g := gb300) (o := .cells #[.bool a1_0, .slice A1_1 l1_1.length c1_1] 24 (0, 0)) (by (with_reducible repeat (first |  refine zKn ?_ _|  refine zKd ?_|  refine zKa ?_ _)); exact BK300.out)) : gb311 ≠ gb300)); replace BK300 := zMk (zKb (g := gb300) (o := .cells #[.bool a1_0, .slice A1_1 l1_1.length c1_1] 24 (0, 0)) (by (with_reducible repeat (first |  refine zKn ?_ _|  refine zKd ?_|  refine zKa ?_ _)); exact BK300.out) hb); have NB301_311 := zMk ((by rw [hg]; exact Nat.ne_of_lt (blk_lt (g := gb301) (o := .cells #[.bool false, .slice none 0 0] 24 (0, 0)) (by (with_reducible repeat (first |  refine zKn ?_ _|  refine zKd ?_|  refine zKa ?_ _)); exact BK301.out)) : gb301 ≠ gb311)); have NB311_301 := zMk ((by rw [hg]; exact Nat.ne_of_gt (blk_lt (g := gb301) (o := .cells #[.bool false, .slice none 0 0] 24 (0, 0)) (by (with_reducible repeat (first |  refine zKn ?_ _|  refine zKd ?_|  refine zKa ?_ _)); exact BK301.out)) : gb311 ≠ gb301)); replace BK301 := zMk (zKb (g := gb301) (o := .cells #[.bool false, .slice none 0 0] 24 (0, 0)) (by (with_reducible repeat (first |  refine zKn ?_ _|  refine zKd ?_|  refine zKa ?_ _)); exact BK301.out) hb); clear hb hbox hg)|((with_reducible refine gate_dst (N := 7) rfl ?_); refine box_event ?hg (N := 7) ?hd (cs := #[.bool false, .slice none 0 0]) (t := 24) ?hr ?_; (case hd => rfl); (case hg => rfl); (case hr => first | (go_simp; done)|(go_simp; rfl)|(go_simp; rw [show ∀ x : Int, IntKind.u32.wrap (IntKind.u8.wrap x) = x % 256 from fun x => (by show (x % 256) % 4294967296 = x % 256; omega)])); intro gb312 hg w16 hbox hb; replace HO305 := zMk (zRb (by exact uR HO305.out) hb); replace HO309 := zMk (zRb (by exact uR HO309.out) hb); have BK312 := zMk (hbox); have GW312 := zMk ((by rw [hg]; exact (zBs (by exact uT HB.out)) : w.heap.size ≤ gb312)); have GE312 := zMk ((by rw [hg]; exact (zBs (by exact uT HB.out)) : w.heap.size ≤ gb312)); have IGE312 := ownGe GE312.out; replace HB := zMk (zBt (by exact uT HB.out) hb); have NB299_312 := zMk ((by rw [hg]; exact Nat.ne_of_lt (blk_lt (g := gb299) (o := .cells #[.bool a0_0, .slice A0_1 l0_1.length c0_1] 24 (0, 0)) (by (with_reducible repeat (first |  refine zKn ?_ _|  refine zKd ?_|  refine zKa ?_ _)); exact BK299.out)) : gb299 ≠ gb312)); have NB312_299 := zMk ((by rw [hg]; exact Nat.ne_of_gt (blk_lt (g := gb299) (o := .cells #[.bool a0_0, .slice A0_1 l0_1.length c0_1] 24 (0, 0)) (by (with_reducible repeat (first |  refine zKn ?_ _|  refine zKd ?_|  refine zKa ?_ _)); exact BK299.out)) : gb312 ≠ gb299)); replace BK299 := zMk (zKb (g := gb299) (o := .cells #[.bool a0_0, .slice A0_1 l0_1.length c0_1] 24 (0, 0)) (by (with_reducible repeat (first |  refine zKn ?_ _|  refine zKd ?_|  refine zKa ?_ _)); exact BK299.out) hb); have NB300_312 := zMk ((by rw [hg]; exact Nat.ne_of_lt (blk_lt (g := gb300) (o := .cells #[.bool a1_0, .slice A1_1 l1_1.length c1_1] 24 (0, 0)) (by (with_reducible repeat (first |  refine zKn ?_ _|  refine zKd ?_|  refine zKa ?_ _)); exact BK300.out)) : gb300 ≠ gb312)); have NB312_300 := zMk ((by rw [hg]; exact Nat.ne_of_gt (blk_lt (g := gb300) (o := .cells #[.bool a1_0, .slice A1_1 l1_1.length c1_1] 24 (0, 0)) (by (with_reducible repeat (first |  refine zKn ?_ _|  refine zKd ?_|  refine zKa ?_ _)); exact BK300.out)) : gb312 ≠ gb300)); replace BK300 := zMk (zKb (g := gb300) (o := .cells #[.bool a1_0, .slice A1_1 l1_1.length c1_1] 24 (0, 0)) (by (with_reducible repeat (first |  refine zKn ?_ _|  refine zKd ?_|  refine zKa ?_ _)); exact BK300.out) hb); have NB301_312 := zMk ((by rw [hg]; exact Nat.ne_of_lt (blk_lt (g := gb301) (o := .cells #[.bool false, .slice none 0 0] 24 (0, 0)) (by (with_reducible repeat (first |  refine zKn ?_ _|  refine zKd ?_|  refine zKa ?_ _)); exact BK301.out)) : gb301 ≠ gb312)); have NB312_301 := zMk ((by rw [hg]; exact Nat.ne_of_gt (blk_lt (g := gb301) (o := .cells #[.bool false, .slice none 0 0] 24 (0, 0)) (by (with_reducible repeat (first |  refine zKn ?_ _|  refine zKd ?_|  refine zKa ?_ _)); exact BK301.out)) : gb312 ≠ gb301)); replace BK301 := zMk (zKb (g := gb301) (o := .cells #[.bool false, .slice none 0 0] 24 (0, 0)) (by (with_reducible repeat (first |  refine zKn ?_ _|  refine zKd ?_|  refine zKa ?_ _)); exact BK301.out) hb); have NB311_312 := zMk ((by rw [hg]; exact Nat.ne_of_lt (blk_lt (g := gb311) (o := .cells #[.bool false, .slice none 0 0] 24 (0, 0)) (by (with_reducible repeat (first |  refine zKn ?_ _|  refine zKd ?_|  refine zKa ?_ _)); exact BK311.out)) : gb311 ≠ gb312)); have NB312_311 := zMk ((by rw [hg]; exact Nat.ne_of_gt (blk_lt (g := gb311) (o := .cells #[.bool false, .slice none 0 0] 24 (0, 0)) (by (with_reducible repeat (first |  refine zKn ?_ _|  refine zKd ?_|  refine zKa ?_ _)); exact BK311.out)) : gb312 ≠ gb311)); replace BK311 := zMk (zKb (g := gb311) (o := .cells #[.bool false, .slice none 0 0] 24 (0, 0)) (by (with_reducible repeat (first |  refine zKn ?_ _|  refine zKd ?_|  refine zKa ?_ _)); exact BK311.out) hb); clear hb hbox hg; have hnb17 := NB311_299.out; have hnc17 := NB299_311.out; have hnb18 := NB311_300.out; have hnc18 := NB300_311.out; have hnb19 := NB311_301.out; have hnc19 := NB301_311.out; have hnb20 := NB311_312.out; have hnc20 := NB312_311.out; have hcz21_0 : w16.cell? ⟨gb311, 0, none⟩ = some (.bool false) := (zKc BK311.out 0).trans rfl; have hcz21_1 : w16.cell? ⟨gb311, 1, none⟩ = some (.slice none 0 0) := (zKc BK311.out 1).trans rfl; have hfz21_0 := zKf BK311.out 0; have hfz21_1 := zKf BK311.out 1; obtain ⟨Ao22, co22, eo22⟩ := zRs HO305.out; subst eo22; have hnb23 := NB312_299.out; have hnc23 := NB299_312.out; have hnb24 := NB312_300.out; have hnc24 := NB300_312.out; have hnb25 := NB312_301.out; have hnc25 := NB301_312.out; have hcz26_0 : w16.cell? ⟨gb312, 0, none⟩ = some (.bool false) := (zKc BK312.out 0).trans rfl; have hcz26_1 : w16.cell? ⟨gb312, 1, none⟩ = some (.slice none 0 0) := (zKc BK312.out 1).trans rfl; have hfz26_0 := zKf BK312.out 0; have hfz26_1 := zKf BK312.out 1; obtain ⟨Ao27, co27, eo27⟩ := zRs HO309.out; subst eo27; have hcz28_0 : w16.cell? ⟨gb301, 0, none⟩ = some (.bool false) := (zKc BK301.out 0).trans rfl; have hcz28_1 : w16.cell? ⟨gb301, 1, none⟩ = some (.slice none 0 0) := (zKc BK301.out 1).trans rfl; have hfz28_0 := zKf BK301.out 0; have hfz28_1 := zKf BK301.out 1))
      refine bodyPost_ret (results_ct rfl _ _ gb301 24 #[.bool false, .slice none 0 0] (0, 0) _ rfl (by (with_reducible repeat (first | refine zKn ?_ _ | refine zKd ?_ | refine zKa ?_ _)); refine blk_put (cs := #[.bool false, .slice none 0 0]) ?_ 1 _ rfl; (with_reducible repeat (first | refine zKn ?_ _ | refine zKd ?_ | refine zKa ?_ _)); refine blk_put (cs := #[.bool false, .slice none 0 0]) ?_ 0 _ rfl; (with_reducible repeat (first | refine zKn ?_ _ | refine zKd ?_ | refine zKa ?_ _)); refine blk_far ?_ NB301_312.out _; (with_reducible repeat (first | refine zKn ?_ _ | refine zKd ?_ | refine zKa ?_ _)); refine blk_far ?_ NB301_312.out _; (with_reducible repeat (first | refine zKn ?_ _ | refine zKd ?_ | refine zKa ?_ _)); refine blk_far ?_ NB301_311.out _; (with_reducible repeat (first | refine zKn ?_ _ | refine zKd ?_ | refine zKa ?_ _)); refine blk_far ?_ NB301_311.out _; (with_reducible repeat (first | refine zKn ?_ _ | refine zKd ?_ | refine zKa ?_ _)); exact BK301.out) Tryd.underlying24 rfl (by kernel_rfl)) rfl ?_
      exact ⟨_, by first | rfl | (simp [errW_none, errW_some] <;> rfl) | (simp [*, errW_none, errW_some] <;> rfl), by first | exact Kd.R_nil _ _ _ _ _ | exact Kd.N_nil _ _ _ _ _ | exact Kd.V_nil _ _ _ _ _ | exact Kd.Q_nil _ _ _ _ _ | exact Kd.S_nil _ _ _ _ _, by exact uT HB.out⟩
    · rw [if_neg c5] at H
      have c5b0 : decide (0 < (t307.length : Int)) = false := decide_eq_false c5
      have c5b1 : decide (0 < t307.length) = false := decide_eq_false (by omega)
      clear c5
      simp only [Option.some.injEq, Prod.mk.injEq] at H
      obtain ⟨rfl, rfl, rfl⟩ := H
      go_enter Tryd.func14, Tryd.ntmps14
      go_wp2_with (first | ((with_reducible refine gate_dst (N := 2) rfl ?_); refine box_event ?hg (N := 2) ?hd (cs := #[.bool a0_0, .slice A0_1 l0_1.length c0_1]) (t := 24) ?hr ?_; (case hd => rfl); (case hg => rfl); (case hr => first | (go_simp; done)|(go_simp; rfl)|(go_simp; rw [show ∀ x : Int, IntKind.u32.wrap (IntKind.u8.wrap x) = x % 256 from fun x => (by show (x % 256) % 4294967296 = x % 256; omega)])); intro gb299 hg w29 hbox hb; have BK299 := zMk (hbox); have GW299 := zMk ((by rw [hg]; exact (zBs (by exact uT HB.out)) : w.heap.size ≤ gb299)); have GE299 := zMk ((by rw [hg]; exact (zBs (by exact uT HB.out)) : w.heap.size ≤ gb299)); have IGE299 := ownGe GE299.out; replace HB := zMk (zBt (by exact uT HB.out) hb); clear hb hbox hg)|((with_reducible refine gate_dst (N := 3) rfl ?_); refine box_event ?hg (N := 3) ?hd (cs := #[.bool a1_0, .slice A1_1 l1_1.length c1_1]) (t := 24) ?hr ?_; (case hd => rfl); (case hg => rfl); (case hr => first | (go_simp; done)|(go_simp; rfl)|(go_simp; rw [show ∀ x : Int, IntKind.u32.wrap (IntKind.u8.wrap x) = x % 256 from fun x => (by show (x % 256) % 4294967296 = x % 256; omega)])); intro gb300 hg w30 hbox hb; have BK300 := zMk (hbox); have GW300 := zMk ((by rw [hg]; exact (zBs (by exact uT HB.out)) : w.heap.size ≤ gb300)); have GE300 := zMk ((by rw [hg]; exact (zBs (by exact uT HB.out)) : w.heap.size ≤ gb300)); have IGE300 := ownGe GE300.out; replace HB := zMk (zBt (by exact uT HB.out) hb); have NB299_300 := zMk ((by rw [hg]; exact Nat.ne_of_lt (blk_lt (g := gb299) (o := .cells #[.bool a0_0, .slice A0_1 l0_1.length c0_1] 24 (0, 0)) (by (with_reducible repeat (first |  refine zKn ?_ _|  refine zKd ?_|  refine zKa ?_ _)); exact BK299.out)) : gb299 ≠ gb300)); have NB300_299 := zMk ((by rw [hg]; exact Nat.ne_of_gt (blk_lt (g := gb299) (o := .cells #[.bool a0_0, .slice A0_1 l0_1.length c0_1] 24 (0, 0)) (by (with_reducible repeat (first |  refine zKn ?_ _|  refine zKd ?_|  refine zKa ?_ _)); exact BK299.out)) : gb300 ≠ gb299)); replace BK299 := zMk (zKb (g := gb299) (o := .cells #[.bool a0_0, .slice A0_1 l0_1.length c0_1] 24 (0, 0)) (by (with_reducible repeat (first |  refine zKn ?_ _|  refine zKd ?_|  refine zKa ?_ _)); exact BK299.out) hb); clear hb hbox hg)|((with_reducible refine gate_dst (N := 4) rfl ?_); refine box_event ?hg (N := 4) ?hd (cs := #[.bool false, .slice none 0 0]) (t := 24) ?hr ?_; (case hd => rfl); (case hg => rfl); (case hr => first | (go_simp; done)|(go_simp; rfl)|(go_simp; rw [show ∀ x : Int, IntKind.u32.wrap (IntKind.u8.wrap x) = x % 256 from fun x => (by show (x % 256) % 4294967296 = x % 256; omega)])); intro gb301 hg w31 hbox hb; have BK301 := zMk (hbox); have GW301 := zMk ((by rw [hg]; exact (zBs (by exact uT HB.out)) : w.heap.size ≤ gb301)); have GE301 := zMk ((by rw [hg]; exact (zBs (by exact uT HB.out)) : w.heap.size ≤ gb301)); have IGE301 := ownGe GE301.out; replace HB := zMk (zBt (by exact uT HB.out) hb); have NB299_301 := zMk ((by rw [hg]; exact Nat.ne_of_lt (blk_lt (g := gb299) (o := .cells #[.bool a0_0, .slice A0_1 l0_1.length c0_1] 24 (0, 0)) (by (with_reducible repeat (first |  refine zKn ?_ _|  refine zKd ?_|  refine zKa ?_ _)); exact BK299.out)) : gb299 ≠ gb301)); have NB301_299 := zMk ((by rw [hg]; exact Nat.ne_of_gt (blk_lt (g := gb299) (o := .cells #[.bool a0_0, .slice A0_1 l0_1.length c0_1] 24 (0, 0)) (by (with_reducible repeat (first |  refine zKn ?_ _|  refine zKd ?_|  refine zKa ?_ _)); exact BK299.out)) : gb301 ≠ gb299)); replace BK299 := zMk (zKb (g := gb299) (o := .cells #[.bool a0_0, .slice A0_1 l0_1.length c0_1] 24 (0, 0)) (by (with_reducible repeat (first |  refine zKn ?_ _|  refine zKd ?_|  refine zKa ?_ _)); exact BK299.out) hb); have NB300_301 := zMk ((by rw [hg]; exact Nat.ne_of_lt (blk_lt (g := gb300) (o := .cells #[.bool a1_0, .slice A1_1 l1_1.length c1_1] 24 (0, 0)) (by (with_reducible repeat (first |  refine zKn ?_ _|  refine zKd ?_|  refine zKa ?_ _)); exact BK300.out)) : gb300 ≠ gb301)); have NB301_300 := zMk ((by rw [hg]; exact Nat.ne_of_gt (blk_lt (g := gb300) (o := .cells #[.bool a1_0, .slice A1_1 l1_1.length c1_1] 24 (0, 0)) (by (with_reducible repeat (first |  refine zKn ?_ _|  refine zKd ?_|  refine zKa ?_ _)); exact BK300.out)) : gb301 ≠ gb300)); replace BK300 := zMk (zKb (g := gb300) (o := .cells #[.bool a1_0, .slice A1_1 l1_1.length c1_1] 24 (0, 0)) (by (with_reducible repeat (first |  refine zKn ?_ _|  refine zKd ?_|  refine zKa ?_ _)); exact BK300.out) hb); clear hb hbox hg; have hnb32 := NB299_300.out; have hnc32 := NB300_299.out; have hnb33 := NB299_301.out; have hnc33 := NB301_299.out; have hcz34_0 : w31.cell? ⟨gb299, 0, none⟩ = some (.bool a0_0) := (zKc BK299.out 0).trans rfl; have hcz34_1 : w31.cell? ⟨gb299, 1, none⟩ = some (.slice A0_1 l0_1.length c0_1) := (zKc BK299.out 1).trans rfl; have hfz34_0 := zKf BK299.out 0; have hfz34_1 := zKf BK299.out 1; have hnb35 := NB300_301.out; have hnc35 := NB301_300.out; have hcz36_0 : w31.cell? ⟨gb300, 0, none⟩ = some (.bool a1_0) := (zKc BK300.out 0).trans rfl; have hcz36_1 : w31.cell? ⟨gb300, 1, none⟩ = some (.slice A1_1 l1_1.length c1_1) := (zKc BK300.out 1).trans rfl; have hfz36_0 := zKf BK300.out 0; have hfz36_1 := zKf BK300.out 1)|((with_reducible refine gate_callee (f := 12) rfl ?_); refine goesL_ (some 12) rfl rfl Tryd.func12 (by kernel_rfl) rfl #[.agg #[.bool a0_0, .slice A0_1 l0_1.length c0_1], .agg #[.bool a1_0, .slice A1_1 l1_1.length c1_1]] rfl (by (try simp only [zMa, zMc, zMn]); first |  done|  rfl|  (simp only [zLd, zLt]; rfl)) ?_; (with_reducible refine (integer_DivMod.calls k a0_0 _ _ l0_1 a1_0 _ _ l1_1 t302 t303 t306 t307 t310 _ ?side1 ?side2 ?side3 ?side4 A3.out).mono ?_); (case side1 => repeat (first |  exact (Kd.C_below HR0_1.out HB.out)|(with_reducible refine zCa ?_ _)|(with_reducible refine zCn ?_ _)|(with_reducible refine zCd ?_))); (case side2 => exact HC0_1.out); (case side3 => repeat (first |  exact (Kd.C_below HR1_1.out HB.out)|(with_reducible refine zCa ?_ _)|(with_reducible refine zCn ?_ _)|(with_reducible refine zCd ?_))); (case side4 => exact HC1_1.out); rintro e w37 ⟨v304, v308, rfl, ho0, ho1, hb⟩; refine ⟨_, rfl, ?_⟩; have HO305 := zMk (zRl ho0 (zBs (by exact uT HB.out))); have HO309 := zMk (zRl ho1 (zBs (by exact uT HB.out))); replace BK299 := zMk (zKb (g := gb299) (o := .cells #[.bool a0_0, .slice A0_1 l0_1.length c0_1] 24 (0, 0)) (by (with_reducible repeat (first |  refine zKn ?_ _|  refine zKd ?_|  refine zKa ?_ _)); exact BK299.out) hb); replace BK300 := zMk (zKb (g := gb300) (o := .cells #[.bool a1_0, .slice A1_1 l1_1.length c1_1] 24 (0, 0)) (by (with_reducible repeat (first |  refine zKn ?_ _|  refine zKd ?_|  refine zKa ?_ _)); exact BK300.out) hb); replace BK301 := zMk (zKb (g := gb301) (o := .cells #[.bool false, .slice none 0 0] 24 (0, 0)) (by (with_reducible repeat (first |  refine zKn ?_ _|  refine zKd ?_|  refine zKa ?_ _)); exact BK301.out) hb); replace HB := zMk (zBt (by exact uT HB.out) hb))|((with_reducible refine gate_dst (N := 6) rfl ?_); refine box_event ?hg (N := 6) ?hd (cs := #[.bool false, .slice none 0 0]) (t := 24) ?hr ?_; (case hd => rfl); (case hg => rfl); (case hr => first | (go_simp; done)|(go_simp; rfl)|(go_simp; rw [show ∀ x : Int, IntKind.u32.wrap (IntKind.u8.wrap x) = x % 256 from fun x => (by show (x % 256) % 4294967296 = x % 256; omega)])); intro gb311 hg w38 hbox hb; replace HO305 := zMk (zRb (by exact uR HO305.out) hb); replace HO309 := zMk (zRb (by exact uR HO309.out) hb); have BK311 := zMk (hbox); have GW311 := zMk ((by rw [hg]; exact (zBs (by exact uT HB.out)) : w.heap.size ≤ gb311)); have GE311 := zMk ((by rw [hg]; exact (zBs (by exact uT HB.out)) : w.heap.size ≤ gb311)); have IGE311 := ownGe GE311.out; replace HB := zMk (zBt (by exact uT HB.out) hb); have NB299_311 := zMk ((by rw [hg]; exact Nat.ne_of_lt (blk_lt (g := gb299) (o := .cells #[.bool a0_0, .slice A0_1 l0_1.length c0_1] 24 (0, 0)) (by (with_reducible repeat (first |  refine zKn ?_ _|  refine zKd ?_|  refine zKa ?_ _)); exact BK299.out)) : gb299 ≠ gb311)); have NB311_299 := zMk ((by rw [hg]; exact Nat.ne_of_gt (blk_lt (g := gb299) (o := .cells #[.bool a0_0, .slice A0_1 l0_1.length c0_1] 24 (0, 0)) (by (with_reducible repeat (first |  refine zKn ?_ _|  refine zKd ?_|  refine zKa ?_ _)); exact BK299.out)) : gb311 ≠ gb299)); replace BK299 := zMk (zKb (g := gb299) (o := .cells #[.bool a0_0, .slice A0_1 l0_1.length c0_1] 24 (0, 0)) (by (with_reducible repeat (first |  refine zKn ?_ _|  refine zKd ?_|  refine zKa ?_ _)); exact BK299.out) hb); have NB300_311 := zMk ((by rw [hg]; exact Nat.ne_of_lt (blk_lt (g := gb300) (o := .cells #[.bool a1_0, .slice A1_1 l1_1.length c1_1] 24 (0, 0)) (by (with_reducible repeat (first |  refine zKn ?_ _|  refine zKd ?_|  refine zKa ?_ _)); exact BK300.out)) : gb300 ≠ gb311)); have NB311_300 := zMk ((by rw [hg]; exact Nat.ne_of_gt (blk_lt (g := gb300) (o := .cells #[.bool a1_0, .slice A1_1 l1_1.length c1_1] 24 (0, 0)) (by (with_reducible repeat (first |  refine zKn ?_ _|  refine zKd ?_|  refine zKa ?_ _)); exact BK300.out)) : gb311 ≠ gb300)); replace BK300 := zMk (zKb (g := gb300) (o := .cells #[.bool a1_0, .slice A1_1 l1_1.length c1_1] 24 (0, 0)) (by (with_reducible repeat (first |  refine zKn ?_ _|  refine zKd ?_|  refine zKa ?_ _)); exact BK300.out) hb); have NB301_311 := zMk ((by rw [hg]; exact Nat.ne_of_lt (blk_lt (g := gb301) (o := .cells #[.bool false, .slice none 0 0] 24 (0, 0)) (by (with_reducible repeat (first |  refine zKn ?_ _|  refine zKd ?_|  refine zKa ?_ _)); exact BK301.out)) : gb301 ≠ gb311)); have NB311_301 := zMk ((by rw [hg]; exact Nat.ne_of_gt (blk_lt (g := gb301) (o := .cells #[.bool false, .slice none 0 0] 24 (0, 0)) (by (with_reducible repeat (first |  refine zKn ?_ _|  refine zKd ?_|  refine zKa ?_ _)); exact BK301.out)) : gb311 ≠ gb301)); replace BK301 := zMk (zKb (g := gb301) (o := .cells #[.bool false, .slice none 0 0] 24 (0, 0)) (by (with_reducible repeat (first |  refine zKn ?_ _|  refine zKd ?_|  refine zKa ?_ _)); exact BK301.out) hb); clear hb hbox hg)|((with_reducible refine gate_dst (N := 7) rfl ?_); refine box_event ?hg (N := 7) ?hd (cs := #[.bool false, .slice none 0 0]) (t := 24) ?hr ?_; (case hd => rfl); (case hg => rfl); (case hr => first | (go_simp; done)|(go_simp; rfl)|(go_simp; rw [show ∀ x : Int, IntKind.u32.wrap (IntKind.u8.wrap x) = x % 256 from fun x => (by show (x % 256) % 4294967296 = x % 256; omega)])); intro gb312 hg w39 hbox hb; replace HO305 := zMk (zRb (by exact uR HO305.out) hb); replace HO309 := zMk (zRb (by exact uR HO309.out) hb); have BK312 := zMk (hbox); have GW312 := zMk ((by rw [hg]; exact (zBs (by exact uT HB.out)) : w.heap.size ≤ gb312)); have GE312 := zMk ((by rw [hg]; exact (zBs (by exact uT HB.out)) : w.heap.size ≤ gb312)); have IGE312 := ownGe GE312.out; replace HB := zMk (zBt (by exact uT HB.out) hb); have NB299_312 := zMk ((by rw [hg]; exact Nat.ne_of_lt (blk_lt (g := gb299) (o := .cells #[.bool a0_0, .slice A0_1 l0_1.length c0_1] 24 (0, 0)) (by (with_reducible repeat (first |  refine zKn ?_ _|  refine zKd ?_|  refine zKa ?_ _)); exact BK299.out)) : gb299 ≠ gb312)); have NB312_299 := zMk ((by rw [hg]; exact Nat.ne_of_gt (blk_lt (g := gb299) (o := .cells #[.bool a0_0, .slice A0_1 l0_1.length c0_1] 24 (0, 0)) (by (with_reducible repeat (first |  refine zKn ?_ _|  refine zKd ?_|  refine zKa ?_ _)); exact BK299.out)) : gb312 ≠ gb299)); replace BK299 := zMk (zKb (g := gb299) (o := .cells #[.bool a0_0, .slice A0_1 l0_1.length c0_1] 24 (0, 0)) (by (with_reducible repeat (first |  refine zKn ?_ _|  refine zKd ?_|  refine zKa ?_ _)); exact BK299.out) hb); have NB300_312 := zMk ((by rw [hg]; exact Nat.ne_of_lt (blk_lt (g := gb300) (o := .cells #[.bool a1_0, .slice A1_1 l1_1.length c1_1] 24 (0, 0)) (by (with_reducible repeat (first |  refine zKn ?_ _|  refine zKd ?_|  refine zKa ?_ _)); exact BK300.out)) : gb300 ≠ gb312)); have NB312_300 := zMk ((by rw [hg]; exact Nat.ne_of_gt (blk_lt (g := gb300) (o := .cells #[.bool a1_0, .slice A1_1 l1_1.length c1_1] 24 (0, 0)) (by (with_reducible repeat (first |  refine zKn ?_ _|  refine zKd ?_|  refine zKa ?_ _)); exact BK300.out)) : gb312 ≠ gb300)); replace BK300 := zMk (zKb (g := gb300) (o := .cells #[.bool a1_0, .slice A1_1 l1_1.length c1_1] 24 (0, 0)) (by (with_reducible repeat (first |  refine zKn ?_ _|  refine zKd ?_|  refine zKa ?_ _)); exact BK300.out) hb); have NB301_312 := zMk ((by rw [hg]; exact Nat.ne_of_lt (blk_lt (g := gb301) (o := .cells #[.bool false, .slice none 0 0] 24 (0, 0)) (by (with_reducible repeat (first |  refine zKn ?_ _|  refine zKd ?_|  refine zKa ?_ _)); exact BK301.out)) : gb301 ≠ gb312)); have NB312_301 := zMk ((by rw [hg]; exact Nat.ne_of_gt (blk_lt (g := gb301) (o := .cells #[.bool false, .slice none 0 0] 24 (0, 0)) (by (with_reducible repeat (first |  refine zKn ?_ _|  refine zKd ?_|  refine zKa ?_ _)); exact BK301.out)) : gb312 ≠ gb301)); replace BK301 := zMk (zKb (g := gb301) (o := .cells #[.bool false, .slice none 0 0] 24 (0, 0)) (by (with_reducible repeat (first |  refine zKn ?_ _|  refine zKd ?_|  refine zKa ?_ _)); exact BK301.out) hb); have NB311_312 := zMk ((by rw [hg]; exact Nat.ne_of_lt (blk_lt (g := gb311) (o := .cells #[.bool false, .slice none 0 0] 24 (0, 0)) (by (with_reducible repeat (first |  refine zKn ?_ _|  refine zKd ?_|  refine zKa ?_ _)); exact BK311.out)) : gb311 ≠ gb312)); have NB312_311 := zMk ((by rw [hg]; exact Nat.ne_of_gt (blk_lt (g := gb311) (o := .cells #[.bool false, .slice none 0 0] 24 (0, 0)) (by (with_reducible repeat (first |  refine zKn ?_ _|  refine zKd ?_|  refine zKa ?_ _)); exact BK311.out)) : gb312 ≠ gb311)); replace BK311 := zMk (zKb (g := gb311) (o := .cells #[.bool false, .slice none 0 0] 24 (0, 0)) (by (with_reducible repeat (first |  refine zKn ?_ _|  refine zKd ?_|  refine zKa ?_ _)); exact BK311.out) hb); clear hb hbox hg; have hnb40 := NB311_299.out; have hnc40 := NB299_311.out; have hnb41 := NB311_300.out; have hnc41 := NB300_311.out; have hnb42 := NB311_301.out; have hnc42 := NB301_311.out; have hnb43 := NB311_312.out; have hnc43 := NB312_311.out; have hcz44_0 : w39.cell? ⟨gb311, 0, none⟩ = some (.bool false) := (zKc BK311.out 0).trans rfl; have hcz44_1 : w39.cell? ⟨gb311, 1, none⟩ = some (.slice none 0 0) := (zKc BK311.out 1).trans rfl; have hfz44_0 := zKf BK311.out 0; have hfz44_1 := zKf BK311.out 1; obtain ⟨Ao45, co45, eo45⟩ := zRs HO305.out; subst eo45; have hnb46 := NB312_299.out; have hnc46 := NB299_312.out; have hnb47 := NB312_300.out; have hnc47 := NB300_312.out; have hnb48 := NB312_301.out; have hnc48 := NB301_312.out; have hcz49_0 : w39.cell? ⟨gb312, 0, none⟩ = some (.bool false) := (zKc BK312.out 0).trans rfl; have hcz49_1 : w39.cell? ⟨gb312, 1, none⟩ = some (.slice none 0 0) := (zKc BK312.out 1).trans rfl; have hfz49_0 := zKf BK312.out 0; have hfz49_1 := zKf BK312.out 1; obtain ⟨Ao50, co50, eo50⟩ := zRs HO309.out; subst eo50; have hcz51_0 : w39.cell? ⟨gb301, 0, none⟩ = some (.bool false) := (zKc BK301.out 0).trans rfl; have hcz51_1 : w39.cell? ⟨gb301, 1, none⟩ = some (.slice none 0 0) := (zKc BK301.out 1).trans rfl; have hfz51_0 := zKf BK301.out 0; have hfz51_1 := zKf BK301.out 1))
      refine bodyPost_ret (results_ct rfl _ _ gb301 24 #[.bool t302, .slice Ao45 t303.length co45] (0, 0) _ rfl (by (with_reducible repeat (first | refine zKn ?_ _ | refine zKd ?_ | refine zKa ?_ _)); refine blk_put (cs := #[.bool t302, .slice none 0 0]) ?_ 1 _ rfl; (with_reducible repeat (first | refine zKn ?_ _ | refine zKd ?_ | refine zKa ?_ _)); refine blk_put (cs := #[.bool false, .slice none 0 0]) ?_ 0 _ rfl; (with_reducible repeat (first | refine zKn ?_ _ | refine zKd ?_ | refine zKa ?_ _)); refine blk_far ?_ NB301_312.out _; (with_reducible repeat (first | refine zKn ?_ _ | refine zKd ?_ | refine zKa ?_ _)); refine blk_far ?_ NB301_312.out _; (with_reducible repeat (first | refine zKn ?_ _ | refine zKd ?_ | refine zKa ?_ _)); refine blk_far ?_ NB301_311.out _; (with_reducible repeat (first | refine zKn ?_ _ | refine zKd ?_ | refine zKa ?_ _)); refine blk_far ?_ NB301_311.out _; (with_reducible repeat (first | refine zKn ?_ _ | refine zKd ?_ | refine zKa ?_ _)); exact BK301.out) Tryd.underlying24 rfl (by kernel_rfl)) rfl ?_
      exact ⟨_, by first | rfl | (simp [errW_none, errW_some] <;> rfl) | (simp [*, errW_none, errW_some] <;> rfl), by (with_reducible repeat (first | apply zRa | apply zRn | apply zRd)); exact zRm (Kd.R_far (p := ⟨gb301, 1, none⟩) (Kd.R_far (p := ⟨gb301, 0, none⟩) (Kd.R_far (p := ⟨gb312, 1, none⟩) (Kd.R_far (p := ⟨gb312, 0, none⟩) (Kd.R_far (p := ⟨gb311, 1, none⟩) (Kd.R_far (p := ⟨gb311, 0, none⟩) (Kd.R_types (Kd.R_types (Kd.R_types HO305.out BK311.out (by decide)) BK312.out (by decide)) BK301.out (by decide)) (fun _ hk => hk.1.1.2) (.bool t302)) (fun _ hk => hk.1.1.2) (.slice Ao45 t303.length co45)) (fun _ hk => hk.1.2) (.bool t306)) (fun _ hk => hk.1.2) (.slice Ao50 t307.length co50)) (fun _ hk => hk.2) (.bool t302)) (fun _ hk => hk.2) (.slice Ao45 t303.length co45)) (fun _ hk => trivial), by exact uT HB.out⟩
  · rw [if_neg c4] at H
    have c4b0 : (t310 == 0) = false := beq_eq_false_iff_ne.mpr c4
    have c4b1 : (t310 != 0) = true := bne_iff_ne.mpr c4
    simp only [Option.some.injEq, Prod.mk.injEq] at H
    obtain ⟨rfl, rfl, rfl⟩ := H
    go_enter Tryd.func14, Tryd.ntmps14
    go_wp2_with (first | ((with_reducible refine gate_dst (N := 2) rfl ?_); refine box_event ?hg (N := 2) ?hd (cs := #[.bool a0_0, .slice A0_1 l0_1.length c0_1]) (t := 24) ?hr ?_; (case hd => rfl); (case hg => rfl); (case hr => first | (go_simp; done)|(go_simp; rfl)|(go_simp; rw [show ∀ x : Int, IntKind.u32.wrap (IntKind.u8.wrap x) = x % 256 from fun x => (by show (x % 256) % 4294967296 = x % 256; omega)])); intro gb299 hg w52 hbox hb; have BK299 := zMk (hbox); have GW299 := zMk ((by rw [hg]; exact (zBs (by exact uT HB.out)) : w.heap.size ≤ gb299)); have GE299 := zMk ((by rw [hg]; exact (zBs (by exact uT HB.out)) : w.heap.size ≤ gb299)); have IGE299 := ownGe GE299.out; replace HB := zMk (zBt (by exact uT HB.out) hb); clear hb hbox hg)|((with_reducible refine gate_dst (N := 3) rfl ?_); refine box_event ?hg (N := 3) ?hd (cs := #[.bool a1_0, .slice A1_1 l1_1.length c1_1]) (t := 24) ?hr ?_; (case hd => rfl); (case hg => rfl); (case hr => first | (go_simp; done)|(go_simp; rfl)|(go_simp; rw [show ∀ x : Int, IntKind.u32.wrap (IntKind.u8.wrap x) = x % 256 from fun x => (by show (x % 256) % 4294967296 = x % 256; omega)])); intro gb300 hg w53 hbox hb; have BK300 := zMk (hbox); have GW300 := zMk ((by rw [hg]; exact (zBs (by exact uT HB.out)) : w.heap.size ≤ gb300)); have GE300 := zMk ((by rw [hg]; exact (zBs (by exact uT HB.out)) : w.heap.size ≤ gb300)); have IGE300 := ownGe GE300.out; replace HB := zMk (zBt (by exact uT HB.out) hb); have NB299_300 := zMk ((by rw [hg]; exact Nat.ne_of_lt (blk_lt (g := gb299) (o := .cells #[.bool a0_0, .slice A0_1 l0_1.length c0_1] 24 (0, 0)) (by (with_reducible repeat (first |  refine zKn ?_ _|  refine zKd ?_|  refine zKa ?_ _)); exact BK299.out)) : gb299 ≠ gb300)); have NB300_299 := zMk ((by rw [hg]; exact Nat.ne_of_gt (blk_lt (g := gb299) (o := .cells #[.bool a0_0, .slice A0_1 l0_1.length c0_1] 24 (0, 0)) (by (with_reducible repeat (first |  refine zKn ?_ _|  refine zKd ?_|  refine zKa ?_ _)); exact BK299.out)) : gb300 ≠ gb299)); replace BK299 := zMk (zKb (g := gb299) (o := .cells #[.bool a0_0, .slice A0_1 l0_1.length c0_1] 24 (0, 0)) (by (with_reducible repeat (first |  refine zKn ?_ _|  refine zKd ?_|  refine zKa ?_ _)); exact BK299.out) hb); clear hb hbox hg)|((with_reducible refine gate_dst (N := 4) rfl ?_); refine box_event ?hg (N := 4) ?hd (cs := #[.bool false, .slice none 0 0]) (t := 24) ?hr ?_; (case hd => rfl); (case hg => rfl); (case hr => first | (go_simp; done)|(go_simp; rfl)|(go_simp; rw [show ∀ x : Int, IntKind.u32.wrap (IntKind.u8.wrap x) = x % 256 from fun x => (by show (x % 256) % 4294967296 = x % 256; omega)])); intro gb301 hg w54 hbox hb; have BK301 := zMk (hbox); have GW301 := zMk ((by rw [hg]; exact (zBs (by exact uT HB.out)) : w.heap.size ≤ gb301)); have GE301 := zMk ((by rw [hg]; exact (zBs (by exact uT HB.out)) : w.heap.size ≤ gb301)); have IGE301 := ownGe GE301.out; replace HB := zMk (zBt (by exact uT HB.out) hb); have NB299_301 := zMk ((by rw [hg]; exact Nat.ne_of_lt (blk_lt (g := gb299) (o := .cells #[.bool a0_0, .slice A0_1 l0_1.length c0_1] 24 (0, 0)) (by (with_reducible repeat (first |  refine zKn ?_ _|  refine zKd ?_|  refine zKa ?_ _)); exact BK299.out)) : gb299 ≠ gb301)); have NB301_299 := zMk ((by rw [hg]; exact Nat.ne_of_gt (blk_lt (g := gb299) (o := .cells #[.bool a0_0, .slice A0_1 l0_1.length c0_1] 24 (0, 0)) (by (with_reducible repeat (first |  refine zKn ?_ _|  refine zKd ?_|  refine zKa ?_ _)); exact BK299.out)) : gb301 ≠ gb299)); replace BK299 := zMk (zKb (g := gb299) (o := .cells #[.bool a0_0, .slice A0_1 l0_1.length c0_1] 24 (0, 0)) (by (with_reducible repeat (first |  refine zKn ?_ _|  refine zKd ?_|  refine zKa ?_ _)); exact BK299.out) hb); have NB300_301 := zMk ((by rw [hg]; exact Nat.ne_of_lt (blk_lt (g := gb300) (o := .cells #[.bool a1_0, .slice A1_1 l1_1.length c1_1] 24 (0, 0)) (by (with_reducible repeat (first |  refine zKn ?_ _|  refine zKd ?_|  refine zKa ?_ _)); exact BK300.out)) : gb300 ≠ gb301)); have NB301_300 := zMk ((by rw [hg]; exact Nat.ne_of_gt (blk_lt (g := gb300) (o := .cells #[.bool a1_0, .slice A1_1 l1_1.length c1_1] 24 (0, 0)) (by (with_reducible repeat (first |  refine zKn ?_ _|  refine zKd ?_|  refine zKa ?_ _)); exact BK300.out)) : gb301 ≠ gb300)); replace BK300 := zMk (zKb (g := gb300) (o := .cells #[.bool a1_0, .slice A1_1 l1_1.length c1_1] 24 (0, 0)) (by (with_reducible repeat (first |  refine zKn ?_ _|  refine zKd ?_|  refine zKa ?_ _)); exact BK300.out) hb); clear hb hbox hg; have hnb55 := NB299_300.out; have hnc55 := NB300_299.out; have hnb56 := NB299_301.out; have hnc56 := NB301_299.out; have hcz57_0 : w54.cell? ⟨gb299, 0, none⟩ = some (.bool a0_0) := (zKc BK299.out 0).trans rfl; have hcz57_1 : w54.cell? ⟨gb299, 1, none⟩ = some (.slice A0_1 l0_1.length c0_1) := (zKc BK299.out 1).trans rfl; have hfz57_0 := zKf BK299.out 0; have hfz57_1 := zKf BK299.out 1; have hnb58 := NB300_301.out; have hnc58 := NB301_300.out; have hcz59_0 : w54.cell? ⟨gb300, 0, none⟩ = some (.bool a1_0) := (zKc BK300.out 0).trans rfl; have hcz59_1 : w54.cell? ⟨gb300, 1, none⟩ = some (.slice A1_1 l1_1.length c1_1) := (zKc BK300.out 1).trans rfl; have hfz59_0 := zKf BK300.out 0; have hfz59_1 := zKf BK300.out 1)|((with_reducible refine gate_callee (f := 12) rfl ?_); refine goesL_ (some 12) rfl rfl Tryd.func12 (by kernel_rfl) rfl #[.agg #[.bool a0_0, .slice A0_1 l0_1.length c0_1], .agg #[.bool a1_0, .slice A1_1 l1_1.length c1_1]] rfl (by (try simp only [zMa, zMc, zMn]); first |  done|  rfl|  (simp only [zLd, zLt]; rfl)) ?_; (with_reducible refine (integer_DivMod.calls k a0_0 _ _ l0_1 a1_0 _ _ l1_1 t302 t303 t306 t307 t310 _ ?side1 ?side2 ?side3 ?side4 A3.out).mono ?_); (case side1 => repeat (first |  exact (Kd.C_below HR0_1.out HB.out)|(with_reducible refine zCa ?_ _)|(with_reducible refine zCn ?_ _)|(with_reducible refine zCd ?_))); (case side2 => exact HC0_1.out); (case side3 => repeat (first |  exact (Kd.C_below HR1_1.out HB.out)|(with_reducible refine zCa ?_ _)|(with_reducible refine zCn ?_ _)|(with_reducible refine zCd ?_))); (case side4 => exact HC1_1.out); rintro e w60 ⟨v304, v308, rfl, ho0, ho1, hb⟩; refine ⟨_, rfl, ?_⟩; have HO305 := zMk (zRl ho0 (zBs (by exact uT HB.out))); have HO309 := zMk (zRl ho1 (zBs (by exact uT HB.out))); replace BK299 := zMk (zKb (g := gb299) (o := .cells #[.bool a0_0, .slice A0_1 l0_1.length c0_1] 24 (0, 0)) (by (with_reducible repeat (first |  refine zKn ?_ _|  refine zKd ?_|  refine zKa ?_ _)); exact BK299.out) hb); replace BK300 := zMk (zKb (g := gb300) (o := .cells #[.bool a1_0, .slice A1_1 l1_1.length c1_1] 24 (0, 0)) (by (with_reducible repeat (first |  refine zKn ?_ _|  refine zKd ?_|  refine zKa ?_ _)); exact BK300.out) hb); replace BK301 := zMk (zKb (g := gb301) (o := .cells #[.bool false, .slice none 0 0] 24 (0, 0)) (by (with_reducible repeat (first |  refine zKn ?_ _|  refine zKd ?_|  refine zKa ?_ _)); exact BK301.out) hb); replace HB := zMk (zBt (by exact uT HB.out) hb))|((with_reducible refine gate_dst (N := 6) rfl ?_); refine box_event ?hg (N := 6) ?hd (cs := #[.bool false, .slice none 0 0]) (t := 24) ?hr ?_; (case hd => rfl); (case hg => rfl); (case hr => first | (go_simp; done)|(go_simp; rfl)|(go_simp; rw [show ∀ x : Int, IntKind.u32.wrap (IntKind.u8.wrap x) = x % 256 from fun x => (by show (x % 256) % 4294967296 = x % 256; omega)])); intro gb311 hg w61 hbox hb; replace HO305 := zMk (zRb (by exact uR HO305.out) hb); replace HO309 := zMk (zRb (by exact uR HO309.out) hb); have BK311 := zMk (hbox); have GW311 := zMk ((by rw [hg]; exact (zBs (by exact uT HB.out)) : w.heap.size ≤ gb311)); have GE311 := zMk ((by rw [hg]; exact (zBs (by exact uT HB.out)) : w.heap.size ≤ gb311)); have IGE311 := ownGe GE311.out; replace HB := zMk (zBt (by exact uT HB.out) hb); have NB299_311 := zMk ((by rw [hg]; exact Nat.ne_of_lt (blk_lt (g := gb299) (o := .cells #[.bool a0_0, .slice A0_1 l0_1.length c0_1] 24 (0, 0)) (by (with_reducible repeat (first |  refine zKn ?_ _|  refine zKd ?_|  refine zKa ?_ _)); exact BK299.out)) : gb299 ≠ gb311)); have NB311_299 := zMk ((by rw [hg]; exact Nat.ne_of_gt (blk_lt (g := gb299) (o := .cells #[.bool a0_0, .slice A0_1 l0_1.length c0_1] 24 (0, 0)) (by (with_reducible repeat (first |  refine zKn ?_ _|  refine zKd ?_|  refine zKa ?_ _)); exact BK299.out)) : gb311 ≠ gb299)); replace BK299 := zMk (zKb (g := gb299) (o := .cells #[.bool a0_0, .slice A0_1 l0_1.length c0_1] 24 (0, 0)) (by (with_reducible repeat (first |  refine zKn ?_ _|  refine zKd ?_|  refine zKa ?_ _)); exact BK299.out) hb); have NB300_311 := zMk ((by rw [hg]; exact Nat.ne_of_lt (blk_lt (g := gb300) (o := .cells #[.bool a1_0, .slice A1_1 l1_1.length c1_1] 24 (0, 0)) (by (with_reducible repeat (first |  refine zKn ?_ _|  refine zKd ?_|  refine zKa ?_ _)); exact BK300.out)) : gb300 ≠ gb311)); have NB311_300 := zMk ((by rw [hg]; exact Nat.ne_of_gt (blk_lt (g := gb300) (o := .cells #[.bool a1_0, .slice A1_1 l1_1.length c1_1] 24 (0, 0)) (by (with_reducible repeat (first |  refine zKn ?_ _|  refine zKd ?_|  refine zKa ?_ _)); exact BK300.out)) : gb311 ≠ gb300)); replace BK300 := zMk (zKb (g := gb300) (o := .cells #[.bool a1_0, .slice A1_1 l1_1.length c1_1] 24 (0, 0)) (by (with_reducible repeat (first |  refine zKn ?_ _|  refine zKd ?_|  refine zKa ?_ _)); exact BK300.out) hb); have NB301_311 := zMk ((by rw [hg]; exact Nat.ne_of_lt (blk_lt (g := gb301) (o := .cells #[.bool false, .slice none 0 0] 24 (0, 0)) (by (with_reducible repeat (first |  refine zKn ?_ _|  refine zKd ?_|  refine zKa ?_ _)); exact BK301.out)) : gb301 ≠ gb311)); have NB311_301 := zMk ((by rw [hg]; exact Nat.ne_of_gt (blk_lt (g := gb301) (o := .cells #[.bool false, .slice none 0 0] 24 (0, 0)) (by (with_reducible repeat (first |  refine zKn ?_ _|  refine zKd ?_|  refine zKa ?_ _)); exact BK301.out)) : gb311 ≠ gb301)); replace BK301 := zMk (zKb (g := gb301) (o := .cells #[.bool false, .slice none 0 0] 24 (0, 0)) (by (with_reducible repeat (first |  refine zKn ?_ _|  refine zKd ?_|  refine zKa ?_ _)); exact BK301.out) hb); clear hb hbox hg)|((with_reducible refine gate_dst (N := 7) rfl ?_); refine box_event ?hg (N := 7) ?hd (cs := #[.bool false, .slice none 0 0]) (t := 24) ?hr ?_; (case hd => rfl); (case hg => rfl); (case hr => first | (go_simp; done)|(go_simp; rfl)|(go_simp; rw [show ∀ x : Int, IntKind.u32.wrap (IntKind.u8.wrap x) = x % 256 from fun x => (by show (x % 256) % 4294967296 = x % 256; omega)])); intro gb312 hg w62 hbox hb; replace HO305 := zMk (zRb (by exact uR HO305.out) hb); replace HO309 := zMk (zRb (by exact uR HO309.out) hb); have BK312 := zMk (hbox); have GW312 := zMk ((by rw [hg]; exact (zBs (by exact uT HB.out)) : w.heap.size ≤ gb312)); have GE312 := zMk ((by rw [hg]; exact (zBs (by exact uT HB.out)) : w.heap.size ≤ gb312)); have IGE312 := ownGe GE312.out; replace HB := zMk (zBt (by exact uT HB.out) hb); have NB299_312 := zMk ((by rw [hg]; exact Nat.ne_of_lt (blk_lt (g := gb299) (o := .cells #[.bool a0_0, .slice A0_1 l0_1.length c0_1] 24 (0, 0)) (by (with_reducible repeat (first |  refine zKn ?_ _|  refine zKd ?_|  refine zKa ?_ _)); exact BK299.out)) : gb299 ≠ gb312)); have NB312_299 := zMk ((by rw [hg]; exact Nat.ne_of_gt (blk_lt (g := gb299) (o := .cells #[.bool a0_0, .slice A0_1 l0_1.length c0_1] 24 (0, 0)) (by (with_reducible repeat (first |  refine zKn ?_ _|  refine zKd ?_|  refine zKa ?_ _)); exact BK299.out)) : gb312 ≠ gb299)); replace BK299 := zMk (zKb (g := gb299) (o := .cells #[.bool a0_0, .slice A0_1 l0_1.length c0_1] 24 (0, 0)) (by (with_reducible repeat (first |  refine zKn ?_ _|  refine zKd ?_|  refine zKa ?_ _)); exact BK299.out) hb); have NB300_312 := zMk ((by rw [hg]; exact Nat.ne_of_lt (blk_lt (g := gb300) (o := .cells #[.bool a1_0, .slice A1_1 l1_1.length c1_1] 24 (0, 0)) (by (with_reducible repeat (first |  refine zKn ?_ _|  refine zKd ?_|  refine zKa ?_ _)); exact BK300.out)) : gb300 ≠ gb312)); have NB312_300 := zMk ((by rw [hg]; exact Nat.ne_of_gt (blk_lt (g := gb300) (o := .cells #[.bool a1_0, .slice A1_1 l1_1.length c1_1] 24 (0, 0)) (by (with_reducible repeat (first |  refine zKn ?_ _|  refine zKd ?_|  refine zKa ?_ _)); exact BK300.out)) : gb312 ≠ gb300)); replace BK300 := zMk (zKb (g := gb300) (o := .cells #[.bool a1_0, .slice A1_1 l1_1.length c1_1] 24 (0, 0)) (by (with_reducible repeat (first |  refine zKn ?_ _|  refine zKd ?_|  refine zKa ?_ _)); exact BK300.out) hb); have NB301_312 := zMk ((by rw [hg]; exact Nat.ne_of_lt (blk_lt (g := gb301) (o := .cells #[.bool false, .slice none 0 0] 24 (0, 0)) (by (with_reducible repeat (first |  refine zKn ?_ _|  refine zKd ?_|  refine zKa ?_ _)); exact BK301.out)) : gb301 ≠ gb312)); have NB312_301 := zMk ((by rw [hg]; exact Nat.ne_of_gt (blk_lt (g := gb301) (o := .cells #[.bool false, .slice none 0 0] 24 (0, 0)) (by (with_reducible repeat (first |  refine zKn ?_ _|  refine zKd ?_|  refine zKa ?_ _)); exact BK301.out)) : gb312 ≠ gb301)); replace BK301 := zMk (zKb (g := gb301) (o := .cells #[.bool false, .slice none 0 0] 24 (0, 0)) (by (with_reducible repeat (first |  refine zKn ?_ _|  refine zKd ?_|  refine zKa ?_ _)); exact BK301.out) hb); have NB311_312 := zMk ((by rw [hg]; exact Nat.ne_of_lt (blk_lt (g := gb311) (o := .cells #[.bool false, .slice none 0 0] 24 (0, 0)) (by (with_reducible repeat (first |  refine zKn ?_ _|  refine zKd ?_|  refine zKa ?_ _)); exact BK311.out)) : gb311 ≠ gb312)); have NB312_311 := zMk ((by rw [hg]; exact Nat.ne_of_gt (blk_lt (g := gb311) (o := .cells #[.bool false, .slice none 0 0] 24 (0, 0)) (by (with_reducible repeat (first |  refine zKn ?_ _|  refine zKd ?_|  refine zKa ?_ _)); exact BK311.out)) : gb312 ≠ gb311)); replace BK311 := zMk (zKb (g := gb311) (o := .cells #[.bool false, .slice none 0 0] 24 (0, 0)) (by (with_reducible repeat (first |  refine zKn ?_ _|  refine zKd ?_|  refine zKa ?_ _)); exact BK311.out) hb); clear hb hbox hg; have hnb63 := NB311_299.out; have hnc63 := NB299_311.out; have hnb64 := NB311_300.out; have hnc64 := NB300_311.out; have hnb65 := NB311_301.out; have hnc65 := NB301_311.out; have hnb66 := NB311_312.out; have hnc66 := NB312_311.out; have hcz67_0 : w62.cell? ⟨gb311, 0, none⟩ = some (.bool false) := (zKc BK311.out 0).trans rfl; have hcz67_1 : w62.cell? ⟨gb311, 1, none⟩ = some (.slice none 0 0) := (zKc BK311.out 1).trans rfl; have hfz67_0 := zKf BK311.out 0; have hfz67_1 := zKf BK311.out 1; obtain ⟨Ao68, co68, eo68⟩ := zRs HO305.out; subst eo68; have hnb69 := NB312_299.out; have hnc69 := NB299_312.out; have hnb70 := NB312_300.out; have hnc70 := NB300_312.out; have hnb71 := NB312_301.out; have hnc71 := NB301_312.out; have hcz72_0 : w62.cell? ⟨gb312, 0, none⟩ = some (.bool false) := (zKc BK312.out 0).trans rfl; have hcz72_1 : w62.cell? ⟨gb312, 1, none⟩ = some (.slice none 0 0) := (zKc BK312.out 1).trans rfl; have hfz72_0 := zKf BK312.out 0; have hfz72_1 := zKf BK312.out 1; obtain ⟨Ao73, co73, eo73⟩ := zRs HO309.out; subst eo73; have hcz74_0 : w62.cell? ⟨gb301, 0, none⟩ = some (.bool false) := (zKc BK301.out 0).trans rfl; have hcz74_1 : w62.cell? ⟨gb301, 1, none⟩ = some (.slice none 0 0) := (zKc BK301.out 1).trans rfl; have hfz74_0 := zKf BK301.out 0; have hfz74_1 := zKf BK301.out 1))
    refine bodyPost_ret (results_ct rfl _ _ gb301 24 #[.bool false, .slice none 0 0] (0, 0) _ rfl (by (with_reducible repeat (first | refine zKn ?_ _ | refine zKd ?_ | refine zKa ?_ _)); refine blk_put (cs := #[.bool false, .slice none 0 0]) ?_ 1 _ rfl; (with_reducible repeat (first | refine zKn ?_ _ | refine zKd ?_ | refine zKa ?_ _)); refine blk_put (cs := #[.bool false, .slice none 0 0]) ?_ 0 _ rfl; (with_reducible repeat (first | refine zKn ?_ _ | refine zKd ?_ | refine zKa ?_ _)); refine blk_far ?_ NB301_312.out _; (with_reducible repeat (first | refine zKn ?_ _ | refine zKd ?_ | refine zKa ?_ _)); refine blk_far ?_ NB301_312.out _; (with_reducible repeat (first | refine zKn ?_ _ | refine zKd ?_ | refine zKa ?_ _)); refine blk_far ?_ NB301_311.out _; (with_reducible repeat (first | refine zKn ?_ _ | refine zKd ?_ | refine zKa ?_ _)); refine blk_far ?_ NB301_311.out _; (with_reducible repeat (first | refine zKn ?_ _ | refine zKd ?_ | refine zKa ?_ _)); exact BK301.out) Tryd.underlying24 rfl (by kernel_rfl)) rfl ?_
    exact ⟨_, by first | rfl | (simp [errW_none, errW_some] <;> rfl) | (simp [*, errW_none, errW_some] <;> rfl), by first | exact Kd.R_nil _ _ _ _ _ | exact Kd.N_nil _ _ _ _ _ | exact Kd.V_nil _ _ _ _ _ | exact Kd.Q_nil _ _ _ _ _ | exact Kd.S_nil _ _ _ _ _, by exact uT HB.out⟩


def strconv_small.f (a0 : Int) : Option (ByteArray) := if a0 < 10 then (if 0 ≤ a0 then (if a0 ≤ (wrap64 (a0 + 1)) then (if (wrap64 (a0 + 1)) ≤ 36 then (some ((⟨#[48, 49, 50, 51, 52, 53, 54, 55, 56, 57, 97, 98, 99, 100, 101, 102, 103, 104, 105, 106, 107, 108, 109, 110, 111, 112, 113, 114, 115, 116, 117, 118, 119, 120, 121, 122]⟩ : ByteArray).extract (a0 : Int).toNat ((wrap64 (a0 + 1)) : Int).toNat)) else (none)) else (none)) else (none)) else (if 0 ≤ (wrap64 (a0 * 2)) then (if (wrap64 (a0 * 2)) ≤ (wrap64 ((wrap64 (a0 * 2)) + 2)) then (if (wrap64 ((wrap64 (a0 * 2)) + 2)) ≤ 200 then (some ((⟨#[48, 48, 48, 49, 48, 50, 48, 51, 48, 52, 48, 53, 48, 54, 48, 55, 48, 56, 48, 57, 49, 48, 49, 49, 49, 50, 49, 51, 49, 52, 49, 53, 49, 54, 49, 55, 49, 56, 49, 57, 50, 48, 50, 49, 50, 50, 50, 51, 50, 52, 50, 53, 50, 54, 50, 55, 50, 56, 50, 57, 51, 48, 51, 49, 51, 50, 51, 51, 51, 52, 51, 53, 51, 54, 51, 55, 51, 56, 51, 57, 52, 48, 52, 49, 52, 50, 52, 51, 52, 52, 52, 53, 52, 54, 52, 55, 52, 56, 52, 57, 53, 48, 53, 49, 53, 50, 53, 51, 53, 52, 53, 53, 53, 54, 53, 55, 53, 56, 53, 57, 54, 48, 54, 49, 54, 50, 54, 51, 54, 52, 54, 53, 54, 54, 54, 55, 54, 56, 54, 57, 55, 48, 55, 49, 55, 50, 55, 51, 55, 52, 55, 53, 55, 54, 55, 55, 55, 56, 55, 57, 56, 48, 56, 49, 56, 50, 56, 51, 56, 52, 56, 53, 56, 54, 56, 55, 56, 56, 56, 57, 57, 48, 57, 49, 57, 50, 57, 51, 57, 52, 57, 53, 57, 54, 57, 55, 57, 56, 57, 57]⟩ : ByteArray).extract ((wrap64 (a0 * 2)) : Int).toNat ((wrap64 ((wrap64 (a0 * 2)) + 2)) : Int).toNat)) else (none)) else (none)) else (none))
theorem strconv_small.calls (a0 : Int) (r : ByteArray) (w : World) (h : strconv_small.f a0 = some r) :
    Calls Tryd.prog 97 #[.int .i64 a0] w fun e w' => e = .returned (.string r) ∧ Drawn0 w w' := by
  have H : (if a0 < 10 then (if 0 ≤ a0 then (if a0 ≤ (wrap64 (a0 + 1)) then (if (wrap64 (a0 + 1)) ≤ 36 then (some ((⟨#[48, 49, 50, 51, 52, 53, 54, 55, 56, 57, 97, 98, 99, 100, 101, 102, 103, 104, 105, 106, 107, 108, 109, 110, 111, 112, 113, 114, 115, 116, 117, 118, 119, 120, 121, 122]⟩ : ByteArray).extract (a0 : Int).toNat ((wrap64 (a0 + 1)) : Int).toNat)) else (none)) else (none)) else (none)) else (if 0 ≤ (wrap64 (a0 * 2)) then (if (wrap64 (a0 * 2)) ≤ (wrap64 ((wrap64 (a0 * 2)) + 2)) then (if (wrap64 ((wrap64 (a0 * 2)) + 2)) ≤ 200 then (some ((⟨#[48, 48, 48, 49, 48, 50, 48, 51, 48, 52, 48, 53, 48, 54, 48, 55, 48, 56, 48, 57, 49, 48, 49, 49, 49, 50, 49, 51, 49, 52, 49, 53, 49, 54, 49, 55, 49, 56, 49, 57, 50, 48, 50, 49, 50, 50, 50, 51, 50, 52, 50, 53, 50, 54, 50, 55, 50, 56, 50, 57, 51, 48, 51, 49, 51, 50, 51, 51, 51, 52, 51, 53, 51, 54, 51, 55, 51, 56, 51, 57, 52, 48, 52, 49, 52, 50, 52, 51, 52, 52, 52, 53, 52, 54, 52, 55, 52, 56, 52, 57, 53, 48, 53, 49, 53, 50, 53, 51, 53, 52, 53, 53, 53, 54, 53, 55, 53, 56, 53, 57, 54, 48, 54, 49, 54, 50, 54, 51, 54, 52, 54, 53, 54, 54, 54, 55, 54, 56, 54, 57, 55, 48, 55, 49, 55, 50, 55, 51, 55, 52, 55, 53, 55, 54, 55, 55, 55, 56, 55, 57, 56, 48, 56, 49, 56, 50, 56, 51, 56, 52, 56, 53, 56, 54, 56, 55, 56, 56, 56, 57, 57, 48, 57, 49, 57, 50, 57, 51, 57, 52, 57, 53, 57, 54, 57, 55, 57, 56, 57, 57]⟩ : ByteArray).extract ((wrap64 (a0 * 2)) : Int).toNat ((wrap64 ((wrap64 (a0 * 2)) + 2)) : Int).toNat)) else (none)) else (none)) else (none))) = some r := h
  clear h
  by_cases c2 : a0 < 10
  · rw [if_pos c2] at H
    have c2b0 : decide (a0 < 10) = true := decide_eq_true c2
    clear c2
    by_cases c3 : 0 ≤ a0
    rotate_left
    · rw [if_neg c3] at H; exact absurd H (by simp)
    rw [if_pos c3] at H
    have c3b0 := eq_true c3
    have c3b1 : decide (0 ≤ a0) = true := decide_eq_true c3
    clear c3
    by_cases c4 : a0 ≤ (wrap64 (a0 + 1))
    rotate_left
    · rw [if_neg c4] at H; exact absurd H (by simp)
    rw [if_pos c4] at H
    have c4b0 := eq_true c4
    have c4b1 : decide (a0 ≤ (wrap64 (a0 + 1))) = true := decide_eq_true c4
    by_cases c5 : (wrap64 (a0 + 1)) ≤ 36
    rotate_left
    · rw [if_neg c5] at H; exact absurd H (by simp)
    rw [if_pos c5] at H
    have c5b0 := eq_true c5
    have c5b1 : decide ((wrap64 (a0 + 1)) ≤ 36) = true := decide_eq_true c5
    obtain rfl := zOi H
    go_enter Tryd.func97, Tryd.ntmps97
    go_wp2
    go_ret
    exact ⟨by first | rfl | (simp; done) | (simp [*]; done), by repeat (first | exact Drawn0.refl _ | apply Drawn0.step)⟩
  · rw [if_neg c2] at H
    have c2b0 : decide (a0 < 10) = false := decide_eq_false c2
    clear c2
    obtain ⟨ji6, hji6⟩ : ∃ j_ : Int, (wrap64 (a0 * 2)) = j_ := ⟨_, rfl⟩
    replace H : (if 0 ≤ (ji6) then (if (ji6) ≤ (wrap64 ((ji6) + 2)) then (if (wrap64 ((ji6) + 2)) ≤ 200 then (some ((⟨#[48, 48, 48, 49, 48, 50, 48, 51, 48, 52, 48, 53, 48, 54, 48, 55, 48, 56, 48, 57, 49, 48, 49, 49, 49, 50, 49, 51, 49, 52, 49, 53, 49, 54, 49, 55, 49, 56, 49, 57, 50, 48, 50, 49, 50, 50, 50, 51, 50, 52, 50, 53, 50, 54, 50, 55, 50, 56, 50, 57, 51, 48, 51, 49, 51, 50, 51, 51, 51, 52, 51, 53, 51, 54, 51, 55, 51, 56, 51, 57, 52, 48, 52, 49, 52, 50, 52, 51, 52, 52, 52, 53, 52, 54, 52, 55, 52, 56, 52, 57, 53, 48, 53, 49, 53, 50, 53, 51, 53, 52, 53, 53, 53, 54, 53, 55, 53, 56, 53, 57, 54, 48, 54, 49, 54, 50, 54, 51, 54, 52, 54, 53, 54, 54, 54, 55, 54, 56, 54, 57, 55, 48, 55, 49, 55, 50, 55, 51, 55, 52, 55, 53, 55, 54, 55, 55, 55, 56, 55, 57, 56, 48, 56, 49, 56, 50, 56, 51, 56, 52, 56, 53, 56, 54, 56, 55, 56, 56, 56, 57, 57, 48, 57, 49, 57, 50, 57, 51, 57, 52, 57, 53, 57, 54, 57, 55, 57, 56, 57, 57]⟩ : ByteArray).extract ((ji6) : Int).toNat ((wrap64 ((ji6) + 2)) : Int).toNat)) else (none)) else (none)) else (none)) = some r := by first | (rw [hji6] at H; exact H) | (simp only [hji6] at H ⊢; exact H)
    have hji6w : (IntKind.i64.wrap (a0 * 2)) = ji6 := (i64_w _).trans hji6
    by_cases c7 : 0 ≤ (ji6)
    · rw [if_pos c7] at H
      have c7b0 := eq_true c7
      have c7b1 : decide (0 ≤ (ji6)) = true := decide_eq_true c7
      clear c7
      by_cases c8 : (ji6) ≤ (wrap64 ((ji6) + 2))
      rotate_left
      · rw [if_neg c8] at H; exact absurd H (by simp)
      rw [if_pos c8] at H
      have c8b0 := eq_true c8
      have c8b1 : decide ((ji6) ≤ (wrap64 ((ji6) + 2))) = true := decide_eq_true c8
      by_cases c9 : (wrap64 ((ji6) + 2)) ≤ 200
      rotate_left
      · rw [if_neg c9] at H; exact absurd H (by simp)
      rw [if_pos c9] at H
      have c9b0 := eq_true c9
      have c9b1 : decide ((wrap64 ((ji6) + 2)) ≤ 200) = true := decide_eq_true c9
      obtain rfl := zOi H
      go_enter Tryd.func97, Tryd.ntmps97
      go_wp2
      go_ret
      exact ⟨by first | rfl | (simp; done) | (simp only [← hji6] <;> (first | rfl | simp)) | (simp [*]; done), by repeat (first | exact Drawn0.refl _ | apply Drawn0.step)⟩
    · rw [if_neg c7] at H
      exact absurd H (by simp)



def strconv_FormatInt.f (a0 a1 : Int) : Option ByteArray := if 0 ≤ a0 then if a0 < 100 then if a1 = 10 then strconv_small.f a0 else none else none else none
theorem strconv_FormatInt.calls (a0 a1 : Int) (r : ByteArray) (w : World) (h : strconv_FormatInt.f a0 a1 = some r) :
    Calls Tryd.prog 92 #[.int .i64 a0, .int .i64 a1] w fun e w' => e = .returned (.string r) ∧ Drawn0 w w' := by
  unfold strconv_FormatInt.f at h
  by_cases h0 : 0 ≤ a0
  · by_cases h1 : a0 < 100
    · by_cases h2 : a1 = 10
      · rw [if_pos h0, if_pos h1, if_pos h2] at h
        subst h2
        have HH := zMk h
        clear h
        have d0 : decide (0 ≤ a0) = true := decide_eq_true h0
        have d1 : decide (a0 < 100) = true := decide_eq_true h1
        go_enter Tryd.func92, Tryd.ntmps92
        go_wp2_with (go_at_call 97; refine (strconv_small.calls a0 r _ HH.out).mono ?_; rintro e w' ⟨rfl, ⟨nd, rfl⟩⟩)
        go_ret
        exact ⟨rfl, ⟨_, rfl⟩⟩
      · rw [if_pos h0, if_pos h1, if_neg h2] at h; cases h
    · rw [if_pos h0, if_neg h1] at h; cases h
  · rw [if_neg h0] at h; cases h


def strconv_Itoa_85.f (a0 : Int) : Option (ByteArray) := (strconv_FormatInt.f a0 10).bind fun t337 => (some t337)
theorem strconv_Itoa_85.calls (a0 : Int) (r : ByteArray) (w : World) (h : strconv_Itoa_85.f a0 = some r) :
    Calls Tryd.prog 85 #[.int .i64 a0] w fun e w' => e = .returned (.string r) ∧ Drawn0 w w' := by
  have H : ((strconv_FormatInt.f a0 10).bind fun t337 => (some t337)) = some r := h
  clear h
  replace H := bnd H
  obtain ⟨t337, A20, H⟩ := H
  have A2 := zMk A20
  clear A20
  obtain rfl := zOi H
  go_enter Tryd.func85, Tryd.ntmps85
  go_wp2_with (first | ((with_reducible refine gate_callee (f := 92) rfl ?_); refine goesL_ (some 4) rfl rfl Tryd.func92 (by kernel_rfl) rfl #[.int .i64 a0, .int .i64 10] rfl (by (try simp only [zMa, zMc, zMn]); first | done | rfl | (simp only [zLd, zLt]; rfl)) ?_; (with_reducible refine (strconv_FormatInt.calls a0 10 t337 _ A2.out).mono ?_); rintro e w' ⟨rfl, ⟨nd, rfl⟩⟩; refine ⟨_, rfl, ?_⟩))
  go_ret
  exact ⟨by first | rfl | (simp; done) | (simp [*]; done), by repeat (first | exact Drawn0.refl _ | apply Drawn0.step)⟩


def strconv_Itoa_74.f (a0 : Int) : Option (ByteArray) := (strconv_Itoa_85.f a0).bind fun t338 => (some t338)
theorem strconv_Itoa_74.calls (a0 : Int) (r : ByteArray) (w : World) (h : strconv_Itoa_74.f a0 = some r) :
    Calls Tryd.prog 74 #[.int .i64 a0] w fun e w' => e = .returned (.string r) ∧ Drawn0 w w' := by
  have H : ((strconv_Itoa_85.f a0).bind fun t338 => (some t338)) = some r := h
  clear h
  replace H := bnd H
  obtain ⟨t338, A20, H⟩ := H
  have A2 := zMk A20
  clear A20
  obtain rfl := zOi H
  go_enter Tryd.func74, Tryd.ntmps74
  go_wp2_with (first | ((with_reducible refine gate_callee (f := 85) rfl ?_); refine goesL_ (some 4) rfl rfl Tryd.func85 (by kernel_rfl) rfl #[.int .i64 a0] rfl (by (try simp only [zMa, zMc, zMn]); first | done | rfl | (simp only [zLd, zLt]; rfl)) ?_; (with_reducible refine (strconv_Itoa_85.calls a0 t338 _ A2.out).mono ?_); rintro e w' ⟨rfl, ⟨nd, rfl⟩⟩; refine ⟨_, rfl, ?_⟩))
  go_ret
  exact ⟨by first | rfl | (simp; done) | (simp [*]; done), by repeat (first | exact Drawn0.refl _ | apply Drawn0.step)⟩


def slices_Reverse_string_string.l0 : Nat → List ByteArray → Int → Int → Option (List ByteArray)
  | 0, _, _, _ => none
  | k + 1, x0, x2, x3 => if x2 < x3 then (if 0 ≤ x3 then (if x3 < (x0.length : Int) then (if 0 ≤ x2 then (if x2 < (x0.length : Int) then (slices_Reverse_string_string.l0 k ((x0.set (x2 : Int).toNat (rdOf ByteArray.empty x0 x3)).set (x3 : Int).toNat (rdOf ByteArray.empty x0 x2)) (wrap64 (x2 + 1)) (wrap64 (x3 - 1))) else (none)) else (none)) else (none)) else (none)) else (some x0)
def slices_Reverse_string_string.f (k : Nat) (l0 : List ByteArray) : Option (List ByteArray) := slices_Reverse_string_string.l0 k l0 0 (wrap64 ((l0.length : Int) - 1))
def slices_Reverse_string_string.T3 : Bool × List (List Nat × List Nat) := (true, [([], []), ([], []), ([], []), ([], []), ([], []), ([], []), ([4, 5], [4, 5]), ([6], [6]), ([], []), ([], []), ([8, 9], [8, 9]), ([10], [10]), ([0, 1, 0, 1, 4, 5, 6, 7, 11], [0, 1]), ([12, 7, 0, 1, 4, 5, 6, 7, 11], [7, 12]), ([2, 3, 0, 1, 2, 3, 4, 5, 6, 7, 8, 9, 10, 11, 12, 13], [2, 3]), ([14, 11, 13, 0, 1, 2, 3, 4, 5, 6, 7, 8, 9, 10, 11, 12, 13], [11, 14])])
def slices_Reverse_string_string.B3 : List Nat := [0, 0, 0, 0, 0, 0, 48, 112, 0, 0, 768, 1792, 4083, 8179, 16383, 32767]
theorem slices_Reverse_string_string.tab3 : rtab .any (opsOf Tryd.f75 3) = slices_Reverse_string_string.T3 := by kernel_rfl
theorem slices_Reverse_string_string.bits3 : waitsOk slices_Reverse_string_string.T3.2 slices_Reverse_string_string.B3 = true := by kernel_rfl
theorem slices_Reverse_string_string.calls (k : Nat) (P0_ : Nat → Prop) (u9000_ : Value) (l0 : List ByteArray) (r : List ByteArray) (w0 w : World) (hB : Below w0.heap.size w0 w) (ho0 : Kd.R Kd.string 9 w w0.heap.size P0_ u9000_ l0) (h : slices_Reverse_string_string.f k l0 = some r) :
    Calls Tryd.prog 75 #[u9000_] w fun e w' => e = .returned (.tuple #[]) ∧ Kd.R Kd.string 9 w' w0.heap.size (fun k_ => (P0_ k_ ∨ w.heap.size ≤ k_)) u9000_ r ∧ Below w0.heap.size w0 w' ∧ Kept w w' (fun k_ => P0_ k_) := by
  have HO0 := zMk (show Kd.R Kd.string 9 w w0.heap.size (fun k_ => (P0_ k_ ∨ w.heap.size ≤ k_)) u9000_ l0 from zRm ho0 (fun k_ hk => (.inl hk)))
  have HK := zMk (Kept.refl w (fun k_ => P0_ k_))
  have HW0 := zMk hB.size
  have HB := zMk hB
  clear hB
  have H : (slices_Reverse_string_string.l0 k l0 0 (wrap64 ((l0.length : Int) - 1))) = some r := h
  clear h
  have H' := zMk H
  clear H
  obtain ⟨Ao2, co2, eo2⟩ := zRs HO0.out
  subst eo2
  go_enter Tryd.func75, Tryd.ntmps75
  go_wp2
  go_loopg [2, 3] k (fun kq v2 v3 w' => ∃ (x0_1 : List ByteArray) (x2_1 : Int) (x3_1 : Int), v2 = .int .i64 x2_1 ∧ v3 = .int .i64 x3_1 ∧ Aside0 (slices_Reverse_string_string.l0 kq x0_1 x2_1 x3_1 = some r) ∧ Aside0 (kq ≤ k) ∧ Aside0 (Kd.R Kd.string 9 w' w0.heap.size (fun k_ => (P0_ k_ ∨ w.heap.size ≤ k_)) (.slice Ao2 l0.length co2) x0_1) ∧ Aside0 (Kept w w' (fun k_ => P0_ k_)) ∧ Aside0 (Below w0.heap.size w0 w'))
  case atStart => exact ⟨(l0), (0), (wrap64 ((l0.length : Int) - 1)), (by first | rfl | (simp; done) | (simp [*]; done)), (by first | rfl | (simp; done) | (simp [*]; done)), H', ⟨Nat.le_refl _⟩, ⟨by exact uR HO0.out⟩, ⟨by repeat (first | (with_reducible first | exact HK.out | apply Kept.alloc | apply Kept.drewN | apply Kept.drew) | exact HK.out)⟩, ⟨by exact uT HB.out⟩⟩
  clear H'
  obtain ⟨x0_1, x2_1, x3_1, rfl, rfl, HA, HK1, HO_0, HK, HB⟩ := hrel
  have hl0_1 := (zRr HO_0.out).1
  rw [hl0_1] at HO_0
  (try simp only [hl0_1])
  rcases gk with _ | k1
  · exact absurd HA.out (by simp [slices_Reverse_string_string.l0])
  have H := HA.out
  clear HA
  simp only [slices_Reverse_string_string.l0] at H
  by_cases c3 : x2_1 < x3_1
  · rw [if_pos c3] at H
    have c3b0 : decide (x2_1 < x3_1) = true := decide_eq_true c3
    (try (have c3b0l := c3b0; simp only [hl0_1] at c3b0l))
    clear c3
    by_cases c4 : 0 ≤ x3_1
    rotate_left
    · rw [if_neg c4] at H; exact absurd H (by simp)
    rw [if_pos c4] at H
    have c4b0 : decide (0 ≤ x3_1) = true := decide_eq_true c4
    (try (have c4b0l := c4b0; simp only [hl0_1] at c4b0l))
    clear c4
    by_cases c5 : x3_1 < (x0_1.length : Int)
    rotate_left
    · rw [if_neg c5] at H; exact absurd H (by simp)
    rw [if_pos c5] at H
    have c5b0 : decide (x3_1 < (x0_1.length : Int)) = true := decide_eq_true c5
    (try (have c5b0l := c5b0; simp only [hl0_1] at c5b0l))
    clear c5
    by_cases c6 : 0 ≤ x2_1
    rotate_left
    · rw [if_neg c6] at H; exact absurd H (by simp)
    rw [if_pos c6] at H
    have c6b0 : decide (0 ≤ x2_1) = true := decide_eq_true c6
    (try (have c6b0l := c6b0; simp only [hl0_1] at c6b0l))
    clear c6
    by_cases c7 : x2_1 < (x0_1.length : Int)
    rotate_left
    · rw [if_neg c7] at H; exact absurd H (by simp)
    rw [if_pos c7] at H
    have c7b0 : decide (x2_1 < (x0_1.length : Int)) = true := decide_eq_true c7
    (try (have c7b0l := c7b0; simp only [hl0_1] at c7b0l))
    clear c7
    obtain ⟨y341, hy341⟩ : ∃ y_ : List ByteArray, y_ = (x0_1.set (x2_1 : Int).toNat (rdOf ByteArray.empty x0_1 x3_1)) := ⟨_, rfl⟩
    replace H : (slices_Reverse_string_string.l0 k1 (y341.set (x3_1 : Int).toNat (rdOf ByteArray.empty x0_1 x2_1)) (wrap64 (x2_1 + 1)) (wrap64 (x3_1 - 1))) = some r := by first | (rw [hy341]; with_reducible exact H) | (have H2_ := bsm H; first | (rw [hy341]; with_reducible exact H2_) | with_reducible exact H2_) | with_reducible exact H | (rw [hy341]; exact H) | exact H
    have Ny341 := zMk hy341
    clear hy341
    obtain ⟨y342, hy342⟩ : ∃ y_ : List ByteArray, y_ = (y341.set (x3_1 : Int).toNat (rdOf ByteArray.empty x0_1 x2_1)) := ⟨_, rfl⟩
    replace H : (slices_Reverse_string_string.l0 k1 y342 (wrap64 (x2_1 + 1)) (wrap64 (x3_1 - 1))) = some r := by first | (rw [hy342]; with_reducible exact H) | (have H2_ := bsm H; first | (rw [hy342]; with_reducible exact H2_) | with_reducible exact H2_) | with_reducible exact H | (rw [hy342]; exact H) | exact H
    have Ny342 := zMk hy342
    clear hy342
    have H' := zMk H
    clear H
    try go_wp2
    replace HO_0 := zMk (zRd HO_0.out)
    replace HK := zMk (Kept.drew HK.out)
    replace HB := zMk (zBd HB.out)
    have p339 : 0 ≤ (x3_1 : Int) := of_decide_eq_true (by assumption)
    have q339 : x3_1 < (x0_1.length : Int) := of_decide_eq_true (by assumption)
    obtain ⟨ad339, e339, hx339_0⟩ := Kd.at_string (zRr HO_0.out).2.2 x3_1 p339 q339
    cases e339
    replace p339 := eq_true p339
    replace q339 := eq_true q339
    have p340 : 0 ≤ (x2_1 : Int) := of_decide_eq_true (by assumption)
    have q340 : x2_1 < (x0_1.length : Int) := of_decide_eq_true (by assumption)
    obtain ⟨ad340, e340, hx340_0⟩ := Kd.at_string (zRr HO_0.out).2.2 x2_1 p340 q340
    obtain rfl : ad339 = ad340 := (by injection e340)
    replace p340 := eq_true p340
    replace q340 := eq_true q340
    have p8 : 0 ≤ (x2_1 : Int) := of_decide_eq_true (by assumption)
    have q8 : (x2_1 : Int) < ((x0_1.length : Int) : Int) := of_decide_eq_true (by assumption)
    obtain ⟨go8, co8, eo8, gb8, gl8, cl8, HG8⟩ := Kd.R_form HO_0.out (by omega)
    (first |  cases eo8|  (injection eo8 with ea_ en_ ec_; (first |  subst ea_|  (injection ea_ with ea_; subst ea_)); subst ec_; clear en_))
    have GB8 := zMk gb8
    have IGB8 := ownGe GB8.out
    have GG8 := zMk HG8
    clear gb8 gl8 HG8
    have HMgo8 := zMk (show (P0_ go8 ∨ w.heap.size ≤ go8) from (HO_0.out.1 _ rfl))
    (first | simp only [add_plain] at hx339_0 | skip)
    (first | simp only [add_plain] at hx340_0 | skip)
    obtain ⟨hx8_0, hf8_0⟩ := Kd.R_celln (⟨#[]⟩ : ByteArray) HO_0.out (x2_1 : Int) p8 q8
    replace p8 := eq_true p8
    replace q8 := eq_true q8
    have HP11 := Kd.R_putn HO_0.out (x2_1 : Int) (rdOf ByteArray.empty x0_1 x3_1)
    rw [← Ny341.out] at HP11
    have HQ11 := zMk HP11
    clear HP11
    have p9 : 0 ≤ (x3_1 : Int) := of_decide_eq_true (by assumption)
    have q9 : (x3_1 : Int) < ((x0_1.length : Int) : Int) := of_decide_eq_true (by assumption)
    obtain ⟨hx9_0, hf9_0⟩ := Kd.R_celln (⟨#[]⟩ : ByteArray) HQ11.out (x3_1 : Int) p9 q9
    replace p9 := eq_true p9
    replace q9 := eq_true q9
    have HP12 := Kd.R_putn HQ11.out (x3_1 : Int) (rdOf ByteArray.empty x0_1 x2_1)
    rw [← Ny342.out] at HP12
    have HQ12 := zMk HP12
    clear HP12
    refine start_ (n := 16) (S := fun w' => w'.cell? ⟨go8, (x3_1).toNat, none⟩ = some (.string (rdOf ByteArray.empty x0_1 x3_1)) ∧ w'.cell? ⟨go8, (x2_1).toNat, none⟩ = some (.string (rdOf ByteArray.empty x0_1 x2_1))) (ds := [13, 15]) #[false, false, false, false, false, false, false, false, false, false, false, false, false, false, false, false] (by kernel_rfl) rfl rfl ⟨hx339_0, hx340_0⟩ (fun hHeld => ?_); refine with_tabW slices_Reverse_string_string.tab3 slices_Reverse_string_string.bits3 (fun HT_ HW_ => ?_)
    generalize wr.drew = w10 at HO_0 HK HB GG8 HQ11 HQ12 hf8_0 hf9_0 hx339_0 hx340_0 hx8_0 hx9_0 hHeld ⊢
    refine pure_ (i := 0) (N := some 14) (v := ?_) (a' := ?_) #[true, false, false, false, false, false, false, false, false, false, false, false, false, false, false, false] rfl rfl (any_of HT_.out (by kernel_rfl)) (fun _ _ _ h => h) (Or.inl ⟨by rfl, ?_⟩) ?_ ?_
    rotate_left
    · intro w'
      go_simp
      with_reducible rfl
    rotate_left
    · simp only [Act.put, zSa, zSb, zSc, i64_w, i32_w]
      rfl
    refine pure_ (i := 1) (N := some 15) (v := ?_) (a' := ?_) #[true, true, false, false, false, false, false, false, false, false, false, false, false, false, false, false] rfl rfl (any_of HT_.out (by kernel_rfl)) (fun _ _ _ h => h) (Or.inl ⟨by rfl, ?_⟩) ?_ ?_
    rotate_left
    · intro w'
      go_simp
      with_reducible rfl
    rotate_left
    · simp only [Act.put, zSa, zSb, zSc, i64_w, i32_w]
      rfl
    refine pure_ (i := 2) (N := some 16) (v := ?_) (a' := ?_) #[true, true, true, false, false, false, false, false, false, false, false, false, false, false, false, false] rfl rfl (any_of HT_.out (by kernel_rfl)) (fun _ _ _ h => h) (Or.inl ⟨by rfl, ?_⟩) ?_ ?_
    rotate_left
    · intro w'
      go_simp
      with_reducible rfl
    rotate_left
    · simp only [Act.put, zSa, zSb, zSc, i64_w, i32_w]
      rfl
    refine pure_ (i := 3) (N := some 17) (v := ?_) (a' := ?_) #[true, true, true, true, false, false, false, false, false, false, false, false, false, false, false, false] rfl rfl (any_of HT_.out (by kernel_rfl)) (fun _ _ _ h => h) (Or.inl ⟨by rfl, ?_⟩) ?_ ?_
    rotate_left
    · intro w'
      go_simp
      with_reducible rfl
    rotate_left
    · simp only [Act.put, zSa, zSb, zSc, i64_w, i32_w]
      rfl
    refine pure_ (i := 4) (N := some 18) (v := ?_) (a' := ?_) #[true, true, true, true, true, false, false, false, false, false, false, false, false, false, false, false] rfl rfl (any_of HT_.out (by kernel_rfl)) (fun _ _ _ h => h) (Or.inl ⟨by rfl, ?_⟩) ?_ ?_
    rotate_left
    · intro w'
      go_simp
      with_reducible rfl
    rotate_left
    · simp only [Act.put, zSa, zSb, zSc, i64_w, i32_w]
      rfl
    refine pure_ (i := 5) (N := some 19) (v := ?_) (a' := ?_) #[true, true, true, true, true, true, false, false, false, false, false, false, false, false, false, false] rfl rfl (any_of HT_.out (by kernel_rfl)) (fun _ _ _ h => h) (Or.inl ⟨by rfl, ?_⟩) ?_ ?_
    rotate_left
    · intro w'
      go_simp
      with_reducible rfl
    rotate_left
    · simp only [Act.put, zSa, zSb, zSc, i64_w, i32_w]
      rfl
    refine pure_ (i := 6) (N := some 20) (v := ?_) (a' := ?_) #[true, true, true, true, true, true, true, false, false, false, false, false, false, false, false, false] rfl rfl (any_of HT_.out (by kernel_rfl)) (fun _ _ _ h => h) (Or.inl ⟨by rfl, ?_⟩) ?_ ?_
    rotate_left
    · intro w'
      go_simp
      with_reducible rfl
    rotate_left
    · simp only [Act.put, zSa, zSb, zSc, i64_w, i32_w]
      rfl
    refine pure_ (i := 8) (N := some 22) (v := ?_) (a' := ?_) #[true, true, true, true, true, true, true, false, true, false, false, false, false, false, false, false] rfl rfl (any_of HT_.out (by kernel_rfl)) (fun _ _ _ h => h) (Or.inl ⟨by rfl, ?_⟩) ?_ ?_
    rotate_left
    · intro w'
      go_simp
      with_reducible rfl
    rotate_left
    · simp only [Act.put, zSa, zSb, zSc, i64_w, i32_w]
      rfl
    refine pure_ (i := 9) (N := some 23) (v := ?_) (a' := ?_) #[true, true, true, true, true, true, true, false, true, true, false, false, false, false, false, false] rfl rfl (any_of HT_.out (by kernel_rfl)) (fun _ _ _ h => h) (Or.inl ⟨by rfl, ?_⟩) ?_ ?_
    rotate_left
    · intro w'
      go_simp
      with_reducible rfl
    rotate_left
    · simp only [Act.put, zSa, zSb, zSc, i64_w, i32_w]
      rfl
    refine pure_ (i := 10) (N := some 24) (v := ?_) (a' := ?_) #[true, true, true, true, true, true, true, false, true, true, true, false, false, false, false, false] rfl rfl (any_of HT_.out (by kernel_rfl)) (fun _ _ _ h => h) (Or.inl ⟨by rfl, ?_⟩) ?_ ?_
    rotate_left
    · intro w'
      go_simp
      with_reducible rfl
    rotate_left
    · simp only [Act.put, zSa, zSb, zSc, i64_w, i32_w]
      rfl
    refine take_ (i := 7) (N := some 21) (v := ?_) (a' := ?_) #[true, true, true, true, true, true, true, true, true, true, true, false, false, false, false, false] rfl rfl (take_ofW HT_.out HW_.out (by kernel_rfl)) (fun _ _ _ h => h) (Or.inl ⟨by rfl, ?_⟩) hHeld ?_ ?_
    rotate_left
    · rintro w' ⟨s0, s1⟩
      go_simp
      with_reducible rfl
    rotate_left
    · simp only [Act.put, zSa, zSb, zSc, i64_w, i32_w]
      rfl
    refine take_ (i := 11) (N := some 25) (v := ?_) (a' := ?_) #[true, true, true, true, true, true, true, true, true, true, true, true, false, false, false, false] rfl rfl (take_ofW HT_.out HW_.out (by kernel_rfl)) (fun _ _ _ h => h) (Or.inl ⟨by rfl, ?_⟩) hHeld ?_ ?_
    rotate_left
    · rintro w' ⟨s0, s1⟩
      go_simp
      with_reducible rfl
    rotate_left
    · simp only [Act.put, zSa, zSb, zSc, i64_w, i32_w]
      rfl
    refine pure_ (i := 12) (N := some 26) (v := ?_) (a' := ?_) #[true, true, true, true, true, true, true, true, true, true, true, true, true, false, false, false] rfl rfl (any_of HT_.out (by kernel_rfl)) (fun _ _ _ h => h) (Or.inl ⟨by rfl, ?_⟩) ?_ ?_
    rotate_left
    · intro w'
      go_simp
      with_reducible rfl
    rotate_left
    · simp only [Act.put, zSa, zSb, zSc, i64_w, i32_w]
      rfl
    refine last_ (i := 13) (N := none) #[true, true, true, true, true, true, true, true, true, true, true, true, true, true, false, false] rfl rfl (one_of HT_.out (by kernel_rfl)) (by decide) (fun K hK => ?_)
    refine skip_ (w1 := ?_) (by rfl) rfl ?_ ?_
    rotate_left
    · go_simp
      rfl
    refine hK.out _ _ ?_
    clear hK K
    refine pure_ (i := 14) (N := some 27) (v := ?_) (a' := ?_) #[true, true, true, true, true, true, true, true, true, true, true, true, true, true, true, false] rfl rfl (any_of HT_.out (by kernel_rfl)) (fun _ _ _ h => h) (Or.inl ⟨by rfl, ?_⟩) ?_ ?_
    rotate_left
    · intro w'
      go_simp
      with_reducible rfl
    rotate_left
    · simp only [Act.put, zSa, zSb, zSc, i64_w, i32_w]
      rfl
    refine last_ (i := 15) (N := none) #[true, true, true, true, true, true, true, true, true, true, true, true, true, true, true, true] rfl rfl (one_of HT_.out (by kernel_rfl)) (by decide) (fun K hK => ?_)
    refine skip_ (w1 := ?_) (by rfl) rfl ?_ ?_
    rotate_left
    · go_simp
      rfl
    refine hK.out _ _ ?_
    clear hK K
    refine done_ (done_of HT_.out (by kernel_rfl)) ?_
    try go_wp2
    (try simp only [← hl0_1])
    go_roundg k1
    case measure => have := HK1.out; omega
    case rel => exact ⟨(y342), (wrap64 (x2_1 + 1)), (wrap64 (x3_1 - 1)), (by first | rfl | (simp; done) | (simp [*]; done)), (by first | rfl | (simp; done) | (simp [*]; done)), H', ⟨by have := HK1.out; omega⟩, ⟨by (try simp only [hl0_1]); exact uR HQ12.out⟩, ⟨by repeat (first | (with_reducible first | exact HK.out | apply Kept.alloc | apply Kept.drewN | apply Kept.drew | refine Kept.setCell ?_ HMgo8.out _ | refine Kept.setCell ?_ HMgo8.out _) | exact HK.out)⟩, ⟨by exact uT HB.out⟩⟩
  · rw [if_neg c3] at H
    have c3b0 : decide (x2_1 < x3_1) = false := decide_eq_false c3
    (try (have c3b0l := c3b0; simp only [hl0_1] at c3b0l))
    clear c3
    obtain rfl := zOi H
    go_wp2
    first | go_end0 | ((try simp only [Exit.inBlock, Exit.then]); refine bodyPost_ret (results_none rfl _ _ _) rfl ?_)
    exact ⟨by first | rfl | (simp [errW_none, errW_some] <;> rfl) | (simp [*, errW_none, errW_some] <;> rfl), (by first | exact (by exact uR HO_0.out) | (simp only [hl0_1]; exact (by exact uR HO_0.out))), by exact uT HB.out, by repeat (first | (with_reducible first | exact HK.out | apply Kept.alloc | apply Kept.drewN | apply Kept.drew) | exact HK.out)⟩



def strings_Join.f (l0 : List ByteArray) (a1 : ByteArray) : Option ByteArray := match l0 with
  | [] => some ⟨#[]⟩
  | [s] => some s
  | _ => none
theorem strings_Join.calls (A0 : Option Addr) (c0 : Nat) (l0 : List ByteArray) (a1 : ByteArray) (r : ByteArray) (w : World) (hr0 : Kd.C Kd.string w A0 l0.length l0) (hc0 : l0.length ≤ c0) (h : strings_Join.f l0 a1 = some r) :
    Calls Tryd.prog 76 #[.slice A0 l0.length c0, .string a1] w fun e w' => e = .returned (.string r) ∧ Drawn0 w w' := by
  match l0, hr0, hc0, h with
  | [], hr0, hc0, h =>
    obtain rfl := zOi h
    clear hr0 hc0 h
    go_enter Tryd.func76, Tryd.ntmps76
    (try simp only [zLn])
    go_wp2
    go_ret
    exact ⟨rfl, ⟨0, rfl⟩⟩
  | [s], hr0, hc0, h =>
    obtain rfl := zOi h
    obtain ⟨ad, e, hx⟩ := Kd.at_string hr0 0 (by omega) (by simp)
    subst e
    clear hr0 hc0 h
    have hx : w.cell? (ad.add 0) = some (.string s) := hx
    have hx : w.cell? ad = some (.string s) := by first | simpa using hx | (rw [show ad.add 0 = ad from by cases ad; rfl] at hx; exact hx)
    go_enter Tryd.func76, Tryd.ntmps76
    (try simp only [zLc, zLn, Nat.zero_add])
    go_wp2
    go_ret
    exact ⟨rfl, ⟨0, rfl⟩⟩
  | _ :: _ :: _, _, _, h => cases h



def strings_Repeat.f (a0 : ByteArray) (a1 : Int) : Option ByteArray := none
theorem strings_Repeat.calls (a0 : ByteArray) (a1 : Int) (r : ByteArray) (w : World) (h : strings_Repeat.f a0 a1 = some r) :
    Calls Tryd.prog 77 #[.string a0, .int .i64 a1] w fun e w' => e = .returned (.string r) ∧ Drawn0 w w' := by cases h


def n_Text.l0 : Nat → List Int → List ByteArray → Option (ByteArray)
  | 0, _, _ => none
  | k + 1, x0, x3 => (n_small.f x0 1000000000).bind fun bt349 => ((strconv_Itoa_74.f (wrap64 (bt349.2))).bind fun t353 => (if (bt349.1.length : Int) = 0 then (if x3.length < 8796093022208 then ((slices_Reverse_string_string.f k (x3 ++ [t353])).bind fun t357 => ((strings_Join.f t357 (⟨#[]⟩ : ByteArray)).bind fun t358 => (some t358))) else (none)) else ((strings_Repeat.f (⟨#[48]⟩ : ByteArray) (wrap64 (9 - (t353.size : Int)))).bind fun t359 => (if t359.size + t353.size ≤ 9223372036854775807 then (if x3.length < 8796093022208 then (n_Text.l0 k bt349.1 (x3 ++ [t359 ++ t353])) else (none)) else (none)))))
def n_Text.f (k : Nat) (l0 : List Int) : Option (ByteArray) := (n_cut.f l0).bind fun t346 => (n_Text.l0 k t346 ([] : List ByteArray))
theorem n_Text.calls (k : Nat) (A0 : Option Addr) (c0 : Nat) (l0 : List Int) (r : ByteArray) (w : World) (hr0 : Kd.C (Kd.int .u32) w A0 l0.length l0) (hc0 : l0.length ≤ c0) (h : n_Text.f k l0 = some r) :
    Calls Tryd.prog 54 #[.slice A0 l0.length c0] w fun e w' => e = .returned (.string r) ∧ Below w.heap.size w w' := by
  have HR0 := zMk hr0
  have HC0 := zMk hc0
  clear hr0 hc0
  have HB := zMk (Below.refl w.heap.size w)
  have H : ((n_cut.f l0).bind fun t346 => (n_Text.l0 k t346 ([] : List ByteArray))) = some r := h
  clear h
  replace H := bnd H
  obtain ⟨t346, A20, H⟩ := H
  have A2 := zMk A20
  clear A20
  have H' := zMk H
  clear H
  go_enter Tryd.func54, Tryd.ntmps54
  go_wp2_with (first | ((with_reducible refine gate_callee (f := 56) rfl ?_); refine goesL_ (some 8) rfl rfl Tryd.func56 (by kernel_rfl) rfl #[.slice A0 l0.length c0] rfl (by (try simp only [zMa, zMc, zMn]); first |  done|  rfl|  (simp only [zLd, zLt]; rfl)) ?_; (with_reducible refine (n_cut.calls (fun k_ => k_ < w.heap.size) _ _ l0 t346 _ ?side1 A2.out).mono ?_); (case side1 => exact Kd.V_mk HC0.out (Kd.F_below (Kd.C_F (Kd.heap_int .u32) HR0.out) (by exact uT HB.out))); rintro e w3 ⟨v347, rfl, ho0, hb⟩; refine ⟨_, rfl, ?_⟩; have HO348 := zMk (zVl (zVm (ok' := fun k_ => True) ho0 (fun k_ hk_ => trivial)) (zBs (by exact uT HB.out))); replace HB := zMk (zBt (by exact uT HB.out) hb)))
  go_loopg [0, 3] k (fun kq v0 v3 w' => ∃ (x0_1 : List Int) (x3_1 : List ByteArray), Aside0 (n_Text.l0 kq x0_1 x3_1 = some r) ∧ Aside0 (kq ≤ k) ∧ Aside0 (Kd.V (Kd.int .u32) 58 w' w.heap.size (fun k_ => some k_ ≠ (v3 : Value).ownBlock) v0 x0_1) ∧ Aside0 (Kd.R Kd.string 9 w' w.heap.size (fun _ => True) v3 x3_1) ∧ Aside0 (Below w.heap.size w w'))
  case atStart => exact ⟨(t346), (([] : List ByteArray)), H', ⟨Nat.le_refl _⟩, ⟨by (with_reducible repeat (first | apply zVa | apply zVn | apply zVd)); exact zVm HO348.out (fun _ hk => (by simp [Value.ownBlock]))⟩, ⟨by first | exact Kd.R_nil _ _ _ _ _ | exact Kd.N_nil _ _ _ _ _ | exact Kd.V_nil _ _ _ _ _ | exact Kd.Q_nil _ _ _ _ _ | exact Kd.S_nil _ _ _ _ _⟩, ⟨by exact uT HB.out⟩⟩
  clear H'
  obtain ⟨x0_1, x3_1, HA, HK1, HO_0, HO_3, HB⟩ := hrel
  rcases gk with _ | k1
  · exact absurd HA.out (by simp [n_Text.l0])
  have H := HA.out
  clear HA
  simp only [n_Text.l0] at H
  replace H := bnd H
  obtain ⟨⟨t349, t352⟩, A40, H⟩ := H
  replace H : ((strconv_Itoa_74.f (wrap64 (t352))).bind fun t353 => (if (t349.length : Int) = 0 then (if x3_1.length < 8796093022208 then ((slices_Reverse_string_string.f k1 (x3_1 ++ [t353])).bind fun t357 => ((strings_Join.f t357 (⟨#[]⟩ : ByteArray)).bind fun t358 => (some t358))) else (none)) else ((strings_Repeat.f (⟨#[48]⟩ : ByteArray) (wrap64 (9 - (t353.size : Int)))).bind fun t359 => (if t359.size + t353.size ≤ 9223372036854775807 then (if x3_1.length < 8796093022208 then (n_Text.l0 k1 t349 (x3_1 ++ [t359 ++ t353])) else (none)) else (none))))) = some r := H
  have A4 := zMk A40
  clear A40
  replace H := bnd H
  obtain ⟨t353, A50, H⟩ := H
  have hrw_ : t353.size ≤ 9223372036854775807 → wrap64 (9 - (t353.size : Int)) = 9 - (t353.size : Int) := fun h_ => (by unfold wrap64; omega)
  replace H : (if (t349.length : Int) = 0 then (if x3_1.length < 8796093022208 then ((slices_Reverse_string_string.f k1 (x3_1 ++ [t353])).bind fun t357 => ((strings_Join.f t357 (⟨#[]⟩ : ByteArray)).bind fun t358 => (some t358))) else (none)) else ((strings_Repeat.f (⟨#[48]⟩ : ByteArray) (wrap64 (9 - (t353.size : Int)))).bind fun t359 => (if t359.size + t353.size ≤ 9223372036854775807 then (if x3_1.length < 8796093022208 then (n_Text.l0 k1 t349 (x3_1 ++ [t359 ++ t353])) else (none)) else (none)))) = some r := H
  have A5 := zMk A50
  clear A50
  by_cases c6 : (t349.length : Int) = 0
  · rw [if_pos c6] at H
    have c6b0 : ((t349.length : Int) == 0) = true := beq_iff_eq.mpr c6
    have c6b1 : ((t349.length : Int) != 0) = false := bne_eq_false_iff_eq.mpr c6
    clear c6
    by_cases c7 : x3_1.length < 8796093022208
    rotate_left
    · rw [if_neg c7] at H; exact absurd H (by simp)
    rw [if_pos c7] at H
    have LMc7 := zMk c7
    clear c7
    obtain ⟨y354, hy354⟩ : ∃ y_ : List ByteArray, y_ = (x3_1 ++ [t353]) := ⟨_, rfl⟩
    replace H : ((slices_Reverse_string_string.f k1 y354).bind fun t357 => ((strings_Join.f t357 (⟨#[]⟩ : ByteArray)).bind fun t358 => (some t358))) = some r := by first | (rw [hy354]; with_reducible exact H) | (have H2_ := bsm H; first | (rw [hy354]; with_reducible exact H2_) | with_reducible exact H2_) | with_reducible exact H | (rw [hy354]; exact H) | exact H
    have Ny354 := zMk hy354
    clear hy354
    replace H := bnd H
    obtain ⟨t357, A80, H⟩ := H
    have A8 := zMk A80
    clear A80
    replace H := bnd H
    obtain ⟨t358, A90, H⟩ := H
    have A9 := zMk A90
    clear A90
    obtain rfl := zOi H
    obtain ⟨Ao10, co10, eo10⟩ := zVs HO_0.out
    subst eo10
    go_wp2_with (first | ((with_reducible refine gate_callee (f := 58) rfl ?_); refine goesL_ (some 11) rfl rfl Tryd.func58 (by kernel_rfl) rfl #[.slice Ao10 x0_1.length co10, .int .u32 1000000000] rfl (by (try simp only [zMa, zMc, zMn]); first |  done|  rfl|  (simp only [zLd, zLt]; rfl)) ?_; (with_reducible refine (n_small.calls _ _ x0_1 1000000000 t349 t352 _ ?side1 ?side2 A4.out).mono ?_); (case side1 => exact uC (zVr HO_0.out).2.2); (case side2 => exact (zVr HO_0.out).2.1); rintro e w11 ⟨v350, rfl, ho0, hb⟩; refine ⟨_, rfl, ?_⟩; replace HO_0 := zMk (zVb (by exact uV HO_0.out) hb); have HO351 := zMk (zVl (zVm (ok' := fun k_ => some k_ ≠ (u3 : Value).ownBlock) ho0 (fun k_ hk_ => (Kd.fresh' (zRt (by exact uR HO_3.out)) k_ hk_))) (zBs (by exact uT HB.out))); replace HO_3 := zMk (zRb (by exact uR HO_3.out) hb); replace HB := zMk (zBt (by exact uT HB.out) hb))|((with_reducible refine gate_callee (f := 74) rfl ?_); refine goesL_ (some 16) rfl rfl Tryd.func74 (by kernel_rfl) rfl #[.int .i64 (wrap64 (t352))] rfl (by (try simp only [zMa, zMc, zMn]); first |  done|  rfl|  (simp only [zLd, zLt]; rfl)) ?_; (with_reducible refine (strconv_Itoa_74.calls (wrap64 (t352)) t353 _ A5.out).mono ?_); rintro e w' ⟨rfl, ⟨nd, rfl⟩⟩; refine ⟨_, rfl, ?_⟩; obtain ⟨Ao12, co12, eo12⟩ := zVs HO351.out; subst eo12)|((with_reducible refine gate_builtin (b := .append) (xs := #[.tmp 20, .tmp 22]) rfl ?_); at_builtin; refine Kd.R_append Kd.string (w0 := w) w.heap.size rfl (.tmp 20) (.tmp 22) 78 9 (.string ⟨#[]⟩) 16 rfl Tryd.underlying78 info9 rfl (by decide) (by omega) u3 x3_1 t353 [.string t353] (fun _ => True) (fun _ => False) rfl rfl ?aP (fun _ hk => hk.elim) ?aF ?aO ?aB ?aS ?aL ?_; (case aP => exact rfl); (case aB => exact (by exact uT HB.out)); (case aF => exact (fun _ _ => trivial)); (case aO => exact (by exact uR HO_3.out)); (case aS => exact (zBs (by exact uT HB.out))); (case aL => have := LMc7.out; omega); intro v355 w13 ho hb hg hat; rw [← Ny354.out] at ho; replace HO_0 := zMk (Kd.V_afterv (ok := (fun _ => True)) (by (with_reducible repeat (first |  apply zVa|  apply zVn|  apply zVd)); exact zVm HO_0.out (fun _ hk => ⟨trivial, hk⟩)) hg hat); replace HO351 := zMk (Kd.V_afterv (ok := (fun _ => True)) (by (with_reducible repeat (first |  apply zVa|  apply zVn|  apply zVd)); exact zVm HO351.out (fun _ hk => ⟨trivial, hk⟩)) hg hat); replace HB := zMk (hb); have HO356 := zMk (ho); clear HO_3 ho hb hg hat; obtain ⟨Ao14, co14, eo14⟩ := zRs HO356.out; subst eo14)|((with_reducible refine gate_callee (f := 75) rfl ?_); refine goesL_ (some 25) rfl rfl Tryd.func75 (by kernel_rfl) rfl #[.slice Ao14 y354.length co14] rfl (by (try simp only [zMa, zMc, zMn]); first |  done|  rfl|  (simp only [zLd, zLt]; rfl)) ?_; (with_reducible refine (slices_Reverse_string_string.calls k1 (fun k_ => some k_ = (.slice Ao14 y354.length co14 : Value).ownBlock) (.slice Ao14 y354.length co14) y354 t357 w _ ?side1 ?side2 A8.out).mono ?_); (case side1 => exact uT HB.out); (case side2 => exact Kd.R_tight rfl HO356.out); rintro e w15 ⟨rfl, hy0, hb, hkp⟩; refine ⟨_, rfl, ?_⟩; replace HO_0 := zMk (zVm (ok' := fun k_ => some k_ ≠ (.slice Ao14 y354.length co14 : Value).ownBlock) (Kd.V_keptB (HO_0.out) hkp (fun k_ hk_ hs_ => (hk_.2) hs_)) (fun k_ hk_ => hk_.1.2)); replace HO351 := zMk (zVm (ok' := fun k_ => some k_ ≠ (.slice Ao14 y354.length co14 : Value).ownBlock) (Kd.V_keptB (HO351.out) hkp (fun k_ hk_ hs_ => (hk_.2) hs_)) (fun k_ hk_ => hk_.1.2)); replace HO356 := zMk (Kd.R_reok rfl hy0 (fun k_ e_ => HO356.out.1 k_ e_)); replace HB := zMk (hb))|((with_reducible refine gate_callee (f := 76) rfl ?_); refine goesL_ (some 27) rfl rfl Tryd.func76 (by kernel_rfl) rfl #[.slice Ao14 t357.length co14, .string (⟨#[]⟩ : ByteArray)] rfl (by (try simp only [zMa, zMc, zMn]); first |  done|  (rw [show t357.length = y354.length from (zRr HO356.out).1.symm] <;> rfl)|  rfl|  (simp only [zLd, zLt]; rfl)) ?_; (with_reducible refine (strings_Join.calls _ _ t357 (⟨#[]⟩ : ByteArray) t358 _ ?side1 ?side2 A9.out).mono ?_); (case side1 => exact uC (zRr HO356.out).2.2); (case side2 => rw [show t357.length = y354.length from (zRr HO356.out).1.symm]; exact (zRr HO356.out).2.1); rintro e w' ⟨rfl, ⟨nd, rfl⟩⟩; refine ⟨_, rfl, ?_⟩))
    go_ret
    exact ⟨by first | rfl | (simp [errW_none, errW_some] <;> rfl) | (simp [*, errW_none, errW_some] <;> rfl), by exact uT HB.out⟩
  · rw [if_neg c6] at H
    have c6b0 : ((t349.length : Int) == 0) = false := beq_eq_false_iff_ne.mpr c6
    have c6b1 : ((t349.length : Int) != 0) = true := bne_iff_ne.mpr c6
    have c6b2 : ¬ (t349 = []) := fun h_ => c6 (by rw [h_]; rfl)
    replace H := bnd H
    obtain ⟨t359, A160, H⟩ := H
    have A16 := zMk A160
    clear A160
    by_cases c17 : t359.size + t353.size ≤ 9223372036854775807
    · rw [if_pos c17] at H
      have c17b0 := eq_true c17
      have c17b1 : decide (t359.size + t353.size ≤ 9223372036854775807) = true := decide_eq_true c17
      try have c17b2 : (9223372036854775807 < t359.size + t353.size) = False := eq_false (Nat.not_lt.2 c17)
      by_cases c18 : x3_1.length < 8796093022208
      rotate_left
      · rw [if_neg c18] at H; exact absurd H (by simp)
      rw [if_pos c18] at H
      have LMc18 := zMk c18
      clear c18
      obtain ⟨y360, hy360⟩ : ∃ y_ : List ByteArray, y_ = (x3_1 ++ [t359 ++ t353]) := ⟨_, rfl⟩
      replace H : (n_Text.l0 k1 t349 y360) = some r := by first | (rw [hy360]; with_reducible exact H) | (have H2_ := bsm H; first | (rw [hy360]; with_reducible exact H2_) | with_reducible exact H2_) | with_reducible exact H | (rw [hy360]; exact H) | exact H
      have Ny360 := zMk hy360
      clear hy360
      have H' := zMk H
      clear H
      obtain ⟨Ao19, co19, eo19⟩ := zVs HO_0.out
      subst eo19
      go_wp2_with (first | ((with_reducible refine gate_callee (f := 58) rfl ?_); refine goesL_ (some 11) rfl rfl Tryd.func58 (by kernel_rfl) rfl #[.slice Ao19 x0_1.length co19, .int .u32 1000000000] rfl (by (try simp only [zMa, zMc, zMn]); first |  done|  rfl|  (simp only [zLd, zLt]; rfl)) ?_; (with_reducible refine (n_small.calls _ _ x0_1 1000000000 t349 t352 _ ?side1 ?side2 A4.out).mono ?_); (case side1 => exact uC (zVr HO_0.out).2.2); (case side2 => exact (zVr HO_0.out).2.1); rintro e w20 ⟨v350, rfl, ho0, hb⟩; refine ⟨_, rfl, ?_⟩; replace HO_0 := zMk (zVb (by exact uV HO_0.out) hb); have HO351 := zMk (zVl (zVm (ok' := fun k_ => some k_ ≠ (u3 : Value).ownBlock) ho0 (fun k_ hk_ => (Kd.fresh' (zRt (by exact uR HO_3.out)) k_ hk_))) (zBs (by exact uT HB.out))); replace HO_3 := zMk (zRb (by exact uR HO_3.out) hb); replace HB := zMk (zBt (by exact uT HB.out) hb))|((with_reducible refine gate_callee (f := 74) rfl ?_); refine goesL_ (some 16) rfl rfl Tryd.func74 (by kernel_rfl) rfl #[.int .i64 (wrap64 (t352))] rfl (by (try simp only [zMa, zMc, zMn]); first |  done|  rfl|  (simp only [zLd, zLt]; rfl)) ?_; (with_reducible refine (strconv_Itoa_74.calls (wrap64 (t352)) t353 _ A5.out).mono ?_); rintro e w' ⟨rfl, ⟨nd, rfl⟩⟩; refine ⟨_, rfl, ?_⟩; obtain ⟨Ao21, co21, eo21⟩ := zVs HO351.out; subst eo21)|((with_reducible refine gate_callee (f := 77) rfl ?_); refine goesL_ (some 32) rfl rfl Tryd.func77 (by kernel_rfl) rfl #[.string (⟨#[48]⟩ : ByteArray), .int .i64 (9 - (t353.size : Int))] rfl (by (try simp only [zMa, zMc, zMn]); first |  done|  rfl|  (simp only [zLd, zLt]; rfl)) ?_; (with_reducible refine (strings_Repeat.calls (⟨#[48]⟩ : ByteArray) (9 - (t353.size : Int)) t359 _ (by rw [← hrw_ (by omega)]; exact A16.out)).mono ?_); rintro e w' ⟨rfl, ⟨nd, rfl⟩⟩; refine ⟨_, rfl, ?_⟩)|((with_reducible refine gate_builtin (b := .append) (xs := #[.tmp 28, .tmp 35]) rfl ?_); at_builtin; refine Kd.R_append Kd.string (w0 := w) w.heap.size rfl (.tmp 28) (.tmp 35) 78 9 (.string ⟨#[]⟩) 16 rfl Tryd.underlying78 info9 rfl (by decide) (by omega) u3 x3_1 (t359 ++ t353) [.string (t359 ++ t353)] (fun _ => True) (fun _ => False) rfl rfl ?aP (fun _ hk => hk.elim) ?aF ?aO ?aB ?aS ?aL ?_; (case aP => exact rfl); (case aB => exact (by exact uT HB.out)); (case aF => exact (fun _ _ => trivial)); (case aO => exact (by exact uR HO_3.out)); (case aS => exact (zBs (by exact uT HB.out))); (case aL => have := LMc18.out; omega); intro v361 w22 ho hb hg hat; rw [← Ny360.out] at ho; replace HO_0 := zMk (Kd.V_afterv (ok := (fun _ => True)) (by (with_reducible repeat (first |  apply zVa|  apply zVn|  apply zVd)); exact zVm HO_0.out (fun _ hk => ⟨trivial, hk⟩)) hg hat); replace HO351 := zMk (Kd.V_afterv (ok := (fun _ => True)) (by (with_reducible repeat (first |  apply zVa|  apply zVn|  apply zVd)); exact zVm HO351.out (fun _ hk => ⟨trivial, hk⟩)) hg hat); replace HB := zMk (hb); have HO362 := zMk (ho); clear HO_3 ho hb hg hat))
      go_roundg k1
      case measure => have := HK1.out; omega
      case rel => exact ⟨(t349), (y360), H', ⟨by have := HK1.out; omega⟩, ⟨by (with_reducible repeat (first | apply zVa | apply zVn | apply zVd)); exact zVm HO351.out (fun _ hk => hk.2)⟩, ⟨by exact uR HO362.out⟩, ⟨by exact uT HB.out⟩⟩
    · rw [if_neg c17] at H
      exact absurd H (by simp)


def integer_Text.f (k : Nat) (a0_0 : Bool) (l0_1 : List Int) : Option (ByteArray) := (integer_Norm.f a0_0 l0_1).bind fun bt364 => (if bt364.1 = true then ((n_Text.f k l0_1).bind fun t368 => (if 1 + t368.size ≤ 9223372036854775807 then (some ((⟨#[45]⟩ : ByteArray) ++ t368)) else (none))) else ((n_Text.f k l0_1).bind fun t369 => (if 0 + t369.size ≤ 9223372036854775807 then (some ((⟨#[]⟩ : ByteArray) ++ t369)) else (none))))
theorem integer_Text.calls (k : Nat) (a0_0 : Bool) (A0_1 : Option Addr) (c0_1 : Nat) (l0_1 : List Int) (r : ByteArray) (w : World) (hr0_1 : Kd.C (Kd.int .u32) w A0_1 l0_1.length l0_1) (hc0_1 : l0_1.length ≤ c0_1) (h : integer_Text.f k a0_0 l0_1 = some r) :
    Calls Tryd.prog 29 #[.agg #[.bool a0_0, .slice A0_1 l0_1.length c0_1]] w fun e w' => e = .returned (.string r) ∧ Below w.heap.size w w' := by
  have hu24 := Tryd.underlying24
  have hfd24_0 : ∀ (w_ : World) (b0_ : Bool) (A1_ : Option Addr) (n1_ c1_ : Nat), (Instr.field 24 (.agg #[.bool b0_, .slice A1_ n1_ c1_]) 0).run Tryd.prog w_ = .ok (.bool b0_) w_ := by intros; kernel_rfl
  have HR0_1 := zMk hr0_1
  have HC0_1 := zMk hc0_1
  clear hr0_1 hc0_1
  have HB := zMk (Below.refl w.heap.size w)
  have H : ((integer_Norm.f a0_0 l0_1).bind fun bt364 => (if bt364.1 = true then ((n_Text.f k l0_1).bind fun t368 => (if 1 + t368.size ≤ 9223372036854775807 then (some ((⟨#[45]⟩ : ByteArray) ++ t368)) else (none))) else ((n_Text.f k l0_1).bind fun t369 => (if 0 + t369.size ≤ 9223372036854775807 then (some ((⟨#[]⟩ : ByteArray) ++ t369)) else (none))))) = some r := h
  clear h
  replace H := bnd H
  obtain ⟨⟨t364, t365⟩, A20, H⟩ := H
  replace H : (if t364 = true then ((n_Text.f k l0_1).bind fun t368 => (if 1 + t368.size ≤ 9223372036854775807 then (some ((⟨#[45]⟩ : ByteArray) ++ t368)) else (none))) else ((n_Text.f k l0_1).bind fun t369 => (if 0 + t369.size ≤ 9223372036854775807 then (some ((⟨#[]⟩ : ByteArray) ++ t369)) else (none)))) = some r := H
  have A2 := zMk A20
  clear A20
  by_cases c3 : t364 = true
  · subst c3
    replace H : ((n_Text.f k l0_1).bind fun t368 => (if 1 + t368.size ≤ 9223372036854775807 then (some ((⟨#[45]⟩ : ByteArray) ++ t368)) else (none))) = some r := by rw [if_pos rfl] at H; exact H
    replace H := bnd H
    obtain ⟨t368, A40, H⟩ := H
    have A4 := zMk A40
    clear A40
    by_cases c5 : 1 + t368.size ≤ 9223372036854775807
    rotate_left
    · rw [if_neg c5] at H; exact absurd H (by simp)
    rw [if_pos c5] at H
    have c5b0 := eq_true c5
    have c5b1 : decide (1 + t368.size ≤ 9223372036854775807) = true := decide_eq_true c5
    try have c5b2 : (9223372036854775807 < 1 + t368.size) = False := eq_false (Nat.not_lt.2 c5)
    obtain rfl := zOi H
    go_enter Tryd.func29, Tryd.ntmps29
    go_wp2_with (first | ((with_reducible refine gate_dst (N := 1) rfl ?_); refine box_event ?hg (N := 1) ?hd (cs := #[.bool a0_0, .slice A0_1 l0_1.length c0_1]) (t := 24) ?hr ?_; (case hd => rfl); (case hg => rfl); (case hr => first | (go_simp; done)|(go_simp; rfl)|(go_simp; rw [show ∀ x : Int, IntKind.u32.wrap (IntKind.u8.wrap x) = x % 256 from fun x => (by show (x % 256) % 4294967296 = x % 256; omega)])); intro gb363 hg w6 hbox hb; have BK363 := zMk (hbox); have GW363 := zMk ((by rw [hg]; exact (zBs (by exact uT HB.out)) : w.heap.size ≤ gb363)); have GE363 := zMk ((by rw [hg]; exact (zBs (by exact uT HB.out)) : w.heap.size ≤ gb363)); have IGE363 := ownGe GE363.out; replace HB := zMk (zBt (by exact uT HB.out) hb); clear hb hbox hg; have hcz7_0 : w6.cell? ⟨gb363, 0, none⟩ = some (.bool a0_0) := (zKc BK363.out 0).trans rfl; have hcz7_1 : w6.cell? ⟨gb363, 1, none⟩ = some (.slice A0_1 l0_1.length c0_1) := (zKc BK363.out 1).trans rfl; have hfz7_0 := zKf BK363.out 0; have hfz7_1 := zKf BK363.out 1)|((with_reducible refine gate_callee (f := 47) rfl ?_); refine goesL_ (some 5) rfl rfl Tryd.func47 (by kernel_rfl) rfl #[.agg #[.bool a0_0, .slice A0_1 l0_1.length c0_1]] rfl (by (try simp only [zMa, zMc, zMn]); first |  done|  rfl|  (simp only [zLd, zLt]; rfl)) ?_; (with_reducible refine (integer_Norm.calls a0_0 _ _ l0_1 true t365 _ ?side1 ?side2 A2.out).mono ?_); (case side1 => repeat (first |  exact (Kd.C_below HR0_1.out HB.out)|(with_reducible refine zCa ?_ _)|(with_reducible refine zCn ?_ _)|(with_reducible refine zCd ?_))); (case side2 => exact HC0_1.out); rintro e w8 ⟨v366, rfl, ho0, hb⟩; refine ⟨_, rfl, ?_⟩; have HO367 := zMk (zRl ho0 (zBs (by exact uT HB.out))); replace BK363 := zMk (zKb (g := gb363) (o := .cells #[.bool a0_0, .slice A0_1 l0_1.length c0_1] 24 (0, 0)) (by (with_reducible repeat (first |  refine zKn ?_ _|  refine zKd ?_|  refine zKa ?_ _)); exact BK363.out) hb); replace HB := zMk (zBt (by exact uT HB.out) hb); obtain ⟨Ao9, co9, eo9⟩ := zRs HO367.out; subst eo9; have hcz10_0 : w8.cell? ⟨gb363, 0, none⟩ = some (.bool a0_0) := (zKc BK363.out 0).trans rfl; have hcz10_1 : w8.cell? ⟨gb363, 1, none⟩ = some (.slice A0_1 l0_1.length c0_1) := (zKc BK363.out 1).trans rfl; have hfz10_0 := zKf BK363.out 0; have hfz10_1 := zKf BK363.out 1)|((with_reducible refine gate_callee (f := 54) rfl ?_); refine goesL_ (some 10) rfl rfl Tryd.func54 (by kernel_rfl) rfl #[.slice A0_1 l0_1.length c0_1] rfl (by (try simp only [zMa, zMc, zMn]); first |  done|  rfl|  (simp only [zLd, zLt]; rfl)) ?_; (with_reducible refine (n_Text.calls k _ _ l0_1 t368 _ ?side1 ?side2 A4.out).mono ?_); (case side1 => repeat (first |  exact (Kd.C_below HR0_1.out HB.out)|(with_reducible refine zCa ?_ _)|(with_reducible refine zCn ?_ _)|(with_reducible refine zCd ?_))); (case side2 => exact HC0_1.out); rintro e w11 ⟨rfl, hb⟩; refine ⟨_, rfl, ?_⟩; replace HO367 := zMk (zRb (by exact uR HO367.out) hb); replace BK363 := zMk (zKb (g := gb363) (o := .cells #[.bool a0_0, .slice A0_1 l0_1.length c0_1] 24 (0, 0)) (by (with_reducible repeat (first |  refine zKn ?_ _|  refine zKd ?_|  refine zKa ?_ _)); exact BK363.out) hb); replace HB := zMk (zBt (by exact uT HB.out) hb)))
    go_ret
    exact ⟨by first | rfl | (simp [errW_none, errW_some] <;> rfl) | (simp [*, errW_none, errW_some] <;> rfl), by exact uT HB.out⟩
  · replace c3 := Bool.eq_false_iff.mpr c3
    subst c3
    replace H : ((n_Text.f k l0_1).bind fun t369 => (if 0 + t369.size ≤ 9223372036854775807 then (some ((⟨#[]⟩ : ByteArray) ++ t369)) else (none))) = some r := by rw [if_neg (show ¬ (false = true) by decide)] at H; exact H
    replace H := bnd H
    obtain ⟨t369, A120, H⟩ := H
    have A12 := zMk A120
    clear A120
    by_cases c13 : 0 + t369.size ≤ 9223372036854775807
    · rw [if_pos c13] at H
      have c13b0 := eq_true c13
      have c13b1 : decide (0 + t369.size ≤ 9223372036854775807) = true := decide_eq_true c13
      try have c13b2 : (9223372036854775807 < 0 + t369.size) = False := eq_false (Nat.not_lt.2 c13)
      obtain rfl := zOi H
      go_enter Tryd.func29, Tryd.ntmps29
      go_wp2_with (first | ((with_reducible refine gate_dst (N := 1) rfl ?_); refine box_event ?hg (N := 1) ?hd (cs := #[.bool a0_0, .slice A0_1 l0_1.length c0_1]) (t := 24) ?hr ?_; (case hd => rfl); (case hg => rfl); (case hr => first | (go_simp; done)|(go_simp; rfl)|(go_simp; rw [show ∀ x : Int, IntKind.u32.wrap (IntKind.u8.wrap x) = x % 256 from fun x => (by show (x % 256) % 4294967296 = x % 256; omega)])); intro gb363 hg w14 hbox hb; have BK363 := zMk (hbox); have GW363 := zMk ((by rw [hg]; exact (zBs (by exact uT HB.out)) : w.heap.size ≤ gb363)); have GE363 := zMk ((by rw [hg]; exact (zBs (by exact uT HB.out)) : w.heap.size ≤ gb363)); have IGE363 := ownGe GE363.out; replace HB := zMk (zBt (by exact uT HB.out) hb); clear hb hbox hg; have hcz15_0 : w14.cell? ⟨gb363, 0, none⟩ = some (.bool a0_0) := (zKc BK363.out 0).trans rfl; have hcz15_1 : w14.cell? ⟨gb363, 1, none⟩ = some (.slice A0_1 l0_1.length c0_1) := (zKc BK363.out 1).trans rfl; have hfz15_0 := zKf BK363.out 0; have hfz15_1 := zKf BK363.out 1)|((with_reducible refine gate_callee (f := 47) rfl ?_); refine goesL_ (some 5) rfl rfl Tryd.func47 (by kernel_rfl) rfl #[.agg #[.bool a0_0, .slice A0_1 l0_1.length c0_1]] rfl (by (try simp only [zMa, zMc, zMn]); first |  done|  rfl|  (simp only [zLd, zLt]; rfl)) ?_; (with_reducible refine (integer_Norm.calls a0_0 _ _ l0_1 false t365 _ ?side1 ?side2 A2.out).mono ?_); (case side1 => repeat (first |  exact (Kd.C_below HR0_1.out HB.out)|(with_reducible refine zCa ?_ _)|(with_reducible refine zCn ?_ _)|(with_reducible refine zCd ?_))); (case side2 => exact HC0_1.out); rintro e w16 ⟨v366, rfl, ho0, hb⟩; refine ⟨_, rfl, ?_⟩; have HO367 := zMk (zRl ho0 (zBs (by exact uT HB.out))); replace BK363 := zMk (zKb (g := gb363) (o := .cells #[.bool a0_0, .slice A0_1 l0_1.length c0_1] 24 (0, 0)) (by (with_reducible repeat (first |  refine zKn ?_ _|  refine zKd ?_|  refine zKa ?_ _)); exact BK363.out) hb); replace HB := zMk (zBt (by exact uT HB.out) hb); obtain ⟨Ao17, co17, eo17⟩ := zRs HO367.out; subst eo17; have hcz18_0 : w16.cell? ⟨gb363, 0, none⟩ = some (.bool a0_0) := (zKc BK363.out 0).trans rfl; have hcz18_1 : w16.cell? ⟨gb363, 1, none⟩ = some (.slice A0_1 l0_1.length c0_1) := (zKc BK363.out 1).trans rfl; have hfz18_0 := zKf BK363.out 0; have hfz18_1 := zKf BK363.out 1)|((with_reducible refine gate_callee (f := 54) rfl ?_); refine goesL_ (some 10) rfl rfl Tryd.func54 (by kernel_rfl) rfl #[.slice A0_1 l0_1.length c0_1] rfl (by (try simp only [zMa, zMc, zMn]); first |  done|  rfl|  (simp only [zLd, zLt]; rfl)) ?_; (with_reducible refine (n_Text.calls k _ _ l0_1 t369 _ ?side1 ?side2 A12.out).mono ?_); (case side1 => repeat (first |  exact (Kd.C_below HR0_1.out HB.out)|(with_reducible refine zCa ?_ _)|(with_reducible refine zCn ?_ _)|(with_reducible refine zCd ?_))); (case side2 => exact HC0_1.out); rintro e w19 ⟨rfl, hb⟩; refine ⟨_, rfl, ?_⟩; replace HO367 := zMk (zRb (by exact uR HO367.out) hb); replace BK363 := zMk (zKb (g := gb363) (o := .cells #[.bool a0_0, .slice A0_1 l0_1.length c0_1] 24 (0, 0)) (by (with_reducible repeat (first |  refine zKn ?_ _|  refine zKd ?_|  refine zKa ?_ _)); exact BK363.out) hb); replace HB := zMk (zBt (by exact uT HB.out) hb)))
      go_ret
      exact ⟨by first | rfl | (simp [errW_none, errW_some] <;> rfl) | (simp [*, errW_none, errW_some] <;> rfl), by exact uT HB.out⟩
    · rw [if_neg c13] at H
      exact absurd H (by simp)


def integer_Of.f (a0 : Int) : Option (Bool × List Int) := if a0 < 0 then ((n_Of.f (IntKind.u64.wrap (-(IntKind.u64.wrap (a0))))).bind fun t371 => ((integer_signed.f true t371).bind fun bt374 => (some (bt374.1, bt374.2)))) else ((n_Of.f (IntKind.u64.wrap (a0))).bind fun t378 => ((integer_signed.f false t378).bind fun bt381 => (some (bt381.1, bt381.2))))
theorem integer_Of.calls (a0 : Int) (r1 : Bool) (r2 : List Int) (w : World) (h : integer_Of.f a0 = some (r1, r2)) :
    Calls Tryd.prog 31 #[.int .i64 a0] w fun e w' => ∃ v1_ : Value, e = .returned (.agg #[.bool r1, v1_]) ∧ Kd.R (Kd.int .u32) 58 w' w.heap.size (fun _ => True) v1_ r2 ∧ Below w.heap.size w w' := by
  have hu24 := Tryd.underlying24
  have HB := zMk (Below.refl w.heap.size w)
  have H : (if a0 < 0 then ((n_Of.f (IntKind.u64.wrap (-(IntKind.u64.wrap (a0))))).bind fun t371 => ((integer_signed.f true t371).bind fun bt374 => (some (bt374.1, bt374.2)))) else ((n_Of.f (IntKind.u64.wrap (a0))).bind fun t378 => ((integer_signed.f false t378).bind fun bt381 => (some (bt381.1, bt381.2))))) = some (r1, r2) := h
  clear h
  by_cases c2 : a0 < 0
  · rw [if_pos c2] at H
    have c2b0 : decide (a0 < 0) = true := decide_eq_true c2
    clear c2
    replace H := bnd H
    obtain ⟨t371, A30, H⟩ := H
    have A3 := zMk A30
    clear A30
    replace H := bnd H
    obtain ⟨⟨t374, t375⟩, A40, H⟩ := H
    replace H : (some (t374, t375)) = some (r1, r2) := H
    have A4 := zMk A40
    clear A40
    simp only [Option.some.injEq, Prod.mk.injEq] at H
    obtain ⟨rfl, rfl⟩ := H
    go_enter Tryd.func31, Tryd.ntmps31
    go_wp2_with (first | ((with_reducible refine gate_dst (N := 2) rfl ?_); refine box_event ?hg (N := 2) ?hd (cs := #[.bool false, .slice none 0 0]) (t := 24) ?hr ?_; (case hd => rfl); (case hg => rfl); (case hr => first | (go_simp; done)|(go_simp; rfl)|(go_simp; rw [show ∀ x : Int, IntKind.u32.wrap (IntKind.u8.wrap x) = x % 256 from fun x => (by show (x % 256) % 4294967296 = x % 256; omega)])); intro gb370 hg w5 hbox hb; have BK370 := zMk (hbox); have GW370 := zMk ((by rw [hg]; exact (zBs (by exact uT HB.out)) : w.heap.size ≤ gb370)); have GE370 := zMk ((by rw [hg]; exact (zBs (by exact uT HB.out)) : w.heap.size ≤ gb370)); have IGE370 := ownGe GE370.out; replace HB := zMk (zBt (by exact uT HB.out) hb); clear hb hbox hg)|((with_reducible refine gate_callee (f := 34) rfl ?_); refine goesL_ (some 8) rfl rfl Tryd.func34 (by kernel_rfl) rfl #[.int .u64 (IntKind.u64.wrap (-(IntKind.u64.wrap (a0))))] rfl (by (try simp only [zMa, zMc, zMn]); first |  done|  rfl|  (simp only [zLd, zLt]; rfl)) ?_; (with_reducible refine (n_Of.calls (IntKind.u64.wrap (-(IntKind.u64.wrap (a0)))) t371 _ A3.out).mono ?_); rintro e w6 ⟨v372, rfl, ho0, hb⟩; refine ⟨_, rfl, ?_⟩; have HO373 := zMk (zVl (zVm (ok' := fun k_ => k_ ≠ gb370) ho0 (fun k_ hk_ => (Kd.freshB (g := gb370) (o := .cells #[.bool false, .slice none 0 0] 24 (0, 0)) (by (with_reducible repeat (first |  refine zKn ?_ _|  refine zKd ?_|  refine zKa ?_ _)); exact BK370.out) k_ hk_))) (zBs (by exact uT HB.out))); replace BK370 := zMk (zKb (g := gb370) (o := .cells #[.bool false, .slice none 0 0] 24 (0, 0)) (by (with_reducible repeat (first |  refine zKn ?_ _|  refine zKd ?_|  refine zKa ?_ _)); exact BK370.out) hb); replace HB := zMk (zBt (by exact uT HB.out) hb); obtain ⟨Ao7, co7, eo7⟩ := zVs HO373.out; subst eo7)|((with_reducible refine gate_callee (f := 36) rfl ?_); refine goesL_ (some 9) rfl rfl Tryd.func36 (by kernel_rfl) rfl #[.bool true, .slice Ao7 t371.length co7] rfl (by (try simp only [zMa, zMc, zMn]); first |  done|  rfl|  (simp only [zLd, zLt]; rfl)) ?_; (with_reducible refine (integer_signed.calls true _ _ t371 t374 t375 _ ?side1 ?side2 A4.out).mono ?_); (case side1 => exact uC (zVr HO373.out).2.2); (case side2 => exact (zVr HO373.out).2.1); rintro e w8 ⟨v376, rfl, ho0, hb⟩; refine ⟨_, rfl, ?_⟩; replace HO373 := zMk (zVe (by exact uV HO373.out) (zRz ho0) hb); have HO377 := zMk (zRl ho0 (zBs (by exact uT HB.out))); replace BK370 := zMk (zKb (g := gb370) (o := .cells #[.bool false, .slice none 0 0] 24 (0, 0)) (by (with_reducible repeat (first |  refine zKn ?_ _|  refine zKd ?_|  refine zKa ?_ _)); exact BK370.out) hb); replace HB := zMk (zBt (by exact uT HB.out) hb); have hcz9_0 : w8.cell? ⟨gb370, 0, none⟩ = some (.bool false) := (zKc BK370.out 0).trans rfl; have hcz9_1 : w8.cell? ⟨gb370, 1, none⟩ = some (.slice none 0 0) := (zKc BK370.out 1).trans rfl; have hfz9_0 := zKf BK370.out 0; have hfz9_1 := zKf BK370.out 1; obtain ⟨Ao10, co10, eo10⟩ := zRs HO377.out; subst eo10))
    refine bodyPost_ret (results_cell_row rfl _ _ gb370 24 #[.bool t374, .slice Ao10 t375.length co10] (0, 0) _ rfl (by (with_reducible repeat (first | refine zKn ?_ _ | refine zKd ?_ | refine zKa ?_ _)); refine blk_put (cs := #[.bool t374, .slice none 0 0]) ?_ 1 _ rfl; (with_reducible repeat (first | refine zKn ?_ _ | refine zKd ?_ | refine zKa ?_ _)); refine blk_put (cs := #[.bool false, .slice none 0 0]) ?_ 0 _ rfl; (with_reducible repeat (first | refine zKn ?_ _ | refine zKd ?_ | refine zKa ?_ _)); exact BK370.out) Tryd.underlying24 rfl (by kernel_rfl)) rfl ?_
    exact ⟨_, by first | rfl | (simp [errW_none, errW_some] <;> rfl) | (simp [*, errW_none, errW_some] <;> rfl), by (with_reducible repeat (first | apply zRa | apply zRn | apply zRd)); exact zRm (Kd.R_far (p := ⟨gb370, 1, none⟩) (Kd.R_far (p := ⟨gb370, 0, none⟩) (Kd.R_types HO377.out BK370.out (by decide)) (fun _ hk => hk.2) (.bool t374)) (fun _ hk => hk.2) (.slice Ao10 t375.length co10)) (fun _ hk => trivial), by exact uT HB.out⟩
  · rw [if_neg c2] at H
    have c2b0 : decide (a0 < 0) = false := decide_eq_false c2
    clear c2
    replace H := bnd H
    obtain ⟨t378, A110, H⟩ := H
    have A11 := zMk A110
    clear A110
    replace H := bnd H
    obtain ⟨⟨t381, t382⟩, A120, H⟩ := H
    replace H : (some (t381, t382)) = some (r1, r2) := H
    have A12 := zMk A120
    clear A120
    simp only [Option.some.injEq, Prod.mk.injEq] at H
    obtain ⟨rfl, rfl⟩ := H
    go_enter Tryd.func31, Tryd.ntmps31
    go_wp2_with (first | ((with_reducible refine gate_dst (N := 2) rfl ?_); refine box_event ?hg (N := 2) ?hd (cs := #[.bool false, .slice none 0 0]) (t := 24) ?hr ?_; (case hd => rfl); (case hg => rfl); (case hr => first | (go_simp; done)|(go_simp; rfl)|(go_simp; rw [show ∀ x : Int, IntKind.u32.wrap (IntKind.u8.wrap x) = x % 256 from fun x => (by show (x % 256) % 4294967296 = x % 256; omega)])); intro gb370 hg w13 hbox hb; have BK370 := zMk (hbox); have GW370 := zMk ((by rw [hg]; exact (zBs (by exact uT HB.out)) : w.heap.size ≤ gb370)); have GE370 := zMk ((by rw [hg]; exact (zBs (by exact uT HB.out)) : w.heap.size ≤ gb370)); have IGE370 := ownGe GE370.out; replace HB := zMk (zBt (by exact uT HB.out) hb); clear hb hbox hg)|((with_reducible refine gate_callee (f := 34) rfl ?_); refine goesL_ (some 12) rfl rfl Tryd.func34 (by kernel_rfl) rfl #[.int .u64 (IntKind.u64.wrap (a0))] rfl (by (try simp only [zMa, zMc, zMn]); first |  done|  rfl|  (simp only [zLd, zLt]; rfl)) ?_; (with_reducible refine (n_Of.calls (IntKind.u64.wrap (a0)) t378 _ A11.out).mono ?_); rintro e w14 ⟨v379, rfl, ho0, hb⟩; refine ⟨_, rfl, ?_⟩; have HO380 := zMk (zVl (zVm (ok' := fun k_ => k_ ≠ gb370) ho0 (fun k_ hk_ => (Kd.freshB (g := gb370) (o := .cells #[.bool false, .slice none 0 0] 24 (0, 0)) (by (with_reducible repeat (first |  refine zKn ?_ _|  refine zKd ?_|  refine zKa ?_ _)); exact BK370.out) k_ hk_))) (zBs (by exact uT HB.out))); replace BK370 := zMk (zKb (g := gb370) (o := .cells #[.bool false, .slice none 0 0] 24 (0, 0)) (by (with_reducible repeat (first |  refine zKn ?_ _|  refine zKd ?_|  refine zKa ?_ _)); exact BK370.out) hb); replace HB := zMk (zBt (by exact uT HB.out) hb); obtain ⟨Ao15, co15, eo15⟩ := zVs HO380.out; subst eo15)|((with_reducible refine gate_callee (f := 36) rfl ?_); refine goesL_ (some 13) rfl rfl Tryd.func36 (by kernel_rfl) rfl #[.bool false, .slice Ao15 t378.length co15] rfl (by (try simp only [zMa, zMc, zMn]); first |  done|  rfl|  (simp only [zLd, zLt]; rfl)) ?_; (with_reducible refine (integer_signed.calls false _ _ t378 t381 t382 _ ?side1 ?side2 A12.out).mono ?_); (case side1 => exact uC (zVr HO380.out).2.2); (case side2 => exact (zVr HO380.out).2.1); rintro e w16 ⟨v383, rfl, ho0, hb⟩; refine ⟨_, rfl, ?_⟩; replace HO380 := zMk (zVe (by exact uV HO380.out) (zRz ho0) hb); have HO384 := zMk (zRl ho0 (zBs (by exact uT HB.out))); replace BK370 := zMk (zKb (g := gb370) (o := .cells #[.bool false, .slice none 0 0] 24 (0, 0)) (by (with_reducible repeat (first |  refine zKn ?_ _|  refine zKd ?_|  refine zKa ?_ _)); exact BK370.out) hb); replace HB := zMk (zBt (by exact uT HB.out) hb); have hcz17_0 : w16.cell? ⟨gb370, 0, none⟩ = some (.bool false) := (zKc BK370.out 0).trans rfl; have hcz17_1 : w16.cell? ⟨gb370, 1, none⟩ = some (.slice none 0 0) := (zKc BK370.out 1).trans rfl; have hfz17_0 := zKf BK370.out 0; have hfz17_1 := zKf BK370.out 1; obtain ⟨Ao18, co18, eo18⟩ := zRs HO384.out; subst eo18))
    refine bodyPost_ret (results_cell_row rfl _ _ gb370 24 #[.bool t381, .slice Ao18 t382.length co18] (0, 0) _ rfl (by (with_reducible repeat (first | refine zKn ?_ _ | refine zKd ?_ | refine zKa ?_ _)); refine blk_put (cs := #[.bool t381, .slice none 0 0]) ?_ 1 _ rfl; (with_reducible repeat (first | refine zKn ?_ _ | refine zKd ?_ | refine zKa ?_ _)); refine blk_put (cs := #[.bool false, .slice none 0 0]) ?_ 0 _ rfl; (with_reducible repeat (first | refine zKn ?_ _ | refine zKd ?_ | refine zKa ?_ _)); exact BK370.out) Tryd.underlying24 rfl (by kernel_rfl)) rfl ?_
    exact ⟨_, by first | rfl | (simp [errW_none, errW_some] <;> rfl) | (simp [*, errW_none, errW_some] <;> rfl), by (with_reducible repeat (first | apply zRa | apply zRn | apply zRd)); exact zRm (Kd.R_far (p := ⟨gb370, 1, none⟩) (Kd.R_far (p := ⟨gb370, 0, none⟩) (Kd.R_types HO384.out BK370.out (by decide)) (fun _ hk => hk.2) (.bool t381)) (fun _ hk => hk.2) (.slice Ao18 t382.length co18)) (fun _ hk => trivial), by exact uT HB.out⟩


def filigreelaw02_alive.f (k : Nat)  : Option (Bool) := (integer_Of.f (-7)).bind fun bt385 => ((integer_Of.f 2).bind fun bt389 => ((integer_DivMod.f k bt385.1 bt385.2 bt389.1 bt389.2).bind fun bt393 => ((integer_Of.f (-8)).bind fun bt404 => ((integer_Of.f 2).bind fun bt408 => ((integer_Exact.f k bt404.1 bt404.2 bt408.1 bt408.2).bind fun bt412 => (if bt393.2.2.2.2 = 0 then (if bt412.2.2 = 0 then ((integer_Text.f k bt393.1 bt393.2.1).bind fun t418 => (if t418.toList = ([45, 52] : List UInt8) then ((integer_Text.f k bt393.2.2.1 bt393.2.2.2.1).bind fun t419 => (if t419.toList = ([49] : List UInt8) then ((integer_Text.f k bt412.1 bt412.2.1).bind fun t420 => (some (t420.toList == ([45, 52] : List UInt8)))) else (some false))) else (some false))) else (some false)) else (some false)))))))
theorem filigreelaw02_alive.calls (k : Nat)  (r : Bool) (w : World) (h : filigreelaw02_alive.f k  = some r) (hr_ : r = true) :
    Calls Tryd.prog 11 #[] w fun e w' => e = .returned (.bool r) ∧ Below w.heap.size w w' := by
  have HRT := zMk hr_
  clear hr_
  have hu24 := Tryd.underlying24
  have HB := zMk (Below.refl w.heap.size w)
  have H : ((integer_Of.f (-7)).bind fun bt385 => ((integer_Of.f 2).bind fun bt389 => ((integer_DivMod.f k bt385.1 bt385.2 bt389.1 bt389.2).bind fun bt393 => ((integer_Of.f (-8)).bind fun bt404 => ((integer_Of.f 2).bind fun bt408 => ((integer_Exact.f k bt404.1 bt404.2 bt408.1 bt408.2).bind fun bt412 => (if bt393.2.2.2.2 = 0 then (if bt412.2.2 = 0 then ((integer_Text.f k bt393.1 bt393.2.1).bind fun t418 => (if t418.toList = ([45, 52] : List UInt8) then ((integer_Text.f k bt393.2.2.1 bt393.2.2.2.1).bind fun t419 => (if t419.toList = ([49] : List UInt8) then ((integer_Text.f k bt412.1 bt412.2.1).bind fun t420 => (some (t420.toList == ([45, 52] : List UInt8)))) else (some false))) else (some false))) else (some false)) else (some false)))))))) = some r := h
  clear h
  replace H := bnd H
  obtain ⟨⟨t385, t386⟩, A10, H⟩ := H
  replace H : ((integer_Of.f 2).bind fun bt389 => ((integer_DivMod.f k t385 t386 bt389.1 bt389.2).bind fun bt393 => ((integer_Of.f (-8)).bind fun bt404 => ((integer_Of.f 2).bind fun bt408 => ((integer_Exact.f k bt404.1 bt404.2 bt408.1 bt408.2).bind fun bt412 => (if bt393.2.2.2.2 = 0 then (if bt412.2.2 = 0 then ((integer_Text.f k bt393.1 bt393.2.1).bind fun t418 => (if t418.toList = ([45, 52] : List UInt8) then ((integer_Text.f k bt393.2.2.1 bt393.2.2.2.1).bind fun t419 => (if t419.toList = ([49] : List UInt8) then ((integer_Text.f k bt412.1 bt412.2.1).bind fun t420 => (some (t420.toList == ([45, 52] : List UInt8)))) else (some false))) else (some false))) else (some false)) else (some false))))))) = some r := H
  have A1 := zMk A10
  clear A10
  replace H := bnd H
  obtain ⟨⟨t389, t390⟩, A20, H⟩ := H
  replace H : ((integer_DivMod.f k t385 t386 t389 t390).bind fun bt393 => ((integer_Of.f (-8)).bind fun bt404 => ((integer_Of.f 2).bind fun bt408 => ((integer_Exact.f k bt404.1 bt404.2 bt408.1 bt408.2).bind fun bt412 => (if bt393.2.2.2.2 = 0 then (if bt412.2.2 = 0 then ((integer_Text.f k bt393.1 bt393.2.1).bind fun t418 => (if t418.toList = ([45, 52] : List UInt8) then ((integer_Text.f k bt393.2.2.1 bt393.2.2.2.1).bind fun t419 => (if t419.toList = ([49] : List UInt8) then ((integer_Text.f k bt412.1 bt412.2.1).bind fun t420 => (some (t420.toList == ([45, 52] : List UInt8)))) else (some false))) else (some false))) else (some false)) else (some false)))))) = some r := H
  have A2 := zMk A20
  clear A20
  replace H := bnd H
  obtain ⟨⟨t393, t394, t397, t398, t401⟩, A30, H⟩ := H
  replace H : ((integer_Of.f (-8)).bind fun bt404 => ((integer_Of.f 2).bind fun bt408 => ((integer_Exact.f k bt404.1 bt404.2 bt408.1 bt408.2).bind fun bt412 => (if t401 = 0 then (if bt412.2.2 = 0 then ((integer_Text.f k t393 t394).bind fun t418 => (if t418.toList = ([45, 52] : List UInt8) then ((integer_Text.f k t397 t398).bind fun t419 => (if t419.toList = ([49] : List UInt8) then ((integer_Text.f k bt412.1 bt412.2.1).bind fun t420 => (some (t420.toList == ([45, 52] : List UInt8)))) else (some false))) else (some false))) else (some false)) else (some false))))) = some r := H
  have A3 := zMk A30
  clear A30
  replace H := bnd H
  obtain ⟨⟨t404, t405⟩, A40, H⟩ := H
  replace H : ((integer_Of.f 2).bind fun bt408 => ((integer_Exact.f k t404 t405 bt408.1 bt408.2).bind fun bt412 => (if t401 = 0 then (if bt412.2.2 = 0 then ((integer_Text.f k t393 t394).bind fun t418 => (if t418.toList = ([45, 52] : List UInt8) then ((integer_Text.f k t397 t398).bind fun t419 => (if t419.toList = ([49] : List UInt8) then ((integer_Text.f k bt412.1 bt412.2.1).bind fun t420 => (some (t420.toList == ([45, 52] : List UInt8)))) else (some false))) else (some false))) else (some false)) else (some false)))) = some r := H
  have A4 := zMk A40
  clear A40
  replace H := bnd H
  obtain ⟨⟨t408, t409⟩, A50, H⟩ := H
  replace H : ((integer_Exact.f k t404 t405 t408 t409).bind fun bt412 => (if t401 = 0 then (if bt412.2.2 = 0 then ((integer_Text.f k t393 t394).bind fun t418 => (if t418.toList = ([45, 52] : List UInt8) then ((integer_Text.f k t397 t398).bind fun t419 => (if t419.toList = ([49] : List UInt8) then ((integer_Text.f k bt412.1 bt412.2.1).bind fun t420 => (some (t420.toList == ([45, 52] : List UInt8)))) else (some false))) else (some false))) else (some false)) else (some false))) = some r := H
  have A5 := zMk A50
  clear A50
  replace H := bnd H
  obtain ⟨⟨t412, t413, t416⟩, A60, H⟩ := H
  replace H : (if t401 = 0 then (if t416 = 0 then ((integer_Text.f k t393 t394).bind fun t418 => (if t418.toList = ([45, 52] : List UInt8) then ((integer_Text.f k t397 t398).bind fun t419 => (if t419.toList = ([49] : List UInt8) then ((integer_Text.f k t412 t413).bind fun t420 => (some (t420.toList == ([45, 52] : List UInt8)))) else (some false))) else (some false))) else (some false)) else (some false)) = some r := H
  have A6 := zMk A60
  clear A60
  by_cases c7 : t401 = 0
  · rw [if_pos c7] at H
    have c7b0 : (t401 == 0) = true := beq_iff_eq.mpr c7
    have c7b1 : (t401 != 0) = false := bne_eq_false_iff_eq.mpr c7
    clear c7
    by_cases c8 : t416 = 0
    · rw [if_pos c8] at H
      have c8b0 : (t416 == 0) = true := beq_iff_eq.mpr c8
      have c8b1 : (t416 != 0) = false := bne_eq_false_iff_eq.mpr c8
      clear c8
      replace H := bnd H
      obtain ⟨t418, A90, H⟩ := H
      have A9 := zMk A90
      clear A90
      by_cases c10 : t418.toList = ([45, 52] : List UInt8)
      · rw [if_pos c10] at H
        have c10b0 : (t418.toList == ([45, 52] : List UInt8)) = true := beq_iff_eq.mpr c10
        have c10b1 : (t418.toList != ([45, 52] : List UInt8)) = false := bne_eq_false_iff_eq.mpr c10
        clear c10
        replace H := bnd H
        obtain ⟨t419, A110, H⟩ := H
        have A11 := zMk A110
        clear A110
        by_cases c12 : t419.toList = ([49] : List UInt8)
        · rw [if_pos c12] at H
          have c12b0 : (t419.toList == ([49] : List UInt8)) = true := beq_iff_eq.mpr c12
          have c12b1 : (t419.toList != ([49] : List UInt8)) = false := bne_eq_false_iff_eq.mpr c12
          clear c12
          replace H := bnd H
          obtain ⟨t420, A130, H⟩ := H
          have A13 := zMk A130
          clear A130
          obtain rfl := zOi H
          go_enter Tryd.func11, Tryd.ntmps11
          go_wp2_with (first | ((with_reducible refine gate_callee (f := 31) rfl ?_); refine goesL_ (some 7) rfl rfl Tryd.func31 (by kernel_rfl) rfl #[.int .i64 (-7)] rfl (by (try simp only [zMa, zMc, zMn]); first |  done|  rfl|  (simp only [zLd, zLt]; rfl)) ?_; (with_reducible refine (integer_Of.calls (-7) t385 t386 _ A1.out).mono ?_); rintro e w14 ⟨v387, rfl, ho0, hb⟩; refine ⟨_, rfl, ?_⟩; have HO388 := zMk (zRl ho0 (zBs (by exact uT HB.out))); replace HB := zMk (zBt (by exact uT HB.out) hb))|((with_reducible refine gate_callee (f := 31) rfl ?_); refine goesL_ (some 8) rfl rfl Tryd.func31 (by kernel_rfl) rfl #[.int .i64 2] rfl (by (try simp only [zMa, zMc, zMn]); first |  done|  rfl|  (simp only [zLd, zLt]; rfl)) ?_; (with_reducible refine (integer_Of.calls 2 t389 t390 _ A2.out).mono ?_); rintro e w15 ⟨v391, rfl, ho0, hb⟩; refine ⟨_, rfl, ?_⟩; have HO392 := zMk (zRl (zRw ho0 (zRt (by exact uR HO388.out))) (zBs (by exact uT HB.out))); replace HO388 := zMk (zRe (by exact uR HO388.out) (zRz ho0) hb); replace HB := zMk (zBt (by exact uT HB.out) hb); obtain ⟨Ao16, co16, eo16⟩ := zRs HO388.out; subst eo16; obtain ⟨Ao17, co17, eo17⟩ := zRs HO392.out; subst eo17)|((with_reducible refine gate_callee (f := 12) rfl ?_); refine goesL_ (some 9) rfl rfl Tryd.func12 (by kernel_rfl) rfl #[.agg #[.bool t385, .slice Ao16 t386.length co16], .agg #[.bool t389, .slice Ao17 t390.length co17]] rfl (by (try simp only [zMa, zMc, zMn]); first |  done|  rfl|  (simp only [zLd, zLt]; rfl)) ?_; (with_reducible refine (integer_DivMod.calls k t385 _ _ t386 t389 _ _ t390 t393 t394 t397 t398 t401 _ ?side1 ?side2 ?side3 ?side4 A3.out).mono ?_); (case side1 => exact uC (zRr HO388.out).2.2); (case side2 => exact (zRr HO388.out).2.1); (case side3 => exact uC (zRr HO392.out).2.2); (case side4 => exact (zRr HO392.out).2.1); rintro e w18 ⟨v395, v399, rfl, ho0, ho1, hb⟩; refine ⟨_, rfl, ?_⟩; have HO396 := zMk (zRl (zRw (zRw ho0 (zRt (by exact uR HO388.out))) (zRt (by exact uR HO392.out))) (zBs (by exact uT HB.out))); have HO400 := zMk (zRl (zRw (zRw ho1 (zRt (by exact uR HO388.out))) (zRt (by exact uR HO392.out))) (zBs (by exact uT HB.out))); replace HO388 := zMk (zRm (Kd.R_told (Kd.R_told (Kd.R_old (by exact uR HO388.out) hb) (zRz ho0)) (zRz ho1)) (fun _ h_ => h_.1)); replace HO392 := zMk (zRm (Kd.R_told (Kd.R_told (Kd.R_old (by exact uR HO392.out) hb) (zRz ho0)) (zRz ho1)) (fun _ h_ => h_.1)); replace HB := zMk (zBt (by exact uT HB.out) hb))|((with_reducible refine gate_dst (N := 1) rfl ?_); refine box_event ?hg (N := 1) ?hd (cs := #[.bool false, .slice none 0 0]) (t := 24) ?hr ?_; (case hd => rfl); (case hg => rfl); (case hr => first | (go_simp; done)|(go_simp; rfl)|(go_simp; rw [show ∀ x : Int, IntKind.u32.wrap (IntKind.u8.wrap x) = x % 256 from fun x => (by show (x % 256) % 4294967296 = x % 256; omega)])); intro gb402 hg w19 hbox hb; replace HO388 := zMk (zRb (by exact uR HO388.out) hb); replace HO392 := zMk (zRb (by exact uR HO392.out) hb); replace HO396 := zMk (zRb (by exact uR HO396.out) hb); replace HO400 := zMk (zRb (by exact uR HO400.out) hb); have BK402 := zMk (hbox); have GW402 := zMk ((by rw [hg]; exact (zBs (by exact uT HB.out)) : w.heap.size ≤ gb402)); have GE402 := zMk ((by rw [hg]; exact (zBs (by exact uT HB.out)) : w.heap.size ≤ gb402)); have IGE402 := ownGe GE402.out; replace HB := zMk (zBt (by exact uT HB.out) hb); clear hb hbox hg)|((with_reducible refine gate_dst (N := 2) rfl ?_); refine box_event ?hg (N := 2) ?hd (cs := #[.bool false, .slice none 0 0]) (t := 24) ?hr ?_; (case hd => rfl); (case hg => rfl); (case hr => first | (go_simp; done)|(go_simp; rfl)|(go_simp; rw [show ∀ x : Int, IntKind.u32.wrap (IntKind.u8.wrap x) = x % 256 from fun x => (by show (x % 256) % 4294967296 = x % 256; omega)])); intro gb403 hg w20 hbox hb; replace HO388 := zMk (zRb (by exact uR HO388.out) hb); replace HO392 := zMk (zRb (by exact uR HO392.out) hb); replace HO396 := zMk (zRb (by exact uR HO396.out) hb); replace HO400 := zMk (zRb (by exact uR HO400.out) hb); have BK403 := zMk (hbox); have GW403 := zMk ((by rw [hg]; exact (zBs (by exact uT HB.out)) : w.heap.size ≤ gb403)); have GE403 := zMk ((by rw [hg]; exact (zBs (by exact uT HB.out)) : w.heap.size ≤ gb403)); have IGE403 := ownGe GE403.out; replace HB := zMk (zBt (by exact uT HB.out) hb); have NB402_403 := zMk ((by rw [hg]; exact Nat.ne_of_lt (blk_lt (g := gb402) (o := .cells #[.bool false, .slice none 0 0] 24 (0, 0)) (by (with_reducible repeat (first |  refine zKn ?_ _|  refine zKd ?_|  refine zKa ?_ _)); exact BK402.out)) : gb402 ≠ gb403)); have NB403_402 := zMk ((by rw [hg]; exact Nat.ne_of_gt (blk_lt (g := gb402) (o := .cells #[.bool false, .slice none 0 0] 24 (0, 0)) (by (with_reducible repeat (first |  refine zKn ?_ _|  refine zKd ?_|  refine zKa ?_ _)); exact BK402.out)) : gb403 ≠ gb402)); replace BK402 := zMk (zKb (g := gb402) (o := .cells #[.bool false, .slice none 0 0] 24 (0, 0)) (by (with_reducible repeat (first |  refine zKn ?_ _|  refine zKd ?_|  refine zKa ?_ _)); exact BK402.out) hb); clear hb hbox hg; have hnb21 := NB402_403.out; have hnc21 := NB403_402.out; have hcz22_0 : w20.cell? ⟨gb402, 0, none⟩ = some (.bool false) := (zKc BK402.out 0).trans rfl; have hcz22_1 : w20.cell? ⟨gb402, 1, none⟩ = some (.slice none 0 0) := (zKc BK402.out 1).trans rfl; have hfz22_0 := zKf BK402.out 0; have hfz22_1 := zKf BK402.out 1; obtain ⟨Ao23, co23, eo23⟩ := zRs HO396.out; subst eo23; have hcz24_0 : w20.cell? ⟨gb403, 0, none⟩ = some (.bool false) := (zKc BK403.out 0).trans rfl; have hcz24_1 : w20.cell? ⟨gb403, 1, none⟩ = some (.slice none 0 0) := (zKc BK403.out 1).trans rfl; have hfz24_0 := zKf BK403.out 0; have hfz24_1 := zKf BK403.out 1; obtain ⟨Ao25, co25, eo25⟩ := zRs HO400.out; subst eo25)|((with_reducible refine gate_callee (f := 31) rfl ?_); refine goesL_ (some 14) rfl rfl Tryd.func31 (by kernel_rfl) rfl #[.int .i64 (-8)] rfl (by (try simp only [zMa, zMc, zMn]); first |  done|  rfl|  (simp only [zLd, zLt]; rfl)) ?_; (with_reducible refine (integer_Of.calls (-8) t404 t405 _ A4.out).mono ?_); rintro e w26 ⟨v406, rfl, ho0, hb⟩; refine ⟨_, rfl, ?_⟩; have HO407 := zMk (zRl (zRw (zRw (zRw (zRw ho0 (zRt (by (with_reducible repeat (first |  apply zRa|  apply zRn|  apply zRd)); exact (zRm (zRm (Kd.R_far (p := ⟨gb403, 1, none⟩) (Kd.R_far (p := ⟨gb403, 0, none⟩) (Kd.R_far (p := ⟨gb402, 1, none⟩) (Kd.R_far (p := ⟨gb402, 0, none⟩) (Kd.R_types (Kd.R_types HO388.out BK402.out (by decide)) BK403.out (by decide)) (fun _ hk => hk.1.2) (.bool t393)) (fun _ hk => hk.1.2) (.slice Ao23 t394.length co23)) (fun _ hk => hk.2) (.bool t397)) (fun _ hk => hk.2) (.slice Ao25 t398.length co25)) (fun _ h_ => h_.1)) (fun _ h_ => h_.1))))) (zRt (by (with_reducible repeat (first |  apply zRa|  apply zRn|  apply zRd)); exact (zRm (zRm (Kd.R_far (p := ⟨gb403, 1, none⟩) (Kd.R_far (p := ⟨gb403, 0, none⟩) (Kd.R_far (p := ⟨gb402, 1, none⟩) (Kd.R_far (p := ⟨gb402, 0, none⟩) (Kd.R_types (Kd.R_types HO392.out BK402.out (by decide)) BK403.out (by decide)) (fun _ hk => hk.1.2) (.bool t393)) (fun _ hk => hk.1.2) (.slice Ao23 t394.length co23)) (fun _ hk => hk.2) (.bool t397)) (fun _ hk => hk.2) (.slice Ao25 t398.length co25)) (fun _ h_ => h_.1)) (fun _ h_ => h_.1))))) (zRt (by (with_reducible repeat (first |  apply zRa|  apply zRn|  apply zRd)); exact (zRm (zRm (Kd.R_far (p := ⟨gb403, 1, none⟩) (Kd.R_far (p := ⟨gb403, 0, none⟩) (Kd.R_far (p := ⟨gb402, 1, none⟩) (Kd.R_far (p := ⟨gb402, 0, none⟩) (Kd.R_types (Kd.R_types HO396.out BK402.out (by decide)) BK403.out (by decide)) (fun _ hk => hk.1.2) (.bool t393)) (fun _ hk => hk.1.2) (.slice Ao23 t394.length co23)) (fun _ hk => hk.2) (.bool t397)) (fun _ hk => hk.2) (.slice Ao25 t398.length co25)) (fun _ h_ => h_.1)) (fun _ h_ => h_.1))))) (zRt (by (with_reducible repeat (first |  apply zRa|  apply zRn|  apply zRd)); exact (zRm (zRm (Kd.R_far (p := ⟨gb403, 1, none⟩) (Kd.R_far (p := ⟨gb403, 0, none⟩) (Kd.R_far (p := ⟨gb402, 1, none⟩) (Kd.R_far (p := ⟨gb402, 0, none⟩) (Kd.R_types (Kd.R_types HO400.out BK402.out (by decide)) BK403.out (by decide)) (fun _ hk => hk.1.2) (.bool t393)) (fun _ hk => hk.1.2) (.slice Ao23 t394.length co23)) (fun _ hk => hk.2) (.bool t397)) (fun _ hk => hk.2) (.slice Ao25 t398.length co25)) (fun _ h_ => h_.1)) (fun _ h_ => h_.1))))) (zBs (by exact uT HB.out))); replace HO388 := zMk (zRe (by (with_reducible repeat (first |  apply zRa|  apply zRn|  apply zRd)); exact (zRm (zRm (Kd.R_far (p := ⟨gb403, 1, none⟩) (Kd.R_far (p := ⟨gb403, 0, none⟩) (Kd.R_far (p := ⟨gb402, 1, none⟩) (Kd.R_far (p := ⟨gb402, 0, none⟩) (Kd.R_types (Kd.R_types HO388.out BK402.out (by decide)) BK403.out (by decide)) (fun _ hk => hk.1.2) (.bool t393)) (fun _ hk => hk.1.2) (.slice Ao23 t394.length co23)) (fun _ hk => hk.2) (.bool t397)) (fun _ hk => hk.2) (.slice Ao25 t398.length co25)) (fun _ h_ => h_.1)) (fun _ h_ => h_.1))) (zRz ho0) hb); replace HO392 := zMk (zRe (by (with_reducible repeat (first |  apply zRa|  apply zRn|  apply zRd)); exact (zRm (zRm (Kd.R_far (p := ⟨gb403, 1, none⟩) (Kd.R_far (p := ⟨gb403, 0, none⟩) (Kd.R_far (p := ⟨gb402, 1, none⟩) (Kd.R_far (p := ⟨gb402, 0, none⟩) (Kd.R_types (Kd.R_types HO392.out BK402.out (by decide)) BK403.out (by decide)) (fun _ hk => hk.1.2) (.bool t393)) (fun _ hk => hk.1.2) (.slice Ao23 t394.length co23)) (fun _ hk => hk.2) (.bool t397)) (fun _ hk => hk.2) (.slice Ao25 t398.length co25)) (fun _ h_ => h_.1)) (fun _ h_ => h_.1))) (zRz ho0) hb); replace HO396 := zMk (zRe (by (with_reducible repeat (first |  apply zRa|  apply zRn|  apply zRd)); exact (zRm (zRm (Kd.R_far (p := ⟨gb403, 1, none⟩) (Kd.R_far (p := ⟨gb403, 0, none⟩) (Kd.R_far (p := ⟨gb402, 1, none⟩) (Kd.R_far (p := ⟨gb402, 0, none⟩) (Kd.R_types (Kd.R_types HO396.out BK402.out (by decide)) BK403.out (by decide)) (fun _ hk => hk.1.2) (.bool t393)) (fun _ hk => hk.1.2) (.slice Ao23 t394.length co23)) (fun _ hk => hk.2) (.bool t397)) (fun _ hk => hk.2) (.slice Ao25 t398.length co25)) (fun _ h_ => h_.1)) (fun _ h_ => h_.1))) (zRz ho0) hb); replace HO400 := zMk (zRe (by (with_reducible repeat (first |  apply zRa|  apply zRn|  apply zRd)); exact (zRm (zRm (Kd.R_far (p := ⟨gb403, 1, none⟩) (Kd.R_far (p := ⟨gb403, 0, none⟩) (Kd.R_far (p := ⟨gb402, 1, none⟩) (Kd.R_far (p := ⟨gb402, 0, none⟩) (Kd.R_types (Kd.R_types HO400.out BK402.out (by decide)) BK403.out (by decide)) (fun _ hk => hk.1.2) (.bool t393)) (fun _ hk => hk.1.2) (.slice Ao23 t394.length co23)) (fun _ hk => hk.2) (.bool t397)) (fun _ hk => hk.2) (.slice Ao25 t398.length co25)) (fun _ h_ => h_.1)) (fun _ h_ => h_.1))) (zRz ho0) hb); replace BK402 := zMk (zKb (g := gb402) (o := .cells #[.bool t393, .slice Ao23 t394.length co23] 24 (0, 0)) (by (with_reducible repeat (first |  refine zKn ?_ _|  refine zKd ?_|  refine zKa ?_ _)); refine blk_far ?_ NB402_403.out _; (with_reducible repeat (first |  refine zKn ?_ _|  refine zKd ?_|  refine zKa ?_ _)); refine blk_far ?_ NB402_403.out _; (with_reducible repeat (first |  refine zKn ?_ _|  refine zKd ?_|  refine zKa ?_ _)); refine blk_put (cs := #[.bool t393, .slice none 0 0]) ?_ 1 _ rfl; (with_reducible repeat (first |  refine zKn ?_ _|  refine zKd ?_|  refine zKa ?_ _)); refine blk_put (cs := #[.bool false, .slice none 0 0]) ?_ 0 _ rfl; (with_reducible repeat (first |  refine zKn ?_ _|  refine zKd ?_|  refine zKa ?_ _)); exact BK402.out) hb); replace BK403 := zMk (zKb (g := gb403) (o := .cells #[.bool t397, .slice Ao25 t398.length co25] 24 (0, 0)) (by (with_reducible repeat (first |  refine zKn ?_ _|  refine zKd ?_|  refine zKa ?_ _)); refine blk_put (cs := #[.bool t397, .slice none 0 0]) ?_ 1 _ rfl; (with_reducible repeat (first |  refine zKn ?_ _|  refine zKd ?_|  refine zKa ?_ _)); refine blk_put (cs := #[.bool false, .slice none 0 0]) ?_ 0 _ rfl; (with_reducible repeat (first |  refine zKn ?_ _|  refine zKd ?_|  refine zKa ?_ _)); refine blk_far ?_ NB403_402.out _; (with_reducible repeat (first |  refine zKn ?_ _|  refine zKd ?_|  refine zKa ?_ _)); refine blk_far ?_ NB403_402.out _; (with_reducible repeat (first |  refine zKn ?_ _|  refine zKd ?_|  refine zKa ?_ _)); exact BK403.out) hb); replace HB := zMk (zBt (by exact uT HB.out) hb))|((with_reducible refine gate_callee (f := 31) rfl ?_); refine goesL_ (some 15) rfl rfl Tryd.func31 (by kernel_rfl) rfl #[.int .i64 2] rfl (by (try simp only [zMa, zMc, zMn]); first |  done|  rfl|  (simp only [zLd, zLt]; rfl)) ?_; (with_reducible refine (integer_Of.calls 2 t408 t409 _ A5.out).mono ?_); rintro e w27 ⟨v410, rfl, ho0, hb⟩; refine ⟨_, rfl, ?_⟩; have HO411 := zMk (zRl (zRw (zRw (zRw (zRw (zRw ho0 (zRt (by exact uR HO388.out))) (zRt (by exact uR HO392.out))) (zRt (by exact uR HO396.out))) (zRt (by exact uR HO400.out))) (zRt (by exact uR HO407.out))) (zBs (by exact uT HB.out))); replace HO388 := zMk (zRe (by exact uR HO388.out) (zRz ho0) hb); replace HO392 := zMk (zRe (by exact uR HO392.out) (zRz ho0) hb); replace HO396 := zMk (zRe (by exact uR HO396.out) (zRz ho0) hb); replace HO400 := zMk (zRe (by exact uR HO400.out) (zRz ho0) hb); replace HO407 := zMk (zRe (by exact uR HO407.out) (zRz ho0) hb); replace BK402 := zMk (zKb (g := gb402) (o := .cells #[.bool t393, .slice Ao23 t394.length co23] 24 (0, 0)) (by (with_reducible repeat (first |  refine zKn ?_ _|  refine zKd ?_|  refine zKa ?_ _)); exact BK402.out) hb); replace BK403 := zMk (zKb (g := gb403) (o := .cells #[.bool t397, .slice Ao25 t398.length co25] 24 (0, 0)) (by (with_reducible repeat (first |  refine zKn ?_ _|  refine zKd ?_|  refine zKa ?_ _)); exact BK403.out) hb); replace HB := zMk (zBt (by exact uT HB.out) hb); obtain ⟨Ao28, co28, eo28⟩ := zRs HO407.out; subst eo28; obtain ⟨Ao29, co29, eo29⟩ := zRs HO411.out; subst eo29)|((with_reducible refine gate_callee (f := 14) rfl ?_); refine goesL_ (some 16) rfl rfl Tryd.func14 (by kernel_rfl) rfl #[.agg #[.bool t404, .slice Ao28 t405.length co28], .agg #[.bool t408, .slice Ao29 t409.length co29]] rfl (by (try simp only [zMa, zMc, zMn]); first |  done|  rfl|  (simp only [zLd, zLt]; rfl)) ?_; (with_reducible refine (integer_Exact.calls k t404 _ _ t405 t408 _ _ t409 t412 t413 t416 _ ?side1 ?side2 ?side3 ?side4 A6.out).mono ?_); (case side1 => exact uC (zRr HO407.out).2.2); (case side2 => exact (zRr HO407.out).2.1); (case side3 => exact uC (zRr HO411.out).2.2); (case side4 => exact (zRr HO411.out).2.1); rintro e w30 ⟨v414, rfl, ho0, hb⟩; refine ⟨_, rfl, ?_⟩; have HO415 := zMk (zRl (zRw (zRw (zRw (zRw (zRw (zRw ho0 (zRt (by exact uR HO388.out))) (zRt (by exact uR HO392.out))) (zRt (by exact uR HO396.out))) (zRt (by exact uR HO400.out))) (zRt (by exact uR HO407.out))) (zRt (by exact uR HO411.out))) (zBs (by exact uT HB.out))); replace HO388 := zMk (zRe (by exact uR HO388.out) (zRz ho0) hb); replace HO392 := zMk (zRe (by exact uR HO392.out) (zRz ho0) hb); replace HO396 := zMk (zRe (by exact uR HO396.out) (zRz ho0) hb); replace HO400 := zMk (zRe (by exact uR HO400.out) (zRz ho0) hb); replace HO407 := zMk (zRe (by exact uR HO407.out) (zRz ho0) hb); replace HO411 := zMk (zRe (by exact uR HO411.out) (zRz ho0) hb); replace BK402 := zMk (zKb (g := gb402) (o := .cells #[.bool t393, .slice Ao23 t394.length co23] 24 (0, 0)) (by (with_reducible repeat (first |  refine zKn ?_ _|  refine zKd ?_|  refine zKa ?_ _)); exact BK402.out) hb); replace BK403 := zMk (zKb (g := gb403) (o := .cells #[.bool t397, .slice Ao25 t398.length co25] 24 (0, 0)) (by (with_reducible repeat (first |  refine zKn ?_ _|  refine zKd ?_|  refine zKa ?_ _)); exact BK403.out) hb); replace HB := zMk (zBt (by exact uT HB.out) hb))|((with_reducible refine gate_dst (N := 4) rfl ?_); refine box_event ?hg (N := 4) ?hd (cs := #[.bool false, .slice none 0 0]) (t := 24) ?hr ?_; (case hd => rfl); (case hg => rfl); (case hr => first | (go_simp; done)|(go_simp; rfl)|(go_simp; rw [show ∀ x : Int, IntKind.u32.wrap (IntKind.u8.wrap x) = x % 256 from fun x => (by show (x % 256) % 4294967296 = x % 256; omega)])); intro gb417 hg w31 hbox hb; replace HO388 := zMk (zRb (by exact uR HO388.out) hb); replace HO392 := zMk (zRb (by exact uR HO392.out) hb); replace HO396 := zMk (zRb (by exact uR HO396.out) hb); replace HO400 := zMk (zRb (by exact uR HO400.out) hb); replace HO407 := zMk (zRb (by exact uR HO407.out) hb); replace HO411 := zMk (zRb (by exact uR HO411.out) hb); replace HO415 := zMk (zRb (by exact uR HO415.out) hb); have BK417 := zMk (hbox); have GW417 := zMk ((by rw [hg]; exact (zBs (by exact uT HB.out)) : w.heap.size ≤ gb417)); have GE417 := zMk ((by rw [hg]; exact (zBs (by exact uT HB.out)) : w.heap.size ≤ gb417)); have IGE417 := ownGe GE417.out; replace HB := zMk (zBt (by exact uT HB.out) hb); have NB402_417 := zMk ((by rw [hg]; exact Nat.ne_of_lt (blk_lt (g := gb402) (o := .cells #[.bool t393, .slice Ao23 t394.length co23] 24 (0, 0)) (by (with_reducible repeat (first |  refine zKn ?_ _|  refine zKd ?_|  refine zKa ?_ _)); exact BK402.out)) : gb402 ≠ gb417)); have NB417_402 := zMk ((by rw [hg]; exact Nat.ne_of_gt (blk_lt (g := gb402) (o := .cells #[.bool t393, .slice Ao23 t394.length co23] 24 (0, 0)) (by (with_reducible repeat (first |  refine zKn ?_ _|  refine zKd ?_|  refine zKa ?_ _)); exact BK402.out)) : gb417 ≠ gb402)); replace BK402 := zMk (zKb (g := gb402) (o := .cells #[.bool t393, .slice Ao23 t394.length co23] 24 (0, 0)) (by (with_reducible repeat (first |  refine zKn ?_ _|  refine zKd ?_|  refine zKa ?_ _)); exact BK402.out) hb); have NB403_417 := zMk ((by rw [hg]; exact Nat.ne_of_lt (blk_lt (g := gb403) (o := .cells #[.bool t397, .slice Ao25 t398.length co25] 24 (0, 0)) (by (with_reducible repeat (first |  refine zKn ?_ _|  refine zKd ?_|  refine zKa ?_ _)); exact BK403.out)) : gb403 ≠ gb417)); have NB417_403 := zMk ((by rw [hg]; exact Nat.ne_of_gt (blk_lt (g := gb403) (o := .cells #[.bool t397, .slice Ao25 t398.length co25] 24 (0, 0)) (by (with_reducible repeat (first |  refine zKn ?_ _|  refine zKd ?_|  refine zKa ?_ _)); exact BK403.out)) : gb417 ≠ gb403)); replace BK403 := zMk (zKb (g := gb403) (o := .cells #[.bool t397, .slice Ao25 t398.length co25] 24 (0, 0)) (by (with_reducible repeat (first |  refine zKn ?_ _|  refine zKd ?_|  refine zKa ?_ _)); exact BK403.out) hb); clear hb hbox hg; have hnb32 := NB417_402.out; have hnc32 := NB402_417.out; have hnb33 := NB417_403.out; have hnc33 := NB403_417.out; have hcz34_0 : w31.cell? ⟨gb417, 0, none⟩ = some (.bool false) := (zKc BK417.out 0).trans rfl; have hcz34_1 : w31.cell? ⟨gb417, 1, none⟩ = some (.slice none 0 0) := (zKc BK417.out 1).trans rfl; have hfz34_0 := zKf BK417.out 0; have hfz34_1 := zKf BK417.out 1; obtain ⟨Ao35, co35, eo35⟩ := zRs HO415.out; subst eo35; have hcz36_0 : w31.cell? ⟨gb402, 0, none⟩ = some (.bool t393) := (zKc BK402.out 0).trans rfl; have hcz36_1 : w31.cell? ⟨gb402, 1, none⟩ = some (.slice Ao23 t394.length co23) := (zKc BK402.out 1).trans rfl; have hfz36_0 := zKf BK402.out 0; have hfz36_1 := zKf BK402.out 1)|(go_at_call 29; (with_reducible refine (integer_Text.calls k t393 _ _ t394 t418 _ ?side1 ?side2 A9.out).mono ?_); (case side1 => refine (zRr (e := 58) (base := w.heap.size) (ok := fun k_ => (((((some k_ ≠ (.slice Ao25 t398.length co25 : Value).ownBlock ∧ some k_ ≠ (.slice Ao16 t386.length co16 : Value).ownBlock) ∧ some k_ ≠ (.slice Ao17 t390.length co17 : Value).ownBlock) ∧ some k_ ≠ (.slice Ao28 t405.length co28 : Value).ownBlock) ∧ some k_ ≠ (.slice Ao29 t409.length co29 : Value).ownBlock) ∧ some k_ ≠ (.slice Ao35 t413.length co35 : Value).ownBlock)) (n := t394.length) (c := co23) ?_).2.2; exact (by (with_reducible repeat (first |  apply zRa|  apply zRn|  apply zRd)); exact (zRm (Kd.R_far (p := ⟨gb417, 1, none⟩) (Kd.R_far (p := ⟨gb417, 0, none⟩) (Kd.R_types HO396.out BK417.out (by decide)) (fun _ hk => hk.2) (.bool t412)) (fun _ hk => hk.2) (.slice Ao35 t413.length co35)) (fun _ h_ => h_.1)))); (case side2 => exact (zRr HO396.out).2.1); rintro e w37 ⟨rfl, hb⟩; replace HO388 := zMk (zRb (by (with_reducible repeat (first |  apply zRa|  apply zRn|  apply zRd)); exact (zRm (Kd.R_far (p := ⟨gb417, 1, none⟩) (Kd.R_far (p := ⟨gb417, 0, none⟩) (Kd.R_types HO388.out BK417.out (by decide)) (fun _ hk => hk.2) (.bool t412)) (fun _ hk => hk.2) (.slice Ao35 t413.length co35)) (fun _ h_ => h_.1))) hb); replace HO392 := zMk (zRb (by (with_reducible repeat (first |  apply zRa|  apply zRn|  apply zRd)); exact (zRm (Kd.R_far (p := ⟨gb417, 1, none⟩) (Kd.R_far (p := ⟨gb417, 0, none⟩) (Kd.R_types HO392.out BK417.out (by decide)) (fun _ hk => hk.2) (.bool t412)) (fun _ hk => hk.2) (.slice Ao35 t413.length co35)) (fun _ h_ => h_.1))) hb); replace HO396 := zMk (zRb (by (with_reducible repeat (first |  apply zRa|  apply zRn|  apply zRd)); exact (zRm (Kd.R_far (p := ⟨gb417, 1, none⟩) (Kd.R_far (p := ⟨gb417, 0, none⟩) (Kd.R_types HO396.out BK417.out (by decide)) (fun _ hk => hk.2) (.bool t412)) (fun _ hk => hk.2) (.slice Ao35 t413.length co35)) (fun _ h_ => h_.1))) hb); replace HO400 := zMk (zRb (by (with_reducible repeat (first |  apply zRa|  apply zRn|  apply zRd)); exact (zRm (Kd.R_far (p := ⟨gb417, 1, none⟩) (Kd.R_far (p := ⟨gb417, 0, none⟩) (Kd.R_types HO400.out BK417.out (by decide)) (fun _ hk => hk.2) (.bool t412)) (fun _ hk => hk.2) (.slice Ao35 t413.length co35)) (fun _ h_ => h_.1))) hb); replace HO407 := zMk (zRb (by (with_reducible repeat (first |  apply zRa|  apply zRn|  apply zRd)); exact (zRm (Kd.R_far (p := ⟨gb417, 1, none⟩) (Kd.R_far (p := ⟨gb417, 0, none⟩) (Kd.R_types HO407.out BK417.out (by decide)) (fun _ hk => hk.2) (.bool t412)) (fun _ hk => hk.2) (.slice Ao35 t413.length co35)) (fun _ h_ => h_.1))) hb); replace HO411 := zMk (zRb (by (with_reducible repeat (first |  apply zRa|  apply zRn|  apply zRd)); exact (zRm (Kd.R_far (p := ⟨gb417, 1, none⟩) (Kd.R_far (p := ⟨gb417, 0, none⟩) (Kd.R_types HO411.out BK417.out (by decide)) (fun _ hk => hk.2) (.bool t412)) (fun _ hk => hk.2) (.slice Ao35 t413.length co35)) (fun _ h_ => h_.1))) hb); replace HO415 := zMk (zRb (by (with_reducible repeat (first |  apply zRa|  apply zRn|  apply zRd)); exact (zRm (Kd.R_far (p := ⟨gb417, 1, none⟩) (Kd.R_far (p := ⟨gb417, 0, none⟩) (Kd.R_types HO415.out BK417.out (by decide)) (fun _ hk => hk.2) (.bool t412)) (fun _ hk => hk.2) (.slice Ao35 t413.length co35)) (fun _ h_ => h_.1))) hb); replace BK402 := zMk (zKb (g := gb402) (o := .cells #[.bool t393, .slice Ao23 t394.length co23] 24 (0, 0)) (by (with_reducible repeat (first |  refine zKn ?_ _|  refine zKd ?_|  refine zKa ?_ _)); refine blk_far ?_ NB402_417.out _; (with_reducible repeat (first |  refine zKn ?_ _|  refine zKd ?_|  refine zKa ?_ _)); refine blk_far ?_ NB402_417.out _; (with_reducible repeat (first |  refine zKn ?_ _|  refine zKd ?_|  refine zKa ?_ _)); exact BK402.out) hb); replace BK403 := zMk (zKb (g := gb403) (o := .cells #[.bool t397, .slice Ao25 t398.length co25] 24 (0, 0)) (by (with_reducible repeat (first |  refine zKn ?_ _|  refine zKd ?_|  refine zKa ?_ _)); refine blk_far ?_ NB403_417.out _; (with_reducible repeat (first |  refine zKn ?_ _|  refine zKd ?_|  refine zKa ?_ _)); refine blk_far ?_ NB403_417.out _; (with_reducible repeat (first |  refine zKn ?_ _|  refine zKd ?_|  refine zKa ?_ _)); exact BK403.out) hb); replace BK417 := zMk (zKb (g := gb417) (o := .cells #[.bool t412, .slice Ao35 t413.length co35] 24 (0, 0)) (by (with_reducible repeat (first |  refine zKn ?_ _|  refine zKd ?_|  refine zKa ?_ _)); refine blk_put (cs := #[.bool t412, .slice none 0 0]) ?_ 1 _ rfl; (with_reducible repeat (first |  refine zKn ?_ _|  refine zKd ?_|  refine zKa ?_ _)); refine blk_put (cs := #[.bool false, .slice none 0 0]) ?_ 0 _ rfl; (with_reducible repeat (first |  refine zKn ?_ _|  refine zKd ?_|  refine zKa ?_ _)); exact BK417.out) hb); replace HB := zMk (zBt (by exact uT HB.out) hb); have hcz38_0 : w37.cell? ⟨gb403, 0, none⟩ = some (.bool t397) := (zKc BK403.out 0).trans rfl; have hcz38_1 : w37.cell? ⟨gb403, 1, none⟩ = some (.slice Ao25 t398.length co25) := (zKc BK403.out 1).trans rfl; have hfz38_0 := zKf BK403.out 0; have hfz38_1 := zKf BK403.out 1)|(go_at_call 29; (with_reducible refine (integer_Text.calls k t397 _ _ t398 t419 _ ?side1 ?side2 A11.out).mono ?_); (case side1 => exact uC (zRr HO400.out).2.2); (case side2 => exact (zRr HO400.out).2.1); rintro e w39 ⟨rfl, hb⟩; replace HO388 := zMk (zRb (by exact uR HO388.out) hb); replace HO392 := zMk (zRb (by exact uR HO392.out) hb); replace HO396 := zMk (zRb (by exact uR HO396.out) hb); replace HO400 := zMk (zRb (by exact uR HO400.out) hb); replace HO407 := zMk (zRb (by exact uR HO407.out) hb); replace HO411 := zMk (zRb (by exact uR HO411.out) hb); replace HO415 := zMk (zRb (by exact uR HO415.out) hb); replace BK402 := zMk (zKb (g := gb402) (o := .cells #[.bool t393, .slice Ao23 t394.length co23] 24 (0, 0)) (by (with_reducible repeat (first |  refine zKn ?_ _|  refine zKd ?_|  refine zKa ?_ _)); exact BK402.out) hb); replace BK403 := zMk (zKb (g := gb403) (o := .cells #[.bool t397, .slice Ao25 t398.length co25] 24 (0, 0)) (by (with_reducible repeat (first |  refine zKn ?_ _|  refine zKd ?_|  refine zKa ?_ _)); exact BK403.out) hb); replace BK417 := zMk (zKb (g := gb417) (o := .cells #[.bool t412, .slice Ao35 t413.length co35] 24 (0, 0)) (by (with_reducible repeat (first |  refine zKn ?_ _|  refine zKd ?_|  refine zKa ?_ _)); exact BK417.out) hb); replace HB := zMk (zBt (by exact uT HB.out) hb); have hcz40_0 : w39.cell? ⟨gb417, 0, none⟩ = some (.bool t412) := (zKc BK417.out 0).trans rfl; have hcz40_1 : w39.cell? ⟨gb417, 1, none⟩ = some (.slice Ao35 t413.length co35) := (zKc BK417.out 1).trans rfl; have hfz40_0 := zKf BK417.out 0; have hfz40_1 := zKf BK417.out 1)|(go_at_call 29; (with_reducible refine (integer_Text.calls k t412 _ _ t413 t420 _ ?side1 ?side2 A13.out).mono ?_); (case side1 => exact uC (zRr HO415.out).2.2); (case side2 => exact (zRr HO415.out).2.1); rintro e w41 ⟨rfl, hb⟩; replace HO388 := zMk (zRb (by exact uR HO388.out) hb); replace HO392 := zMk (zRb (by exact uR HO392.out) hb); replace HO396 := zMk (zRb (by exact uR HO396.out) hb); replace HO400 := zMk (zRb (by exact uR HO400.out) hb); replace HO407 := zMk (zRb (by exact uR HO407.out) hb); replace HO411 := zMk (zRb (by exact uR HO411.out) hb); replace HO415 := zMk (zRb (by exact uR HO415.out) hb); replace BK402 := zMk (zKb (g := gb402) (o := .cells #[.bool t393, .slice Ao23 t394.length co23] 24 (0, 0)) (by (with_reducible repeat (first |  refine zKn ?_ _|  refine zKd ?_|  refine zKa ?_ _)); exact BK402.out) hb); replace BK403 := zMk (zKb (g := gb403) (o := .cells #[.bool t397, .slice Ao25 t398.length co25] 24 (0, 0)) (by (with_reducible repeat (first |  refine zKn ?_ _|  refine zKd ?_|  refine zKa ?_ _)); exact BK403.out) hb); replace BK417 := zMk (zKb (g := gb417) (o := .cells #[.bool t412, .slice Ao35 t413.length co35] 24 (0, 0)) (by (with_reducible repeat (first |  refine zKn ?_ _|  refine zKd ?_|  refine zKa ?_ _)); exact BK417.out) hb); replace HB := zMk (zBt (by exact uT HB.out) hb)))
          go_ret
          exact ⟨by first | rfl | (simp [errW_none, errW_some] <;> rfl) | (simp [*, errW_none, errW_some] <;> rfl), by exact uT HB.out⟩
        · rw [if_neg c12] at H
          have c12b0 : (t419.toList == ([49] : List UInt8)) = false := beq_eq_false_iff_ne.mpr c12
          have c12b1 : (t419.toList != ([49] : List UInt8)) = true := bne_iff_ne.mpr c12
          exact absurd ((zOi H).trans HRT.out) (by decide)
      · rw [if_neg c10] at H
        have c10b0 : (t418.toList == ([45, 52] : List UInt8)) = false := beq_eq_false_iff_ne.mpr c10
        have c10b1 : (t418.toList != ([45, 52] : List UInt8)) = true := bne_iff_ne.mpr c10
        exact absurd ((zOi H).trans HRT.out) (by decide)
    · rw [if_neg c8] at H
      have c8b0 : (t416 == 0) = false := beq_eq_false_iff_ne.mpr c8
      have c8b1 : (t416 != 0) = true := bne_iff_ne.mpr c8
      exact absurd ((zOi H).trans HRT.out) (by decide)
  · rw [if_neg c7] at H
    have c7b0 : (t401 == 0) = false := beq_eq_false_iff_ne.mpr c7
    have c7b1 : (t401 != 0) = true := bne_iff_ne.mpr c7
    exact absurd ((zOi H).trans HRT.out) (by decide)

theorem alive_at0 : filigreelaw02_alive.f 1000000 = some true := by kernel_rfl
theorem alive_at1 : filigreelaw02_alive.f 999999 = some true := by kernel_rfl
theorem alive_f (k : Nat) (hk : k = 1000000 ∨ k = 999999) : filigreelaw02_alive.f k = some true := by
  rcases hk with rfl | rfl
  · exact alive_at0
  · exact alive_at1
theorem or64 (x y : Int) (hx : 0 ≤ x ∧ x < 4294967296) (hy : 0 ≤ y ∧ y < 4294967296) : Go.bits .or .u64 (IntKind.u64.wrap (x * 4294967296)) (IntKind.u64.wrap y) = x * 4294967296 + y := by
  rw [wraps_u64 _ (by omega) (by omega), wraps_u64 y (by omega) (by omega)]
  exact bits_join .u64 64 (by decide) wraps_u64 32 (x * 4294967296) y (by omega) (by omega) (by omega) hy.1 (by omega) (by omega)
theorem smallN_val (rest x : Int) (hr : 0 ≤ rest ∧ rest < 4294967296) (hx : 0 ≤ x ∧ x < 4294967296) : smallN rest x = rest * 4294967296 + x := or64 rest x hr hx
theorem val_drop_cons (l : List Int) (n : Nat) (h : n < l.length) : val (l.drop n) = l.getD n 0 + 4294967296 * val (l.drop (n + 1)) := by
  rw [List.drop_eq_getElem_cons h, getD_lt _ h]
  rfl
theorem smallIt_val (l : List Int) (hl : Limbs l) (b : Int) (hb : 1 ≤ b) (hb2 : b < 4294967296) : ∀ k, k ≤ l.length →
    ∃ qv, val (smallIt l b k).1 = 4294967296 ^ (l.length - k) * qv ∧ val (l.drop (l.length - k)) = qv * b + (smallIt l b k).2 ∧ 0 ≤ (smallIt l b k).2 ∧ (smallIt l b k).2 < b ∧ Limbs (smallIt l b k).1 ∧ ∀ i, i < l.length - k → (smallIt l b k).1.getD i 0 = 0 := by
  intro k
  induction k with
  | zero =>
    intro _
    refine ⟨0, ?_, ?_, Int.le_refl _, by simp only [smallIt]; omega, limbs_replicate _, ?_⟩
    · simp only [smallIt]; rw [val_replicate]; simp
    · simp [smallIt, val]
    · intro i hi
      simp only [smallIt]
      rw [getD_lt _ (by simp; omega)]
      simp
  | succ k ih =>
    intro hk
    obtain ⟨qv, h1, h2, h3, h4, h5, h6⟩ := ih (by omega)
    have hlen := smallIt_length l b k
    have hstep0 : smallIt l b (k + 1) = smallStep l b (smallIt l b k) (l.length - 1 - k) := rfl
    generalize smallIt l b k = s at h1 h2 h3 h4 h5 h6 hlen hstep0
    obtain ⟨O, rest⟩ := s
    simp only at h1 h2 h3 h4 h5 h6 hlen
    obtain ⟨p, hp⟩ : ∃ p, p = l.length - 1 - k := ⟨_, rfl⟩
    have hx := hl.getD p
    have hn : smallN rest (rd l (p : Int)) = rest * 4294967296 + l.getD p 0 := by rw [rd_nat]; exact smallN_val _ _ ⟨h3, by omega⟩ hx
    obtain ⟨n, hn2⟩ : ∃ n, n = rest * 4294967296 + l.getD p 0 := ⟨_, rfl⟩
    have hstep : smallIt l b (k + 1) = (O.set p (n / b % 4294967296), n % b) := by
      rw [hstep0, ← hp, hn2, ← hn]
      rfl
    have hdm := Int.emod_add_mul_ediv n b
    have hm0 := Int.emod_nonneg n (show b ≠ 0 by omega)
    have hm1 := Int.emod_lt_of_pos n (show 0 < b by omega)
    have hq0 : 0 ≤ n / b := Int.ediv_nonneg (by omega) (by omega)
    have hq1 : n / b < 4294967296 := Int.ediv_lt_of_lt_mul (by omega) (by
      have : (rest + 1) * 4294967296 ≤ b * 4294967296 := Int.mul_le_mul_of_nonneg_right (by omega) (by omega)
      rw [Int.mul_comm 4294967296 b]
      omega)
    rw [hstep]
    simp only
    rw [show n / b % 4294967296 = n / b by omega]
    refine ⟨n / b + 4294967296 * qv, ?_, ?_, hm0, hm1, h5.set _ hq0 hq1, ?_⟩
    · rw [val_set _ _ _ (by omega), h6 p (by omega), h1, show l.length - k = p + 1 by omega, show l.length - (k + 1) = p by omega, Int.pow_succ]
      grind
    · rw [show l.length - (k + 1) = p by omega, val_drop_cons l p (by omega), show p + 1 = l.length - k by omega, h2]
      grind
    · intro i hi
      rw [getD_set_ne _ _ (by omega)]
      exact h6 i (by omega)
theorem small_f (l : List Int) (hl : Limbs l) (hlen : l.length ≤ 35184372088832) (b : Int) (hb : 1 ≤ b) (hb2 : b < 4294967296) :
    ∃ q, n_small.f l b = some (q, val l % b) ∧ IsNum q (val l / b) ∧ q.length ≤ l.length := by
  obtain ⟨qv, h1, h2, h3, h4, h5, h6⟩ := smallIt_val l hl b hb hb2 l.length (Nat.le_refl _)
  have hln := smallIt_length l b l.length
  rw [Nat.sub_self, Int.pow_zero, Int.one_mul] at h1
  rw [Nat.sub_self, List.drop_zero] at h2
  have hdiv : val l / b = qv := by
    rw [h2, Int.add_comm, Int.add_mul_ediv_right _ _ (by omega), Int.ediv_eq_zero_of_lt h3 h4]; omega
  have hmod : val l % b = (smallIt l b l.length).2 := by
    rw [h2, Int.add_comm, Int.add_mul_emod_self_right, Int.emod_eq_of_lt h3 h4]
  refine ⟨cut (smallIt l b l.length).1, ?_, ?_, by have := cut_length (smallIt l b l.length).1; omega⟩
  · unfold n_small.f
    rw [if_pos hlen, wraps_u64 b (by omega) (by omega), if_neg (by omega), hmod, show (smallIt l b l.length).2 % 4294967296 = (smallIt l b l.length).2 by omega]
    unfold cut
    rw [hln]
  · rw [hdiv, ← h1]
    exact IsNum.cut h5
def len8 : ByteArray := ⟨#[0, 1, 2, 2, 3, 3, 3, 3, 4, 4, 4, 4, 4, 4, 4, 4, 5, 5, 5, 5, 5, 5, 5, 5, 5, 5, 5, 5, 5, 5, 5, 5, 6, 6, 6, 6, 6, 6, 6, 6, 6, 6, 6, 6, 6, 6, 6, 6, 6, 6, 6, 6, 6, 6, 6, 6, 6, 6, 6, 6, 6, 6, 6, 6, 7, 7, 7, 7, 7, 7, 7, 7, 7, 7, 7, 7, 7, 7, 7, 7, 7, 7, 7, 7, 7, 7, 7, 7, 7, 7, 7, 7, 7, 7, 7, 7, 7, 7, 7, 7, 7, 7, 7, 7, 7, 7, 7, 7, 7, 7, 7, 7, 7, 7, 7, 7, 7, 7, 7, 7, 7, 7, 7, 7, 7, 7, 7, 7, 8, 8, 8, 8, 8, 8, 8, 8, 8, 8, 8, 8, 8, 8, 8, 8, 8, 8, 8, 8, 8, 8, 8, 8, 8, 8, 8, 8, 8, 8, 8, 8, 8, 8, 8, 8, 8, 8, 8, 8, 8, 8, 8, 8, 8, 8, 8, 8, 8, 8, 8, 8, 8, 8, 8, 8, 8, 8, 8, 8, 8, 8, 8, 8, 8, 8, 8, 8, 8, 8, 8, 8, 8, 8, 8, 8, 8, 8, 8, 8, 8, 8, 8, 8, 8, 8, 8, 8, 8, 8, 8, 8, 8, 8, 8, 8, 8, 8, 8, 8, 8, 8, 8, 8, 8, 8, 8, 8, 8, 8, 8, 8, 8, 8, 8, 8, 8, 8, 8, 8, 8, 8, 8, 8, 8, 8, 8, 8]⟩
def len8B (i : Nat) : Bool := i == 0 || (Nat.ble 1 (bt len8 (i : Int)).toNat && Nat.ble (bt len8 (i : Int)).toNat 8 && decide (bt len8 (i : Int) = ((bt len8 (i : Int)).toNat : Int)) && Nat.ble (2 ^ ((bt len8 (i : Int)).toNat - 1)) i && Nat.blt i (2 ^ (bt len8 (i : Int)).toNat))
theorem len8_all : (List.range 256).all len8B = true := by kernel_rfl
theorem len8_ok (i : Nat) (h : i < 256) (h0 : 0 < i) : 1 ≤ bt len8 (i : Int) ∧ bt len8 (i : Int) ≤ 8 ∧ 2 ^ ((bt len8 (i : Int)).toNat - 1) ≤ i ∧ i < 2 ^ (bt len8 (i : Int)).toNat := by
  have h1 := List.all_eq_true.1 len8_all i (List.mem_range.2 h)
  unfold len8B at h1
  generalize bt len8 (i : Int) = v at h1 ⊢
  simp only [Bool.or_eq_true, Bool.and_eq_true, beq_iff_eq, decide_eq_true_eq, Nat.ble_eq, Nat.blt_eq] at h1
  rcases h1 with h1 | ⟨⟨⟨⟨a, b⟩, c⟩, d⟩, e⟩
  · omega
  · exact ⟨by omega, by omega, d, e⟩
theorem len8_at (i : Int) (h0 : 0 < i) (h1 : i < 256) : ∃ t : Nat, bt len8 i = (t : Int) + 1 ∧ t < 8 ∧ (2 : Int) ^ t ≤ i ∧ i < 2 ^ (t + 1) := by
  obtain ⟨n, rfl⟩ := Int.eq_ofNat_of_zero_le (Int.le_of_lt h0)
  obtain ⟨a, b, c, d⟩ := len8_ok n (by omega) (by omega)
  obtain ⟨t, ht⟩ := Int.eq_ofNat_of_zero_le (show 0 ≤ bt len8 (n : Int) - 1 by omega)
  have ht2 : bt len8 (n : Int) = (t : Int) + 1 := by omega
  rw [ht2] at c d
  rw [show ((t : Int) + 1).toNat = t + 1 by omega] at c d
  rw [Nat.add_sub_cancel] at c
  exact ⟨t, ht2, by omega, by exact_mod_cast c, by exact_mod_cast d⟩
theorem len32_f (x : Int) (h0 : 0 < x) (h1 : x < 4294967296) : ∃ t : Nat, bits_Len32.f x = some ((t : Int) + 1) ∧ t < 32 ∧ (2 : Int) ^ t ≤ x ∧ x < 2 ^ (t + 1) := by
  have hp : ∀ a b : Nat, (2 : Int) ^ (a + b) = 2 ^ a * 2 ^ b := fun a b => Int.pow_add 2 a b
  by_cases a1 : x ≥ 65536
  · by_cases a2 : x / 65536 ≥ 256
    · obtain ⟨t, e, h, l, u⟩ := len8_at (x / 65536 / 256) (by omega) (by omega)
      refine ⟨t + 24, ?_, by omega, ?_, ?_⟩
      · unfold bits_Len32.f
        rw [if_pos a1, if_pos a2, show x / 65536 / 256 % 256 = x / 65536 / 256 by omega, if_pos (by omega), if_pos (by omega)]
        refine congrArg some ?_
        show wrap64 (16 + 8 + wrap64 (bt len8 (x / 65536 / 256))) = _
        rw [e, w64 (n := (t : Int) + 1) (by omega) (by omega), w64 (by omega) (by omega)]
        omega
      · rw [hp]; generalize (2 : Int) ^ t = P at *; omega
      · rw [show t + 24 + 1 = (t + 1) + 24 by omega, hp]; generalize (2 : Int) ^ (t + 1) = P at *; omega
    · obtain ⟨t, e, h, l, u⟩ := len8_at (x / 65536) (by omega) (by omega)
      refine ⟨t + 16, ?_, by omega, ?_, ?_⟩
      · unfold bits_Len32.f
        rw [if_pos a1, if_neg a2, show x / 65536 % 256 = x / 65536 by omega, if_pos (by omega), if_pos (by omega)]
        refine congrArg some ?_
        show wrap64 (16 + wrap64 (bt len8 (x / 65536))) = _
        rw [e, w64 (n := (t : Int) + 1) (by omega) (by omega), w64 (by omega) (by omega)]
        omega
      · rw [hp]; generalize (2 : Int) ^ t = P at *; omega
      · rw [show t + 16 + 1 = (t + 1) + 16 by omega, hp]; generalize (2 : Int) ^ (t + 1) = P at *; omega
  · by_cases a2 : x ≥ 256
    · obtain ⟨t, e, h, l, u⟩ := len8_at (x / 256) (by omega) (by omega)
      refine ⟨t + 8, ?_, by omega, ?_, ?_⟩
      · unfold bits_Len32.f
        rw [if_neg a1, if_pos a2, show x / 256 % 256 = x / 256 by omega, if_pos (by omega), if_pos (by omega)]
        refine congrArg some ?_
        show wrap64 (0 + 8 + wrap64 (bt len8 (x / 256))) = _
        rw [e, w64 (n := (t : Int) + 1) (by omega) (by omega), w64 (by omega) (by omega)]
        omega
      · rw [hp]; generalize (2 : Int) ^ t = P at *; omega
      · rw [show t + 8 + 1 = (t + 1) + 8 by omega, hp]; generalize (2 : Int) ^ (t + 1) = P at *; omega
    · obtain ⟨t, e, h, l, u⟩ := len8_at x (by omega) (by omega)
      refine ⟨t, ?_, by omega, l, u⟩
      unfold bits_Len32.f
      rw [if_neg a1, if_neg a2, show x % 256 = x by omega, if_pos (by omega), if_pos (by omega)]
      refine congrArg some ?_
      show wrap64 (0 + wrap64 (bt len8 x)) = _
      rw [e, w64 (n := (t : Int) + 1) (by omega) (by omega), w64 (by omega) (by omega)]
      omega
theorem lz_f (x : Int) (h0 : 0 < x) (h1 : x < 4294967296) : ∃ s : Nat, bits_LeadingZeros32.f x = some (s : Int) ∧ s ≤ 31 ∧ 2147483648 ≤ x * 2 ^ s ∧ x * 2 ^ s < 4294967296 := by
  obtain ⟨t, e, h, l, u⟩ := len32_f x h0 h1
  refine ⟨31 - t, ?_, by omega, ?_, ?_⟩
  · unfold bits_LeadingZeros32.f
    rw [e, zOb, w64 (by omega) (by omega)]
    refine congrArg some ?_
    omega
  · have h2 : (2 : Int) ^ t * 2 ^ (31 - t) = 2147483648 := by rw [← Int.pow_add, show t + (31 - t) = 31 by omega]; rfl
    rw [← h2]
    exact Int.mul_le_mul_of_nonneg_right l (Int.le_of_lt (Int.pow_pos (by decide)))
  · have h2 : (2 : Int) ^ (t + 1) * 2 ^ (31 - t) = 4294967296 := by rw [← Int.pow_add, show t + 1 + (31 - t) = 32 by omega]; rfl
    rw [← h2]
    exact Int.mul_lt_mul_of_pos_right u (Int.pow_pos (by decide))
theorem pow_le31 (s : Nat) (h : s ≤ 31) : (1 : Int) ≤ 2 ^ s ∧ (2 : Int) ^ s ≤ 2147483648 := by
  have h1 : (0 : Int) < 2 ^ s := Int.pow_pos (by decide)
  refine ⟨by omega, ?_⟩
  have := Nat.pow_le_pow_right (show 0 < 2 by decide) h
  rw [show (2147483648 : Int) = 2 ^ 31 from rfl]
  exact_mod_cast this
theorem shl64 (x : Int) (hx : 0 ≤ x ∧ x < 4294967296) (s : Nat) (hs : s ≤ 31) : shl .u64 (IntKind.u64.wrap x) (s : Int) = x * 2 ^ s := by
  have hp := pow_le31 s hs
  rw [wraps_u64 x (by omega) (by omega)]
  unfold shl
  rw [show min ((s : Int)).toNat (IntKind.bits .u64) = s from by rw [zTn]; exact Nat.min_eq_left (Nat.le_trans hs (by decide))]
  have h1 : 0 ≤ x * 2 ^ s := Int.mul_nonneg hx.1 (by omega)
  have h2 : x * 2 ^ s ≤ 4294967296 * 2147483648 := Int.mul_le_mul (by omega) hp.2 (by omega) (by decide)
  exact wraps_u64 _ h1 (by omega)
theorem or32_add (x y : Int) (s : Nat) (hs : s ≤ 31) (hx : 0 ≤ x) (hx2 : x < 2 ^ s) (hy : 0 ≤ y) (hy2 : y < 4294967296) (hm : y % 2 ^ s = 0) : Go.bits .or .u32 x y = x + y := by
  have hp := pow_le31 s hs
  have hc : Go.bits .or .u32 x y = Go.bits .or .u32 y x := by
    obtain ⟨p, rfl⟩ := Int.eq_ofNat_of_zero_le hx
    obtain ⟨q, rfl⟩ := Int.eq_ofNat_of_zero_le hy
    rw [(bits_u32 p q (by omega) (by omega)).2.1, (bits_u32 q p (by omega) (by omega)).2.1, Nat.or_comm]
  rw [hc, bits_join .u32 32 (by decide) wraps_u32 s y x hy hm (by omega) hx hx2 (by omega)]
  omega
theorem mod_low (x : Int) (s : Nat) (hs : s ≤ 31) : (x * 2 ^ s) % 4294967296 % 2 ^ s = 0 := by
  have h1 : (4294967296 : Int) = 2 ^ s * 2 ^ (32 - s) := by rw [← Int.pow_add, show s + (32 - s) = 32 by omega]; rfl
  rw [h1, Int.mul_comm x, Int.mul_emod_mul_of_pos _ _ (Int.pow_pos (by decide)), Int.mul_emod_right]
theorem shift_l0 (l : List Int) (hl : Limbs l) (hL : l.length < 35184372088832) (s : Nat) (hs : s ≤ 31) :
    ∀ (j m k : Nat) (O : List Int), m + j = l.length → O.length = l.length + 1 → Limbs O → val O = val (l.take m) * 2 ^ s → (∀ i, m < i → O.getD i 0 = 0) → O.getD m 0 < 2 ^ s →
    ∃ r, n_shift.l0 (k + j + 1) (s : Int) O l (l.length : Int) (m : Int) = some r ∧ Limbs r ∧ r.length = l.length + 1 ∧ val r = val l * 2 ^ s := by
  intro j
  induction j with
  | zero =>
    intro m k O hm hO lO hv hz ht
    obtain rfl : m = l.length := by omega
    rw [List.take_length] at hv
    exact ⟨O, by rw [n_shift.l0, if_neg (by omega)], lO, hO, hv⟩
  | succ j ih =>
    intro m k O hm hO lO hv hz ht
    have hp := pow_le31 s hs
    have hx := hl.getD m
    have ho := lO.getD m
    have hsh := shl64 (l.getD m 0) hx s hs
    have hml := mod_low (l.getD m 0) s hs
    have hlt : l.getD m 0 * 2 ^ s < 4294967296 * 2 ^ s := Int.mul_lt_mul_of_pos_right hx.2 (by omega)
    have hn0 : 0 ≤ l.getD m 0 * 2 ^ s := Int.mul_nonneg hx.1 (by omega)
    obtain ⟨n, hn⟩ : ∃ n, l.getD m 0 * 2 ^ s = n := ⟨_, rfl⟩
    have hvs := val_take_succ' l m
    rw [hn] at hsh hml hlt hn0
    have hor := or32_add (O.getD m 0) (n % 4294967296) s hs ho.1 ht (by omega) (by omega) hml
    have hb0 : 0 ≤ O.getD m 0 + n % 4294967296 ∧ O.getD m 0 + n % 4294967296 < 4294967296 := by
      have hq : (4294967296 : Int) = 2 ^ s * 2 ^ (32 - s) := by rw [← Int.pow_add, show s + (32 - s) = 32 by omega]; rfl
      obtain ⟨c, hc⟩ := Int.dvd_of_emod_eq_zero hml
      have hc2 : c < 2 ^ (32 - s) := by
        have h9 : 2 ^ s * c < 2 ^ s * 2 ^ (32 - s) := by rw [← hc, ← hq]; omega
        exact Int.lt_of_mul_lt_mul_left h9 (by omega)
      have h8 : (2 : Int) ^ s * (c + 1) ≤ 2 ^ s * 2 ^ (32 - s) := Int.mul_le_mul_of_nonneg_left (by omega) (by omega)
      rw [← hq, Int.mul_add] at h8
      omega
    have hdiv : n / 4294967296 < 2 ^ s := Int.ediv_lt_of_lt_mul (by decide) (by rw [Int.mul_comm (2 ^ s)]; exact hlt)
    have hdiv0 : 0 ≤ n / 4294967296 := Int.ediv_nonneg hn0 (by decide)
    obtain ⟨r, h1, h2, h3, h4⟩ := ih (m + 1) k ((O.set m (O.getD m 0 + n % 4294967296)).set (m + 1) (n / 4294967296)) (by omega) (by rw [List.length_set, List.length_set]; exact hO) ((lO.set _ hb0.1 hb0.2).set _ hdiv0 (by omega)) (by
        rw [val_set _ _ _ (by rw [List.length_set]; omega), val_set _ _ _ (by omega), getD_set_ne _ _ (by omega), hz (m + 1) (by omega), hv, hvs, Int.pow_succ, Int.add_mul, Int.mul_assoc (4294967296 ^ m) _ (2 ^ s), hn]
        have := Int.emod_add_mul_ediv n 4294967296
        grind)
      (fun i hi => by rw [getD_set_ne _ _ (by omega), getD_set_ne _ _ (by omega)]; exact hz i (by omega))
      (by rw [getD_set_eq _ _ (by rw [List.length_set]; omega)]; exact hdiv)
    refine ⟨r, ?_, h2, h3, h4⟩
    rw [show k + (j + 1) + 1 = (k + j + 1) + 1 by omega, n_shift.l0, if_pos (by omega), if_pos (by omega), if_pos (by omega), if_pos (by omega), if_pos (by omega), w64 (n := (m : Int) + 1) (by omega) (by omega), if_pos (by omega), if_pos (by omega), rd_nat, rd_nat, hsh, hor, zTn, show ((m : Int) + 1) = ((m + 1 : Nat) : Int) by omega, zTn, show n / 4294967296 % 4294967296 = n / 4294967296 by omega]
    exact h1
theorem shift_f (l : List Int) (hl : Limbs l) (hL : l.length < 35184372088832) (s : Nat) (hs : s ≤ 31) (k : Nat) (hk : l.length + 1 ≤ k) :
    ∃ r, n_shift.f k l (s : Int) = some r ∧ Limbs r ∧ r.length = l.length + 1 ∧ val r = val l * 2 ^ s := by
  have hp := pow_le31 s hs
  have hz : ∀ i, (List.replicate (l.length + 1) (0 : Int)).getD i 0 = 0 := fun i => by
    by_cases hi : i < l.length + 1
    · rw [getD_lt _ (by simpa using hi)]; simp
    · rw [getD_ge _ (by simp; omega)]
  obtain ⟨d, rfl⟩ : ∃ d, k = d + l.length + 1 := ⟨k - (l.length + 1), by omega⟩
  obtain ⟨r, h1, h2, h3, h4⟩ := shift_l0 l hl hL s hs l.length 0 d (List.replicate (l.length + 1) 0) (by omega) (by simp) (limbs_replicate _) (by rw [val_replicate]; simp [val]) (fun i _ => hz i) (by rw [hz 0]; omega)
  refine ⟨r, ?_, h2, h3, h4⟩
  unfold n_shift.f
  rw [w64 (by omega) (by omega), if_pos (by omega), show ((l.length : Int) + 1) = ((l.length + 1 : Nat) : Int) by omega, zTn, if_pos (by omega)]
  exact h1
theorem knuth_lower (vt v2 T V S head u2 g r : Int) (hT : 0 < T) (hV : (vt * 4294967296 + v2) * T ≤ V) (hS : S < (head * 4294967296 + u2 + 1) * T) (hg : 0 ≤ g) (hh : g * vt + r = head) (hc : g * v2 > r * 4294967296 + u2) : S < g * V := by
  have h1 : head * 4294967296 + u2 + 1 ≤ g * (vt * 4294967296 + v2) := by
    have : g * (vt * 4294967296 + v2) = (g * vt) * 4294967296 + g * v2 := by grind
    rw [this, show g * vt = head - r by omega]
    omega
  have h2 : (head * 4294967296 + u2 + 1) * T ≤ g * (vt * 4294967296 + v2) * T := Int.mul_le_mul_of_nonneg_right h1 (by omega)
  have h3 : g * ((vt * 4294967296 + v2) * T) ≤ g * V := Int.mul_le_mul_of_nonneg_left hV hg
  rw [← Int.mul_assoc] at h3
  omega
theorem knuth_upper (vt v2 T V S head u2 g r : Int) (hT : 0 < T) (hvt : 1 ≤ vt) (hv2 : 0 ≤ v2) (hV : (vt * 4294967296 + v2) * T ≤ V) (hV2 : V ≤ (vt * 4294967296 + v2 + 1) * T) (hS : (head * 4294967296 + u2) * T ≤ S) (hg : 0 ≤ g) (hg2 : g < 4294967296) (hh : g * vt + r = head) (hc : g * v2 ≤ r * 4294967296 + u2) : (g - 1) * V ≤ S := by
  have h1 : g * (vt * 4294967296 + v2 + 1) ≤ head * 4294967296 + u2 + 4294967296 := by
    have : g * (vt * 4294967296 + v2 + 1) = (g * vt) * 4294967296 + g * v2 + g := by grind
    rw [this, show g * vt = head - r by omega]
    omega
  have h2 : g * V ≤ g * ((vt * 4294967296 + v2 + 1) * T) := Int.mul_le_mul_of_nonneg_left hV2 hg
  have h3 : g * (vt * 4294967296 + v2 + 1) * T ≤ (head * 4294967296 + u2 + 4294967296) * T := Int.mul_le_mul_of_nonneg_right h1 (by omega)
  rw [← Int.mul_assoc] at h2
  have h4 : 4294967296 * T ≤ (vt * 4294967296 + v2) * T := Int.mul_le_mul_of_nonneg_right (by omega) (by omega)
  rw [Int.add_mul (head * 4294967296 + u2)] at h3
  rw [Int.sub_mul]
  omega
theorem knuth_break (vt v2 T V S head u2 g r : Int) (hT : 0 < T) (hv2 : v2 < 4294967296) (hu2 : 0 ≤ u2) (hV2 : V ≤ (vt * 4294967296 + v2 + 1) * T) (hS : (head * 4294967296 + u2) * T ≤ S) (hg : 0 ≤ g) (hg2 : g < 4294967296) (hh : g * vt + r = head) (hr : 4294967296 ≤ r) : g * V ≤ S := by
  have h1 : g * (vt * 4294967296 + v2 + 1) ≤ head * 4294967296 + u2 := by
    have h5 : g * (vt * 4294967296 + v2 + 1) ≤ g * (vt * 4294967296 + 4294967296) := Int.mul_le_mul_of_nonneg_left (by omega) hg
    have : g * (vt * 4294967296 + 4294967296) = (g * vt + g) * 4294967296 := by grind
    rw [this, show g * vt = head - r by omega] at h5
    omega
  have h2 : g * V ≤ g * ((vt * 4294967296 + v2 + 1) * T) := Int.mul_le_mul_of_nonneg_left hV2 hg
  have h3 : g * (vt * 4294967296 + v2 + 1) * T ≤ (head * 4294967296 + u2) * T := Int.mul_le_mul_of_nonneg_right h1 (by omega)
  rw [← Int.mul_assoc] at h2
  omega
theorem guess_l1 (Q u v : List Int) (x9 : Int) (n j : Nat) (hv : Limbs v) (hu : Limbs u) (hn : v.length = n) (h2 : 2 ≤ n) (hj : j + n < u.length) (hum : u.length < 35184372088832) (qd head : Int) (hq0 : 0 ≤ qd) (hq1 : qd < 4294967296)
    (hvt : 2147483648 ≤ v.getD (n - 1) 0) (lower : ∀ g r, 0 ≤ g → g * v.getD (n - 1) 0 + r = head → g * v.getD (n - 2) 0 > r * 4294967296 + u.getD (j + n - 2) 0 → qd < g) (hhd : head < 4294967296 * v.getD (n - 1) 0 + 4294967296) :
    ∀ (c k : Nat) (g r : Int), g < 4294967298 → g * v.getD (n - 1) 0 + r = head → qd ≤ g → 0 ≤ r → r < 4294967296 → 4294967296 ≤ r + c * 2147483648 → 2 * c + 2 ≤ k →
    ∃ g' k', n_DivMod.l1 k Q x9 u v (n : Int) (j : Int) g r = n_DivMod.j3 k' Q x9 u v (n : Int) (j : Int) g' ∧ qd ≤ g' ∧ g' < 4294967296 ∧ k ≤ k' + 2 * c + 2 ∧
      ∃ r', g' * v.getD (n - 1) 0 + r' = head ∧ (g' * v.getD (n - 2) 0 ≤ r' * 4294967296 + u.getD (j + n - 2) 0 ∨ 4294967296 ≤ r') := by
  have e1 : wrap64 ((j : Int) + (n : Int)) = ((j + n : Nat) : Int) := by rw [w64 (by omega) (by omega)]; omega
  have e3 : wrap64 ((n : Int) - 1) = ((n - 1 : Nat) : Int) := by rw [w64 (by omega) (by omega)]; omega
  have e4 : wrap64 ((n : Int) - 2) = ((n - 2 : Nat) : Int) := by rw [w64 (by omega) (by omega)]; omega
  have e5 : wrap64 (((j + n : Nat) : Int) - 2) = ((j + n - 2 : Nat) : Int) := by rw [w64 (by omega) (by omega)]; omega
  have bvt := hv.getD (n - 1)
  have bv2 := hv.getD (n - 2)
  have bu2 := hu.getD (j + n - 2)
  intro c
  induction c with
  | zero => intro k g r _ _ _ _ h5 h6 _; omega
  | succ c ih =>
    intro k g r h1 h3 h4 h5 h6 h7 hk
    obtain ⟨k, rfl⟩ : ∃ d, k = d + 2 := ⟨k - 2, by omega⟩
    have key : qd < g → ∃ g' k', n_DivMod.j2 (k + 1) Q x9 u v (n : Int) (j : Int) g r true = n_DivMod.j3 k' Q x9 u v (n : Int) (j : Int) g' ∧ qd ≤ g' ∧ g' < 4294967296 ∧ k ≤ k' + 2 * c + 2 ∧
        ∃ r', g' * v.getD (n - 1) 0 + r' = head ∧ (g' * v.getD (n - 2) 0 ≤ r' * 4294967296 + u.getD (j + n - 2) 0 ∨ 4294967296 ≤ r') := by
      intro hlt
      have hh : (g - 1) * v.getD (n - 1) 0 + (r + v.getD (n - 1) 0) = head := by rw [Int.sub_mul]; omega
      rw [n_DivMod.j2, if_pos rfl, e3, if_pos (by omega), if_pos (by omega), rd_nat, wraps_u64 (v.getD (n - 1) 0) (by omega) (by omega), wraps_u64 (r + v.getD (n - 1) 0) (by omega) (by omega), wraps_u64 (g - 1) (by omega) (by omega)]
      by_cases hb : (r + v.getD (n - 1) 0) / 4294967296 > 0
      · rw [if_pos hb]
        have hgB : g - 1 < 4294967296 := by
          have h9 : (g - 1) * v.getD (n - 1) 0 < 4294967296 * v.getD (n - 1) 0 := by omega
          exact Int.lt_of_mul_lt_mul_right h9 (by omega)
        exact ⟨g - 1, k, rfl, by omega, hgB, by omega, _, hh, .inr (by omega)⟩
      · rw [if_neg hb]
        exact ih k (g - 1) (r + v.getD (n - 1) 0) (by omega) hh (by omega) (by omega) (by omega) (by omega) (by omega)
    by_cases hg : g / 4294967296 > 0
    · obtain ⟨g', k', a1, a2, a3, a4, a5⟩ := key (by omega)
      exact ⟨g', k', by rw [n_DivMod.l1, if_pos hg]; exact a1, a2, a3, by omega, a5⟩
    · have hgn : 0 ≤ g := by omega
      have hp : 0 ≤ g * v.getD (n - 2) 0 := Int.mul_nonneg hgn bv2.1
      have hp2 : g * v.getD (n - 2) 0 ≤ 4294967295 * 4294967295 := Int.mul_le_mul (by omega) (by omega) bv2.1 (by decide)
      have hor := or64 r (u.getD (j + n - 2) 0) ⟨h5, h6⟩ bu2
      have hl1 : n_DivMod.l1 (k + 2) Q x9 u v (n : Int) (j : Int) g r = n_DivMod.j2 (k + 1) Q x9 u v (n : Int) (j : Int) g r (decide (g * v.getD (n - 2) 0 > r * 4294967296 + u.getD (j + n - 2) 0)) := by
        rw [show k + 2 = (k + 1) + 1 from rfl, n_DivMod.l1, if_neg hg, e4, if_pos (by omega), if_pos (by omega), e1, e5, if_pos (by omega), if_pos (by omega), rd_nat, rd_nat, wraps_u64 (v.getD (n - 2) 0) (by omega) (by omega), wraps_u64 (g * v.getD (n - 2) 0) hp (by omega), hor]
      by_cases ht : g * v.getD (n - 2) 0 > r * 4294967296 + u.getD (j + n - 2) 0
      · obtain ⟨g', k', a1, a2, a3, a4, a5⟩ := key (lower g r hgn h3 ht)
        rw [decide_eq_true ht] at hl1
        exact ⟨g', k', hl1.trans a1, a2, a3, by omega, a5⟩
      · rw [decide_eq_false ht] at hl1
        refine ⟨g, k, hl1.trans ?_, h4, by omega, by omega, r, h3, .inl (by omega)⟩
        rw [n_DivMod.j2, if_neg (by decide)]
end Go.Proofs.YtnjmnicgknggfaaDoor.D
