/- Lemmas for the statement: the walks of the functions that it reaches, and plain laws. -/
import Derived.Test.YtnjmnicgknggfaaDoorGm1
import Derived.Test.YtnjmnicgknggfaaDoorGm4
import Derived.Test.YtnjmnicgknggfaaDoorGm2
import Derived.KernelRfl
import Derived.Test.YtnjmnicgknggfaaDoorGm3
set_option linter.unusedVariables false
set_option linter.unusedSimpArgs false
namespace Go.Proofs.YtnjmnicgknggfaaDoor.G
open Go Go.RowKit Go.Proofs.YtnjmnicgknggfaaDoorW.PrintWords Go.Proofs.YtnjmnicgknggfaaDoorW.PrintLast Go.Proofs.YtnjmnicgknggfaaDoorW.PrintMore
attribute [local go_sem] max2_int min2_int max_two min_two max_three min_three max_four min_four
open Go.Proofs.YtnjmnicgknggfaaDoorW.PrintWords.Kd renaming R_alloc → zRa, R_drewN → zRn, R_drew → zRd, V_alloc → zVa, V_drewN → zVn, V_drew → zVd, V_below → zVb, C_alloc → zCa, C_drewN → zCn, C_drew → zCd, R_mono → zRm, V_mono → zVm, at_int → zAi
open Go.Proofs.YtnjmnicgknggfaaDoorW.PrintWords renaming pw_below_drewN → zBn, below_alloc → zBa, below_drew1 → zBd, below_size → zBs, below_step → zBt
open List renaming setIfInBounds_toArray → zSa, set_cons_zero → zSb, set_cons_succ → zSc, length_drop → zLd, length_take → zLt
open Go.Proofs.YtnjmnicgknggfaaDoorW.PrintWords.Aside0 renaming mk → zMk
open Option renaming bind_eq_some_iff → zBi, bind_some → zOb
open Option.some renaming inj → zOi
open Int renaming toNat_natCast → zTn

/-! ### n_Text: function 54 -/
def n_Text.l0 : Nat → List Int → List ByteArray → Option (ByteArray)
  | 0, _, _ => none
  | k + 1, x0, x3 => (n_small.f x0 1000000000).bind fun bt349 => ((strconv_Itoa_74.f (wrap64 (bt349.2))).bind fun t353 => (if (bt349.1.length : Int) = 0 then (if x3.length < 8796093022208 then ((slices_Reverse_string_string.f k (x3 ++ [t353])).bind fun t357 => ((strings_Join.f t357 (⟨#[]⟩ : ByteArray)).bind fun t358 => (some t358))) else (none)) else ((strings_Repeat.f (⟨#[48]⟩ : ByteArray) (wrap64 (9 - (t353.size : Int)))).bind fun t359 => (if t359.size + t353.size ≤ 9223372036854775807 then (if x3.length < 8796093022208 then (n_Text.l0 k bt349.1 (x3 ++ [t359 ++ t353])) else (none)) else (none)))))
def n_Text.f (k : Nat) (l0 : List Int) : Option (ByteArray) := (n_cut.f l0).bind fun t346 => (n_Text.l0 k t346 ([] : List ByteArray))
set_option maxHeartbeats 8000000 in
set_option maxRecDepth 100000 in
theorem n_Text.calls (k : Nat) (A0 : Option Addr) (c0 : Nat) (l0 : List Int) (r : ByteArray) (w : World) (hr0 : Kd.C (Kd.int .u32) w A0 l0.length l0) (hc0 : l0.length ≤ c0) (h : n_Text.f k l0 = some r) :
    Calls Tryd.prog 54 #[.slice A0 l0.length c0] w fun e w' => e = .returned (.string r) ∧ Below w.heap.size w w' := by
  have HR0 := zMk hr0
  have HC0 := zMk hc0
  clear hr0 hc0
  have HB := zMk (Below.refl w.heap.size w)
  have H : ((n_cut.f l0).bind fun t346 => (n_Text.l0 k t346 ([] : List ByteArray))) = some r := h
  clear h
  replace H := Option.bind_eq_some_iff.mp H
  obtain ⟨t346, A20, H⟩ := H
  have A2 := zMk A20
  clear A20
  have H' := zMk H
  clear H
  go_enter Tryd.func54, Tryd.ntmps54
  go_wp2_with (first | ((with_reducible refine gate_callee (f := 56) rfl ?_); refine goesL_ (some 8) rfl rfl Tryd.func56 (by kernel_rfl) rfl #[.slice A0 l0.length c0] rfl (by (try simp only [List.map_toArray, List.map_cons, List.map_nil]); first | done | rfl | (simp only [zLd, zLt]; rfl)) ?_; (with_reducible refine (n_cut.calls (fun k_ => k_ < w.heap.size) _ _ l0 t346 _ ?side1 A2.out).mono ?_); (case side1 => exact Kd.V_mk HC0.out (Kd.F_below (Kd.C_F (Kd.heap_int .u32) HR0.out) (by repeat (first | (with_reducible first | exact HB.out | apply zBa | apply zBn | apply zBd) | exact HB.out)))); rintro e w3 ⟨v347, rfl, ho0, hb⟩; refine ⟨_, rfl, ?_⟩; have n0_ := zMk (Kd.V_lower (zVm (ok' := fun k_ => True) ho0 (fun k_ hk_ => trivial)) (zBs (by repeat (first | (with_reducible first | exact HB.out | apply zBa | apply zBn | apply zBd) | exact HB.out)))); have n1_ := zMk (zBt (by repeat (first | (with_reducible first | exact HB.out | apply zBa | apply zBn | apply zBd) | exact HB.out)) hb); clear HB; have HO348 := n0_; have HB := n1_; clear n0_ n1_; (try clear hb); (try clear hb2); (try clear hk); (try clear hi); (try clear ho0)))
  go_loopg [0, 3] k (fun kq v0 v3 w' => ∃ (x0_1 : List Int) (x3_1 : List ByteArray), Aside0 (n_Text.l0 kq x0_1 x3_1 = some r) ∧ Aside0 (kq ≤ k) ∧ Aside0 (Kd.V (Kd.int .u32) 58 w' w.heap.size (fun k_ => some k_ ≠ (v3 : Value).ownBlock) v0 x0_1) ∧ Aside0 (Kd.R Kd.string 9 w' w.heap.size (fun _ => True) v3 x3_1) ∧ Aside0 (Below w.heap.size w w'))
  case atStart => exact ⟨(t346), (([] : List ByteArray)), H', ⟨Nat.le_refl _⟩, ⟨by (with_reducible repeat (first | apply zVa | apply zVn | apply zVd)); exact zVm HO348.out (fun _ hk => (by simp [Value.ownBlock]))⟩, ⟨by first | exact Kd.R_nil _ _ _ _ _ | exact Kd.N_nil _ _ _ _ _ | exact Kd.V_nil _ _ _ _ _ | exact Kd.Q_nil _ _ _ _ _ | exact Kd.S_nil _ _ _ _ _⟩, ⟨by repeat (first | (with_reducible first | exact HB.out | apply zBa | apply zBn | apply zBd) | exact HB.out)⟩⟩
  clear H'
  obtain ⟨x0_1, x3_1, HA, HK1, HO_0, HO_3, HB⟩ := hrel
  rcases gk with _ | k1
  · exact absurd HA.out (by simp [n_Text.l0])
  have H := HA.out
  clear HA
  simp only [n_Text.l0] at H
  replace H := Option.bind_eq_some_iff.mp H
  obtain ⟨⟨t349, t352⟩, A40, H⟩ := H
  replace H : ((strconv_Itoa_74.f (wrap64 (t352))).bind fun t353 => (if (t349.length : Int) = 0 then (if x3_1.length < 8796093022208 then ((slices_Reverse_string_string.f k1 (x3_1 ++ [t353])).bind fun t357 => ((strings_Join.f t357 (⟨#[]⟩ : ByteArray)).bind fun t358 => (some t358))) else (none)) else ((strings_Repeat.f (⟨#[48]⟩ : ByteArray) (wrap64 (9 - (t353.size : Int)))).bind fun t359 => (if t359.size + t353.size ≤ 9223372036854775807 then (if x3_1.length < 8796093022208 then (n_Text.l0 k1 t349 (x3_1 ++ [t359 ++ t353])) else (none)) else (none))))) = some r := H
  have A4 := zMk A40
  clear A40
  replace H := Option.bind_eq_some_iff.mp H
  obtain ⟨t353, A50, H⟩ := H
  have hrw_ : t353.size ≤ 9223372036854775807 → wrap64 (9 - (t353.size : Int)) = 9 - (t353.size : Int) := fun h_ => (by unfold wrap64; omega)
  replace H : (if (t349.length : Int) = 0 then (if x3_1.length < 8796093022208 then ((slices_Reverse_string_string.f k1 (x3_1 ++ [t353])).bind fun t357 => ((strings_Join.f t357 (⟨#[]⟩ : ByteArray)).bind fun t358 => (some t358))) else (none)) else ((strings_Repeat.f (⟨#[48]⟩ : ByteArray) (wrap64 (9 - (t353.size : Int)))).bind fun t359 => (if t359.size + t353.size ≤ 9223372036854775807 then (if x3_1.length < 8796093022208 then (n_Text.l0 k1 t349 (x3_1 ++ [t359 ++ t353])) else (none)) else (none)))) = some r := H
  have A5 := zMk A50
  clear A50
  by_cases c6 : (t349.length : Int) = 0
  · rw [if_pos c6] at H
    have c6b0 : ((t349.length : Int) == 0) = true := beq_iff_eq.mpr c6
    have c6b1 : ((t349.length : Int) != 0) = false := bne_eq_false_iff_eq.mpr c6
    clear c6
    by_cases c7 : x3_1.length < 8796093022208
    rotate_left
    · rw [if_neg c7] at H; exact absurd H (by simp)
    rw [if_pos c7] at H
    have LMc7 := zMk c7
    clear c7
    obtain ⟨y354, hy354⟩ : ∃ y_ : List ByteArray, y_ = (x3_1 ++ [t353]) := ⟨_, rfl⟩
    replace H : ((slices_Reverse_string_string.f k1 y354).bind fun t357 => ((strings_Join.f t357 (⟨#[]⟩ : ByteArray)).bind fun t358 => (some t358))) = some r := by first | (rw [hy354]; with_reducible exact H) | (have H2_ := (zOb _ _).symm.trans H; rw [hy354]; with_reducible exact H2_) | (have H2_ := (zOb _ _).symm.trans H; with_reducible exact H2_) | with_reducible exact H | (rw [hy354]; exact H) | exact H
    have Ny354 := zMk hy354
    clear hy354
    replace H := Option.bind_eq_some_iff.mp H
    obtain ⟨t357, A80, H⟩ := H
    have A8 := zMk A80
    clear A80
    replace H := Option.bind_eq_some_iff.mp H
    obtain ⟨t358, A90, H⟩ := H
    have A9 := zMk A90
    clear A90
    obtain rfl := zOi H
    obtain ⟨Ao10, co10, eo10⟩ := Kd.V_slice HO_0.out
    subst eo10
    go_wp2_with (first | ((with_reducible refine gate_callee (f := 58) rfl ?_); refine goesL_ (some 11) rfl rfl Tryd.func58 (by kernel_rfl) rfl #[.slice Ao10 x0_1.length co10, .int .u32 1000000000] rfl (by (try simp only [List.map_toArray, List.map_cons, List.map_nil]); first | done | rfl | (simp only [zLd, zLt]; rfl)) ?_; (with_reducible refine (n_small.calls _ _ x0_1 1000000000 t349 t352 _ ?side1 ?side2 A4.out).mono ?_); (case side1 => repeat (first | exact (Kd.V_reads' HO_0.out).2.2 | (with_reducible refine zCa ?_ _) | (with_reducible refine zCn ?_ _) | (with_reducible refine zCd ?_))); (case side2 => exact (Kd.V_reads' HO_0.out).2.1); rintro e w11 ⟨v350, rfl, ho0, hb⟩; refine ⟨_, rfl, ?_⟩; have n0_ := zMk (zVb (by (with_reducible repeat (first | apply zVa | apply zVn | apply zVd)); exact HO_0.out) hb); have n1_ := zMk (Kd.R_below (by (with_reducible repeat (first | apply zRa | apply zRn | apply zRd)); exact HO_3.out) hb); have n2_ := zMk (Kd.V_lower (zVm (ok' := fun k_ => some k_ ≠ (u3 : Value).ownBlock) ho0 (fun k_ hk_ => (Kd.fresh' (Kd.R_lt (by (with_reducible repeat (first | apply zRa | apply zRn | apply zRd)); exact HO_3.out)) k_ hk_))) (zBs (by repeat (first | (with_reducible first | exact HB.out | apply zBa | apply zBn | apply zBd) | exact HB.out)))); have n3_ := zMk (zBt (by repeat (first | (with_reducible first | exact HB.out | apply zBa | apply zBn | apply zBd) | exact HB.out)) hb); clear HO_0; clear HO_3; clear HB; have HO_0 := n0_; have HO_3 := n1_; have HO351 := n2_; have HB := n3_; clear n0_ n1_ n2_ n3_; (try clear hb); (try clear hb2); (try clear hk); (try clear hi); (try clear ho0)) | ((with_reducible refine gate_callee (f := 74) rfl ?_); refine goesL_ (some 16) rfl rfl Tryd.func74 (by kernel_rfl) rfl #[.int .i64 (wrap64 (t352))] rfl (by (try simp only [List.map_toArray, List.map_cons, List.map_nil]); first | done | rfl | (simp only [zLd, zLt]; rfl)) ?_; (with_reducible refine (strconv_Itoa_74.calls (wrap64 (t352)) t353 _ A5.out).mono ?_); rintro e w' ⟨rfl, ⟨nd, rfl⟩⟩; refine ⟨_, rfl, ?_⟩; obtain ⟨Ao12, co12, eo12⟩ := Kd.V_slice HO351.out; subst eo12) | ((with_reducible refine gate_builtin (b := .append) (xs := #[.tmp 20, .tmp 22]) rfl ?_); at_builtin; refine Kd.R_append Kd.string (w0 := w) w.heap.size rfl (.tmp 20) (.tmp 22) 78 9 (.string ⟨#[]⟩) 16 rfl Tryd.underlying78 info9 rfl (by decide) (by omega) u3 x3_1 t353 [.string t353] (fun _ => True) (fun _ => False) rfl rfl ?aP (fun _ hk => hk.elim) ?aF ?aO ?aB ?aS ?aL ?_; (case aP => exact rfl); (case aB => exact (by repeat (first | (with_reducible first | exact HB.out | apply zBa | apply zBn | apply zBd) | exact HB.out))); (case aF => exact (fun _ _ => trivial)); (case aO => exact (by (with_reducible repeat (first | apply zRa | apply zRn | apply zRd)); exact HO_3.out)); (case aS => exact (zBs (by repeat (first | (with_reducible first | exact HB.out | apply zBa | apply zBn | apply zBd) | exact HB.out)))); (case aL => have := LMc7.out; omega); intro v355 w13 ho hb hg hat; rw [← Ny354.out] at ho; have n0_ := zMk (Kd.V_afterv (ok := (fun _ => True)) (by (with_reducible repeat (first | apply zVa | apply zVn | apply zVd)); exact zVm HO_0.out (fun _ hk => ⟨trivial, hk⟩)) hg hat); have n1_ := zMk (Kd.V_afterv (ok := (fun _ => True)) (by (with_reducible repeat (first | apply zVa | apply zVn | apply zVd)); exact zVm HO351.out (fun _ hk => ⟨trivial, hk⟩)) hg hat); have n2_ := zMk (hb); have n3_ := zMk (ho); clear HO_0; clear HO351; clear HB; clear HO_3; have HO_0 := n0_; have HO351 := n1_; have HB := n2_; have HO356 := n3_; clear n0_ n1_ n2_ n3_; clear ho hb hg hat; obtain ⟨Ao14, co14, eo14⟩ := Kd.R_slice HO356.out; subst eo14) | ((with_reducible refine gate_callee (f := 75) rfl ?_); refine goesL_ (some 25) rfl rfl Tryd.func75 (by kernel_rfl) rfl #[.slice Ao14 y354.length co14] rfl (by (try simp only [List.map_toArray, List.map_cons, List.map_nil]); first | done | rfl | (simp only [zLd, zLt]; rfl)) ?_; (with_reducible refine (slices_Reverse_string_string.calls k1 (fun k_ => some k_ = (.slice Ao14 y354.length co14 : Value).ownBlock) (.slice Ao14 y354.length co14) y354 t357 w _ ?side1 ?side2 A8.out).mono ?_); (case side1 => repeat (first | (with_reducible first | exact HB.out | apply zBa | apply zBn | apply zBd) | exact HB.out)); (case side2 => exact Kd.R_tight rfl HO356.out); rintro e w15 ⟨rfl, hy0, hb, hkp⟩; refine ⟨_, rfl, ?_⟩; have n0_ := zMk (zVm (ok' := fun k_ => some k_ ≠ (.slice Ao14 y354.length co14 : Value).ownBlock) (Kd.V_keptB (HO_0.out) hkp (fun k_ hk_ hs_ => (hk_.2) hs_)) (fun k_ hk_ => hk_.1.2)); have n1_ := zMk (zVm (ok' := fun k_ => some k_ ≠ (.slice Ao14 y354.length co14 : Value).ownBlock) (Kd.V_keptB (HO351.out) hkp (fun k_ hk_ hs_ => (hk_.2) hs_)) (fun k_ hk_ => hk_.1.2)); have n2_ := zMk (Kd.R_reok rfl hy0 (fun k_ e_ => HO356.out.1 k_ e_)); have n3_ := zMk (hb); clear HO_0; clear HO351; clear HO356; clear HB; have HO_0 := n0_; have HO351 := n1_; have HO356 := n2_; have HB := n3_; clear n0_ n1_ n2_ n3_; (try clear hb); (try clear hkp); (try clear hy0)) | ((with_reducible refine gate_callee (f := 76) rfl ?_); refine goesL_ (some 27) rfl rfl Tryd.func76 (by kernel_rfl) rfl #[.slice Ao14 t357.length co14, .string (⟨#[]⟩ : ByteArray)] rfl (by (try simp only [List.map_toArray, List.map_cons, List.map_nil]); first | done | (rw [show t357.length = y354.length from (Kd.R_reads' HO356.out).1.symm] <;> rfl) | rfl | (simp only [zLd, zLt]; rfl)) ?_; (with_reducible refine (strings_Join.calls _ _ t357 (⟨#[]⟩ : ByteArray) t358 _ ?side1 ?side2 A9.out).mono ?_); (case side1 => repeat (first | exact (Kd.R_reads' HO356.out).2.2 | (with_reducible refine zCa ?_ _) | (with_reducible refine zCn ?_ _) | (with_reducible refine zCd ?_))); (case side2 => rw [show t357.length = y354.length from (Kd.R_reads' HO356.out).1.symm]; exact (Kd.R_reads' HO356.out).2.1); rintro e w' ⟨rfl, ⟨nd, rfl⟩⟩; refine ⟨_, rfl, ?_⟩))
    go_ret
    exact ⟨by first | rfl | (simp [errW_none, errW_some] <;> rfl) | (simp [*, errW_none, errW_some] <;> rfl), by repeat (first | (with_reducible first | exact HB.out | apply zBa | apply zBn | apply zBd) | exact HB.out)⟩
  · rw [if_neg c6] at H
    have c6b0 : ((t349.length : Int) == 0) = false := beq_eq_false_iff_ne.mpr c6
    have c6b1 : ((t349.length : Int) != 0) = true := bne_iff_ne.mpr c6
    have c6b2 : ¬ (t349 = []) := fun h_ => c6 (by rw [h_]; rfl)
    replace H := Option.bind_eq_some_iff.mp H
    obtain ⟨t359, A160, H⟩ := H
    have A16 := zMk A160
    clear A160
    by_cases c17 : t359.size + t353.size ≤ 9223372036854775807
    · rw [if_pos c17] at H
      have c17b0 := eq_true c17
      have c17b1 : decide (t359.size + t353.size ≤ 9223372036854775807) = true := decide_eq_true c17
      try have c17b2 : (9223372036854775807 < t359.size + t353.size) = False := eq_false (Nat.not_lt.2 c17)
      by_cases c18 : x3_1.length < 8796093022208
      rotate_left
      · rw [if_neg c18] at H; exact absurd H (by simp)
      rw [if_pos c18] at H
      have LMc18 := zMk c18
      clear c18
      obtain ⟨y360, hy360⟩ : ∃ y_ : List ByteArray, y_ = (x3_1 ++ [t359 ++ t353]) := ⟨_, rfl⟩
      replace H : (n_Text.l0 k1 t349 y360) = some r := by first | (rw [hy360]; with_reducible exact H) | (have H2_ := (zOb _ _).symm.trans H; rw [hy360]; with_reducible exact H2_) | (have H2_ := (zOb _ _).symm.trans H; with_reducible exact H2_) | with_reducible exact H | (rw [hy360]; exact H) | exact H
      have Ny360 := zMk hy360
      clear hy360
      have H' := zMk H
      clear H
      obtain ⟨Ao19, co19, eo19⟩ := Kd.V_slice HO_0.out
      subst eo19
      go_wp2_with (first | ((with_reducible refine gate_callee (f := 58) rfl ?_); refine goesL_ (some 11) rfl rfl Tryd.func58 (by kernel_rfl) rfl #[.slice Ao19 x0_1.length co19, .int .u32 1000000000] rfl (by (try simp only [List.map_toArray, List.map_cons, List.map_nil]); first | done | rfl | (simp only [zLd, zLt]; rfl)) ?_; (with_reducible refine (n_small.calls _ _ x0_1 1000000000 t349 t352 _ ?side1 ?side2 A4.out).mono ?_); (case side1 => repeat (first | exact (Kd.V_reads' HO_0.out).2.2 | (with_reducible refine zCa ?_ _) | (with_reducible refine zCn ?_ _) | (with_reducible refine zCd ?_))); (case side2 => exact (Kd.V_reads' HO_0.out).2.1); rintro e w20 ⟨v350, rfl, ho0, hb⟩; refine ⟨_, rfl, ?_⟩; have n0_ := zMk (zVb (by (with_reducible repeat (first | apply zVa | apply zVn | apply zVd)); exact HO_0.out) hb); have n1_ := zMk (Kd.R_below (by (with_reducible repeat (first | apply zRa | apply zRn | apply zRd)); exact HO_3.out) hb); have n2_ := zMk (Kd.V_lower (zVm (ok' := fun k_ => some k_ ≠ (u3 : Value).ownBlock) ho0 (fun k_ hk_ => (Kd.fresh' (Kd.R_lt (by (with_reducible repeat (first | apply zRa | apply zRn | apply zRd)); exact HO_3.out)) k_ hk_))) (zBs (by repeat (first | (with_reducible first | exact HB.out | apply zBa | apply zBn | apply zBd) | exact HB.out)))); have n3_ := zMk (zBt (by repeat (first | (with_reducible first | exact HB.out | apply zBa | apply zBn | apply zBd) | exact HB.out)) hb); clear HO_0; clear HO_3; clear HB; have HO_0 := n0_; have HO_3 := n1_; have HO351 := n2_; have HB := n3_; clear n0_ n1_ n2_ n3_; (try clear hb); (try clear hb2); (try clear hk); (try clear hi); (try clear ho0)) | ((with_reducible refine gate_callee (f := 74) rfl ?_); refine goesL_ (some 16) rfl rfl Tryd.func74 (by kernel_rfl) rfl #[.int .i64 (wrap64 (t352))] rfl (by (try simp only [List.map_toArray, List.map_cons, List.map_nil]); first | done | rfl | (simp only [zLd, zLt]; rfl)) ?_; (with_reducible refine (strconv_Itoa_74.calls (wrap64 (t352)) t353 _ A5.out).mono ?_); rintro e w' ⟨rfl, ⟨nd, rfl⟩⟩; refine ⟨_, rfl, ?_⟩; obtain ⟨Ao21, co21, eo21⟩ := Kd.V_slice HO351.out; subst eo21) | ((with_reducible refine gate_callee (f := 77) rfl ?_); refine goesL_ (some 32) rfl rfl Tryd.func77 (by kernel_rfl) rfl #[.string (⟨#[48]⟩ : ByteArray), .int .i64 (9 - (t353.size : Int))] rfl (by (try simp only [List.map_toArray, List.map_cons, List.map_nil]); first | done | rfl | (simp only [zLd, zLt]; rfl)) ?_; (with_reducible refine (strings_Repeat.calls (⟨#[48]⟩ : ByteArray) (9 - (t353.size : Int)) t359 _ (by rw [← hrw_ (by omega)]; exact A16.out)).mono ?_); rintro e w' ⟨rfl, ⟨nd, rfl⟩⟩; refine ⟨_, rfl, ?_⟩) | ((with_reducible refine gate_builtin (b := .append) (xs := #[.tmp 28, .tmp 35]) rfl ?_); at_builtin; refine Kd.R_append Kd.string (w0 := w) w.heap.size rfl (.tmp 28) (.tmp 35) 78 9 (.string ⟨#[]⟩) 16 rfl Tryd.underlying78 info9 rfl (by decide) (by omega) u3 x3_1 (t359 ++ t353) [.string (t359 ++ t353)] (fun _ => True) (fun _ => False) rfl rfl ?aP (fun _ hk => hk.elim) ?aF ?aO ?aB ?aS ?aL ?_; (case aP => exact rfl); (case aB => exact (by repeat (first | (with_reducible first | exact HB.out | apply zBa | apply zBn | apply zBd) | exact HB.out))); (case aF => exact (fun _ _ => trivial)); (case aO => exact (by (with_reducible repeat (first | apply zRa | apply zRn | apply zRd)); exact HO_3.out)); (case aS => exact (zBs (by repeat (first | (with_reducible first | exact HB.out | apply zBa | apply zBn | apply zBd) | exact HB.out)))); (case aL => have := LMc18.out; omega); intro v361 w22 ho hb hg hat; rw [← Ny360.out] at ho; have n0_ := zMk (Kd.V_afterv (ok := (fun _ => True)) (by (with_reducible repeat (first | apply zVa | apply zVn | apply zVd)); exact zVm HO_0.out (fun _ hk => ⟨trivial, hk⟩)) hg hat); have n1_ := zMk (Kd.V_afterv (ok := (fun _ => True)) (by (with_reducible repeat (first | apply zVa | apply zVn | apply zVd)); exact zVm HO351.out (fun _ hk => ⟨trivial, hk⟩)) hg hat); have n2_ := zMk (hb); have n3_ := zMk (ho); clear HO_0; clear HO351; clear HB; clear HO_3; have HO_0 := n0_; have HO351 := n1_; have HB := n2_; have HO362 := n3_; clear n0_ n1_ n2_ n3_; clear ho hb hg hat))
      go_roundg k1
      case measure => have := HK1.out; omega
      case rel => exact ⟨(t349), (y360), H', ⟨by have := HK1.out; omega⟩, ⟨by (with_reducible repeat (first | apply zVa | apply zVn | apply zVd)); exact zVm HO351.out (fun _ hk => hk.2)⟩, ⟨by (with_reducible repeat (first | apply zRa | apply zRn | apply zRd)); exact HO362.out⟩, ⟨by repeat (first | (with_reducible first | exact HB.out | apply zBa | apply zBn | apply zBd) | exact HB.out)⟩⟩
    · rw [if_neg c17] at H
      exact absurd H (by simp)


/-! ### integer_Text: function 29 -/
def integer_Text.f (k : Nat) (a0_0 : Bool) (l0_1 : List Int) : Option (ByteArray) := (integer_Norm.f a0_0 l0_1).bind fun bt364 => (if bt364.1 = true then ((n_Text.f k l0_1).bind fun t368 => (if 1 + t368.size ≤ 9223372036854775807 then (some ((⟨#[45]⟩ : ByteArray) ++ t368)) else (none))) else ((n_Text.f k l0_1).bind fun t369 => (if 0 + t369.size ≤ 9223372036854775807 then (some ((⟨#[]⟩ : ByteArray) ++ t369)) else (none))))
set_option maxHeartbeats 8000000 in
set_option maxRecDepth 100000 in
theorem integer_Text.calls (k : Nat) (a0_0 : Bool) (A0_1 : Option Addr) (c0_1 : Nat) (l0_1 : List Int) (r : ByteArray) (w : World) (hr0_1 : Kd.C (Kd.int .u32) w A0_1 l0_1.length l0_1) (hc0_1 : l0_1.length ≤ c0_1) (h : integer_Text.f k a0_0 l0_1 = some r) :
    Calls Tryd.prog 29 #[.agg #[.bool a0_0, .slice A0_1 l0_1.length c0_1]] w fun e w' => e = .returned (.string r) ∧ Below w.heap.size w w' := by
  have hu24 := Tryd.underlying24
  have hfd24_0 : ∀ (w_ : World) (b0_ : Bool) (A1_ : Option Addr) (n1_ c1_ : Nat), (Instr.field 24 (.agg #[.bool b0_, .slice A1_ n1_ c1_]) 0).run Tryd.prog w_ = .ok (.bool b0_) w_ := by intros; kernel_rfl
  have HR0_1 := zMk hr0_1
  have HC0_1 := zMk hc0_1
  clear hr0_1 hc0_1
  have HB := zMk (Below.refl w.heap.size w)
  have H : ((integer_Norm.f a0_0 l0_1).bind fun bt364 => (if bt364.1 = true then ((n_Text.f k l0_1).bind fun t368 => (if 1 + t368.size ≤ 9223372036854775807 then (some ((⟨#[45]⟩ : ByteArray) ++ t368)) else (none))) else ((n_Text.f k l0_1).bind fun t369 => (if 0 + t369.size ≤ 9223372036854775807 then (some ((⟨#[]⟩ : ByteArray) ++ t369)) else (none))))) = some r := h
  clear h
  replace H := Option.bind_eq_some_iff.mp H
  obtain ⟨⟨t364, t365⟩, A20, H⟩ := H
  replace H : (if t364 = true then ((n_Text.f k l0_1).bind fun t368 => (if 1 + t368.size ≤ 9223372036854775807 then (some ((⟨#[45]⟩ : ByteArray) ++ t368)) else (none))) else ((n_Text.f k l0_1).bind fun t369 => (if 0 + t369.size ≤ 9223372036854775807 then (some ((⟨#[]⟩ : ByteArray) ++ t369)) else (none)))) = some r := H
  have A2 := zMk A20
  clear A20
  by_cases c3 : t364 = true
  · subst c3
    have H1 : ((n_Text.f k l0_1).bind fun t368 => (if 1 + t368.size ≤ 9223372036854775807 then (some ((⟨#[45]⟩ : ByteArray) ++ t368)) else (none))) = some r := by rw [if_pos rfl] at H; exact H
    clear H
    have H := H1
    clear H1
    replace H := Option.bind_eq_some_iff.mp H
    obtain ⟨t368, A40, H⟩ := H
    have A4 := zMk A40
    clear A40
    by_cases c5 : 1 + t368.size ≤ 9223372036854775807
    rotate_left
    · rw [if_neg c5] at H; exact absurd H (by simp)
    rw [if_pos c5] at H
    have c5b0 := eq_true c5
    have c5b1 : decide (1 + t368.size ≤ 9223372036854775807) = true := decide_eq_true c5
    try have c5b2 : (9223372036854775807 < 1 + t368.size) = False := eq_false (Nat.not_lt.2 c5)
    obtain rfl := zOi H
    go_enter Tryd.func29, Tryd.ntmps29
    go_wp2_with (first | ((with_reducible refine gate_dst (N := 1) rfl ?_); refine box_event ?hg (N := 1) ?hd (cs := #[.bool a0_0, .slice A0_1 l0_1.length c0_1]) (t := 24) ?hr ?_; (case hd => rfl); (case hg => rfl); (case hr => first | (go_simp; done) | (go_simp; rfl) | (go_simp; rw [show ∀ x : Int, IntKind.u32.wrap (IntKind.u8.wrap x) = x % 256 from fun x => (by show (x % 256) % 4294967296 = x % 256; omega)])); intro gb363 hg w6 hbox hb; have n0_ := zMk (zBt (by repeat (first | (with_reducible first | exact HB.out | apply zBa | apply zBn | apply zBd) | exact HB.out)) hb); have n1_ := zMk (hbox); have n2_ := zMk ((by rw [hg]; exact (zBs (by repeat (first | (with_reducible first | exact HB.out | apply zBa | apply zBn | apply zBd) | exact HB.out))) : w.heap.size ≤ gb363)); have n3_ := zMk ((by rw [hg]; exact (zBs (by repeat (first | (with_reducible first | exact HB.out | apply zBa | apply zBn | apply zBd) | exact HB.out))) : w.heap.size ≤ gb363)); clear HB; have HB := n0_; have BK363 := n1_; have GW363 := n2_; have GE363 := n3_; clear n0_ n1_ n2_ n3_; clear hb hbox hg; have hcz7_0 : w6.cell? ⟨gb363, 0, none⟩ = some (.bool a0_0) := (blk_cell BK363.out 0).trans rfl; have hcz7_1 : w6.cell? ⟨gb363, 1, none⟩ = some (.slice A0_1 l0_1.length c0_1) := (blk_cell BK363.out 1).trans rfl; have hfz7_0 := blk_frozen BK363.out 0; have hfz7_1 := blk_frozen BK363.out 1) | ((with_reducible refine gate_callee (f := 47) rfl ?_); refine goesL_ (some 5) rfl rfl Tryd.func47 (by kernel_rfl) rfl #[.agg #[.bool a0_0, .slice A0_1 l0_1.length c0_1]] rfl (by (try simp only [List.map_toArray, List.map_cons, List.map_nil]); first | done | rfl | (simp only [zLd, zLt]; rfl)) ?_; (with_reducible refine (integer_Norm.calls a0_0 _ _ l0_1 true t365 _ ?side1 ?side2 A2.out).mono ?_); (case side1 => repeat (first | exact (Kd.C_below HR0_1.out HB.out) | (with_reducible refine zCa ?_ _) | (with_reducible refine zCn ?_ _) | (with_reducible refine zCd ?_))); (case side2 => exact HC0_1.out); rintro e w8 ⟨v366, rfl, ho0, hb⟩; refine ⟨_, rfl, ?_⟩; have n0_ := zMk (Kd.R_lower ho0 (zBs (by repeat (first | (with_reducible first | exact HB.out | apply zBa | apply zBn | apply zBd | refine below_set ?_ GE363.out) | exact HB.out)))); have n1_ := zMk (blk_below (g := gb363) (o := .cells #[.bool a0_0, .slice A0_1 l0_1.length c0_1] 24 (0, 0)) (by (with_reducible repeat (first | refine blk_drewN ?_ _ | refine blk_drew ?_ | refine blk_alloc ?_ _)); exact BK363.out) hb); have n2_ := zMk (zBt (by repeat (first | (with_reducible first | exact HB.out | apply zBa | apply zBn | apply zBd | refine below_set ?_ GE363.out) | exact HB.out)) hb); clear BK363; clear HB; have HO367 := n0_; have BK363 := n1_; have HB := n2_; clear n0_ n1_ n2_; (try clear hb); (try clear hb2); (try clear hk); (try clear hi); (try clear ho0); obtain ⟨Ao9, co9, eo9⟩ := Kd.R_slice HO367.out; subst eo9; have hcz10_0 : w8.cell? ⟨gb363, 0, none⟩ = some (.bool a0_0) := (blk_cell BK363.out 0).trans rfl; have hcz10_1 : w8.cell? ⟨gb363, 1, none⟩ = some (.slice A0_1 l0_1.length c0_1) := (blk_cell BK363.out 1).trans rfl; have hfz10_0 := blk_frozen BK363.out 0; have hfz10_1 := blk_frozen BK363.out 1) | ((with_reducible refine gate_callee (f := 54) rfl ?_); refine goesL_ (some 10) rfl rfl Tryd.func54 (by kernel_rfl) rfl #[.slice A0_1 l0_1.length c0_1] rfl (by (try simp only [List.map_toArray, List.map_cons, List.map_nil]); first | done | rfl | (simp only [zLd, zLt]; rfl)) ?_; (with_reducible refine (n_Text.calls k _ _ l0_1 t368 _ ?side1 ?side2 A4.out).mono ?_); (case side1 => repeat (first | exact (Kd.C_below HR0_1.out HB.out) | (with_reducible refine zCa ?_ _) | (with_reducible refine zCn ?_ _) | (with_reducible refine zCd ?_))); (case side2 => exact HC0_1.out); rintro e w11 ⟨rfl, hb⟩; refine ⟨_, rfl, ?_⟩; have n0_ := zMk (Kd.R_below (by (with_reducible repeat (first | apply zRa | apply zRn | apply zRd)); exact HO367.out) hb); have n1_ := zMk (blk_below (g := gb363) (o := .cells #[.bool a0_0, .slice A0_1 l0_1.length c0_1] 24 (0, 0)) (by (with_reducible repeat (first | refine blk_drewN ?_ _ | refine blk_drew ?_ | refine blk_alloc ?_ _)); exact BK363.out) hb); have n2_ := zMk (zBt (by repeat (first | (with_reducible first | exact HB.out | apply zBa | apply zBn | apply zBd | refine below_set ?_ GE363.out) | exact HB.out)) hb); clear HO367; clear BK363; clear HB; have HO367 := n0_; have BK363 := n1_; have HB := n2_; clear n0_ n1_ n2_; (try clear hb); (try clear hb2); (try clear hk); (try clear hi)))
    go_ret
    exact ⟨by first | rfl | (simp [errW_none, errW_some] <;> rfl) | (simp [*, errW_none, errW_some] <;> rfl), by repeat (first | (with_reducible first | exact HB.out | apply zBa | apply zBn | apply zBd | refine below_set ?_ GE363.out) | exact HB.out)⟩
  · replace c3 := Bool.eq_false_iff.mpr c3
    subst c3
    have H1 : ((n_Text.f k l0_1).bind fun t369 => (if 0 + t369.size ≤ 9223372036854775807 then (some ((⟨#[]⟩ : ByteArray) ++ t369)) else (none))) = some r := by rw [if_neg (show ¬ (false = true) by decide)] at H; exact H
    clear H
    have H := H1
    clear H1
    replace H := Option.bind_eq_some_iff.mp H
    obtain ⟨t369, A120, H⟩ := H
    have A12 := zMk A120
    clear A120
    by_cases c13 : 0 + t369.size ≤ 9223372036854775807
    · rw [if_pos c13] at H
      have c13b0 := eq_true c13
      have c13b1 : decide (0 + t369.size ≤ 9223372036854775807) = true := decide_eq_true c13
      try have c13b2 : (9223372036854775807 < 0 + t369.size) = False := eq_false (Nat.not_lt.2 c13)
      obtain rfl := zOi H
      go_enter Tryd.func29, Tryd.ntmps29
      go_wp2_with (first | ((with_reducible refine gate_dst (N := 1) rfl ?_); refine box_event ?hg (N := 1) ?hd (cs := #[.bool a0_0, .slice A0_1 l0_1.length c0_1]) (t := 24) ?hr ?_; (case hd => rfl); (case hg => rfl); (case hr => first | (go_simp; done) | (go_simp; rfl) | (go_simp; rw [show ∀ x : Int, IntKind.u32.wrap (IntKind.u8.wrap x) = x % 256 from fun x => (by show (x % 256) % 4294967296 = x % 256; omega)])); intro gb363 hg w14 hbox hb; have n0_ := zMk (zBt (by repeat (first | (with_reducible first | exact HB.out | apply zBa | apply zBn | apply zBd) | exact HB.out)) hb); have n1_ := zMk (hbox); have n2_ := zMk ((by rw [hg]; exact (zBs (by repeat (first | (with_reducible first | exact HB.out | apply zBa | apply zBn | apply zBd) | exact HB.out))) : w.heap.size ≤ gb363)); have n3_ := zMk ((by rw [hg]; exact (zBs (by repeat (first | (with_reducible first | exact HB.out | apply zBa | apply zBn | apply zBd) | exact HB.out))) : w.heap.size ≤ gb363)); clear HB; have HB := n0_; have BK363 := n1_; have GW363 := n2_; have GE363 := n3_; clear n0_ n1_ n2_ n3_; clear hb hbox hg; have hcz15_0 : w14.cell? ⟨gb363, 0, none⟩ = some (.bool a0_0) := (blk_cell BK363.out 0).trans rfl; have hcz15_1 : w14.cell? ⟨gb363, 1, none⟩ = some (.slice A0_1 l0_1.length c0_1) := (blk_cell BK363.out 1).trans rfl; have hfz15_0 := blk_frozen BK363.out 0; have hfz15_1 := blk_frozen BK363.out 1) | ((with_reducible refine gate_callee (f := 47) rfl ?_); refine goesL_ (some 5) rfl rfl Tryd.func47 (by kernel_rfl) rfl #[.agg #[.bool a0_0, .slice A0_1 l0_1.length c0_1]] rfl (by (try simp only [List.map_toArray, List.map_cons, List.map_nil]); first | done | rfl | (simp only [zLd, zLt]; rfl)) ?_; (with_reducible refine (integer_Norm.calls a0_0 _ _ l0_1 false t365 _ ?side1 ?side2 A2.out).mono ?_); (case side1 => repeat (first | exact (Kd.C_below HR0_1.out HB.out) | (with_reducible refine zCa ?_ _) | (with_reducible refine zCn ?_ _) | (with_reducible refine zCd ?_))); (case side2 => exact HC0_1.out); rintro e w16 ⟨v366, rfl, ho0, hb⟩; refine ⟨_, rfl, ?_⟩; have n0_ := zMk (Kd.R_lower ho0 (zBs (by repeat (first | (with_reducible first | exact HB.out | apply zBa | apply zBn | apply zBd | refine below_set ?_ GE363.out) | exact HB.out)))); have n1_ := zMk (blk_below (g := gb363) (o := .cells #[.bool a0_0, .slice A0_1 l0_1.length c0_1] 24 (0, 0)) (by (with_reducible repeat (first | refine blk_drewN ?_ _ | refine blk_drew ?_ | refine blk_alloc ?_ _)); exact BK363.out) hb); have n2_ := zMk (zBt (by repeat (first | (with_reducible first | exact HB.out | apply zBa | apply zBn | apply zBd | refine below_set ?_ GE363.out) | exact HB.out)) hb); clear BK363; clear HB; have HO367 := n0_; have BK363 := n1_; have HB := n2_; clear n0_ n1_ n2_; (try clear hb); (try clear hb2); (try clear hk); (try clear hi); (try clear ho0); obtain ⟨Ao17, co17, eo17⟩ := Kd.R_slice HO367.out; subst eo17; have hcz18_0 : w16.cell? ⟨gb363, 0, none⟩ = some (.bool a0_0) := (blk_cell BK363.out 0).trans rfl; have hcz18_1 : w16.cell? ⟨gb363, 1, none⟩ = some (.slice A0_1 l0_1.length c0_1) := (blk_cell BK363.out 1).trans rfl; have hfz18_0 := blk_frozen BK363.out 0; have hfz18_1 := blk_frozen BK363.out 1) | ((with_reducible refine gate_callee (f := 54) rfl ?_); refine goesL_ (some 10) rfl rfl Tryd.func54 (by kernel_rfl) rfl #[.slice A0_1 l0_1.length c0_1] rfl (by (try simp only [List.map_toArray, List.map_cons, List.map_nil]); first | done | rfl | (simp only [zLd, zLt]; rfl)) ?_; (with_reducible refine (n_Text.calls k _ _ l0_1 t369 _ ?side1 ?side2 A12.out).mono ?_); (case side1 => repeat (first | exact (Kd.C_below HR0_1.out HB.out) | (with_reducible refine zCa ?_ _) | (with_reducible refine zCn ?_ _) | (with_reducible refine zCd ?_))); (case side2 => exact HC0_1.out); rintro e w19 ⟨rfl, hb⟩; refine ⟨_, rfl, ?_⟩; have n0_ := zMk (Kd.R_below (by (with_reducible repeat (first | apply zRa | apply zRn | apply zRd)); exact HO367.out) hb); have n1_ := zMk (blk_below (g := gb363) (o := .cells #[.bool a0_0, .slice A0_1 l0_1.length c0_1] 24 (0, 0)) (by (with_reducible repeat (first | refine blk_drewN ?_ _ | refine blk_drew ?_ | refine blk_alloc ?_ _)); exact BK363.out) hb); have n2_ := zMk (zBt (by repeat (first | (with_reducible first | exact HB.out | apply zBa | apply zBn | apply zBd | refine below_set ?_ GE363.out) | exact HB.out)) hb); clear HO367; clear BK363; clear HB; have HO367 := n0_; have BK363 := n1_; have HB := n2_; clear n0_ n1_ n2_; (try clear hb); (try clear hb2); (try clear hk); (try clear hi)))
      go_ret
      exact ⟨by first | rfl | (simp [errW_none, errW_some] <;> rfl) | (simp [*, errW_none, errW_some] <;> rfl), by repeat (first | (with_reducible first | exact HB.out | apply zBa | apply zBn | apply zBd | refine below_set ?_ GE363.out) | exact HB.out)⟩
    · rw [if_neg c13] at H
      exact absurd H (by simp)


/-! ### integer_Of: function 31 -/
def integer_Of.f (a0 : Int) : Option (Bool × List Int) := if a0 < 0 then ((n_Of.f (IntKind.u64.wrap (-(IntKind.u64.wrap (a0))))).bind fun t371 => ((integer_signed.f true t371).bind fun bt374 => (some (bt374.1, bt374.2)))) else ((n_Of.f (IntKind.u64.wrap (a0))).bind fun t378 => ((integer_signed.f false t378).bind fun bt381 => (some (bt381.1, bt381.2))))
set_option maxHeartbeats 8000000 in
set_option maxRecDepth 100000 in
theorem integer_Of.calls (a0 : Int) (r1 : Bool) (r2 : List Int) (w : World) (h : integer_Of.f a0 = some (r1, r2)) :
    Calls Tryd.prog 31 #[.int .i64 a0] w fun e w' => ∃ v1_ : Value, e = .returned (.agg #[.bool r1, v1_]) ∧ Kd.R (Kd.int .u32) 58 w' w.heap.size (fun _ => True) v1_ r2 ∧ Below w.heap.size w w' := by
  have hu24 := Tryd.underlying24
  have HB := zMk (Below.refl w.heap.size w)
  have H : (if a0 < 0 then ((n_Of.f (IntKind.u64.wrap (-(IntKind.u64.wrap (a0))))).bind fun t371 => ((integer_signed.f true t371).bind fun bt374 => (some (bt374.1, bt374.2)))) else ((n_Of.f (IntKind.u64.wrap (a0))).bind fun t378 => ((integer_signed.f false t378).bind fun bt381 => (some (bt381.1, bt381.2))))) = some (r1, r2) := h
  clear h
  by_cases c2 : a0 < 0
  · rw [if_pos c2] at H
    have c2b0 : decide (a0 < 0) = true := decide_eq_true c2
    clear c2
    replace H := Option.bind_eq_some_iff.mp H
    obtain ⟨t371, A30, H⟩ := H
    have A3 := zMk A30
    clear A30
    replace H := Option.bind_eq_some_iff.mp H
    obtain ⟨⟨t374, t375⟩, A40, H⟩ := H
    replace H : (some (t374, t375)) = some (r1, r2) := H
    have A4 := zMk A40
    clear A40
    simp only [Option.some.injEq, Prod.mk.injEq] at H
    obtain ⟨rfl, rfl⟩ := H
    go_enter Tryd.func31, Tryd.ntmps31
    go_wp2_with (first | ((with_reducible refine gate_dst (N := 2) rfl ?_); refine box_event ?hg (N := 2) ?hd (cs := #[.bool false, .slice none 0 0]) (t := 24) ?hr ?_; (case hd => rfl); (case hg => rfl); (case hr => first | (go_simp; done) | (go_simp; rfl) | (go_simp; rw [show ∀ x : Int, IntKind.u32.wrap (IntKind.u8.wrap x) = x % 256 from fun x => (by show (x % 256) % 4294967296 = x % 256; omega)])); intro gb370 hg w5 hbox hb; have n0_ := zMk (zBt (by repeat (first | (with_reducible first | exact HB.out | apply zBa | apply zBn | apply zBd) | exact HB.out)) hb); have n1_ := zMk (hbox); have n2_ := zMk ((by rw [hg]; exact (zBs (by repeat (first | (with_reducible first | exact HB.out | apply zBa | apply zBn | apply zBd) | exact HB.out))) : w.heap.size ≤ gb370)); have n3_ := zMk ((by rw [hg]; exact (zBs (by repeat (first | (with_reducible first | exact HB.out | apply zBa | apply zBn | apply zBd) | exact HB.out))) : w.heap.size ≤ gb370)); clear HB; have HB := n0_; have BK370 := n1_; have GW370 := n2_; have GE370 := n3_; clear n0_ n1_ n2_ n3_; clear hb hbox hg) | ((with_reducible refine gate_callee (f := 34) rfl ?_); refine goesL_ (some 8) rfl rfl Tryd.func34 (by kernel_rfl) rfl #[.int .u64 (IntKind.u64.wrap (-(IntKind.u64.wrap (a0))))] rfl (by (try simp only [List.map_toArray, List.map_cons, List.map_nil]); first | done | rfl | (simp only [zLd, zLt]; rfl)) ?_; (with_reducible refine (n_Of.calls (IntKind.u64.wrap (-(IntKind.u64.wrap (a0)))) t371 _ A3.out).mono ?_); rintro e w6 ⟨v372, rfl, ho0, hb⟩; refine ⟨_, rfl, ?_⟩; have n0_ := zMk (Kd.V_lower (zVm (ok' := fun k_ => k_ ≠ gb370) ho0 (fun k_ hk_ => (Kd.freshB (g := gb370) (o := .cells #[.bool false, .slice none 0 0] 24 (0, 0)) (by (with_reducible repeat (first | refine blk_drewN ?_ _ | refine blk_drew ?_ | refine blk_alloc ?_ _)); exact BK370.out) k_ hk_))) (zBs (by repeat (first | (with_reducible first | exact HB.out | apply zBa | apply zBn | apply zBd | refine below_set ?_ GE370.out) | exact HB.out)))); have n1_ := zMk (blk_below (g := gb370) (o := .cells #[.bool false, .slice none 0 0] 24 (0, 0)) (by (with_reducible repeat (first | refine blk_drewN ?_ _ | refine blk_drew ?_ | refine blk_alloc ?_ _)); exact BK370.out) hb); have n2_ := zMk (zBt (by repeat (first | (with_reducible first | exact HB.out | apply zBa | apply zBn | apply zBd | refine below_set ?_ GE370.out) | exact HB.out)) hb); clear BK370; clear HB; have HO373 := n0_; have BK370 := n1_; have HB := n2_; clear n0_ n1_ n2_; (try clear hb); (try clear hb2); (try clear hk); (try clear hi); (try clear ho0); obtain ⟨Ao7, co7, eo7⟩ := Kd.V_slice HO373.out; subst eo7) | ((with_reducible refine gate_callee (f := 36) rfl ?_); refine goesL_ (some 9) rfl rfl Tryd.func36 (by kernel_rfl) rfl #[.bool true, .slice Ao7 t371.length co7] rfl (by (try simp only [List.map_toArray, List.map_cons, List.map_nil]); first | done | rfl | (simp only [zLd, zLt]; rfl)) ?_; (with_reducible refine (integer_signed.calls true _ _ t371 t374 t375 _ ?side1 ?side2 A4.out).mono ?_); (case side1 => repeat (first | exact (Kd.V_reads' HO373.out).2.2 | (with_reducible refine zCa ?_ _) | (with_reducible refine zCn ?_ _) | (with_reducible refine zCd ?_))); (case side2 => exact (Kd.V_reads' HO373.out).2.1); rintro e w8 ⟨v376, rfl, ho0, hb⟩; refine ⟨_, rfl, ?_⟩; have n0_ := zMk (Kd.V_elder' (by (with_reducible repeat (first | apply zVa | apply zVn | apply zVd)); exact HO373.out) (Kd.R_base ho0) hb); have n1_ := zMk (Kd.R_lower ho0 (zBs (by repeat (first | (with_reducible first | exact HB.out | apply zBa | apply zBn | apply zBd | refine below_set ?_ GE370.out) | exact HB.out)))); have n2_ := zMk (blk_below (g := gb370) (o := .cells #[.bool false, .slice none 0 0] 24 (0, 0)) (by (with_reducible repeat (first | refine blk_drewN ?_ _ | refine blk_drew ?_ | refine blk_alloc ?_ _)); exact BK370.out) hb); have n3_ := zMk (zBt (by repeat (first | (with_reducible first | exact HB.out | apply zBa | apply zBn | apply zBd | refine below_set ?_ GE370.out) | exact HB.out)) hb); clear HO373; clear BK370; clear HB; have HO373 := n0_; have HO377 := n1_; have BK370 := n2_; have HB := n3_; clear n0_ n1_ n2_ n3_; (try clear hb); (try clear hb2); (try clear hk); (try clear hi); (try clear ho0); have hcz9_0 : w8.cell? ⟨gb370, 0, none⟩ = some (.bool false) := (blk_cell BK370.out 0).trans rfl; have hcz9_1 : w8.cell? ⟨gb370, 1, none⟩ = some (.slice none 0 0) := (blk_cell BK370.out 1).trans rfl; have hfz9_0 := blk_frozen BK370.out 0; have hfz9_1 := blk_frozen BK370.out 1; obtain ⟨Ao10, co10, eo10⟩ := Kd.R_slice HO377.out; subst eo10))
    refine bodyPost_ret (results_cell_row rfl _ _ gb370 24 #[.bool t374, .slice Ao10 t375.length co10] (0, 0) _ rfl (by (with_reducible repeat (first | refine blk_drewN ?_ _ | refine blk_drew ?_ | refine blk_alloc ?_ _)); refine blk_put (cs := #[.bool t374, .slice none 0 0]) ?_ 1 _ rfl; (with_reducible repeat (first | refine blk_drewN ?_ _ | refine blk_drew ?_ | refine blk_alloc ?_ _)); refine blk_put (cs := #[.bool false, .slice none 0 0]) ?_ 0 _ rfl; (with_reducible repeat (first | refine blk_drewN ?_ _ | refine blk_drew ?_ | refine blk_alloc ?_ _)); exact BK370.out) Tryd.underlying24 rfl (by kernel_rfl)) rfl ?_
    exact ⟨_, by first | rfl | (simp [errW_none, errW_some] <;> rfl) | (simp [*, errW_none, errW_some] <;> rfl), by (with_reducible repeat (first | apply zRa | apply zRn | apply zRd)); exact zRm (Kd.R_far (p := ⟨gb370, 1, none⟩) (Kd.R_far (p := ⟨gb370, 0, none⟩) (Kd.R_types HO377.out BK370.out (by decide)) (fun _ hk => hk.2) (.bool t374)) (fun _ hk => hk.2) (.slice Ao10 t375.length co10)) (fun _ hk => trivial), by repeat (first | (with_reducible first | exact HB.out | apply zBa | apply zBn | apply zBd | refine below_set ?_ GE370.out) | exact HB.out)⟩
  · rw [if_neg c2] at H
    have c2b0 : decide (a0 < 0) = false := decide_eq_false c2
    clear c2
    replace H := Option.bind_eq_some_iff.mp H
    obtain ⟨t378, A110, H⟩ := H
    have A11 := zMk A110
    clear A110
    replace H := Option.bind_eq_some_iff.mp H
    obtain ⟨⟨t381, t382⟩, A120, H⟩ := H
    replace H : (some (t381, t382)) = some (r1, r2) := H
    have A12 := zMk A120
    clear A120
    simp only [Option.some.injEq, Prod.mk.injEq] at H
    obtain ⟨rfl, rfl⟩ := H
    go_enter Tryd.func31, Tryd.ntmps31
    go_wp2_with (first | ((with_reducible refine gate_dst (N := 2) rfl ?_); refine box_event ?hg (N := 2) ?hd (cs := #[.bool false, .slice none 0 0]) (t := 24) ?hr ?_; (case hd => rfl); (case hg => rfl); (case hr => first | (go_simp; done) | (go_simp; rfl) | (go_simp; rw [show ∀ x : Int, IntKind.u32.wrap (IntKind.u8.wrap x) = x % 256 from fun x => (by show (x % 256) % 4294967296 = x % 256; omega)])); intro gb370 hg w13 hbox hb; have n0_ := zMk (zBt (by repeat (first | (with_reducible first | exact HB.out | apply zBa | apply zBn | apply zBd) | exact HB.out)) hb); have n1_ := zMk (hbox); have n2_ := zMk ((by rw [hg]; exact (zBs (by repeat (first | (with_reducible first | exact HB.out | apply zBa | apply zBn | apply zBd) | exact HB.out))) : w.heap.size ≤ gb370)); have n3_ := zMk ((by rw [hg]; exact (zBs (by repeat (first | (with_reducible first | exact HB.out | apply zBa | apply zBn | apply zBd) | exact HB.out))) : w.heap.size ≤ gb370)); clear HB; have HB := n0_; have BK370 := n1_; have GW370 := n2_; have GE370 := n3_; clear n0_ n1_ n2_ n3_; clear hb hbox hg) | ((with_reducible refine gate_callee (f := 34) rfl ?_); refine goesL_ (some 12) rfl rfl Tryd.func34 (by kernel_rfl) rfl #[.int .u64 (IntKind.u64.wrap (a0))] rfl (by (try simp only [List.map_toArray, List.map_cons, List.map_nil]); first | done | rfl | (simp only [zLd, zLt]; rfl)) ?_; (with_reducible refine (n_Of.calls (IntKind.u64.wrap (a0)) t378 _ A11.out).mono ?_); rintro e w14 ⟨v379, rfl, ho0, hb⟩; refine ⟨_, rfl, ?_⟩; have n0_ := zMk (Kd.V_lower (zVm (ok' := fun k_ => k_ ≠ gb370) ho0 (fun k_ hk_ => (Kd.freshB (g := gb370) (o := .cells #[.bool false, .slice none 0 0] 24 (0, 0)) (by (with_reducible repeat (first | refine blk_drewN ?_ _ | refine blk_drew ?_ | refine blk_alloc ?_ _)); exact BK370.out) k_ hk_))) (zBs (by repeat (first | (with_reducible first | exact HB.out | apply zBa | apply zBn | apply zBd | refine below_set ?_ GE370.out) | exact HB.out)))); have n1_ := zMk (blk_below (g := gb370) (o := .cells #[.bool false, .slice none 0 0] 24 (0, 0)) (by (with_reducible repeat (first | refine blk_drewN ?_ _ | refine blk_drew ?_ | refine blk_alloc ?_ _)); exact BK370.out) hb); have n2_ := zMk (zBt (by repeat (first | (with_reducible first | exact HB.out | apply zBa | apply zBn | apply zBd | refine below_set ?_ GE370.out) | exact HB.out)) hb); clear BK370; clear HB; have HO380 := n0_; have BK370 := n1_; have HB := n2_; clear n0_ n1_ n2_; (try clear hb); (try clear hb2); (try clear hk); (try clear hi); (try clear ho0); obtain ⟨Ao15, co15, eo15⟩ := Kd.V_slice HO380.out; subst eo15) | ((with_reducible refine gate_callee (f := 36) rfl ?_); refine goesL_ (some 13) rfl rfl Tryd.func36 (by kernel_rfl) rfl #[.bool false, .slice Ao15 t378.length co15] rfl (by (try simp only [List.map_toArray, List.map_cons, List.map_nil]); first | done | rfl | (simp only [zLd, zLt]; rfl)) ?_; (with_reducible refine (integer_signed.calls false _ _ t378 t381 t382 _ ?side1 ?side2 A12.out).mono ?_); (case side1 => repeat (first | exact (Kd.V_reads' HO380.out).2.2 | (with_reducible refine zCa ?_ _) | (with_reducible refine zCn ?_ _) | (with_reducible refine zCd ?_))); (case side2 => exact (Kd.V_reads' HO380.out).2.1); rintro e w16 ⟨v383, rfl, ho0, hb⟩; refine ⟨_, rfl, ?_⟩; have n0_ := zMk (Kd.V_elder' (by (with_reducible repeat (first | apply zVa | apply zVn | apply zVd)); exact HO380.out) (Kd.R_base ho0) hb); have n1_ := zMk (Kd.R_lower ho0 (zBs (by repeat (first | (with_reducible first | exact HB.out | apply zBa | apply zBn | apply zBd | refine below_set ?_ GE370.out) | exact HB.out)))); have n2_ := zMk (blk_below (g := gb370) (o := .cells #[.bool false, .slice none 0 0] 24 (0, 0)) (by (with_reducible repeat (first | refine blk_drewN ?_ _ | refine blk_drew ?_ | refine blk_alloc ?_ _)); exact BK370.out) hb); have n3_ := zMk (zBt (by repeat (first | (with_reducible first | exact HB.out | apply zBa | apply zBn | apply zBd | refine below_set ?_ GE370.out) | exact HB.out)) hb); clear HO380; clear BK370; clear HB; have HO380 := n0_; have HO384 := n1_; have BK370 := n2_; have HB := n3_; clear n0_ n1_ n2_ n3_; (try clear hb); (try clear hb2); (try clear hk); (try clear hi); (try clear ho0); have hcz17_0 : w16.cell? ⟨gb370, 0, none⟩ = some (.bool false) := (blk_cell BK370.out 0).trans rfl; have hcz17_1 : w16.cell? ⟨gb370, 1, none⟩ = some (.slice none 0 0) := (blk_cell BK370.out 1).trans rfl; have hfz17_0 := blk_frozen BK370.out 0; have hfz17_1 := blk_frozen BK370.out 1; obtain ⟨Ao18, co18, eo18⟩ := Kd.R_slice HO384.out; subst eo18))
    refine bodyPost_ret (results_cell_row rfl _ _ gb370 24 #[.bool t381, .slice Ao18 t382.length co18] (0, 0) _ rfl (by (with_reducible repeat (first | refine blk_drewN ?_ _ | refine blk_drew ?_ | refine blk_alloc ?_ _)); refine blk_put (cs := #[.bool t381, .slice none 0 0]) ?_ 1 _ rfl; (with_reducible repeat (first | refine blk_drewN ?_ _ | refine blk_drew ?_ | refine blk_alloc ?_ _)); refine blk_put (cs := #[.bool false, .slice none 0 0]) ?_ 0 _ rfl; (with_reducible repeat (first | refine blk_drewN ?_ _ | refine blk_drew ?_ | refine blk_alloc ?_ _)); exact BK370.out) Tryd.underlying24 rfl (by kernel_rfl)) rfl ?_
    exact ⟨_, by first | rfl | (simp [errW_none, errW_some] <;> rfl) | (simp [*, errW_none, errW_some] <;> rfl), by (with_reducible repeat (first | apply zRa | apply zRn | apply zRd)); exact zRm (Kd.R_far (p := ⟨gb370, 1, none⟩) (Kd.R_far (p := ⟨gb370, 0, none⟩) (Kd.R_types HO384.out BK370.out (by decide)) (fun _ hk => hk.2) (.bool t381)) (fun _ hk => hk.2) (.slice Ao18 t382.length co18)) (fun _ hk => trivial), by repeat (first | (with_reducible first | exact HB.out | apply zBa | apply zBn | apply zBd | refine below_set ?_ GE370.out) | exact HB.out)⟩


/-! ### filigreelaw02_alive: function 11 -/
def filigreelaw02_alive.f (k : Nat)  : Option (Bool) := (integer_Of.f (-7)).bind fun bt385 => ((integer_Of.f 2).bind fun bt389 => ((integer_DivMod.f k bt385.1 bt385.2 bt389.1 bt389.2).bind fun bt393 => ((integer_Of.f (-8)).bind fun bt404 => ((integer_Of.f 2).bind fun bt408 => ((integer_Exact.f k bt404.1 bt404.2 bt408.1 bt408.2).bind fun bt412 => (if bt393.2.2.2.2 = 0 then (if bt412.2.2 = 0 then ((integer_Text.f k bt393.1 bt393.2.1).bind fun t418 => (if t418.toList = ([45, 52] : List UInt8) then ((integer_Text.f k bt393.2.2.1 bt393.2.2.2.1).bind fun t419 => (if t419.toList = ([49] : List UInt8) then ((integer_Text.f k bt412.1 bt412.2.1).bind fun t420 => (some (t420.toList == ([45, 52] : List UInt8)))) else (some false))) else (some false))) else (some false)) else (some false)))))))
set_option maxHeartbeats 8000000 in
set_option maxRecDepth 100000 in
theorem filigreelaw02_alive.calls (k : Nat)  (r : Bool) (w : World) (h : filigreelaw02_alive.f k  = some r) (hr_ : r = true) :
    Calls Tryd.prog 11 #[] w fun e w' => e = .returned (.bool r) ∧ Below w.heap.size w w' := by
  have HRT := zMk hr_
  clear hr_
  have hu24 := Tryd.underlying24
  have HB := zMk (Below.refl w.heap.size w)
  have H : ((integer_Of.f (-7)).bind fun bt385 => ((integer_Of.f 2).bind fun bt389 => ((integer_DivMod.f k bt385.1 bt385.2 bt389.1 bt389.2).bind fun bt393 => ((integer_Of.f (-8)).bind fun bt404 => ((integer_Of.f 2).bind fun bt408 => ((integer_Exact.f k bt404.1 bt404.2 bt408.1 bt408.2).bind fun bt412 => (if bt393.2.2.2.2 = 0 then (if bt412.2.2 = 0 then ((integer_Text.f k bt393.1 bt393.2.1).bind fun t418 => (if t418.toList = ([45, 52] : List UInt8) then ((integer_Text.f k bt393.2.2.1 bt393.2.2.2.1).bind fun t419 => (if t419.toList = ([49] : List UInt8) then ((integer_Text.f k bt412.1 bt412.2.1).bind fun t420 => (some (t420.toList == ([45, 52] : List UInt8)))) else (some false))) else (some false))) else (some false)) else (some false)))))))) = some r := h
  clear h
  replace H := Option.bind_eq_some_iff.mp H
  obtain ⟨⟨t385, t386⟩, A10, H⟩ := H
  replace H : ((integer_Of.f 2).bind fun bt389 => ((integer_DivMod.f k t385 t386 bt389.1 bt389.2).bind fun bt393 => ((integer_Of.f (-8)).bind fun bt404 => ((integer_Of.f 2).bind fun bt408 => ((integer_Exact.f k bt404.1 bt404.2 bt408.1 bt408.2).bind fun bt412 => (if bt393.2.2.2.2 = 0 then (if bt412.2.2 = 0 then ((integer_Text.f k bt393.1 bt393.2.1).bind fun t418 => (if t418.toList = ([45, 52] : List UInt8) then ((integer_Text.f k bt393.2.2.1 bt393.2.2.2.1).bind fun t419 => (if t419.toList = ([49] : List UInt8) then ((integer_Text.f k bt412.1 bt412.2.1).bind fun t420 => (some (t420.toList == ([45, 52] : List UInt8)))) else (some false))) else (some false))) else (some false)) else (some false))))))) = some r := H
  have A1 := zMk A10
  clear A10
  replace H := Option.bind_eq_some_iff.mp H
  obtain ⟨⟨t389, t390⟩, A20, H⟩ := H
  replace H : ((integer_DivMod.f k t385 t386 t389 t390).bind fun bt393 => ((integer_Of.f (-8)).bind fun bt404 => ((integer_Of.f 2).bind fun bt408 => ((integer_Exact.f k bt404.1 bt404.2 bt408.1 bt408.2).bind fun bt412 => (if bt393.2.2.2.2 = 0 then (if bt412.2.2 = 0 then ((integer_Text.f k bt393.1 bt393.2.1).bind fun t418 => (if t418.toList = ([45, 52] : List UInt8) then ((integer_Text.f k bt393.2.2.1 bt393.2.2.2.1).bind fun t419 => (if t419.toList = ([49] : List UInt8) then ((integer_Text.f k bt412.1 bt412.2.1).bind fun t420 => (some (t420.toList == ([45, 52] : List UInt8)))) else (some false))) else (some false))) else (some false)) else (some false)))))) = some r := H
  have A2 := zMk A20
  clear A20
  replace H := Option.bind_eq_some_iff.mp H
  obtain ⟨⟨t393, t394, t397, t398, t401⟩, A30, H⟩ := H
  replace H : ((integer_Of.f (-8)).bind fun bt404 => ((integer_Of.f 2).bind fun bt408 => ((integer_Exact.f k bt404.1 bt404.2 bt408.1 bt408.2).bind fun bt412 => (if t401 = 0 then (if bt412.2.2 = 0 then ((integer_Text.f k t393 t394).bind fun t418 => (if t418.toList = ([45, 52] : List UInt8) then ((integer_Text.f k t397 t398).bind fun t419 => (if t419.toList = ([49] : List UInt8) then ((integer_Text.f k bt412.1 bt412.2.1).bind fun t420 => (some (t420.toList == ([45, 52] : List UInt8)))) else (some false))) else (some false))) else (some false)) else (some false))))) = some r := H
  have A3 := zMk A30
  clear A30
  replace H := Option.bind_eq_some_iff.mp H
  obtain ⟨⟨t404, t405⟩, A40, H⟩ := H
  replace H : ((integer_Of.f 2).bind fun bt408 => ((integer_Exact.f k t404 t405 bt408.1 bt408.2).bind fun bt412 => (if t401 = 0 then (if bt412.2.2 = 0 then ((integer_Text.f k t393 t394).bind fun t418 => (if t418.toList = ([45, 52] : List UInt8) then ((integer_Text.f k t397 t398).bind fun t419 => (if t419.toList = ([49] : List UInt8) then ((integer_Text.f k bt412.1 bt412.2.1).bind fun t420 => (some (t420.toList == ([45, 52] : List UInt8)))) else (some false))) else (some false))) else (some false)) else (some false)))) = some r := H
  have A4 := zMk A40
  clear A40
  replace H := Option.bind_eq_some_iff.mp H
  obtain ⟨⟨t408, t409⟩, A50, H⟩ := H
  replace H : ((integer_Exact.f k t404 t405 t408 t409).bind fun bt412 => (if t401 = 0 then (if bt412.2.2 = 0 then ((integer_Text.f k t393 t394).bind fun t418 => (if t418.toList = ([45, 52] : List UInt8) then ((integer_Text.f k t397 t398).bind fun t419 => (if t419.toList = ([49] : List UInt8) then ((integer_Text.f k bt412.1 bt412.2.1).bind fun t420 => (some (t420.toList == ([45, 52] : List UInt8)))) else (some false))) else (some false))) else (some false)) else (some false))) = some r := H
  have A5 := zMk A50
  clear A50
  replace H := Option.bind_eq_some_iff.mp H
  obtain ⟨⟨t412, t413, t416⟩, A60, H⟩ := H
  replace H : (if t401 = 0 then (if t416 = 0 then ((integer_Text.f k t393 t394).bind fun t418 => (if t418.toList = ([45, 52] : List UInt8) then ((integer_Text.f k t397 t398).bind fun t419 => (if t419.toList = ([49] : List UInt8) then ((integer_Text.f k t412 t413).bind fun t420 => (some (t420.toList == ([45, 52] : List UInt8)))) else (some false))) else (some false))) else (some false)) else (some false)) = some r := H
  have A6 := zMk A60
  clear A60
  by_cases c7 : t401 = 0
  · rw [if_pos c7] at H
    have c7b0 : (t401 == 0) = true := beq_iff_eq.mpr c7
    have c7b1 : (t401 != 0) = false := bne_eq_false_iff_eq.mpr c7
    clear c7
    by_cases c8 : t416 = 0
    · rw [if_pos c8] at H
      have c8b0 : (t416 == 0) = true := beq_iff_eq.mpr c8
      have c8b1 : (t416 != 0) = false := bne_eq_false_iff_eq.mpr c8
      clear c8
      replace H := Option.bind_eq_some_iff.mp H
      obtain ⟨t418, A90, H⟩ := H
      have A9 := zMk A90
      clear A90
      by_cases c10 : t418.toList = ([45, 52] : List UInt8)
      · rw [if_pos c10] at H
        have c10b0 : (t418.toList == ([45, 52] : List UInt8)) = true := beq_iff_eq.mpr c10
        have c10b1 : (t418.toList != ([45, 52] : List UInt8)) = false := bne_eq_false_iff_eq.mpr c10
        clear c10
        replace H := Option.bind_eq_some_iff.mp H
        obtain ⟨t419, A110, H⟩ := H
        have A11 := zMk A110
        clear A110
        by_cases c12 : t419.toList = ([49] : List UInt8)
        · rw [if_pos c12] at H
          have c12b0 : (t419.toList == ([49] : List UInt8)) = true := beq_iff_eq.mpr c12
          have c12b1 : (t419.toList != ([49] : List UInt8)) = false := bne_eq_false_iff_eq.mpr c12
          clear c12
          replace H := Option.bind_eq_some_iff.mp H
          obtain ⟨t420, A130, H⟩ := H
          have A13 := zMk A130
          clear A130
          obtain rfl := zOi H
          go_enter Tryd.func11, Tryd.ntmps11
          go_wp2_with (first | ((with_reducible refine gate_callee (f := 31) rfl ?_); refine goesL_ (some 7) rfl rfl Tryd.func31 (by kernel_rfl) rfl #[.int .i64 (-7)] rfl (by (try simp only [List.map_toArray, List.map_cons, List.map_nil]); first | done | rfl | (simp only [zLd, zLt]; rfl)) ?_; (with_reducible refine (integer_Of.calls (-7) t385 t386 _ A1.out).mono ?_); rintro e w14 ⟨v387, rfl, ho0, hb⟩; refine ⟨_, rfl, ?_⟩; have n0_ := zMk (Kd.R_lower ho0 (zBs (by repeat (first | (with_reducible first | exact HB.out | apply zBa | apply zBn | apply zBd) | exact HB.out)))); have n1_ := zMk (zBt (by repeat (first | (with_reducible first | exact HB.out | apply zBa | apply zBn | apply zBd) | exact HB.out)) hb); clear HB; have HO388 := n0_; have HB := n1_; clear n0_ n1_; (try clear hb); (try clear hb2); (try clear hk); (try clear hi); (try clear ho0)) | ((with_reducible refine gate_callee (f := 31) rfl ?_); refine goesL_ (some 8) rfl rfl Tryd.func31 (by kernel_rfl) rfl #[.int .i64 2] rfl (by (try simp only [List.map_toArray, List.map_cons, List.map_nil]); first | done | rfl | (simp only [zLd, zLt]; rfl)) ?_; (with_reducible refine (integer_Of.calls 2 t389 t390 _ A2.out).mono ?_); rintro e w15 ⟨v391, rfl, ho0, hb⟩; refine ⟨_, rfl, ?_⟩; have n0_ := zMk (Kd.R_elder' (by (with_reducible repeat (first | apply zRa | apply zRn | apply zRd)); exact HO388.out) (Kd.R_base ho0) hb); have n1_ := zMk (Kd.R_lower (Kd.R_new' ho0 (Kd.R_lt (by (with_reducible repeat (first | apply zRa | apply zRn | apply zRd)); exact HO388.out))) (zBs (by repeat (first | (with_reducible first | exact HB.out | apply zBa | apply zBn | apply zBd) | exact HB.out)))); have n2_ := zMk (zBt (by repeat (first | (with_reducible first | exact HB.out | apply zBa | apply zBn | apply zBd) | exact HB.out)) hb); clear HO388; clear HB; have HO388 := n0_; have HO392 := n1_; have HB := n2_; clear n0_ n1_ n2_; (try clear hb); (try clear hb2); (try clear hk); (try clear hi); (try clear ho0); obtain ⟨Ao16, co16, eo16⟩ := Kd.R_slice HO388.out; subst eo16; obtain ⟨Ao17, co17, eo17⟩ := Kd.R_slice HO392.out; subst eo17) | ((with_reducible refine gate_callee (f := 12) rfl ?_); refine goesL_ (some 9) rfl rfl Tryd.func12 (by kernel_rfl) rfl #[.agg #[.bool t385, .slice Ao16 t386.length co16], .agg #[.bool t389, .slice Ao17 t390.length co17]] rfl (by (try simp only [List.map_toArray, List.map_cons, List.map_nil]); first | done | rfl | (simp only [zLd, zLt]; rfl)) ?_; (with_reducible refine (integer_DivMod.calls k t385 _ _ t386 t389 _ _ t390 t393 t394 t397 t398 t401 _ ?side1 ?side2 ?side3 ?side4 A3.out).mono ?_); (case side1 => repeat (first | exact (Kd.R_reads' HO388.out).2.2 | (with_reducible refine zCa ?_ _) | (with_reducible refine zCn ?_ _) | (with_reducible refine zCd ?_))); (case side2 => exact (Kd.R_reads' HO388.out).2.1); (case side3 => repeat (first | exact (Kd.R_reads' HO392.out).2.2 | (with_reducible refine zCa ?_ _) | (with_reducible refine zCn ?_ _) | (with_reducible refine zCd ?_))); (case side4 => exact (Kd.R_reads' HO392.out).2.1); rintro e w18 ⟨v395, v399, rfl, ho0, ho1, hb⟩; refine ⟨_, rfl, ?_⟩; have n0_ := zMk (zRm (Kd.R_told (Kd.R_told (Kd.R_old (by (with_reducible repeat (first | apply zRa | apply zRn | apply zRd)); exact HO388.out) hb) (Kd.R_base ho0)) (Kd.R_base ho1)) (fun _ h_ => h_.1)); have n1_ := zMk (zRm (Kd.R_told (Kd.R_told (Kd.R_old (by (with_reducible repeat (first | apply zRa | apply zRn | apply zRd)); exact HO392.out) hb) (Kd.R_base ho0)) (Kd.R_base ho1)) (fun _ h_ => h_.1)); have n2_ := zMk (Kd.R_lower (Kd.R_new' (Kd.R_new' ho0 (Kd.R_lt (by (with_reducible repeat (first | apply zRa | apply zRn | apply zRd)); exact HO388.out))) (Kd.R_lt (by (with_reducible repeat (first | apply zRa | apply zRn | apply zRd)); exact HO392.out))) (zBs (by repeat (first | (with_reducible first | exact HB.out | apply zBa | apply zBn | apply zBd) | exact HB.out)))); have n3_ := zMk (Kd.R_lower (Kd.R_new' (Kd.R_new' ho1 (Kd.R_lt (by (with_reducible repeat (first | apply zRa | apply zRn | apply zRd)); exact HO388.out))) (Kd.R_lt (by (with_reducible repeat (first | apply zRa | apply zRn | apply zRd)); exact HO392.out))) (zBs (by repeat (first | (with_reducible first | exact HB.out | apply zBa | apply zBn | apply zBd) | exact HB.out)))); have n4_ := zMk (zBt (by repeat (first | (with_reducible first | exact HB.out | apply zBa | apply zBn | apply zBd) | exact HB.out)) hb); clear HO388; clear HO392; clear HB; have HO388 := n0_; have HO392 := n1_; have HO396 := n2_; have HO400 := n3_; have HB := n4_; clear n0_ n1_ n2_ n3_ n4_; (try clear hb); (try clear hb2); (try clear hk); (try clear hi); (try clear ho0); (try clear ho1)) | ((with_reducible refine gate_dst (N := 1) rfl ?_); refine box_event ?hg (N := 1) ?hd (cs := #[.bool false, .slice none 0 0]) (t := 24) ?hr ?_; (case hd => rfl); (case hg => rfl); (case hr => first | (go_simp; done) | (go_simp; rfl) | (go_simp; rw [show ∀ x : Int, IntKind.u32.wrap (IntKind.u8.wrap x) = x % 256 from fun x => (by show (x % 256) % 4294967296 = x % 256; omega)])); intro gb402 hg w19 hbox hb; have n0_ := zMk (Kd.R_below (by (with_reducible repeat (first | apply zRa | apply zRn | apply zRd)); exact HO388.out) hb); have n1_ := zMk (Kd.R_below (by (with_reducible repeat (first | apply zRa | apply zRn | apply zRd)); exact HO392.out) hb); have n2_ := zMk (Kd.R_below (by (with_reducible repeat (first | apply zRa | apply zRn | apply zRd)); exact HO396.out) hb); have n3_ := zMk (Kd.R_below (by (with_reducible repeat (first | apply zRa | apply zRn | apply zRd)); exact HO400.out) hb); have n4_ := zMk (zBt (by repeat (first | (with_reducible first | exact HB.out | apply zBa | apply zBn | apply zBd) | exact HB.out)) hb); have n5_ := zMk (hbox); have n6_ := zMk ((by rw [hg]; exact (zBs (by repeat (first | (with_reducible first | exact HB.out | apply zBa | apply zBn | apply zBd) | exact HB.out))) : w.heap.size ≤ gb402)); have n7_ := zMk ((by rw [hg]; exact (zBs (by repeat (first | (with_reducible first | exact HB.out | apply zBa | apply zBn | apply zBd) | exact HB.out))) : w.heap.size ≤ gb402)); clear HO388; clear HO392; clear HO396; clear HO400; clear HB; have HO388 := n0_; have HO392 := n1_; have HO396 := n2_; have HO400 := n3_; have HB := n4_; have BK402 := n5_; have GW402 := n6_; have GE402 := n7_; clear n0_ n1_ n2_ n3_ n4_ n5_ n6_ n7_; clear hb hbox hg) | ((with_reducible refine gate_dst (N := 2) rfl ?_); refine box_event ?hg (N := 2) ?hd (cs := #[.bool false, .slice none 0 0]) (t := 24) ?hr ?_; (case hd => rfl); (case hg => rfl); (case hr => first | (go_simp; done) | (go_simp; rfl) | (go_simp; rw [show ∀ x : Int, IntKind.u32.wrap (IntKind.u8.wrap x) = x % 256 from fun x => (by show (x % 256) % 4294967296 = x % 256; omega)])); intro gb403 hg w20 hbox hb; have n0_ := zMk (Kd.R_below (by (with_reducible repeat (first | apply zRa | apply zRn | apply zRd)); exact HO388.out) hb); have n1_ := zMk (Kd.R_below (by (with_reducible repeat (first | apply zRa | apply zRn | apply zRd)); exact HO392.out) hb); have n2_ := zMk (Kd.R_below (by (with_reducible repeat (first | apply zRa | apply zRn | apply zRd)); exact HO396.out) hb); have n3_ := zMk (Kd.R_below (by (with_reducible repeat (first | apply zRa | apply zRn | apply zRd)); exact HO400.out) hb); have n4_ := zMk (blk_below (g := gb402) (o := .cells #[.bool false, .slice none 0 0] 24 (0, 0)) (by (with_reducible repeat (first | refine blk_drewN ?_ _ | refine blk_drew ?_ | refine blk_alloc ?_ _)); exact BK402.out) hb); have n5_ := zMk (zBt (by repeat (first | (with_reducible first | exact HB.out | apply zBa | apply zBn | apply zBd | refine below_set ?_ GE402.out) | exact HB.out)) hb); have n6_ := zMk (hbox); have n7_ := zMk ((by rw [hg]; exact (zBs (by repeat (first | (with_reducible first | exact HB.out | apply zBa | apply zBn | apply zBd | refine below_set ?_ GE402.out) | exact HB.out))) : w.heap.size ≤ gb403)); have n8_ := zMk ((by rw [hg]; exact (zBs (by repeat (first | (with_reducible first | exact HB.out | apply zBa | apply zBn | apply zBd | refine below_set ?_ GE402.out) | exact HB.out))) : w.heap.size ≤ gb403)); have n9_ := zMk ((by rw [hg]; exact Nat.ne_of_lt (blk_lt (g := gb402) (o := .cells #[.bool false, .slice none 0 0] 24 (0, 0)) (by (with_reducible repeat (first | refine blk_drewN ?_ _ | refine blk_drew ?_ | refine blk_alloc ?_ _)); exact BK402.out)) : gb402 ≠ gb403)); have n10_ := zMk ((by rw [hg]; exact Nat.ne_of_gt (blk_lt (g := gb402) (o := .cells #[.bool false, .slice none 0 0] 24 (0, 0)) (by (with_reducible repeat (first | refine blk_drewN ?_ _ | refine blk_drew ?_ | refine blk_alloc ?_ _)); exact BK402.out)) : gb403 ≠ gb402)); clear HO388; clear HO392; clear HO396; clear HO400; clear BK402; clear HB; have HO388 := n0_; have HO392 := n1_; have HO396 := n2_; have HO400 := n3_; have BK402 := n4_; have HB := n5_; have BK403 := n6_; have GW403 := n7_; have GE403 := n8_; have NB402_403 := n9_; have NB403_402 := n10_; clear n0_ n1_ n2_ n3_ n4_ n5_ n6_ n7_ n8_ n9_ n10_; clear hb hbox hg; have hnb21 := NB402_403.out; have hnc21 := NB403_402.out; have hcz22_0 : w20.cell? ⟨gb402, 0, none⟩ = some (.bool false) := (blk_cell BK402.out 0).trans rfl; have hcz22_1 : w20.cell? ⟨gb402, 1, none⟩ = some (.slice none 0 0) := (blk_cell BK402.out 1).trans rfl; have hfz22_0 := blk_frozen BK402.out 0; have hfz22_1 := blk_frozen BK402.out 1; obtain ⟨Ao23, co23, eo23⟩ := Kd.R_slice HO396.out; subst eo23; have hcz24_0 : w20.cell? ⟨gb403, 0, none⟩ = some (.bool false) := (blk_cell BK403.out 0).trans rfl; have hcz24_1 : w20.cell? ⟨gb403, 1, none⟩ = some (.slice none 0 0) := (blk_cell BK403.out 1).trans rfl; have hfz24_0 := blk_frozen BK403.out 0; have hfz24_1 := blk_frozen BK403.out 1; obtain ⟨Ao25, co25, eo25⟩ := Kd.R_slice HO400.out; subst eo25) | ((with_reducible refine gate_callee (f := 31) rfl ?_); refine goesL_ (some 14) rfl rfl Tryd.func31 (by kernel_rfl) rfl #[.int .i64 (-8)] rfl (by (try simp only [List.map_toArray, List.map_cons, List.map_nil]); first | done | rfl | (simp only [zLd, zLt]; rfl)) ?_; (with_reducible refine (integer_Of.calls (-8) t404 t405 _ A4.out).mono ?_); rintro e w26 ⟨v406, rfl, ho0, hb⟩; refine ⟨_, rfl, ?_⟩; have n0_ := zMk (Kd.R_elder' (by (with_reducible repeat (first | apply zRa | apply zRn | apply zRd)); exact (zRm (zRm (Kd.R_far (p := ⟨gb403, 1, none⟩) (Kd.R_far (p := ⟨gb403, 0, none⟩) (Kd.R_far (p := ⟨gb402, 1, none⟩) (Kd.R_far (p := ⟨gb402, 0, none⟩) (Kd.R_types (Kd.R_types HO388.out BK402.out (by decide)) BK403.out (by decide)) (fun _ hk => hk.1.2) (.bool t393)) (fun _ hk => hk.1.2) (.slice Ao23 t394.length co23)) (fun _ hk => hk.2) (.bool t397)) (fun _ hk => hk.2) (.slice Ao25 t398.length co25)) (fun _ h_ => h_.1)) (fun _ h_ => h_.1))) (Kd.R_base ho0) hb); have n1_ := zMk (Kd.R_elder' (by (with_reducible repeat (first | apply zRa | apply zRn | apply zRd)); exact (zRm (zRm (Kd.R_far (p := ⟨gb403, 1, none⟩) (Kd.R_far (p := ⟨gb403, 0, none⟩) (Kd.R_far (p := ⟨gb402, 1, none⟩) (Kd.R_far (p := ⟨gb402, 0, none⟩) (Kd.R_types (Kd.R_types HO392.out BK402.out (by decide)) BK403.out (by decide)) (fun _ hk => hk.1.2) (.bool t393)) (fun _ hk => hk.1.2) (.slice Ao23 t394.length co23)) (fun _ hk => hk.2) (.bool t397)) (fun _ hk => hk.2) (.slice Ao25 t398.length co25)) (fun _ h_ => h_.1)) (fun _ h_ => h_.1))) (Kd.R_base ho0) hb); have n2_ := zMk (Kd.R_elder' (by (with_reducible repeat (first | apply zRa | apply zRn | apply zRd)); exact (zRm (zRm (Kd.R_far (p := ⟨gb403, 1, none⟩) (Kd.R_far (p := ⟨gb403, 0, none⟩) (Kd.R_far (p := ⟨gb402, 1, none⟩) (Kd.R_far (p := ⟨gb402, 0, none⟩) (Kd.R_types (Kd.R_types HO396.out BK402.out (by decide)) BK403.out (by decide)) (fun _ hk => hk.1.2) (.bool t393)) (fun _ hk => hk.1.2) (.slice Ao23 t394.length co23)) (fun _ hk => hk.2) (.bool t397)) (fun _ hk => hk.2) (.slice Ao25 t398.length co25)) (fun _ h_ => h_.1)) (fun _ h_ => h_.1))) (Kd.R_base ho0) hb); have n3_ := zMk (Kd.R_elder' (by (with_reducible repeat (first | apply zRa | apply zRn | apply zRd)); exact (zRm (zRm (Kd.R_far (p := ⟨gb403, 1, none⟩) (Kd.R_far (p := ⟨gb403, 0, none⟩) (Kd.R_far (p := ⟨gb402, 1, none⟩) (Kd.R_far (p := ⟨gb402, 0, none⟩) (Kd.R_types (Kd.R_types HO400.out BK402.out (by decide)) BK403.out (by decide)) (fun _ hk => hk.1.2) (.bool t393)) (fun _ hk => hk.1.2) (.slice Ao23 t394.length co23)) (fun _ hk => hk.2) (.bool t397)) (fun _ hk => hk.2) (.slice Ao25 t398.length co25)) (fun _ h_ => h_.1)) (fun _ h_ => h_.1))) (Kd.R_base ho0) hb); have n4_ := zMk (Kd.R_lower (Kd.R_new' (Kd.R_new' (Kd.R_new' (Kd.R_new' ho0 (Kd.R_lt (by (with_reducible repeat (first | apply zRa | apply zRn | apply zRd)); exact (zRm (zRm (Kd.R_far (p := ⟨gb403, 1, none⟩) (Kd.R_far (p := ⟨gb403, 0, none⟩) (Kd.R_far (p := ⟨gb402, 1, none⟩) (Kd.R_far (p := ⟨gb402, 0, none⟩) (Kd.R_types (Kd.R_types HO388.out BK402.out (by decide)) BK403.out (by decide)) (fun _ hk => hk.1.2) (.bool t393)) (fun _ hk => hk.1.2) (.slice Ao23 t394.length co23)) (fun _ hk => hk.2) (.bool t397)) (fun _ hk => hk.2) (.slice Ao25 t398.length co25)) (fun _ h_ => h_.1)) (fun _ h_ => h_.1))))) (Kd.R_lt (by (with_reducible repeat (first | apply zRa | apply zRn | apply zRd)); exact (zRm (zRm (Kd.R_far (p := ⟨gb403, 1, none⟩) (Kd.R_far (p := ⟨gb403, 0, none⟩) (Kd.R_far (p := ⟨gb402, 1, none⟩) (Kd.R_far (p := ⟨gb402, 0, none⟩) (Kd.R_types (Kd.R_types HO392.out BK402.out (by decide)) BK403.out (by decide)) (fun _ hk => hk.1.2) (.bool t393)) (fun _ hk => hk.1.2) (.slice Ao23 t394.length co23)) (fun _ hk => hk.2) (.bool t397)) (fun _ hk => hk.2) (.slice Ao25 t398.length co25)) (fun _ h_ => h_.1)) (fun _ h_ => h_.1))))) (Kd.R_lt (by (with_reducible repeat (first | apply zRa | apply zRn | apply zRd)); exact (zRm (zRm (Kd.R_far (p := ⟨gb403, 1, none⟩) (Kd.R_far (p := ⟨gb403, 0, none⟩) (Kd.R_far (p := ⟨gb402, 1, none⟩) (Kd.R_far (p := ⟨gb402, 0, none⟩) (Kd.R_types (Kd.R_types HO396.out BK402.out (by decide)) BK403.out (by decide)) (fun _ hk => hk.1.2) (.bool t393)) (fun _ hk => hk.1.2) (.slice Ao23 t394.length co23)) (fun _ hk => hk.2) (.bool t397)) (fun _ hk => hk.2) (.slice Ao25 t398.length co25)) (fun _ h_ => h_.1)) (fun _ h_ => h_.1))))) (Kd.R_lt (by (with_reducible repeat (first | apply zRa | apply zRn | apply zRd)); exact (zRm (zRm (Kd.R_far (p := ⟨gb403, 1, none⟩) (Kd.R_far (p := ⟨gb403, 0, none⟩) (Kd.R_far (p := ⟨gb402, 1, none⟩) (Kd.R_far (p := ⟨gb402, 0, none⟩) (Kd.R_types (Kd.R_types HO400.out BK402.out (by decide)) BK403.out (by decide)) (fun _ hk => hk.1.2) (.bool t393)) (fun _ hk => hk.1.2) (.slice Ao23 t394.length co23)) (fun _ hk => hk.2) (.bool t397)) (fun _ hk => hk.2) (.slice Ao25 t398.length co25)) (fun _ h_ => h_.1)) (fun _ h_ => h_.1))))) (zBs (by repeat (first | (with_reducible first | exact HB.out | apply zBa | apply zBn | apply zBd | refine below_set ?_ GE402.out | refine below_set ?_ GE403.out) | exact HB.out)))); have n5_ := zMk (blk_below (g := gb402) (o := .cells #[.bool t393, .slice Ao23 t394.length co23] 24 (0, 0)) (by (with_reducible repeat (first | refine blk_drewN ?_ _ | refine blk_drew ?_ | refine blk_alloc ?_ _)); refine blk_far ?_ NB402_403.out _; (with_reducible repeat (first | refine blk_drewN ?_ _ | refine blk_drew ?_ | refine blk_alloc ?_ _)); refine blk_far ?_ NB402_403.out _; (with_reducible repeat (first | refine blk_drewN ?_ _ | refine blk_drew ?_ | refine blk_alloc ?_ _)); refine blk_put (cs := #[.bool t393, .slice none 0 0]) ?_ 1 _ rfl; (with_reducible repeat (first | refine blk_drewN ?_ _ | refine blk_drew ?_ | refine blk_alloc ?_ _)); refine blk_put (cs := #[.bool false, .slice none 0 0]) ?_ 0 _ rfl; (with_reducible repeat (first | refine blk_drewN ?_ _ | refine blk_drew ?_ | refine blk_alloc ?_ _)); exact BK402.out) hb); have n6_ := zMk (blk_below (g := gb403) (o := .cells #[.bool t397, .slice Ao25 t398.length co25] 24 (0, 0)) (by (with_reducible repeat (first | refine blk_drewN ?_ _ | refine blk_drew ?_ | refine blk_alloc ?_ _)); refine blk_put (cs := #[.bool t397, .slice none 0 0]) ?_ 1 _ rfl; (with_reducible repeat (first | refine blk_drewN ?_ _ | refine blk_drew ?_ | refine blk_alloc ?_ _)); refine blk_put (cs := #[.bool false, .slice none 0 0]) ?_ 0 _ rfl; (with_reducible repeat (first | refine blk_drewN ?_ _ | refine blk_drew ?_ | refine blk_alloc ?_ _)); refine blk_far ?_ NB403_402.out _; (with_reducible repeat (first | refine blk_drewN ?_ _ | refine blk_drew ?_ | refine blk_alloc ?_ _)); refine blk_far ?_ NB403_402.out _; (with_reducible repeat (first | refine blk_drewN ?_ _ | refine blk_drew ?_ | refine blk_alloc ?_ _)); exact BK403.out) hb); have n7_ := zMk (zBt (by repeat (first | (with_reducible first | exact HB.out | apply zBa | apply zBn | apply zBd | refine below_set ?_ GE402.out | refine below_set ?_ GE403.out) | exact HB.out)) hb); clear HO388; clear HO392; clear HO396; clear HO400; clear BK402; clear BK403; clear HB; have HO388 := n0_; have HO392 := n1_; have HO396 := n2_; have HO400 := n3_; have HO407 := n4_; have BK402 := n5_; have BK403 := n6_; have HB := n7_; clear n0_ n1_ n2_ n3_ n4_ n5_ n6_ n7_; (try clear hb); (try clear hb2); (try clear hk); (try clear hi); (try clear ho0)) | ((with_reducible refine gate_callee (f := 31) rfl ?_); refine goesL_ (some 15) rfl rfl Tryd.func31 (by kernel_rfl) rfl #[.int .i64 2] rfl (by (try simp only [List.map_toArray, List.map_cons, List.map_nil]); first | done | rfl | (simp only [zLd, zLt]; rfl)) ?_; (with_reducible refine (integer_Of.calls 2 t408 t409 _ A5.out).mono ?_); rintro e w27 ⟨v410, rfl, ho0, hb⟩; refine ⟨_, rfl, ?_⟩; have n0_ := zMk (Kd.R_elder' (by (with_reducible repeat (first | apply zRa | apply zRn | apply zRd)); exact HO388.out) (Kd.R_base ho0) hb); have n1_ := zMk (Kd.R_elder' (by (with_reducible repeat (first | apply zRa | apply zRn | apply zRd)); exact HO392.out) (Kd.R_base ho0) hb); have n2_ := zMk (Kd.R_elder' (by (with_reducible repeat (first | apply zRa | apply zRn | apply zRd)); exact HO396.out) (Kd.R_base ho0) hb); have n3_ := zMk (Kd.R_elder' (by (with_reducible repeat (first | apply zRa | apply zRn | apply zRd)); exact HO400.out) (Kd.R_base ho0) hb); have n4_ := zMk (Kd.R_elder' (by (with_reducible repeat (first | apply zRa | apply zRn | apply zRd)); exact HO407.out) (Kd.R_base ho0) hb); have n5_ := zMk (Kd.R_lower (Kd.R_new' (Kd.R_new' (Kd.R_new' (Kd.R_new' (Kd.R_new' ho0 (Kd.R_lt (by (with_reducible repeat (first | apply zRa | apply zRn | apply zRd)); exact HO388.out))) (Kd.R_lt (by (with_reducible repeat (first | apply zRa | apply zRn | apply zRd)); exact HO392.out))) (Kd.R_lt (by (with_reducible repeat (first | apply zRa | apply zRn | apply zRd)); exact HO396.out))) (Kd.R_lt (by (with_reducible repeat (first | apply zRa | apply zRn | apply zRd)); exact HO400.out))) (Kd.R_lt (by (with_reducible repeat (first | apply zRa | apply zRn | apply zRd)); exact HO407.out))) (zBs (by repeat (first | (with_reducible first | exact HB.out | apply zBa | apply zBn | apply zBd | refine below_set ?_ GE402.out | refine below_set ?_ GE403.out) | exact HB.out)))); have n6_ := zMk (blk_below (g := gb402) (o := .cells #[.bool t393, .slice Ao23 t394.length co23] 24 (0, 0)) (by (with_reducible repeat (first | refine blk_drewN ?_ _ | refine blk_drew ?_ | refine blk_alloc ?_ _)); exact BK402.out) hb); have n7_ := zMk (blk_below (g := gb403) (o := .cells #[.bool t397, .slice Ao25 t398.length co25] 24 (0, 0)) (by (with_reducible repeat (first | refine blk_drewN ?_ _ | refine blk_drew ?_ | refine blk_alloc ?_ _)); exact BK403.out) hb); have n8_ := zMk (zBt (by repeat (first | (with_reducible first | exact HB.out | apply zBa | apply zBn | apply zBd | refine below_set ?_ GE402.out | refine below_set ?_ GE403.out) | exact HB.out)) hb); clear HO388; clear HO392; clear HO396; clear HO400; clear HO407; clear BK402; clear BK403; clear HB; have HO388 := n0_; have HO392 := n1_; have HO396 := n2_; have HO400 := n3_; have HO407 := n4_; have HO411 := n5_; have BK402 := n6_; have BK403 := n7_; have HB := n8_; clear n0_ n1_ n2_ n3_ n4_ n5_ n6_ n7_ n8_; (try clear hb); (try clear hb2); (try clear hk); (try clear hi); (try clear ho0); obtain ⟨Ao28, co28, eo28⟩ := Kd.R_slice HO407.out; subst eo28; obtain ⟨Ao29, co29, eo29⟩ := Kd.R_slice HO411.out; subst eo29) | ((with_reducible refine gate_callee (f := 14) rfl ?_); refine goesL_ (some 16) rfl rfl Tryd.func14 (by kernel_rfl) rfl #[.agg #[.bool t404, .slice Ao28 t405.length co28], .agg #[.bool t408, .slice Ao29 t409.length co29]] rfl (by (try simp only [List.map_toArray, List.map_cons, List.map_nil]); first | done | rfl | (simp only [zLd, zLt]; rfl)) ?_; (with_reducible refine (integer_Exact.calls k t404 _ _ t405 t408 _ _ t409 t412 t413 t416 _ ?side1 ?side2 ?side3 ?side4 A6.out).mono ?_); (case side1 => repeat (first | exact (Kd.R_reads' HO407.out).2.2 | (with_reducible refine zCa ?_ _) | (with_reducible refine zCn ?_ _) | (with_reducible refine zCd ?_))); (case side2 => exact (Kd.R_reads' HO407.out).2.1); (case side3 => repeat (first | exact (Kd.R_reads' HO411.out).2.2 | (with_reducible refine zCa ?_ _) | (with_reducible refine zCn ?_ _) | (with_reducible refine zCd ?_))); (case side4 => exact (Kd.R_reads' HO411.out).2.1); rintro e w30 ⟨v414, rfl, ho0, hb⟩; refine ⟨_, rfl, ?_⟩; have n0_ := zMk (Kd.R_elder' (by (with_reducible repeat (first | apply zRa | apply zRn | apply zRd)); exact HO388.out) (Kd.R_base ho0) hb); have n1_ := zMk (Kd.R_elder' (by (with_reducible repeat (first | apply zRa | apply zRn | apply zRd)); exact HO392.out) (Kd.R_base ho0) hb); have n2_ := zMk (Kd.R_elder' (by (with_reducible repeat (first | apply zRa | apply zRn | apply zRd)); exact HO396.out) (Kd.R_base ho0) hb); have n3_ := zMk (Kd.R_elder' (by (with_reducible repeat (first | apply zRa | apply zRn | apply zRd)); exact HO400.out) (Kd.R_base ho0) hb); have n4_ := zMk (Kd.R_elder' (by (with_reducible repeat (first | apply zRa | apply zRn | apply zRd)); exact HO407.out) (Kd.R_base ho0) hb); have n5_ := zMk (Kd.R_elder' (by (with_reducible repeat (first | apply zRa | apply zRn | apply zRd)); exact HO411.out) (Kd.R_base ho0) hb); have n6_ := zMk (Kd.R_lower (Kd.R_new' (Kd.R_new' (Kd.R_new' (Kd.R_new' (Kd.R_new' (Kd.R_new' ho0 (Kd.R_lt (by (with_reducible repeat (first | apply zRa | apply zRn | apply zRd)); exact HO388.out))) (Kd.R_lt (by (with_reducible repeat (first | apply zRa | apply zRn | apply zRd)); exact HO392.out))) (Kd.R_lt (by (with_reducible repeat (first | apply zRa | apply zRn | apply zRd)); exact HO396.out))) (Kd.R_lt (by (with_reducible repeat (first | apply zRa | apply zRn | apply zRd)); exact HO400.out))) (Kd.R_lt (by (with_reducible repeat (first | apply zRa | apply zRn | apply zRd)); exact HO407.out))) (Kd.R_lt (by (with_reducible repeat (first | apply zRa | apply zRn | apply zRd)); exact HO411.out))) (zBs (by repeat (first | (with_reducible first | exact HB.out | apply zBa | apply zBn | apply zBd | refine below_set ?_ GE402.out | refine below_set ?_ GE403.out) | exact HB.out)))); have n7_ := zMk (blk_below (g := gb402) (o := .cells #[.bool t393, .slice Ao23 t394.length co23] 24 (0, 0)) (by (with_reducible repeat (first | refine blk_drewN ?_ _ | refine blk_drew ?_ | refine blk_alloc ?_ _)); exact BK402.out) hb); have n8_ := zMk (blk_below (g := gb403) (o := .cells #[.bool t397, .slice Ao25 t398.length co25] 24 (0, 0)) (by (with_reducible repeat (first | refine blk_drewN ?_ _ | refine blk_drew ?_ | refine blk_alloc ?_ _)); exact BK403.out) hb); have n9_ := zMk (zBt (by repeat (first | (with_reducible first | exact HB.out | apply zBa | apply zBn | apply zBd | refine below_set ?_ GE402.out | refine below_set ?_ GE403.out) | exact HB.out)) hb); clear HO388; clear HO392; clear HO396; clear HO400; clear HO407; clear HO411; clear BK402; clear BK403; clear HB; have HO388 := n0_; have HO392 := n1_; have HO396 := n2_; have HO400 := n3_; have HO407 := n4_; have HO411 := n5_; have HO415 := n6_; have BK402 := n7_; have BK403 := n8_; have HB := n9_; clear n0_ n1_ n2_ n3_ n4_ n5_ n6_ n7_ n8_ n9_; (try clear hb); (try clear hb2); (try clear hk); (try clear hi); (try clear ho0)) | ((with_reducible refine gate_dst (N := 4) rfl ?_); refine box_event ?hg (N := 4) ?hd (cs := #[.bool false, .slice none 0 0]) (t := 24) ?hr ?_; (case hd => rfl); (case hg => rfl); (case hr => first | (go_simp; done) | (go_simp; rfl) | (go_simp; rw [show ∀ x : Int, IntKind.u32.wrap (IntKind.u8.wrap x) = x % 256 from fun x => (by show (x % 256) % 4294967296 = x % 256; omega)])); intro gb417 hg w31 hbox hb; have n0_ := zMk (Kd.R_below (by (with_reducible repeat (first | apply zRa | apply zRn | apply zRd)); exact HO388.out) hb); have n1_ := zMk (Kd.R_below (by (with_reducible repeat (first | apply zRa | apply zRn | apply zRd)); exact HO392.out) hb); have n2_ := zMk (Kd.R_below (by (with_reducible repeat (first | apply zRa | apply zRn | apply zRd)); exact HO396.out) hb); have n3_ := zMk (Kd.R_below (by (with_reducible repeat (first | apply zRa | apply zRn | apply zRd)); exact HO400.out) hb); have n4_ := zMk (Kd.R_below (by (with_reducible repeat (first | apply zRa | apply zRn | apply zRd)); exact HO407.out) hb); have n5_ := zMk (Kd.R_below (by (with_reducible repeat (first | apply zRa | apply zRn | apply zRd)); exact HO411.out) hb); have n6_ := zMk (Kd.R_below (by (with_reducible repeat (first | apply zRa | apply zRn | apply zRd)); exact HO415.out) hb); have n7_ := zMk (blk_below (g := gb402) (o := .cells #[.bool t393, .slice Ao23 t394.length co23] 24 (0, 0)) (by (with_reducible repeat (first | refine blk_drewN ?_ _ | refine blk_drew ?_ | refine blk_alloc ?_ _)); exact BK402.out) hb); have n8_ := zMk (blk_below (g := gb403) (o := .cells #[.bool t397, .slice Ao25 t398.length co25] 24 (0, 0)) (by (with_reducible repeat (first | refine blk_drewN ?_ _ | refine blk_drew ?_ | refine blk_alloc ?_ _)); exact BK403.out) hb); have n9_ := zMk (zBt (by repeat (first | (with_reducible first | exact HB.out | apply zBa | apply zBn | apply zBd | refine below_set ?_ GE402.out | refine below_set ?_ GE403.out) | exact HB.out)) hb); have n10_ := zMk (hbox); have n11_ := zMk ((by rw [hg]; exact (zBs (by repeat (first | (with_reducible first | exact HB.out | apply zBa | apply zBn | apply zBd | refine below_set ?_ GE402.out | refine below_set ?_ GE403.out) | exact HB.out))) : w.heap.size ≤ gb417)); have n12_ := zMk ((by rw [hg]; exact (zBs (by repeat (first | (with_reducible first | exact HB.out | apply zBa | apply zBn | apply zBd | refine below_set ?_ GE402.out | refine below_set ?_ GE403.out) | exact HB.out))) : w.heap.size ≤ gb417)); have n13_ := zMk ((by rw [hg]; exact Nat.ne_of_lt (blk_lt (g := gb402) (o := .cells #[.bool t393, .slice Ao23 t394.length co23] 24 (0, 0)) (by (with_reducible repeat (first | refine blk_drewN ?_ _ | refine blk_drew ?_ | refine blk_alloc ?_ _)); exact BK402.out)) : gb402 ≠ gb417)); have n14_ := zMk ((by rw [hg]; exact Nat.ne_of_gt (blk_lt (g := gb402) (o := .cells #[.bool t393, .slice Ao23 t394.length co23] 24 (0, 0)) (by (with_reducible repeat (first | refine blk_drewN ?_ _ | refine blk_drew ?_ | refine blk_alloc ?_ _)); exact BK402.out)) : gb417 ≠ gb402)); have n15_ := zMk ((by rw [hg]; exact Nat.ne_of_lt (blk_lt (g := gb403) (o := .cells #[.bool t397, .slice Ao25 t398.length co25] 24 (0, 0)) (by (with_reducible repeat (first | refine blk_drewN ?_ _ | refine blk_drew ?_ | refine blk_alloc ?_ _)); exact BK403.out)) : gb403 ≠ gb417)); have n16_ := zMk ((by rw [hg]; exact Nat.ne_of_gt (blk_lt (g := gb403) (o := .cells #[.bool t397, .slice Ao25 t398.length co25] 24 (0, 0)) (by (with_reducible repeat (first | refine blk_drewN ?_ _ | refine blk_drew ?_ | refine blk_alloc ?_ _)); exact BK403.out)) : gb417 ≠ gb403)); clear HO388; clear HO392; clear HO396; clear HO400; clear HO407; clear HO411; clear HO415; clear BK402; clear BK403; clear HB; have HO388 := n0_; have HO392 := n1_; have HO396 := n2_; have HO400 := n3_; have HO407 := n4_; have HO411 := n5_; have HO415 := n6_; have BK402 := n7_; have BK403 := n8_; have HB := n9_; have BK417 := n10_; have GW417 := n11_; have GE417 := n12_; have NB402_417 := n13_; have NB417_402 := n14_; have NB403_417 := n15_; have NB417_403 := n16_; clear n0_ n1_ n2_ n3_ n4_ n5_ n6_ n7_ n8_ n9_ n10_ n11_ n12_ n13_ n14_ n15_ n16_; clear hb hbox hg; have hnb32 := NB417_402.out; have hnc32 := NB402_417.out; have hnb33 := NB417_403.out; have hnc33 := NB403_417.out; have hcz34_0 : w31.cell? ⟨gb417, 0, none⟩ = some (.bool false) := (blk_cell BK417.out 0).trans rfl; have hcz34_1 : w31.cell? ⟨gb417, 1, none⟩ = some (.slice none 0 0) := (blk_cell BK417.out 1).trans rfl; have hfz34_0 := blk_frozen BK417.out 0; have hfz34_1 := blk_frozen BK417.out 1; obtain ⟨Ao35, co35, eo35⟩ := Kd.R_slice HO415.out; subst eo35; have hcz36_0 : w31.cell? ⟨gb402, 0, none⟩ = some (.bool t393) := (blk_cell BK402.out 0).trans rfl; have hcz36_1 : w31.cell? ⟨gb402, 1, none⟩ = some (.slice Ao23 t394.length co23) := (blk_cell BK402.out 1).trans rfl; have hfz36_0 := blk_frozen BK402.out 0; have hfz36_1 := blk_frozen BK402.out 1) | (go_at_call 29; (with_reducible refine (integer_Text.calls k t393 _ _ t394 t418 _ ?side1 ?side2 A9.out).mono ?_); (case side1 => refine (Kd.R_reads' (e := 58) (base := w.heap.size) (ok := fun k_ => (((((some k_ ≠ (.slice Ao25 t398.length co25 : Value).ownBlock ∧ some k_ ≠ (.slice Ao16 t386.length co16 : Value).ownBlock) ∧ some k_ ≠ (.slice Ao17 t390.length co17 : Value).ownBlock) ∧ some k_ ≠ (.slice Ao28 t405.length co28 : Value).ownBlock) ∧ some k_ ≠ (.slice Ao29 t409.length co29 : Value).ownBlock) ∧ some k_ ≠ (.slice Ao35 t413.length co35 : Value).ownBlock)) (n := t394.length) (c := co23) ?_).2.2; exact (by (with_reducible repeat (first | apply zRa | apply zRn | apply zRd)); exact (zRm (Kd.R_far (p := ⟨gb417, 1, none⟩) (Kd.R_far (p := ⟨gb417, 0, none⟩) (Kd.R_types HO396.out BK417.out (by decide)) (fun _ hk => hk.2) (.bool t412)) (fun _ hk => hk.2) (.slice Ao35 t413.length co35)) (fun _ h_ => h_.1)))); (case side2 => exact (Kd.R_reads' HO396.out).2.1); rintro e w37 ⟨rfl, hb⟩; have n0_ := zMk (Kd.R_below (by (with_reducible repeat (first | apply zRa | apply zRn | apply zRd)); exact (zRm (Kd.R_far (p := ⟨gb417, 1, none⟩) (Kd.R_far (p := ⟨gb417, 0, none⟩) (Kd.R_types HO388.out BK417.out (by decide)) (fun _ hk => hk.2) (.bool t412)) (fun _ hk => hk.2) (.slice Ao35 t413.length co35)) (fun _ h_ => h_.1))) hb); have n1_ := zMk (Kd.R_below (by (with_reducible repeat (first | apply zRa | apply zRn | apply zRd)); exact (zRm (Kd.R_far (p := ⟨gb417, 1, none⟩) (Kd.R_far (p := ⟨gb417, 0, none⟩) (Kd.R_types HO392.out BK417.out (by decide)) (fun _ hk => hk.2) (.bool t412)) (fun _ hk => hk.2) (.slice Ao35 t413.length co35)) (fun _ h_ => h_.1))) hb); have n2_ := zMk (Kd.R_below (by (with_reducible repeat (first | apply zRa | apply zRn | apply zRd)); exact (zRm (Kd.R_far (p := ⟨gb417, 1, none⟩) (Kd.R_far (p := ⟨gb417, 0, none⟩) (Kd.R_types HO396.out BK417.out (by decide)) (fun _ hk => hk.2) (.bool t412)) (fun _ hk => hk.2) (.slice Ao35 t413.length co35)) (fun _ h_ => h_.1))) hb); have n3_ := zMk (Kd.R_below (by (with_reducible repeat (first | apply zRa | apply zRn | apply zRd)); exact (zRm (Kd.R_far (p := ⟨gb417, 1, none⟩) (Kd.R_far (p := ⟨gb417, 0, none⟩) (Kd.R_types HO400.out BK417.out (by decide)) (fun _ hk => hk.2) (.bool t412)) (fun _ hk => hk.2) (.slice Ao35 t413.length co35)) (fun _ h_ => h_.1))) hb); have n4_ := zMk (Kd.R_below (by (with_reducible repeat (first | apply zRa | apply zRn | apply zRd)); exact (zRm (Kd.R_far (p := ⟨gb417, 1, none⟩) (Kd.R_far (p := ⟨gb417, 0, none⟩) (Kd.R_types HO407.out BK417.out (by decide)) (fun _ hk => hk.2) (.bool t412)) (fun _ hk => hk.2) (.slice Ao35 t413.length co35)) (fun _ h_ => h_.1))) hb); have n5_ := zMk (Kd.R_below (by (with_reducible repeat (first | apply zRa | apply zRn | apply zRd)); exact (zRm (Kd.R_far (p := ⟨gb417, 1, none⟩) (Kd.R_far (p := ⟨gb417, 0, none⟩) (Kd.R_types HO411.out BK417.out (by decide)) (fun _ hk => hk.2) (.bool t412)) (fun _ hk => hk.2) (.slice Ao35 t413.length co35)) (fun _ h_ => h_.1))) hb); have n6_ := zMk (Kd.R_below (by (with_reducible repeat (first | apply zRa | apply zRn | apply zRd)); exact (zRm (Kd.R_far (p := ⟨gb417, 1, none⟩) (Kd.R_far (p := ⟨gb417, 0, none⟩) (Kd.R_types HO415.out BK417.out (by decide)) (fun _ hk => hk.2) (.bool t412)) (fun _ hk => hk.2) (.slice Ao35 t413.length co35)) (fun _ h_ => h_.1))) hb); have n7_ := zMk (blk_below (g := gb402) (o := .cells #[.bool t393, .slice Ao23 t394.length co23] 24 (0, 0)) (by (with_reducible repeat (first | refine blk_drewN ?_ _ | refine blk_drew ?_ | refine blk_alloc ?_ _)); refine blk_far ?_ NB402_417.out _; (with_reducible repeat (first | refine blk_drewN ?_ _ | refine blk_drew ?_ | refine blk_alloc ?_ _)); refine blk_far ?_ NB402_417.out _; (with_reducible repeat (first | refine blk_drewN ?_ _ | refine blk_drew ?_ | refine blk_alloc ?_ _)); exact BK402.out) hb); have n8_ := zMk (blk_below (g := gb403) (o := .cells #[.bool t397, .slice Ao25 t398.length co25] 24 (0, 0)) (by (with_reducible repeat (first | refine blk_drewN ?_ _ | refine blk_drew ?_ | refine blk_alloc ?_ _)); refine blk_far ?_ NB403_417.out _; (with_reducible repeat (first | refine blk_drewN ?_ _ | refine blk_drew ?_ | refine blk_alloc ?_ _)); refine blk_far ?_ NB403_417.out _; (with_reducible repeat (first | refine blk_drewN ?_ _ | refine blk_drew ?_ | refine blk_alloc ?_ _)); exact BK403.out) hb); have n9_ := zMk (blk_below (g := gb417) (o := .cells #[.bool t412, .slice Ao35 t413.length co35] 24 (0, 0)) (by (with_reducible repeat (first | refine blk_drewN ?_ _ | refine blk_drew ?_ | refine blk_alloc ?_ _)); refine blk_put (cs := #[.bool t412, .slice none 0 0]) ?_ 1 _ rfl; (with_reducible repeat (first | refine blk_drewN ?_ _ | refine blk_drew ?_ | refine blk_alloc ?_ _)); refine blk_put (cs := #[.bool false, .slice none 0 0]) ?_ 0 _ rfl; (with_reducible repeat (first | refine blk_drewN ?_ _ | refine blk_drew ?_ | refine blk_alloc ?_ _)); exact BK417.out) hb); have n10_ := zMk (zBt (by repeat (first | (with_reducible first | exact HB.out | apply zBa | apply zBn | apply zBd | refine below_set ?_ GE402.out | refine below_set ?_ GE403.out | refine below_set ?_ GE417.out) | exact HB.out)) hb); clear HO388; clear HO392; clear HO396; clear HO400; clear HO407; clear HO411; clear HO415; clear BK402; clear BK403; clear BK417; clear HB; have HO388 := n0_; have HO392 := n1_; have HO396 := n2_; have HO400 := n3_; have HO407 := n4_; have HO411 := n5_; have HO415 := n6_; have BK402 := n7_; have BK403 := n8_; have BK417 := n9_; have HB := n10_; clear n0_ n1_ n2_ n3_ n4_ n5_ n6_ n7_ n8_ n9_ n10_; (try clear hb); (try clear hb2); (try clear hk); (try clear hi); have hcz38_0 : w37.cell? ⟨gb403, 0, none⟩ = some (.bool t397) := (blk_cell BK403.out 0).trans rfl; have hcz38_1 : w37.cell? ⟨gb403, 1, none⟩ = some (.slice Ao25 t398.length co25) := (blk_cell BK403.out 1).trans rfl; have hfz38_0 := blk_frozen BK403.out 0; have hfz38_1 := blk_frozen BK403.out 1) | (go_at_call 29; (with_reducible refine (integer_Text.calls k t397 _ _ t398 t419 _ ?side1 ?side2 A11.out).mono ?_); (case side1 => repeat (first | exact (Kd.R_reads' HO400.out).2.2 | (with_reducible refine zCa ?_ _) | (with_reducible refine zCn ?_ _) | (with_reducible refine zCd ?_))); (case side2 => exact (Kd.R_reads' HO400.out).2.1); rintro e w39 ⟨rfl, hb⟩; have n0_ := zMk (Kd.R_below (by (with_reducible repeat (first | apply zRa | apply zRn | apply zRd)); exact HO388.out) hb); have n1_ := zMk (Kd.R_below (by (with_reducible repeat (first | apply zRa | apply zRn | apply zRd)); exact HO392.out) hb); have n2_ := zMk (Kd.R_below (by (with_reducible repeat (first | apply zRa | apply zRn | apply zRd)); exact HO396.out) hb); have n3_ := zMk (Kd.R_below (by (with_reducible repeat (first | apply zRa | apply zRn | apply zRd)); exact HO400.out) hb); have n4_ := zMk (Kd.R_below (by (with_reducible repeat (first | apply zRa | apply zRn | apply zRd)); exact HO407.out) hb); have n5_ := zMk (Kd.R_below (by (with_reducible repeat (first | apply zRa | apply zRn | apply zRd)); exact HO411.out) hb); have n6_ := zMk (Kd.R_below (by (with_reducible repeat (first | apply zRa | apply zRn | apply zRd)); exact HO415.out) hb); have n7_ := zMk (blk_below (g := gb402) (o := .cells #[.bool t393, .slice Ao23 t394.length co23] 24 (0, 0)) (by (with_reducible repeat (first | refine blk_drewN ?_ _ | refine blk_drew ?_ | refine blk_alloc ?_ _)); exact BK402.out) hb); have n8_ := zMk (blk_below (g := gb403) (o := .cells #[.bool t397, .slice Ao25 t398.length co25] 24 (0, 0)) (by (with_reducible repeat (first | refine blk_drewN ?_ _ | refine blk_drew ?_ | refine blk_alloc ?_ _)); exact BK403.out) hb); have n9_ := zMk (blk_below (g := gb417) (o := .cells #[.bool t412, .slice Ao35 t413.length co35] 24 (0, 0)) (by (with_reducible repeat (first | refine blk_drewN ?_ _ | refine blk_drew ?_ | refine blk_alloc ?_ _)); exact BK417.out) hb); have n10_ := zMk (zBt (by repeat (first | (with_reducible first | exact HB.out | apply zBa | apply zBn | apply zBd | refine below_set ?_ GE402.out | refine below_set ?_ GE403.out | refine below_set ?_ GE417.out) | exact HB.out)) hb); clear HO388; clear HO392; clear HO396; clear HO400; clear HO407; clear HO411; clear HO415; clear BK402; clear BK403; clear BK417; clear HB; have HO388 := n0_; have HO392 := n1_; have HO396 := n2_; have HO400 := n3_; have HO407 := n4_; have HO411 := n5_; have HO415 := n6_; have BK402 := n7_; have BK403 := n8_; have BK417 := n9_; have HB := n10_; clear n0_ n1_ n2_ n3_ n4_ n5_ n6_ n7_ n8_ n9_ n10_; (try clear hb); (try clear hb2); (try clear hk); (try clear hi); have hcz40_0 : w39.cell? ⟨gb417, 0, none⟩ = some (.bool t412) := (blk_cell BK417.out 0).trans rfl; have hcz40_1 : w39.cell? ⟨gb417, 1, none⟩ = some (.slice Ao35 t413.length co35) := (blk_cell BK417.out 1).trans rfl; have hfz40_0 := blk_frozen BK417.out 0; have hfz40_1 := blk_frozen BK417.out 1) | (go_at_call 29; (with_reducible refine (integer_Text.calls k t412 _ _ t413 t420 _ ?side1 ?side2 A13.out).mono ?_); (case side1 => repeat (first | exact (Kd.R_reads' HO415.out).2.2 | (with_reducible refine zCa ?_ _) | (with_reducible refine zCn ?_ _) | (with_reducible refine zCd ?_))); (case side2 => exact (Kd.R_reads' HO415.out).2.1); rintro e w41 ⟨rfl, hb⟩; have n0_ := zMk (Kd.R_below (by (with_reducible repeat (first | apply zRa | apply zRn | apply zRd)); exact HO388.out) hb); have n1_ := zMk (Kd.R_below (by (with_reducible repeat (first | apply zRa | apply zRn | apply zRd)); exact HO392.out) hb); have n2_ := zMk (Kd.R_below (by (with_reducible repeat (first | apply zRa | apply zRn | apply zRd)); exact HO396.out) hb); have n3_ := zMk (Kd.R_below (by (with_reducible repeat (first | apply zRa | apply zRn | apply zRd)); exact HO400.out) hb); have n4_ := zMk (Kd.R_below (by (with_reducible repeat (first | apply zRa | apply zRn | apply zRd)); exact HO407.out) hb); have n5_ := zMk (Kd.R_below (by (with_reducible repeat (first | apply zRa | apply zRn | apply zRd)); exact HO411.out) hb); have n6_ := zMk (Kd.R_below (by (with_reducible repeat (first | apply zRa | apply zRn | apply zRd)); exact HO415.out) hb); have n7_ := zMk (blk_below (g := gb402) (o := .cells #[.bool t393, .slice Ao23 t394.length co23] 24 (0, 0)) (by (with_reducible repeat (first | refine blk_drewN ?_ _ | refine blk_drew ?_ | refine blk_alloc ?_ _)); exact BK402.out) hb); have n8_ := zMk (blk_below (g := gb403) (o := .cells #[.bool t397, .slice Ao25 t398.length co25] 24 (0, 0)) (by (with_reducible repeat (first | refine blk_drewN ?_ _ | refine blk_drew ?_ | refine blk_alloc ?_ _)); exact BK403.out) hb); have n9_ := zMk (blk_below (g := gb417) (o := .cells #[.bool t412, .slice Ao35 t413.length co35] 24 (0, 0)) (by (with_reducible repeat (first | refine blk_drewN ?_ _ | refine blk_drew ?_ | refine blk_alloc ?_ _)); exact BK417.out) hb); have n10_ := zMk (zBt (by repeat (first | (with_reducible first | exact HB.out | apply zBa | apply zBn | apply zBd | refine below_set ?_ GE402.out | refine below_set ?_ GE403.out | refine below_set ?_ GE417.out) | exact HB.out)) hb); clear HO388; clear HO392; clear HO396; clear HO400; clear HO407; clear HO411; clear HO415; clear BK402; clear BK403; clear BK417; clear HB; have HO388 := n0_; have HO392 := n1_; have HO396 := n2_; have HO400 := n3_; have HO407 := n4_; have HO411 := n5_; have HO415 := n6_; have BK402 := n7_; have BK403 := n8_; have BK417 := n9_; have HB := n10_; clear n0_ n1_ n2_ n3_ n4_ n5_ n6_ n7_ n8_ n9_ n10_; (try clear hb); (try clear hb2); (try clear hk); (try clear hi)))
          go_ret
          exact ⟨by first | rfl | (simp [errW_none, errW_some] <;> rfl) | (simp [*, errW_none, errW_some] <;> rfl), by repeat (first | (with_reducible first | exact HB.out | apply zBa | apply zBn | apply zBd | refine below_set ?_ GE402.out | refine below_set ?_ GE403.out | refine below_set ?_ GE417.out) | exact HB.out)⟩
        · rw [if_neg c12] at H
          have c12b0 : (t419.toList == ([49] : List UInt8)) = false := beq_eq_false_iff_ne.mpr c12
          have c12b1 : (t419.toList != ([49] : List UInt8)) = true := bne_iff_ne.mpr c12
          exact absurd ((zOi H).trans HRT.out) (by decide)
      · rw [if_neg c10] at H
        have c10b0 : (t418.toList == ([45, 52] : List UInt8)) = false := beq_eq_false_iff_ne.mpr c10
        have c10b1 : (t418.toList != ([45, 52] : List UInt8)) = true := bne_iff_ne.mpr c10
        exact absurd ((zOi H).trans HRT.out) (by decide)
    · rw [if_neg c8] at H
      have c8b0 : (t416 == 0) = false := beq_eq_false_iff_ne.mpr c8
      have c8b1 : (t416 != 0) = true := bne_iff_ne.mpr c8
      exact absurd ((zOi H).trans HRT.out) (by decide)
  · rw [if_neg c7] at H
    have c7b0 : (t401 == 0) = false := beq_eq_false_iff_ne.mpr c7
    have c7b1 : (t401 != 0) = true := bne_iff_ne.mpr c7
    exact absurd ((zOi H).trans HRT.out) (by decide)

/- The chapter's example. -/
theorem alive_at0 : filigreelaw02_alive.f 1000000 = some true := by kernel_rfl
theorem alive_at1 : filigreelaw02_alive.f 999999 = some true := by kernel_rfl
theorem alive_f (k : Nat) (hk : k = 1000000 ∨ k = 999999) : filigreelaw02_alive.f k = some true := by
  rcases hk with rfl | rfl
  · exact alive_at0
  · exact alive_at1

/-! ### filigreelaw02_IntegerSums: function 4 -/
def filigreelaw02_IntegerSums.f (k : Nat) (a0_0 : Bool) (l0_1 : List Int) (a1_0 : Bool) (l1_1 : List Int) : Option (Bool) := (w1_Light.f k (([l0_1, l1_1] : List (List Int)))).bind fun t1065 => (if t1065 = true then ((integer_Add.f k a0_0 l0_1 a1_0 l1_1).bind fun bt1067 => ((filigreeref02_Add.f k a0_0 l0_1 a1_0 l1_1).bind fun bt1071 => ((filigreeref02_Same.f k bt1067.1 bt1067.2 bt1071.1 bt1071.2).bind fun t1075 => (if t1075 = true then ((integer_Sub.f k a0_0 l0_1 a1_0 l1_1).bind fun bt1076 => ((filigreeref02_Sub.f k a0_0 l0_1 a1_0 l1_1).bind fun bt1080 => ((filigreeref02_Same.f k bt1076.1 bt1076.2 bt1080.1 bt1080.2).bind fun t1084 => (if t1084 = true then ((integer_Mul.f k a0_0 l0_1 a1_0 l1_1).bind fun bt1085 => ((filigreeref02_Mul.f k a0_0 l0_1 a1_0 l1_1).bind fun bt1089 => ((filigreeref02_Same.f k bt1085.1 bt1085.2 bt1089.1 bt1089.2).bind fun t1093 => (if t1093 = true then ((filigreelaw02_alive.f k).bind fun t1094 => (some t1094)) else (some false))))) else (some false))))) else (some false))))) else ((filigreelaw02_alive.f k).bind fun t1066 => (some t1066)))
def filigreelaw02_IntegerSums.T3 : Bool × List (List Nat × List Nat) := (true, [([], []), ([], []), ([0, 1], [0, 1]), ([], []), ([], []), ([3, 4, 2], [3, 4]), ([2, 5, 5], [2, 5]), ([6, 6], [6]), ([7], [7]), ([7], [7]), ([8, 9, 7, 7], [7, 8, 9]), ([7], [7]), ([7], [7]), ([11, 12, 10, 7], [7, 11, 12]), ([10, 13, 13, 7], [7, 10, 13]), ([7, 14], [7, 14]), ([15, 14], [15]), ([16], [16]), ([16], [16]), ([17, 18, 16, 16], [16, 17, 18]), ([16], [16]), ([16], [16]), ([20, 21, 19, 16], [16, 20, 21]), ([19, 22, 22, 16], [16, 19, 22]), ([16, 23], [16, 23]), ([24, 23], [24]), ([25, 25], [25]), ([25, 26], [25, 26]), ([27, 26, 0, 1, 2, 3, 4, 5, 6, 7, 8, 9, 10, 11, 12, 13, 14, 15, 16, 17, 18, 19, 20, 21, 22, 23, 24, 25, 26, 27], [27])])
def filigreelaw02_IntegerSums.B3 : List Nat := [0, 0, 3, 0, 0, 31, 63, 127, 255, 255, 1023, 255, 255, 8191, 16383, 32767, 65535, 131071, 131071, 524287, 131071, 131071, 4194303, 8388607, 16777215, 33554431, 67108863, 134217727, 268435455]
theorem filigreelaw02_IntegerSums.tab3 : rtab .any (opsOf Tryd.f4 3) = filigreelaw02_IntegerSums.T3 := by kernel_rfl
theorem filigreelaw02_IntegerSums.bits3 : waitsOk filigreelaw02_IntegerSums.T3.2 filigreelaw02_IntegerSums.B3 = true := by kernel_rfl
set_option maxHeartbeats 8000000 in
set_option maxRecDepth 100000 in
theorem filigreelaw02_IntegerSums.calls (k : Nat) (a0_0 : Bool) (P0_1_ : Nat → Prop) (A0_1 : Option Addr) (c0_1 : Nat) (l0_1 : List Int) (a1_0 : Bool) (P1_1_ : Nat → Prop) (A1_1 : Option Addr) (c1_1 : Nat) (l1_1 : List Int) (r : Bool) (w : World) (hs0_1 : Kd.V (Kd.int .u32) 58 w w.heap.size (fun k_ => P0_1_ k_) (.slice A0_1 l0_1.length c0_1) l0_1) (hs1_1 : Kd.V (Kd.int .u32) 58 w w.heap.size (fun k_ => P1_1_ k_) (.slice A1_1 l1_1.length c1_1) l1_1) (h : filigreelaw02_IntegerSums.f k a0_0 l0_1 a1_0 l1_1 = some r) (hr_ : r = true) :
    Calls Tryd.prog 4 #[.agg #[.bool a0_0, .slice A0_1 l0_1.length c0_1], .agg #[.bool a1_0, .slice A1_1 l1_1.length c1_1]] w fun e w' => e = .returned (.bool r) ∧ Below w.heap.size w w' := by
  have HRT := zMk hr_
  clear hr_
  have hu24 := Tryd.underlying24
  have HO0_1 := zMk (show Kd.V (Kd.int .u32) 58 w w.heap.size (fun k_ => ((P0_1_ k_ ∨ P1_1_ k_) ∨ w.heap.size ≤ k_)) (.slice A0_1 l0_1.length c0_1) l0_1 from zVm hs0_1 (fun k_ hk => .inl (.inl hk)))
  have HO1_1 := zMk (show Kd.V (Kd.int .u32) 58 w w.heap.size (fun k_ => ((P0_1_ k_ ∨ P1_1_ k_) ∨ w.heap.size ≤ k_)) (.slice A1_1 l1_1.length c1_1) l1_1 from zVm hs1_1 (fun k_ hk => .inl (.inr hk)))
  have HB := zMk (Below.refl w.heap.size w)
  have H : ((w1_Light.f k (([l0_1, l1_1] : List (List Int)))).bind fun t1065 => (if t1065 = true then ((integer_Add.f k a0_0 l0_1 a1_0 l1_1).bind fun bt1067 => ((filigreeref02_Add.f k a0_0 l0_1 a1_0 l1_1).bind fun bt1071 => ((filigreeref02_Same.f k bt1067.1 bt1067.2 bt1071.1 bt1071.2).bind fun t1075 => (if t1075 = true then ((integer_Sub.f k a0_0 l0_1 a1_0 l1_1).bind fun bt1076 => ((filigreeref02_Sub.f k a0_0 l0_1 a1_0 l1_1).bind fun bt1080 => ((filigreeref02_Same.f k bt1076.1 bt1076.2 bt1080.1 bt1080.2).bind fun t1084 => (if t1084 = true then ((integer_Mul.f k a0_0 l0_1 a1_0 l1_1).bind fun bt1085 => ((filigreeref02_Mul.f k a0_0 l0_1 a1_0 l1_1).bind fun bt1089 => ((filigreeref02_Same.f k bt1085.1 bt1085.2 bt1089.1 bt1089.2).bind fun t1093 => (if t1093 = true then ((filigreelaw02_alive.f k).bind fun t1094 => (some t1094)) else (some false))))) else (some false))))) else (some false))))) else ((filigreelaw02_alive.f k).bind fun t1066 => (some t1066)))) = some r := h
  clear h
  obtain ⟨y1062, hy1062⟩ : ∃ y_ : List (List Int), y_ = (([l0_1, l1_1] : List (List Int))) := ⟨_, rfl⟩
  replace H : ((w1_Light.f k y1062).bind fun t1065 => (if t1065 = true then ((integer_Add.f k a0_0 l0_1 a1_0 l1_1).bind fun bt1067 => ((filigreeref02_Add.f k a0_0 l0_1 a1_0 l1_1).bind fun bt1071 => ((filigreeref02_Same.f k bt1067.1 bt1067.2 bt1071.1 bt1071.2).bind fun t1075 => (if t1075 = true then ((integer_Sub.f k a0_0 l0_1 a1_0 l1_1).bind fun bt1076 => ((filigreeref02_Sub.f k a0_0 l0_1 a1_0 l1_1).bind fun bt1080 => ((filigreeref02_Same.f k bt1076.1 bt1076.2 bt1080.1 bt1080.2).bind fun t1084 => (if t1084 = true then ((integer_Mul.f k a0_0 l0_1 a1_0 l1_1).bind fun bt1085 => ((filigreeref02_Mul.f k a0_0 l0_1 a1_0 l1_1).bind fun bt1089 => ((filigreeref02_Same.f k bt1085.1 bt1085.2 bt1089.1 bt1089.2).bind fun t1093 => (if t1093 = true then ((filigreelaw02_alive.f k).bind fun t1094 => (some t1094)) else (some false))))) else (some false))))) else (some false))))) else ((filigreelaw02_alive.f k).bind fun t1066 => (some t1066)))) = some r := by first | (rw [hy1062]; with_reducible exact H) | (have H2_ := (zOb _ _).symm.trans H; rw [hy1062]; with_reducible exact H2_) | (have H2_ := (zOb _ _).symm.trans H; with_reducible exact H2_) | with_reducible exact H | (rw [hy1062]; exact H) | exact H
  have Ny1062 := zMk hy1062
  clear hy1062
  replace H := Option.bind_eq_some_iff.mp H
  obtain ⟨t1065, A30, H⟩ := H
  have A3 := zMk A30
  clear A30
  by_cases c4 : t1065 = true
  · subst c4
    have H1 : ((integer_Add.f k a0_0 l0_1 a1_0 l1_1).bind fun bt1067 => ((filigreeref02_Add.f k a0_0 l0_1 a1_0 l1_1).bind fun bt1071 => ((filigreeref02_Same.f k bt1067.1 bt1067.2 bt1071.1 bt1071.2).bind fun t1075 => (if t1075 = true then ((integer_Sub.f k a0_0 l0_1 a1_0 l1_1).bind fun bt1076 => ((filigreeref02_Sub.f k a0_0 l0_1 a1_0 l1_1).bind fun bt1080 => ((filigreeref02_Same.f k bt1076.1 bt1076.2 bt1080.1 bt1080.2).bind fun t1084 => (if t1084 = true then ((integer_Mul.f k a0_0 l0_1 a1_0 l1_1).bind fun bt1085 => ((filigreeref02_Mul.f k a0_0 l0_1 a1_0 l1_1).bind fun bt1089 => ((filigreeref02_Same.f k bt1085.1 bt1085.2 bt1089.1 bt1089.2).bind fun t1093 => (if t1093 = true then ((filigreelaw02_alive.f k).bind fun t1094 => (some t1094)) else (some false))))) else (some false))))) else (some false))))) = some r := by rw [if_pos rfl] at H; exact H
    clear H
    have H := H1
    clear H1
    replace H := Option.bind_eq_some_iff.mp H
    obtain ⟨⟨t1067, t1068⟩, A50, H⟩ := H
    replace H : ((filigreeref02_Add.f k a0_0 l0_1 a1_0 l1_1).bind fun bt1071 => ((filigreeref02_Same.f k t1067 t1068 bt1071.1 bt1071.2).bind fun t1075 => (if t1075 = true then ((integer_Sub.f k a0_0 l0_1 a1_0 l1_1).bind fun bt1076 => ((filigreeref02_Sub.f k a0_0 l0_1 a1_0 l1_1).bind fun bt1080 => ((filigreeref02_Same.f k bt1076.1 bt1076.2 bt1080.1 bt1080.2).bind fun t1084 => (if t1084 = true then ((integer_Mul.f k a0_0 l0_1 a1_0 l1_1).bind fun bt1085 => ((filigreeref02_Mul.f k a0_0 l0_1 a1_0 l1_1).bind fun bt1089 => ((filigreeref02_Same.f k bt1085.1 bt1085.2 bt1089.1 bt1089.2).bind fun t1093 => (if t1093 = true then ((filigreelaw02_alive.f k).bind fun t1094 => (some t1094)) else (some false))))) else (some false))))) else (some false)))) = some r := H
    have A5 := zMk A50
    clear A50
    replace H := Option.bind_eq_some_iff.mp H
    obtain ⟨⟨t1071, t1072⟩, A60, H⟩ := H
    replace H : ((filigreeref02_Same.f k t1067 t1068 t1071 t1072).bind fun t1075 => (if t1075 = true then ((integer_Sub.f k a0_0 l0_1 a1_0 l1_1).bind fun bt1076 => ((filigreeref02_Sub.f k a0_0 l0_1 a1_0 l1_1).bind fun bt1080 => ((filigreeref02_Same.f k bt1076.1 bt1076.2 bt1080.1 bt1080.2).bind fun t1084 => (if t1084 = true then ((integer_Mul.f k a0_0 l0_1 a1_0 l1_1).bind fun bt1085 => ((filigreeref02_Mul.f k a0_0 l0_1 a1_0 l1_1).bind fun bt1089 => ((filigreeref02_Same.f k bt1085.1 bt1085.2 bt1089.1 bt1089.2).bind fun t1093 => (if t1093 = true then ((filigreelaw02_alive.f k).bind fun t1094 => (some t1094)) else (some false))))) else (some false))))) else (some false))) = some r := H
    have A6 := zMk A60
    clear A60
    replace H := Option.bind_eq_some_iff.mp H
    obtain ⟨t1075, A70, H⟩ := H
    have A7 := zMk A70
    clear A70
    by_cases c8 : t1075 = true
    · subst c8
      have H1 : ((integer_Sub.f k a0_0 l0_1 a1_0 l1_1).bind fun bt1076 => ((filigreeref02_Sub.f k a0_0 l0_1 a1_0 l1_1).bind fun bt1080 => ((filigreeref02_Same.f k bt1076.1 bt1076.2 bt1080.1 bt1080.2).bind fun t1084 => (if t1084 = true then ((integer_Mul.f k a0_0 l0_1 a1_0 l1_1).bind fun bt1085 => ((filigreeref02_Mul.f k a0_0 l0_1 a1_0 l1_1).bind fun bt1089 => ((filigreeref02_Same.f k bt1085.1 bt1085.2 bt1089.1 bt1089.2).bind fun t1093 => (if t1093 = true then ((filigreelaw02_alive.f k).bind fun t1094 => (some t1094)) else (some false))))) else (some false))))) = some r := by rw [if_pos rfl] at H; exact H
      clear H
      have H := H1
      clear H1
      replace H := Option.bind_eq_some_iff.mp H
      obtain ⟨⟨t1076, t1077⟩, A90, H⟩ := H
      replace H : ((filigreeref02_Sub.f k a0_0 l0_1 a1_0 l1_1).bind fun bt1080 => ((filigreeref02_Same.f k t1076 t1077 bt1080.1 bt1080.2).bind fun t1084 => (if t1084 = true then ((integer_Mul.f k a0_0 l0_1 a1_0 l1_1).bind fun bt1085 => ((filigreeref02_Mul.f k a0_0 l0_1 a1_0 l1_1).bind fun bt1089 => ((filigreeref02_Same.f k bt1085.1 bt1085.2 bt1089.1 bt1089.2).bind fun t1093 => (if t1093 = true then ((filigreelaw02_alive.f k).bind fun t1094 => (some t1094)) else (some false))))) else (some false)))) = some r := H
      have A9 := zMk A90
      clear A90
      replace H := Option.bind_eq_some_iff.mp H
      obtain ⟨⟨t1080, t1081⟩, A100, H⟩ := H
      replace H : ((filigreeref02_Same.f k t1076 t1077 t1080 t1081).bind fun t1084 => (if t1084 = true then ((integer_Mul.f k a0_0 l0_1 a1_0 l1_1).bind fun bt1085 => ((filigreeref02_Mul.f k a0_0 l0_1 a1_0 l1_1).bind fun bt1089 => ((filigreeref02_Same.f k bt1085.1 bt1085.2 bt1089.1 bt1089.2).bind fun t1093 => (if t1093 = true then ((filigreelaw02_alive.f k).bind fun t1094 => (some t1094)) else (some false))))) else (some false))) = some r := H
      have A10 := zMk A100
      clear A100
      replace H := Option.bind_eq_some_iff.mp H
      obtain ⟨t1084, A110, H⟩ := H
      have A11 := zMk A110
      clear A110
      by_cases c12 : t1084 = true
      · subst c12
        have H1 : ((integer_Mul.f k a0_0 l0_1 a1_0 l1_1).bind fun bt1085 => ((filigreeref02_Mul.f k a0_0 l0_1 a1_0 l1_1).bind fun bt1089 => ((filigreeref02_Same.f k bt1085.1 bt1085.2 bt1089.1 bt1089.2).bind fun t1093 => (if t1093 = true then ((filigreelaw02_alive.f k).bind fun t1094 => (some t1094)) else (some false))))) = some r := by rw [if_pos rfl] at H; exact H
        clear H
        have H := H1
        clear H1
        replace H := Option.bind_eq_some_iff.mp H
        obtain ⟨⟨t1085, t1086⟩, A130, H⟩ := H
        replace H : ((filigreeref02_Mul.f k a0_0 l0_1 a1_0 l1_1).bind fun bt1089 => ((filigreeref02_Same.f k t1085 t1086 bt1089.1 bt1089.2).bind fun t1093 => (if t1093 = true then ((filigreelaw02_alive.f k).bind fun t1094 => (some t1094)) else (some false)))) = some r := H
        have A13 := zMk A130
        clear A130
        replace H := Option.bind_eq_some_iff.mp H
        obtain ⟨⟨t1089, t1090⟩, A140, H⟩ := H
        replace H : ((filigreeref02_Same.f k t1085 t1086 t1089 t1090).bind fun t1093 => (if t1093 = true then ((filigreelaw02_alive.f k).bind fun t1094 => (some t1094)) else (some false))) = some r := H
        have A14 := zMk A140
        clear A140
        replace H := Option.bind_eq_some_iff.mp H
        obtain ⟨t1093, A150, H⟩ := H
        have A15 := zMk A150
        clear A150
        by_cases c16 : t1093 = true
        · subst c16
          have H1 : ((filigreelaw02_alive.f k).bind fun t1094 => (some t1094)) = some r := by rw [if_pos rfl] at H; exact H
          clear H
          have H := H1
          clear H1
          replace H := Option.bind_eq_some_iff.mp H
          obtain ⟨t1094, A170, H⟩ := H
          have A17 := zMk A170
          clear A170
          obtain rfl := zOi H
          go_enter Tryd.func4, Tryd.ntmps4
          try go_wp2_with (first | ((with_reducible refine gate_dst (N := 2) rfl ?_); refine box_event ?hg (N := 2) ?hd (cs := #[.bool a0_0, .slice A0_1 l0_1.length c0_1]) (t := 24) ?hr ?_; (case hd => rfl); (case hg => rfl); (case hr => first | (go_simp; done) | (go_simp; rfl) | (go_simp; rw [show ∀ x : Int, IntKind.u32.wrap (IntKind.u8.wrap x) = x % 256 from fun x => (by show (x % 256) % 4294967296 = x % 256; omega)])); intro gb1060 hg w18 hbox hb; have n0_ := zMk (zVb (Kd.V_elderB (by (with_reducible repeat (first | apply zVa | apply zVn | apply zVd)); exact HO0_1.out) gb1060 (Nat.le_of_eq hg.symm)) hb); have n1_ := zMk (zVb (Kd.V_elderB (by (with_reducible repeat (first | apply zVa | apply zVn | apply zVd)); exact HO1_1.out) gb1060 (Nat.le_of_eq hg.symm)) hb); have n2_ := zMk (zBt (by repeat (first | (with_reducible first | exact HB.out | apply zBa | apply zBn | apply zBd) | exact HB.out)) hb); have n3_ := zMk (hbox); have n4_ := zMk ((by rw [hg]; exact (zBs (by repeat (first | (with_reducible first | exact HB.out | apply zBa | apply zBn | apply zBd) | exact HB.out))) : w.heap.size ≤ gb1060)); have n5_ := zMk ((by rw [hg]; exact (zBs (by repeat (first | (with_reducible first | exact HB.out | apply zBa | apply zBn | apply zBd) | exact HB.out))) : w.heap.size ≤ gb1060)); clear HO0_1; clear HO1_1; clear HB; have HO0_1 := n0_; have HO1_1 := n1_; have HB := n2_; have BK1060 := n3_; have GW1060 := n4_; have GE1060 := n5_; clear n0_ n1_ n2_ n3_ n4_ n5_; clear hb hbox hg) | ((with_reducible refine gate_dst (N := 3) rfl ?_); refine box_event ?hg (N := 3) ?hd (cs := #[.bool a1_0, .slice A1_1 l1_1.length c1_1]) (t := 24) ?hr ?_; (case hd => rfl); (case hg => rfl); (case hr => first | (go_simp; done) | (go_simp; rfl) | (go_simp; rw [show ∀ x : Int, IntKind.u32.wrap (IntKind.u8.wrap x) = x % 256 from fun x => (by show (x % 256) % 4294967296 = x % 256; omega)])); intro gb1061 hg w19 hbox hb; have n0_ := zMk (zVb (Kd.V_elderB (by (with_reducible repeat (first | apply zVa | apply zVn | apply zVd)); exact HO0_1.out) gb1061 (Nat.le_of_eq hg.symm)) hb); have n1_ := zMk (zVb (Kd.V_elderB (by (with_reducible repeat (first | apply zVa | apply zVn | apply zVd)); exact HO1_1.out) gb1061 (Nat.le_of_eq hg.symm)) hb); have n2_ := zMk (blk_below (g := gb1060) (o := .cells #[.bool a0_0, .slice A0_1 l0_1.length c0_1] 24 (0, 0)) (by (with_reducible repeat (first | refine blk_drewN ?_ _ | refine blk_drew ?_ | refine blk_alloc ?_ _)); exact BK1060.out) hb); have n3_ := zMk (zBt (by repeat (first | (with_reducible first | exact HB.out | apply zBa | apply zBn | apply zBd | refine below_set ?_ GE1060.out) | exact HB.out)) hb); have n4_ := zMk (hbox); have n5_ := zMk ((by rw [hg]; exact (zBs (by repeat (first | (with_reducible first | exact HB.out | apply zBa | apply zBn | apply zBd | refine below_set ?_ GE1060.out) | exact HB.out))) : w.heap.size ≤ gb1061)); have n6_ := zMk ((by rw [hg]; exact (zBs (by repeat (first | (with_reducible first | exact HB.out | apply zBa | apply zBn | apply zBd | refine below_set ?_ GE1060.out) | exact HB.out))) : w.heap.size ≤ gb1061)); have n7_ := zMk ((by rw [hg]; exact Nat.ne_of_lt (blk_lt (g := gb1060) (o := .cells #[.bool a0_0, .slice A0_1 l0_1.length c0_1] 24 (0, 0)) (by (with_reducible repeat (first | refine blk_drewN ?_ _ | refine blk_drew ?_ | refine blk_alloc ?_ _)); exact BK1060.out)) : gb1060 ≠ gb1061)); have n8_ := zMk ((by rw [hg]; exact Nat.ne_of_gt (blk_lt (g := gb1060) (o := .cells #[.bool a0_0, .slice A0_1 l0_1.length c0_1] 24 (0, 0)) (by (with_reducible repeat (first | refine blk_drewN ?_ _ | refine blk_drew ?_ | refine blk_alloc ?_ _)); exact BK1060.out)) : gb1061 ≠ gb1060)); clear HO0_1; clear HO1_1; clear BK1060; clear HB; have HO0_1 := n0_; have HO1_1 := n1_; have BK1060 := n2_; have HB := n3_; have BK1061 := n4_; have GW1061 := n5_; have GE1061 := n6_; have NB1060_1061 := n7_; have NB1061_1060 := n8_; clear n0_ n1_ n2_ n3_ n4_ n5_ n6_ n7_ n8_; clear hb hbox hg; have hnb20 := NB1060_1061.out; have hnc20 := NB1061_1060.out; have hcz21_0 : w19.cell? ⟨gb1060, 0, none⟩ = some (.bool a0_0) := (blk_cell BK1060.out 0).trans rfl; have hcz21_1 : w19.cell? ⟨gb1060, 1, none⟩ = some (.slice A0_1 l0_1.length c0_1) := (blk_cell BK1060.out 1).trans rfl; have hfz21_0 := blk_frozen BK1060.out 0; have hfz21_1 := blk_frozen BK1060.out 1; have hcz22_0 : w19.cell? ⟨gb1061, 0, none⟩ = some (.bool a1_0) := (blk_cell BK1061.out 0).trans rfl; have hcz22_1 : w19.cell? ⟨gb1061, 1, none⟩ = some (.slice A1_1 l1_1.length c1_1) := (blk_cell BK1061.out 1).trans rfl; have hfz22_0 := blk_frozen BK1061.out 0; have hfz22_1 := blk_frozen BK1061.out 1) | ((with_reducible refine gate_dst (N := 9) rfl ?_); refine Kd.N_lit (Kd.slice 58 (Kd.int .u32)) _ 22 ?hg (N' := 9) ?hd (xs := ([l0_1, l1_1] : List (List Int))) (inner := [.slice A0_1 l0_1.length c0_1, .slice A1_1 l1_1.length c1_1]) (ok := (fun k_ => ((P0_1_ k_ ∨ P1_1_ k_) ∨ w.heap.size ≤ k_) ∧ k_ ≠ gb1060 ∧ k_ ≠ gb1061)) (okp := (fun k_ => ((P0_1_ k_ ∨ P1_1_ k_) ∨ w.heap.size ≤ k_) ∧ k_ ≠ gb1060 ∧ k_ ≠ gb1061)) ?hr ?hp (fun _ hk => hk) ((show ∀ k_, w19.heap.size ≤ k_ → (fun k_ => ((P0_1_ k_ ∨ P1_1_ k_) ∨ w.heap.size ≤ k_) ∧ k_ ≠ gb1060 ∧ k_ ≠ gb1061) k_ from fun k_ hk => ⟨(.inr (Nat.le_trans (zBs (by repeat (first | (with_reducible first | exact HB.out | apply zBa | apply zBn | apply zBd | refine below_set ?_ GE1060.out | refine below_set ?_ GE1061.out) | exact HB.out))) hk)), Kd.freshB (g := gb1060) (o := .cells #[.bool a0_0, .slice A0_1 l0_1.length c0_1] 24 (0, 0)) (by (with_reducible repeat (first | refine blk_drewN ?_ _ | refine blk_drew ?_ | refine blk_alloc ?_ _)); exact BK1060.out) k_ hk, Kd.freshB (g := gb1061) (o := .cells #[.bool a1_0, .slice A1_1 l1_1.length c1_1] 24 (0, 0)) (by (with_reducible repeat (first | refine blk_drewN ?_ _ | refine blk_drew ?_ | refine blk_alloc ?_ _)); exact BK1061.out) k_ hk⟩) _ (Nat.le_refl _)) (Below.refl _ _) (Nat.le_refl _) (by simp) ?_; (case hd => rfl); (case hg => rfl); (case hr => first | (go_simp; done) | (go_simp; rfl) | (go_simp; rw [show ∀ x : Int, IntKind.u32.wrap (IntKind.u8.wrap x) = x % 256 from fun x => (by show (x % 256) % 4294967296 = x % 256; omega)])); (case hp => exact (Reps.one (show Kd.FK (Kd.slice 58 (Kd.int .u32)) _ _ l0_1 [.slice A0_1 l0_1.length c0_1] from (Kd.FK_slice_mk (Kd.V_reads' (zVm (ok' := (fun k_ => ((P0_1_ k_ ∨ P1_1_ k_) ∨ w.heap.size ≤ k_) ∧ k_ ≠ gb1060 ∧ k_ ≠ gb1061)) (HO0_1.out) (fun k_ hk => ⟨hk.1.1, ⟨hk.1.2, hk.2⟩⟩))).2.1 (Kd.V_F (zVm (ok' := (fun k_ => ((P0_1_ k_ ∨ P1_1_ k_) ∨ w.heap.size ≤ k_) ∧ k_ ≠ gb1060 ∧ k_ ≠ gb1061)) (HO0_1.out) (fun k_ hk => ⟨hk.1.1, ⟨hk.1.2, hk.2⟩⟩))))) (Reps.one (show Kd.FK (Kd.slice 58 (Kd.int .u32)) _ _ l1_1 [.slice A1_1 l1_1.length c1_1] from (Kd.FK_slice_mk (Kd.V_reads' (zVm (ok' := (fun k_ => ((P0_1_ k_ ∨ P1_1_ k_) ∨ w.heap.size ≤ k_) ∧ k_ ≠ gb1060 ∧ k_ ≠ gb1061)) (HO1_1.out) (fun k_ hk => ⟨hk.1.1, ⟨hk.1.2, hk.2⟩⟩))).2.1 (Kd.V_F (zVm (ok' := (fun k_ => ((P0_1_ k_ ∨ P1_1_ k_) ∨ w.heap.size ≤ k_) ∧ k_ ≠ gb1060 ∧ k_ ≠ gb1061)) (HO1_1.out) (fun k_ hk => ⟨hk.1.1, ⟨hk.1.2, hk.2⟩⟩))))) (Reps.none _ _)))); intro v1063 w23 ho24 hb hg_ hnew_; clear hg_ hnew_; (first | rw [← Ny1062.out] at ho24 | (simp only [Int.reduceToNat] at ho24; rw [← Ny1062.out] at ho24)); have n0_ := zMk (Kd.V_elder' (by (with_reducible repeat (first | apply zVa | apply zVn | apply zVd)); exact HO0_1.out) (Kd.N_base ho24) hb); have n1_ := zMk (Kd.V_elder' (by (with_reducible repeat (first | apply zVa | apply zVn | apply zVd)); exact HO1_1.out) (Kd.N_base ho24) hb); have n2_ := zMk (Kd.N_lower ho24 (zBs (by repeat (first | (with_reducible first | exact HB.out | apply zBa | apply zBn | apply zBd | refine below_set ?_ GE1060.out | refine below_set ?_ GE1061.out) | exact HB.out)))); have n3_ := zMk (blk_below (g := gb1060) (o := .cells #[.bool a0_0, .slice A0_1 l0_1.length c0_1] 24 (0, 0)) (by (with_reducible repeat (first | refine blk_drewN ?_ _ | refine blk_drew ?_ | refine blk_alloc ?_ _)); exact BK1060.out) hb); have n4_ := zMk (blk_below (g := gb1061) (o := .cells #[.bool a1_0, .slice A1_1 l1_1.length c1_1] 24 (0, 0)) (by (with_reducible repeat (first | refine blk_drewN ?_ _ | refine blk_drew ?_ | refine blk_alloc ?_ _)); exact BK1061.out) hb); have n5_ := zMk (zBt (by repeat (first | (with_reducible first | exact HB.out | apply zBa | apply zBn | apply zBd | refine below_set ?_ GE1060.out | refine below_set ?_ GE1061.out) | exact HB.out)) hb); clear HO0_1; clear HO1_1; clear BK1060; clear BK1061; clear HB; have HO0_1 := n0_; have HO1_1 := n1_; have HO1064 := n2_; have BK1060 := n3_; have BK1061 := n4_; have HB := n5_; clear n0_ n1_ n2_ n3_ n4_ n5_; clear hb ho24; obtain ⟨Ao25, co25, eo25⟩ := Kd.N_slice HO1064.out; subst eo25) | ((with_reducible refine gate_callee (f := 10) rfl ?_); refine goesL_ (some 10) rfl rfl Tryd.func10 (by kernel_rfl) rfl #[.slice Ao25 y1062.length co25] rfl (by (try simp only [List.map_toArray, List.map_cons, List.map_nil]); first | done | rfl | (simp only [zLd, zLt]; rfl)) ?_; (with_reducible refine (w1_Light.calls k _ _ y1062 true _ ?side1 ?side2 A3.out).mono ?_); (case side1 => repeat (first | exact (Kd.N_reads' HO1064.out).2.2 | (with_reducible refine zCa ?_ _) | (with_reducible refine zCn ?_ _) | (with_reducible refine zCd ?_))); (case side2 => exact (Kd.N_reads' HO1064.out).2.1); rintro e w' ⟨rfl, ⟨nd, rfl⟩⟩; refine ⟨_, rfl, ?_⟩))
          (try (rw [drewN_self w23]; generalize hq_ : World.drewN w23 _ = w23; have n0_ : Aside0 (Kd.V (Kd.int .u32) 58 w23 w.heap.size (fun k_ => ((P0_1_ k_ ∨ P1_1_ k_) ∨ w.heap.size ≤ k_) ∧ some k_ ≠ (.slice Ao25 y1062.length co25 : Value).ownBlock ∧ k_ ≠ gb1060 ∧ k_ ≠ gb1061) (.slice A0_1 l0_1.length c0_1) l0_1) := ⟨by rw [← hq_]; exact (by (with_reducible repeat (first | apply zVa | apply zVn | apply zVd)); exact zVm HO0_1.out (fun _ hk => ⟨hk.1.1.1, ⟨hk.2, ⟨hk.1.1.2, hk.1.2⟩⟩⟩))⟩; have n1_ : Aside0 (Kd.N (Kd.slice 58 (Kd.int .u32)) 22 w23 w.heap.size (fun k_ => ((P0_1_ k_ ∨ P1_1_ k_) ∨ w.heap.size ≤ k_) ∧ k_ ≠ gb1060 ∧ k_ ≠ gb1061) (.slice Ao25 y1062.length co25) y1062) := ⟨by rw [← hq_]; exact (by (with_reducible repeat (first | apply Kd.N_alloc | apply Kd.N_drewN | apply Kd.N_drew)); exact HO1064.out)⟩; have n2_ : Aside0 (Kd.V (Kd.int .u32) 58 w23 w.heap.size (fun k_ => ((P0_1_ k_ ∨ P1_1_ k_) ∨ w.heap.size ≤ k_) ∧ some k_ ≠ (.slice Ao25 y1062.length co25 : Value).ownBlock ∧ k_ ≠ gb1060 ∧ k_ ≠ gb1061) (.slice A1_1 l1_1.length c1_1) l1_1) := ⟨by rw [← hq_]; exact (by (with_reducible repeat (first | apply zVa | apply zVn | apply zVd)); exact zVm HO1_1.out (fun _ hk => ⟨hk.1.1.1, ⟨hk.2, ⟨hk.1.1.2, hk.1.2⟩⟩⟩))⟩; have n3_ : Aside0 (w23.heap[gb1060]? = some (.cells #[.bool a0_0, .slice A0_1 l0_1.length c0_1] 24 (0, 0))) := ⟨by rw [← hq_]; exact (by (with_reducible repeat (first | refine blk_drewN ?_ _ | refine blk_drew ?_ | refine blk_alloc ?_ _)); exact BK1060.out)⟩; have n4_ : Aside0 (w23.heap[gb1061]? = some (.cells #[.bool a1_0, .slice A1_1 l1_1.length c1_1] 24 (0, 0))) := ⟨by rw [← hq_]; exact (by (with_reducible repeat (first | refine blk_drewN ?_ _ | refine blk_drew ?_ | refine blk_alloc ?_ _)); exact BK1061.out)⟩; have n5_ : Aside0 (Below w.heap.size w w23) := ⟨by rw [← hq_]; exact (by repeat (first | (with_reducible first | exact HB.out | apply zBa | apply zBn | apply zBd | refine below_set ?_ GE1060.out | refine below_set ?_ GE1061.out) | exact HB.out))⟩; clear HO0_1 HO1064 HO1_1 BK1060 BK1061 HB hq_; have HO0_1 := n0_; have HO1064 := n1_; have HO1_1 := n2_; have BK1060 := n3_; have BK1061 := n4_; have HB := n5_; clear n0_ n1_ n2_ n3_ n4_ n5_))
          have n0_ := zMk (zVd HO0_1.out)
          have n1_ := zMk (zVd HO1_1.out)
          have n2_ := zMk (Kd.N_drew HO1064.out)
          have n3_ := zMk (blk_drew BK1060.out)
          have n4_ := zMk (blk_drew BK1061.out)
          have n5_ := zMk (zBd HB.out)
          clear HO0_1
          clear HO1_1
          clear HO1064
          clear BK1060
          clear BK1061
          clear HB
          have HO0_1 := n0_
          have HO1_1 := n1_
          have HO1064 := n2_
          have BK1060 := n3_
          have BK1061 := n4_
          have HB := n5_
          clear n0_ n1_ n2_ n3_ n4_ n5_
          refine start_ (n := 29) (S := fun w' => w'.cell? ⟨gb1060, 0, none⟩ = some (.bool a0_0) ∧ w'.cell? ⟨gb1060, 1, none⟩ = some (.slice A0_1 l0_1.length c0_1) ∧ w'.cell? ⟨gb1061, 0, none⟩ = some (.bool a1_0) ∧ w'.cell? ⟨gb1061, 1, none⟩ = some (.slice A1_1 l1_1.length c1_1)) (ds := []) #[false, false, false, false, false, false, false, false, false, false, false, false, false, false, false, false, false, false, false, false, false, false, false, false, false, false, false, false, false] (by kernel_rfl) rfl rfl ⟨(blk_cell BK1060.out 0).trans rfl, (blk_cell BK1060.out 1).trans rfl, (blk_cell BK1061.out 0).trans rfl, (blk_cell BK1061.out 1).trans rfl⟩ (fun hHeld => ?_); refine with_tabW filigreelaw02_IntegerSums.tab3 filigreelaw02_IntegerSums.bits3 (fun HT_ HW_ => ?_)
          generalize w23.drew = w26 at HO0_1 HO1_1 HO1064 BK1060 BK1061 HB hHeld ⊢
          refine take_ (i := 0) (N := some 13) (v := ?_) (a' := ?_) #[true, false, false, false, false, false, false, false, false, false, false, false, false, false, false, false, false, false, false, false, false, false, false, false, false, false, false, false, false] rfl rfl (take_ofW HT_.out HW_.out (by kernel_rfl)) (fun _ _ _ h => h) (Or.inl ⟨by rfl, ?_⟩) hHeld ?_ ?_
          rotate_left
          · rintro w' ⟨s0, s1, s2, s3⟩
            go_simp
            with_reducible rfl
          rotate_left
          · simp only [Act.put, zSa, zSb, zSc, i64_w, i32_w]
            rfl
          refine take_ (i := 1) (N := some 14) (v := ?_) (a' := ?_) #[true, true, false, false, false, false, false, false, false, false, false, false, false, false, false, false, false, false, false, false, false, false, false, false, false, false, false, false, false] rfl rfl (take_ofW HT_.out HW_.out (by kernel_rfl)) (fun _ _ _ h => h) (Or.inl ⟨by rfl, ?_⟩) hHeld ?_ ?_
          rotate_left
          · rintro w' ⟨s0, s1, s2, s3⟩
            go_simp
            with_reducible rfl
          rotate_left
          · simp only [Act.put, zSa, zSb, zSc, i64_w, i32_w]
            rfl
          refine take_ (i := 3) (N := some 16) (v := ?_) (a' := ?_) #[true, true, false, true, false, false, false, false, false, false, false, false, false, false, false, false, false, false, false, false, false, false, false, false, false, false, false, false, false] rfl rfl (take_ofW HT_.out HW_.out (by kernel_rfl)) (fun _ _ _ h => h) (Or.inl ⟨by rfl, ?_⟩) hHeld ?_ ?_
          rotate_left
          · rintro w' ⟨s0, s1, s2, s3⟩
            go_simp
            with_reducible rfl
          rotate_left
          · simp only [Act.put, zSa, zSb, zSc, i64_w, i32_w]
            rfl
          refine take_ (i := 4) (N := some 17) (v := ?_) (a' := ?_) #[true, true, false, true, true, false, false, false, false, false, false, false, false, false, false, false, false, false, false, false, false, false, false, false, false, false, false, false, false] rfl rfl (take_ofW HT_.out HW_.out (by kernel_rfl)) (fun _ _ _ h => h) (Or.inl ⟨by rfl, ?_⟩) hHeld ?_ ?_
          rotate_left
          · rintro w' ⟨s0, s1, s2, s3⟩
            go_simp
            with_reducible rfl
          rotate_left
          · simp only [Act.put, zSa, zSb, zSc, i64_w, i32_w]
            rfl
          refine one_ (i := 2) (N := some 15) #[true, true, true, true, true, false, false, false, false, false, false, false, false, false, false, false, false, false, false, false, false, false, false, false, false, false, false, false, false] rfl rfl (one_of HT_.out (by kernel_rfl)) (by decide) (fun K hK => ?_)
          refine goes_ Tryd.func17 (by kernel_rfl) rfl #[.agg #[.bool a0_0, .slice A0_1 l0_1.length c0_1], .agg #[.bool a1_0, .slice A1_1 l1_1.length c1_1]] (by rfl) rfl rfl (by (try simp only [List.map_toArray, List.map_cons, List.map_nil]); first | done | rfl | (simp only [zLd, zLt]; rfl)) ?_
          with_reducible refine (integer_Add.calls k a0_0 _ _ l0_1 a1_0 _ _ l1_1 t1067 t1068 _ ?side1 ?side2 ?side3 ?side4 A5.out).mono ?_
          (case side1 => repeat (first | exact (Kd.V_reads' HO0_1.out).2.2 | (with_reducible refine zCa ?_ _) | (with_reducible refine zCn ?_ _) | (with_reducible refine zCd ?_)))
          (case side2 => exact (Kd.V_reads' HO0_1.out).2.1)
          (case side3 => repeat (first | exact (Kd.V_reads' HO1_1.out).2.2 | (with_reducible refine zCa ?_ _) | (with_reducible refine zCn ?_ _) | (with_reducible refine zCd ?_)))
          (case side4 => exact (Kd.V_reads' HO1_1.out).2.1)
          rintro e w27 ⟨v1069, rfl, ho0, hb⟩
          refine ⟨_, rfl, ?_⟩
          have n0_ := zMk (Kd.V_elder' (by (with_reducible repeat (first | apply zVa | apply zVn | apply zVd)); exact HO0_1.out) (Kd.R_base ho0) hb)
          have n1_ := zMk (Kd.V_elder' (by (with_reducible repeat (first | apply zVa | apply zVn | apply zVd)); exact HO1_1.out) (Kd.R_base ho0) hb)
          have n2_ := zMk (Kd.N_elder' (by (with_reducible repeat (first | apply Kd.N_alloc | apply Kd.N_drewN | apply Kd.N_drew)); exact HO1064.out) (Kd.R_base ho0) hb)
          have n3_ := zMk (Kd.R_lower (Kd.R_newM (M := fun k_ => (w.heap.size ≤ k_)) ho0 (zBs (by repeat (first | (with_reducible first | exact HB.out | apply zBa | apply zBn | apply zBd | refine below_set ?_ GE1060.out | refine below_set ?_ GE1061.out) | exact HB.out))) (fun k_ h_ => h_)) (zBs (by repeat (first | (with_reducible first | exact HB.out | apply zBa | apply zBn | apply zBd | refine below_set ?_ GE1060.out | refine below_set ?_ GE1061.out) | exact HB.out))))
          have n4_ := zMk (blk_below (g := gb1060) (o := .cells #[.bool a0_0, .slice A0_1 l0_1.length c0_1] 24 (0, 0)) (by (with_reducible repeat (first | refine blk_drewN ?_ _ | refine blk_drew ?_ | refine blk_alloc ?_ _)); exact BK1060.out) hb)
          have n5_ := zMk (blk_below (g := gb1061) (o := .cells #[.bool a1_0, .slice A1_1 l1_1.length c1_1] 24 (0, 0)) (by (with_reducible repeat (first | refine blk_drewN ?_ _ | refine blk_drew ?_ | refine blk_alloc ?_ _)); exact BK1061.out) hb)
          have n6_ := zMk (zBt (by repeat (first | (with_reducible first | exact HB.out | apply zBa | apply zBn | apply zBd | refine below_set ?_ GE1060.out | refine below_set ?_ GE1061.out) | exact HB.out)) hb)
          clear HO0_1
          clear HO1_1
          clear HO1064
          clear BK1060
          clear BK1061
          clear HB
          have HO0_1 := n0_
          have HO1_1 := n1_
          have HO1064 := n2_
          have HO1070 := n3_
          have BK1060 := n4_
          have BK1061 := n5_
          have HB := n6_
          clear n0_ n1_ n2_ n3_ n4_ n5_ n6_
          (try clear hb)
          (try clear hb2)
          (try clear hk)
          (try clear hi)
          (try clear ho0)
          refine hK.out _ _ ⟨(blk_cell BK1060.out 0).trans rfl, (blk_cell BK1060.out 1).trans rfl, (blk_cell BK1061.out 0).trans rfl, (blk_cell BK1061.out 1).trans rfl⟩ (fun hHeld => ?_)
          clear hK K
          refine norm_ (a' := ?_) ?_ ?_
          rotate_left
          · show Act.put _ (some 15) _ = _
            simp only [Act.put, zSa, zSb, zSc, i64_w, i32_w]
            rfl
          refine one_ (i := 5) (N := some 18) #[true, true, true, true, true, true, false, false, false, false, false, false, false, false, false, false, false, false, false, false, false, false, false, false, false, false, false, false, false] rfl rfl (one_of HT_.out (by kernel_rfl)) (by decide) (fun K hK => ?_)
          refine goes_ Tryd.func18 (by kernel_rfl) rfl #[.agg #[.bool a0_0, .slice A0_1 l0_1.length c0_1], .agg #[.bool a1_0, .slice A1_1 l1_1.length c1_1]] (by rfl) rfl rfl (by (try simp only [List.map_toArray, List.map_cons, List.map_nil]); first | done | rfl | (simp only [zLd, zLt]; rfl)) ?_
          with_reducible refine (filigreeref02_Add.calls k a0_0 _ _ l0_1 a1_0 _ _ l1_1 t1071 t1072 _ ?side1 ?side2 ?side3 ?side4 A6.out).mono ?_
          (case side1 => repeat (first | exact (Kd.V_reads' HO0_1.out).2.2 | (with_reducible refine zCa ?_ _) | (with_reducible refine zCn ?_ _) | (with_reducible refine zCd ?_)))
          (case side2 => exact (Kd.V_reads' HO0_1.out).2.1)
          (case side3 => repeat (first | exact (Kd.V_reads' HO1_1.out).2.2 | (with_reducible refine zCa ?_ _) | (with_reducible refine zCn ?_ _) | (with_reducible refine zCd ?_)))
          (case side4 => exact (Kd.V_reads' HO1_1.out).2.1)
          rintro e w28 ⟨v1073, rfl, ho0, hb⟩
          refine ⟨_, rfl, ?_⟩
          have n0_ := zMk (Kd.V_elder' (by (with_reducible repeat (first | apply zVa | apply zVn | apply zVd)); exact HO0_1.out) (Kd.R_base ho0) hb)
          have n1_ := zMk (Kd.V_elder' (by (with_reducible repeat (first | apply zVa | apply zVn | apply zVd)); exact HO1_1.out) (Kd.R_base ho0) hb)
          have n2_ := zMk (Kd.N_elder' (by (with_reducible repeat (first | apply Kd.N_alloc | apply Kd.N_drewN | apply Kd.N_drew)); exact HO1064.out) (Kd.R_base ho0) hb)
          have n3_ := zMk (Kd.R_elder' (by (with_reducible repeat (first | apply zRa | apply zRn | apply zRd)); exact HO1070.out) (Kd.R_base ho0) hb)
          have n4_ := zMk (Kd.R_lower (Kd.R_new' (Kd.R_newM (M := fun k_ => (w.heap.size ≤ k_)) ho0 (zBs (by repeat (first | (with_reducible first | exact HB.out | apply zBa | apply zBn | apply zBd | refine below_set ?_ GE1060.out | refine below_set ?_ GE1061.out) | exact HB.out))) (fun k_ h_ => h_)) (Kd.R_lt (by (with_reducible repeat (first | apply zRa | apply zRn | apply zRd)); exact HO1070.out))) (zBs (by repeat (first | (with_reducible first | exact HB.out | apply zBa | apply zBn | apply zBd | refine below_set ?_ GE1060.out | refine below_set ?_ GE1061.out) | exact HB.out))))
          have n5_ := zMk (blk_below (g := gb1060) (o := .cells #[.bool a0_0, .slice A0_1 l0_1.length c0_1] 24 (0, 0)) (by (with_reducible repeat (first | refine blk_drewN ?_ _ | refine blk_drew ?_ | refine blk_alloc ?_ _)); exact BK1060.out) hb)
          have n6_ := zMk (blk_below (g := gb1061) (o := .cells #[.bool a1_0, .slice A1_1 l1_1.length c1_1] 24 (0, 0)) (by (with_reducible repeat (first | refine blk_drewN ?_ _ | refine blk_drew ?_ | refine blk_alloc ?_ _)); exact BK1061.out) hb)
          have n7_ := zMk (zBt (by repeat (first | (with_reducible first | exact HB.out | apply zBa | apply zBn | apply zBd | refine below_set ?_ GE1060.out | refine below_set ?_ GE1061.out) | exact HB.out)) hb)
          clear HO0_1
          clear HO1_1
          clear HO1064
          clear HO1070
          clear BK1060
          clear BK1061
          clear HB
          have HO0_1 := n0_
          have HO1_1 := n1_
          have HO1064 := n2_
          have HO1070 := n3_
          have HO1074 := n4_
          have BK1060 := n5_
          have BK1061 := n6_
          have HB := n7_
          clear n0_ n1_ n2_ n3_ n4_ n5_ n6_ n7_
          (try clear hb)
          (try clear hb2)
          (try clear hk)
          (try clear hi)
          (try clear ho0)
          obtain ⟨Ao29, co29, eo29⟩ := Kd.R_slice HO1070.out
          (first | subst eo29 | (injection eo29 with f1_ f2_ f3_; have f4_ := f1_.symm; have f5_ := f3_.symm; clear f1_ f2_ f3_; subst f4_; subst f5_))
          obtain ⟨Ao30, co30, eo30⟩ := Kd.R_slice HO1074.out
          (first | subst eo30 | (injection eo30 with f1_ f2_ f3_; have f4_ := f1_.symm; have f5_ := f3_.symm; clear f1_ f2_ f3_; subst f4_; subst f5_))
          refine hK.out _ _ ⟨(blk_cell BK1060.out 0).trans rfl, (blk_cell BK1060.out 1).trans rfl, (blk_cell BK1061.out 0).trans rfl, (blk_cell BK1061.out 1).trans rfl⟩ (fun hHeld => ?_)
          clear hK K
          refine norm_ (a' := ?_) ?_ ?_
          rotate_left
          · show Act.put _ (some 18) _ = _
            simp only [Act.put, zSa, zSb, zSc, i64_w, i32_w]
            rfl
          refine one_ (i := 6) (N := some 19) #[true, true, true, true, true, true, true, false, false, false, false, false, false, false, false, false, false, false, false, false, false, false, false, false, false, false, false, false, false] rfl rfl (one_of HT_.out (by kernel_rfl)) (by decide) (fun K hK => ?_)
          refine goes_ Tryd.func16 (by kernel_rfl) rfl #[.agg #[.bool t1067, .slice Ao29 t1068.length co29], .agg #[.bool t1071, .slice Ao30 t1072.length co30]] (by rfl) rfl rfl (by (try simp only [List.map_toArray, List.map_cons, List.map_nil]); first | done | rfl | (simp only [zLd, zLt]; rfl)) ?_
          with_reducible refine (filigreeref02_Same.calls k t1067 _ _ t1068 t1071 _ _ t1072 true _ ?side1 ?side2 ?side3 ?side4 A7.out).mono ?_
          (case side1 => repeat (first | exact (Kd.R_reads' HO1070.out).2.2 | (with_reducible refine zCa ?_ _) | (with_reducible refine zCn ?_ _) | (with_reducible refine zCd ?_)))
          (case side2 => exact (Kd.R_reads' HO1070.out).2.1)
          (case side3 => repeat (first | exact (Kd.R_reads' HO1074.out).2.2 | (with_reducible refine zCa ?_ _) | (with_reducible refine zCn ?_ _) | (with_reducible refine zCd ?_)))
          (case side4 => exact (Kd.R_reads' HO1074.out).2.1)
          rintro e w31 ⟨rfl, hb⟩
          refine ⟨_, rfl, ?_⟩
          have n0_ := zMk (zVb (by (with_reducible repeat (first | apply zVa | apply zVn | apply zVd)); exact HO0_1.out) hb)
          have n1_ := zMk (zVb (by (with_reducible repeat (first | apply zVa | apply zVn | apply zVd)); exact HO1_1.out) hb)
          have n2_ := zMk (Kd.N_below (by (with_reducible repeat (first | apply Kd.N_alloc | apply Kd.N_drewN | apply Kd.N_drew)); exact HO1064.out) hb)
          have n3_ := zMk (Kd.R_below (by (with_reducible repeat (first | apply zRa | apply zRn | apply zRd)); exact HO1070.out) hb)
          have n4_ := zMk (Kd.R_below (by (with_reducible repeat (first | apply zRa | apply zRn | apply zRd)); exact HO1074.out) hb)
          have n5_ := zMk (blk_below (g := gb1060) (o := .cells #[.bool a0_0, .slice A0_1 l0_1.length c0_1] 24 (0, 0)) (by (with_reducible repeat (first | refine blk_drewN ?_ _ | refine blk_drew ?_ | refine blk_alloc ?_ _)); exact BK1060.out) hb)
          have n6_ := zMk (blk_below (g := gb1061) (o := .cells #[.bool a1_0, .slice A1_1 l1_1.length c1_1] 24 (0, 0)) (by (with_reducible repeat (first | refine blk_drewN ?_ _ | refine blk_drew ?_ | refine blk_alloc ?_ _)); exact BK1061.out) hb)
          have n7_ := zMk (zBt (by repeat (first | (with_reducible first | exact HB.out | apply zBa | apply zBn | apply zBd | refine below_set ?_ GE1060.out | refine below_set ?_ GE1061.out) | exact HB.out)) hb)
          clear HO0_1
          clear HO1_1
          clear HO1064
          clear HO1070
          clear HO1074
          clear BK1060
          clear BK1061
          clear HB
          have HO0_1 := n0_
          have HO1_1 := n1_
          have HO1064 := n2_
          have HO1070 := n3_
          have HO1074 := n4_
          have BK1060 := n5_
          have BK1061 := n6_
          have HB := n7_
          clear n0_ n1_ n2_ n3_ n4_ n5_ n6_ n7_
          (try clear hb)
          (try clear hb2)
          (try clear hk)
          (try clear hi)
          refine hK.out _ _ ⟨(blk_cell BK1060.out 0).trans rfl, (blk_cell BK1060.out 1).trans rfl, (blk_cell BK1061.out 0).trans rfl, (blk_cell BK1061.out 1).trans rfl⟩ (fun hHeld => ?_)
          clear hK K
          refine norm_ (a' := ?_) ?_ ?_
          rotate_left
          · show Act.put _ (some 19) _ = _
            simp only [Act.put, zSa, zSb, zSc, i64_w, i32_w]
            rfl
          refine pure_ (i := 7) (N := some 20) (v := ?_) (a' := ?_) #[true, true, true, true, true, true, true, true, false, false, false, false, false, false, false, false, false, false, false, false, false, false, false, false, false, false, false, false, false] rfl rfl (any_of HT_.out (by kernel_rfl)) (fun _ _ _ h => h) (Or.inl ⟨by rfl, ?_⟩) ?_ ?_
          rotate_left
          · intro w'
            go_simp
            with_reducible rfl
          rotate_left
          · simp only [Act.put, zSa, zSb, zSc, i64_w, i32_w]
            rfl
          refine take_ (i := 8) (N := some 21) (v := ?_) (a' := ?_) #[true, true, true, true, true, true, true, true, true, false, false, false, false, false, false, false, false, false, false, false, false, false, false, false, false, false, false, false, false] rfl rfl (take_ofW HT_.out HW_.out (by kernel_rfl)) (fun _ _ _ h => h) (Or.inl ⟨by rfl, ?_⟩) hHeld ?_ ?_
          rotate_left
          · rintro w' ⟨s0, s1, s2, s3⟩
            go_simp
            with_reducible rfl
          rotate_left
          · simp only [Act.put, zSa, zSb, zSc, i64_w, i32_w]
            rfl
          refine take_ (i := 9) (N := some 22) (v := ?_) (a' := ?_) #[true, true, true, true, true, true, true, true, true, true, false, false, false, false, false, false, false, false, false, false, false, false, false, false, false, false, false, false, false] rfl rfl (take_ofW HT_.out HW_.out (by kernel_rfl)) (fun _ _ _ h => h) (Or.inl ⟨by rfl, ?_⟩) hHeld ?_ ?_
          rotate_left
          · rintro w' ⟨s0, s1, s2, s3⟩
            go_simp
            with_reducible rfl
          rotate_left
          · simp only [Act.put, zSa, zSb, zSc, i64_w, i32_w]
            rfl
          refine take_ (i := 11) (N := some 24) (v := ?_) (a' := ?_) #[true, true, true, true, true, true, true, true, true, true, false, true, false, false, false, false, false, false, false, false, false, false, false, false, false, false, false, false, false] rfl rfl (take_ofW HT_.out HW_.out (by kernel_rfl)) (fun _ _ _ h => h) (Or.inl ⟨by rfl, ?_⟩) hHeld ?_ ?_
          rotate_left
          · rintro w' ⟨s0, s1, s2, s3⟩
            go_simp
            with_reducible rfl
          rotate_left
          · simp only [Act.put, zSa, zSb, zSc, i64_w, i32_w]
            rfl
          refine take_ (i := 12) (N := some 25) (v := ?_) (a' := ?_) #[true, true, true, true, true, true, true, true, true, true, false, true, true, false, false, false, false, false, false, false, false, false, false, false, false, false, false, false, false] rfl rfl (take_ofW HT_.out HW_.out (by kernel_rfl)) (fun _ _ _ h => h) (Or.inl ⟨by rfl, ?_⟩) hHeld ?_ ?_
          rotate_left
          · rintro w' ⟨s0, s1, s2, s3⟩
            go_simp
            with_reducible rfl
          rotate_left
          · simp only [Act.put, zSa, zSb, zSc, i64_w, i32_w]
            rfl
          refine one_ (i := 10) (N := some 23) #[true, true, true, true, true, true, true, true, true, true, true, true, true, false, false, false, false, false, false, false, false, false, false, false, false, false, false, false, false] rfl rfl (one_of HT_.out (by kernel_rfl)) (by decide) (fun K hK => ?_)
          refine goes_ Tryd.func19 (by kernel_rfl) rfl #[.agg #[.bool a0_0, .slice A0_1 l0_1.length c0_1], .agg #[.bool a1_0, .slice A1_1 l1_1.length c1_1]] (by rfl) rfl rfl (by (try simp only [List.map_toArray, List.map_cons, List.map_nil]); first | done | rfl | (simp only [zLd, zLt]; rfl)) ?_
          with_reducible refine (integer_Sub.calls k a0_0 _ _ l0_1 a1_0 _ _ l1_1 t1076 t1077 _ ?side1 ?side2 ?side3 ?side4 A9.out).mono ?_
          (case side1 => repeat (first | exact (Kd.V_reads' HO0_1.out).2.2 | (with_reducible refine zCa ?_ _) | (with_reducible refine zCn ?_ _) | (with_reducible refine zCd ?_)))
          (case side2 => exact (Kd.V_reads' HO0_1.out).2.1)
          (case side3 => repeat (first | exact (Kd.V_reads' HO1_1.out).2.2 | (with_reducible refine zCa ?_ _) | (with_reducible refine zCn ?_ _) | (with_reducible refine zCd ?_)))
          (case side4 => exact (Kd.V_reads' HO1_1.out).2.1)
          rintro e w32 ⟨v1078, rfl, ho0, hb⟩
          refine ⟨_, rfl, ?_⟩
          have n0_ := zMk (Kd.V_elder' (by (with_reducible repeat (first | apply zVa | apply zVn | apply zVd)); exact HO0_1.out) (Kd.R_base ho0) hb)
          have n1_ := zMk (Kd.V_elder' (by (with_reducible repeat (first | apply zVa | apply zVn | apply zVd)); exact HO1_1.out) (Kd.R_base ho0) hb)
          have n2_ := zMk (Kd.N_elder' (by (with_reducible repeat (first | apply Kd.N_alloc | apply Kd.N_drewN | apply Kd.N_drew)); exact HO1064.out) (Kd.R_base ho0) hb)
          have n3_ := zMk (Kd.R_elder' (by (with_reducible repeat (first | apply zRa | apply zRn | apply zRd)); exact HO1070.out) (Kd.R_base ho0) hb)
          have n4_ := zMk (Kd.R_elder' (by (with_reducible repeat (first | apply zRa | apply zRn | apply zRd)); exact HO1074.out) (Kd.R_base ho0) hb)
          have n5_ := zMk (Kd.R_lower (Kd.R_new' (Kd.R_new' (Kd.R_newM (M := fun k_ => (w.heap.size ≤ k_)) ho0 (zBs (by repeat (first | (with_reducible first | exact HB.out | apply zBa | apply zBn | apply zBd | refine below_set ?_ GE1060.out | refine below_set ?_ GE1061.out) | exact HB.out))) (fun k_ h_ => h_)) (Kd.R_lt (by (with_reducible repeat (first | apply zRa | apply zRn | apply zRd)); exact HO1070.out))) (Kd.R_lt (by (with_reducible repeat (first | apply zRa | apply zRn | apply zRd)); exact HO1074.out))) (zBs (by repeat (first | (with_reducible first | exact HB.out | apply zBa | apply zBn | apply zBd | refine below_set ?_ GE1060.out | refine below_set ?_ GE1061.out) | exact HB.out))))
          have n6_ := zMk (blk_below (g := gb1060) (o := .cells #[.bool a0_0, .slice A0_1 l0_1.length c0_1] 24 (0, 0)) (by (with_reducible repeat (first | refine blk_drewN ?_ _ | refine blk_drew ?_ | refine blk_alloc ?_ _)); exact BK1060.out) hb)
          have n7_ := zMk (blk_below (g := gb1061) (o := .cells #[.bool a1_0, .slice A1_1 l1_1.length c1_1] 24 (0, 0)) (by (with_reducible repeat (first | refine blk_drewN ?_ _ | refine blk_drew ?_ | refine blk_alloc ?_ _)); exact BK1061.out) hb)
          have n8_ := zMk (zBt (by repeat (first | (with_reducible first | exact HB.out | apply zBa | apply zBn | apply zBd | refine below_set ?_ GE1060.out | refine below_set ?_ GE1061.out) | exact HB.out)) hb)
          clear HO0_1
          clear HO1_1
          clear HO1064
          clear HO1070
          clear HO1074
          clear BK1060
          clear BK1061
          clear HB
          have HO0_1 := n0_
          have HO1_1 := n1_
          have HO1064 := n2_
          have HO1070 := n3_
          have HO1074 := n4_
          have HO1079 := n5_
          have BK1060 := n6_
          have BK1061 := n7_
          have HB := n8_
          clear n0_ n1_ n2_ n3_ n4_ n5_ n6_ n7_ n8_
          (try clear hb)
          (try clear hb2)
          (try clear hk)
          (try clear hi)
          (try clear ho0)
          refine hK.out _ _ ⟨(blk_cell BK1060.out 0).trans rfl, (blk_cell BK1060.out 1).trans rfl, (blk_cell BK1061.out 0).trans rfl, (blk_cell BK1061.out 1).trans rfl⟩ (fun hHeld => ?_)
          clear hK K
          refine norm_ (a' := ?_) ?_ ?_
          rotate_left
          · show Act.put _ (some 23) _ = _
            simp only [Act.put, zSa, zSb, zSc, i64_w, i32_w]
            rfl
          refine one_ (i := 13) (N := some 26) #[true, true, true, true, true, true, true, true, true, true, true, true, true, true, false, false, false, false, false, false, false, false, false, false, false, false, false, false, false] rfl rfl (one_of HT_.out (by kernel_rfl)) (by decide) (fun K hK => ?_)
          refine goes_ Tryd.func20 (by kernel_rfl) rfl #[.agg #[.bool a0_0, .slice A0_1 l0_1.length c0_1], .agg #[.bool a1_0, .slice A1_1 l1_1.length c1_1]] (by rfl) rfl rfl (by (try simp only [List.map_toArray, List.map_cons, List.map_nil]); first | done | rfl | (simp only [zLd, zLt]; rfl)) ?_
          with_reducible refine (filigreeref02_Sub.calls k a0_0 _ _ l0_1 a1_0 _ _ l1_1 t1080 t1081 _ ?side1 ?side2 ?side3 ?side4 A10.out).mono ?_
          (case side1 => repeat (first | exact (Kd.V_reads' HO0_1.out).2.2 | (with_reducible refine zCa ?_ _) | (with_reducible refine zCn ?_ _) | (with_reducible refine zCd ?_)))
          (case side2 => exact (Kd.V_reads' HO0_1.out).2.1)
          (case side3 => repeat (first | exact (Kd.V_reads' HO1_1.out).2.2 | (with_reducible refine zCa ?_ _) | (with_reducible refine zCn ?_ _) | (with_reducible refine zCd ?_)))
          (case side4 => exact (Kd.V_reads' HO1_1.out).2.1)
          rintro e w33 ⟨v1082, rfl, ho0, hb⟩
          refine ⟨_, rfl, ?_⟩
          have n0_ := zMk (Kd.V_elder' (by (with_reducible repeat (first | apply zVa | apply zVn | apply zVd)); exact HO0_1.out) (Kd.R_base ho0) hb)
          have n1_ := zMk (Kd.V_elder' (by (with_reducible repeat (first | apply zVa | apply zVn | apply zVd)); exact HO1_1.out) (Kd.R_base ho0) hb)
          have n2_ := zMk (Kd.N_elder' (by (with_reducible repeat (first | apply Kd.N_alloc | apply Kd.N_drewN | apply Kd.N_drew)); exact HO1064.out) (Kd.R_base ho0) hb)
          have n3_ := zMk (Kd.R_elder' (by (with_reducible repeat (first | apply zRa | apply zRn | apply zRd)); exact HO1070.out) (Kd.R_base ho0) hb)
          have n4_ := zMk (Kd.R_elder' (by (with_reducible repeat (first | apply zRa | apply zRn | apply zRd)); exact HO1074.out) (Kd.R_base ho0) hb)
          have n5_ := zMk (Kd.R_elder' (by (with_reducible repeat (first | apply zRa | apply zRn | apply zRd)); exact HO1079.out) (Kd.R_base ho0) hb)
          have n6_ := zMk (Kd.R_lower (Kd.R_new' (Kd.R_new' (Kd.R_new' (Kd.R_newM (M := fun k_ => (w.heap.size ≤ k_)) ho0 (zBs (by repeat (first | (with_reducible first | exact HB.out | apply zBa | apply zBn | apply zBd | refine below_set ?_ GE1060.out | refine below_set ?_ GE1061.out) | exact HB.out))) (fun k_ h_ => h_)) (Kd.R_lt (by (with_reducible repeat (first | apply zRa | apply zRn | apply zRd)); exact HO1070.out))) (Kd.R_lt (by (with_reducible repeat (first | apply zRa | apply zRn | apply zRd)); exact HO1074.out))) (Kd.R_lt (by (with_reducible repeat (first | apply zRa | apply zRn | apply zRd)); exact HO1079.out))) (zBs (by repeat (first | (with_reducible first | exact HB.out | apply zBa | apply zBn | apply zBd | refine below_set ?_ GE1060.out | refine below_set ?_ GE1061.out) | exact HB.out))))
          have n7_ := zMk (blk_below (g := gb1060) (o := .cells #[.bool a0_0, .slice A0_1 l0_1.length c0_1] 24 (0, 0)) (by (with_reducible repeat (first | refine blk_drewN ?_ _ | refine blk_drew ?_ | refine blk_alloc ?_ _)); exact BK1060.out) hb)
          have n8_ := zMk (blk_below (g := gb1061) (o := .cells #[.bool a1_0, .slice A1_1 l1_1.length c1_1] 24 (0, 0)) (by (with_reducible repeat (first | refine blk_drewN ?_ _ | refine blk_drew ?_ | refine blk_alloc ?_ _)); exact BK1061.out) hb)
          have n9_ := zMk (zBt (by repeat (first | (with_reducible first | exact HB.out | apply zBa | apply zBn | apply zBd | refine below_set ?_ GE1060.out | refine below_set ?_ GE1061.out) | exact HB.out)) hb)
          clear HO0_1
          clear HO1_1
          clear HO1064
          clear HO1070
          clear HO1074
          clear HO1079
          clear BK1060
          clear BK1061
          clear HB
          have HO0_1 := n0_
          have HO1_1 := n1_
          have HO1064 := n2_
          have HO1070 := n3_
          have HO1074 := n4_
          have HO1079 := n5_
          have HO1083 := n6_
          have BK1060 := n7_
          have BK1061 := n8_
          have HB := n9_
          clear n0_ n1_ n2_ n3_ n4_ n5_ n6_ n7_ n8_ n9_
          (try clear hb)
          (try clear hb2)
          (try clear hk)
          (try clear hi)
          (try clear ho0)
          obtain ⟨Ao34, co34, eo34⟩ := Kd.R_slice HO1079.out
          (first | subst eo34 | (injection eo34 with f1_ f2_ f3_; have f4_ := f1_.symm; have f5_ := f3_.symm; clear f1_ f2_ f3_; subst f4_; subst f5_))
          obtain ⟨Ao35, co35, eo35⟩ := Kd.R_slice HO1083.out
          (first | subst eo35 | (injection eo35 with f1_ f2_ f3_; have f4_ := f1_.symm; have f5_ := f3_.symm; clear f1_ f2_ f3_; subst f4_; subst f5_))
          refine hK.out _ _ ⟨(blk_cell BK1060.out 0).trans rfl, (blk_cell BK1060.out 1).trans rfl, (blk_cell BK1061.out 0).trans rfl, (blk_cell BK1061.out 1).trans rfl⟩ (fun hHeld => ?_)
          clear hK K
          refine norm_ (a' := ?_) ?_ ?_
          rotate_left
          · show Act.put _ (some 26) _ = _
            simp only [Act.put, zSa, zSb, zSc, i64_w, i32_w]
            rfl
          refine one_ (i := 14) (N := some 27) #[true, true, true, true, true, true, true, true, true, true, true, true, true, true, true, false, false, false, false, false, false, false, false, false, false, false, false, false, false] rfl rfl (one_of HT_.out (by kernel_rfl)) (by decide) (fun K hK => ?_)
          refine goes_ Tryd.func16 (by kernel_rfl) rfl #[.agg #[.bool t1076, .slice Ao34 t1077.length co34], .agg #[.bool t1080, .slice Ao35 t1081.length co35]] (by rfl) rfl rfl (by (try simp only [List.map_toArray, List.map_cons, List.map_nil]); first | done | rfl | (simp only [zLd, zLt]; rfl)) ?_
          with_reducible refine (filigreeref02_Same.calls k t1076 _ _ t1077 t1080 _ _ t1081 true _ ?side1 ?side2 ?side3 ?side4 A11.out).mono ?_
          (case side1 => repeat (first | exact (Kd.R_reads' HO1079.out).2.2 | (with_reducible refine zCa ?_ _) | (with_reducible refine zCn ?_ _) | (with_reducible refine zCd ?_)))
          (case side2 => exact (Kd.R_reads' HO1079.out).2.1)
          (case side3 => repeat (first | exact (Kd.R_reads' HO1083.out).2.2 | (with_reducible refine zCa ?_ _) | (with_reducible refine zCn ?_ _) | (with_reducible refine zCd ?_)))
          (case side4 => exact (Kd.R_reads' HO1083.out).2.1)
          rintro e w36 ⟨rfl, hb⟩
          refine ⟨_, rfl, ?_⟩
          have n0_ := zMk (zVb (by (with_reducible repeat (first | apply zVa | apply zVn | apply zVd)); exact HO0_1.out) hb)
          have n1_ := zMk (zVb (by (with_reducible repeat (first | apply zVa | apply zVn | apply zVd)); exact HO1_1.out) hb)
          have n2_ := zMk (Kd.N_below (by (with_reducible repeat (first | apply Kd.N_alloc | apply Kd.N_drewN | apply Kd.N_drew)); exact HO1064.out) hb)
          have n3_ := zMk (Kd.R_below (by (with_reducible repeat (first | apply zRa | apply zRn | apply zRd)); exact HO1070.out) hb)
          have n4_ := zMk (Kd.R_below (by (with_reducible repeat (first | apply zRa | apply zRn | apply zRd)); exact HO1074.out) hb)
          have n5_ := zMk (Kd.R_below (by (with_reducible repeat (first | apply zRa | apply zRn | apply zRd)); exact HO1079.out) hb)
          have n6_ := zMk (Kd.R_below (by (with_reducible repeat (first | apply zRa | apply zRn | apply zRd)); exact HO1083.out) hb)
          have n7_ := zMk (blk_below (g := gb1060) (o := .cells #[.bool a0_0, .slice A0_1 l0_1.length c0_1] 24 (0, 0)) (by (with_reducible repeat (first | refine blk_drewN ?_ _ | refine blk_drew ?_ | refine blk_alloc ?_ _)); exact BK1060.out) hb)
          have n8_ := zMk (blk_below (g := gb1061) (o := .cells #[.bool a1_0, .slice A1_1 l1_1.length c1_1] 24 (0, 0)) (by (with_reducible repeat (first | refine blk_drewN ?_ _ | refine blk_drew ?_ | refine blk_alloc ?_ _)); exact BK1061.out) hb)
          have n9_ := zMk (zBt (by repeat (first | (with_reducible first | exact HB.out | apply zBa | apply zBn | apply zBd | refine below_set ?_ GE1060.out | refine below_set ?_ GE1061.out) | exact HB.out)) hb)
          clear HO0_1
          clear HO1_1
          clear HO1064
          clear HO1070
          clear HO1074
          clear HO1079
          clear HO1083
          clear BK1060
          clear BK1061
          clear HB
          have HO0_1 := n0_
          have HO1_1 := n1_
          have HO1064 := n2_
          have HO1070 := n3_
          have HO1074 := n4_
          have HO1079 := n5_
          have HO1083 := n6_
          have BK1060 := n7_
          have BK1061 := n8_
          have HB := n9_
          clear n0_ n1_ n2_ n3_ n4_ n5_ n6_ n7_ n8_ n9_
          (try clear hb)
          (try clear hb2)
          (try clear hk)
          (try clear hi)
          refine hK.out _ _ ⟨(blk_cell BK1060.out 0).trans rfl, (blk_cell BK1060.out 1).trans rfl, (blk_cell BK1061.out 0).trans rfl, (blk_cell BK1061.out 1).trans rfl⟩ (fun hHeld => ?_)
          clear hK K
          refine norm_ (a' := ?_) ?_ ?_
          rotate_left
          · show Act.put _ (some 27) _ = _
            simp only [Act.put, zSa, zSb, zSc, i64_w, i32_w]
            rfl
          refine pure_ (i := 15) (N := some 28) (v := ?_) (a' := ?_) #[true, true, true, true, true, true, true, true, true, true, true, true, true, true, true, true, false, false, false, false, false, false, false, false, false, false, false, false, false] rfl rfl (any_of HT_.out (by kernel_rfl)) (fun _ _ _ h => h) (Or.inl ⟨by rfl, ?_⟩) ?_ ?_
          rotate_left
          · intro w'
            go_simp
            with_reducible rfl
          rotate_left
          · simp only [Act.put, zSa, zSb, zSc, i64_w, i32_w]
            rfl
          refine pure_ (i := 16) (N := some 29) (v := ?_) (a' := ?_) #[true, true, true, true, true, true, true, true, true, true, true, true, true, true, true, true, true, false, false, false, false, false, false, false, false, false, false, false, false] rfl rfl (any_of HT_.out (by kernel_rfl)) (fun _ _ _ h => h) (Or.inl ⟨by rfl, ?_⟩) ?_ ?_
          rotate_left
          · intro w'
            go_simp
            with_reducible rfl
          rotate_left
          · simp only [Act.put, zSa, zSb, zSc, i64_w, i32_w]
            rfl
          refine take_ (i := 17) (N := some 30) (v := ?_) (a' := ?_) #[true, true, true, true, true, true, true, true, true, true, true, true, true, true, true, true, true, true, false, false, false, false, false, false, false, false, false, false, false] rfl rfl (take_ofW HT_.out HW_.out (by kernel_rfl)) (fun _ _ _ h => h) (Or.inl ⟨by rfl, ?_⟩) hHeld ?_ ?_
          rotate_left
          · rintro w' ⟨s0, s1, s2, s3⟩
            go_simp
            with_reducible rfl
          rotate_left
          · simp only [Act.put, zSa, zSb, zSc, i64_w, i32_w]
            rfl
          refine take_ (i := 18) (N := some 31) (v := ?_) (a' := ?_) #[true, true, true, true, true, true, true, true, true, true, true, true, true, true, true, true, true, true, true, false, false, false, false, false, false, false, false, false, false] rfl rfl (take_ofW HT_.out HW_.out (by kernel_rfl)) (fun _ _ _ h => h) (Or.inl ⟨by rfl, ?_⟩) hHeld ?_ ?_
          rotate_left
          · rintro w' ⟨s0, s1, s2, s3⟩
            go_simp
            with_reducible rfl
          rotate_left
          · simp only [Act.put, zSa, zSb, zSc, i64_w, i32_w]
            rfl
          refine take_ (i := 20) (N := some 33) (v := ?_) (a' := ?_) #[true, true, true, true, true, true, true, true, true, true, true, true, true, true, true, true, true, true, true, false, true, false, false, false, false, false, false, false, false] rfl rfl (take_ofW HT_.out HW_.out (by kernel_rfl)) (fun _ _ _ h => h) (Or.inl ⟨by rfl, ?_⟩) hHeld ?_ ?_
          rotate_left
          · rintro w' ⟨s0, s1, s2, s3⟩
            go_simp
            with_reducible rfl
          rotate_left
          · simp only [Act.put, zSa, zSb, zSc, i64_w, i32_w]
            rfl
          refine take_ (i := 21) (N := some 34) (v := ?_) (a' := ?_) #[true, true, true, true, true, true, true, true, true, true, true, true, true, true, true, true, true, true, true, false, true, true, false, false, false, false, false, false, false] rfl rfl (take_ofW HT_.out HW_.out (by kernel_rfl)) (fun _ _ _ h => h) (Or.inl ⟨by rfl, ?_⟩) hHeld ?_ ?_
          rotate_left
          · rintro w' ⟨s0, s1, s2, s3⟩
            go_simp
            with_reducible rfl
          rotate_left
          · simp only [Act.put, zSa, zSb, zSc, i64_w, i32_w]
            rfl
          refine one_ (i := 19) (N := some 32) #[true, true, true, true, true, true, true, true, true, true, true, true, true, true, true, true, true, true, true, true, true, true, false, false, false, false, false, false, false] rfl rfl (one_of HT_.out (by kernel_rfl)) (by decide) (fun K hK => ?_)
          refine goes_ Tryd.func21 (by kernel_rfl) rfl #[.agg #[.bool a0_0, .slice A0_1 l0_1.length c0_1], .agg #[.bool a1_0, .slice A1_1 l1_1.length c1_1]] (by rfl) rfl rfl (by (try simp only [List.map_toArray, List.map_cons, List.map_nil]); first | done | rfl | (simp only [zLd, zLt]; rfl)) ?_
          with_reducible refine (integer_Mul.calls k a0_0 _ _ l0_1 a1_0 _ _ l1_1 t1085 t1086 _ ?side1 ?side2 ?side3 ?side4 A13.out).mono ?_
          (case side1 => repeat (first | exact (Kd.V_reads' HO0_1.out).2.2 | (with_reducible refine zCa ?_ _) | (with_reducible refine zCn ?_ _) | (with_reducible refine zCd ?_)))
          (case side2 => exact (Kd.V_reads' HO0_1.out).2.1)
          (case side3 => repeat (first | exact (Kd.V_reads' HO1_1.out).2.2 | (with_reducible refine zCa ?_ _) | (with_reducible refine zCn ?_ _) | (with_reducible refine zCd ?_)))
          (case side4 => exact (Kd.V_reads' HO1_1.out).2.1)
          rintro e w37 ⟨v1087, rfl, ho0, hb⟩
          refine ⟨_, rfl, ?_⟩
          have n0_ := zMk (Kd.V_elder' (by (with_reducible repeat (first | apply zVa | apply zVn | apply zVd)); exact HO0_1.out) (Kd.R_base ho0) hb)
          have n1_ := zMk (Kd.V_elder' (by (with_reducible repeat (first | apply zVa | apply zVn | apply zVd)); exact HO1_1.out) (Kd.R_base ho0) hb)
          have n2_ := zMk (Kd.N_elder' (by (with_reducible repeat (first | apply Kd.N_alloc | apply Kd.N_drewN | apply Kd.N_drew)); exact HO1064.out) (Kd.R_base ho0) hb)
          have n3_ := zMk (Kd.R_elder' (by (with_reducible repeat (first | apply zRa | apply zRn | apply zRd)); exact HO1070.out) (Kd.R_base ho0) hb)
          have n4_ := zMk (Kd.R_elder' (by (with_reducible repeat (first | apply zRa | apply zRn | apply zRd)); exact HO1074.out) (Kd.R_base ho0) hb)
          have n5_ := zMk (Kd.R_elder' (by (with_reducible repeat (first | apply zRa | apply zRn | apply zRd)); exact HO1079.out) (Kd.R_base ho0) hb)
          have n6_ := zMk (Kd.R_elder' (by (with_reducible repeat (first | apply zRa | apply zRn | apply zRd)); exact HO1083.out) (Kd.R_base ho0) hb)
          have n7_ := zMk (Kd.R_lower (Kd.R_new' (Kd.R_new' (Kd.R_new' (Kd.R_new' (Kd.R_newM (M := fun k_ => (w.heap.size ≤ k_)) ho0 (zBs (by repeat (first | (with_reducible first | exact HB.out | apply zBa | apply zBn | apply zBd | refine below_set ?_ GE1060.out | refine below_set ?_ GE1061.out) | exact HB.out))) (fun k_ h_ => h_)) (Kd.R_lt (by (with_reducible repeat (first | apply zRa | apply zRn | apply zRd)); exact HO1070.out))) (Kd.R_lt (by (with_reducible repeat (first | apply zRa | apply zRn | apply zRd)); exact HO1074.out))) (Kd.R_lt (by (with_reducible repeat (first | apply zRa | apply zRn | apply zRd)); exact HO1079.out))) (Kd.R_lt (by (with_reducible repeat (first | apply zRa | apply zRn | apply zRd)); exact HO1083.out))) (zBs (by repeat (first | (with_reducible first | exact HB.out | apply zBa | apply zBn | apply zBd | refine below_set ?_ GE1060.out | refine below_set ?_ GE1061.out) | exact HB.out))))
          have n8_ := zMk (blk_below (g := gb1060) (o := .cells #[.bool a0_0, .slice A0_1 l0_1.length c0_1] 24 (0, 0)) (by (with_reducible repeat (first | refine blk_drewN ?_ _ | refine blk_drew ?_ | refine blk_alloc ?_ _)); exact BK1060.out) hb)
          have n9_ := zMk (blk_below (g := gb1061) (o := .cells #[.bool a1_0, .slice A1_1 l1_1.length c1_1] 24 (0, 0)) (by (with_reducible repeat (first | refine blk_drewN ?_ _ | refine blk_drew ?_ | refine blk_alloc ?_ _)); exact BK1061.out) hb)
          have n10_ := zMk (zBt (by repeat (first | (with_reducible first | exact HB.out | apply zBa | apply zBn | apply zBd | refine below_set ?_ GE1060.out | refine below_set ?_ GE1061.out) | exact HB.out)) hb)
          clear HO0_1
          clear HO1_1
          clear HO1064
          clear HO1070
          clear HO1074
          clear HO1079
          clear HO1083
          clear BK1060
          clear BK1061
          clear HB
          have HO0_1 := n0_
          have HO1_1 := n1_
          have HO1064 := n2_
          have HO1070 := n3_
          have HO1074 := n4_
          have HO1079 := n5_
          have HO1083 := n6_
          have HO1088 := n7_
          have BK1060 := n8_
          have BK1061 := n9_
          have HB := n10_
          clear n0_ n1_ n2_ n3_ n4_ n5_ n6_ n7_ n8_ n9_ n10_
          (try clear hb)
          (try clear hb2)
          (try clear hk)
          (try clear hi)
          (try clear ho0)
          refine hK.out _ _ ⟨(blk_cell BK1060.out 0).trans rfl, (blk_cell BK1060.out 1).trans rfl, (blk_cell BK1061.out 0).trans rfl, (blk_cell BK1061.out 1).trans rfl⟩ (fun hHeld => ?_)
          clear hK K
          refine norm_ (a' := ?_) ?_ ?_
          rotate_left
          · show Act.put _ (some 32) _ = _
            simp only [Act.put, zSa, zSb, zSc, i64_w, i32_w]
            rfl
          refine one_ (i := 22) (N := some 35) #[true, true, true, true, true, true, true, true, true, true, true, true, true, true, true, true, true, true, true, true, true, true, true, false, false, false, false, false, false] rfl rfl (one_of HT_.out (by kernel_rfl)) (by decide) (fun K hK => ?_)
          refine goes_ Tryd.func22 (by kernel_rfl) rfl #[.agg #[.bool a0_0, .slice A0_1 l0_1.length c0_1], .agg #[.bool a1_0, .slice A1_1 l1_1.length c1_1]] (by rfl) rfl rfl (by (try simp only [List.map_toArray, List.map_cons, List.map_nil]); first | done | rfl | (simp only [zLd, zLt]; rfl)) ?_
          with_reducible refine (filigreeref02_Mul.calls k a0_0 _ _ l0_1 a1_0 _ _ l1_1 t1089 t1090 _ ?side1 ?side2 ?side3 ?side4 A14.out).mono ?_
          (case side1 => repeat (first | exact (Kd.V_reads' HO0_1.out).2.2 | (with_reducible refine zCa ?_ _) | (with_reducible refine zCn ?_ _) | (with_reducible refine zCd ?_)))
          (case side2 => exact (Kd.V_reads' HO0_1.out).2.1)
          (case side3 => repeat (first | exact (Kd.V_reads' HO1_1.out).2.2 | (with_reducible refine zCa ?_ _) | (with_reducible refine zCn ?_ _) | (with_reducible refine zCd ?_)))
          (case side4 => exact (Kd.V_reads' HO1_1.out).2.1)
          rintro e w38 ⟨v1091, rfl, ho0, hb⟩
          refine ⟨_, rfl, ?_⟩
          have n0_ := zMk (Kd.V_elder' (by (with_reducible repeat (first | apply zVa | apply zVn | apply zVd)); exact HO0_1.out) (Kd.R_base ho0) hb)
          have n1_ := zMk (Kd.V_elder' (by (with_reducible repeat (first | apply zVa | apply zVn | apply zVd)); exact HO1_1.out) (Kd.R_base ho0) hb)
          have n2_ := zMk (Kd.N_elder' (by (with_reducible repeat (first | apply Kd.N_alloc | apply Kd.N_drewN | apply Kd.N_drew)); exact HO1064.out) (Kd.R_base ho0) hb)
          have n3_ := zMk (Kd.R_elder' (by (with_reducible repeat (first | apply zRa | apply zRn | apply zRd)); exact HO1070.out) (Kd.R_base ho0) hb)
          have n4_ := zMk (Kd.R_elder' (by (with_reducible repeat (first | apply zRa | apply zRn | apply zRd)); exact HO1074.out) (Kd.R_base ho0) hb)
          have n5_ := zMk (Kd.R_elder' (by (with_reducible repeat (first | apply zRa | apply zRn | apply zRd)); exact HO1079.out) (Kd.R_base ho0) hb)
          have n6_ := zMk (Kd.R_elder' (by (with_reducible repeat (first | apply zRa | apply zRn | apply zRd)); exact HO1083.out) (Kd.R_base ho0) hb)
          have n7_ := zMk (Kd.R_elder' (by (with_reducible repeat (first | apply zRa | apply zRn | apply zRd)); exact HO1088.out) (Kd.R_base ho0) hb)
          have n8_ := zMk (Kd.R_lower (Kd.R_new' (Kd.R_new' (Kd.R_new' (Kd.R_new' (Kd.R_new' (Kd.R_newM (M := fun k_ => (w.heap.size ≤ k_)) ho0 (zBs (by repeat (first | (with_reducible first | exact HB.out | apply zBa | apply zBn | apply zBd | refine below_set ?_ GE1060.out | refine below_set ?_ GE1061.out) | exact HB.out))) (fun k_ h_ => h_)) (Kd.R_lt (by (with_reducible repeat (first | apply zRa | apply zRn | apply zRd)); exact HO1070.out))) (Kd.R_lt (by (with_reducible repeat (first | apply zRa | apply zRn | apply zRd)); exact HO1074.out))) (Kd.R_lt (by (with_reducible repeat (first | apply zRa | apply zRn | apply zRd)); exact HO1079.out))) (Kd.R_lt (by (with_reducible repeat (first | apply zRa | apply zRn | apply zRd)); exact HO1083.out))) (Kd.R_lt (by (with_reducible repeat (first | apply zRa | apply zRn | apply zRd)); exact HO1088.out))) (zBs (by repeat (first | (with_reducible first | exact HB.out | apply zBa | apply zBn | apply zBd | refine below_set ?_ GE1060.out | refine below_set ?_ GE1061.out) | exact HB.out))))
          have n9_ := zMk (blk_below (g := gb1060) (o := .cells #[.bool a0_0, .slice A0_1 l0_1.length c0_1] 24 (0, 0)) (by (with_reducible repeat (first | refine blk_drewN ?_ _ | refine blk_drew ?_ | refine blk_alloc ?_ _)); exact BK1060.out) hb)
          have n10_ := zMk (blk_below (g := gb1061) (o := .cells #[.bool a1_0, .slice A1_1 l1_1.length c1_1] 24 (0, 0)) (by (with_reducible repeat (first | refine blk_drewN ?_ _ | refine blk_drew ?_ | refine blk_alloc ?_ _)); exact BK1061.out) hb)
          have n11_ := zMk (zBt (by repeat (first | (with_reducible first | exact HB.out | apply zBa | apply zBn | apply zBd | refine below_set ?_ GE1060.out | refine below_set ?_ GE1061.out) | exact HB.out)) hb)
          clear HO0_1
          clear HO1_1
          clear HO1064
          clear HO1070
          clear HO1074
          clear HO1079
          clear HO1083
          clear HO1088
          clear BK1060
          clear BK1061
          clear HB
          have HO0_1 := n0_
          have HO1_1 := n1_
          have HO1064 := n2_
          have HO1070 := n3_
          have HO1074 := n4_
          have HO1079 := n5_
          have HO1083 := n6_
          have HO1088 := n7_
          have HO1092 := n8_
          have BK1060 := n9_
          have BK1061 := n10_
          have HB := n11_
          clear n0_ n1_ n2_ n3_ n4_ n5_ n6_ n7_ n8_ n9_ n10_ n11_
          (try clear hb)
          (try clear hb2)
          (try clear hk)
          (try clear hi)
          (try clear ho0)
          obtain ⟨Ao39, co39, eo39⟩ := Kd.R_slice HO1088.out
          (first | subst eo39 | (injection eo39 with f1_ f2_ f3_; have f4_ := f1_.symm; have f5_ := f3_.symm; clear f1_ f2_ f3_; subst f4_; subst f5_))
          obtain ⟨Ao40, co40, eo40⟩ := Kd.R_slice HO1092.out
          (first | subst eo40 | (injection eo40 with f1_ f2_ f3_; have f4_ := f1_.symm; have f5_ := f3_.symm; clear f1_ f2_ f3_; subst f4_; subst f5_))
          refine hK.out _ _ ⟨(blk_cell BK1060.out 0).trans rfl, (blk_cell BK1060.out 1).trans rfl, (blk_cell BK1061.out 0).trans rfl, (blk_cell BK1061.out 1).trans rfl⟩ (fun hHeld => ?_)
          clear hK K
          refine norm_ (a' := ?_) ?_ ?_
          rotate_left
          · show Act.put _ (some 35) _ = _
            simp only [Act.put, zSa, zSb, zSc, i64_w, i32_w]
            rfl
          refine one_ (i := 23) (N := some 36) #[true, true, true, true, true, true, true, true, true, true, true, true, true, true, true, true, true, true, true, true, true, true, true, true, false, false, false, false, false] rfl rfl (one_of HT_.out (by kernel_rfl)) (by decide) (fun K hK => ?_)
          refine goes_ Tryd.func16 (by kernel_rfl) rfl #[.agg #[.bool t1085, .slice Ao39 t1086.length co39], .agg #[.bool t1089, .slice Ao40 t1090.length co40]] (by rfl) rfl rfl (by (try simp only [List.map_toArray, List.map_cons, List.map_nil]); first | done | rfl | (simp only [zLd, zLt]; rfl)) ?_
          with_reducible refine (filigreeref02_Same.calls k t1085 _ _ t1086 t1089 _ _ t1090 true _ ?side1 ?side2 ?side3 ?side4 A15.out).mono ?_
          (case side1 => repeat (first | exact (Kd.R_reads' HO1088.out).2.2 | (with_reducible refine zCa ?_ _) | (with_reducible refine zCn ?_ _) | (with_reducible refine zCd ?_)))
          (case side2 => exact (Kd.R_reads' HO1088.out).2.1)
          (case side3 => repeat (first | exact (Kd.R_reads' HO1092.out).2.2 | (with_reducible refine zCa ?_ _) | (with_reducible refine zCn ?_ _) | (with_reducible refine zCd ?_)))
          (case side4 => exact (Kd.R_reads' HO1092.out).2.1)
          rintro e w41 ⟨rfl, hb⟩
          refine ⟨_, rfl, ?_⟩
          have n0_ := zMk (zVb (by (with_reducible repeat (first | apply zVa | apply zVn | apply zVd)); exact HO0_1.out) hb)
          have n1_ := zMk (zVb (by (with_reducible repeat (first | apply zVa | apply zVn | apply zVd)); exact HO1_1.out) hb)
          have n2_ := zMk (Kd.N_below (by (with_reducible repeat (first | apply Kd.N_alloc | apply Kd.N_drewN | apply Kd.N_drew)); exact HO1064.out) hb)
          have n3_ := zMk (Kd.R_below (by (with_reducible repeat (first | apply zRa | apply zRn | apply zRd)); exact HO1070.out) hb)
          have n4_ := zMk (Kd.R_below (by (with_reducible repeat (first | apply zRa | apply zRn | apply zRd)); exact HO1074.out) hb)
          have n5_ := zMk (Kd.R_below (by (with_reducible repeat (first | apply zRa | apply zRn | apply zRd)); exact HO1079.out) hb)
          have n6_ := zMk (Kd.R_below (by (with_reducible repeat (first | apply zRa | apply zRn | apply zRd)); exact HO1083.out) hb)
          have n7_ := zMk (Kd.R_below (by (with_reducible repeat (first | apply zRa | apply zRn | apply zRd)); exact HO1088.out) hb)
          have n8_ := zMk (Kd.R_below (by (with_reducible repeat (first | apply zRa | apply zRn | apply zRd)); exact HO1092.out) hb)
          have n9_ := zMk (blk_below (g := gb1060) (o := .cells #[.bool a0_0, .slice A0_1 l0_1.length c0_1] 24 (0, 0)) (by (with_reducible repeat (first | refine blk_drewN ?_ _ | refine blk_drew ?_ | refine blk_alloc ?_ _)); exact BK1060.out) hb)
          have n10_ := zMk (blk_below (g := gb1061) (o := .cells #[.bool a1_0, .slice A1_1 l1_1.length c1_1] 24 (0, 0)) (by (with_reducible repeat (first | refine blk_drewN ?_ _ | refine blk_drew ?_ | refine blk_alloc ?_ _)); exact BK1061.out) hb)
          have n11_ := zMk (zBt (by repeat (first | (with_reducible first | exact HB.out | apply zBa | apply zBn | apply zBd | refine below_set ?_ GE1060.out | refine below_set ?_ GE1061.out) | exact HB.out)) hb)
          clear HO0_1
          clear HO1_1
          clear HO1064
          clear HO1070
          clear HO1074
          clear HO1079
          clear HO1083
          clear HO1088
          clear HO1092
          clear BK1060
          clear BK1061
          clear HB
          have HO0_1 := n0_
          have HO1_1 := n1_
          have HO1064 := n2_
          have HO1070 := n3_
          have HO1074 := n4_
          have HO1079 := n5_
          have HO1083 := n6_
          have HO1088 := n7_
          have HO1092 := n8_
          have BK1060 := n9_
          have BK1061 := n10_
          have HB := n11_
          clear n0_ n1_ n2_ n3_ n4_ n5_ n6_ n7_ n8_ n9_ n10_ n11_
          (try clear hb)
          (try clear hb2)
          (try clear hk)
          (try clear hi)
          refine hK.out _ _ ⟨(blk_cell BK1060.out 0).trans rfl, (blk_cell BK1060.out 1).trans rfl, (blk_cell BK1061.out 0).trans rfl, (blk_cell BK1061.out 1).trans rfl⟩ (fun hHeld => ?_)
          clear hK K
          refine norm_ (a' := ?_) ?_ ?_
          rotate_left
          · show Act.put _ (some 36) _ = _
            simp only [Act.put, zSa, zSb, zSc, i64_w, i32_w]
            rfl
          refine pure_ (i := 24) (N := some 37) (v := ?_) (a' := ?_) #[true, true, true, true, true, true, true, true, true, true, true, true, true, true, true, true, true, true, true, true, true, true, true, true, true, false, false, false, false] rfl rfl (any_of HT_.out (by kernel_rfl)) (fun _ _ _ h => h) (Or.inl ⟨by rfl, ?_⟩) ?_ ?_
          rotate_left
          · intro w'
            go_simp
            with_reducible rfl
          rotate_left
          · simp only [Act.put, zSa, zSb, zSc, i64_w, i32_w]
            rfl
          refine pure_ (i := 25) (N := some 38) (v := ?_) (a' := ?_) #[true, true, true, true, true, true, true, true, true, true, true, true, true, true, true, true, true, true, true, true, true, true, true, true, true, true, false, false, false] rfl rfl (any_of HT_.out (by kernel_rfl)) (fun _ _ _ h => h) (Or.inl ⟨by rfl, ?_⟩) ?_ ?_
          rotate_left
          · intro w'
            go_simp
            with_reducible rfl
          rotate_left
          · simp only [Act.put, zSa, zSb, zSc, i64_w, i32_w]
            rfl
          refine one_ (i := 26) (N := some 39) #[true, true, true, true, true, true, true, true, true, true, true, true, true, true, true, true, true, true, true, true, true, true, true, true, true, true, true, false, false] rfl rfl (one_of HT_.out (by kernel_rfl)) (by decide) (fun K hK => ?_)
          refine goes_ Tryd.func11 (by kernel_rfl) rfl #[] (by rfl) rfl rfl (by (try simp only [List.map_toArray, List.map_cons, List.map_nil]); first | done | rfl | (simp only [zLd, zLt]; rfl)) ?_
          with_reducible refine (filigreelaw02_alive.calls k  t1094 _ A17.out HRT.out).mono ?_
          rintro e w42 ⟨rfl, hb⟩
          refine ⟨_, rfl, ?_⟩
          have n0_ := zMk (zVb (by (with_reducible repeat (first | apply zVa | apply zVn | apply zVd)); exact HO0_1.out) hb)
          have n1_ := zMk (zVb (by (with_reducible repeat (first | apply zVa | apply zVn | apply zVd)); exact HO1_1.out) hb)
          have n2_ := zMk (Kd.N_below (by (with_reducible repeat (first | apply Kd.N_alloc | apply Kd.N_drewN | apply Kd.N_drew)); exact HO1064.out) hb)
          have n3_ := zMk (Kd.R_below (by (with_reducible repeat (first | apply zRa | apply zRn | apply zRd)); exact HO1070.out) hb)
          have n4_ := zMk (Kd.R_below (by (with_reducible repeat (first | apply zRa | apply zRn | apply zRd)); exact HO1074.out) hb)
          have n5_ := zMk (Kd.R_below (by (with_reducible repeat (first | apply zRa | apply zRn | apply zRd)); exact HO1079.out) hb)
          have n6_ := zMk (Kd.R_below (by (with_reducible repeat (first | apply zRa | apply zRn | apply zRd)); exact HO1083.out) hb)
          have n7_ := zMk (Kd.R_below (by (with_reducible repeat (first | apply zRa | apply zRn | apply zRd)); exact HO1088.out) hb)
          have n8_ := zMk (Kd.R_below (by (with_reducible repeat (first | apply zRa | apply zRn | apply zRd)); exact HO1092.out) hb)
          have n9_ := zMk (blk_below (g := gb1060) (o := .cells #[.bool a0_0, .slice A0_1 l0_1.length c0_1] 24 (0, 0)) (by (with_reducible repeat (first | refine blk_drewN ?_ _ | refine blk_drew ?_ | refine blk_alloc ?_ _)); exact BK1060.out) hb)
          have n10_ := zMk (blk_below (g := gb1061) (o := .cells #[.bool a1_0, .slice A1_1 l1_1.length c1_1] 24 (0, 0)) (by (with_reducible repeat (first | refine blk_drewN ?_ _ | refine blk_drew ?_ | refine blk_alloc ?_ _)); exact BK1061.out) hb)
          have n11_ := zMk (zBt (by repeat (first | (with_reducible first | exact HB.out | apply zBa | apply zBn | apply zBd | refine below_set ?_ GE1060.out | refine below_set ?_ GE1061.out) | exact HB.out)) hb)
          clear HO0_1
          clear HO1_1
          clear HO1064
          clear HO1070
          clear HO1074
          clear HO1079
          clear HO1083
          clear HO1088
          clear HO1092
          clear BK1060
          clear BK1061
          clear HB
          have HO0_1 := n0_
          have HO1_1 := n1_
          have HO1064 := n2_
          have HO1070 := n3_
          have HO1074 := n4_
          have HO1079 := n5_
          have HO1083 := n6_
          have HO1088 := n7_
          have HO1092 := n8_
          have BK1060 := n9_
          have BK1061 := n10_
          have HB := n11_
          clear n0_ n1_ n2_ n3_ n4_ n5_ n6_ n7_ n8_ n9_ n10_ n11_
          (try clear hb)
          (try clear hb2)
          (try clear hk)
          (try clear hi)
          refine hK.out _ _ ⟨(blk_cell BK1060.out 0).trans rfl, (blk_cell BK1060.out 1).trans rfl, (blk_cell BK1061.out 0).trans rfl, (blk_cell BK1061.out 1).trans rfl⟩ (fun hHeld => ?_)
          clear hK K
          refine norm_ (a' := ?_) ?_ ?_
          rotate_left
          · show Act.put _ (some 39) _ = _
            simp only [Act.put, zSa, zSb, zSc, i64_w, i32_w]
            rfl
          refine pure_ (i := 27) (N := some 40) (v := ?_) (a' := ?_) #[true, true, true, true, true, true, true, true, true, true, true, true, true, true, true, true, true, true, true, true, true, true, true, true, true, true, true, true, false] rfl rfl (any_of HT_.out (by kernel_rfl)) (fun _ _ _ h => h) (Or.inl ⟨by rfl, ?_⟩) ?_ ?_
          rotate_left
          · intro w'
            go_simp
            with_reducible rfl
          rotate_left
          · simp only [Act.put, zSa, zSb, zSc, i64_w, i32_w]
            rfl
          refine pure_ (i := 28) (N := some 4) (v := ?_) (a' := ?_) #[true, true, true, true, true, true, true, true, true, true, true, true, true, true, true, true, true, true, true, true, true, true, true, true, true, true, true, true, true] rfl rfl (any_of HT_.out (by kernel_rfl)) (fun _ _ _ h => h) (Or.inl ⟨by rfl, ?_⟩) ?_ ?_
          rotate_left
          · intro w'
            go_simp
            with_reducible rfl
          rotate_left
          · simp only [Act.put, zSa, zSb, zSc, i64_w, i32_w]
            rfl
          refine done_ (done_of HT_.out (by kernel_rfl)) ?_
          try go_wp2
          go_ret
          exact ⟨by first | rfl | (simp [errW_none, errW_some] <;> rfl) | (simp [*, errW_none, errW_some] <;> rfl), by repeat (first | (with_reducible first | exact HB.out | apply zBa | apply zBn | apply zBd | refine below_set ?_ GE1060.out | refine below_set ?_ GE1061.out) | exact HB.out)⟩
        · replace c16 := Bool.eq_false_iff.mpr c16
          subst c16
          have H1 : (some false) = some r := by rw [if_neg (show ¬ (false = true) by decide)] at H; exact H
          clear H
          have H := H1
          clear H1
          exact absurd ((zOi H).trans HRT.out) (by decide)
      · replace c12 := Bool.eq_false_iff.mpr c12
        subst c12
        have H1 : (some false) = some r := by rw [if_neg (show ¬ (false = true) by decide)] at H; exact H
        clear H
        have H := H1
        clear H1
        exact absurd ((zOi H).trans HRT.out) (by decide)
    · replace c8 := Bool.eq_false_iff.mpr c8
      subst c8
      have H1 : (some false) = some r := by rw [if_neg (show ¬ (false = true) by decide)] at H; exact H
      clear H
      have H := H1
      clear H1
      exact absurd ((zOi H).trans HRT.out) (by decide)
  · replace c4 := Bool.eq_false_iff.mpr c4
    subst c4
    have H1 : ((filigreelaw02_alive.f k).bind fun t1066 => (some t1066)) = some r := by rw [if_neg (show ¬ (false = true) by decide)] at H; exact H
    clear H
    have H := H1
    clear H1
    replace H := Option.bind_eq_some_iff.mp H
    obtain ⟨t1066, A1000, H⟩ := H
    have A100 := zMk A1000
    clear A1000
    obtain rfl := zOi H
    go_enter Tryd.func4, Tryd.ntmps4
    go_wp2_with (first | ((with_reducible refine gate_dst (N := 2) rfl ?_); refine box_event ?hg (N := 2) ?hd (cs := #[.bool a0_0, .slice A0_1 l0_1.length c0_1]) (t := 24) ?hr ?_; (case hd => rfl); (case hg => rfl); (case hr => first | (go_simp; done) | (go_simp; rfl) | (go_simp; rw [show ∀ x : Int, IntKind.u32.wrap (IntKind.u8.wrap x) = x % 256 from fun x => (by show (x % 256) % 4294967296 = x % 256; omega)])); intro gb1060 hg w101 hbox hb; have n0_ := zMk (zVb (Kd.V_elderB (by (with_reducible repeat (first | apply zVa | apply zVn | apply zVd)); exact HO0_1.out) gb1060 (Nat.le_of_eq hg.symm)) hb); have n1_ := zMk (zVb (Kd.V_elderB (by (with_reducible repeat (first | apply zVa | apply zVn | apply zVd)); exact HO1_1.out) gb1060 (Nat.le_of_eq hg.symm)) hb); have n2_ := zMk (zBt (by repeat (first | (with_reducible first | exact HB.out | apply zBa | apply zBn | apply zBd) | exact HB.out)) hb); have n3_ := zMk (hbox); have n4_ := zMk ((by rw [hg]; exact (zBs (by repeat (first | (with_reducible first | exact HB.out | apply zBa | apply zBn | apply zBd) | exact HB.out))) : w.heap.size ≤ gb1060)); have n5_ := zMk ((by rw [hg]; exact (zBs (by repeat (first | (with_reducible first | exact HB.out | apply zBa | apply zBn | apply zBd) | exact HB.out))) : w.heap.size ≤ gb1060)); clear HO0_1; clear HO1_1; clear HB; have HO0_1 := n0_; have HO1_1 := n1_; have HB := n2_; have BK1060 := n3_; have GW1060 := n4_; have GE1060 := n5_; clear n0_ n1_ n2_ n3_ n4_ n5_; clear hb hbox hg) | ((with_reducible refine gate_dst (N := 3) rfl ?_); refine box_event ?hg (N := 3) ?hd (cs := #[.bool a1_0, .slice A1_1 l1_1.length c1_1]) (t := 24) ?hr ?_; (case hd => rfl); (case hg => rfl); (case hr => first | (go_simp; done) | (go_simp; rfl) | (go_simp; rw [show ∀ x : Int, IntKind.u32.wrap (IntKind.u8.wrap x) = x % 256 from fun x => (by show (x % 256) % 4294967296 = x % 256; omega)])); intro gb1061 hg w102 hbox hb; have n0_ := zMk (zVb (Kd.V_elderB (by (with_reducible repeat (first | apply zVa | apply zVn | apply zVd)); exact HO0_1.out) gb1061 (Nat.le_of_eq hg.symm)) hb); have n1_ := zMk (zVb (Kd.V_elderB (by (with_reducible repeat (first | apply zVa | apply zVn | apply zVd)); exact HO1_1.out) gb1061 (Nat.le_of_eq hg.symm)) hb); have n2_ := zMk (blk_below (g := gb1060) (o := .cells #[.bool a0_0, .slice A0_1 l0_1.length c0_1] 24 (0, 0)) (by (with_reducible repeat (first | refine blk_drewN ?_ _ | refine blk_drew ?_ | refine blk_alloc ?_ _)); exact BK1060.out) hb); have n3_ := zMk (zBt (by repeat (first | (with_reducible first | exact HB.out | apply zBa | apply zBn | apply zBd | refine below_set ?_ GE1060.out) | exact HB.out)) hb); have n4_ := zMk (hbox); have n5_ := zMk ((by rw [hg]; exact (zBs (by repeat (first | (with_reducible first | exact HB.out | apply zBa | apply zBn | apply zBd | refine below_set ?_ GE1060.out) | exact HB.out))) : w.heap.size ≤ gb1061)); have n6_ := zMk ((by rw [hg]; exact (zBs (by repeat (first | (with_reducible first | exact HB.out | apply zBa | apply zBn | apply zBd | refine below_set ?_ GE1060.out) | exact HB.out))) : w.heap.size ≤ gb1061)); have n7_ := zMk ((by rw [hg]; exact Nat.ne_of_lt (blk_lt (g := gb1060) (o := .cells #[.bool a0_0, .slice A0_1 l0_1.length c0_1] 24 (0, 0)) (by (with_reducible repeat (first | refine blk_drewN ?_ _ | refine blk_drew ?_ | refine blk_alloc ?_ _)); exact BK1060.out)) : gb1060 ≠ gb1061)); have n8_ := zMk ((by rw [hg]; exact Nat.ne_of_gt (blk_lt (g := gb1060) (o := .cells #[.bool a0_0, .slice A0_1 l0_1.length c0_1] 24 (0, 0)) (by (with_reducible repeat (first | refine blk_drewN ?_ _ | refine blk_drew ?_ | refine blk_alloc ?_ _)); exact BK1060.out)) : gb1061 ≠ gb1060)); clear HO0_1; clear HO1_1; clear BK1060; clear HB; have HO0_1 := n0_; have HO1_1 := n1_; have BK1060 := n2_; have HB := n3_; have BK1061 := n4_; have GW1061 := n5_; have GE1061 := n6_; have NB1060_1061 := n7_; have NB1061_1060 := n8_; clear n0_ n1_ n2_ n3_ n4_ n5_ n6_ n7_ n8_; clear hb hbox hg; have hnb103 := NB1060_1061.out; have hnc103 := NB1061_1060.out; have hcz104_0 : w102.cell? ⟨gb1060, 0, none⟩ = some (.bool a0_0) := (blk_cell BK1060.out 0).trans rfl; have hcz104_1 : w102.cell? ⟨gb1060, 1, none⟩ = some (.slice A0_1 l0_1.length c0_1) := (blk_cell BK1060.out 1).trans rfl; have hfz104_0 := blk_frozen BK1060.out 0; have hfz104_1 := blk_frozen BK1060.out 1; have hcz105_0 : w102.cell? ⟨gb1061, 0, none⟩ = some (.bool a1_0) := (blk_cell BK1061.out 0).trans rfl; have hcz105_1 : w102.cell? ⟨gb1061, 1, none⟩ = some (.slice A1_1 l1_1.length c1_1) := (blk_cell BK1061.out 1).trans rfl; have hfz105_0 := blk_frozen BK1061.out 0; have hfz105_1 := blk_frozen BK1061.out 1) | ((with_reducible refine gate_dst (N := 9) rfl ?_); refine Kd.N_lit (Kd.slice 58 (Kd.int .u32)) _ 22 ?hg (N' := 9) ?hd (xs := ([l0_1, l1_1] : List (List Int))) (inner := [.slice A0_1 l0_1.length c0_1, .slice A1_1 l1_1.length c1_1]) (ok := (fun k_ => ((P0_1_ k_ ∨ P1_1_ k_) ∨ w.heap.size ≤ k_) ∧ k_ ≠ gb1060 ∧ k_ ≠ gb1061)) (okp := (fun k_ => ((P0_1_ k_ ∨ P1_1_ k_) ∨ w.heap.size ≤ k_) ∧ k_ ≠ gb1060 ∧ k_ ≠ gb1061)) ?hr ?hp (fun _ hk => hk) ((show ∀ k_, w102.heap.size ≤ k_ → (fun k_ => ((P0_1_ k_ ∨ P1_1_ k_) ∨ w.heap.size ≤ k_) ∧ k_ ≠ gb1060 ∧ k_ ≠ gb1061) k_ from fun k_ hk => ⟨(.inr (Nat.le_trans (zBs (by repeat (first | (with_reducible first | exact HB.out | apply zBa | apply zBn | apply zBd | refine below_set ?_ GE1060.out | refine below_set ?_ GE1061.out) | exact HB.out))) hk)), Kd.freshB (g := gb1060) (o := .cells #[.bool a0_0, .slice A0_1 l0_1.length c0_1] 24 (0, 0)) (by (with_reducible repeat (first | refine blk_drewN ?_ _ | refine blk_drew ?_ | refine blk_alloc ?_ _)); exact BK1060.out) k_ hk, Kd.freshB (g := gb1061) (o := .cells #[.bool a1_0, .slice A1_1 l1_1.length c1_1] 24 (0, 0)) (by (with_reducible repeat (first | refine blk_drewN ?_ _ | refine blk_drew ?_ | refine blk_alloc ?_ _)); exact BK1061.out) k_ hk⟩) _ (Nat.le_refl _)) (Below.refl _ _) (Nat.le_refl _) (by simp) ?_; (case hd => rfl); (case hg => rfl); (case hr => first | (go_simp; done) | (go_simp; rfl) | (go_simp; rw [show ∀ x : Int, IntKind.u32.wrap (IntKind.u8.wrap x) = x % 256 from fun x => (by show (x % 256) % 4294967296 = x % 256; omega)])); (case hp => exact (Reps.one (show Kd.FK (Kd.slice 58 (Kd.int .u32)) _ _ l0_1 [.slice A0_1 l0_1.length c0_1] from (Kd.FK_slice_mk (Kd.V_reads' (zVm (ok' := (fun k_ => ((P0_1_ k_ ∨ P1_1_ k_) ∨ w.heap.size ≤ k_) ∧ k_ ≠ gb1060 ∧ k_ ≠ gb1061)) (HO0_1.out) (fun k_ hk => ⟨hk.1.1, ⟨hk.1.2, hk.2⟩⟩))).2.1 (Kd.V_F (zVm (ok' := (fun k_ => ((P0_1_ k_ ∨ P1_1_ k_) ∨ w.heap.size ≤ k_) ∧ k_ ≠ gb1060 ∧ k_ ≠ gb1061)) (HO0_1.out) (fun k_ hk => ⟨hk.1.1, ⟨hk.1.2, hk.2⟩⟩))))) (Reps.one (show Kd.FK (Kd.slice 58 (Kd.int .u32)) _ _ l1_1 [.slice A1_1 l1_1.length c1_1] from (Kd.FK_slice_mk (Kd.V_reads' (zVm (ok' := (fun k_ => ((P0_1_ k_ ∨ P1_1_ k_) ∨ w.heap.size ≤ k_) ∧ k_ ≠ gb1060 ∧ k_ ≠ gb1061)) (HO1_1.out) (fun k_ hk => ⟨hk.1.1, ⟨hk.1.2, hk.2⟩⟩))).2.1 (Kd.V_F (zVm (ok' := (fun k_ => ((P0_1_ k_ ∨ P1_1_ k_) ∨ w.heap.size ≤ k_) ∧ k_ ≠ gb1060 ∧ k_ ≠ gb1061)) (HO1_1.out) (fun k_ hk => ⟨hk.1.1, ⟨hk.1.2, hk.2⟩⟩))))) (Reps.none _ _)))); intro v1063 w106 ho107 hb hg_ hnew_; clear hg_ hnew_; (first | rw [← Ny1062.out] at ho107 | (simp only [Int.reduceToNat] at ho107; rw [← Ny1062.out] at ho107)); have n0_ := zMk (Kd.V_elder' (by (with_reducible repeat (first | apply zVa | apply zVn | apply zVd)); exact HO0_1.out) (Kd.N_base ho107) hb); have n1_ := zMk (Kd.V_elder' (by (with_reducible repeat (first | apply zVa | apply zVn | apply zVd)); exact HO1_1.out) (Kd.N_base ho107) hb); have n2_ := zMk (Kd.N_lower ho107 (zBs (by repeat (first | (with_reducible first | exact HB.out | apply zBa | apply zBn | apply zBd | refine below_set ?_ GE1060.out | refine below_set ?_ GE1061.out) | exact HB.out)))); have n3_ := zMk (blk_below (g := gb1060) (o := .cells #[.bool a0_0, .slice A0_1 l0_1.length c0_1] 24 (0, 0)) (by (with_reducible repeat (first | refine blk_drewN ?_ _ | refine blk_drew ?_ | refine blk_alloc ?_ _)); exact BK1060.out) hb); have n4_ := zMk (blk_below (g := gb1061) (o := .cells #[.bool a1_0, .slice A1_1 l1_1.length c1_1] 24 (0, 0)) (by (with_reducible repeat (first | refine blk_drewN ?_ _ | refine blk_drew ?_ | refine blk_alloc ?_ _)); exact BK1061.out) hb); have n5_ := zMk (zBt (by repeat (first | (with_reducible first | exact HB.out | apply zBa | apply zBn | apply zBd | refine below_set ?_ GE1060.out | refine below_set ?_ GE1061.out) | exact HB.out)) hb); clear HO0_1; clear HO1_1; clear BK1060; clear BK1061; clear HB; have HO0_1 := n0_; have HO1_1 := n1_; have HO1064 := n2_; have BK1060 := n3_; have BK1061 := n4_; have HB := n5_; clear n0_ n1_ n2_ n3_ n4_ n5_; clear hb ho107; obtain ⟨Ao108, co108, eo108⟩ := Kd.N_slice HO1064.out; subst eo108) | ((with_reducible refine gate_callee (f := 10) rfl ?_); refine goesL_ (some 10) rfl rfl Tryd.func10 (by kernel_rfl) rfl #[.slice Ao108 y1062.length co108] rfl (by (try simp only [List.map_toArray, List.map_cons, List.map_nil]); first | done | rfl | (simp only [zLd, zLt]; rfl)) ?_; (with_reducible refine (w1_Light.calls k _ _ y1062 false _ ?side1 ?side2 A3.out).mono ?_); (case side1 => repeat (first | exact (Kd.N_reads' HO1064.out).2.2 | (with_reducible refine zCa ?_ _) | (with_reducible refine zCn ?_ _) | (with_reducible refine zCd ?_))); (case side2 => exact (Kd.N_reads' HO1064.out).2.1); rintro e w' ⟨rfl, ⟨nd, rfl⟩⟩; refine ⟨_, rfl, ?_⟩) | ((with_reducible refine gate_callee (f := 11) rfl ?_); refine goesL_ (some 12) rfl rfl Tryd.func11 (by kernel_rfl) rfl #[] rfl (by (try simp only [List.map_toArray, List.map_cons, List.map_nil]); first | done | rfl | (simp only [zLd, zLt]; rfl)) ?_; (with_reducible refine (filigreelaw02_alive.calls k  t1066 _ A100.out HRT.out).mono ?_); rintro e w109 ⟨rfl, hb⟩; refine ⟨_, rfl, ?_⟩; have n0_ := zMk (zVb (by (with_reducible repeat (first | apply zVa | apply zVn | apply zVd)); exact HO0_1.out) hb); have n1_ := zMk (zVb (by (with_reducible repeat (first | apply zVa | apply zVn | apply zVd)); exact HO1_1.out) hb); have n2_ := zMk (Kd.N_below (by (with_reducible repeat (first | apply Kd.N_alloc | apply Kd.N_drewN | apply Kd.N_drew)); exact HO1064.out) hb); have n3_ := zMk (blk_below (g := gb1060) (o := .cells #[.bool a0_0, .slice A0_1 l0_1.length c0_1] 24 (0, 0)) (by (with_reducible repeat (first | refine blk_drewN ?_ _ | refine blk_drew ?_ | refine blk_alloc ?_ _)); exact BK1060.out) hb); have n4_ := zMk (blk_below (g := gb1061) (o := .cells #[.bool a1_0, .slice A1_1 l1_1.length c1_1] 24 (0, 0)) (by (with_reducible repeat (first | refine blk_drewN ?_ _ | refine blk_drew ?_ | refine blk_alloc ?_ _)); exact BK1061.out) hb); have n5_ := zMk (zBt (by repeat (first | (with_reducible first | exact HB.out | apply zBa | apply zBn | apply zBd | refine below_set ?_ GE1060.out | refine below_set ?_ GE1061.out) | exact HB.out)) hb); clear HO0_1; clear HO1_1; clear HO1064; clear BK1060; clear BK1061; clear HB; have HO0_1 := n0_; have HO1_1 := n1_; have HO1064 := n2_; have BK1060 := n3_; have BK1061 := n4_; have HB := n5_; clear n0_ n1_ n2_ n3_ n4_ n5_; (try clear hb); (try clear hb2); (try clear hk); (try clear hi)))
    go_ret
    exact ⟨by first | rfl | (simp [errW_none, errW_some] <;> rfl) | (simp [*, errW_none, errW_some] <;> rfl), by repeat (first | (with_reducible first | exact HB.out | apply zBa | apply zBn | apply zBd | refine below_set ?_ GE1060.out | refine below_set ?_ GE1061.out) | exact HB.out)⟩

/-- What the walk leaves: a statement of plain lists and numbers. -/
def filigreelaw02_IntegerSums.Pure : Prop := ∀ (a0_0 : Bool) (l0_1 : List Int) (a1_0 : Bool) (l1_1 : List Int), l0_1.length ≤ maxLen → (∀ x ∈ l0_1, (Lit.int .u32 x).wf = true) → l1_1.length ≤ maxLen → (∀ x ∈ l1_1, (Lit.int .u32 x).wf = true) → ∃ k, filigreelaw02_IntegerSums.f k a0_0 l0_1 a1_0 l1_1 = some true
/- The plain law of IntegerSums. -/
theorem pure_IntegerSums : filigreelaw02_IntegerSums.Pure := by
  intro a x b y m1 h1 m2 h2
  have X := limbs_of_wf h1
  have Y := limbs_of_wf h2
  obtain ⟨k, hk⟩ : ∃ k : Nat, k = 1000000 := ⟨_, rfl⟩
  refine ⟨k, ?_⟩
  unfold filigreelaw02_IntegerSums.f
  rw [light2 x y m1 m2 k (by omega), zOb]
  by_cases hL : x.length ≤ 12 ∧ y.length ≤ 12
  · rw [decide_eq_true hL, if_pos rfl]
    obtain ⟨p1, q1, e1, i1, l1⟩ := iadd_f a b x y X Y (by omega) (by omega) k (by omega)
    obtain ⟨p2, q2, e2, i2, _⟩ := riadd_f a b x y X Y (by omega) (by omega) k (by omega)
    obtain ⟨rfl, rfl⟩ := i1.unique i2
    obtain ⟨p3, q3, e3, i3, l3⟩ := isub_f a b x y X Y (by omega) (by omega) k (by omega)
    obtain ⟨p4, q4, e4, i4, _⟩ := risub_f a b x y X Y (by omega) (by omega) k (by omega)
    obtain ⟨rfl, rfl⟩ := i3.unique i4
    obtain ⟨p5, q5, e5, i5, l5⟩ := imul_f a b x y X Y (by omega) (by omega) k (by omega)
    obtain ⟨p6, q6, e6, i6, _⟩ := rimul_f a b x y X Y (by omega) (by omega) k (by omega)
    obtain ⟨rfl, rfl⟩ := i5.unique i6
    rw [e1, zOb, e2, zOb, isame_f p1 q1 (by omega) k (by omega), zOb, if_pos rfl]
    rw [e3, zOb, e4, zOb, isame_f p3 q3 (by omega) k (by omega), zOb, if_pos rfl]
    rw [e5, zOb, e6, zOb, isame_f p5 q5 (by omega) k (by omega), zOb, if_pos rfl, alive_f k (by omega)]
    rfl
  · rw [decide_eq_false hL, if_neg (by simp), alive_f k (by omega)]
    rfl
end Go.Proofs.YtnjmnicgknggfaaDoor.G
